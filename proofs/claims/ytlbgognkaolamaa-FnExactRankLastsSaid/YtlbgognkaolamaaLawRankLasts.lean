/-
  The law FnExactRankLasts: the program's RankLasts returns what the reference's returns; for all arguments, no condition.
-/
import Derived.Test.YtlbgognkaolamaaOpen
import Derived.Test.YtlbgognkaolamaaOpenS
import Derived.Test.YtlbgognkaolamaaOpenF
import Derived.Test.YtlbgognkaolamaaTo
import Derived.Test.YtlbgognkaolamaaRank
import Derived.Test.YtlbgognkaolamaaRankS
import Derived.Test.YtlbgognkaolamaaMark
import Derived.ProofKit
import Derived.OpenShut
import Derived.ShutString
import Derived.ChangeOld
import Derived.Deep.RegionHeld3
namespace Go.Proofs.Ytlbgognkaolamaa.lawRankLasts
open Go.ChangeShapes Go.WideShapes Go.ChangeAt Go.RowKit
set_option linter.unusedVariables false

set_option maxRecDepth 100000 in
set_option maxHeartbeats 6400000 in
theorem walk (A0 : Option Addr) (n0 m0 : Nat) (z0 : List LastD) (a1 b1 c1 d1 : Int) (a2 b2 c2 : Int) (A2 : Option Addr) (n2 m2 : Nat) (z2 : List Int) (w : World) (hr0 : Rd w 6 A0 n0 (lasts z0)) (hn0 : n0 ≤ 9223372036854775807) (hx0 : ∀ x ∈ z0, x.s.size ≤ maxLen) (hr2 : Rd w 1 A2 n2 (ints z2)) (hn2 : n2 ≤ 9223372036854775807) :
    Calls Try.prog 12 #[.slice A0 n0 m0, .agg #[.int .i64 a1, .int .i64 b1, .int .i64 c1, .int .i64 d1], .agg #[.int .i64 a2, .int .i64 b2, .int .i64 c2, .slice A2 n2 m2]] w fun e w' => e = .returned (.bool true) ∧ Below w.heap.size w w' := by
  have hlen : (rkR a2 b2 c2 z2 z0 ⟨a1, b1, c1, d1⟩).1.length ≤ 1048577 := rkR_len _ _ _ _ _ _
  go_enter Try.func12, Try.ntmps12
  have HW := Below.refl w.heap.size w
  go_wp2_with fail
  have BF := ((Blk.new w 57 #[.int .i64 a1, .int .i64 b1, .int .i64 c1, .int .i64 d1]).alloc (.cells #[.int .i64 a2, .int .i64 b2, .int .i64 c2, .slice A2 n2 m2] 50))
  have BQ := (Blk.new1 w (.cells #[.int .i64 a1, .int .i64 b1, .int .i64 c1, .int .i64 d1] 57) 50 #[.int .i64 a2, .int .i64 b2, .int .i64 c2, .slice A2 n2 m2])
  replace HW : Below w.heap.size w ((w.alloc (.cells #[.int .i64 a1, .int .i64 b1, .int .i64 c1, .int .i64 d1] 57)).alloc (.cells #[.int .i64 a2, .int .i64 b2, .int .i64 c2, .slice A2 n2 m2] 50)) := by go_grown
  generalize ((w.alloc (.cells #[.int .i64 a1, .int .i64 b1, .int .i64 c1, .int .i64 d1] 57)).alloc (.cells #[.int .i64 a2, .int .i64 b2, .int .i64 c2, .slice A2 n2 m2] 50)) = wA at *
  generalize w.heap.size + 1 = gA1 at *
  have zA := HW.size
  have kF := BF.cell
  have lF := BF.lt
  have kQ := BQ.cell
  have lQ := BQ.lt
  go_wp2_with fail
  refine (szLastS_any _ _ _ _ _ _ (hr0.below HW) hn0 hx0 (by omega) (by omega)).mono ?_
  rintro e w1 ⟨hb1, rfl | ⟨rL, rfl, ra, rb, rn⟩⟩
  · clear kF lF kQ lQ
    replace BF := BF.below hb1
    replace BQ := BQ.below hb1
    replace HW := Bl.then HW hb1
    have zw1 : wA.heap.size ≤ w1.heap.size := hb1.size
    have kF := BF.cell
    have lF := BF.lt
    have kQ := BQ.cell
    have lQ := BQ.lt
    go_wp2_with fail
    go_ret
    exact ⟨rfl, HW⟩
  clear kF lF kQ lQ
  replace BF := BF.below hb1
  replace BQ := BQ.below hb1
  replace HW := Bl.then HW hb1
  have zw1 : wA.heap.size ≤ w1.heap.size := hb1.size
  have kF := BF.cell
  have lF := BF.lt
  have kQ := BQ.cell
  have lQ := BQ.lt
  by_cases hbig1 : rL < (n2 : Int)
  · go_wp2_with fail
    refine (szFit_big _ _ _ _ _ _ _ _ (by omega) (by omega) (by omega) hn2).mono ?_
    rintro e w2 ⟨rfl, hb2⟩
    clear kF lF kQ lQ
    replace BF := BF.below hb2
    replace BQ := BQ.below hb2
    replace HW := Bl.then HW hb2
    have zw2 : w1.heap.size ≤ w2.heap.size := hb2.size
    clear hb2
    have kF := BF.cell
    have lF := BF.lt
    have kQ := BQ.cell
    have lQ := BQ.lt
    go_wp2_with fail
    go_ret
    exact ⟨rfl, HW⟩
  have hs0 : n0 ≤ 1048576 := by omega
  have hs2 : n2 ≤ 1048576 := by omega
  go_wp2_with fail
  refine (szFit_ok _ _ _ _ _ _ _ _ (by omega) (by omega)).mono ?_
  rintro e w2 ⟨rfl, hb2⟩
  clear kF lF kQ lQ
  replace BF := BF.below hb2
  replace BQ := BQ.below hb2
  replace HW := Bl.then HW hb2
  have zw2 : w1.heap.size ≤ w2.heap.size := hb2.size
  clear hb2
  have kF := BF.cell
  have lF := BF.lt
  have kQ := BQ.cell
  have lQ := BQ.lt
  go_wp2_with fail
  refine wp_region_held_drew (S := (fun wz => Below w2.heap.size w2 wz ∧ ∀ b o, b < w2.heap.size → wz.cell? ⟨b, o, none⟩ = w2.cell? ⟨b, o, none⟩)) (by kernel_rfl) (old_of (Below.drew (Below.refl _ _))) (fun hHeld => ?_)
  refine wpAnyH_take (i := 0) (oi := ?_) (v := ?_) ?_ (by kernel_rfl) (by kernel_rfl) (by kernel_rfl) ?_ (Or.inl ⟨?_, ?_⟩) (by assumption) ?_
  rotate_left 2
  · (simp only [List.getElem?_toArray, List.getElem?_cons_zero]; rfl)
  · exact fun _ _ _ h => h
  · rfl
  · intro w hSw
    (try dsimp only at hSw)
    go_simp
    try with_reducible rfl
  simp only [put_arr, List.set_cons_zero, List.set_cons_succ]
  refine wpAnyH_take (i := 2) (oi := ?_) (v := ?_) ?_ (by kernel_rfl) (by kernel_rfl) (by kernel_rfl) ?_ (Or.inl ⟨?_, ?_⟩) (by assumption) ?_
  rotate_left 2
  · (simp only [List.getElem?_toArray, List.getElem?_cons_zero, List.getElem?_cons_succ]; rfl)
  · exact fun _ _ _ h => h
  · rfl
  · intro w hSw
    (try dsimp only at hSw)
    go_simp
    try with_reducible rfl
  simp only [put_arr, List.set_cons_zero, List.set_cons_succ]
  refine wpAnyH_take (i := 4) (oi := ?_) (v := ?_) ?_ (by kernel_rfl) (by kernel_rfl) (by kernel_rfl) ?_ (Or.inl ⟨?_, ?_⟩) (by assumption) ?_
  rotate_left 2
  · (simp only [List.getElem?_toArray, List.getElem?_cons_zero, List.getElem?_cons_succ]; rfl)
  · exact fun _ _ _ h => h
  · rfl
  · intro w hSw
    (try dsimp only at hSw)
    go_simp
    try with_reducible rfl
  simp only [put_arr, List.set_cons_zero, List.set_cons_succ]
  refine wpAnyH_ready (rs := [1]) (by kernel_rfl) (by simp) ?_
  refine AllReadyH.cons (o := ?_) ?_ (fun K hK => ?_) AllReadyH.nil
  rotate_left
  · (simp only [List.getElem?_toArray, List.getElem?_cons_zero, List.getElem?_cons_succ]; rfl)
  rw [if_pos (by rfl)]
  go_simp
  (with_reducible refine (toLastS_any _ _ _ _ _ ((hr0.below HW).below hHeld.1) hs0).mono ?_)
  rintro e w3 ⟨As, cs, rfl, os, hb3⟩
  have y3 : w2.heap.size ≤ w3.heap.size := Nat.le_trans hHeld.1.size hb3.size
  have ya3 := (hHeld.1).size
  have yb3 := hb3.size
  have Ls := Lib.hid os.lt
  have HZ3 := Bl.then (w := w2) hHeld.1 hb3
  go_wp2_with fail
  refine hK.out _ _ (old_of HZ3) (fun hHeld2 => ?_)
  clear hK K hHeld
  have hHeld := hHeld2
  clear hHeld2
  refine wpAnyH_ready (rs := [3]) (by kernel_rfl) (by simp) ?_
  refine AllReadyH.cons (o := ?_) ?_ (fun K hK => ?_) AllReadyH.nil
  rotate_left
  · (simp only [List.getElem?_toArray, List.getElem?_cons_zero, List.getElem?_cons_succ]; rfl)
  rw [if_pos (by rfl)]
  go_simp
  (with_reducible refine (toFoot_any _ _ _ _ _).mono ?_)
  rintro e w4 ⟨rfl, hb4⟩
  have y4 : w2.heap.size ≤ w4.heap.size := Nat.le_trans HZ3.size hb4.size
  have ya4 := (HZ3).size
  have yb4 := hb4.size
  replace os := own_below os hb4
  have HZ4 := Bl.then (w := w2) HZ3 hb4
  go_wp2_with fail
  refine hK.out _ _ (old_of HZ4) (fun hHeld2 => ?_)
  clear hK K hHeld
  have hHeld := hHeld2
  clear hHeld2
  refine wpAnyH_ready (rs := [5]) (by kernel_rfl) (by simp) ?_
  refine AllReadyH.cons (o := ?_) ?_ (fun K hK => ?_) AllReadyH.nil
  rotate_left
  · (simp only [List.getElem?_toArray, List.getElem?_cons_zero, List.getElem?_cons_succ]; rfl)
  rw [if_pos (by rfl)]
  go_simp
  (with_reducible refine (toFit_any _ _ _ _ _ _ _ _ ((hr2.below HW).below HZ4) hs2).mono ?_)
  rintro e w5 ⟨At, ct, rfl, ot, hb5⟩
  have y5 : w2.heap.size ≤ w5.heap.size := Nat.le_trans HZ4.size hb5.size
  have ya5 := (HZ4).size
  have yb5 := hb5.size
  replace os := own_below os hb5
  have Lt := Lib.hid ot.lt
  have HZ5 := Bl.then (w := w2) HZ4 hb5
  go_wp2_with fail
  refine hK.out _ _ (old_of HZ5) (fun hHeld2 => ?_)
  clear hK K hHeld
  have hHeld := hHeld2
  clear hHeld2
  refine wpAnyH_ready (rs := [6]) (by kernel_rfl) (by simp) ?_
  refine AllReadyH.cons (o := ?_) ?_ (fun K hK => ?_) AllReadyH.nil
  rotate_left
  · (simp only [List.getElem?_toArray, List.getElem?_cons_zero, List.getElem?_cons_succ]; rfl)
  rw [if_pos (by rfl)]
  go_simp
  (with_reducible refine (sRankLasts_any _ _ _ z0 (⟨a1, b1, c1, d1⟩ : FootD) _ _ _ _ _ _ z2 _ (Rd.of_own os) hs0 hx0 (Rd.of_own ot) hs2).mono ?_)
  rintro e w6 ⟨Aw, cw, rfl, ow, hb6⟩
  have y6 : w2.heap.size ≤ w6.heap.size := Nat.le_trans HZ5.size hb6.size
  have ya6 := (HZ5).size
  have yb6 := hb6.size
  replace os := own_below os hb6
  replace ot := own_below ot hb6
  have Lw := Lib.hid ow.lt
  have HZ6 := Bl.then (w := w2) HZ5 hb6
  go_wp2_with fail
  refine hK.out _ _ (old_of HZ6) (fun hHeld2 => ?_)
  clear hK K hHeld
  have hHeld := hHeld2
  clear hHeld2
  refine wpAnyH_take (i := 7) (oi := ?_) (v := ?_) ?_ (by kernel_rfl) (by kernel_rfl) (by kernel_rfl) ?_ (Or.inl ⟨?_, ?_⟩) (by assumption) ?_
  rotate_left 2
  · (simp only [List.getElem?_toArray, List.getElem?_cons_zero, List.getElem?_cons_succ]; rfl)
  · exact fun _ _ _ h => h
  · rfl
  · intro w hSw
    (try dsimp only at hSw)
    go_simp
    try with_reducible rfl
  simp only [put_arr, List.set_cons_zero, List.set_cons_succ]
  refine wpAnyH_take (i := 8) (oi := ?_) (v := ?_) ?_ (by kernel_rfl) (by kernel_rfl) (by kernel_rfl) ?_ (Or.inl ⟨?_, ?_⟩) (by assumption) ?_
  rotate_left 2
  · (simp only [List.getElem?_toArray, List.getElem?_cons_zero, List.getElem?_cons_succ]; rfl)
  · exact fun _ _ _ h => h
  · rfl
  · intro w hSw
    (try dsimp only at hSw)
    go_simp
    try with_reducible rfl
  simp only [put_arr, List.set_cons_zero, List.set_cons_succ]
  refine wpAnyH_take (i := 9) (oi := ?_) (v := ?_) ?_ (by kernel_rfl) (by kernel_rfl) (by kernel_rfl) ?_ (Or.inl ⟨?_, ?_⟩) (by assumption) ?_
  rotate_left 2
  · (simp only [List.getElem?_toArray, List.getElem?_cons_zero, List.getElem?_cons_succ]; rfl)
  · exact fun _ _ _ h => h
  · rfl
  · intro w hSw
    (try dsimp only at hSw)
    go_simp
    try with_reducible rfl
  simp only [put_arr, List.set_cons_zero, List.set_cons_succ]
  refine wpAnyH_take (i := 10) (oi := ?_) (v := ?_) ?_ (by kernel_rfl) (by kernel_rfl) (by kernel_rfl) ?_ (Or.inl ⟨?_, ?_⟩) (by assumption) ?_
  rotate_left 2
  · (simp only [List.getElem?_toArray, List.getElem?_cons_zero, List.getElem?_cons_succ]; rfl)
  · exact fun _ _ _ h => h
  · rfl
  · intro w hSw
    (try dsimp only at hSw)
    go_simp
    try with_reducible rfl
  simp only [put_arr, List.set_cons_zero, List.set_cons_succ]
  refine wpAnyH_take (i := 11) (oi := ?_) (v := ?_) ?_ (by kernel_rfl) (by kernel_rfl) (by kernel_rfl) ?_ (Or.inl ⟨?_, ?_⟩) (by assumption) ?_
  rotate_left 2
  · (simp only [List.getElem?_toArray, List.getElem?_cons_zero, List.getElem?_cons_succ]; rfl)
  · exact fun _ _ _ h => h
  · rfl
  · intro w hSw
    (try dsimp only at hSw)
    go_simp
    try with_reducible rfl
  simp only [put_arr, List.set_cons_zero, List.set_cons_succ]
  refine wpAnyH_done (by kernel_rfl) ?_ _
  clear hHeld
  clear kF lF kQ lQ
  replace BF := BF.below HZ6
  replace BQ := BQ.below HZ6
  replace HW := Bl.then HW HZ6
  have zw6 : w2.heap.size ≤ w6.heap.size := HZ6.size
  have kF := BF.cell
  have lF := BF.lt
  have kQ := BQ.cell
  have lQ := BQ.lt
  clear os Ls
  clear ot Lt
  go_wp2_with fail
  refine (toLastS_any _ _ _ _ _ (hr0.below HW) hs0).mono ?_
  rintro e w7 ⟨Ax, cx, rfl, ox, hb7⟩
  have Lx := Lib.hid ox.lt
  clear kF lF kQ lQ
  replace BF := BF.below hb7
  replace BQ := BQ.below hb7
  replace ow := own_below ow hb7
  replace HW := Bl.then HW hb7
  have zw7 : w6.heap.size ≤ w7.heap.size := hb7.size
  clear hb7
  have kF := BF.cell
  have lF := BF.lt
  have kQ := BQ.cell
  have lQ := BQ.lt
  go_wp2_with fail
  refine (toFit_any _ _ _ _ _ _ _ _ (hr2.below HW) hs2).mono ?_
  rintro e w8 ⟨Aq, cq, rfl, oq, hb8⟩
  have Lq := Lib.hid oq.lt
  clear kF lF kQ lQ
  replace BF := BF.below hb8
  replace BQ := BQ.below hb8
  replace ow := own_below ow hb8
  replace ox := own_below ox hb8
  replace HW := Bl.then HW hb8
  have zw8 : w7.heap.size ≤ w8.heap.size := hb8.size
  clear hb8
  have kF := BF.cell
  have lF := BF.lt
  have kQ := BQ.cell
  have lQ := BQ.lt
  go_wp2_with fail
  clear kF lF kQ lQ
  replace BF := BF.alloc (.cells #[.int .i64 a2, .int .i64 b2, .int .i64 c2, .slice Aq n2 cq] 53)
  replace BQ := BQ.alloc (.cells #[.int .i64 a2, .int .i64 b2, .int .i64 c2, .slice Aq n2 cq] 53)
  replace ow := ow.alloc (.cells #[.int .i64 a2, .int .i64 b2, .int .i64 c2, .slice Aq n2 cq] 53)
  replace ox := ox.alloc (.cells #[.int .i64 a2, .int .i64 b2, .int .i64 c2, .slice Aq n2 cq] 53)
  replace oq := oq.alloc (.cells #[.int .i64 a2, .int .i64 b2, .int .i64 c2, .slice Aq n2 cq] 53)
  have BX := Blk.new w8 53 #[.int .i64 a2, .int .i64 b2, .int .i64 c2, .slice Aq n2 cq]
  replace HW := Bl.alloc HW (.cells #[.int .i64 a2, .int .i64 b2, .int .i64 c2, .slice Aq n2 cq] 53)
  have z9 : w8.heap.size ≤ (w8.alloc (.cells #[.int .i64 a2, .int .i64 b2, .int .i64 c2, .slice Aq n2 cq] 53)).heap.size := by simp
  generalize w8.alloc (.cells #[.int .i64 a2, .int .i64 b2, .int .i64 c2, .slice Aq n2 cq] 53) = v9 at *
  have kF := BF.cell
  have lF := BF.lt
  have kQ := BQ.cell
  have lQ := BQ.lt
  have kX := BX.cell
  have lX := BX.lt
  refine wp_region_held_drew (S := (fun wz => Below v9.heap.size v9 wz ∧ ∀ b o, b < v9.heap.size → wz.cell? ⟨b, o, none⟩ = v9.cell? ⟨b, o, none⟩)) (by kernel_rfl) (old_of (Below.drew (Below.refl _ _))) (fun hHeld => ?_)
  refine wpAnyH_take (i := 0) (oi := ?_) (v := ?_) ?_ (by kernel_rfl) (by kernel_rfl) (by kernel_rfl) ?_ (Or.inl ⟨?_, ?_⟩) (by assumption) ?_
  rotate_left 2
  · (simp only [List.getElem?_toArray, List.getElem?_cons_zero]; rfl)
  · exact fun _ _ _ h => h
  · rfl
  · intro w hSw
    (try dsimp only at hSw)
    go_simp
    try with_reducible rfl
  simp only [put_arr, List.set_cons_zero, List.set_cons_succ]
  refine wpAnyH_take (i := 1) (oi := ?_) (v := ?_) ?_ (by kernel_rfl) (by kernel_rfl) (by kernel_rfl) ?_ (Or.inl ⟨?_, ?_⟩) (by assumption) ?_
  rotate_left 2
  · (simp only [List.getElem?_toArray, List.getElem?_cons_zero, List.getElem?_cons_succ]; rfl)
  · exact fun _ _ _ h => h
  · rfl
  · intro w hSw
    (try dsimp only at hSw)
    go_simp
    try with_reducible rfl
  simp only [put_arr, List.set_cons_zero, List.set_cons_succ]
  refine wpAnyH_take (i := 3) (oi := ?_) (v := ?_) ?_ (by kernel_rfl) (by kernel_rfl) (by kernel_rfl) ?_ (Or.inl ⟨?_, ?_⟩) (by assumption) ?_
  rotate_left 2
  · (simp only [List.getElem?_toArray, List.getElem?_cons_zero, List.getElem?_cons_succ]; rfl)
  · exact fun _ _ _ h => h
  · rfl
  · intro w hSw
    (try dsimp only at hSw)
    go_simp
    try with_reducible rfl
  simp only [put_arr, List.set_cons_zero, List.set_cons_succ]
  refine wpAnyH_ready (rs := [2]) (by kernel_rfl) (by simp) ?_
  refine AllReadyH.cons (o := ?_) ?_ (fun K hK => ?_) AllReadyH.nil
  rotate_left
  · (simp only [List.getElem?_toArray, List.getElem?_cons_zero, List.getElem?_cons_succ]; rfl)
  rw [if_pos (by rfl)]
  go_simp
  (with_reducible refine (toFoot_any _ _ _ _ _).mono ?_)
  rintro e w10 ⟨rfl, hb10⟩
  have y10 : v9.heap.size ≤ w10.heap.size := Nat.le_trans hHeld.1.size hb10.size
  have ya10 := (hHeld.1).size
  have yb10 := hb10.size
  have HZ10 := Bl.then (w := v9) hHeld.1 hb10
  go_wp2_with fail
  refine hK.out _ _ (old_of HZ10) (fun hHeld2 => ?_)
  clear hK K hHeld
  have hHeld := hHeld2
  clear hHeld2
  refine wpAnyH_ready (rs := [4]) (by kernel_rfl) (by simp) ?_
  refine AllReadyH.cons (o := ?_) ?_ (fun K hK => ?_) AllReadyH.nil
  rotate_left
  · (simp only [List.getElem?_toArray, List.getElem?_cons_zero, List.getElem?_cons_succ]; rfl)
  rw [if_pos (by rfl)]
  go_simp
  (with_reducible refine (RankLasts_any _ _ _ z0 (⟨a1, b1, c1, d1⟩ : FootD) _ _ _ _ _ _ z2 _ ((Rd.of_own ox).below HZ10) hs0 hx0 ((Rd.of_own oq).below HZ10) hs2).mono ?_)
  rintro e w11 ⟨Ag, cg, rfl, og, hb11⟩
  have y11 : v9.heap.size ≤ w11.heap.size := Nat.le_trans HZ10.size hb11.size
  have ya11 := (HZ10).size
  have yb11 := hb11.size
  have Lg := Lib.hid og.lt
  have HZ11 := Bl.then (w := v9) HZ10 hb11
  go_wp2_with fail
  refine hK.out _ _ (old_of HZ11) (fun hHeld2 => ?_)
  clear hK K hHeld
  have hHeld := hHeld2
  clear hHeld2
  refine wpAnyH_take (i := 5) (oi := ?_) (v := ?_) ?_ (by kernel_rfl) (by kernel_rfl) (by kernel_rfl) ?_ (Or.inl ⟨?_, ?_⟩) (by assumption) ?_
  rotate_left 2
  · (simp only [List.getElem?_toArray, List.getElem?_cons_zero, List.getElem?_cons_succ]; rfl)
  · exact fun _ _ _ h => h
  · rfl
  · intro w hSw
    (try dsimp only at hSw)
    go_simp
    try with_reducible rfl
  simp only [put_arr, List.set_cons_zero, List.set_cons_succ]
  refine wpAnyH_take (i := 6) (oi := ?_) (v := ?_) ?_ (by kernel_rfl) (by kernel_rfl) (by kernel_rfl) ?_ (Or.inl ⟨?_, ?_⟩) (by assumption) ?_
  rotate_left 2
  · (simp only [List.getElem?_toArray, List.getElem?_cons_zero, List.getElem?_cons_succ]; rfl)
  · exact fun _ _ _ h => h
  · rfl
  · intro w hSw
    (try dsimp only at hSw)
    go_simp
    try with_reducible rfl
  simp only [put_arr, List.set_cons_zero, List.set_cons_succ]
  refine wpAnyH_take (i := 7) (oi := ?_) (v := ?_) ?_ (by kernel_rfl) (by kernel_rfl) (by kernel_rfl) ?_ (Or.inl ⟨?_, ?_⟩) (by assumption) ?_
  rotate_left 2
  · (simp only [List.getElem?_toArray, List.getElem?_cons_zero, List.getElem?_cons_succ]; rfl)
  · exact fun _ _ _ h => h
  · rfl
  · intro w hSw
    (try dsimp only at hSw)
    go_simp
    try with_reducible rfl
  simp only [put_arr, List.set_cons_zero, List.set_cons_succ]
  refine wpAnyH_take (i := 8) (oi := ?_) (v := ?_) ?_ (by kernel_rfl) (by kernel_rfl) (by kernel_rfl) ?_ (Or.inl ⟨?_, ?_⟩) (by assumption) ?_
  rotate_left 2
  · (simp only [List.getElem?_toArray, List.getElem?_cons_zero, List.getElem?_cons_succ]; rfl)
  · exact fun _ _ _ h => h
  · rfl
  · intro w hSw
    (try dsimp only at hSw)
    go_simp
    try with_reducible rfl
  simp only [put_arr, List.set_cons_zero, List.set_cons_succ]
  refine wpAnyH_take (i := 9) (oi := ?_) (v := ?_) ?_ (by kernel_rfl) (by kernel_rfl) (by kernel_rfl) ?_ (Or.inl ⟨?_, ?_⟩) (by assumption) ?_
  rotate_left 2
  · (simp only [List.getElem?_toArray, List.getElem?_cons_zero, List.getElem?_cons_succ]; rfl)
  · exact fun _ _ _ h => h
  · rfl
  · intro w hSw
    (try dsimp only at hSw)
    go_simp
    try with_reducible rfl
  simp only [put_arr, List.set_cons_zero, List.set_cons_succ]
  refine wpAnyH_done (by kernel_rfl) ?_ _
  clear hHeld
  clear kF lF kQ lQ kX lX
  replace BF := BF.below HZ11
  replace BQ := BQ.below HZ11
  replace BX := BX.below HZ11
  replace ow := own_below ow HZ11
  replace ox := own_below ox HZ11
  replace oq := own_below oq HZ11
  replace HW := Bl.then HW HZ11
  have zw11 : v9.heap.size ≤ w11.heap.size := HZ11.size
  have kF := BF.cell
  have lF := BF.lt
  have kQ := BQ.cell
  have lQ := BQ.lt
  have kX := BX.cell
  have lX := BX.lt
  go_wp2_with fail
  refine (eqInt64S_same _ _ _ _ _ _ _ (Rd.of_own og) (Rd.of_own ow) (by omega)).mono ?_
  rintro e w12 ⟨rfl, hb12⟩
  clear kF lF kQ lQ kX lX
  replace BF := BF.below hb12
  replace BQ := BQ.below hb12
  replace BX := BX.below hb12
  replace ow := own_below ow hb12
  replace ox := own_below ox hb12
  replace oq := own_below oq hb12
  replace og := own_below og hb12
  replace HW := Bl.then HW hb12
  have zw12 : w11.heap.size ≤ w12.heap.size := hb12.size
  clear hb12
  have kF := BF.cell
  have lF := BF.lt
  have kQ := BQ.cell
  have lQ := BQ.lt
  have kX := BX.cell
  have lX := BX.lt
  go_wp2_with fail
  refine (toLastS_any _ _ _ _ _ (hr0.below HW) hs0).mono ?_
  rintro e w13 ⟨Ay, cy, rfl, oy, hb13⟩
  have Ly := Lib.hid oy.lt
  clear kF lF kQ lQ kX lX
  replace BF := BF.below hb13
  replace BQ := BQ.below hb13
  replace BX := BX.below hb13
  replace ow := own_below ow hb13
  replace ox := own_below ox hb13
  replace oq := own_below oq hb13
  replace og := own_below og hb13
  replace HW := Bl.then HW hb13
  have zw13 : w12.heap.size ≤ w13.heap.size := hb13.size
  clear hb13
  have kF := BF.cell
  have lF := BF.lt
  have kQ := BQ.cell
  have lQ := BQ.lt
  have kX := BX.cell
  have lX := BX.lt
  go_wp2_with fail
  refine (eqLastS_same _ _ _ _ _ _ _ (Rd.of_own ox) (Rd.of_own oy) (by omega)).mono ?_
  rintro e w14 ⟨rfl, hb14⟩
  clear kF lF kQ lQ kX lX
  replace BF := BF.below hb14
  replace BQ := BQ.below hb14
  replace BX := BX.below hb14
  replace ow := own_below ow hb14
  replace ox := own_below ox hb14
  replace oq := own_below oq hb14
  replace og := own_below og hb14
  replace oy := own_below oy hb14
  replace HW := Bl.then HW hb14
  have zw14 : w13.heap.size ≤ w14.heap.size := hb14.size
  clear hb14
  have kF := BF.cell
  have lF := BF.lt
  have kQ := BQ.cell
  have lQ := BQ.lt
  have kX := BX.cell
  have lX := BX.lt
  clear oy Ly
  go_wp2_with fail
  refine wp_region_held_drew (S := (fun wz => Below w14.heap.size w14 wz ∧ ∀ b o, b < w14.heap.size → wz.cell? ⟨b, o, none⟩ = w14.cell? ⟨b, o, none⟩)) (by kernel_rfl) (old_of (Below.drew (Below.refl _ _))) (fun hHeld => ?_)
  refine wpAnyH_take (i := 0) (oi := ?_) (v := ?_) ?_ (by kernel_rfl) (by kernel_rfl) (by kernel_rfl) ?_ (Or.inl ⟨?_, ?_⟩) (by assumption) ?_
  rotate_left 2
  · (simp only [List.getElem?_toArray, List.getElem?_cons_zero]; rfl)
  · exact fun _ _ _ h => h
  · rfl
  · intro w hSw
    (try dsimp only at hSw)
    go_simp
    try with_reducible rfl
  simp only [put_arr, List.set_cons_zero, List.set_cons_succ]
  refine wpAnyH_take (i := 1) (oi := ?_) (v := ?_) ?_ (by kernel_rfl) (by kernel_rfl) (by kernel_rfl) ?_ (Or.inl ⟨?_, ?_⟩) (by assumption) ?_
  rotate_left 2
  · (simp only [List.getElem?_toArray, List.getElem?_cons_zero, List.getElem?_cons_succ]; rfl)
  · exact fun _ _ _ h => h
  · rfl
  · intro w hSw
    (try dsimp only at hSw)
    go_simp
    try with_reducible rfl
  simp only [put_arr, List.set_cons_zero, List.set_cons_succ]
  refine wpAnyH_ready (rs := [2]) (by kernel_rfl) (by simp) ?_
  refine AllReadyH.cons (o := ?_) ?_ (fun K hK => ?_) AllReadyH.nil
  rotate_left
  · (simp only [List.getElem?_toArray, List.getElem?_cons_zero, List.getElem?_cons_succ]; rfl)
  rw [if_pos (by rfl)]
  go_simp
  (with_reducible refine (toFit_any _ _ _ _ _ _ _ _ ((hr2.below HW).below hHeld.1) hs2).mono ?_)
  rintro e w15 ⟨Ay, cy, rfl, oy, hb15⟩
  have y15 : w14.heap.size ≤ w15.heap.size := Nat.le_trans hHeld.1.size hb15.size
  have ya15 := (hHeld.1).size
  have yb15 := hb15.size
  have Ly := Lib.hid oy.lt
  have HZ15 := Bl.then (w := w14) hHeld.1 hb15
  go_wp2_with fail
  refine hK.out _ _ (old_of HZ15) (fun hHeld2 => ?_)
  clear hK K hHeld
  have hHeld := hHeld2
  clear hHeld2
  refine wpAnyH_ready (rs := [3]) (by kernel_rfl) (by simp) ?_
  refine AllReadyH.cons (o := ?_) ?_ (fun K hK => ?_) AllReadyH.nil
  rotate_left
  · (simp only [List.getElem?_toArray, List.getElem?_cons_zero, List.getElem?_cons_succ]; rfl)
  rw [if_pos (by rfl)]
  go_simp
  (with_reducible refine (eqFit_same _ _ _ _ _ _ _ _ _ _ ((Rd.of_own oq).below HZ15) (Rd.of_own oy) (by omega)).mono ?_)
  rintro e w16 ⟨rfl, hb16⟩
  have y16 : w14.heap.size ≤ w16.heap.size := Nat.le_trans HZ15.size hb16.size
  have ya16 := (HZ15).size
  have yb16 := hb16.size
  replace oy := own_below oy hb16
  have HZ16 := Bl.then (w := w14) HZ15 hb16
  go_wp2_with fail
  refine hK.out _ _ (old_of HZ16) (fun hHeld2 => ?_)
  clear hK K hHeld
  have hHeld := hHeld2
  clear hHeld2
  refine wpAnyH_take (i := 4) (oi := ?_) (v := ?_) ?_ (by kernel_rfl) (by kernel_rfl) (by kernel_rfl) ?_ (Or.inl ⟨?_, ?_⟩) (by assumption) ?_
  rotate_left 2
  · (simp only [List.getElem?_toArray, List.getElem?_cons_zero, List.getElem?_cons_succ]; rfl)
  · exact fun _ _ _ h => h
  · rfl
  · intro w hSw
    (try dsimp only at hSw)
    go_simp
    try with_reducible rfl
  simp only [put_arr, List.set_cons_zero, List.set_cons_succ]
  refine wpAnyH_done (by kernel_rfl) ?_ _
  clear hHeld
  clear kF lF kQ lQ kX lX
  replace BF := BF.below HZ16
  replace BQ := BQ.below HZ16
  replace BX := BX.below HZ16
  replace ow := own_below ow HZ16
  replace ox := own_below ox HZ16
  replace oq := own_below oq HZ16
  replace og := own_below og HZ16
  replace HW := Bl.then HW HZ16
  have zw16 : w14.heap.size ≤ w16.heap.size := HZ16.size
  have kF := BF.cell
  have lF := BF.lt
  have kQ := BQ.cell
  have lQ := BQ.lt
  have kX := BX.cell
  have lX := BX.lt
  clear oy Ly
  go_wp2_with fail
  refine (markLastS_any _ _ _ _ _ _ _ ox (by omega) (by omega)).mono ?_
  rintro e w17 ⟨rfl, ux, mx, px, hg17⟩
  clear kF lF kQ lQ kX lX
  replace ow := keep_own ow hg17 (dis_of Lw Lx (by omega))
  replace oq := keep_own oq hg17 (dis_of Lq Lx (by omega))
  replace og := keep_own og hg17 (dis_of Lg Lx (by omega))
  replace BF := blk_keep BF hg17 ox (by decide)
  replace BQ := blk_keep BQ hg17 ox (by decide)
  replace BX := blk_keep BX hg17 ox (by decide)
  replace HW := HW.grown hg17 HW.size (fun q hq => Nat.le_trans (by omega) (ox.lt q hq).1)
  have zw17 : w16.heap.size ≤ w17.heap.size := hg17.size
  replace ox := px
  clear px hg17
  have kF := BF.cell
  have lF := BF.lt
  have kQ := BQ.cell
  have lQ := BQ.lt
  have kX := BX.cell
  have lX := BX.lt
  go_wp2_with fail
  refine (markFit_any _ _ _ _ _ _ _ _ _ _ oq (by omega) (by omega)).mono ?_
  rintro e w18 ⟨rfl, uq, mq, pq, hg18⟩
  clear kF lF kQ lQ kX lX
  replace ow := keep_own ow hg18 (dis_of Lw Lq (by omega))
  replace ox := keep_own ox hg18 (dis_of Lx Lq (by omega))
  replace og := keep_own og hg18 (dis_of Lg Lq (by omega))
  replace BF := blk_keep BF hg18 oq (by decide)
  replace BQ := blk_keep BQ hg18 oq (by decide)
  replace BX := blk_keep BX hg18 oq (by decide)
  replace HW := HW.grown hg18 HW.size (fun q hq => Nat.le_trans (by omega) (oq.lt q hq).1)
  have zw18 : w17.heap.size ≤ w18.heap.size := hg18.size
  replace oq := pq
  clear pq hg18
  have kF := BF.cell
  have lF := BF.lt
  have kQ := BQ.cell
  have lQ := BQ.lt
  have kX := BX.cell
  have lX := BX.lt
  clear ox Lx
  clear oq Lq
  clear BX
  go_wp2_with fail
  refine (eqInt64S_same _ _ _ _ _ _ _ (Rd.of_own og) (Rd.of_own ow) (by omega)).mono ?_
  rintro e w19 ⟨rfl, hb19⟩
  clear kF lF kQ lQ
  replace BF := BF.below hb19
  replace BQ := BQ.below hb19
  replace ow := own_below ow hb19
  replace og := own_below og hb19
  replace HW := Bl.then HW hb19
  have zw19 : w18.heap.size ≤ w19.heap.size := hb19.size
  clear hb19
  have kF := BF.cell
  have lF := BF.lt
  have kQ := BQ.cell
  have lQ := BQ.lt
  go_wp2_with fail
  refine (markInt64S_any _ _ _ _ _ _ _ og (by omega) (by omega)).mono ?_
  rintro e w20 ⟨rfl, ug, mg, pg, hg20⟩
  clear kF lF kQ lQ
  replace ow := keep_own ow hg20 (dis_of Lw Lg (by omega))
  replace BF := blk_keep BF hg20 og (by decide)
  replace BQ := blk_keep BQ hg20 og (by decide)
  replace HW := HW.grown hg20 HW.size (fun q hq => Nat.le_trans (by omega) (og.lt q hq).1)
  have zw20 : w19.heap.size ≤ w20.heap.size := hg20.size
  replace og := pg
  clear pg hg20
  have kF := BF.cell
  have lF := BF.lt
  have kQ := BQ.cell
  have lQ := BQ.lt
  go_wp2_with fail
  refine (heldInt64S_any _ _ _ _ _ _ (Rd.of_own og) mg (by omega) (by omega)).mono ?_
  rintro e w21 ⟨rfl, hb21⟩
  clear kF lF kQ lQ
  replace BF := BF.below hb21
  replace BQ := BQ.below hb21
  replace ow := own_below ow hb21
  replace og := own_below og hb21
  replace HW := Bl.then HW hb21
  have zw21 : w20.heap.size ≤ w21.heap.size := hb21.size
  clear hb21
  have kF := BF.cell
  have lF := BF.lt
  have kQ := BQ.cell
  have lQ := BQ.lt
  go_wp2_with fail
  refine wp_region_held_drew (S := (fun wz => Below w21.heap.size w21 wz ∧ ∀ b o, b < w21.heap.size → wz.cell? ⟨b, o, none⟩ = w21.cell? ⟨b, o, none⟩)) (by kernel_rfl) (old_of (Below.drew (Below.refl _ _))) (fun hHeld => ?_)
  refine wpAnyH_take (i := 0) (oi := ?_) (v := ?_) ?_ (by kernel_rfl) (by kernel_rfl) (by kernel_rfl) ?_ (Or.inl ⟨?_, ?_⟩) (by assumption) ?_
  rotate_left 2
  · (simp only [List.getElem?_toArray, List.getElem?_cons_zero]; rfl)
  · exact fun _ _ _ h => h
  · rfl
  · intro w hSw
    (try dsimp only at hSw)
    go_simp
    try with_reducible rfl
  simp only [put_arr, List.set_cons_zero, List.set_cons_succ]
  refine wpAnyH_take (i := 2) (oi := ?_) (v := ?_) ?_ (by kernel_rfl) (by kernel_rfl) (by kernel_rfl) ?_ (Or.inl ⟨?_, ?_⟩) (by assumption) ?_
  rotate_left 2
  · (simp only [List.getElem?_toArray, List.getElem?_cons_zero, List.getElem?_cons_succ]; rfl)
  · exact fun _ _ _ h => h
  · rfl
  · intro w hSw
    (try dsimp only at hSw)
    go_simp
    try with_reducible rfl
  simp only [put_arr, List.set_cons_zero, List.set_cons_succ]
  refine wpAnyH_take (i := 4) (oi := ?_) (v := ?_) ?_ (by kernel_rfl) (by kernel_rfl) (by kernel_rfl) ?_ (Or.inl ⟨?_, ?_⟩) (by assumption) ?_
  rotate_left 2
  · (simp only [List.getElem?_toArray, List.getElem?_cons_zero, List.getElem?_cons_succ]; rfl)
  · exact fun _ _ _ h => h
  · rfl
  · intro w hSw
    (try dsimp only at hSw)
    go_simp
    try with_reducible rfl
  simp only [put_arr, List.set_cons_zero, List.set_cons_succ]
  refine wpAnyH_ready (rs := [1]) (by kernel_rfl) (by simp) ?_
  refine AllReadyH.cons (o := ?_) ?_ (fun K hK => ?_) AllReadyH.nil
  rotate_left
  · (simp only [List.getElem?_toArray, List.getElem?_cons_zero, List.getElem?_cons_succ]; rfl)
  rw [if_pos (by rfl)]
  go_simp
  (with_reducible refine (toLastS_any _ _ _ _ _ ((hr0.below HW).below hHeld.1) hs0).mono ?_)
  rintro e w22 ⟨As, cs, rfl, os, hb22⟩
  have y22 : w21.heap.size ≤ w22.heap.size := Nat.le_trans hHeld.1.size hb22.size
  have ya22 := (hHeld.1).size
  have yb22 := hb22.size
  have Ls := Lib.hid os.lt
  have HZ22 := Bl.then (w := w21) hHeld.1 hb22
  go_wp2_with fail
  refine hK.out _ _ (old_of HZ22) (fun hHeld2 => ?_)
  clear hK K hHeld
  have hHeld := hHeld2
  clear hHeld2
  refine wpAnyH_ready (rs := [3]) (by kernel_rfl) (by simp) ?_
  refine AllReadyH.cons (o := ?_) ?_ (fun K hK => ?_) AllReadyH.nil
  rotate_left
  · (simp only [List.getElem?_toArray, List.getElem?_cons_zero, List.getElem?_cons_succ]; rfl)
  rw [if_pos (by rfl)]
  go_simp
  (with_reducible refine (toFoot_any _ _ _ _ _).mono ?_)
  rintro e w23 ⟨rfl, hb23⟩
  have y23 : w21.heap.size ≤ w23.heap.size := Nat.le_trans HZ22.size hb23.size
  have ya23 := (HZ22).size
  have yb23 := hb23.size
  replace os := own_below os hb23
  have HZ23 := Bl.then (w := w21) HZ22 hb23
  go_wp2_with fail
  refine hK.out _ _ (old_of HZ23) (fun hHeld2 => ?_)
  clear hK K hHeld
  have hHeld := hHeld2
  clear hHeld2
  refine wpAnyH_ready (rs := [5]) (by kernel_rfl) (by simp) ?_
  refine AllReadyH.cons (o := ?_) ?_ (fun K hK => ?_) AllReadyH.nil
  rotate_left
  · (simp only [List.getElem?_toArray, List.getElem?_cons_zero, List.getElem?_cons_succ]; rfl)
  rw [if_pos (by rfl)]
  go_simp
  (with_reducible refine (toFit_any _ _ _ _ _ _ _ _ ((hr2.below HW).below HZ23) hs2).mono ?_)
  rintro e w24 ⟨At, ct, rfl, ot, hb24⟩
  have y24 : w21.heap.size ≤ w24.heap.size := Nat.le_trans HZ23.size hb24.size
  have ya24 := (HZ23).size
  have yb24 := hb24.size
  replace os := own_below os hb24
  have Lt := Lib.hid ot.lt
  have HZ24 := Bl.then (w := w21) HZ23 hb24
  go_wp2_with fail
  refine hK.out _ _ (old_of HZ24) (fun hHeld2 => ?_)
  clear hK K hHeld
  have hHeld := hHeld2
  clear hHeld2
  refine wpAnyH_ready (rs := [6]) (by kernel_rfl) (by simp) ?_
  refine AllReadyH.cons (o := ?_) ?_ (fun K hK => ?_) AllReadyH.nil
  rotate_left
  · (simp only [List.getElem?_toArray, List.getElem?_cons_zero, List.getElem?_cons_succ]; rfl)
  rw [if_pos (by rfl)]
  go_simp
  (with_reducible refine (RankLasts_any _ _ _ z0 (⟨a1, b1, c1, d1⟩ : FootD) _ _ _ _ _ _ z2 _ (Rd.of_own os) hs0 hx0 (Rd.of_own ot) hs2).mono ?_)
  rintro e w25 ⟨Ak, ck, rfl, ok, hb25⟩
  have y25 : w21.heap.size ≤ w25.heap.size := Nat.le_trans HZ24.size hb25.size
  have ya25 := (HZ24).size
  have yb25 := hb25.size
  replace os := own_below os hb25
  replace ot := own_below ot hb25
  have Lk := Lib.hid ok.lt
  have HZ25 := Bl.then (w := w21) HZ24 hb25
  go_wp2_with fail
  refine hK.out _ _ (old_of HZ25) (fun hHeld2 => ?_)
  clear hK K hHeld
  have hHeld := hHeld2
  clear hHeld2
  refine wpAnyH_take (i := 7) (oi := ?_) (v := ?_) ?_ (by kernel_rfl) (by kernel_rfl) (by kernel_rfl) ?_ (Or.inl ⟨?_, ?_⟩) (by assumption) ?_
  rotate_left 2
  · (simp only [List.getElem?_toArray, List.getElem?_cons_zero, List.getElem?_cons_succ]; rfl)
  · exact fun _ _ _ h => h
  · rfl
  · intro w hSw
    (try dsimp only at hSw)
    go_simp
    try with_reducible rfl
  simp only [put_arr, List.set_cons_zero, List.set_cons_succ]
  refine wpAnyH_take (i := 8) (oi := ?_) (v := ?_) ?_ (by kernel_rfl) (by kernel_rfl) (by kernel_rfl) ?_ (Or.inl ⟨?_, ?_⟩) (by assumption) ?_
  rotate_left 2
  · (simp only [List.getElem?_toArray, List.getElem?_cons_zero, List.getElem?_cons_succ]; rfl)
  · exact fun _ _ _ h => h
  · rfl
  · intro w hSw
    (try dsimp only at hSw)
    go_simp
    try with_reducible rfl
  simp only [put_arr, List.set_cons_zero, List.set_cons_succ]
  refine wpAnyH_take (i := 9) (oi := ?_) (v := ?_) ?_ (by kernel_rfl) (by kernel_rfl) (by kernel_rfl) ?_ (Or.inl ⟨?_, ?_⟩) (by assumption) ?_
  rotate_left 2
  · (simp only [List.getElem?_toArray, List.getElem?_cons_zero, List.getElem?_cons_succ]; rfl)
  · exact fun _ _ _ h => h
  · rfl
  · intro w hSw
    (try dsimp only at hSw)
    go_simp
    try with_reducible rfl
  simp only [put_arr, List.set_cons_zero, List.set_cons_succ]
  refine wpAnyH_take (i := 10) (oi := ?_) (v := ?_) ?_ (by kernel_rfl) (by kernel_rfl) (by kernel_rfl) ?_ (Or.inl ⟨?_, ?_⟩) (by assumption) ?_
  rotate_left 2
  · (simp only [List.getElem?_toArray, List.getElem?_cons_zero, List.getElem?_cons_succ]; rfl)
  · exact fun _ _ _ h => h
  · rfl
  · intro w hSw
    (try dsimp only at hSw)
    go_simp
    try with_reducible rfl
  simp only [put_arr, List.set_cons_zero, List.set_cons_succ]
  refine wpAnyH_take (i := 11) (oi := ?_) (v := ?_) ?_ (by kernel_rfl) (by kernel_rfl) (by kernel_rfl) ?_ (Or.inl ⟨?_, ?_⟩) (by assumption) ?_
  rotate_left 2
  · (simp only [List.getElem?_toArray, List.getElem?_cons_zero, List.getElem?_cons_succ]; rfl)
  · exact fun _ _ _ h => h
  · rfl
  · intro w hSw
    (try dsimp only at hSw)
    go_simp
    try with_reducible rfl
  simp only [put_arr, List.set_cons_zero, List.set_cons_succ]
  refine wpAnyH_done (by kernel_rfl) ?_ _
  clear hHeld
  clear kF lF kQ lQ
  replace BF := BF.below HZ25
  replace BQ := BQ.below HZ25
  replace ow := own_below ow HZ25
  replace og := own_below og HZ25
  replace HW := Bl.then HW HZ25
  have zw25 : w21.heap.size ≤ w25.heap.size := HZ25.size
  have kF := BF.cell
  have lF := BF.lt
  have kQ := BQ.cell
  have lQ := BQ.lt
  clear os Ls
  clear ot Lt
  go_wp2_with fail
  refine (eqInt64S_same _ _ _ _ _ _ _ (Rd.of_own ok) (Rd.of_own ow) (by omega)).mono ?_
  rintro e w26 ⟨rfl, hb26⟩
  clear kF lF kQ lQ
  replace BF := BF.below hb26
  replace BQ := BQ.below hb26
  replace ow := own_below ow hb26
  replace og := own_below og hb26
  replace ok := own_below ok hb26
  replace HW := Bl.then HW hb26
  have zw26 : w25.heap.size ≤ w26.heap.size := hb26.size
  clear hb26
  have kF := BF.cell
  have lF := BF.lt
  have kQ := BQ.cell
  have lQ := BQ.lt
  clear ok Lk
  clear ow Lw
  go_wp2_with fail
  refine (heldInt64S_any _ _ _ _ _ _ (Rd.of_own og) mg (by omega) (by omega)).mono ?_
  rintro e w27 ⟨rfl, hb27⟩
  clear kF lF kQ lQ
  replace BF := BF.below hb27
  replace BQ := BQ.below hb27
  replace og := own_below og hb27
  replace HW := Bl.then HW hb27
  have zw27 : w26.heap.size ≤ w27.heap.size := hb27.size
  clear hb27
  have kF := BF.cell
  have lF := BF.lt
  have kQ := BQ.cell
  have lQ := BQ.lt
  go_wp2_with fail
  go_ret
  exact ⟨rfl, HW⟩

/-! ### The row: the argument opened, the walk, and everything read again behind it. -/
set_option maxRecDepth 100000 in
theorem lifted (os : Os) (started : os.Started) (H : Type) (enc : TypeId × Value → H) :
    ReturnsInHanded {} Try.checked os 12 .any (Rows.fnExactRankLastsSpec.pre6 enc Try.prog Try.f12 Rows.fnExactRankLastsRow.domain false) (Rows.fnExactRankLastsSpec.post enc Try.prog Try.f12 false true false false) := by
  refine returnsInHanded_of_change (C := Try.checked) own started (by kernel_rfl) Try.func12
    (ChangeSpec.witness6 (enc := enc) (C := Try.checked) false ⟨#[], #[.slice none 0 0, .agg #[.int .i64 0, .int .i64 0, .int .i64 0, .int .i64 0], .agg #[.int .i64 0, .int .i64 0, .int .i64 0, .slice none 0 0]], []⟩ 8 (by kernel_rfl) (by kernel_rfl) (by kernel_rfl) (by kernel_rfl)) ?_
  intro W base args ds gs before hval0 hW hcnd _
  have hval : ∀ (j : Nat) t v, Try.f12.params[j]? = some t → args[j]? = some v → Value.okWide Try.prog W .any base t v := hval0
  have hW' := hW
  obtain ⟨p, q, hA0, hV, rfl, hfz, hnd⟩ := hW
  have hA : DataW.TrodAll enc Try.prog W 0 (fun _ => true) true Try.f12.params.toList args.toList ds p := hA0
  rw [Try.params12] at hA hval
  obtain ⟨v0, vs0, d0, ds0, p0, q0, hargs, rfl, rfl, h0, r0⟩ := trodAll_cons hA
  obtain ⟨v1, vs1, d1, ds1, p1, q1, rfl, rfl, rfl, h1, r1⟩ := trodAll_cons r0
  obtain ⟨v2, vs2, d2, ds2, p2, q2, rfl, rfl, rfl, h2, r2⟩ := trodAll_cons r1
  obtain ⟨rfl, rfl, rfl⟩ := trodAll_nil r2
  obtain rfl : args = #[v0, v1, v2] := by cases args; simp_all
  obtain ⟨rfl, rfl⟩ := trodVars_none hV
  have k0 := h0
  have lt0 : ∀ x ∈ p0, x.block < W.heap.size := by obtain ⟨m, hm⟩ := k0; exact DataW.trod_lt m _ _ _ hm
  have k1 := h1
  have lt1 : ∀ x ∈ p1, x.block < W.heap.size := by obtain ⟨m, hm⟩ := k1; exact DataW.trod_lt m _ _ _ hm
  have k2 := h2
  have lt2 : ∀ x ∈ p2, x.block < W.heap.size := by obtain ⟨m, hm⟩ := k2; exact DataW.trod_lt m _ _ _ hm
  obtain ⟨A0, n0, m0, rfl⟩ := okWide_slice Try.underlying64 (hval 0 64 v0 rfl rfl)
  obtain ⟨z0, hr0, hn0, hx0⟩ := open_LastS h0
  obtain ⟨a1, b1, c1, d1, rfl, -, -, -, -⟩ := open_Foot (hval 1 57 v1 rfl rfl) h1
  obtain ⟨a2, b2, c2, A2, n2, m2, z2, rfl, hr2, hn2⟩ := open_Fit (hval 2 50 v2 rfl rfl) h2
  clear hA0 hval0
  refine (walk A0 n0 m0 z0 a1 b1 c1 d1 a2 b2 c2 A2 n2 m2 z2 W hr0 hn0 hx0 hr2 hn2).mono fun e W' ⟨he, bel⟩ => ?_
  subst he
  exact ⟨_, rfl, _, _, _, [], _, [], hW', trodAll_mk1 (shut_bool Try.underlying4 _), (trodAll_cons_mk (Below.trod laidOut (by kernel_rfl) (of_decide_eq_true (by kernel_rfl)) k0 bel lt0) (trodAll_cons_mk (Below.trod laidOut (by kernel_rfl) (of_decide_eq_true (by kernel_rfl)) k1 bel lt1) (trodAll_cons_mk (Below.trod laidOut (by kernel_rfl) (of_decide_eq_true (by kernel_rfl)) k2 bel lt2) trodAll_mk0))), rfl, bel.frame _, fun h => by cases h⟩

theorem over : Rows.fnExactRankLastsRow.holds Try.pinned (OpenSpec.ofChange Rows.fnExactRankLastsSpec) :=
  OpenClaim.holds_of_wide 12 Try.f12 rfl rfl rfl rfl rfl rfl rfl ⟨rfl, rfl, rfl, rfl, rfl⟩ rfl rfl rfl rfl rfl (by kernel_rfl) Try.func12 (by kernel_rfl)
    (of_decide_eq_true (by kernel_rfl)) (by unfold Func.isWrapper; first | (rw [if_pos (by decide +kernel)]; kernel_rfl) | (rw [if_neg (by decide +kernel)]; exact ⟨rfl, rfl⟩))
    (fun os started H enc _ => lifted os started H enc)

theorem proved : Rows.FnExactRankLastsSaid := over
end Go.Proofs.Ytlbgognkaolamaa.lawRankLasts
