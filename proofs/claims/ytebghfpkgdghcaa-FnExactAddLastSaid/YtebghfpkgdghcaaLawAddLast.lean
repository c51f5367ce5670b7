/-
  The law FnExactAddLast: the program's AddLast returns what the reference's returns; for all arguments, no condition.
-/
import Derived.Test.YtebghfpkgdghcaaOpen
import Derived.Test.YtebghfpkgdghcaaOpenS
import Derived.Test.YtebghfpkgdghcaaTo
import Derived.Test.YtebghfpkgdghcaaMark
import Derived.Test.YtebghfpkgdghcaaApp2
import Derived.Test.YtebghfpkgdghcaaAddS
import Derived.Test.YtebghfpkgdghcaaAddI
import Derived.ProofKit
import Derived.OpenShut
import Derived.ShutString
import Derived.ChangeOld
import Derived.Deep.RegionHeld3
namespace Go.Proofs.Ytebghfpkgdghcaa.lawAddLast
open Go.ChangeShapes Go.WideShapes Go.ChangeAt Go.RowKit
set_option linter.unusedVariables false

set_option maxRecDepth 100000 in
set_option maxHeartbeats 6400000 in
theorem walk (A0 : Option Addr) (n0 m0 : Nat) (z0 : List LastD) (s1 : ByteArray) (a1 b1 c1 d1 e1 : Int) (w : World) (hr0 : Rd w 6 A0 n0 (lasts z0)) (hn0 : n0 ≤ 9223372036854775807) (hx0 : ∀ x ∈ z0, x.s.size ≤ maxLen) (hs1 : s1.size ≤ maxLen) :
    Calls Try.prog 3 #[.slice A0 n0 m0, .agg #[.string s1, .int .i64 a1, .int .i64 b1, .int .i64 c1, .int .i64 d1, .int .i64 e1]] w fun e w' => e = .returned (.bool true) ∧ Below w.heap.size w w' := by
  have hlen : (addR z0 (⟨s1, a1, b1, c1, d1, e1⟩ : LastD)).1.length ≤ 1048576 := addR_len _ _
  go_enter Try.func3, Try.ntmps3
  have HW := Below.refl w.heap.size w
  go_wp2_with fail
  have BF := (Blk.new w 24 #[.string s1, .int .i64 a1, .int .i64 b1, .int .i64 c1, .int .i64 d1, .int .i64 e1])
  replace HW : Below w.heap.size w (w.alloc (.cells #[.string s1, .int .i64 a1, .int .i64 b1, .int .i64 c1, .int .i64 d1, .int .i64 e1] 24)) := by go_grown
  generalize (w.alloc (.cells #[.string s1, .int .i64 a1, .int .i64 b1, .int .i64 c1, .int .i64 d1, .int .i64 e1] 24)) = wA at *
  have zA := HW.size
  have kF := BF.cell
  have lF := BF.lt
  go_wp2_with fail
  refine (szLastS_any _ _ _ _ _ _ (hr0.below HW) hn0 hx0 (by omega) (by omega)).mono ?_
  rintro e w1 ⟨hb1, rfl | ⟨rL, rfl, ra, rb, rn⟩⟩
  · clear kF lF
    replace BF := BF.below hb1
    replace HW := Bl.then HW hb1
    have zw1 : wA.heap.size ≤ w1.heap.size := hb1.size
    have kF := BF.cell
    have lF := BF.lt
    go_wp2_with fail
    go_ret
    exact ⟨rfl, HW⟩
  clear kF lF
  replace BF := BF.below hb1
  replace HW := Bl.then HW hb1
  have zw1 : wA.heap.size ≤ w1.heap.size := hb1.size
  have kF := BF.cell
  have lF := BF.lt
  by_cases hbig1 : rL < (s1.size : Int)
  · go_wp2_with fail
    refine (szLast_big _ _ _ _ _ _ _ _ (by omega) (by omega) (by omega) (by unfold maxLen at hs1; omega)).mono ?_
    rintro e w2 ⟨rfl, hb2⟩
    clear kF lF
    replace BF := BF.below hb2
    replace HW := Bl.then HW hb2
    have zw2 : w1.heap.size ≤ w2.heap.size := hb2.size
    clear hb2
    have kF := BF.cell
    have lF := BF.lt
    go_wp2_with fail
    go_ret
    exact ⟨rfl, HW⟩
  have hs0 : n0 ≤ 1048576 := by omega
  have hb0 : ¬ (rL - (s1.size : Int)) < 0 := by omega
  go_wp2_with fail
  refine (szLast_ok _ _ _ _ _ _ _ _ (by omega) (by omega)).mono ?_
  rintro e w2 ⟨rfl, hb2⟩
  clear kF lF
  replace BF := BF.below hb2
  replace HW := Bl.then HW hb2
  have zw2 : w1.heap.size ≤ w2.heap.size := hb2.size
  clear hb2
  have kF := BF.cell
  have lF := BF.lt
  go_wp2_with fail
  refine wp_region_held_drew (S := (fun wz => Below w2.heap.size w2 wz ∧ ∀ b o, b < w2.heap.size → wz.cell? ⟨b, o, none⟩ = w2.cell? ⟨b, o, none⟩)) (by kernel_rfl) (old_of (Below.drew (Below.refl _ _))) (fun hHeld => ?_)
  refine wpAnyH_take (i := 0) (oi := ?_) (v := ?_) ?_ (by kernel_rfl) (by kernel_rfl) (by kernel_rfl) ?_ (Or.inl ⟨?_, ?_⟩) (by assumption) ?_
  rotate_left 2
  · (simp only [List.getElem?_toArray, List.getElem?_cons_zero]; rfl)
  · exact fun _ _ _ h => h
  · rfl
  · intro w hSw
    (try dsimp only at hSw)
    go_simp
    try with_reducible rfl
  simp only [put_arr, List.set_cons_zero, List.set_cons_succ]
  refine wpAnyH_take (i := 2) (oi := ?_) (v := ?_) ?_ (by kernel_rfl) (by kernel_rfl) (by kernel_rfl) ?_ (Or.inl ⟨?_, ?_⟩) (by assumption) ?_
  rotate_left 2
  · (simp only [List.getElem?_toArray, List.getElem?_cons_zero, List.getElem?_cons_succ]; rfl)
  · exact fun _ _ _ h => h
  · rfl
  · intro w hSw
    (try dsimp only at hSw)
    go_simp
    try with_reducible rfl
  simp only [put_arr, List.set_cons_zero, List.set_cons_succ]
  refine wpAnyH_ready (rs := [1]) (by kernel_rfl) (by simp) ?_
  refine AllReadyH.cons (o := ?_) ?_ (fun K hK => ?_) AllReadyH.nil
  rotate_left
  · (simp only [List.getElem?_toArray, List.getElem?_cons_zero, List.getElem?_cons_succ]; rfl)
  rw [if_pos (by rfl)]
  go_simp
  (with_reducible refine (toLastS_any _ _ _ _ _ ((hr0.below HW).below hHeld.1) hs0).mono ?_)
  rintro e w3 ⟨As, cs, rfl, os, hb3⟩
  have y3 : w2.heap.size ≤ w3.heap.size := Nat.le_trans hHeld.1.size hb3.size
  have ya3 := (hHeld.1).size
  have yb3 := hb3.size
  have Ls := Lib.hid os.lt
  have HZ3 := Bl.then (w := w2) hHeld.1 hb3
  go_wp2_with fail
  refine hK.out _ _ (old_of HZ3) (fun hHeld2 => ?_)
  clear hK K hHeld
  have hHeld := hHeld2
  clear hHeld2
  refine wpAnyH_ready (rs := [3]) (by kernel_rfl) (by simp) ?_
  refine AllReadyH.cons (o := ?_) ?_ (fun K hK => ?_) AllReadyH.nil
  rotate_left
  · (simp only [List.getElem?_toArray, List.getElem?_cons_zero, List.getElem?_cons_succ]; rfl)
  rw [if_pos (by rfl)]
  go_simp
  (with_reducible refine (toLast_any _ _ _ _ _ _ _).mono ?_)
  rintro e w4 ⟨rfl, hb4⟩
  have y4 : w2.heap.size ≤ w4.heap.size := Nat.le_trans HZ3.size hb4.size
  have ya4 := (HZ3).size
  have yb4 := hb4.size
  replace os := own_below os hb4
  have HZ4 := Bl.then (w := w2) HZ3 hb4
  go_wp2_with fail
  refine hK.out _ _ (old_of HZ4) (fun hHeld2 => ?_)
  clear hK K hHeld
  have hHeld := hHeld2
  clear hHeld2
  refine wpAnyH_ready (rs := [4]) (by kernel_rfl) (by simp) ?_
  refine AllReadyH.cons (o := ?_) ?_ (fun K hK => ?_) AllReadyH.nil
  rotate_left
  · (simp only [List.getElem?_toArray, List.getElem?_cons_zero, List.getElem?_cons_succ]; rfl)
  rw [if_pos (by rfl)]
  go_simp
  (with_reducible refine (sAddLast_any _ _ _ _ z0 (⟨s1, a1, b1, c1, d1, e1⟩ : LastD) _ os hx0 hs0 hs1).mono ?_)
  rintro e w5 ⟨Aw, cw, rfl, ow, hb5⟩
  have y5 : w2.heap.size ≤ w5.heap.size := Nat.le_trans HZ4.size hb5.size
  have ya5 := (HZ4).size
  have yb5 := hb5.size
  replace os := own_below os hb5
  have Lw := Lib.hid ow.lt
  have HZ5 := Bl.then (w := w2) HZ4 hb5
  go_wp2_with fail
  refine hK.out _ _ (old_of HZ5) (fun hHeld2 => ?_)
  clear hK K hHeld
  have hHeld := hHeld2
  clear hHeld2
  refine wpAnyH_take (i := 5) (oi := ?_) (v := ?_) ?_ (by kernel_rfl) (by kernel_rfl) (by kernel_rfl) ?_ (Or.inl ⟨?_, ?_⟩) (by assumption) ?_
  rotate_left 2
  · (simp only [List.getElem?_toArray, List.getElem?_cons_zero, List.getElem?_cons_succ]; rfl)
  · exact fun _ _ _ h => h
  · rfl
  · intro w hSw
    (try dsimp only at hSw)
    go_simp
    try with_reducible rfl
  simp only [put_arr, List.set_cons_zero, List.set_cons_succ]
  refine wpAnyH_take (i := 6) (oi := ?_) (v := ?_) ?_ (by kernel_rfl) (by kernel_rfl) (by kernel_rfl) ?_ (Or.inl ⟨?_, ?_⟩) (by assumption) ?_
  rotate_left 2
  · (simp only [List.getElem?_toArray, List.getElem?_cons_zero, List.getElem?_cons_succ]; rfl)
  · exact fun _ _ _ h => h
  · rfl
  · intro w hSw
    (try dsimp only at hSw)
    go_simp
    try with_reducible rfl
  simp only [put_arr, List.set_cons_zero, List.set_cons_succ]
  refine wpAnyH_take (i := 7) (oi := ?_) (v := ?_) ?_ (by kernel_rfl) (by kernel_rfl) (by kernel_rfl) ?_ (Or.inl ⟨?_, ?_⟩) (by assumption) ?_
  rotate_left 2
  · (simp only [List.getElem?_toArray, List.getElem?_cons_zero, List.getElem?_cons_succ]; rfl)
  · exact fun _ _ _ h => h
  · rfl
  · intro w hSw
    (try dsimp only at hSw)
    go_simp
    try with_reducible rfl
  simp only [put_arr, List.set_cons_zero, List.set_cons_succ]
  refine wpAnyH_take (i := 8) (oi := ?_) (v := ?_) ?_ (by kernel_rfl) (by kernel_rfl) (by kernel_rfl) ?_ (Or.inl ⟨?_, ?_⟩) (by assumption) ?_
  rotate_left 2
  · (simp only [List.getElem?_toArray, List.getElem?_cons_zero, List.getElem?_cons_succ]; rfl)
  · exact fun _ _ _ h => h
  · rfl
  · intro w hSw
    (try dsimp only at hSw)
    go_simp
    try with_reducible rfl
  simp only [put_arr, List.set_cons_zero, List.set_cons_succ]
  refine wpAnyH_take (i := 9) (oi := ?_) (v := ?_) ?_ (by kernel_rfl) (by kernel_rfl) (by kernel_rfl) ?_ (Or.inl ⟨?_, ?_⟩) (by assumption) ?_
  rotate_left 2
  · (simp only [List.getElem?_toArray, List.getElem?_cons_zero, List.getElem?_cons_succ]; rfl)
  · exact fun _ _ _ h => h
  · rfl
  · intro w hSw
    (try dsimp only at hSw)
    go_simp
    try with_reducible rfl
  simp only [put_arr, List.set_cons_zero, List.set_cons_succ]
  refine wpAnyH_done (by kernel_rfl) ?_ _
  clear hHeld
  clear kF lF
  replace BF := BF.below HZ5
  replace HW := Bl.then HW HZ5
  have zw5 : w2.heap.size ≤ w5.heap.size := HZ5.size
  have kF := BF.cell
  have lF := BF.lt
  clear os Ls
  go_wp2_with fail
  refine (toLastS_any _ _ _ _ _ (hr0.below HW) hs0).mono ?_
  rintro e w6 ⟨Ax, cx, rfl, ox, hb6⟩
  have Lx := Lib.hid ox.lt
  clear kF lF
  replace BF := BF.below hb6
  replace ow := own_below ow hb6
  replace HW := Bl.then HW hb6
  have zw6 : w5.heap.size ≤ w6.heap.size := hb6.size
  clear hb6
  have kF := BF.cell
  have lF := BF.lt
  go_wp2_with fail
  refine (toLast_any _ _ _ _ _ _ _).mono ?_
  rintro e w7 ⟨rfl, hb7⟩
  clear kF lF
  replace BF := BF.below hb7
  replace ow := own_below ow hb7
  replace ox := own_below ox hb7
  replace HW := Bl.then HW hb7
  have zw7 : w6.heap.size ≤ w7.heap.size := hb7.size
  clear hb7
  have kF := BF.cell
  have lF := BF.lt
  go_wp2_with fail
  refine (AddLast_any _ _ _ _ z0 (⟨s1, a1, b1, c1, d1, e1⟩ : LastD) _ ox hx0 hs0 hs1).mono ?_
  rintro e w8 ⟨Ag, cg, rfl, og, hb8⟩
  have Lg := Lib.hid og.lt
  clear kF lF
  replace BF := BF.below hb8
  replace ow := own_below ow hb8
  replace ox := own_below ox hb8
  replace HW := Bl.then HW hb8
  have zw8 : w7.heap.size ≤ w8.heap.size := hb8.size
  clear hb8
  have kF := BF.cell
  have lF := BF.lt
  go_wp2_with fail
  refine (eqLastS_same _ _ _ _ _ _ _ (Rd.of_own og) (Rd.of_own ow) (by omega)).mono ?_
  rintro e w9 ⟨rfl, hb9⟩
  clear kF lF
  replace BF := BF.below hb9
  replace ow := own_below ow hb9
  replace ox := own_below ox hb9
  replace og := own_below og hb9
  replace HW := Bl.then HW hb9
  have zw9 : w8.heap.size ≤ w9.heap.size := hb9.size
  clear hb9
  have kF := BF.cell
  have lF := BF.lt
  go_wp2_with fail
  refine (toLastS_any _ _ _ _ _ (hr0.below HW) hs0).mono ?_
  rintro e w10 ⟨Ay, cy, rfl, oy, hb10⟩
  have Ly := Lib.hid oy.lt
  clear kF lF
  replace BF := BF.below hb10
  replace ow := own_below ow hb10
  replace ox := own_below ox hb10
  replace og := own_below og hb10
  replace HW := Bl.then HW hb10
  have zw10 : w9.heap.size ≤ w10.heap.size := hb10.size
  clear hb10
  have kF := BF.cell
  have lF := BF.lt
  go_wp2_with fail
  refine (eqLastS_same _ _ _ _ _ _ _ (Rd.of_own ox) (Rd.of_own oy) (by omega)).mono ?_
  rintro e w11 ⟨rfl, hb11⟩
  clear kF lF
  replace BF := BF.below hb11
  replace ow := own_below ow hb11
  replace ox := own_below ox hb11
  replace og := own_below og hb11
  replace oy := own_below oy hb11
  replace HW := Bl.then HW hb11
  have zw11 : w10.heap.size ≤ w11.heap.size := hb11.size
  clear hb11
  have kF := BF.cell
  have lF := BF.lt
  clear oy Ly
  go_wp2_with fail
  refine (markLastS_any _ _ _ _ _ _ _ ox (by omega) (by omega)).mono ?_
  rintro e w12 ⟨rfl, ux, mx, px, hg12⟩
  clear kF lF
  replace ow := keep_own ow hg12 (dis_of Lw Lx (by omega))
  replace og := keep_own og hg12 (dis_of Lg Lx (by omega))
  replace BF := blk_keep BF hg12 ox (by decide)
  replace HW := HW.grown hg12 HW.size (fun q hq => Nat.le_trans (by omega) (ox.lt q hq).1)
  have zw12 : w11.heap.size ≤ w12.heap.size := hg12.size
  replace ox := px
  clear px hg12
  have kF := BF.cell
  have lF := BF.lt
  clear ox Lx
  go_wp2_with fail
  refine (eqLastS_same _ _ _ _ _ _ _ (Rd.of_own og) (Rd.of_own ow) (by omega)).mono ?_
  rintro e w13 ⟨rfl, hb13⟩
  clear kF lF
  replace BF := BF.below hb13
  replace ow := own_below ow hb13
  replace og := own_below og hb13
  replace HW := Bl.then HW hb13
  have zw13 : w12.heap.size ≤ w13.heap.size := hb13.size
  clear hb13
  have kF := BF.cell
  have lF := BF.lt
  go_wp2_with fail
  refine (markLastS_any _ _ _ _ _ _ _ og (by omega) (by omega)).mono ?_
  rintro e w14 ⟨rfl, ug, mg, pg, hg14⟩
  clear kF lF
  replace ow := keep_own ow hg14 (dis_of Lw Lg (by omega))
  replace BF := blk_keep BF hg14 og (by decide)
  replace HW := HW.grown hg14 HW.size (fun q hq => Nat.le_trans (by omega) (og.lt q hq).1)
  have zw14 : w13.heap.size ≤ w14.heap.size := hg14.size
  replace og := pg
  clear pg hg14
  have kF := BF.cell
  have lF := BF.lt
  go_wp2_with fail
  refine (heldLastS_any _ _ _ _ _ _ (Rd.of_own og) mg (by omega) (by omega)).mono ?_
  rintro e w15 ⟨rfl, hb15⟩
  clear kF lF
  replace BF := BF.below hb15
  replace ow := own_below ow hb15
  replace og := own_below og hb15
  replace HW := Bl.then HW hb15
  have zw15 : w14.heap.size ≤ w15.heap.size := hb15.size
  clear hb15
  have kF := BF.cell
  have lF := BF.lt
  go_wp2_with fail
  refine wp_region_held_drew (S := (fun wz => Below w15.heap.size w15 wz ∧ ∀ b o, b < w15.heap.size → wz.cell? ⟨b, o, none⟩ = w15.cell? ⟨b, o, none⟩)) (by kernel_rfl) (old_of (Below.drew (Below.refl _ _))) (fun hHeld => ?_)
  refine wpAnyH_take (i := 0) (oi := ?_) (v := ?_) ?_ (by kernel_rfl) (by kernel_rfl) (by kernel_rfl) ?_ (Or.inl ⟨?_, ?_⟩) (by assumption) ?_
  rotate_left 2
  · (simp only [List.getElem?_toArray, List.getElem?_cons_zero]; rfl)
  · exact fun _ _ _ h => h
  · rfl
  · intro w hSw
    (try dsimp only at hSw)
    go_simp
    try with_reducible rfl
  simp only [put_arr, List.set_cons_zero, List.set_cons_succ]
  refine wpAnyH_take (i := 2) (oi := ?_) (v := ?_) ?_ (by kernel_rfl) (by kernel_rfl) (by kernel_rfl) ?_ (Or.inl ⟨?_, ?_⟩) (by assumption) ?_
  rotate_left 2
  · (simp only [List.getElem?_toArray, List.getElem?_cons_zero, List.getElem?_cons_succ]; rfl)
  · exact fun _ _ _ h => h
  · rfl
  · intro w hSw
    (try dsimp only at hSw)
    go_simp
    try with_reducible rfl
  simp only [put_arr, List.set_cons_zero, List.set_cons_succ]
  refine wpAnyH_ready (rs := [1]) (by kernel_rfl) (by simp) ?_
  refine AllReadyH.cons (o := ?_) ?_ (fun K hK => ?_) AllReadyH.nil
  rotate_left
  · (simp only [List.getElem?_toArray, List.getElem?_cons_zero, List.getElem?_cons_succ]; rfl)
  rw [if_pos (by rfl)]
  go_simp
  (with_reducible refine (toLastS_any _ _ _ _ _ ((hr0.below HW).below hHeld.1) hs0).mono ?_)
  rintro e w16 ⟨As, cs, rfl, os, hb16⟩
  have y16 : w15.heap.size ≤ w16.heap.size := Nat.le_trans hHeld.1.size hb16.size
  have ya16 := (hHeld.1).size
  have yb16 := hb16.size
  have Ls := Lib.hid os.lt
  have HZ16 := Bl.then (w := w15) hHeld.1 hb16
  go_wp2_with fail
  refine hK.out _ _ (old_of HZ16) (fun hHeld2 => ?_)
  clear hK K hHeld
  have hHeld := hHeld2
  clear hHeld2
  refine wpAnyH_ready (rs := [3]) (by kernel_rfl) (by simp) ?_
  refine AllReadyH.cons (o := ?_) ?_ (fun K hK => ?_) AllReadyH.nil
  rotate_left
  · (simp only [List.getElem?_toArray, List.getElem?_cons_zero, List.getElem?_cons_succ]; rfl)
  rw [if_pos (by rfl)]
  go_simp
  (with_reducible refine (toLast_any _ _ _ _ _ _ _).mono ?_)
  rintro e w17 ⟨rfl, hb17⟩
  have y17 : w15.heap.size ≤ w17.heap.size := Nat.le_trans HZ16.size hb17.size
  have ya17 := (HZ16).size
  have yb17 := hb17.size
  replace os := own_below os hb17
  have HZ17 := Bl.then (w := w15) HZ16 hb17
  go_wp2_with fail
  refine hK.out _ _ (old_of HZ17) (fun hHeld2 => ?_)
  clear hK K hHeld
  have hHeld := hHeld2
  clear hHeld2
  refine wpAnyH_ready (rs := [4]) (by kernel_rfl) (by simp) ?_
  refine AllReadyH.cons (o := ?_) ?_ (fun K hK => ?_) AllReadyH.nil
  rotate_left
  · (simp only [List.getElem?_toArray, List.getElem?_cons_zero, List.getElem?_cons_succ]; rfl)
  rw [if_pos (by rfl)]
  go_simp
  (with_reducible refine (AddLast_any _ _ _ _ z0 (⟨s1, a1, b1, c1, d1, e1⟩ : LastD) _ os hx0 hs0 hs1).mono ?_)
  rintro e w18 ⟨Ak, ck, rfl, ok, hb18⟩
  have y18 : w15.heap.size ≤ w18.heap.size := Nat.le_trans HZ17.size hb18.size
  have ya18 := (HZ17).size
  have yb18 := hb18.size
  replace os := own_below os hb18
  have Lk := Lib.hid ok.lt
  have HZ18 := Bl.then (w := w15) HZ17 hb18
  go_wp2_with fail
  refine hK.out _ _ (old_of HZ18) (fun hHeld2 => ?_)
  clear hK K hHeld
  have hHeld := hHeld2
  clear hHeld2
  refine wpAnyH_take (i := 5) (oi := ?_) (v := ?_) ?_ (by kernel_rfl) (by kernel_rfl) (by kernel_rfl) ?_ (Or.inl ⟨?_, ?_⟩) (by assumption) ?_
  rotate_left 2
  · (simp only [List.getElem?_toArray, List.getElem?_cons_zero, List.getElem?_cons_succ]; rfl)
  · exact fun _ _ _ h => h
  · rfl
  · intro w hSw
    (try dsimp only at hSw)
    go_simp
    try with_reducible rfl
  simp only [put_arr, List.set_cons_zero, List.set_cons_succ]
  refine wpAnyH_take (i := 6) (oi := ?_) (v := ?_) ?_ (by kernel_rfl) (by kernel_rfl) (by kernel_rfl) ?_ (Or.inl ⟨?_, ?_⟩) (by assumption) ?_
  rotate_left 2
  · (simp only [List.getElem?_toArray, List.getElem?_cons_zero, List.getElem?_cons_succ]; rfl)
  · exact fun _ _ _ h => h
  · rfl
  · intro w hSw
    (try dsimp only at hSw)
    go_simp
    try with_reducible rfl
  simp only [put_arr, List.set_cons_zero, List.set_cons_succ]
  refine wpAnyH_take (i := 7) (oi := ?_) (v := ?_) ?_ (by kernel_rfl) (by kernel_rfl) (by kernel_rfl) ?_ (Or.inl ⟨?_, ?_⟩) (by assumption) ?_
  rotate_left 2
  · (simp only [List.getElem?_toArray, List.getElem?_cons_zero, List.getElem?_cons_succ]; rfl)
  · exact fun _ _ _ h => h
  · rfl
  · intro w hSw
    (try dsimp only at hSw)
    go_simp
    try with_reducible rfl
  simp only [put_arr, List.set_cons_zero, List.set_cons_succ]
  refine wpAnyH_take (i := 8) (oi := ?_) (v := ?_) ?_ (by kernel_rfl) (by kernel_rfl) (by kernel_rfl) ?_ (Or.inl ⟨?_, ?_⟩) (by assumption) ?_
  rotate_left 2
  · (simp only [List.getElem?_toArray, List.getElem?_cons_zero, List.getElem?_cons_succ]; rfl)
  · exact fun _ _ _ h => h
  · rfl
  · intro w hSw
    (try dsimp only at hSw)
    go_simp
    try with_reducible rfl
  simp only [put_arr, List.set_cons_zero, List.set_cons_succ]
  refine wpAnyH_take (i := 9) (oi := ?_) (v := ?_) ?_ (by kernel_rfl) (by kernel_rfl) (by kernel_rfl) ?_ (Or.inl ⟨?_, ?_⟩) (by assumption) ?_
  rotate_left 2
  · (simp only [List.getElem?_toArray, List.getElem?_cons_zero, List.getElem?_cons_succ]; rfl)
  · exact fun _ _ _ h => h
  · rfl
  · intro w hSw
    (try dsimp only at hSw)
    go_simp
    try with_reducible rfl
  simp only [put_arr, List.set_cons_zero, List.set_cons_succ]
  refine wpAnyH_done (by kernel_rfl) ?_ _
  clear hHeld
  clear kF lF
  replace BF := BF.below HZ18
  replace ow := own_below ow HZ18
  replace og := own_below og HZ18
  replace HW := Bl.then HW HZ18
  have zw18 : w15.heap.size ≤ w18.heap.size := HZ18.size
  have kF := BF.cell
  have lF := BF.lt
  clear os Ls
  go_wp2_with fail
  refine (eqLastS_same _ _ _ _ _ _ _ (Rd.of_own ok) (Rd.of_own ow) (by omega)).mono ?_
  rintro e w19 ⟨rfl, hb19⟩
  clear kF lF
  replace BF := BF.below hb19
  replace ow := own_below ow hb19
  replace og := own_below og hb19
  replace ok := own_below ok hb19
  replace HW := Bl.then HW hb19
  have zw19 : w18.heap.size ≤ w19.heap.size := hb19.size
  clear hb19
  have kF := BF.cell
  have lF := BF.lt
  clear ok Lk
  clear ow Lw
  go_wp2_with fail
  refine (heldLastS_any _ _ _ _ _ _ (Rd.of_own og) mg (by omega) (by omega)).mono ?_
  rintro e w20 ⟨rfl, hb20⟩
  clear kF lF
  replace BF := BF.below hb20
  replace og := own_below og hb20
  replace HW := Bl.then HW hb20
  have zw20 : w19.heap.size ≤ w20.heap.size := hb20.size
  clear hb20
  have kF := BF.cell
  have lF := BF.lt
  go_wp2_with fail
  go_ret
  exact ⟨rfl, HW⟩

/-! ### The row: the argument opened, the walk, and everything read again behind it. -/
set_option maxRecDepth 100000 in
theorem lifted (os : Os) (started : os.Started) (H : Type) (enc : TypeId × Value → H) :
    ReturnsInHanded {} Try.checked os 3 .any (Rows.fnExactAddLastSpec.pre6 enc Try.prog Try.f3 Rows.fnExactAddLastRow.domain false) (Rows.fnExactAddLastSpec.post enc Try.prog Try.f3 false true false false) := by
  refine returnsInHanded_of_change (C := Try.checked) own started (by kernel_rfl) Try.func3
    (ChangeSpec.witness6 (enc := enc) (C := Try.checked) false ⟨#[], #[.slice none 0 0, .agg #[.string ByteArray.empty, .int .i64 0, .int .i64 0, .int .i64 0, .int .i64 0, .int .i64 0]], []⟩ 8 (by kernel_rfl) (by kernel_rfl) (by kernel_rfl) (by kernel_rfl)) ?_
  intro W base args ds gs before hval0 hW hcnd _
  have hval : ∀ (j : Nat) t v, Try.f3.params[j]? = some t → args[j]? = some v → Value.okWide Try.prog W .any base t v := hval0
  have hW' := hW
  obtain ⟨p, q, hA0, hV, rfl, hfz, hnd⟩ := hW
  have hA : DataW.TrodAll enc Try.prog W 0 (fun _ => true) true Try.f3.params.toList args.toList ds p := hA0
  rw [Try.params3] at hA hval
  obtain ⟨v0, vs0, d0, ds0, p0, q0, hargs, rfl, rfl, h0, r0⟩ := trodAll_cons hA
  obtain ⟨v1, vs1, d1, ds1, p1, q1, rfl, rfl, rfl, h1, r1⟩ := trodAll_cons r0
  obtain ⟨rfl, rfl, rfl⟩ := trodAll_nil r1
  obtain rfl : args = #[v0, v1] := by cases args; simp_all
  obtain ⟨rfl, rfl⟩ := trodVars_none hV
  have k0 := h0
  have lt0 : ∀ x ∈ p0, x.block < W.heap.size := by obtain ⟨m, hm⟩ := k0; exact DataW.trod_lt m _ _ _ hm
  have k1 := h1
  have lt1 : ∀ x ∈ p1, x.block < W.heap.size := by obtain ⟨m, hm⟩ := k1; exact DataW.trod_lt m _ _ _ hm
  obtain ⟨A0, n0, m0, rfl⟩ := okWide_slice Try.underlying22 (hval 0 22 v0 rfl rfl)
  obtain ⟨z0, hr0, hn0, hx0⟩ := open_LastS h0
  obtain ⟨s1, a1, b1, c1, d1, e1, rfl, hs1, -, -, -, -, -⟩ := open_Last (hval 1 24 v1 rfl rfl) h1
  clear hA0 hval0
  refine (walk A0 n0 m0 z0 s1 a1 b1 c1 d1 e1 W hr0 hn0 hx0 hs1).mono fun e W' ⟨he, bel⟩ => ?_
  subst he
  exact ⟨_, rfl, _, _, _, [], _, [], hW', trodAll_mk1 (shut_bool Try.underlying4 _), (trodAll_cons_mk (Below.trod laidOut (by kernel_rfl) (of_decide_eq_true (by kernel_rfl)) k0 bel lt0) (trodAll_cons_mk (Below.trod laidOut (by kernel_rfl) (of_decide_eq_true (by kernel_rfl)) k1 bel lt1) trodAll_mk0)), rfl, bel.frame _, fun h => by cases h⟩

theorem over : Rows.fnExactAddLastRow.holds Try.pinned (OpenSpec.ofChange Rows.fnExactAddLastSpec) :=
  OpenClaim.holds_of_wide 3 Try.f3 rfl rfl rfl rfl rfl rfl rfl ⟨rfl, rfl, rfl, rfl, rfl⟩ rfl rfl rfl rfl rfl (by kernel_rfl) Try.func3 (by kernel_rfl)
    (of_decide_eq_true (by kernel_rfl)) (by unfold Func.isWrapper; first | (rw [if_pos (by decide +kernel)]; kernel_rfl) | (rw [if_neg (by decide +kernel)]; exact ⟨rfl, rfl⟩))
    (fun os started H enc _ => lifted os started H enc)

theorem proved : Rows.FnExactAddLastSaid := over
end Go.Proofs.Ytebghfpkgdghcaa.lawAddLast
