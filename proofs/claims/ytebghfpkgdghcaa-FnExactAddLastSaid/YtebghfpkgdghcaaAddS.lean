/-
  AddLast of the reference. Names are any strings that Go can hold; the slice is one of the caller's own rows.
-/
import Derived.Test.YtebghfpkgdghcaaAddP
import Derived.Deep.RegionHeld3
import Derived.Deep.DeepCutAuto
namespace Go.Proofs.Ytebghfpkgdghcaa
open Go.RowKit
set_option maxHeartbeats 3200000
set_option linter.unusedVariables false

set_option maxRecDepth 100000 in
theorem sAddLast_any (lo : Nat) (A : Option Addr) (n c : Nat) (xs : List LastD) (x : LastD) (w : World) (hO : w.ownsRow lo 31 6 (.slice A n c) n (lasts xs)) (hx : ∀ y ∈ xs, y.s.size ≤ maxLen) (hn : n ≤ 1048576) (hs : x.s.size ≤ maxLen) :
    Calls Try.prog 6 #[.slice A n c, .agg #[.string x.s, .int .i64 x.l, .int .i64 x.b, .int .i64 x.i, .int .i64 x.h, .int .i64 x.p]] w (RetLs (addR xs x) w) := by
  have hX := Rd.of_own hO
  have hxl := Lib.hid hX.lasts_length
  have h1L : lOk x = lastOk x.s x.l x.b x.i x.h x.p := rfl
  cases h1 : lastsOk xs
  · have hr := Lib.hid (show addR xs x = ([], 1) by simp [addR, h1])
    clear h1L
    go_enter Try.func6, Try.ntmps6
    go_wp2_with fail
    refine (l04Ok_any _ _ _ _ _ (hX.alloc _) (by omega) hx).mono ?_
    rintro e w1 ⟨rfl, H1⟩
    have BX := (Blk.new w 31 #[.string x.s, .int .i64 x.l, .int .i64 x.b, .int .i64 x.i, .int .i64 x.h, .int .i64 x.p]).below H1
    have HW : Below w.heap.size w w1 := Bl.then (by go_grown) H1
    clear H1
    have cX0 : w1.cell? ⟨w.heap.size, 0, none⟩ = some (.string x.s) := BX.cell 0
    have cX1 : w1.cell? ⟨w.heap.size, 1, none⟩ = some (.int .i64 x.l) := BX.cell 1
    have cX2 : w1.cell? ⟨w.heap.size, 2, none⟩ = some (.int .i64 x.b) := BX.cell 2
    have cX3 : w1.cell? ⟨w.heap.size, 3, none⟩ = some (.int .i64 x.i) := BX.cell 3
    have cX4 : w1.cell? ⟨w.heap.size, 4, none⟩ = some (.int .i64 x.h) := BX.cell 4
    have cX5 : w1.cell? ⟨w.heap.size, 5, none⟩ = some (.int .i64 x.p) := BX.cell 5
    have lX := BX.lt
    go_wp2_with fail
    go_ret2
    exact RetLs.nil hr.out HW
  cases h2 : lastOk x.s x.l x.b x.i x.h x.p
  · have hr := Lib.hid (show addR xs x = ([], 2) by simp [addR, h1, h1L, h2])
    clear h1L
    go_enter Try.func6, Try.ntmps6
    go_wp2_with fail
    refine (l04Ok_any _ _ _ _ _ (hX.alloc _) (by omega) hx).mono ?_
    rintro e w1 ⟨rfl, H1⟩
    have BX := (Blk.new w 31 #[.string x.s, .int .i64 x.l, .int .i64 x.b, .int .i64 x.i, .int .i64 x.h, .int .i64 x.p]).below H1
    have HW : Below w.heap.size w w1 := Bl.then (by go_grown) H1
    clear H1
    have cX0 : w1.cell? ⟨w.heap.size, 0, none⟩ = some (.string x.s) := BX.cell 0
    have cX1 : w1.cell? ⟨w.heap.size, 1, none⟩ = some (.int .i64 x.l) := BX.cell 1
    have cX2 : w1.cell? ⟨w.heap.size, 2, none⟩ = some (.int .i64 x.b) := BX.cell 2
    have cX3 : w1.cell? ⟨w.heap.size, 3, none⟩ = some (.int .i64 x.i) := BX.cell 3
    have cX4 : w1.cell? ⟨w.heap.size, 4, none⟩ = some (.int .i64 x.h) := BX.cell 4
    have cX5 : w1.cell? ⟨w.heap.size, 5, none⟩ = some (.int .i64 x.p) := BX.cell 5
    have lX := BX.lt
    go_wp2_with fail
    refine (l04One_any _ _ _ _ _ _ _ hs).mono ?_
    rintro e w2 ⟨rfl, hb2⟩
    clear cX0 cX1 cX2 cX3 cX4 cX5 lX
    replace BX := BX.below hb2
    replace HW := Bl.then HW hb2
    have cX0 : w2.cell? ⟨w.heap.size, 0, none⟩ = some (.string x.s) := BX.cell 0
    have cX1 : w2.cell? ⟨w.heap.size, 1, none⟩ = some (.int .i64 x.l) := BX.cell 1
    have cX2 : w2.cell? ⟨w.heap.size, 2, none⟩ = some (.int .i64 x.b) := BX.cell 2
    have cX3 : w2.cell? ⟨w.heap.size, 3, none⟩ = some (.int .i64 x.i) := BX.cell 3
    have cX4 : w2.cell? ⟨w.heap.size, 4, none⟩ = some (.int .i64 x.h) := BX.cell 4
    have cX5 : w2.cell? ⟨w.heap.size, 5, none⟩ = some (.int .i64 x.p) := BX.cell 5
    have lX := BX.lt
    go_wp2_with fail
    go_ret2
    exact RetLs.nil hr.out HW
  have hri := rising_of h1
  cases h3 : knownAt xs x.s
  rotate_left
  · have hr := Lib.hid (show addR xs x = ([], 4) by simp [addR, h1, h1L, h2, h3])
    have hf := find_some hri h3
    have hf0 : 0 ≤ findI xs x.s := by omega
    clear h1L
    go_enter Try.func6, Try.ntmps6
    go_wp2_with fail
    refine (l04Ok_any _ _ _ _ _ (hX.alloc _) (by omega) hx).mono ?_
    rintro e w1 ⟨rfl, H1⟩
    have BX := (Blk.new w 31 #[.string x.s, .int .i64 x.l, .int .i64 x.b, .int .i64 x.i, .int .i64 x.h, .int .i64 x.p]).below H1
    have HW : Below w.heap.size w w1 := Bl.then (by go_grown) H1
    clear H1
    have cX0 : w1.cell? ⟨w.heap.size, 0, none⟩ = some (.string x.s) := BX.cell 0
    have cX1 : w1.cell? ⟨w.heap.size, 1, none⟩ = some (.int .i64 x.l) := BX.cell 1
    have cX2 : w1.cell? ⟨w.heap.size, 2, none⟩ = some (.int .i64 x.b) := BX.cell 2
    have cX3 : w1.cell? ⟨w.heap.size, 3, none⟩ = some (.int .i64 x.i) := BX.cell 3
    have cX4 : w1.cell? ⟨w.heap.size, 4, none⟩ = some (.int .i64 x.h) := BX.cell 4
    have cX5 : w1.cell? ⟨w.heap.size, 5, none⟩ = some (.int .i64 x.p) := BX.cell 5
    have lX := BX.lt
    go_wp2_with fail
    refine (l04One_any _ _ _ _ _ _ _ hs).mono ?_
    rintro e w2 ⟨rfl, hb2⟩
    clear cX0 cX1 cX2 cX3 cX4 cX5 lX
    replace BX := BX.below hb2
    replace HW := Bl.then HW hb2
    have cX0 : w2.cell? ⟨w.heap.size, 0, none⟩ = some (.string x.s) := BX.cell 0
    have cX1 : w2.cell? ⟨w.heap.size, 1, none⟩ = some (.int .i64 x.l) := BX.cell 1
    have cX2 : w2.cell? ⟨w.heap.size, 2, none⟩ = some (.int .i64 x.b) := BX.cell 2
    have cX3 : w2.cell? ⟨w.heap.size, 3, none⟩ = some (.int .i64 x.i) := BX.cell 3
    have cX4 : w2.cell? ⟨w.heap.size, 4, none⟩ = some (.int .i64 x.h) := BX.cell 4
    have cX5 : w2.cell? ⟨w.heap.size, 5, none⟩ = some (.int .i64 x.p) := BX.cell 5
    have lX := BX.lt
    go_wp2_with (go_at_call 15; refine (l04Find_any _ _ _ xs _ _ (hX.below HW) hn).mono ?_; rintro e w9 ⟨rfl, rfl⟩)
    go_ret2
    exact RetLs.nil hr.out HW
  have hf := find_none hri h3
  have hf0 : ¬ 0 ≤ findI xs x.s := by omega
  by_cases h4 : 30 ≤ xs.length
  · have hr := Lib.hid (show addR xs x = ([], 5) by simp [addR, h1, h1L, h2, h3, h4])
    have h30 : 30 ≤ n := by have := hxl.out; omega
    clear h1L
    go_enter Try.func6, Try.ntmps6
    go_wp2_with fail
    refine (l04Ok_any _ _ _ _ _ (hX.alloc _) (by omega) hx).mono ?_
    rintro e w1 ⟨rfl, H1⟩
    have BX := (Blk.new w 31 #[.string x.s, .int .i64 x.l, .int .i64 x.b, .int .i64 x.i, .int .i64 x.h, .int .i64 x.p]).below H1
    have HW : Below w.heap.size w w1 := Bl.then (by go_grown) H1
    clear H1
    have cX0 : w1.cell? ⟨w.heap.size, 0, none⟩ = some (.string x.s) := BX.cell 0
    have cX1 : w1.cell? ⟨w.heap.size, 1, none⟩ = some (.int .i64 x.l) := BX.cell 1
    have cX2 : w1.cell? ⟨w.heap.size, 2, none⟩ = some (.int .i64 x.b) := BX.cell 2
    have cX3 : w1.cell? ⟨w.heap.size, 3, none⟩ = some (.int .i64 x.i) := BX.cell 3
    have cX4 : w1.cell? ⟨w.heap.size, 4, none⟩ = some (.int .i64 x.h) := BX.cell 4
    have cX5 : w1.cell? ⟨w.heap.size, 5, none⟩ = some (.int .i64 x.p) := BX.cell 5
    have lX := BX.lt
    go_wp2_with fail
    refine (l04One_any _ _ _ _ _ _ _ hs).mono ?_
    rintro e w2 ⟨rfl, hb2⟩
    clear cX0 cX1 cX2 cX3 cX4 cX5 lX
    replace BX := BX.below hb2
    replace HW := Bl.then HW hb2
    have cX0 : w2.cell? ⟨w.heap.size, 0, none⟩ = some (.string x.s) := BX.cell 0
    have cX1 : w2.cell? ⟨w.heap.size, 1, none⟩ = some (.int .i64 x.l) := BX.cell 1
    have cX2 : w2.cell? ⟨w.heap.size, 2, none⟩ = some (.int .i64 x.b) := BX.cell 2
    have cX3 : w2.cell? ⟨w.heap.size, 3, none⟩ = some (.int .i64 x.i) := BX.cell 3
    have cX4 : w2.cell? ⟨w.heap.size, 4, none⟩ = some (.int .i64 x.h) := BX.cell 4
    have cX5 : w2.cell? ⟨w.heap.size, 5, none⟩ = some (.int .i64 x.p) := BX.cell 5
    have lX := BX.lt
    go_wp2_with (go_at_call 15; refine (l04Find_any _ _ _ xs _ _ (hX.below HW) hn).mono ?_; rintro e w9 ⟨rfl, rfl⟩)
    go_ret2
    exact RetLs.nil hr.out HW
  have hr := Lib.hid (show addR xs x = (insL xs (cutAt xs x.s) x, 0) by simp [addR, h1, h1L, h2, h3, h4])
  have h30 : n < 30 := by have := hxl.out; omega
  have h30' : ¬ 30 ≤ n := by omega
  have hnot := Lib.hid (fun (j : Nat) (hj : j < xs.length) => not_at hri h3 hj)
  have hrih := Lib.hid hri
  clear h1L hri h3 h4 hf
  go_enter Try.func6, Try.ntmps6
  go_wp2_with fail
  refine (l04Ok_any _ _ _ _ _ (hX.alloc _) (by omega) hx).mono ?_
  rintro e w1 ⟨rfl, H1⟩
  have BX := (Blk.new w 31 #[.string x.s, .int .i64 x.l, .int .i64 x.b, .int .i64 x.i, .int .i64 x.h, .int .i64 x.p]).below H1
  have HW : Below w.heap.size w w1 := Bl.then (by go_grown) H1
  clear H1
  have cX0 : w1.cell? ⟨w.heap.size, 0, none⟩ = some (.string x.s) := BX.cell 0
  have cX1 : w1.cell? ⟨w.heap.size, 1, none⟩ = some (.int .i64 x.l) := BX.cell 1
  have cX2 : w1.cell? ⟨w.heap.size, 2, none⟩ = some (.int .i64 x.b) := BX.cell 2
  have cX3 : w1.cell? ⟨w.heap.size, 3, none⟩ = some (.int .i64 x.i) := BX.cell 3
  have cX4 : w1.cell? ⟨w.heap.size, 4, none⟩ = some (.int .i64 x.h) := BX.cell 4
  have cX5 : w1.cell? ⟨w.heap.size, 5, none⟩ = some (.int .i64 x.p) := BX.cell 5
  have lX := BX.lt
  go_wp2_with fail
  refine (l04One_any _ _ _ _ _ _ _ hs).mono ?_
  rintro e w2 ⟨rfl, hb2⟩
  clear cX0 cX1 cX2 cX3 cX4 cX5 lX
  replace BX := BX.below hb2
  replace HW := Bl.then HW hb2
  have cX0 : w2.cell? ⟨w.heap.size, 0, none⟩ = some (.string x.s) := BX.cell 0
  have cX1 : w2.cell? ⟨w.heap.size, 1, none⟩ = some (.int .i64 x.l) := BX.cell 1
  have cX2 : w2.cell? ⟨w.heap.size, 2, none⟩ = some (.int .i64 x.b) := BX.cell 2
  have cX3 : w2.cell? ⟨w.heap.size, 3, none⟩ = some (.int .i64 x.i) := BX.cell 3
  have cX4 : w2.cell? ⟨w.heap.size, 4, none⟩ = some (.int .i64 x.h) := BX.cell 4
  have cX5 : w2.cell? ⟨w.heap.size, 5, none⟩ = some (.int .i64 x.p) := BX.cell 5
  have lX := BX.lt
  clear cX0 cX1 cX2 cX3 cX4 cX5 lX
  have hXW := hX.below HW
  have kX := BX.cell
  have lX := BX.lt
  go_wp2_with (go_at_call 15; refine (l04Find_any _ _ _ xs _ _ (hX.below HW) hn).mono ?_; rintro e w9 ⟨rfl, rfl⟩)
  clear kX lX hf0 h1 h2 h30'
  go_loopw [6] (fun s wr => ∃ k : Nat, s = .int .i64 k ∧ k ≤ n ∧ Hid (Behind xs x.s k) ∧ Below w2.heap.size w2 wr) (fun s _ => (intOf s).toNat)
  case atStart => exact ⟨n, rfl, Nat.le_refl _, Lib.hid (by rw [← hxl.out]; exact Behind.none _ _), Below.refl _ _⟩
  case round =>
    obtain ⟨k, rfl, hkn, hbe, HP⟩ := hrel
    have hxl' := hxl.out
    by_cases hk0 : k = 0
    · subst hk0
      have hcut := Lib.hid (hbe.out.cut hrih.out (Nat.zero_le _) (.inl rfl))
      clear hbe
      go_wp2_with fail
      refine wp_region_held_drew (S := (fun wz => Below wr.heap.size wr wz ∧ ∀ b o, b < wr.heap.size → wz.cell? ⟨b, o, none⟩ = wr.cell? ⟨b, o, none⟩)) (by kernel_rfl) (old_of (Below.drew (Below.refl _ _))) (fun hHeld => ?_)
      refine wpAnyH_take (i := 0) (oi := ?_) (v := ?_) ?_ (by kernel_rfl) (by kernel_rfl) (by kernel_rfl) ?_ (Or.inl ⟨?_, ?_⟩) (by assumption) ?_
      rotate_left 2
      · (simp only [List.getElem?_toArray, List.getElem?_cons_zero]; rfl)
      · exact fun _ _ _ h => h
      · rfl
      · intro w hSw
        (try dsimp only at hSw)
        go_simp
        try with_reducible rfl
      simp only [put_arr, List.set_cons_zero, List.set_cons_succ]
      refine wpAnyH_take (i := 1) (oi := ?_) (v := ?_) ?_ (by kernel_rfl) (by kernel_rfl) (by kernel_rfl) ?_ (Or.inl ⟨?_, ?_⟩) (by assumption) ?_
      rotate_left 2
      · (simp only [List.getElem?_toArray, List.getElem?_cons_zero, List.getElem?_cons_succ]; rfl)
      · exact fun _ _ _ h => h
      · rfl
      · intro w hSw
        (try dsimp only at hSw)
        go_simp
        try with_reducible rfl
      simp only [put_arr, List.set_cons_zero, List.set_cons_succ]
      refine wpAnyH_take (i := 2) (oi := ?_) (v := ?_) ?_ (by kernel_rfl) (by kernel_rfl) (by kernel_rfl) ?_ (Or.inl ⟨?_, ?_⟩) (by assumption) ?_
      rotate_left 2
      · (simp only [List.getElem?_toArray, List.getElem?_cons_zero, List.getElem?_cons_succ]; rfl)
      · exact fun _ _ _ h => h
      · rfl
      · intro w hSw
        (try dsimp only at hSw)
        go_simp
        try with_reducible rfl
      simp only [put_arr, List.set_cons_zero, List.set_cons_succ]
      refine wpAnyH_take (i := 3) (oi := ?_) ?_ (by kernel_rfl) (by kernel_rfl) (by kernel_rfl) ?_ (Or.inr ⟨?_, rfl⟩) (by assumption) ?_
      rotate_left 1
      · (simp only [List.getElem?_toArray, List.getElem?_cons_zero, List.getElem?_cons_succ]; rfl)
      · exact fun _ _ _ h => h
      · rfl
      simp only [put_arr, List.set_cons_zero, List.set_cons_succ]
      refine wpAnyH_take (i := 4) (oi := ?_) ?_ (by kernel_rfl) (by kernel_rfl) (by kernel_rfl) ?_ (Or.inr ⟨?_, rfl⟩) (by assumption) ?_
      rotate_left 1
      · (simp only [List.getElem?_toArray, List.getElem?_cons_zero, List.getElem?_cons_succ]; rfl)
      · exact fun _ _ _ h => h
      · rfl
      simp only [put_arr, List.set_cons_zero, List.set_cons_succ]
      refine wpAnyH_take (i := 5) (oi := ?_) ?_ (by kernel_rfl) (by kernel_rfl) (by kernel_rfl) ?_ (Or.inr ⟨?_, rfl⟩) (by assumption) ?_
      rotate_left 1
      · (simp only [List.getElem?_toArray, List.getElem?_cons_zero, List.getElem?_cons_succ]; rfl)
      · exact fun _ _ _ h => h
      · rfl
      simp only [put_arr, List.set_cons_zero, List.set_cons_succ]
      refine wpAnyH_take (i := 6) (oi := ?_) ?_ (by kernel_rfl) (by kernel_rfl) (by kernel_rfl) ?_ (Or.inr ⟨?_, rfl⟩) (by assumption) ?_
      rotate_left 1
      · (simp only [List.getElem?_toArray, List.getElem?_cons_zero, List.getElem?_cons_succ]; rfl)
      · exact fun _ _ _ h => h
      · rfl
      simp only [put_arr, List.set_cons_zero, List.set_cons_succ]
      refine wpAnyH_take (i := 7) (oi := ?_) ?_ (by kernel_rfl) (by kernel_rfl) (by kernel_rfl) ?_ (Or.inr ⟨?_, rfl⟩) (by assumption) ?_
      rotate_left 1
      · (simp only [List.getElem?_toArray, List.getElem?_cons_zero, List.getElem?_cons_succ]; rfl)
      · exact fun _ _ _ h => h
      · rfl
      simp only [put_arr, List.set_cons_zero, List.set_cons_succ]
      refine wpAnyH_take (i := 8) (oi := ?_) ?_ (by kernel_rfl) (by kernel_rfl) (by kernel_rfl) ?_ (Or.inr ⟨?_, rfl⟩) (by assumption) ?_
      rotate_left 1
      · (simp only [List.getElem?_toArray, List.getElem?_cons_zero, List.getElem?_cons_succ]; rfl)
      · exact fun _ _ _ h => h
      · rfl
      simp only [put_arr, List.set_cons_zero, List.set_cons_succ]
      refine wpAnyH_take (i := 9) (oi := ?_) ?_ (by kernel_rfl) (by kernel_rfl) (by kernel_rfl) ?_ (Or.inr ⟨?_, rfl⟩) (by assumption) ?_
      rotate_left 1
      · (simp only [List.getElem?_toArray, List.getElem?_cons_zero, List.getElem?_cons_succ]; rfl)
      · exact fun _ _ _ h => h
      · rfl
      simp only [put_arr, List.set_cons_zero, List.set_cons_succ]
      refine wpAnyH_take (i := 10) (oi := ?_) ?_ (by kernel_rfl) (by kernel_rfl) (by kernel_rfl) ?_ (Or.inr ⟨?_, rfl⟩) (by assumption) ?_
      rotate_left 1
      · (simp only [List.getElem?_toArray, List.getElem?_cons_zero, List.getElem?_cons_succ]; rfl)
      · exact fun _ _ _ h => h
      · rfl
      simp only [put_arr, List.set_cons_zero, List.set_cons_succ]
      refine wpAnyH_take (i := 11) (oi := ?_) ?_ (by kernel_rfl) (by kernel_rfl) (by kernel_rfl) ?_ (Or.inr ⟨?_, rfl⟩) (by assumption) ?_
      rotate_left 1
      · (simp only [List.getElem?_toArray, List.getElem?_cons_zero, List.getElem?_cons_succ]; rfl)
      · exact fun _ _ _ h => h
      · rfl
      simp only [put_arr, List.set_cons_zero, List.set_cons_succ]
      refine wpAnyH_take (i := 12) (oi := ?_) (v := ?_) ?_ (by kernel_rfl) (by kernel_rfl) (by kernel_rfl) ?_ (Or.inl ⟨?_, ?_⟩) (by assumption) ?_
      rotate_left 2
      · (simp only [List.getElem?_toArray, List.getElem?_cons_zero, List.getElem?_cons_succ]; rfl)
      · exact fun _ _ _ h => h
      · rfl
      · intro w hSw
        (try dsimp only at hSw)
        go_simp
        try with_reducible rfl
      simp only [put_arr, List.set_cons_zero, List.set_cons_succ]
      refine wpAnyH_done (by kernel_rfl) ?_ _
      have HPz := Bl.then HP hHeld.1
      clear hHeld
      generalize wr.drew = wz at *
      have hrow := own_below hO HW
      have hxz := own_below hrow HPz
      rcases own_cases hO with ⟨rfl, rfl, rfl⟩ | ⟨b, rfl, hlo, hgl, hnc⟩
      · obtain rfl : xs = [] := List.eq_nil_of_length_eq_zero hxl'
        have tok1 : True := trivial
        have tok2 : True := trivial
        have oL := own_lit (W := wz) (cs := #[]) (e := 31) (size := 6) (n := 0) (xs := lasts []) rfl (Nat.le_refl wz.heap.size) (by decide) rfl rfl
        have oL2 := ownsRow_le' oL HPz.size
        have HPA := Bl.alloc HPz (.cells #[] 31)
        have kX5 := (BX.below HPA).cell
        have lX5 := (BX.below HPA).lt
        obtain ⟨i9, hi9, _, _, _⟩ := info_parts lasts_info
        go_upto_region 13 with fail
        generalize wz.alloc (.cells #[] 31) = wB at *
        generalize wz.heap.size = gB at *
        go_wp2_with (first | (at_builtin; have _t := tok2; go_loud (refine wpList_app_lasts _ rfl _ _ rfl w2.heap.size _ 0 _ [] x rfl oL2 rfl HPA.size (by omega) ?_; intro A6 c6 w6 o6 hg6; have HP6 := app_below oL2 HPA (Nat.le_refl _) HPA.size hg6; clear tok2)) | (at_builtin; refine wpList_append_own_none rfl _ _ 27 rfl w2.heap.size 31 i9 6 Try.underlying27 hi9 _ _ _ rfl o6 rfl ?_))
        go_ret2
        exact RetLs.mk (by rw [hr.out, hcut.out]; rfl) rfl (ownsRow_le' o6 HW.size) (Bl.then HW HP6)
      have tok1 : True := trivial
      have tok2 : True := trivial
      have oL := own_lit (W := wz) (cs := #[]) (e := 31) (size := 6) (n := 0) (xs := lasts []) rfl (Nat.le_refl wz.heap.size) (by decide) rfl rfl
      have oL2 := ownsRow_le' oL HPz.size
      have HPA := Bl.alloc HPz (.cells #[] 31)
      have hxA := hxz.alloc (.cells #[] 31)
      have b1 : 0 ≤ n := by omega
      have b2 : 0 ≤ c := by omega
      clear hxz
      go_wp2_with (first | (at_builtin; have _t := tok1; go_loud (refine wpList_cat_lasts _ rfl _ _ rfl w2.heap.size _ 0 _ [] rfl oL2 b 0 0 c (xs.take 0) rfl (by rw [List.length_take]; omega) (ownL_take hxA 0) HPA.size (by omega) ?_; intro g5 c5 w5 hb5 hl5 o5 hg5; simp only [Nat.zero_add, List.nil_append] at o5; have HP5 := app_below oL2 HPA (Nat.le_refl _) HPA.size hg5; have hx5 := own_below hrow HP5; have kX5 := (BX.below HP5).cell; have lX5 := (BX.below HP5).lt; clear tok1 hg5)) | (at_builtin; have _t := tok2; go_loud (refine wpList_app_lasts _ rfl _ _ rfl w2.heap.size _ _ _ _ x rfl o5 rfl HP5.size (by omega) ?_; intro A6 c6 w6 o6 hg6; obtain ⟨g6, eA6, hb6, hl6, hc6, hm6⟩ := own_form o6 (by omega); subst eA6; have HP6 := app_below o5 HP5 (Nat.le_refl _) HP5.size hg6; have hx6 := own_below hrow HP6; clear tok2 hb6 hl6 hc6 hm6)) | (at_builtin; go_loud (refine wpList_cat_lasts _ rfl _ _ rfl w2.heap.size ⟨g6, 0, none⟩ _ _ _ rfl o6 b 0 (n - 0) (c - 0) (xs.drop 0) rfl (by rw [List.length_drop]; omega) (ownL_drop hx6 0) HP6.size (by omega) ?_; intro gN cN wN hbN hlN oN hgN)))
      all_goals
        have HPN := app_below o6 HP6 (Nat.le_refl _) HP6.size hgN
        go_wp2_with fail
        go_ret2
        exact RetLs.mk (by rw [hr.out, hcut.out]; rfl) (by simp only [List.length_append, List.length_take, List.length_drop, List.length_singleton]; omega) (ownsRow_le' oN HW.size) (Bl.then HW HPN)
    obtain ⟨j, rfl⟩ : ∃ q, k = q + 1 := ⟨k - 1, by omega⟩
    have hjn : j < n := by omega
    obtain ⟨b, off, eA, hbl, i0, i1, i2, i3, i4, i5⟩ := (hXW.below HP).lasts hjn
    subst eA
    have BXr := BX.below HP
    have x0 := BXr.cell 0
    have lX := BXr.lt
    have hna := Lib.hid (hnot.out j (by omega))
    clear BXr
    have a0 : (0 : Int) < (j : Int) + 1 := by omega
    have a1 : (j : Int) + 1 - 1 = j := by omega
    have a3 : ((j : Int) + 1).toNat = j + 1 := by omega
    have a4 : IntKind.i64.wrap (j : Int) = j := IntWalk.i64_in _ (by omega)
    have a6 : (0 : Int) ≤ (j : Int) + 1 := by omega
    have e2 : ((lastsAt xs j).s.toList == x.s.toList) = false := hna.out
    cases hb : Op.bytesLess (lastsAt xs j).s.toList x.s.toList
    · have hbe2 := Lib.hid (hbe.out.step (show before xs x.s j = false from hb))
      clear hbe
      go_wp2_with fail
      refine wp_region_held_drew (S := (fun wz => Below wr.heap.size wr wz ∧ ∀ b o, b < wr.heap.size → wz.cell? ⟨b, o, none⟩ = wr.cell? ⟨b, o, none⟩)) (by kernel_rfl) (old_of (Below.drew (Below.refl _ _))) (fun hHeld => ?_)
      refine wpAnyH_take (i := 0) (oi := ?_) (v := ?_) ?_ (by kernel_rfl) (by kernel_rfl) (by kernel_rfl) ?_ (Or.inl ⟨?_, ?_⟩) (by assumption) ?_
      rotate_left 2
      · (simp only [List.getElem?_toArray, List.getElem?_cons_zero]; rfl)
      · exact fun _ _ _ h => h
      · rfl
      · intro w hSw
        (try dsimp only at hSw)
        go_simp
        try with_reducible rfl
      simp only [put_arr, List.set_cons_zero, List.set_cons_succ]
      refine wpAnyH_take (i := 1) (oi := ?_) (v := ?_) ?_ (by kernel_rfl) (by kernel_rfl) (by kernel_rfl) ?_ (Or.inl ⟨?_, ?_⟩) (by assumption) ?_
      rotate_left 2
      · (simp only [List.getElem?_toArray, List.getElem?_cons_zero, List.getElem?_cons_succ]; rfl)
      · exact fun _ _ _ h => h
      · rfl
      · intro w hSw
        (try dsimp only at hSw)
        go_simp
        try with_reducible rfl
      simp only [put_arr, List.set_cons_zero, List.set_cons_succ]
      refine wpAnyH_take (i := 2) (oi := ?_) (v := ?_) ?_ (by kernel_rfl) (by kernel_rfl) (by kernel_rfl) ?_ (Or.inl ⟨?_, ?_⟩) (by assumption) ?_
      rotate_left 2
      · (simp only [List.getElem?_toArray, List.getElem?_cons_zero, List.getElem?_cons_succ]; rfl)
      · exact fun _ _ _ h => h
      · rfl
      · intro w hSw
        (try dsimp only at hSw)
        go_simp
        try with_reducible rfl
      simp only [put_arr, List.set_cons_zero, List.set_cons_succ]
      refine wpAnyH_take (i := 3) (oi := ?_) (v := ?_) ?_ (by kernel_rfl) (by kernel_rfl) (by kernel_rfl) ?_ (Or.inl ⟨?_, ?_⟩) (by assumption) ?_
      rotate_left 2
      · (simp only [List.getElem?_toArray, List.getElem?_cons_zero, List.getElem?_cons_succ]; rfl)
      · exact fun _ _ _ h => h
      · rfl
      · intro w hSw
        (try dsimp only at hSw)
        go_simp
        try with_reducible rfl
      simp only [put_arr, List.set_cons_zero, List.set_cons_succ]
      refine wpAnyH_take (i := 4) (oi := ?_) (v := ?_) ?_ (by kernel_rfl) (by kernel_rfl) (by kernel_rfl) ?_ (Or.inl ⟨?_, ?_⟩) (by assumption) ?_
      rotate_left 2
      · (simp only [List.getElem?_toArray, List.getElem?_cons_zero, List.getElem?_cons_succ]; rfl)
      · exact fun _ _ _ h => h
      · rfl
      · intro w hSw
        (try dsimp only at hSw)
        go_simp
        try with_reducible rfl
      simp only [put_arr, List.set_cons_zero, List.set_cons_succ]
      refine wpAnyH_take (i := 5) (oi := ?_) (v := ?_) ?_ (by kernel_rfl) (by kernel_rfl) (by kernel_rfl) ?_ (Or.inl ⟨?_, ?_⟩) (by assumption) ?_
      rotate_left 2
      · (simp only [List.getElem?_toArray, List.getElem?_cons_zero, List.getElem?_cons_succ]; rfl)
      · exact fun _ _ _ h => h
      · rfl
      · intro w hSw
        (try dsimp only at hSw)
        go_simp
        try with_reducible rfl
      simp only [put_arr, List.set_cons_zero, List.set_cons_succ]
      refine wpAnyH_take (i := 6) (oi := ?_) (v := ?_) ?_ (by kernel_rfl) (by kernel_rfl) (by kernel_rfl) ?_ (Or.inl ⟨?_, ?_⟩) (by assumption) ?_
      rotate_left 2
      · (simp only [List.getElem?_toArray, List.getElem?_cons_zero, List.getElem?_cons_succ]; rfl)
      · exact fun _ _ _ h => h
      · rfl
      · intro w hSw
        (try dsimp only at hSw)
        go_simp
        try with_reducible rfl
      simp only [put_arr, List.set_cons_zero, List.set_cons_succ]
      refine wpAnyH_take (i := 7) (oi := ?_) (v := ?_) ?_ (by kernel_rfl) (by kernel_rfl) (by kernel_rfl) ?_ (Or.inl ⟨?_, ?_⟩) (by assumption) ?_
      rotate_left 2
      · (simp only [List.getElem?_toArray, List.getElem?_cons_zero, List.getElem?_cons_succ]; rfl)
      · exact fun _ _ _ h => h
      · rfl
      · intro w hSw
        (try dsimp only at hSw)
        go_simp
        try with_reducible rfl
      simp only [put_arr, List.set_cons_zero, List.set_cons_succ]
      refine wpAnyH_take (i := 8) (oi := ?_) (v := ?_) ?_ (by kernel_rfl) (by kernel_rfl) (by kernel_rfl) ?_ (Or.inl ⟨?_, ?_⟩) (by assumption) ?_
      rotate_left 2
      · (simp only [List.getElem?_toArray, List.getElem?_cons_zero, List.getElem?_cons_succ]; rfl)
      · exact fun _ _ _ h => h
      · rfl
      · intro w hSw
        (try dsimp only at hSw)
        go_simp
        try with_reducible rfl
      simp only [put_arr, List.set_cons_zero, List.set_cons_succ]
      refine wpAnyH_take (i := 9) (oi := ?_) (v := ?_) ?_ (by kernel_rfl) (by kernel_rfl) (by kernel_rfl) ?_ (Or.inl ⟨?_, ?_⟩) (by assumption) ?_
      rotate_left 2
      · (simp only [List.getElem?_toArray, List.getElem?_cons_zero, List.getElem?_cons_succ]; rfl)
      · exact fun _ _ _ h => h
      · rfl
      · intro w hSw
        (try dsimp only at hSw)
        go_simp
        try with_reducible rfl
      simp only [put_arr, List.set_cons_zero, List.set_cons_succ]
      refine wpAnyH_take (i := 10) (oi := ?_) (v := ?_) ?_ (by kernel_rfl) (by kernel_rfl) (by kernel_rfl) ?_ (Or.inl ⟨?_, ?_⟩) (by assumption) ?_
      rotate_left 2
      · (simp only [List.getElem?_toArray, List.getElem?_cons_zero, List.getElem?_cons_succ]; rfl)
      · exact fun _ _ _ h => h
      · rfl
      · intro w hSw
        (try dsimp only at hSw)
        go_simp
        try with_reducible rfl
      simp only [put_arr, List.set_cons_zero, List.set_cons_succ]
      refine wpAnyH_take (i := 11) (oi := ?_) (v := ?_) ?_ (by kernel_rfl) (by kernel_rfl) (by kernel_rfl) ?_ (Or.inl ⟨?_, ?_⟩) (by assumption) ?_
      rotate_left 2
      · (simp only [List.getElem?_toArray, List.getElem?_cons_zero, List.getElem?_cons_succ]; rfl)
      · exact fun _ _ _ h => h
      · rfl
      · intro w hSw
        (try dsimp only at hSw)
        go_simp
        try with_reducible rfl
      simp only [put_arr, List.set_cons_zero, List.set_cons_succ]
      refine wpAnyH_take (i := 12) (oi := ?_) (v := ?_) ?_ (by kernel_rfl) (by kernel_rfl) (by kernel_rfl) ?_ (Or.inl ⟨?_, ?_⟩) (by assumption) ?_
      rotate_left 2
      · (simp only [List.getElem?_toArray, List.getElem?_cons_zero, List.getElem?_cons_succ]; rfl)
      · exact fun _ _ _ h => h
      · rfl
      · intro w hSw
        (try dsimp only at hSw)
        go_simp
        try with_reducible rfl
      simp only [put_arr, List.set_cons_zero, List.set_cons_succ]
      refine wpAnyH_done (by kernel_rfl) ?_ _
      go_wp2_with fail
      go_roundw
      case rel => exact ⟨j, by go_num, by omega, hbe2, Bl.then HP hHeld.1⟩
      case measure => simp [intOf] <;> omega
    · have hcut := Lib.hid (hbe.out.cut hrih.out (by omega) (.inr (by rw [show j + 1 - 1 = j from rfl]; exact hb)))
      clear hbe
      go_wp2_with fail
      refine wp_region_held_drew (S := (fun wz => Below wr.heap.size wr wz ∧ ∀ b o, b < wr.heap.size → wz.cell? ⟨b, o, none⟩ = wr.cell? ⟨b, o, none⟩)) (by kernel_rfl) (old_of (Below.drew (Below.refl _ _))) (fun hHeld => ?_)
      refine wpAnyH_take (i := 0) (oi := ?_) (v := ?_) ?_ (by kernel_rfl) (by kernel_rfl) (by kernel_rfl) ?_ (Or.inl ⟨?_, ?_⟩) (by assumption) ?_
      rotate_left 2
      · (simp only [List.getElem?_toArray, List.getElem?_cons_zero]; rfl)
      · exact fun _ _ _ h => h
      · rfl
      · intro w hSw
        (try dsimp only at hSw)
        go_simp
        try with_reducible rfl
      simp only [put_arr, List.set_cons_zero, List.set_cons_succ]
      refine wpAnyH_take (i := 1) (oi := ?_) (v := ?_) ?_ (by kernel_rfl) (by kernel_rfl) (by kernel_rfl) ?_ (Or.inl ⟨?_, ?_⟩) (by assumption) ?_
      rotate_left 2
      · (simp only [List.getElem?_toArray, List.getElem?_cons_zero, List.getElem?_cons_succ]; rfl)
      · exact fun _ _ _ h => h
      · rfl
      · intro w hSw
        (try dsimp only at hSw)
        go_simp
        try with_reducible rfl
      simp only [put_arr, List.set_cons_zero, List.set_cons_succ]
      refine wpAnyH_take (i := 2) (oi := ?_) (v := ?_) ?_ (by kernel_rfl) (by kernel_rfl) (by kernel_rfl) ?_ (Or.inl ⟨?_, ?_⟩) (by assumption) ?_
      rotate_left 2
      · (simp only [List.getElem?_toArray, List.getElem?_cons_zero, List.getElem?_cons_succ]; rfl)
      · exact fun _ _ _ h => h
      · rfl
      · intro w hSw
        (try dsimp only at hSw)
        go_simp
        try with_reducible rfl
      simp only [put_arr, List.set_cons_zero, List.set_cons_succ]
      refine wpAnyH_take (i := 3) (oi := ?_) (v := ?_) ?_ (by kernel_rfl) (by kernel_rfl) (by kernel_rfl) ?_ (Or.inl ⟨?_, ?_⟩) (by assumption) ?_
      rotate_left 2
      · (simp only [List.getElem?_toArray, List.getElem?_cons_zero, List.getElem?_cons_succ]; rfl)
      · exact fun _ _ _ h => h
      · rfl
      · intro w hSw
        (try dsimp only at hSw)
        go_simp
        try with_reducible rfl
      simp only [put_arr, List.set_cons_zero, List.set_cons_succ]
      refine wpAnyH_take (i := 4) (oi := ?_) (v := ?_) ?_ (by kernel_rfl) (by kernel_rfl) (by kernel_rfl) ?_ (Or.inl ⟨?_, ?_⟩) (by assumption) ?_
      rotate_left 2
      · (simp only [List.getElem?_toArray, List.getElem?_cons_zero, List.getElem?_cons_succ]; rfl)
      · exact fun _ _ _ h => h
      · rfl
      · intro w hSw
        (try dsimp only at hSw)
        go_simp
        try with_reducible rfl
      simp only [put_arr, List.set_cons_zero, List.set_cons_succ]
      refine wpAnyH_take (i := 5) (oi := ?_) (v := ?_) ?_ (by kernel_rfl) (by kernel_rfl) (by kernel_rfl) ?_ (Or.inl ⟨?_, ?_⟩) (by assumption) ?_
      rotate_left 2
      · (simp only [List.getElem?_toArray, List.getElem?_cons_zero, List.getElem?_cons_succ]; rfl)
      · exact fun _ _ _ h => h
      · rfl
      · intro w hSw
        (try dsimp only at hSw)
        go_simp
        try with_reducible rfl
      simp only [put_arr, List.set_cons_zero, List.set_cons_succ]
      refine wpAnyH_take (i := 6) (oi := ?_) (v := ?_) ?_ (by kernel_rfl) (by kernel_rfl) (by kernel_rfl) ?_ (Or.inl ⟨?_, ?_⟩) (by assumption) ?_
      rotate_left 2
      · (simp only [List.getElem?_toArray, List.getElem?_cons_zero, List.getElem?_cons_succ]; rfl)
      · exact fun _ _ _ h => h
      · rfl
      · intro w hSw
        (try dsimp only at hSw)
        go_simp
        try with_reducible rfl
      simp only [put_arr, List.set_cons_zero, List.set_cons_succ]
      refine wpAnyH_take (i := 7) (oi := ?_) (v := ?_) ?_ (by kernel_rfl) (by kernel_rfl) (by kernel_rfl) ?_ (Or.inl ⟨?_, ?_⟩) (by assumption) ?_
      rotate_left 2
      · (simp only [List.getElem?_toArray, List.getElem?_cons_zero, List.getElem?_cons_succ]; rfl)
      · exact fun _ _ _ h => h
      · rfl
      · intro w hSw
        (try dsimp only at hSw)
        go_simp
        try with_reducible rfl
      simp only [put_arr, List.set_cons_zero, List.set_cons_succ]
      refine wpAnyH_take (i := 8) (oi := ?_) (v := ?_) ?_ (by kernel_rfl) (by kernel_rfl) (by kernel_rfl) ?_ (Or.inl ⟨?_, ?_⟩) (by assumption) ?_
      rotate_left 2
      · (simp only [List.getElem?_toArray, List.getElem?_cons_zero, List.getElem?_cons_succ]; rfl)
      · exact fun _ _ _ h => h
      · rfl
      · intro w hSw
        (try dsimp only at hSw)
        go_simp
        try with_reducible rfl
      simp only [put_arr, List.set_cons_zero, List.set_cons_succ]
      refine wpAnyH_take (i := 9) (oi := ?_) (v := ?_) ?_ (by kernel_rfl) (by kernel_rfl) (by kernel_rfl) ?_ (Or.inl ⟨?_, ?_⟩) (by assumption) ?_
      rotate_left 2
      · (simp only [List.getElem?_toArray, List.getElem?_cons_zero, List.getElem?_cons_succ]; rfl)
      · exact fun _ _ _ h => h
      · rfl
      · intro w hSw
        (try dsimp only at hSw)
        go_simp
        try with_reducible rfl
      simp only [put_arr, List.set_cons_zero, List.set_cons_succ]
      refine wpAnyH_take (i := 10) (oi := ?_) (v := ?_) ?_ (by kernel_rfl) (by kernel_rfl) (by kernel_rfl) ?_ (Or.inl ⟨?_, ?_⟩) (by assumption) ?_
      rotate_left 2
      · (simp only [List.getElem?_toArray, List.getElem?_cons_zero, List.getElem?_cons_succ]; rfl)
      · exact fun _ _ _ h => h
      · rfl
      · intro w hSw
        (try dsimp only at hSw)
        go_simp
        try with_reducible rfl
      simp only [put_arr, List.set_cons_zero, List.set_cons_succ]
      refine wpAnyH_take (i := 11) (oi := ?_) (v := ?_) ?_ (by kernel_rfl) (by kernel_rfl) (by kernel_rfl) ?_ (Or.inl ⟨?_, ?_⟩) (by assumption) ?_
      rotate_left 2
      · (simp only [List.getElem?_toArray, List.getElem?_cons_zero, List.getElem?_cons_succ]; rfl)
      · exact fun _ _ _ h => h
      · rfl
      · intro w hSw
        (try dsimp only at hSw)
        go_simp
        try with_reducible rfl
      simp only [put_arr, List.set_cons_zero, List.set_cons_succ]
      refine wpAnyH_take (i := 12) (oi := ?_) (v := ?_) ?_ (by kernel_rfl) (by kernel_rfl) (by kernel_rfl) ?_ (Or.inl ⟨?_, ?_⟩) (by assumption) ?_
      rotate_left 2
      · (simp only [List.getElem?_toArray, List.getElem?_cons_zero, List.getElem?_cons_succ]; rfl)
      · exact fun _ _ _ h => h
      · rfl
      · intro w hSw
        (try dsimp only at hSw)
        go_simp
        try with_reducible rfl
      simp only [put_arr, List.set_cons_zero, List.set_cons_succ]
      refine wpAnyH_done (by kernel_rfl) ?_ _
      have HPz := Bl.then HP hHeld.1
      clear hHeld
      generalize wr.drew = wz at *
      have hrow := own_below hO HW
      have hxz := own_below hrow HPz
      rcases own_cases hO with ⟨hA, _, _⟩ | ⟨g, hA, hlo, hgl, hnc⟩
      · cases hA
      simp only [Option.some.injEq, Addr.mk.injEq, and_true] at hA
      obtain ⟨e1, e2⟩ := hA
      subst e2
      subst e1
      have tok1 : True := trivial
      have tok2 : True := trivial
      have oL := own_lit (W := wz) (cs := #[]) (e := 31) (size := 6) (n := 0) (xs := lasts []) rfl (Nat.le_refl wz.heap.size) (by decide) rfl rfl
      have oL2 := ownsRow_le' oL HPz.size
      have HPA := Bl.alloc HPz (.cells #[] 31)
      have hxA := hxz.alloc (.cells #[] 31)
      have b1 : (j + 1) ≤ n := by omega
      have b2 : (j + 1) ≤ c := by omega
      have b3 : (j : Int) + 1 ≤ n := by omega
      have b4 : (j : Int) + 1 ≤ c := by omega
      clear hxz
      go_wp2_with (first | (at_builtin; have _t := tok1; go_loud (refine wpList_cat_lasts _ rfl _ _ rfl w2.heap.size _ 0 _ [] rfl oL2 b 0 (j + 1) c (xs.take (j + 1)) rfl (by rw [List.length_take]; omega) (ownL_take hxA (j + 1)) HPA.size (by omega) ?_; intro g5 c5 w5 hb5 hl5 o5 hg5; simp only [Nat.zero_add, List.nil_append] at o5; have HP5 := app_below oL2 HPA (Nat.le_refl _) HPA.size hg5; have hx5 := own_below hrow HP5; have kX5 := (BX.below HP5).cell; have lX5 := (BX.below HP5).lt; clear tok1 hg5)) | (at_builtin; have _t := tok2; go_loud (refine wpList_app_lasts _ rfl _ _ rfl w2.heap.size _ _ _ _ x rfl o5 rfl HP5.size (by omega) ?_; intro A6 c6 w6 o6 hg6; obtain ⟨g6, eA6, hb6, hl6, hc6, hm6⟩ := own_form o6 (by omega); subst eA6; have HP6 := app_below o5 HP5 (Nat.le_refl _) HP5.size hg6; have hx6 := own_below hrow HP6; clear tok2 hb6 hl6 hc6 hm6)) | (at_builtin; go_loud (refine wpList_cat_lasts _ rfl _ _ rfl w2.heap.size ⟨g6, 0, none⟩ _ _ _ rfl o6 b (if c = (j + 1) then 0 else (j + 1) * 6) (n - (j + 1)) (c - (j + 1)) (xs.drop (j + 1)) (by rw [← cut_atL]; rfl) (by rw [List.length_drop]; omega) (ownL_drop_if hx6 (j + 1) c hnc) HP6.size (by omega) ?_; intro gN cN wN hbN hlN oN hgN)))
      all_goals
        have HPN := app_below o6 HP6 (Nat.le_refl _) HP6.size hgN
        go_wp2_with fail
        go_ret2
        exact RetLs.mk (by rw [hr.out, hcut.out]; rfl) (by simp only [List.length_append, List.length_take, List.length_drop, List.length_singleton]; omega) (ownsRow_le' oN HW.size) (Bl.then HW HPN)
end Go.Proofs.Ytebghfpkgdghcaa
