/-
  LargerFoot of the program and of the reference; no condition.
-/
import Derived.Test.YtlmjchmbbmiocaaSpread
import Derived.Deep.RegionHeld3
namespace Go.Proofs.Ytlmjchmbbmiocaa
open Go.RowKit
set_option maxHeartbeats 1600000

def largC (a b c d e f g h : Int) : Int := if footOk a b c d = false then 1 else if footOk e f g h = false then 1 else 0
theorem top_two (x y : Int) : vTop (srt [x, y]) = mx2 x y := by
  have h : IsMax [x, y] 2 (mx2 x y) := (IsMax.one [x, y]).step
  have := IsMax.eq (zs := [x, y]) h
  rw [this]
  rfl
theorem each_two (a b c d e f g h : Int) : eachOf vTop [⟨a, b, c, d⟩, ⟨e, f, g, h⟩] = ⟨mx2 a e, mx2 b f, mx2 c g, mx2 d h⟩ := by
  simp only [eachOf, ← top_two]
  rfl
def top4 (us vs : List Int) : Nat → List Int
  | 0 => []
  | k + 1 => top4 us vs k ++ [mx2 (ix us k) (ix vs k)]
theorem top4_all (a b c d e f g h : Int) : top4 [a, b, c, d] [e, f, g, h] 4 = [mx2 a e, mx2 b f, mx2 c g, mx2 d h] := rfl
set_option maxRecDepth 100000 in
theorem LargerFoot_any (a b c d e f g h : Int) (w : World) :
    Calls Try.prog 30 #[.agg #[.int .i64 a, .int .i64 b, .int .i64 c, .int .i64 d], .agg #[.int .i64 e, .int .i64 f, .int .i64 g, .int .i64 h]] w fun e' w' => e' = .returned (.tuple #[.agg #[.int .i64 (fNum (largC a b c d e f g h) (mx2 a e)), .int .i64 (fNum (largC a b c d e f g h) (mx2 b f)), .int .i64 (fNum (largC a b c d e f g h) (mx2 c g)), .int .i64 (fNum (largC a b c d e f g h) (mx2 d h))], .int .i64 (largC a b c d e f g h)]) ∧ Below w.heap.size w w' := by
  cases j1 : footOk a b c d
  · go_enter Try.func30, Try.ntmps30
    go_wp2_with fail
    refine (ValidFoot_any _ _ _ _ _).mono ?_
    rintro e w1 ⟨rfl, H1⟩
    have BA := (((Blk.new w 34 #[.int .i64 a, .int .i64 b, .int .i64 c, .int .i64 d]).alloc (.cells #[.int .i64 e, .int .i64 f, .int .i64 g, .int .i64 h] 34)).alloc (.cells #[.int .i64 0, .int .i64 0, .int .i64 0, .int .i64 0] 34)).below H1
    have BB := ((Blk.new1 w _ 34 #[.int .i64 e, .int .i64 f, .int .i64 g, .int .i64 h]).alloc (.cells #[.int .i64 0, .int .i64 0, .int .i64 0, .int .i64 0] 34)).below H1
    have BZ := (Blk.new2 w _ _ 34 #[.int .i64 0, .int .i64 0, .int .i64 0, .int .i64 0]).below H1
    have HW : Below w.heap.size w w1 := Bl.then (by go_grown) H1
    clear H1
    have cA0 : w1.cell? ⟨w.heap.size, 0, none⟩ = some (.int .i64 a) := BA.cell 0
    have cA1 : w1.cell? ⟨w.heap.size, 1, none⟩ = some (.int .i64 b) := BA.cell 1
    have cA2 : w1.cell? ⟨w.heap.size, 2, none⟩ = some (.int .i64 c) := BA.cell 2
    have cA3 : w1.cell? ⟨w.heap.size, 3, none⟩ = some (.int .i64 d) := BA.cell 3
    have lA := BA.lt
    have cB0 : w1.cell? ⟨w.heap.size + 1, 0, none⟩ = some (.int .i64 e) := BB.cell 0
    have cB1 : w1.cell? ⟨w.heap.size + 1, 1, none⟩ = some (.int .i64 f) := BB.cell 1
    have cB2 : w1.cell? ⟨w.heap.size + 1, 2, none⟩ = some (.int .i64 g) := BB.cell 2
    have cB3 : w1.cell? ⟨w.heap.size + 1, 3, none⟩ = some (.int .i64 h) := BB.cell 3
    have lB := BB.lt
    have cZ0 : w1.cell? ⟨w.heap.size + 1 + 1, 0, none⟩ = some (.int .i64 0) := BZ.cell 0
    have cZ1 : w1.cell? ⟨w.heap.size + 1 + 1, 1, none⟩ = some (.int .i64 0) := BZ.cell 1
    have cZ2 : w1.cell? ⟨w.heap.size + 1 + 1, 2, none⟩ = some (.int .i64 0) := BZ.cell 2
    have cZ3 : w1.cell? ⟨w.heap.size + 1 + 1, 3, none⟩ = some (.int .i64 0) := BZ.cell 3
    have fZ := BZ.frozen
    have lZ := BZ.lt
    go_wp2_with fail
    refine bodyPost_ret (v := .tuple #[.agg #[.int .i64 0, .int .i64 0, .int .i64 0, .int .i64 0], .int .i64 1]) (by simp [results, Try.results30, go_sem, cZ0, cZ1, cZ2, cZ3]) rfl ?_
    exact ⟨retF _ _ _ _ _ _ (by simp [largC, j1]) (by decide), (Below.setCell (Below.setCell (Below.setCell (Below.setCell HW (by simp; try omega) _) (by simp; try omega) _) (by simp; try omega) _) (by simp; try omega) _)⟩
  cases j2 : footOk e f g h
  · go_enter Try.func30, Try.ntmps30
    go_wp2_with fail
    refine (ValidFoot_any _ _ _ _ _).mono ?_
    rintro e w1 ⟨rfl, H1⟩
    have BA := (((Blk.new w 34 #[.int .i64 a, .int .i64 b, .int .i64 c, .int .i64 d]).alloc (.cells #[.int .i64 e, .int .i64 f, .int .i64 g, .int .i64 h] 34)).alloc (.cells #[.int .i64 0, .int .i64 0, .int .i64 0, .int .i64 0] 34)).below H1
    have BB := ((Blk.new1 w _ 34 #[.int .i64 e, .int .i64 f, .int .i64 g, .int .i64 h]).alloc (.cells #[.int .i64 0, .int .i64 0, .int .i64 0, .int .i64 0] 34)).below H1
    have BZ := (Blk.new2 w _ _ 34 #[.int .i64 0, .int .i64 0, .int .i64 0, .int .i64 0]).below H1
    have HW : Below w.heap.size w w1 := Bl.then (by go_grown) H1
    clear H1
    have cA0 : w1.cell? ⟨w.heap.size, 0, none⟩ = some (.int .i64 a) := BA.cell 0
    have cA1 : w1.cell? ⟨w.heap.size, 1, none⟩ = some (.int .i64 b) := BA.cell 1
    have cA2 : w1.cell? ⟨w.heap.size, 2, none⟩ = some (.int .i64 c) := BA.cell 2
    have cA3 : w1.cell? ⟨w.heap.size, 3, none⟩ = some (.int .i64 d) := BA.cell 3
    have lA := BA.lt
    have cB0 : w1.cell? ⟨w.heap.size + 1, 0, none⟩ = some (.int .i64 e) := BB.cell 0
    have cB1 : w1.cell? ⟨w.heap.size + 1, 1, none⟩ = some (.int .i64 f) := BB.cell 1
    have cB2 : w1.cell? ⟨w.heap.size + 1, 2, none⟩ = some (.int .i64 g) := BB.cell 2
    have cB3 : w1.cell? ⟨w.heap.size + 1, 3, none⟩ = some (.int .i64 h) := BB.cell 3
    have lB := BB.lt
    have cZ0 : w1.cell? ⟨w.heap.size + 1 + 1, 0, none⟩ = some (.int .i64 0) := BZ.cell 0
    have cZ1 : w1.cell? ⟨w.heap.size + 1 + 1, 1, none⟩ = some (.int .i64 0) := BZ.cell 1
    have cZ2 : w1.cell? ⟨w.heap.size + 1 + 1, 2, none⟩ = some (.int .i64 0) := BZ.cell 2
    have cZ3 : w1.cell? ⟨w.heap.size + 1 + 1, 3, none⟩ = some (.int .i64 0) := BZ.cell 3
    have fZ := BZ.frozen
    have lZ := BZ.lt
    go_wp2_with fail
    refine (ValidFoot_any _ _ _ _ _).mono ?_
    rintro e w2 ⟨rfl, hb2⟩
    clear cA0 cA1 cA2 cA3 lA cB0 cB1 cB2 cB3 lB cZ0 cZ1 cZ2 cZ3 fZ lZ
    replace BA := BA.below hb2
    replace BB := BB.below hb2
    replace BZ := BZ.below hb2
    replace HW := Bl.then HW hb2
    have cA0 : w2.cell? ⟨w.heap.size, 0, none⟩ = some (.int .i64 a) := BA.cell 0
    have cA1 : w2.cell? ⟨w.heap.size, 1, none⟩ = some (.int .i64 b) := BA.cell 1
    have cA2 : w2.cell? ⟨w.heap.size, 2, none⟩ = some (.int .i64 c) := BA.cell 2
    have cA3 : w2.cell? ⟨w.heap.size, 3, none⟩ = some (.int .i64 d) := BA.cell 3
    have lA := BA.lt
    have cB0 : w2.cell? ⟨w.heap.size + 1, 0, none⟩ = some (.int .i64 e) := BB.cell 0
    have cB1 : w2.cell? ⟨w.heap.size + 1, 1, none⟩ = some (.int .i64 f) := BB.cell 1
    have cB2 : w2.cell? ⟨w.heap.size + 1, 2, none⟩ = some (.int .i64 g) := BB.cell 2
    have cB3 : w2.cell? ⟨w.heap.size + 1, 3, none⟩ = some (.int .i64 h) := BB.cell 3
    have lB := BB.lt
    have cZ0 : w2.cell? ⟨w.heap.size + 1 + 1, 0, none⟩ = some (.int .i64 0) := BZ.cell 0
    have cZ1 : w2.cell? ⟨w.heap.size + 1 + 1, 1, none⟩ = some (.int .i64 0) := BZ.cell 1
    have cZ2 : w2.cell? ⟨w.heap.size + 1 + 1, 2, none⟩ = some (.int .i64 0) := BZ.cell 2
    have cZ3 : w2.cell? ⟨w.heap.size + 1 + 1, 3, none⟩ = some (.int .i64 0) := BZ.cell 3
    have fZ := BZ.frozen
    have lZ := BZ.lt
    go_wp2_with fail
    refine bodyPost_ret (v := .tuple #[.agg #[.int .i64 0, .int .i64 0, .int .i64 0, .int .i64 0], .int .i64 1]) (by simp [results, Try.results30, go_sem, cZ0, cZ1, cZ2, cZ3]) rfl ?_
    exact ⟨retF _ _ _ _ _ _ (by simp [largC, j1, j2]) (by decide), (Below.setCell (Below.setCell (Below.setCell (Below.setCell HW (by simp; try omega) _) (by simp; try omega) _) (by simp; try omega) _) (by simp; try omega) _)⟩
  have E := Lib.hid (show largC a b c d e f g h = 0 by simp [largC, j1, j2])
  go_enter Try.func30, Try.ntmps30
  go_wp2_with fail
  refine (ValidFoot_any _ _ _ _ _).mono ?_
  rintro e w1 ⟨rfl, H1⟩
  have BA := (((Blk.new w 34 #[.int .i64 a, .int .i64 b, .int .i64 c, .int .i64 d]).alloc (.cells #[.int .i64 e, .int .i64 f, .int .i64 g, .int .i64 h] 34)).alloc (.cells #[.int .i64 0, .int .i64 0, .int .i64 0, .int .i64 0] 34)).below H1
  have BB := ((Blk.new1 w _ 34 #[.int .i64 e, .int .i64 f, .int .i64 g, .int .i64 h]).alloc (.cells #[.int .i64 0, .int .i64 0, .int .i64 0, .int .i64 0] 34)).below H1
  have BZ := (Blk.new2 w _ _ 34 #[.int .i64 0, .int .i64 0, .int .i64 0, .int .i64 0]).below H1
  have HW : Below w.heap.size w w1 := Bl.then (by go_grown) H1
  clear H1
  have cA0 : w1.cell? ⟨w.heap.size, 0, none⟩ = some (.int .i64 a) := BA.cell 0
  have cA1 : w1.cell? ⟨w.heap.size, 1, none⟩ = some (.int .i64 b) := BA.cell 1
  have cA2 : w1.cell? ⟨w.heap.size, 2, none⟩ = some (.int .i64 c) := BA.cell 2
  have cA3 : w1.cell? ⟨w.heap.size, 3, none⟩ = some (.int .i64 d) := BA.cell 3
  have lA := BA.lt
  have cB0 : w1.cell? ⟨w.heap.size + 1, 0, none⟩ = some (.int .i64 e) := BB.cell 0
  have cB1 : w1.cell? ⟨w.heap.size + 1, 1, none⟩ = some (.int .i64 f) := BB.cell 1
  have cB2 : w1.cell? ⟨w.heap.size + 1, 2, none⟩ = some (.int .i64 g) := BB.cell 2
  have cB3 : w1.cell? ⟨w.heap.size + 1, 3, none⟩ = some (.int .i64 h) := BB.cell 3
  have lB := BB.lt
  have cZ0 : w1.cell? ⟨w.heap.size + 1 + 1, 0, none⟩ = some (.int .i64 0) := BZ.cell 0
  have cZ1 : w1.cell? ⟨w.heap.size + 1 + 1, 1, none⟩ = some (.int .i64 0) := BZ.cell 1
  have cZ2 : w1.cell? ⟨w.heap.size + 1 + 1, 2, none⟩ = some (.int .i64 0) := BZ.cell 2
  have cZ3 : w1.cell? ⟨w.heap.size + 1 + 1, 3, none⟩ = some (.int .i64 0) := BZ.cell 3
  have fZ := BZ.frozen
  have lZ := BZ.lt
  go_wp2_with fail
  refine (ValidFoot_any _ _ _ _ _).mono ?_
  rintro e w2 ⟨rfl, hb2⟩
  clear cA0 cA1 cA2 cA3 lA cB0 cB1 cB2 cB3 lB cZ0 cZ1 cZ2 cZ3 fZ lZ
  replace BA := BA.below hb2
  replace BB := BB.below hb2
  replace BZ := BZ.below hb2
  replace HW := Bl.then HW hb2
  have cA0 : w2.cell? ⟨w.heap.size, 0, none⟩ = some (.int .i64 a) := BA.cell 0
  have cA1 : w2.cell? ⟨w.heap.size, 1, none⟩ = some (.int .i64 b) := BA.cell 1
  have cA2 : w2.cell? ⟨w.heap.size, 2, none⟩ = some (.int .i64 c) := BA.cell 2
  have cA3 : w2.cell? ⟨w.heap.size, 3, none⟩ = some (.int .i64 d) := BA.cell 3
  have lA := BA.lt
  have cB0 : w2.cell? ⟨w.heap.size + 1, 0, none⟩ = some (.int .i64 e) := BB.cell 0
  have cB1 : w2.cell? ⟨w.heap.size + 1, 1, none⟩ = some (.int .i64 f) := BB.cell 1
  have cB2 : w2.cell? ⟨w.heap.size + 1, 2, none⟩ = some (.int .i64 g) := BB.cell 2
  have cB3 : w2.cell? ⟨w.heap.size + 1, 3, none⟩ = some (.int .i64 h) := BB.cell 3
  have lB := BB.lt
  have cZ0 : w2.cell? ⟨w.heap.size + 1 + 1, 0, none⟩ = some (.int .i64 0) := BZ.cell 0
  have cZ1 : w2.cell? ⟨w.heap.size + 1 + 1, 1, none⟩ = some (.int .i64 0) := BZ.cell 1
  have cZ2 : w2.cell? ⟨w.heap.size + 1 + 1, 2, none⟩ = some (.int .i64 0) := BZ.cell 2
  have cZ3 : w2.cell? ⟨w.heap.size + 1 + 1, 3, none⟩ = some (.int .i64 0) := BZ.cell 3
  have fZ := BZ.frozen
  have lZ := BZ.lt
  have hall : [(⟨a, b, c, d⟩ : FootD), ⟨e, f, g, h⟩].all fOk = true := by simp [fOk, j1, j2]
  go_wp2_with fail
  clear cA0 cA1 cA2 cA3 lA cB0 cB1 cB2 cB3 lB cZ0 cZ1 cZ2 cZ3 fZ lZ
  replace BA := BA.alloc (.cells #[.int .i64 a, .int .i64 b, .int .i64 c, .int .i64 d, .int .i64 e, .int .i64 f, .int .i64 g, .int .i64 h] 34)
  replace BB := BB.alloc (.cells #[.int .i64 a, .int .i64 b, .int .i64 c, .int .i64 d, .int .i64 e, .int .i64 f, .int .i64 g, .int .i64 h] 34)
  replace BZ := BZ.alloc (.cells #[.int .i64 a, .int .i64 b, .int .i64 c, .int .i64 d, .int .i64 e, .int .i64 f, .int .i64 g, .int .i64 h] 34)
  have BR := Blk.new w2 34 #[.int .i64 a, .int .i64 b, .int .i64 c, .int .i64 d, .int .i64 e, .int .i64 f, .int .i64 g, .int .i64 h]
  replace HW := Bl.alloc HW (.cells #[.int .i64 a, .int .i64 b, .int .i64 c, .int .i64 d, .int .i64 e, .int .i64 f, .int .i64 g, .int .i64 h] 34)
  have RR := Rd.of_own (own_lit (W := w2) (cs := #[.int .i64 a, .int .i64 b, .int .i64 c, .int .i64 d, .int .i64 e, .int .i64 f, .int .i64 g, .int .i64 h]) (e := 34) (size := 4) (n := 2) (xs := feet [⟨a, b, c, d⟩, ⟨e, f, g, h⟩]) rfl (Nat.le_refl _) (by decide) rfl rfl)
  have ct := eachMeasure_vTop _ 2 2 _ _ RR (by omega) (by omega) hall
  rw [each_two] at ct
  clear RR hall
  refine (ct).mono ?_
  rintro e w22 ⟨rfl, hb22⟩
  replace BA := BA.below hb22
  replace BB := BB.below hb22
  replace BZ := BZ.below hb22
  replace BR := BR.below hb22
  replace HW := Bl.then HW hb22
  have cA0 : w22.cell? ⟨w.heap.size, 0, none⟩ = some (.int .i64 a) := BA.cell 0
  have cA1 : w22.cell? ⟨w.heap.size, 1, none⟩ = some (.int .i64 b) := BA.cell 1
  have cA2 : w22.cell? ⟨w.heap.size, 2, none⟩ = some (.int .i64 c) := BA.cell 2
  have cA3 : w22.cell? ⟨w.heap.size, 3, none⟩ = some (.int .i64 d) := BA.cell 3
  have lA := BA.lt
  have cB0 : w22.cell? ⟨w.heap.size + 1, 0, none⟩ = some (.int .i64 e) := BB.cell 0
  have cB1 : w22.cell? ⟨w.heap.size + 1, 1, none⟩ = some (.int .i64 f) := BB.cell 1
  have cB2 : w22.cell? ⟨w.heap.size + 1, 2, none⟩ = some (.int .i64 g) := BB.cell 2
  have cB3 : w22.cell? ⟨w.heap.size + 1, 3, none⟩ = some (.int .i64 h) := BB.cell 3
  have lB := BB.lt
  have cZ0 : w22.cell? ⟨w.heap.size + 1 + 1, 0, none⟩ = some (.int .i64 0) := BZ.cell 0
  have cZ1 : w22.cell? ⟨w.heap.size + 1 + 1, 1, none⟩ = some (.int .i64 0) := BZ.cell 1
  have cZ2 : w22.cell? ⟨w.heap.size + 1 + 1, 2, none⟩ = some (.int .i64 0) := BZ.cell 2
  have cZ3 : w22.cell? ⟨w.heap.size + 1 + 1, 3, none⟩ = some (.int .i64 0) := BZ.cell 3
  have fZ := BZ.frozen
  have lZ := BZ.lt
  have cR0 : w22.cell? ⟨w2.heap.size, 0, none⟩ = some (.int .i64 a) := BR.cell 0
  have cR1 : w22.cell? ⟨w2.heap.size, 1, none⟩ = some (.int .i64 b) := BR.cell 1
  have cR2 : w22.cell? ⟨w2.heap.size, 2, none⟩ = some (.int .i64 c) := BR.cell 2
  have cR3 : w22.cell? ⟨w2.heap.size, 3, none⟩ = some (.int .i64 d) := BR.cell 3
  have cR4 : w22.cell? ⟨w2.heap.size, 4, none⟩ = some (.int .i64 e) := BR.cell 4
  have cR5 : w22.cell? ⟨w2.heap.size, 5, none⟩ = some (.int .i64 f) := BR.cell 5
  have cR6 : w22.cell? ⟨w2.heap.size, 6, none⟩ = some (.int .i64 g) := BR.cell 6
  have cR7 : w22.cell? ⟨w2.heap.size, 7, none⟩ = some (.int .i64 h) := BR.cell 7
  have lR := BR.lt
  clear ct
  go_wp2_with fail
  refine bodyPost_ret (v := .tuple #[.agg #[.int .i64 (mx2 a e), .int .i64 (mx2 b f), .int .i64 (mx2 c g), .int .i64 (mx2 d h)], .int .i64 0]) (by simp [results, Try.results30, go_sem, cZ0, cZ1, cZ2, cZ3]) rfl ?_
  exact ⟨retF0 _ _ _ _ _ E.out, (Below.setCell (Below.setCell (Below.setCell (Below.setCell HW (by simp; try omega) _) (by simp; try omega) _) (by simp; try omega) _) (by simp; try omega) _)⟩
set_option maxRecDepth 100000 in
theorem sLargerFoot_any (a b c d e f g h : Int) (w : World) :
    Calls Try.prog 29 #[.agg #[.int .i64 a, .int .i64 b, .int .i64 c, .int .i64 d], .agg #[.int .i64 e, .int .i64 f, .int .i64 g, .int .i64 h]] w fun e' w' => e' = .returned (.tuple #[.agg #[.int .i64 (fNum (largC a b c d e f g h) (mx2 a e)), .int .i64 (fNum (largC a b c d e f g h) (mx2 b f)), .int .i64 (fNum (largC a b c d e f g h) (mx2 c g)), .int .i64 (fNum (largC a b c d e f g h) (mx2 d h))], .int .i64 (largC a b c d e f g h)]) ∧ Below w.heap.size w w' := by
  cases j1 : footOk a b c d
  · go_enter Try.func29, Try.ntmps29
    go_wp2_with fail
    refine (l02Foot_any _ _ _ _ _).mono ?_
    rintro e w1 ⟨rfl, H1⟩
    have BA := (((Blk.new w 34 #[.int .i64 a, .int .i64 b, .int .i64 c, .int .i64 d]).alloc (.cells #[.int .i64 e, .int .i64 f, .int .i64 g, .int .i64 h] 34)).alloc (.cells #[.int .i64 0, .int .i64 0, .int .i64 0, .int .i64 0] 34)).below H1
    have BB := ((Blk.new1 w _ 34 #[.int .i64 e, .int .i64 f, .int .i64 g, .int .i64 h]).alloc (.cells #[.int .i64 0, .int .i64 0, .int .i64 0, .int .i64 0] 34)).below H1
    have BZ := (Blk.new2 w _ _ 34 #[.int .i64 0, .int .i64 0, .int .i64 0, .int .i64 0]).below H1
    have HW : Below w.heap.size w w1 := Bl.then (by go_grown) H1
    clear H1
    have cA0 : w1.cell? ⟨w.heap.size, 0, none⟩ = some (.int .i64 a) := BA.cell 0
    have cA1 : w1.cell? ⟨w.heap.size, 1, none⟩ = some (.int .i64 b) := BA.cell 1
    have cA2 : w1.cell? ⟨w.heap.size, 2, none⟩ = some (.int .i64 c) := BA.cell 2
    have cA3 : w1.cell? ⟨w.heap.size, 3, none⟩ = some (.int .i64 d) := BA.cell 3
    have lA := BA.lt
    have cB0 : w1.cell? ⟨w.heap.size + 1, 0, none⟩ = some (.int .i64 e) := BB.cell 0
    have cB1 : w1.cell? ⟨w.heap.size + 1, 1, none⟩ = some (.int .i64 f) := BB.cell 1
    have cB2 : w1.cell? ⟨w.heap.size + 1, 2, none⟩ = some (.int .i64 g) := BB.cell 2
    have cB3 : w1.cell? ⟨w.heap.size + 1, 3, none⟩ = some (.int .i64 h) := BB.cell 3
    have lB := BB.lt
    have cZ0 : w1.cell? ⟨w.heap.size + 1 + 1, 0, none⟩ = some (.int .i64 0) := BZ.cell 0
    have cZ1 : w1.cell? ⟨w.heap.size + 1 + 1, 1, none⟩ = some (.int .i64 0) := BZ.cell 1
    have cZ2 : w1.cell? ⟨w.heap.size + 1 + 1, 2, none⟩ = some (.int .i64 0) := BZ.cell 2
    have cZ3 : w1.cell? ⟨w.heap.size + 1 + 1, 3, none⟩ = some (.int .i64 0) := BZ.cell 3
    have fZ := BZ.frozen
    have lZ := BZ.lt
    go_wp2_with fail
    refine bodyPost_ret (v := .tuple #[.agg #[.int .i64 0, .int .i64 0, .int .i64 0, .int .i64 0], .int .i64 1]) (by simp [results, Try.results29, go_sem, cZ0, cZ1, cZ2, cZ3]) rfl ?_
    exact ⟨retF _ _ _ _ _ _ (by simp [largC, j1]) (by decide), (Below.setCell (Below.setCell (Below.setCell (Below.setCell HW (by simp; try omega) _) (by simp; try omega) _) (by simp; try omega) _) (by simp; try omega) _)⟩
  cases j2 : footOk e f g h
  · go_enter Try.func29, Try.ntmps29
    go_wp2_with fail
    refine (l02Foot_any _ _ _ _ _).mono ?_
    rintro e w1 ⟨rfl, H1⟩
    have BA := (((Blk.new w 34 #[.int .i64 a, .int .i64 b, .int .i64 c, .int .i64 d]).alloc (.cells #[.int .i64 e, .int .i64 f, .int .i64 g, .int .i64 h] 34)).alloc (.cells #[.int .i64 0, .int .i64 0, .int .i64 0, .int .i64 0] 34)).below H1
    have BB := ((Blk.new1 w _ 34 #[.int .i64 e, .int .i64 f, .int .i64 g, .int .i64 h]).alloc (.cells #[.int .i64 0, .int .i64 0, .int .i64 0, .int .i64 0] 34)).below H1
    have BZ := (Blk.new2 w _ _ 34 #[.int .i64 0, .int .i64 0, .int .i64 0, .int .i64 0]).below H1
    have HW : Below w.heap.size w w1 := Bl.then (by go_grown) H1
    clear H1
    have cA0 : w1.cell? ⟨w.heap.size, 0, none⟩ = some (.int .i64 a) := BA.cell 0
    have cA1 : w1.cell? ⟨w.heap.size, 1, none⟩ = some (.int .i64 b) := BA.cell 1
    have cA2 : w1.cell? ⟨w.heap.size, 2, none⟩ = some (.int .i64 c) := BA.cell 2
    have cA3 : w1.cell? ⟨w.heap.size, 3, none⟩ = some (.int .i64 d) := BA.cell 3
    have lA := BA.lt
    have cB0 : w1.cell? ⟨w.heap.size + 1, 0, none⟩ = some (.int .i64 e) := BB.cell 0
    have cB1 : w1.cell? ⟨w.heap.size + 1, 1, none⟩ = some (.int .i64 f) := BB.cell 1
    have cB2 : w1.cell? ⟨w.heap.size + 1, 2, none⟩ = some (.int .i64 g) := BB.cell 2
    have cB3 : w1.cell? ⟨w.heap.size + 1, 3, none⟩ = some (.int .i64 h) := BB.cell 3
    have lB := BB.lt
    have cZ0 : w1.cell? ⟨w.heap.size + 1 + 1, 0, none⟩ = some (.int .i64 0) := BZ.cell 0
    have cZ1 : w1.cell? ⟨w.heap.size + 1 + 1, 1, none⟩ = some (.int .i64 0) := BZ.cell 1
    have cZ2 : w1.cell? ⟨w.heap.size + 1 + 1, 2, none⟩ = some (.int .i64 0) := BZ.cell 2
    have cZ3 : w1.cell? ⟨w.heap.size + 1 + 1, 3, none⟩ = some (.int .i64 0) := BZ.cell 3
    have fZ := BZ.frozen
    have lZ := BZ.lt
    go_wp2_with fail
    refine (l02Foot_any _ _ _ _ _).mono ?_
    rintro e w2 ⟨rfl, hb2⟩
    clear cA0 cA1 cA2 cA3 lA cB0 cB1 cB2 cB3 lB cZ0 cZ1 cZ2 cZ3 fZ lZ
    replace BA := BA.below hb2
    replace BB := BB.below hb2
    replace BZ := BZ.below hb2
    replace HW := Bl.then HW hb2
    have cA0 : w2.cell? ⟨w.heap.size, 0, none⟩ = some (.int .i64 a) := BA.cell 0
    have cA1 : w2.cell? ⟨w.heap.size, 1, none⟩ = some (.int .i64 b) := BA.cell 1
    have cA2 : w2.cell? ⟨w.heap.size, 2, none⟩ = some (.int .i64 c) := BA.cell 2
    have cA3 : w2.cell? ⟨w.heap.size, 3, none⟩ = some (.int .i64 d) := BA.cell 3
    have lA := BA.lt
    have cB0 : w2.cell? ⟨w.heap.size + 1, 0, none⟩ = some (.int .i64 e) := BB.cell 0
    have cB1 : w2.cell? ⟨w.heap.size + 1, 1, none⟩ = some (.int .i64 f) := BB.cell 1
    have cB2 : w2.cell? ⟨w.heap.size + 1, 2, none⟩ = some (.int .i64 g) := BB.cell 2
    have cB3 : w2.cell? ⟨w.heap.size + 1, 3, none⟩ = some (.int .i64 h) := BB.cell 3
    have lB := BB.lt
    have cZ0 : w2.cell? ⟨w.heap.size + 1 + 1, 0, none⟩ = some (.int .i64 0) := BZ.cell 0
    have cZ1 : w2.cell? ⟨w.heap.size + 1 + 1, 1, none⟩ = some (.int .i64 0) := BZ.cell 1
    have cZ2 : w2.cell? ⟨w.heap.size + 1 + 1, 2, none⟩ = some (.int .i64 0) := BZ.cell 2
    have cZ3 : w2.cell? ⟨w.heap.size + 1 + 1, 3, none⟩ = some (.int .i64 0) := BZ.cell 3
    have fZ := BZ.frozen
    have lZ := BZ.lt
    go_wp2_with fail
    refine bodyPost_ret (v := .tuple #[.agg #[.int .i64 0, .int .i64 0, .int .i64 0, .int .i64 0], .int .i64 1]) (by simp [results, Try.results29, go_sem, cZ0, cZ1, cZ2, cZ3]) rfl ?_
    exact ⟨retF _ _ _ _ _ _ (by simp [largC, j1, j2]) (by decide), (Below.setCell (Below.setCell (Below.setCell (Below.setCell HW (by simp; try omega) _) (by simp; try omega) _) (by simp; try omega) _) (by simp; try omega) _)⟩
  have E := Lib.hid (show largC a b c d e f g h = 0 by simp [largC, j1, j2])
  go_enter Try.func29, Try.ntmps29
  go_wp2_with fail
  refine (l02Foot_any _ _ _ _ _).mono ?_
  rintro e w1 ⟨rfl, H1⟩
  have BA := (((Blk.new w 34 #[.int .i64 a, .int .i64 b, .int .i64 c, .int .i64 d]).alloc (.cells #[.int .i64 e, .int .i64 f, .int .i64 g, .int .i64 h] 34)).alloc (.cells #[.int .i64 0, .int .i64 0, .int .i64 0, .int .i64 0] 34)).below H1
  have BB := ((Blk.new1 w _ 34 #[.int .i64 e, .int .i64 f, .int .i64 g, .int .i64 h]).alloc (.cells #[.int .i64 0, .int .i64 0, .int .i64 0, .int .i64 0] 34)).below H1
  have BZ := (Blk.new2 w _ _ 34 #[.int .i64 0, .int .i64 0, .int .i64 0, .int .i64 0]).below H1
  have HW : Below w.heap.size w w1 := Bl.then (by go_grown) H1
  clear H1
  have cA0 : w1.cell? ⟨w.heap.size, 0, none⟩ = some (.int .i64 a) := BA.cell 0
  have cA1 : w1.cell? ⟨w.heap.size, 1, none⟩ = some (.int .i64 b) := BA.cell 1
  have cA2 : w1.cell? ⟨w.heap.size, 2, none⟩ = some (.int .i64 c) := BA.cell 2
  have cA3 : w1.cell? ⟨w.heap.size, 3, none⟩ = some (.int .i64 d) := BA.cell 3
  have lA := BA.lt
  have cB0 : w1.cell? ⟨w.heap.size + 1, 0, none⟩ = some (.int .i64 e) := BB.cell 0
  have cB1 : w1.cell? ⟨w.heap.size + 1, 1, none⟩ = some (.int .i64 f) := BB.cell 1
  have cB2 : w1.cell? ⟨w.heap.size + 1, 2, none⟩ = some (.int .i64 g) := BB.cell 2
  have cB3 : w1.cell? ⟨w.heap.size + 1, 3, none⟩ = some (.int .i64 h) := BB.cell 3
  have lB := BB.lt
  have cZ0 : w1.cell? ⟨w.heap.size + 1 + 1, 0, none⟩ = some (.int .i64 0) := BZ.cell 0
  have cZ1 : w1.cell? ⟨w.heap.size + 1 + 1, 1, none⟩ = some (.int .i64 0) := BZ.cell 1
  have cZ2 : w1.cell? ⟨w.heap.size + 1 + 1, 2, none⟩ = some (.int .i64 0) := BZ.cell 2
  have cZ3 : w1.cell? ⟨w.heap.size + 1 + 1, 3, none⟩ = some (.int .i64 0) := BZ.cell 3
  have fZ := BZ.frozen
  have lZ := BZ.lt
  go_wp2_with fail
  refine (l02Foot_any _ _ _ _ _).mono ?_
  rintro e w2 ⟨rfl, hb2⟩
  clear cA0 cA1 cA2 cA3 lA cB0 cB1 cB2 cB3 lB cZ0 cZ1 cZ2 cZ3 fZ lZ
  replace BA := BA.below hb2
  replace BB := BB.below hb2
  replace BZ := BZ.below hb2
  replace HW := Bl.then HW hb2
  have cA0 : w2.cell? ⟨w.heap.size, 0, none⟩ = some (.int .i64 a) := BA.cell 0
  have cA1 : w2.cell? ⟨w.heap.size, 1, none⟩ = some (.int .i64 b) := BA.cell 1
  have cA2 : w2.cell? ⟨w.heap.size, 2, none⟩ = some (.int .i64 c) := BA.cell 2
  have cA3 : w2.cell? ⟨w.heap.size, 3, none⟩ = some (.int .i64 d) := BA.cell 3
  have lA := BA.lt
  have cB0 : w2.cell? ⟨w.heap.size + 1, 0, none⟩ = some (.int .i64 e) := BB.cell 0
  have cB1 : w2.cell? ⟨w.heap.size + 1, 1, none⟩ = some (.int .i64 f) := BB.cell 1
  have cB2 : w2.cell? ⟨w.heap.size + 1, 2, none⟩ = some (.int .i64 g) := BB.cell 2
  have cB3 : w2.cell? ⟨w.heap.size + 1, 3, none⟩ = some (.int .i64 h) := BB.cell 3
  have lB := BB.lt
  have cZ0 : w2.cell? ⟨w.heap.size + 1 + 1, 0, none⟩ = some (.int .i64 0) := BZ.cell 0
  have cZ1 : w2.cell? ⟨w.heap.size + 1 + 1, 1, none⟩ = some (.int .i64 0) := BZ.cell 1
  have cZ2 : w2.cell? ⟨w.heap.size + 1 + 1, 2, none⟩ = some (.int .i64 0) := BZ.cell 2
  have cZ3 : w2.cell? ⟨w.heap.size + 1 + 1, 3, none⟩ = some (.int .i64 0) := BZ.cell 3
  have fZ := BZ.frozen
  have lZ := BZ.lt
  have hu := Lib.hid (top4_all a b c d e f g h)
  go_wp2_with fail
  refine (l02Four_any _ _ _ _ _).mono ?_
  rintro e1 v1 ⟨A1, c1, rfl, o1, gb1⟩
  obtain ⟨hc, hf⟩ := bcell gb1
  go_wp2_with fail
  refine (l02Four_any _ _ _ _ _).mono ?_
  rintro e1 v2 ⟨A2, c2, rfl, o2, gb2⟩
  clear hc hf
  have r1 := (Rd.of_own o1).below gb2
  have r2 := Rd.of_own o2
  have HV := Bl.then gb1 gb2
  clear o1 o2 gb1 gb2
  clear cA0 cA1 cA2 cA3 lA cB0 cB1 cB2 cB3 lB cZ0 cZ1 cZ2 cZ3 fZ lZ
  generalize hzs : [a, b, c, d] = us at r1 hu
  generalize hys : [e, f, g, h] = vs at r2 hu
  clear hzs hys
  go_wp2_with fail
  go_loopw [8, 9] (fun v q wr => ∃ (k : Nat) (A' : Option Addr) (c' : Nat), k ≤ 4 ∧ q = .int .i64 k ∧ v = .slice A' k c' ∧ wr.ownsRow v2.heap.size 2 1 (.slice A' k c') k (ints (top4 us vs k)) ∧ Below v2.heap.size v2 wr) (fun _ q _ => 4 - (intOf q).toNat)
  case atStart => exact ⟨0, _, _, by omega, rfl, rfl, own_lit rfl (by simp) (by decide) rfl rfl, by go_grown⟩
  case round =>
    obtain ⟨k, A', c', hk, rfl, rfl, ho, HB⟩ := hrel
    by_cases hlt : k < 4
    · obtain ⟨g1, off1, rfl, hg1, e1⟩ := r1.int (k := k) hlt
      obtain ⟨g2, off2, rfl, hgg, e2⟩ := r2.int (k := k) hlt
      have d1 := cell_later HB e1
      have d2 := cell_later HB e2
      have f2 : (0 : Int) ≤ (k : Int) := by omega
      have f3 : (k : Int).toNat = k := by omega
      have f4 : (k : Int) < 4 := by omega
      have x5' := Lib.hid (show top4 us vs k ++ [mx2 (ix us k) (ix vs k)] = top4 us vs (k + 1) from rfl)
      go_wp2_with fail
      go_region_held3 (fun wz => wz.cell? ⟨g1, off1 + k, none⟩ = some (.int .i64 (ix us k)) ∧ wz.cell? ⟨g2, off2 + k, none⟩ = some (.int .i64 (ix vs k))) (((repeat' apply And.intro) <;> first | assumption | exact keep_drew (by assumption) | exact keep_alloc (by assumption) | exact keep_alloc (keep_drew (by assumption)) | exact cell_later (w := v2) (by first | assumption | exact (HB.alloc HB.size _).drew | exact HB.drew | exact HB.alloc HB.size _) (by assumption))) (first | (go_at_call 57; refine (l00MaxV_any _ _ _).mono ?_; rintro ez wy ⟨rfl, rfl⟩) | (refine step_app_int _ rfl _ _ rfl v2.heap.size A' k c' _ (mx2 (ix us k) (ix vs k)) _ rfl rfl (by refine (World.cell?_alloc_at _ _ _ _ ?_).trans rfl; simp) (own_below ho (by go_grown)) (by have := HB.size; simp; omega) (by omega) ?_; intro A2 c2 w4 ho2 hg2; have HB2 := app_below (own_below ho (by go_grown)) (B0 := v2.heap.size) (W0 := v2) (HB.trans ((by go_grown : Below wr.heap.size wr _).mono HB.size)) (Nat.le_refl _) (by have := HB.size; simp; omega) hg2))
      go_wp2_with fail
      go_roundw
      case rel => exact ⟨k + 1, A2, c2, by omega, by go_num, rfl, by rw [x5'.out] at ho2; exact ho2, HB2⟩
      case measure => simp [intOf]; omega
    · obtain rfl : k = 4 := by omega
      rw [hu.out] at ho
      have HV2 := Bl.then HV HB
      replace BA := BA.below HV2
      replace BB := BB.below HV2
      replace BZ := BZ.below HV2
      replace HW := Bl.then HW HV2
      have cA0 : wr.cell? ⟨w.heap.size, 0, none⟩ = some (.int .i64 a) := BA.cell 0
      have cA1 : wr.cell? ⟨w.heap.size, 1, none⟩ = some (.int .i64 b) := BA.cell 1
      have cA2 : wr.cell? ⟨w.heap.size, 2, none⟩ = some (.int .i64 c) := BA.cell 2
      have cA3 : wr.cell? ⟨w.heap.size, 3, none⟩ = some (.int .i64 d) := BA.cell 3
      have lA := BA.lt
      have cB0 : wr.cell? ⟨w.heap.size + 1, 0, none⟩ = some (.int .i64 e) := BB.cell 0
      have cB1 : wr.cell? ⟨w.heap.size + 1, 1, none⟩ = some (.int .i64 f) := BB.cell 1
      have cB2 : wr.cell? ⟨w.heap.size + 1, 2, none⟩ = some (.int .i64 g) := BB.cell 2
      have cB3 : wr.cell? ⟨w.heap.size + 1, 3, none⟩ = some (.int .i64 h) := BB.cell 3
      have lB := BB.lt
      have cZ0 : wr.cell? ⟨w.heap.size + 1 + 1, 0, none⟩ = some (.int .i64 0) := BZ.cell 0
      have cZ1 : wr.cell? ⟨w.heap.size + 1 + 1, 1, none⟩ = some (.int .i64 0) := BZ.cell 1
      have cZ2 : wr.cell? ⟨w.heap.size + 1 + 1, 2, none⟩ = some (.int .i64 0) := BZ.cell 2
      have cZ3 : wr.cell? ⟨w.heap.size + 1 + 1, 3, none⟩ = some (.int .i64 0) := BZ.cell 3
      have fZ := BZ.frozen
      have lZ := BZ.lt
      go_wp2_with fail
      refine (l02Of_any _ _ _ _ _ _ _ (Rd.of_own ho)).mono ?_
      rintro e w22 ⟨rfl, hb22⟩
      clear cA0 cA1 cA2 cA3 lA cB0 cB1 cB2 cB3 lB cZ0 cZ1 cZ2 cZ3 fZ lZ
      replace BA := BA.below hb22
      replace BB := BB.below hb22
      replace BZ := BZ.below hb22
      replace HW := Bl.then HW hb22
      have cA0 : w22.cell? ⟨w.heap.size, 0, none⟩ = some (.int .i64 a) := BA.cell 0
      have cA1 : w22.cell? ⟨w.heap.size, 1, none⟩ = some (.int .i64 b) := BA.cell 1
      have cA2 : w22.cell? ⟨w.heap.size, 2, none⟩ = some (.int .i64 c) := BA.cell 2
      have cA3 : w22.cell? ⟨w.heap.size, 3, none⟩ = some (.int .i64 d) := BA.cell 3
      have lA := BA.lt
      have cB0 : w22.cell? ⟨w.heap.size + 1, 0, none⟩ = some (.int .i64 e) := BB.cell 0
      have cB1 : w22.cell? ⟨w.heap.size + 1, 1, none⟩ = some (.int .i64 f) := BB.cell 1
      have cB2 : w22.cell? ⟨w.heap.size + 1, 2, none⟩ = some (.int .i64 g) := BB.cell 2
      have cB3 : w22.cell? ⟨w.heap.size + 1, 3, none⟩ = some (.int .i64 h) := BB.cell 3
      have lB := BB.lt
      have cZ0 : w22.cell? ⟨w.heap.size + 1 + 1, 0, none⟩ = some (.int .i64 0) := BZ.cell 0
      have cZ1 : w22.cell? ⟨w.heap.size + 1 + 1, 1, none⟩ = some (.int .i64 0) := BZ.cell 1
      have cZ2 : w22.cell? ⟨w.heap.size + 1 + 1, 2, none⟩ = some (.int .i64 0) := BZ.cell 2
      have cZ3 : w22.cell? ⟨w.heap.size + 1 + 1, 3, none⟩ = some (.int .i64 0) := BZ.cell 3
      have fZ := BZ.frozen
      have lZ := BZ.lt
      go_wp2_with fail
      refine bodyPost_ret (v := .tuple #[.agg #[.int .i64 (mx2 a e), .int .i64 (mx2 b f), .int .i64 (mx2 c g), .int .i64 (mx2 d h)], .int .i64 0]) (by simp [results, Try.results29, go_sem, cZ0, cZ1, cZ2, cZ3]) rfl ?_
      exact ⟨retF0 _ _ _ _ _ E.out, (Below.setCell (Below.setCell (Below.setCell (Below.setCell HW (by simp; try omega) _) (by simp; try omega) _) (by simp; try omega) _) (by simp; try omega) _)⟩
end Go.Proofs.Ytlmjchmbbmiocaa
