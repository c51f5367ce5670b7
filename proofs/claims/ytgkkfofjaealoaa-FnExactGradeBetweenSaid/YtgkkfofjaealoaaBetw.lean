/-
  GradeBetween of the program and of the reference; names are any strings that Go can hold.
-/
import Derived.Test.YtgkkfofjaealoaaGrad2
import Derived.Test.YtgkkfofjaealoaaBlk2
import Derived.RegionTactic
namespace Go.Proofs.Ytgkkfofjaealoaa
open Go.RowKit
set_option maxHeartbeats 3200000

noncomputable def betwC (s : ByteArray) (l b i h p : Int) (s2 : ByteArray) (l2 b2 i2 h2 p2 t : Int) : Int :=
  if lastOk s l b i h p = false then 1 else if lastOk s2 l2 b2 i2 h2 p2 = false then 1 else if inR t 1 30 = false then 2 else if gradeOk (rnd (100 * (l2 - l)) t) (rnd (100 * (b2 - b)) t) (rnd (100 * (i2 - i)) t) (rnd (100 * (h2 - h)) t) (rnd (100 * (p2 - p)) t) = false then 6 else 0
theorem retB (c k : Int) (x1 x2 x3 x4 x5 : Int) (hc : c = k) (hk : k ≠ 0) :
    Ending.returned (.tuple #[.agg #[.int .i64 0, .int .i64 0, .int .i64 0, .int .i64 0, .int .i64 0], .int .i64 k]) = .returned (.tuple #[.agg #[.int .i64 (gNum c x1), .int .i64 (gNum c x2), .int .i64 (gNum c x3), .int .i64 (gNum c x4), .int .i64 (gNum c x5)], .int .i64 c]) := by
  subst hc; simp [gNum, hk]
theorem retB0 (c : Int) (x1 x2 x3 x4 x5 : Int) (hc : c = 0) :
    Ending.returned (.tuple #[.agg #[.int .i64 x1, .int .i64 x2, .int .i64 x3, .int .i64 x4, .int .i64 x5], .int .i64 0]) = .returned (.tuple #[.agg #[.int .i64 (gNum c x1), .int .i64 (gNum c x2), .int .i64 (gNum c x3), .int .i64 (gNum c x4), .int .i64 (gNum c x5)], .int .i64 c]) := by
  subst hc; simp [gNum]
theorem diff_mid {x y : Int} (h1 : 0 ≤ x) (h2 : x ≤ 5000) (h3 : 0 ≤ y) (h4 : y ≤ 5000) : Mid (100 * (x - y)) := by unfold Mid; omega
theorem gradeOf_any (A : Option Addr) (c : Nat) (a b d e f : Int) (w : World) (h : Rd w 1 A 5 (ints [a, b, d, e, f])) :
    Calls Try.prog 71 #[.slice A 5 c] w fun e' w' => e' = .returned (.agg #[.int .i64 a, .int .i64 b, .int .i64 d, .int .i64 e, .int .i64 f]) ∧ Below w.heap.size w w' := by
  obtain ⟨bl, off, rfl, hb, hc⟩ := h.2 (by decide)
  have k0 : w.cell? ⟨bl, off, none⟩ = some (.int .i64 a) := hc 0 _ rfl
  have k1 : w.cell? ⟨bl, off + 1, none⟩ = some (.int .i64 b) := hc 1 _ rfl
  have k2 : w.cell? ⟨bl, off + 2, none⟩ = some (.int .i64 d) := hc 2 _ rfl
  have k3 : w.cell? ⟨bl, off + 3, none⟩ = some (.int .i64 e) := hc 3 _ rfl
  have k4 : w.cell? ⟨bl, off + 4, none⟩ = some (.int .i64 f) := hc 4 _ rfl
  clear hc h
  go_enter Try.func71, Try.ntmps71
  go_wp2_with fail
  go_region
  all_goals
    go_wp2_with fail
    go_returns
    refine ⟨rfl, ?_⟩
    go_grown
def gbet (us : List Int) (t : Int) (j : Nat) (z : Int) : Int := rnd (100 * (z - ix us j)) t
theorem upd_bet (l b i h p l2 b2 i2 h2 p2 t : Int) : upd (gbet [l, b, i, h, p] t) [l2, b2, i2, h2, p2] 5 = [(rnd (100 * (l2 - l)) t), (rnd (100 * (b2 - b)) t), (rnd (100 * (i2 - i)) t), (rnd (100 * (h2 - h)) t), (rnd (100 * (p2 - p)) t)] := by
  simp [upd, gbet, ix]
set_option maxRecDepth 100000 in
theorem GradeBetween_any (s : ByteArray) (l b i h p : Int) (s2 : ByteArray) (l2 b2 i2 h2 p2 t : Int) (w : World) (hs : s.size ≤ maxLen) (hs2 : s2.size ≤ maxLen) :
    Calls Try.prog 31 #[.agg #[.string s, .int .i64 l, .int .i64 b, .int .i64 i, .int .i64 h, .int .i64 p], .agg #[.string s2, .int .i64 l2, .int .i64 b2, .int .i64 i2, .int .i64 h2, .int .i64 p2], .int .i64 t] w fun e w' => e = .returned (.tuple #[.agg #[.int .i64 (gNum (betwC s l b i h p s2 l2 b2 i2 h2 p2 t) (rnd (100 * (l2 - l)) t)), .int .i64 (gNum (betwC s l b i h p s2 l2 b2 i2 h2 p2 t) (rnd (100 * (b2 - b)) t)), .int .i64 (gNum (betwC s l b i h p s2 l2 b2 i2 h2 p2 t) (rnd (100 * (i2 - i)) t)), .int .i64 (gNum (betwC s l b i h p s2 l2 b2 i2 h2 p2 t) (rnd (100 * (h2 - h)) t)), .int .i64 (gNum (betwC s l b i h p s2 l2 b2 i2 h2 p2 t) (rnd (100 * (p2 - p)) t))], .int .i64 (betwC s l b i h p s2 l2 b2 i2 h2 p2 t)]) ∧ Below w.heap.size w w' := by
  cases j1 : lastOk s l b i h p
  · go_enter Try.func31, Try.ntmps31
    go_wp2_with fail
    refine (validLast_any _ _ _ _ _ _ _ hs).mono ?_
    rintro e w1 ⟨rfl, H1⟩
    have BA := (((Blk.new w 38 #[.string s, .int .i64 l, .int .i64 b, .int .i64 i, .int .i64 h, .int .i64 p]).alloc (.cells #[.string s2, .int .i64 l2, .int .i64 b2, .int .i64 i2, .int .i64 h2, .int .i64 p2] 38)).alloc (.cells #[.int .i64 0, .int .i64 0, .int .i64 0, .int .i64 0, .int .i64 0] 46)).below H1
    have BB := ((Blk.new1 w _ 38 #[.string s2, .int .i64 l2, .int .i64 b2, .int .i64 i2, .int .i64 h2, .int .i64 p2]).alloc (.cells #[.int .i64 0, .int .i64 0, .int .i64 0, .int .i64 0, .int .i64 0] 46)).below H1
    have BZ := (Blk.new2 w _ _ 46 #[.int .i64 0, .int .i64 0, .int .i64 0, .int .i64 0, .int .i64 0]).below H1
    have HW : Below w.heap.size w w1 := Bl.then (by go_grown) H1
    clear H1
    have cA0 : w1.cell? ⟨w.heap.size, 0, none⟩ = some (.string s) := BA.cell 0
    have cA1 : w1.cell? ⟨w.heap.size, 1, none⟩ = some (.int .i64 l) := BA.cell 1
    have cA2 : w1.cell? ⟨w.heap.size, 2, none⟩ = some (.int .i64 b) := BA.cell 2
    have cA3 : w1.cell? ⟨w.heap.size, 3, none⟩ = some (.int .i64 i) := BA.cell 3
    have cA4 : w1.cell? ⟨w.heap.size, 4, none⟩ = some (.int .i64 h) := BA.cell 4
    have cA5 : w1.cell? ⟨w.heap.size, 5, none⟩ = some (.int .i64 p) := BA.cell 5
    have lA := BA.lt
    have cB0 : w1.cell? ⟨w.heap.size + 1, 0, none⟩ = some (.string s2) := BB.cell 0
    have cB1 : w1.cell? ⟨w.heap.size + 1, 1, none⟩ = some (.int .i64 l2) := BB.cell 1
    have cB2 : w1.cell? ⟨w.heap.size + 1, 2, none⟩ = some (.int .i64 b2) := BB.cell 2
    have cB3 : w1.cell? ⟨w.heap.size + 1, 3, none⟩ = some (.int .i64 i2) := BB.cell 3
    have cB4 : w1.cell? ⟨w.heap.size + 1, 4, none⟩ = some (.int .i64 h2) := BB.cell 4
    have cB5 : w1.cell? ⟨w.heap.size + 1, 5, none⟩ = some (.int .i64 p2) := BB.cell 5
    have lB := BB.lt
    have cZ0 : w1.cell? ⟨w.heap.size + 1 + 1, 0, none⟩ = some (.int .i64 0) := BZ.cell 0
    have cZ1 : w1.cell? ⟨w.heap.size + 1 + 1, 1, none⟩ = some (.int .i64 0) := BZ.cell 1
    have cZ2 : w1.cell? ⟨w.heap.size + 1 + 1, 2, none⟩ = some (.int .i64 0) := BZ.cell 2
    have cZ3 : w1.cell? ⟨w.heap.size + 1 + 1, 3, none⟩ = some (.int .i64 0) := BZ.cell 3
    have cZ4 : w1.cell? ⟨w.heap.size + 1 + 1, 4, none⟩ = some (.int .i64 0) := BZ.cell 4
    have fZ := BZ.frozen
    have lZ := BZ.lt
    go_wp2_with fail
    refine bodyPost_ret (v := .tuple #[.agg #[.int .i64 0, .int .i64 0, .int .i64 0, .int .i64 0, .int .i64 0], .int .i64 1]) (by simp [results, Try.results31, go_sem, cZ0, cZ1, cZ2, cZ3, cZ4]) rfl ?_
    exact ⟨retB _ _ _ _ _ _ _ (by simp [betwC, j1]) (by decide), (Below.setCell (Below.setCell (Below.setCell (Below.setCell (Below.setCell HW (by simp; try omega) _) (by simp; try omega) _) (by simp; try omega) _) (by simp; try omega) _) (by simp; try omega) _)⟩
  cases j2 : lastOk s2 l2 b2 i2 h2 p2
  · go_enter Try.func31, Try.ntmps31
    go_wp2_with fail
    refine (validLast_any _ _ _ _ _ _ _ hs).mono ?_
    rintro e w1 ⟨rfl, H1⟩
    have BA := (((Blk.new w 38 #[.string s, .int .i64 l, .int .i64 b, .int .i64 i, .int .i64 h, .int .i64 p]).alloc (.cells #[.string s2, .int .i64 l2, .int .i64 b2, .int .i64 i2, .int .i64 h2, .int .i64 p2] 38)).alloc (.cells #[.int .i64 0, .int .i64 0, .int .i64 0, .int .i64 0, .int .i64 0] 46)).below H1
    have BB := ((Blk.new1 w _ 38 #[.string s2, .int .i64 l2, .int .i64 b2, .int .i64 i2, .int .i64 h2, .int .i64 p2]).alloc (.cells #[.int .i64 0, .int .i64 0, .int .i64 0, .int .i64 0, .int .i64 0] 46)).below H1
    have BZ := (Blk.new2 w _ _ 46 #[.int .i64 0, .int .i64 0, .int .i64 0, .int .i64 0, .int .i64 0]).below H1
    have HW : Below w.heap.size w w1 := Bl.then (by go_grown) H1
    clear H1
    have cA0 : w1.cell? ⟨w.heap.size, 0, none⟩ = some (.string s) := BA.cell 0
    have cA1 : w1.cell? ⟨w.heap.size, 1, none⟩ = some (.int .i64 l) := BA.cell 1
    have cA2 : w1.cell? ⟨w.heap.size, 2, none⟩ = some (.int .i64 b) := BA.cell 2
    have cA3 : w1.cell? ⟨w.heap.size, 3, none⟩ = some (.int .i64 i) := BA.cell 3
    have cA4 : w1.cell? ⟨w.heap.size, 4, none⟩ = some (.int .i64 h) := BA.cell 4
    have cA5 : w1.cell? ⟨w.heap.size, 5, none⟩ = some (.int .i64 p) := BA.cell 5
    have lA := BA.lt
    have cB0 : w1.cell? ⟨w.heap.size + 1, 0, none⟩ = some (.string s2) := BB.cell 0
    have cB1 : w1.cell? ⟨w.heap.size + 1, 1, none⟩ = some (.int .i64 l2) := BB.cell 1
    have cB2 : w1.cell? ⟨w.heap.size + 1, 2, none⟩ = some (.int .i64 b2) := BB.cell 2
    have cB3 : w1.cell? ⟨w.heap.size + 1, 3, none⟩ = some (.int .i64 i2) := BB.cell 3
    have cB4 : w1.cell? ⟨w.heap.size + 1, 4, none⟩ = some (.int .i64 h2) := BB.cell 4
    have cB5 : w1.cell? ⟨w.heap.size + 1, 5, none⟩ = some (.int .i64 p2) := BB.cell 5
    have lB := BB.lt
    have cZ0 : w1.cell? ⟨w.heap.size + 1 + 1, 0, none⟩ = some (.int .i64 0) := BZ.cell 0
    have cZ1 : w1.cell? ⟨w.heap.size + 1 + 1, 1, none⟩ = some (.int .i64 0) := BZ.cell 1
    have cZ2 : w1.cell? ⟨w.heap.size + 1 + 1, 2, none⟩ = some (.int .i64 0) := BZ.cell 2
    have cZ3 : w1.cell? ⟨w.heap.size + 1 + 1, 3, none⟩ = some (.int .i64 0) := BZ.cell 3
    have cZ4 : w1.cell? ⟨w.heap.size + 1 + 1, 4, none⟩ = some (.int .i64 0) := BZ.cell 4
    have fZ := BZ.frozen
    have lZ := BZ.lt
    go_wp2_with fail
    refine (validLast_any _ _ _ _ _ _ _ hs2).mono ?_
    rintro e w2 ⟨rfl, hb2⟩
    clear cA0 cA1 cA2 cA3 cA4 cA5 lA cB0 cB1 cB2 cB3 cB4 cB5 lB cZ0 cZ1 cZ2 cZ3 cZ4 fZ lZ
    replace BA := BA.below hb2
    replace BB := BB.below hb2
    replace BZ := BZ.below hb2
    replace HW := Bl.then HW hb2
    have cA0 : w2.cell? ⟨w.heap.size, 0, none⟩ = some (.string s) := BA.cell 0
    have cA1 : w2.cell? ⟨w.heap.size, 1, none⟩ = some (.int .i64 l) := BA.cell 1
    have cA2 : w2.cell? ⟨w.heap.size, 2, none⟩ = some (.int .i64 b) := BA.cell 2
    have cA3 : w2.cell? ⟨w.heap.size, 3, none⟩ = some (.int .i64 i) := BA.cell 3
    have cA4 : w2.cell? ⟨w.heap.size, 4, none⟩ = some (.int .i64 h) := BA.cell 4
    have cA5 : w2.cell? ⟨w.heap.size, 5, none⟩ = some (.int .i64 p) := BA.cell 5
    have lA := BA.lt
    have cB0 : w2.cell? ⟨w.heap.size + 1, 0, none⟩ = some (.string s2) := BB.cell 0
    have cB1 : w2.cell? ⟨w.heap.size + 1, 1, none⟩ = some (.int .i64 l2) := BB.cell 1
    have cB2 : w2.cell? ⟨w.heap.size + 1, 2, none⟩ = some (.int .i64 b2) := BB.cell 2
    have cB3 : w2.cell? ⟨w.heap.size + 1, 3, none⟩ = some (.int .i64 i2) := BB.cell 3
    have cB4 : w2.cell? ⟨w.heap.size + 1, 4, none⟩ = some (.int .i64 h2) := BB.cell 4
    have cB5 : w2.cell? ⟨w.heap.size + 1, 5, none⟩ = some (.int .i64 p2) := BB.cell 5
    have lB := BB.lt
    have cZ0 : w2.cell? ⟨w.heap.size + 1 + 1, 0, none⟩ = some (.int .i64 0) := BZ.cell 0
    have cZ1 : w2.cell? ⟨w.heap.size + 1 + 1, 1, none⟩ = some (.int .i64 0) := BZ.cell 1
    have cZ2 : w2.cell? ⟨w.heap.size + 1 + 1, 2, none⟩ = some (.int .i64 0) := BZ.cell 2
    have cZ3 : w2.cell? ⟨w.heap.size + 1 + 1, 3, none⟩ = some (.int .i64 0) := BZ.cell 3
    have cZ4 : w2.cell? ⟨w.heap.size + 1 + 1, 4, none⟩ = some (.int .i64 0) := BZ.cell 4
    have fZ := BZ.frozen
    have lZ := BZ.lt
    go_wp2_with fail
    refine bodyPost_ret (v := .tuple #[.agg #[.int .i64 0, .int .i64 0, .int .i64 0, .int .i64 0, .int .i64 0], .int .i64 1]) (by simp [results, Try.results31, go_sem, cZ0, cZ1, cZ2, cZ3, cZ4]) rfl ?_
    exact ⟨retB _ _ _ _ _ _ _ (by simp [betwC, j1, j2]) (by decide), (Below.setCell (Below.setCell (Below.setCell (Below.setCell (Below.setCell HW (by simp; try omega) _) (by simp; try omega) _) (by simp; try omega) _) (by simp; try omega) _) (by simp; try omega) _)⟩
  cases j3 : inR t 1 30
  · go_enter Try.func31, Try.ntmps31
    go_wp2_with fail
    refine (validLast_any _ _ _ _ _ _ _ hs).mono ?_
    rintro e w1 ⟨rfl, H1⟩
    have BA := (((Blk.new w 38 #[.string s, .int .i64 l, .int .i64 b, .int .i64 i, .int .i64 h, .int .i64 p]).alloc (.cells #[.string s2, .int .i64 l2, .int .i64 b2, .int .i64 i2, .int .i64 h2, .int .i64 p2] 38)).alloc (.cells #[.int .i64 0, .int .i64 0, .int .i64 0, .int .i64 0, .int .i64 0] 46)).below H1
    have BB := ((Blk.new1 w _ 38 #[.string s2, .int .i64 l2, .int .i64 b2, .int .i64 i2, .int .i64 h2, .int .i64 p2]).alloc (.cells #[.int .i64 0, .int .i64 0, .int .i64 0, .int .i64 0, .int .i64 0] 46)).below H1
    have BZ := (Blk.new2 w _ _ 46 #[.int .i64 0, .int .i64 0, .int .i64 0, .int .i64 0, .int .i64 0]).below H1
    have HW : Below w.heap.size w w1 := Bl.then (by go_grown) H1
    clear H1
    have cA0 : w1.cell? ⟨w.heap.size, 0, none⟩ = some (.string s) := BA.cell 0
    have cA1 : w1.cell? ⟨w.heap.size, 1, none⟩ = some (.int .i64 l) := BA.cell 1
    have cA2 : w1.cell? ⟨w.heap.size, 2, none⟩ = some (.int .i64 b) := BA.cell 2
    have cA3 : w1.cell? ⟨w.heap.size, 3, none⟩ = some (.int .i64 i) := BA.cell 3
    have cA4 : w1.cell? ⟨w.heap.size, 4, none⟩ = some (.int .i64 h) := BA.cell 4
    have cA5 : w1.cell? ⟨w.heap.size, 5, none⟩ = some (.int .i64 p) := BA.cell 5
    have lA := BA.lt
    have cB0 : w1.cell? ⟨w.heap.size + 1, 0, none⟩ = some (.string s2) := BB.cell 0
    have cB1 : w1.cell? ⟨w.heap.size + 1, 1, none⟩ = some (.int .i64 l2) := BB.cell 1
    have cB2 : w1.cell? ⟨w.heap.size + 1, 2, none⟩ = some (.int .i64 b2) := BB.cell 2
    have cB3 : w1.cell? ⟨w.heap.size + 1, 3, none⟩ = some (.int .i64 i2) := BB.cell 3
    have cB4 : w1.cell? ⟨w.heap.size + 1, 4, none⟩ = some (.int .i64 h2) := BB.cell 4
    have cB5 : w1.cell? ⟨w.heap.size + 1, 5, none⟩ = some (.int .i64 p2) := BB.cell 5
    have lB := BB.lt
    have cZ0 : w1.cell? ⟨w.heap.size + 1 + 1, 0, none⟩ = some (.int .i64 0) := BZ.cell 0
    have cZ1 : w1.cell? ⟨w.heap.size + 1 + 1, 1, none⟩ = some (.int .i64 0) := BZ.cell 1
    have cZ2 : w1.cell? ⟨w.heap.size + 1 + 1, 2, none⟩ = some (.int .i64 0) := BZ.cell 2
    have cZ3 : w1.cell? ⟨w.heap.size + 1 + 1, 3, none⟩ = some (.int .i64 0) := BZ.cell 3
    have cZ4 : w1.cell? ⟨w.heap.size + 1 + 1, 4, none⟩ = some (.int .i64 0) := BZ.cell 4
    have fZ := BZ.frozen
    have lZ := BZ.lt
    go_wp2_with fail
    refine (validLast_any _ _ _ _ _ _ _ hs2).mono ?_
    rintro e w2 ⟨rfl, hb2⟩
    clear cA0 cA1 cA2 cA3 cA4 cA5 lA cB0 cB1 cB2 cB3 cB4 cB5 lB cZ0 cZ1 cZ2 cZ3 cZ4 fZ lZ
    replace BA := BA.below hb2
    replace BB := BB.below hb2
    replace BZ := BZ.below hb2
    replace HW := Bl.then HW hb2
    have cA0 : w2.cell? ⟨w.heap.size, 0, none⟩ = some (.string s) := BA.cell 0
    have cA1 : w2.cell? ⟨w.heap.size, 1, none⟩ = some (.int .i64 l) := BA.cell 1
    have cA2 : w2.cell? ⟨w.heap.size, 2, none⟩ = some (.int .i64 b) := BA.cell 2
    have cA3 : w2.cell? ⟨w.heap.size, 3, none⟩ = some (.int .i64 i) := BA.cell 3
    have cA4 : w2.cell? ⟨w.heap.size, 4, none⟩ = some (.int .i64 h) := BA.cell 4
    have cA5 : w2.cell? ⟨w.heap.size, 5, none⟩ = some (.int .i64 p) := BA.cell 5
    have lA := BA.lt
    have cB0 : w2.cell? ⟨w.heap.size + 1, 0, none⟩ = some (.string s2) := BB.cell 0
    have cB1 : w2.cell? ⟨w.heap.size + 1, 1, none⟩ = some (.int .i64 l2) := BB.cell 1
    have cB2 : w2.cell? ⟨w.heap.size + 1, 2, none⟩ = some (.int .i64 b2) := BB.cell 2
    have cB3 : w2.cell? ⟨w.heap.size + 1, 3, none⟩ = some (.int .i64 i2) := BB.cell 3
    have cB4 : w2.cell? ⟨w.heap.size + 1, 4, none⟩ = some (.int .i64 h2) := BB.cell 4
    have cB5 : w2.cell? ⟨w.heap.size + 1, 5, none⟩ = some (.int .i64 p2) := BB.cell 5
    have lB := BB.lt
    have cZ0 : w2.cell? ⟨w.heap.size + 1 + 1, 0, none⟩ = some (.int .i64 0) := BZ.cell 0
    have cZ1 : w2.cell? ⟨w.heap.size + 1 + 1, 1, none⟩ = some (.int .i64 0) := BZ.cell 1
    have cZ2 : w2.cell? ⟨w.heap.size + 1 + 1, 2, none⟩ = some (.int .i64 0) := BZ.cell 2
    have cZ3 : w2.cell? ⟨w.heap.size + 1 + 1, 3, none⟩ = some (.int .i64 0) := BZ.cell 3
    have cZ4 : w2.cell? ⟨w.heap.size + 1 + 1, 4, none⟩ = some (.int .i64 0) := BZ.cell 4
    have fZ := BZ.frozen
    have lZ := BZ.lt
    go_wp2_with fail
    refine (within_any _ _ _ _).mono ?_
    rintro e wq2 ⟨rfl, rfl⟩
    go_wp2_with fail
    refine bodyPost_ret (v := .tuple #[.agg #[.int .i64 0, .int .i64 0, .int .i64 0, .int .i64 0, .int .i64 0], .int .i64 2]) (by simp [results, Try.results31, go_sem, cZ0, cZ1, cZ2, cZ3, cZ4]) rfl ?_
    exact ⟨retB _ _ _ _ _ _ _ (by simp [betwC, j1, j2, j3]) (by decide), (Below.setCell (Below.setCell (Below.setCell (Below.setCell (Below.setCell HW (by simp; try omega) _) (by simp; try omega) _) (by simp; try omega) _) (by simp; try omega) _) (by simp; try omega) _)⟩
  have E := Lib.hid (show betwC s l b i h p s2 l2 b2 i2 h2 p2 t = if gradeOk (rnd (100 * (l2 - l)) t) (rnd (100 * (b2 - b)) t) (rnd (100 * (i2 - i)) t) (rnd (100 * (h2 - h)) t) (rnd (100 * (p2 - p)) t) = false then 6 else 0 by simp [betwC, j1, j2, j3])
  obtain ⟨t1, t2⟩ := inR_true.1 j3
  obtain ⟨x0, ⟨x1, x2⟩, ⟨x3, x4⟩, ⟨x5, x6⟩, ⟨x7, x8⟩, x9, x10⟩ := lastOk_bd j1
  obtain ⟨y0, ⟨y1, y2⟩, ⟨y3, y4⟩, ⟨y5, y6⟩, ⟨y7, y8⟩, y9, y10⟩ := lastOk_bd j2
  go_enter Try.func31, Try.ntmps31
  go_wp2_with fail
  refine (validLast_any _ _ _ _ _ _ _ hs).mono ?_
  rintro e w1 ⟨rfl, H1⟩
  have BA := (((Blk.new w 38 #[.string s, .int .i64 l, .int .i64 b, .int .i64 i, .int .i64 h, .int .i64 p]).alloc (.cells #[.string s2, .int .i64 l2, .int .i64 b2, .int .i64 i2, .int .i64 h2, .int .i64 p2] 38)).alloc (.cells #[.int .i64 0, .int .i64 0, .int .i64 0, .int .i64 0, .int .i64 0] 46)).below H1
  have BB := ((Blk.new1 w _ 38 #[.string s2, .int .i64 l2, .int .i64 b2, .int .i64 i2, .int .i64 h2, .int .i64 p2]).alloc (.cells #[.int .i64 0, .int .i64 0, .int .i64 0, .int .i64 0, .int .i64 0] 46)).below H1
  have BZ := (Blk.new2 w _ _ 46 #[.int .i64 0, .int .i64 0, .int .i64 0, .int .i64 0, .int .i64 0]).below H1
  have HW : Below w.heap.size w w1 := Bl.then (by go_grown) H1
  clear H1
  have cA0 : w1.cell? ⟨w.heap.size, 0, none⟩ = some (.string s) := BA.cell 0
  have cA1 : w1.cell? ⟨w.heap.size, 1, none⟩ = some (.int .i64 l) := BA.cell 1
  have cA2 : w1.cell? ⟨w.heap.size, 2, none⟩ = some (.int .i64 b) := BA.cell 2
  have cA3 : w1.cell? ⟨w.heap.size, 3, none⟩ = some (.int .i64 i) := BA.cell 3
  have cA4 : w1.cell? ⟨w.heap.size, 4, none⟩ = some (.int .i64 h) := BA.cell 4
  have cA5 : w1.cell? ⟨w.heap.size, 5, none⟩ = some (.int .i64 p) := BA.cell 5
  have lA := BA.lt
  have cB0 : w1.cell? ⟨w.heap.size + 1, 0, none⟩ = some (.string s2) := BB.cell 0
  have cB1 : w1.cell? ⟨w.heap.size + 1, 1, none⟩ = some (.int .i64 l2) := BB.cell 1
  have cB2 : w1.cell? ⟨w.heap.size + 1, 2, none⟩ = some (.int .i64 b2) := BB.cell 2
  have cB3 : w1.cell? ⟨w.heap.size + 1, 3, none⟩ = some (.int .i64 i2) := BB.cell 3
  have cB4 : w1.cell? ⟨w.heap.size + 1, 4, none⟩ = some (.int .i64 h2) := BB.cell 4
  have cB5 : w1.cell? ⟨w.heap.size + 1, 5, none⟩ = some (.int .i64 p2) := BB.cell 5
  have lB := BB.lt
  have cZ0 : w1.cell? ⟨w.heap.size + 1 + 1, 0, none⟩ = some (.int .i64 0) := BZ.cell 0
  have cZ1 : w1.cell? ⟨w.heap.size + 1 + 1, 1, none⟩ = some (.int .i64 0) := BZ.cell 1
  have cZ2 : w1.cell? ⟨w.heap.size + 1 + 1, 2, none⟩ = some (.int .i64 0) := BZ.cell 2
  have cZ3 : w1.cell? ⟨w.heap.size + 1 + 1, 3, none⟩ = some (.int .i64 0) := BZ.cell 3
  have cZ4 : w1.cell? ⟨w.heap.size + 1 + 1, 4, none⟩ = some (.int .i64 0) := BZ.cell 4
  have fZ := BZ.frozen
  have lZ := BZ.lt
  go_wp2_with fail
  refine (validLast_any _ _ _ _ _ _ _ hs2).mono ?_
  rintro e w2 ⟨rfl, hb2⟩
  clear cA0 cA1 cA2 cA3 cA4 cA5 lA cB0 cB1 cB2 cB3 cB4 cB5 lB cZ0 cZ1 cZ2 cZ3 cZ4 fZ lZ
  replace BA := BA.below hb2
  replace BB := BB.below hb2
  replace BZ := BZ.below hb2
  replace HW := Bl.then HW hb2
  have cA0 : w2.cell? ⟨w.heap.size, 0, none⟩ = some (.string s) := BA.cell 0
  have cA1 : w2.cell? ⟨w.heap.size, 1, none⟩ = some (.int .i64 l) := BA.cell 1
  have cA2 : w2.cell? ⟨w.heap.size, 2, none⟩ = some (.int .i64 b) := BA.cell 2
  have cA3 : w2.cell? ⟨w.heap.size, 3, none⟩ = some (.int .i64 i) := BA.cell 3
  have cA4 : w2.cell? ⟨w.heap.size, 4, none⟩ = some (.int .i64 h) := BA.cell 4
  have cA5 : w2.cell? ⟨w.heap.size, 5, none⟩ = some (.int .i64 p) := BA.cell 5
  have lA := BA.lt
  have cB0 : w2.cell? ⟨w.heap.size + 1, 0, none⟩ = some (.string s2) := BB.cell 0
  have cB1 : w2.cell? ⟨w.heap.size + 1, 1, none⟩ = some (.int .i64 l2) := BB.cell 1
  have cB2 : w2.cell? ⟨w.heap.size + 1, 2, none⟩ = some (.int .i64 b2) := BB.cell 2
  have cB3 : w2.cell? ⟨w.heap.size + 1, 3, none⟩ = some (.int .i64 i2) := BB.cell 3
  have cB4 : w2.cell? ⟨w.heap.size + 1, 4, none⟩ = some (.int .i64 h2) := BB.cell 4
  have cB5 : w2.cell? ⟨w.heap.size + 1, 5, none⟩ = some (.int .i64 p2) := BB.cell 5
  have lB := BB.lt
  have cZ0 : w2.cell? ⟨w.heap.size + 1 + 1, 0, none⟩ = some (.int .i64 0) := BZ.cell 0
  have cZ1 : w2.cell? ⟨w.heap.size + 1 + 1, 1, none⟩ = some (.int .i64 0) := BZ.cell 1
  have cZ2 : w2.cell? ⟨w.heap.size + 1 + 1, 2, none⟩ = some (.int .i64 0) := BZ.cell 2
  have cZ3 : w2.cell? ⟨w.heap.size + 1 + 1, 3, none⟩ = some (.int .i64 0) := BZ.cell 3
  have cZ4 : w2.cell? ⟨w.heap.size + 1 + 1, 4, none⟩ = some (.int .i64 0) := BZ.cell 4
  have fZ := BZ.frozen
  have lZ := BZ.lt
  go_wp2_with fail
  refine (within_any _ _ _ _).mono ?_
  rintro e wq2 ⟨rfl, rfl⟩
  have hx : ∀ k : Nat, k < 5 → (0 ≤ ix [l, b, i, h, p] k ∧ ix [l, b, i, h, p] k ≤ 5000) ∧ (0 ≤ ix [l2, b2, i2, h2, p2] k ∧ ix [l2, b2, i2, h2, p2] k ≤ 5000) := by
    intro k hk
    match k, hk with
    | 0, _ => simp [ix]; omega
    | 1, _ => simp [ix]; omega
    | 2, _ => simp [ix]; omega
    | 3, _ => simp [ix]; omega
    | 4, _ => simp [ix]; omega
  have hx' := Lib.hid hx
  have hu := Lib.hid (upd_bet l b i h p l2 b2 i2 h2 p2 t)
  clear hx x1 x2 x3 x4 x5 x6 x7 x8 x9 x10 y1 y2 y3 y4 y5 y6 y7 y8 y9 y10
  go_wp2_with fail
  refine (Lnumbers_any _ _ _ _ _ _ _).mono ?_
  rintro e v1 ⟨A1, e1, rfl, o1, gb1⟩
  have L1 := Lib.hid o1.lt
  obtain ⟨hc, hf⟩ := bcell gb1
  go_wp2_with fail
  refine (Lnumbers_any _ _ _ _ _ _ _).mono ?_
  rintro e v2 ⟨A2, e2, rfl, o2, gb2⟩
  have L2 := Lib.hid o2.lt
  have HV := Bl.then gb1 gb2
  have o1' := own_below o1 gb2
  clear hc hf o1 gb2
  clear cA0 cA1 cA2 cA3 cA4 cA5 lA cB0 cB1 cB2 cB3 cB4 cB5 lB cZ0 cZ1 cZ2 cZ3 cZ4 fZ lZ
  generalize hzs : [l, b, i, h, p] = us at o2 hx' hu
  generalize hys : [l2, b2, i2, h2, p2] = vs at o1' hx' hu
  have hul := Lib.hid (show vs.length = 5 by rw [← hys]; rfl)
  clear hzs hys
  obtain ⟨g1, rfl, -, -, -, -⟩ := own_form o1' (by omega)
  obtain ⟨g2, rfl, -, -, -, -⟩ := own_form o2 (by omega)
  have hd : g2 ≠ g1 := fun hh => by
    have i3 := L1.out g1 rfl
    have i4 := L2.out g2 rfl
    omega
  go_wp2_with fail
  go_loopw [32] (fun i wr => ∃ k : Nat, k ≤ 5 ∧ i = .int .i64 k ∧ wr.ownsRow w2.heap.size 2 1 (.slice (some ⟨g1, 0, none⟩) 5 e1) 5 (ints (upd (gbet us t) vs k)) ∧ wr.ownsRow v1.heap.size 2 1 (.slice (some ⟨g2, 0, none⟩) 5 e2) 5 (ints us) ∧ Below w2.heap.size w2 wr) (fun i _ => 5 - (intOf i).toNat)
  case atStart => exact ⟨0, by omega, rfl, by rw [upd_zero]; exact o1', o2, HV⟩
  case round =>
    obtain ⟨k, hk, rfl, ho, hq, HB⟩ := hrel
    by_cases hlt : k < 5
    · have k1 := ho.cellAt k (by omega)
      have k2 := hq.cellAt k (by omega)
      have hkl : k < vs.length := by rw [hul.out]; exact hlt
      rw [ints_get (by rw [upd_len]; exact hkl), upd_ix hkl] at k1
      rw [ints_get (by rw [own_int_len hq]; exact hlt)] at k2
      have hfr := ho.frozenAt k
      obtain ⟨⟨z1, z2⟩, z3, z4⟩ := hx'.out k hlt
      have m1 : Mid (100 * (ix vs k - ix us k)) := diff_mid z3 z4 z1 z2
      have m2 : Mid t := by unfold Mid; omega
      have hup := Lib.hid (upd_step (g := gbet us t) (x := rnd (100 * (ix vs k - ix us k)) t) hkl rfl)
      clear hkl
      go_wp2_with (go_at_call 70; refine (rounded_any _ _ _ m1 t1 m2).mono ?_; rintro e wx ⟨rfl, rfl⟩)
      go_roundw
      case rel =>
        have hst := ho.stored k (.int .i64 (rnd (100 * (ix vs k - ix us k)) t))
        rw [ints_setAt, hup.out] at hst
        have hq2 := keep_own hq hst.2 (by rintro g g' h1 h2; cases h1; cases h2; exact hd)
        exact ⟨k + 1, by omega, by go_num, hst.1, hq2, HB.grown hst.2 HB.size (by rintro q hq'; cases hq'; exact (L1.out g1 rfl).1)⟩
      case measure => simp [intOf]; omega
    · obtain rfl : k = 5 := by omega
      rw [hu.out] at ho
      replace BA := BA.below HB
      replace BB := BB.below HB
      replace BZ := BZ.below HB
      replace HW := Bl.then HW HB
      have cA0 : wr.cell? ⟨w.heap.size, 0, none⟩ = some (.string s) := BA.cell 0
      have cA1 : wr.cell? ⟨w.heap.size, 1, none⟩ = some (.int .i64 l) := BA.cell 1
      have cA2 : wr.cell? ⟨w.heap.size, 2, none⟩ = some (.int .i64 b) := BA.cell 2
      have cA3 : wr.cell? ⟨w.heap.size, 3, none⟩ = some (.int .i64 i) := BA.cell 3
      have cA4 : wr.cell? ⟨w.heap.size, 4, none⟩ = some (.int .i64 h) := BA.cell 4
      have cA5 : wr.cell? ⟨w.heap.size, 5, none⟩ = some (.int .i64 p) := BA.cell 5
      have lA := BA.lt
      have cB0 : wr.cell? ⟨w.heap.size + 1, 0, none⟩ = some (.string s2) := BB.cell 0
      have cB1 : wr.cell? ⟨w.heap.size + 1, 1, none⟩ = some (.int .i64 l2) := BB.cell 1
      have cB2 : wr.cell? ⟨w.heap.size + 1, 2, none⟩ = some (.int .i64 b2) := BB.cell 2
      have cB3 : wr.cell? ⟨w.heap.size + 1, 3, none⟩ = some (.int .i64 i2) := BB.cell 3
      have cB4 : wr.cell? ⟨w.heap.size + 1, 4, none⟩ = some (.int .i64 h2) := BB.cell 4
      have cB5 : wr.cell? ⟨w.heap.size + 1, 5, none⟩ = some (.int .i64 p2) := BB.cell 5
      have lB := BB.lt
      have cZ0 : wr.cell? ⟨w.heap.size + 1 + 1, 0, none⟩ = some (.int .i64 0) := BZ.cell 0
      have cZ1 : wr.cell? ⟨w.heap.size + 1 + 1, 1, none⟩ = some (.int .i64 0) := BZ.cell 1
      have cZ2 : wr.cell? ⟨w.heap.size + 1 + 1, 2, none⟩ = some (.int .i64 0) := BZ.cell 2
      have cZ3 : wr.cell? ⟨w.heap.size + 1 + 1, 3, none⟩ = some (.int .i64 0) := BZ.cell 3
      have cZ4 : wr.cell? ⟨w.heap.size + 1 + 1, 4, none⟩ = some (.int .i64 0) := BZ.cell 4
      have fZ := BZ.frozen
      have lZ := BZ.lt
      clear hq
      go_wp2_with fail
      refine (gradeOf_any _ _ _ _ _ _ _ _ (Rd.of_own ho)).mono ?_
      rintro e w22 ⟨rfl, hb22⟩
      clear cA0 cA1 cA2 cA3 cA4 cA5 lA cB0 cB1 cB2 cB3 cB4 cB5 lB cZ0 cZ1 cZ2 cZ3 cZ4 fZ lZ
      replace BA := BA.below hb22
      replace BB := BB.below hb22
      replace BZ := BZ.below hb22
      replace HW := Bl.then HW hb22
      have cA0 : w22.cell? ⟨w.heap.size, 0, none⟩ = some (.string s) := BA.cell 0
      have cA1 : w22.cell? ⟨w.heap.size, 1, none⟩ = some (.int .i64 l) := BA.cell 1
      have cA2 : w22.cell? ⟨w.heap.size, 2, none⟩ = some (.int .i64 b) := BA.cell 2
      have cA3 : w22.cell? ⟨w.heap.size, 3, none⟩ = some (.int .i64 i) := BA.cell 3
      have cA4 : w22.cell? ⟨w.heap.size, 4, none⟩ = some (.int .i64 h) := BA.cell 4
      have cA5 : w22.cell? ⟨w.heap.size, 5, none⟩ = some (.int .i64 p) := BA.cell 5
      have lA := BA.lt
      have cB0 : w22.cell? ⟨w.heap.size + 1, 0, none⟩ = some (.string s2) := BB.cell 0
      have cB1 : w22.cell? ⟨w.heap.size + 1, 1, none⟩ = some (.int .i64 l2) := BB.cell 1
      have cB2 : w22.cell? ⟨w.heap.size + 1, 2, none⟩ = some (.int .i64 b2) := BB.cell 2
      have cB3 : w22.cell? ⟨w.heap.size + 1, 3, none⟩ = some (.int .i64 i2) := BB.cell 3
      have cB4 : w22.cell? ⟨w.heap.size + 1, 4, none⟩ = some (.int .i64 h2) := BB.cell 4
      have cB5 : w22.cell? ⟨w.heap.size + 1, 5, none⟩ = some (.int .i64 p2) := BB.cell 5
      have lB := BB.lt
      have cZ0 : w22.cell? ⟨w.heap.size + 1 + 1, 0, none⟩ = some (.int .i64 0) := BZ.cell 0
      have cZ1 : w22.cell? ⟨w.heap.size + 1 + 1, 1, none⟩ = some (.int .i64 0) := BZ.cell 1
      have cZ2 : w22.cell? ⟨w.heap.size + 1 + 1, 2, none⟩ = some (.int .i64 0) := BZ.cell 2
      have cZ3 : w22.cell? ⟨w.heap.size + 1 + 1, 3, none⟩ = some (.int .i64 0) := BZ.cell 3
      have cZ4 : w22.cell? ⟨w.heap.size + 1 + 1, 4, none⟩ = some (.int .i64 0) := BZ.cell 4
      have fZ := BZ.frozen
      have lZ := BZ.lt
      clear cA0 cA1 cA2 cA3 cA4 cA5 lA cB0 cB1 cB2 cB3 cB4 cB5 lB cZ0 cZ1 cZ2 cZ3 cZ4 fZ lZ
      replace BA := BA.alloc (.cells #[.int .i64 (rnd (100 * (l2 - l)) t), .int .i64 (rnd (100 * (b2 - b)) t), .int .i64 (rnd (100 * (i2 - i)) t), .int .i64 (rnd (100 * (h2 - h)) t), .int .i64 (rnd (100 * (p2 - p)) t)] 46)
      replace BB := BB.alloc (.cells #[.int .i64 (rnd (100 * (l2 - l)) t), .int .i64 (rnd (100 * (b2 - b)) t), .int .i64 (rnd (100 * (i2 - i)) t), .int .i64 (rnd (100 * (h2 - h)) t), .int .i64 (rnd (100 * (p2 - p)) t)] 46)
      replace BZ := BZ.alloc (.cells #[.int .i64 (rnd (100 * (l2 - l)) t), .int .i64 (rnd (100 * (b2 - b)) t), .int .i64 (rnd (100 * (i2 - i)) t), .int .i64 (rnd (100 * (h2 - h)) t), .int .i64 (rnd (100 * (p2 - p)) t)] 46)
      have BG := Blk.new w22 46 #[.int .i64 (rnd (100 * (l2 - l)) t), .int .i64 (rnd (100 * (b2 - b)) t), .int .i64 (rnd (100 * (i2 - i)) t), .int .i64 (rnd (100 * (h2 - h)) t), .int .i64 (rnd (100 * (p2 - p)) t)]
      replace HW := Bl.alloc HW (.cells #[.int .i64 (rnd (100 * (l2 - l)) t), .int .i64 (rnd (100 * (b2 - b)) t), .int .i64 (rnd (100 * (i2 - i)) t), .int .i64 (rnd (100 * (h2 - h)) t), .int .i64 (rnd (100 * (p2 - p)) t)] 46)
      cases j5 : gradeOk (rnd (100 * (l2 - l)) t) (rnd (100 * (b2 - b)) t) (rnd (100 * (i2 - i)) t) (rnd (100 * (h2 - h)) t) (rnd (100 * (p2 - p)) t)
      · go_wp2_with fail
        refine (ValidGrade_any _ _ _ _ _ _).mono ?_
        rintro e w23 ⟨rfl, hb23⟩
        replace BA := BA.below hb23
        replace BB := BB.below hb23
        replace BZ := BZ.below hb23
        replace BG := BG.below hb23
        replace HW := Bl.then HW hb23
        have cA0 : w23.cell? ⟨w.heap.size, 0, none⟩ = some (.string s) := BA.cell 0
        have cA1 : w23.cell? ⟨w.heap.size, 1, none⟩ = some (.int .i64 l) := BA.cell 1
        have cA2 : w23.cell? ⟨w.heap.size, 2, none⟩ = some (.int .i64 b) := BA.cell 2
        have cA3 : w23.cell? ⟨w.heap.size, 3, none⟩ = some (.int .i64 i) := BA.cell 3
        have cA4 : w23.cell? ⟨w.heap.size, 4, none⟩ = some (.int .i64 h) := BA.cell 4
        have cA5 : w23.cell? ⟨w.heap.size, 5, none⟩ = some (.int .i64 p) := BA.cell 5
        have lA := BA.lt
        have cB0 : w23.cell? ⟨w.heap.size + 1, 0, none⟩ = some (.string s2) := BB.cell 0
        have cB1 : w23.cell? ⟨w.heap.size + 1, 1, none⟩ = some (.int .i64 l2) := BB.cell 1
        have cB2 : w23.cell? ⟨w.heap.size + 1, 2, none⟩ = some (.int .i64 b2) := BB.cell 2
        have cB3 : w23.cell? ⟨w.heap.size + 1, 3, none⟩ = some (.int .i64 i2) := BB.cell 3
        have cB4 : w23.cell? ⟨w.heap.size + 1, 4, none⟩ = some (.int .i64 h2) := BB.cell 4
        have cB5 : w23.cell? ⟨w.heap.size + 1, 5, none⟩ = some (.int .i64 p2) := BB.cell 5
        have lB := BB.lt
        have cZ0 : w23.cell? ⟨w.heap.size + 1 + 1, 0, none⟩ = some (.int .i64 0) := BZ.cell 0
        have cZ1 : w23.cell? ⟨w.heap.size + 1 + 1, 1, none⟩ = some (.int .i64 0) := BZ.cell 1
        have cZ2 : w23.cell? ⟨w.heap.size + 1 + 1, 2, none⟩ = some (.int .i64 0) := BZ.cell 2
        have cZ3 : w23.cell? ⟨w.heap.size + 1 + 1, 3, none⟩ = some (.int .i64 0) := BZ.cell 3
        have cZ4 : w23.cell? ⟨w.heap.size + 1 + 1, 4, none⟩ = some (.int .i64 0) := BZ.cell 4
        have fZ := BZ.frozen
        have lZ := BZ.lt
        have cG0 : w23.cell? ⟨w22.heap.size, 0, none⟩ = some (.int .i64 (rnd (100 * (l2 - l)) t)) := BG.cell 0
        have cG1 : w23.cell? ⟨w22.heap.size, 1, none⟩ = some (.int .i64 (rnd (100 * (b2 - b)) t)) := BG.cell 1
        have cG2 : w23.cell? ⟨w22.heap.size, 2, none⟩ = some (.int .i64 (rnd (100 * (i2 - i)) t)) := BG.cell 2
        have cG3 : w23.cell? ⟨w22.heap.size, 3, none⟩ = some (.int .i64 (rnd (100 * (h2 - h)) t)) := BG.cell 3
        have cG4 : w23.cell? ⟨w22.heap.size, 4, none⟩ = some (.int .i64 (rnd (100 * (p2 - p)) t)) := BG.cell 4
        have lG := BG.lt
        go_wp2_with fail
        refine bodyPost_ret (v := .tuple #[.agg #[.int .i64 0, .int .i64 0, .int .i64 0, .int .i64 0, .int .i64 0], .int .i64 6]) (by simp [results, Try.results31, go_sem, cZ0, cZ1, cZ2, cZ3, cZ4]) rfl ?_
        exact ⟨retB _ _ _ _ _ _ _ (by rw [E.out, j5]; rfl) (by decide), (Below.setCell (Below.setCell (Below.setCell (Below.setCell (Below.setCell HW (by simp; try omega) _) (by simp; try omega) _) (by simp; try omega) _) (by simp; try omega) _) (by simp; try omega) _)⟩
      · go_wp2_with fail
        refine (ValidGrade_any _ _ _ _ _ _).mono ?_
        rintro e w23 ⟨rfl, hb23⟩
        replace BA := BA.below hb23
        replace BB := BB.below hb23
        replace BZ := BZ.below hb23
        replace BG := BG.below hb23
        replace HW := Bl.then HW hb23
        have cA0 : w23.cell? ⟨w.heap.size, 0, none⟩ = some (.string s) := BA.cell 0
        have cA1 : w23.cell? ⟨w.heap.size, 1, none⟩ = some (.int .i64 l) := BA.cell 1
        have cA2 : w23.cell? ⟨w.heap.size, 2, none⟩ = some (.int .i64 b) := BA.cell 2
        have cA3 : w23.cell? ⟨w.heap.size, 3, none⟩ = some (.int .i64 i) := BA.cell 3
        have cA4 : w23.cell? ⟨w.heap.size, 4, none⟩ = some (.int .i64 h) := BA.cell 4
        have cA5 : w23.cell? ⟨w.heap.size, 5, none⟩ = some (.int .i64 p) := BA.cell 5
        have lA := BA.lt
        have cB0 : w23.cell? ⟨w.heap.size + 1, 0, none⟩ = some (.string s2) := BB.cell 0
        have cB1 : w23.cell? ⟨w.heap.size + 1, 1, none⟩ = some (.int .i64 l2) := BB.cell 1
        have cB2 : w23.cell? ⟨w.heap.size + 1, 2, none⟩ = some (.int .i64 b2) := BB.cell 2
        have cB3 : w23.cell? ⟨w.heap.size + 1, 3, none⟩ = some (.int .i64 i2) := BB.cell 3
        have cB4 : w23.cell? ⟨w.heap.size + 1, 4, none⟩ = some (.int .i64 h2) := BB.cell 4
        have cB5 : w23.cell? ⟨w.heap.size + 1, 5, none⟩ = some (.int .i64 p2) := BB.cell 5
        have lB := BB.lt
        have cZ0 : w23.cell? ⟨w.heap.size + 1 + 1, 0, none⟩ = some (.int .i64 0) := BZ.cell 0
        have cZ1 : w23.cell? ⟨w.heap.size + 1 + 1, 1, none⟩ = some (.int .i64 0) := BZ.cell 1
        have cZ2 : w23.cell? ⟨w.heap.size + 1 + 1, 2, none⟩ = some (.int .i64 0) := BZ.cell 2
        have cZ3 : w23.cell? ⟨w.heap.size + 1 + 1, 3, none⟩ = some (.int .i64 0) := BZ.cell 3
        have cZ4 : w23.cell? ⟨w.heap.size + 1 + 1, 4, none⟩ = some (.int .i64 0) := BZ.cell 4
        have fZ := BZ.frozen
        have lZ := BZ.lt
        have cG0 : w23.cell? ⟨w22.heap.size, 0, none⟩ = some (.int .i64 (rnd (100 * (l2 - l)) t)) := BG.cell 0
        have cG1 : w23.cell? ⟨w22.heap.size, 1, none⟩ = some (.int .i64 (rnd (100 * (b2 - b)) t)) := BG.cell 1
        have cG2 : w23.cell? ⟨w22.heap.size, 2, none⟩ = some (.int .i64 (rnd (100 * (i2 - i)) t)) := BG.cell 2
        have cG3 : w23.cell? ⟨w22.heap.size, 3, none⟩ = some (.int .i64 (rnd (100 * (h2 - h)) t)) := BG.cell 3
        have cG4 : w23.cell? ⟨w22.heap.size, 4, none⟩ = some (.int .i64 (rnd (100 * (p2 - p)) t)) := BG.cell 4
        have lG := BG.lt
        go_wp2_with fail
        refine bodyPost_ret (v := .tuple #[.agg #[.int .i64 (rnd (100 * (l2 - l)) t), .int .i64 (rnd (100 * (b2 - b)) t), .int .i64 (rnd (100 * (i2 - i)) t), .int .i64 (rnd (100 * (h2 - h)) t), .int .i64 (rnd (100 * (p2 - p)) t)], .int .i64 0]) (by simp [results, Try.results31, go_sem, cZ0, cZ1, cZ2, cZ3, cZ4]) rfl ?_
        exact ⟨retB0 _ _ _ _ _ _ (by rw [E.out, j5]; rfl), (Below.setCell (Below.setCell (Below.setCell (Below.setCell (Below.setCell HW (by simp; try omega) _) (by simp; try omega) _) (by simp; try omega) _) (by simp; try omega) _) (by simp; try omega) _)⟩
set_option maxRecDepth 100000 in
theorem sGradeBetween_any (s : ByteArray) (l b i h p : Int) (s2 : ByteArray) (l2 b2 i2 h2 p2 t : Int) (w : World) (hs : s.size ≤ maxLen) (hs2 : s2.size ≤ maxLen) :
    Calls Try.prog 30 #[.agg #[.string s, .int .i64 l, .int .i64 b, .int .i64 i, .int .i64 h, .int .i64 p], .agg #[.string s2, .int .i64 l2, .int .i64 b2, .int .i64 i2, .int .i64 h2, .int .i64 p2], .int .i64 t] w fun e w' => e = .returned (.tuple #[.agg #[.int .i64 (gNum (betwC s l b i h p s2 l2 b2 i2 h2 p2 t) (rnd (100 * (l2 - l)) t)), .int .i64 (gNum (betwC s l b i h p s2 l2 b2 i2 h2 p2 t) (rnd (100 * (b2 - b)) t)), .int .i64 (gNum (betwC s l b i h p s2 l2 b2 i2 h2 p2 t) (rnd (100 * (i2 - i)) t)), .int .i64 (gNum (betwC s l b i h p s2 l2 b2 i2 h2 p2 t) (rnd (100 * (h2 - h)) t)), .int .i64 (gNum (betwC s l b i h p s2 l2 b2 i2 h2 p2 t) (rnd (100 * (p2 - p)) t))], .int .i64 (betwC s l b i h p s2 l2 b2 i2 h2 p2 t)]) ∧ Below w.heap.size w w' := by
  cases j1 : lastOk s l b i h p
  · go_enter Try.func30, Try.ntmps30
    go_wp2_with fail
    refine (l04One_any _ _ _ _ _ _ _ hs).mono ?_
    rintro e w1 ⟨rfl, H1⟩
    have BA := (((Blk.new w 38 #[.string s, .int .i64 l, .int .i64 b, .int .i64 i, .int .i64 h, .int .i64 p]).alloc (.cells #[.string s2, .int .i64 l2, .int .i64 b2, .int .i64 i2, .int .i64 h2, .int .i64 p2] 38)).alloc (.cells #[.int .i64 0, .int .i64 0, .int .i64 0, .int .i64 0, .int .i64 0] 46)).below H1
    have BB := ((Blk.new1 w _ 38 #[.string s2, .int .i64 l2, .int .i64 b2, .int .i64 i2, .int .i64 h2, .int .i64 p2]).alloc (.cells #[.int .i64 0, .int .i64 0, .int .i64 0, .int .i64 0, .int .i64 0] 46)).below H1
    have BZ := (Blk.new2 w _ _ 46 #[.int .i64 0, .int .i64 0, .int .i64 0, .int .i64 0, .int .i64 0]).below H1
    have HW : Below w.heap.size w w1 := Bl.then (by go_grown) H1
    clear H1
    have cA0 : w1.cell? ⟨w.heap.size, 0, none⟩ = some (.string s) := BA.cell 0
    have cA1 : w1.cell? ⟨w.heap.size, 1, none⟩ = some (.int .i64 l) := BA.cell 1
    have cA2 : w1.cell? ⟨w.heap.size, 2, none⟩ = some (.int .i64 b) := BA.cell 2
    have cA3 : w1.cell? ⟨w.heap.size, 3, none⟩ = some (.int .i64 i) := BA.cell 3
    have cA4 : w1.cell? ⟨w.heap.size, 4, none⟩ = some (.int .i64 h) := BA.cell 4
    have cA5 : w1.cell? ⟨w.heap.size, 5, none⟩ = some (.int .i64 p) := BA.cell 5
    have lA := BA.lt
    have cB0 : w1.cell? ⟨w.heap.size + 1, 0, none⟩ = some (.string s2) := BB.cell 0
    have cB1 : w1.cell? ⟨w.heap.size + 1, 1, none⟩ = some (.int .i64 l2) := BB.cell 1
    have cB2 : w1.cell? ⟨w.heap.size + 1, 2, none⟩ = some (.int .i64 b2) := BB.cell 2
    have cB3 : w1.cell? ⟨w.heap.size + 1, 3, none⟩ = some (.int .i64 i2) := BB.cell 3
    have cB4 : w1.cell? ⟨w.heap.size + 1, 4, none⟩ = some (.int .i64 h2) := BB.cell 4
    have cB5 : w1.cell? ⟨w.heap.size + 1, 5, none⟩ = some (.int .i64 p2) := BB.cell 5
    have lB := BB.lt
    have cZ0 : w1.cell? ⟨w.heap.size + 1 + 1, 0, none⟩ = some (.int .i64 0) := BZ.cell 0
    have cZ1 : w1.cell? ⟨w.heap.size + 1 + 1, 1, none⟩ = some (.int .i64 0) := BZ.cell 1
    have cZ2 : w1.cell? ⟨w.heap.size + 1 + 1, 2, none⟩ = some (.int .i64 0) := BZ.cell 2
    have cZ3 : w1.cell? ⟨w.heap.size + 1 + 1, 3, none⟩ = some (.int .i64 0) := BZ.cell 3
    have cZ4 : w1.cell? ⟨w.heap.size + 1 + 1, 4, none⟩ = some (.int .i64 0) := BZ.cell 4
    have fZ := BZ.frozen
    have lZ := BZ.lt
    go_wp2_with fail
    refine bodyPost_ret (v := .tuple #[.agg #[.int .i64 0, .int .i64 0, .int .i64 0, .int .i64 0, .int .i64 0], .int .i64 1]) (by simp [results, Try.results30, go_sem, cZ0, cZ1, cZ2, cZ3, cZ4]) rfl ?_
    exact ⟨retB _ _ _ _ _ _ _ (by simp [betwC, j1]) (by decide), (Below.setCell (Below.setCell (Below.setCell (Below.setCell (Below.setCell HW (by simp; try omega) _) (by simp; try omega) _) (by simp; try omega) _) (by simp; try omega) _) (by simp; try omega) _)⟩
  cases j2 : lastOk s2 l2 b2 i2 h2 p2
  · go_enter Try.func30, Try.ntmps30
    go_wp2_with fail
    refine (l04One_any _ _ _ _ _ _ _ hs).mono ?_
    rintro e w1 ⟨rfl, H1⟩
    have BA := (((Blk.new w 38 #[.string s, .int .i64 l, .int .i64 b, .int .i64 i, .int .i64 h, .int .i64 p]).alloc (.cells #[.string s2, .int .i64 l2, .int .i64 b2, .int .i64 i2, .int .i64 h2, .int .i64 p2] 38)).alloc (.cells #[.int .i64 0, .int .i64 0, .int .i64 0, .int .i64 0, .int .i64 0] 46)).below H1
    have BB := ((Blk.new1 w _ 38 #[.string s2, .int .i64 l2, .int .i64 b2, .int .i64 i2, .int .i64 h2, .int .i64 p2]).alloc (.cells #[.int .i64 0, .int .i64 0, .int .i64 0, .int .i64 0, .int .i64 0] 46)).below H1
    have BZ := (Blk.new2 w _ _ 46 #[.int .i64 0, .int .i64 0, .int .i64 0, .int .i64 0, .int .i64 0]).below H1
    have HW : Below w.heap.size w w1 := Bl.then (by go_grown) H1
    clear H1
    have cA0 : w1.cell? ⟨w.heap.size, 0, none⟩ = some (.string s) := BA.cell 0
    have cA1 : w1.cell? ⟨w.heap.size, 1, none⟩ = some (.int .i64 l) := BA.cell 1
    have cA2 : w1.cell? ⟨w.heap.size, 2, none⟩ = some (.int .i64 b) := BA.cell 2
    have cA3 : w1.cell? ⟨w.heap.size, 3, none⟩ = some (.int .i64 i) := BA.cell 3
    have cA4 : w1.cell? ⟨w.heap.size, 4, none⟩ = some (.int .i64 h) := BA.cell 4
    have cA5 : w1.cell? ⟨w.heap.size, 5, none⟩ = some (.int .i64 p) := BA.cell 5
    have lA := BA.lt
    have cB0 : w1.cell? ⟨w.heap.size + 1, 0, none⟩ = some (.string s2) := BB.cell 0
    have cB1 : w1.cell? ⟨w.heap.size + 1, 1, none⟩ = some (.int .i64 l2) := BB.cell 1
    have cB2 : w1.cell? ⟨w.heap.size + 1, 2, none⟩ = some (.int .i64 b2) := BB.cell 2
    have cB3 : w1.cell? ⟨w.heap.size + 1, 3, none⟩ = some (.int .i64 i2) := BB.cell 3
    have cB4 : w1.cell? ⟨w.heap.size + 1, 4, none⟩ = some (.int .i64 h2) := BB.cell 4
    have cB5 : w1.cell? ⟨w.heap.size + 1, 5, none⟩ = some (.int .i64 p2) := BB.cell 5
    have lB := BB.lt
    have cZ0 : w1.cell? ⟨w.heap.size + 1 + 1, 0, none⟩ = some (.int .i64 0) := BZ.cell 0
    have cZ1 : w1.cell? ⟨w.heap.size + 1 + 1, 1, none⟩ = some (.int .i64 0) := BZ.cell 1
    have cZ2 : w1.cell? ⟨w.heap.size + 1 + 1, 2, none⟩ = some (.int .i64 0) := BZ.cell 2
    have cZ3 : w1.cell? ⟨w.heap.size + 1 + 1, 3, none⟩ = some (.int .i64 0) := BZ.cell 3
    have cZ4 : w1.cell? ⟨w.heap.size + 1 + 1, 4, none⟩ = some (.int .i64 0) := BZ.cell 4
    have fZ := BZ.frozen
    have lZ := BZ.lt
    go_wp2_with fail
    refine (l04One_any _ _ _ _ _ _ _ hs2).mono ?_
    rintro e w2 ⟨rfl, hb2⟩
    clear cA0 cA1 cA2 cA3 cA4 cA5 lA cB0 cB1 cB2 cB3 cB4 cB5 lB cZ0 cZ1 cZ2 cZ3 cZ4 fZ lZ
    replace BA := BA.below hb2
    replace BB := BB.below hb2
    replace BZ := BZ.below hb2
    replace HW := Bl.then HW hb2
    have cA0 : w2.cell? ⟨w.heap.size, 0, none⟩ = some (.string s) := BA.cell 0
    have cA1 : w2.cell? ⟨w.heap.size, 1, none⟩ = some (.int .i64 l) := BA.cell 1
    have cA2 : w2.cell? ⟨w.heap.size, 2, none⟩ = some (.int .i64 b) := BA.cell 2
    have cA3 : w2.cell? ⟨w.heap.size, 3, none⟩ = some (.int .i64 i) := BA.cell 3
    have cA4 : w2.cell? ⟨w.heap.size, 4, none⟩ = some (.int .i64 h) := BA.cell 4
    have cA5 : w2.cell? ⟨w.heap.size, 5, none⟩ = some (.int .i64 p) := BA.cell 5
    have lA := BA.lt
    have cB0 : w2.cell? ⟨w.heap.size + 1, 0, none⟩ = some (.string s2) := BB.cell 0
    have cB1 : w2.cell? ⟨w.heap.size + 1, 1, none⟩ = some (.int .i64 l2) := BB.cell 1
    have cB2 : w2.cell? ⟨w.heap.size + 1, 2, none⟩ = some (.int .i64 b2) := BB.cell 2
    have cB3 : w2.cell? ⟨w.heap.size + 1, 3, none⟩ = some (.int .i64 i2) := BB.cell 3
    have cB4 : w2.cell? ⟨w.heap.size + 1, 4, none⟩ = some (.int .i64 h2) := BB.cell 4
    have cB5 : w2.cell? ⟨w.heap.size + 1, 5, none⟩ = some (.int .i64 p2) := BB.cell 5
    have lB := BB.lt
    have cZ0 : w2.cell? ⟨w.heap.size + 1 + 1, 0, none⟩ = some (.int .i64 0) := BZ.cell 0
    have cZ1 : w2.cell? ⟨w.heap.size + 1 + 1, 1, none⟩ = some (.int .i64 0) := BZ.cell 1
    have cZ2 : w2.cell? ⟨w.heap.size + 1 + 1, 2, none⟩ = some (.int .i64 0) := BZ.cell 2
    have cZ3 : w2.cell? ⟨w.heap.size + 1 + 1, 3, none⟩ = some (.int .i64 0) := BZ.cell 3
    have cZ4 : w2.cell? ⟨w.heap.size + 1 + 1, 4, none⟩ = some (.int .i64 0) := BZ.cell 4
    have fZ := BZ.frozen
    have lZ := BZ.lt
    go_wp2_with fail
    refine bodyPost_ret (v := .tuple #[.agg #[.int .i64 0, .int .i64 0, .int .i64 0, .int .i64 0, .int .i64 0], .int .i64 1]) (by simp [results, Try.results30, go_sem, cZ0, cZ1, cZ2, cZ3, cZ4]) rfl ?_
    exact ⟨retB _ _ _ _ _ _ _ (by simp [betwC, j1, j2]) (by decide), (Below.setCell (Below.setCell (Below.setCell (Below.setCell (Below.setCell HW (by simp; try omega) _) (by simp; try omega) _) (by simp; try omega) _) (by simp; try omega) _) (by simp; try omega) _)⟩
  cases j3 : inR t 1 30
  · go_enter Try.func30, Try.ntmps30
    go_wp2_with fail
    refine (l04One_any _ _ _ _ _ _ _ hs).mono ?_
    rintro e w1 ⟨rfl, H1⟩
    have BA := (((Blk.new w 38 #[.string s, .int .i64 l, .int .i64 b, .int .i64 i, .int .i64 h, .int .i64 p]).alloc (.cells #[.string s2, .int .i64 l2, .int .i64 b2, .int .i64 i2, .int .i64 h2, .int .i64 p2] 38)).alloc (.cells #[.int .i64 0, .int .i64 0, .int .i64 0, .int .i64 0, .int .i64 0] 46)).below H1
    have BB := ((Blk.new1 w _ 38 #[.string s2, .int .i64 l2, .int .i64 b2, .int .i64 i2, .int .i64 h2, .int .i64 p2]).alloc (.cells #[.int .i64 0, .int .i64 0, .int .i64 0, .int .i64 0, .int .i64 0] 46)).below H1
    have BZ := (Blk.new2 w _ _ 46 #[.int .i64 0, .int .i64 0, .int .i64 0, .int .i64 0, .int .i64 0]).below H1
    have HW : Below w.heap.size w w1 := Bl.then (by go_grown) H1
    clear H1
    have cA0 : w1.cell? ⟨w.heap.size, 0, none⟩ = some (.string s) := BA.cell 0
    have cA1 : w1.cell? ⟨w.heap.size, 1, none⟩ = some (.int .i64 l) := BA.cell 1
    have cA2 : w1.cell? ⟨w.heap.size, 2, none⟩ = some (.int .i64 b) := BA.cell 2
    have cA3 : w1.cell? ⟨w.heap.size, 3, none⟩ = some (.int .i64 i) := BA.cell 3
    have cA4 : w1.cell? ⟨w.heap.size, 4, none⟩ = some (.int .i64 h) := BA.cell 4
    have cA5 : w1.cell? ⟨w.heap.size, 5, none⟩ = some (.int .i64 p) := BA.cell 5
    have lA := BA.lt
    have cB0 : w1.cell? ⟨w.heap.size + 1, 0, none⟩ = some (.string s2) := BB.cell 0
    have cB1 : w1.cell? ⟨w.heap.size + 1, 1, none⟩ = some (.int .i64 l2) := BB.cell 1
    have cB2 : w1.cell? ⟨w.heap.size + 1, 2, none⟩ = some (.int .i64 b2) := BB.cell 2
    have cB3 : w1.cell? ⟨w.heap.size + 1, 3, none⟩ = some (.int .i64 i2) := BB.cell 3
    have cB4 : w1.cell? ⟨w.heap.size + 1, 4, none⟩ = some (.int .i64 h2) := BB.cell 4
    have cB5 : w1.cell? ⟨w.heap.size + 1, 5, none⟩ = some (.int .i64 p2) := BB.cell 5
    have lB := BB.lt
    have cZ0 : w1.cell? ⟨w.heap.size + 1 + 1, 0, none⟩ = some (.int .i64 0) := BZ.cell 0
    have cZ1 : w1.cell? ⟨w.heap.size + 1 + 1, 1, none⟩ = some (.int .i64 0) := BZ.cell 1
    have cZ2 : w1.cell? ⟨w.heap.size + 1 + 1, 2, none⟩ = some (.int .i64 0) := BZ.cell 2
    have cZ3 : w1.cell? ⟨w.heap.size + 1 + 1, 3, none⟩ = some (.int .i64 0) := BZ.cell 3
    have cZ4 : w1.cell? ⟨w.heap.size + 1 + 1, 4, none⟩ = some (.int .i64 0) := BZ.cell 4
    have fZ := BZ.frozen
    have lZ := BZ.lt
    go_wp2_with fail
    refine (l04One_any _ _ _ _ _ _ _ hs2).mono ?_
    rintro e w2 ⟨rfl, hb2⟩
    clear cA0 cA1 cA2 cA3 cA4 cA5 lA cB0 cB1 cB2 cB3 cB4 cB5 lB cZ0 cZ1 cZ2 cZ3 cZ4 fZ lZ
    replace BA := BA.below hb2
    replace BB := BB.below hb2
    replace BZ := BZ.below hb2
    replace HW := Bl.then HW hb2
    have cA0 : w2.cell? ⟨w.heap.size, 0, none⟩ = some (.string s) := BA.cell 0
    have cA1 : w2.cell? ⟨w.heap.size, 1, none⟩ = some (.int .i64 l) := BA.cell 1
    have cA2 : w2.cell? ⟨w.heap.size, 2, none⟩ = some (.int .i64 b) := BA.cell 2
    have cA3 : w2.cell? ⟨w.heap.size, 3, none⟩ = some (.int .i64 i) := BA.cell 3
    have cA4 : w2.cell? ⟨w.heap.size, 4, none⟩ = some (.int .i64 h) := BA.cell 4
    have cA5 : w2.cell? ⟨w.heap.size, 5, none⟩ = some (.int .i64 p) := BA.cell 5
    have lA := BA.lt
    have cB0 : w2.cell? ⟨w.heap.size + 1, 0, none⟩ = some (.string s2) := BB.cell 0
    have cB1 : w2.cell? ⟨w.heap.size + 1, 1, none⟩ = some (.int .i64 l2) := BB.cell 1
    have cB2 : w2.cell? ⟨w.heap.size + 1, 2, none⟩ = some (.int .i64 b2) := BB.cell 2
    have cB3 : w2.cell? ⟨w.heap.size + 1, 3, none⟩ = some (.int .i64 i2) := BB.cell 3
    have cB4 : w2.cell? ⟨w.heap.size + 1, 4, none⟩ = some (.int .i64 h2) := BB.cell 4
    have cB5 : w2.cell? ⟨w.heap.size + 1, 5, none⟩ = some (.int .i64 p2) := BB.cell 5
    have lB := BB.lt
    have cZ0 : w2.cell? ⟨w.heap.size + 1 + 1, 0, none⟩ = some (.int .i64 0) := BZ.cell 0
    have cZ1 : w2.cell? ⟨w.heap.size + 1 + 1, 1, none⟩ = some (.int .i64 0) := BZ.cell 1
    have cZ2 : w2.cell? ⟨w.heap.size + 1 + 1, 2, none⟩ = some (.int .i64 0) := BZ.cell 2
    have cZ3 : w2.cell? ⟨w.heap.size + 1 + 1, 3, none⟩ = some (.int .i64 0) := BZ.cell 3
    have cZ4 : w2.cell? ⟨w.heap.size + 1 + 1, 4, none⟩ = some (.int .i64 0) := BZ.cell 4
    have fZ := BZ.frozen
    have lZ := BZ.lt
    go_wp2_with fail
    refine (l00In_any _ _ _ _).mono ?_
    rintro e wq2 ⟨rfl, rfl⟩
    go_wp2_with fail
    refine bodyPost_ret (v := .tuple #[.agg #[.int .i64 0, .int .i64 0, .int .i64 0, .int .i64 0, .int .i64 0], .int .i64 2]) (by simp [results, Try.results30, go_sem, cZ0, cZ1, cZ2, cZ3, cZ4]) rfl ?_
    exact ⟨retB _ _ _ _ _ _ _ (by simp [betwC, j1, j2, j3]) (by decide), (Below.setCell (Below.setCell (Below.setCell (Below.setCell (Below.setCell HW (by simp; try omega) _) (by simp; try omega) _) (by simp; try omega) _) (by simp; try omega) _) (by simp; try omega) _)⟩
  have E := Lib.hid (show betwC s l b i h p s2 l2 b2 i2 h2 p2 t = if gradeOk (rnd (100 * (l2 - l)) t) (rnd (100 * (b2 - b)) t) (rnd (100 * (i2 - i)) t) (rnd (100 * (h2 - h)) t) (rnd (100 * (p2 - p)) t) = false then 6 else 0 by simp [betwC, j1, j2, j3])
  obtain ⟨t1, t2⟩ := inR_true.1 j3
  obtain ⟨x0, ⟨x1, x2⟩, ⟨x3, x4⟩, ⟨x5, x6⟩, ⟨x7, x8⟩, x9, x10⟩ := lastOk_bd j1
  obtain ⟨y0, ⟨y1, y2⟩, ⟨y3, y4⟩, ⟨y5, y6⟩, ⟨y7, y8⟩, y9, y10⟩ := lastOk_bd j2
  go_enter Try.func30, Try.ntmps30
  go_wp2_with fail
  refine (l04One_any _ _ _ _ _ _ _ hs).mono ?_
  rintro e w1 ⟨rfl, H1⟩
  have BA := (((Blk.new w 38 #[.string s, .int .i64 l, .int .i64 b, .int .i64 i, .int .i64 h, .int .i64 p]).alloc (.cells #[.string s2, .int .i64 l2, .int .i64 b2, .int .i64 i2, .int .i64 h2, .int .i64 p2] 38)).alloc (.cells #[.int .i64 0, .int .i64 0, .int .i64 0, .int .i64 0, .int .i64 0] 46)).below H1
  have BB := ((Blk.new1 w _ 38 #[.string s2, .int .i64 l2, .int .i64 b2, .int .i64 i2, .int .i64 h2, .int .i64 p2]).alloc (.cells #[.int .i64 0, .int .i64 0, .int .i64 0, .int .i64 0, .int .i64 0] 46)).below H1
  have BZ := (Blk.new2 w _ _ 46 #[.int .i64 0, .int .i64 0, .int .i64 0, .int .i64 0, .int .i64 0]).below H1
  have HW : Below w.heap.size w w1 := Bl.then (by go_grown) H1
  clear H1
  have cA0 : w1.cell? ⟨w.heap.size, 0, none⟩ = some (.string s) := BA.cell 0
  have cA1 : w1.cell? ⟨w.heap.size, 1, none⟩ = some (.int .i64 l) := BA.cell 1
  have cA2 : w1.cell? ⟨w.heap.size, 2, none⟩ = some (.int .i64 b) := BA.cell 2
  have cA3 : w1.cell? ⟨w.heap.size, 3, none⟩ = some (.int .i64 i) := BA.cell 3
  have cA4 : w1.cell? ⟨w.heap.size, 4, none⟩ = some (.int .i64 h) := BA.cell 4
  have cA5 : w1.cell? ⟨w.heap.size, 5, none⟩ = some (.int .i64 p) := BA.cell 5
  have lA := BA.lt
  have cB0 : w1.cell? ⟨w.heap.size + 1, 0, none⟩ = some (.string s2) := BB.cell 0
  have cB1 : w1.cell? ⟨w.heap.size + 1, 1, none⟩ = some (.int .i64 l2) := BB.cell 1
  have cB2 : w1.cell? ⟨w.heap.size + 1, 2, none⟩ = some (.int .i64 b2) := BB.cell 2
  have cB3 : w1.cell? ⟨w.heap.size + 1, 3, none⟩ = some (.int .i64 i2) := BB.cell 3
  have cB4 : w1.cell? ⟨w.heap.size + 1, 4, none⟩ = some (.int .i64 h2) := BB.cell 4
  have cB5 : w1.cell? ⟨w.heap.size + 1, 5, none⟩ = some (.int .i64 p2) := BB.cell 5
  have lB := BB.lt
  have cZ0 : w1.cell? ⟨w.heap.size + 1 + 1, 0, none⟩ = some (.int .i64 0) := BZ.cell 0
  have cZ1 : w1.cell? ⟨w.heap.size + 1 + 1, 1, none⟩ = some (.int .i64 0) := BZ.cell 1
  have cZ2 : w1.cell? ⟨w.heap.size + 1 + 1, 2, none⟩ = some (.int .i64 0) := BZ.cell 2
  have cZ3 : w1.cell? ⟨w.heap.size + 1 + 1, 3, none⟩ = some (.int .i64 0) := BZ.cell 3
  have cZ4 : w1.cell? ⟨w.heap.size + 1 + 1, 4, none⟩ = some (.int .i64 0) := BZ.cell 4
  have fZ := BZ.frozen
  have lZ := BZ.lt
  go_wp2_with fail
  refine (l04One_any _ _ _ _ _ _ _ hs2).mono ?_
  rintro e w2 ⟨rfl, hb2⟩
  clear cA0 cA1 cA2 cA3 cA4 cA5 lA cB0 cB1 cB2 cB3 cB4 cB5 lB cZ0 cZ1 cZ2 cZ3 cZ4 fZ lZ
  replace BA := BA.below hb2
  replace BB := BB.below hb2
  replace BZ := BZ.below hb2
  replace HW := Bl.then HW hb2
  have cA0 : w2.cell? ⟨w.heap.size, 0, none⟩ = some (.string s) := BA.cell 0
  have cA1 : w2.cell? ⟨w.heap.size, 1, none⟩ = some (.int .i64 l) := BA.cell 1
  have cA2 : w2.cell? ⟨w.heap.size, 2, none⟩ = some (.int .i64 b) := BA.cell 2
  have cA3 : w2.cell? ⟨w.heap.size, 3, none⟩ = some (.int .i64 i) := BA.cell 3
  have cA4 : w2.cell? ⟨w.heap.size, 4, none⟩ = some (.int .i64 h) := BA.cell 4
  have cA5 : w2.cell? ⟨w.heap.size, 5, none⟩ = some (.int .i64 p) := BA.cell 5
  have lA := BA.lt
  have cB0 : w2.cell? ⟨w.heap.size + 1, 0, none⟩ = some (.string s2) := BB.cell 0
  have cB1 : w2.cell? ⟨w.heap.size + 1, 1, none⟩ = some (.int .i64 l2) := BB.cell 1
  have cB2 : w2.cell? ⟨w.heap.size + 1, 2, none⟩ = some (.int .i64 b2) := BB.cell 2
  have cB3 : w2.cell? ⟨w.heap.size + 1, 3, none⟩ = some (.int .i64 i2) := BB.cell 3
  have cB4 : w2.cell? ⟨w.heap.size + 1, 4, none⟩ = some (.int .i64 h2) := BB.cell 4
  have cB5 : w2.cell? ⟨w.heap.size + 1, 5, none⟩ = some (.int .i64 p2) := BB.cell 5
  have lB := BB.lt
  have cZ0 : w2.cell? ⟨w.heap.size + 1 + 1, 0, none⟩ = some (.int .i64 0) := BZ.cell 0
  have cZ1 : w2.cell? ⟨w.heap.size + 1 + 1, 1, none⟩ = some (.int .i64 0) := BZ.cell 1
  have cZ2 : w2.cell? ⟨w.heap.size + 1 + 1, 2, none⟩ = some (.int .i64 0) := BZ.cell 2
  have cZ3 : w2.cell? ⟨w.heap.size + 1 + 1, 3, none⟩ = some (.int .i64 0) := BZ.cell 3
  have cZ4 : w2.cell? ⟨w.heap.size + 1 + 1, 4, none⟩ = some (.int .i64 0) := BZ.cell 4
  have fZ := BZ.frozen
  have lZ := BZ.lt
  go_wp2_with fail
  refine (l00In_any _ _ _ _).mono ?_
  rintro e wq2 ⟨rfl, rfl⟩
  have m0 : Mid (100 * (l2 - l)) := diff_mid (by omega) (by omega) (by omega) (by omega)
  have m1 : Mid (100 * (b2 - b)) := diff_mid (by omega) (by omega) (by omega) (by omega)
  have m2 : Mid (100 * (i2 - i)) := diff_mid (by omega) (by omega) (by omega) (by omega)
  have m3 : Mid (100 * (h2 - h)) := diff_mid (by omega) (by omega) (by omega) (by omega)
  have m4 : Mid (100 * (p2 - p)) := diff_mid (by omega) (by omega) (by omega) (by omega)
  have m9 : Mid t := by unfold Mid; omega
  go_wp2_with (go_at_call 66; refine (l02Round_any _ _ _ (by first | exact m0 | exact m1 | exact m2 | exact m3 | exact m4) t1 m9).mono ?_; rintro e wx ⟨rfl, rfl⟩)
  clear cA0 cA1 cA2 cA3 cA4 cA5 lA cB0 cB1 cB2 cB3 cB4 cB5 lB cZ0 cZ1 cZ2 cZ3 cZ4 fZ lZ
  replace BA := BA.alloc (.cells #[.int .i64 (rnd (100 * (l2 - l)) t), .int .i64 (rnd (100 * (b2 - b)) t), .int .i64 (rnd (100 * (i2 - i)) t), .int .i64 (rnd (100 * (h2 - h)) t), .int .i64 (rnd (100 * (p2 - p)) t)] 46)
  replace BB := BB.alloc (.cells #[.int .i64 (rnd (100 * (l2 - l)) t), .int .i64 (rnd (100 * (b2 - b)) t), .int .i64 (rnd (100 * (i2 - i)) t), .int .i64 (rnd (100 * (h2 - h)) t), .int .i64 (rnd (100 * (p2 - p)) t)] 46)
  replace BZ := BZ.alloc (.cells #[.int .i64 (rnd (100 * (l2 - l)) t), .int .i64 (rnd (100 * (b2 - b)) t), .int .i64 (rnd (100 * (i2 - i)) t), .int .i64 (rnd (100 * (h2 - h)) t), .int .i64 (rnd (100 * (p2 - p)) t)] 46)
  have BG := Blk.new w2 46 #[.int .i64 (rnd (100 * (l2 - l)) t), .int .i64 (rnd (100 * (b2 - b)) t), .int .i64 (rnd (100 * (i2 - i)) t), .int .i64 (rnd (100 * (h2 - h)) t), .int .i64 (rnd (100 * (p2 - p)) t)]
  replace HW := Bl.alloc HW (.cells #[.int .i64 (rnd (100 * (l2 - l)) t), .int .i64 (rnd (100 * (b2 - b)) t), .int .i64 (rnd (100 * (i2 - i)) t), .int .i64 (rnd (100 * (h2 - h)) t), .int .i64 (rnd (100 * (p2 - p)) t)] 46)
  cases j5 : gradeOk (rnd (100 * (l2 - l)) t) (rnd (100 * (b2 - b)) t) (rnd (100 * (i2 - i)) t) (rnd (100 * (h2 - h)) t) (rnd (100 * (p2 - p)) t)
  · go_wp2_with fail
    refine (l05Ok_any _ _ _ _ _ _).mono ?_
    rintro e w22 ⟨rfl, hb22⟩
    replace BA := BA.below hb22
    replace BB := BB.below hb22
    replace BZ := BZ.below hb22
    replace BG := BG.below hb22
    replace HW := Bl.then HW hb22
    have cA0 : w22.cell? ⟨w.heap.size, 0, none⟩ = some (.string s) := BA.cell 0
    have cA1 : w22.cell? ⟨w.heap.size, 1, none⟩ = some (.int .i64 l) := BA.cell 1
    have cA2 : w22.cell? ⟨w.heap.size, 2, none⟩ = some (.int .i64 b) := BA.cell 2
    have cA3 : w22.cell? ⟨w.heap.size, 3, none⟩ = some (.int .i64 i) := BA.cell 3
    have cA4 : w22.cell? ⟨w.heap.size, 4, none⟩ = some (.int .i64 h) := BA.cell 4
    have cA5 : w22.cell? ⟨w.heap.size, 5, none⟩ = some (.int .i64 p) := BA.cell 5
    have lA := BA.lt
    have cB0 : w22.cell? ⟨w.heap.size + 1, 0, none⟩ = some (.string s2) := BB.cell 0
    have cB1 : w22.cell? ⟨w.heap.size + 1, 1, none⟩ = some (.int .i64 l2) := BB.cell 1
    have cB2 : w22.cell? ⟨w.heap.size + 1, 2, none⟩ = some (.int .i64 b2) := BB.cell 2
    have cB3 : w22.cell? ⟨w.heap.size + 1, 3, none⟩ = some (.int .i64 i2) := BB.cell 3
    have cB4 : w22.cell? ⟨w.heap.size + 1, 4, none⟩ = some (.int .i64 h2) := BB.cell 4
    have cB5 : w22.cell? ⟨w.heap.size + 1, 5, none⟩ = some (.int .i64 p2) := BB.cell 5
    have lB := BB.lt
    have cZ0 : w22.cell? ⟨w.heap.size + 1 + 1, 0, none⟩ = some (.int .i64 0) := BZ.cell 0
    have cZ1 : w22.cell? ⟨w.heap.size + 1 + 1, 1, none⟩ = some (.int .i64 0) := BZ.cell 1
    have cZ2 : w22.cell? ⟨w.heap.size + 1 + 1, 2, none⟩ = some (.int .i64 0) := BZ.cell 2
    have cZ3 : w22.cell? ⟨w.heap.size + 1 + 1, 3, none⟩ = some (.int .i64 0) := BZ.cell 3
    have cZ4 : w22.cell? ⟨w.heap.size + 1 + 1, 4, none⟩ = some (.int .i64 0) := BZ.cell 4
    have fZ := BZ.frozen
    have lZ := BZ.lt
    have cG0 : w22.cell? ⟨w2.heap.size, 0, none⟩ = some (.int .i64 (rnd (100 * (l2 - l)) t)) := BG.cell 0
    have cG1 : w22.cell? ⟨w2.heap.size, 1, none⟩ = some (.int .i64 (rnd (100 * (b2 - b)) t)) := BG.cell 1
    have cG2 : w22.cell? ⟨w2.heap.size, 2, none⟩ = some (.int .i64 (rnd (100 * (i2 - i)) t)) := BG.cell 2
    have cG3 : w22.cell? ⟨w2.heap.size, 3, none⟩ = some (.int .i64 (rnd (100 * (h2 - h)) t)) := BG.cell 3
    have cG4 : w22.cell? ⟨w2.heap.size, 4, none⟩ = some (.int .i64 (rnd (100 * (p2 - p)) t)) := BG.cell 4
    have lG := BG.lt
    go_wp2_with fail
    refine bodyPost_ret (v := .tuple #[.agg #[.int .i64 0, .int .i64 0, .int .i64 0, .int .i64 0, .int .i64 0], .int .i64 6]) (by simp [results, Try.results30, go_sem, cZ0, cZ1, cZ2, cZ3, cZ4]) rfl ?_
    exact ⟨retB _ _ _ _ _ _ _ (by rw [E.out, j5]; rfl) (by decide), (Below.setCell (Below.setCell (Below.setCell (Below.setCell (Below.setCell HW (by simp; try omega) _) (by simp; try omega) _) (by simp; try omega) _) (by simp; try omega) _) (by simp; try omega) _)⟩
  · go_wp2_with fail
    refine (l05Ok_any _ _ _ _ _ _).mono ?_
    rintro e w22 ⟨rfl, hb22⟩
    replace BA := BA.below hb22
    replace BB := BB.below hb22
    replace BZ := BZ.below hb22
    replace BG := BG.below hb22
    replace HW := Bl.then HW hb22
    have cA0 : w22.cell? ⟨w.heap.size, 0, none⟩ = some (.string s) := BA.cell 0
    have cA1 : w22.cell? ⟨w.heap.size, 1, none⟩ = some (.int .i64 l) := BA.cell 1
    have cA2 : w22.cell? ⟨w.heap.size, 2, none⟩ = some (.int .i64 b) := BA.cell 2
    have cA3 : w22.cell? ⟨w.heap.size, 3, none⟩ = some (.int .i64 i) := BA.cell 3
    have cA4 : w22.cell? ⟨w.heap.size, 4, none⟩ = some (.int .i64 h) := BA.cell 4
    have cA5 : w22.cell? ⟨w.heap.size, 5, none⟩ = some (.int .i64 p) := BA.cell 5
    have lA := BA.lt
    have cB0 : w22.cell? ⟨w.heap.size + 1, 0, none⟩ = some (.string s2) := BB.cell 0
    have cB1 : w22.cell? ⟨w.heap.size + 1, 1, none⟩ = some (.int .i64 l2) := BB.cell 1
    have cB2 : w22.cell? ⟨w.heap.size + 1, 2, none⟩ = some (.int .i64 b2) := BB.cell 2
    have cB3 : w22.cell? ⟨w.heap.size + 1, 3, none⟩ = some (.int .i64 i2) := BB.cell 3
    have cB4 : w22.cell? ⟨w.heap.size + 1, 4, none⟩ = some (.int .i64 h2) := BB.cell 4
    have cB5 : w22.cell? ⟨w.heap.size + 1, 5, none⟩ = some (.int .i64 p2) := BB.cell 5
    have lB := BB.lt
    have cZ0 : w22.cell? ⟨w.heap.size + 1 + 1, 0, none⟩ = some (.int .i64 0) := BZ.cell 0
    have cZ1 : w22.cell? ⟨w.heap.size + 1 + 1, 1, none⟩ = some (.int .i64 0) := BZ.cell 1
    have cZ2 : w22.cell? ⟨w.heap.size + 1 + 1, 2, none⟩ = some (.int .i64 0) := BZ.cell 2
    have cZ3 : w22.cell? ⟨w.heap.size + 1 + 1, 3, none⟩ = some (.int .i64 0) := BZ.cell 3
    have cZ4 : w22.cell? ⟨w.heap.size + 1 + 1, 4, none⟩ = some (.int .i64 0) := BZ.cell 4
    have fZ := BZ.frozen
    have lZ := BZ.lt
    have cG0 : w22.cell? ⟨w2.heap.size, 0, none⟩ = some (.int .i64 (rnd (100 * (l2 - l)) t)) := BG.cell 0
    have cG1 : w22.cell? ⟨w2.heap.size, 1, none⟩ = some (.int .i64 (rnd (100 * (b2 - b)) t)) := BG.cell 1
    have cG2 : w22.cell? ⟨w2.heap.size, 2, none⟩ = some (.int .i64 (rnd (100 * (i2 - i)) t)) := BG.cell 2
    have cG3 : w22.cell? ⟨w2.heap.size, 3, none⟩ = some (.int .i64 (rnd (100 * (h2 - h)) t)) := BG.cell 3
    have cG4 : w22.cell? ⟨w2.heap.size, 4, none⟩ = some (.int .i64 (rnd (100 * (p2 - p)) t)) := BG.cell 4
    have lG := BG.lt
    go_wp2_with fail
    refine bodyPost_ret (v := .tuple #[.agg #[.int .i64 (rnd (100 * (l2 - l)) t), .int .i64 (rnd (100 * (b2 - b)) t), .int .i64 (rnd (100 * (i2 - i)) t), .int .i64 (rnd (100 * (h2 - h)) t), .int .i64 (rnd (100 * (p2 - p)) t)], .int .i64 0]) (by simp [results, Try.results30, go_sem, cZ0, cZ1, cZ2, cZ3, cZ4]) rfl ?_
    exact ⟨retB0 _ _ _ _ _ _ (by rw [E.out, j5]; rfl), (Below.setCell (Below.setCell (Below.setCell (Below.setCell (Below.setCell HW (by simp; try omega) _) (by simp; try omega) _) (by simp; try omega) _) (by simp; try omega) _) (by simp; try omega) _)⟩
end Go.Proofs.Ytgkkfofjaealoaa
