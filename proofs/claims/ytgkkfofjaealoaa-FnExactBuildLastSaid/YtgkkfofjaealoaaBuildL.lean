/-
  BuildLast of the program and of the reference; names are any strings that Go can hold; the condition of a slice argument is that it reads as the given list.
-/
import Derived.Test.YtgkkfofjaealoaaGrad2
import Derived.Test.YtgkkfofjaealoaaBlk2
import Derived.Test.YtgkkfofjaealoaaLens
namespace Go.Proofs.Ytgkkfofjaealoaa
open Go.RowKit
set_option maxHeartbeats 1600000

/-- A girth with the layers, if it is the one. -/
def bAt (k gi : Int) (zs : List Int) (x : Int) : Int := if gi = k then x + total zs else x
noncomputable def buildC (s : ByteArray) (l b i h p gi : Int) (zs : List Int) : Int :=
  if lastOk s l b i h p = false then 1 else if inR gi 1 3 = false then 2 else if 100 < zs.length then 2 else if outB zs 1 200 = true then 2 else
    if lastOk s l (bAt 1 gi zs b) (bAt 2 gi zs i) (bAt 3 gi zs h) p = false then 5 else 0
theorem sum_bd {zs : List Int} (h : AllIn zs zs.length 1 200) (hl : zs.length ≤ 100) : 0 ≤ total zs ∧ total zs ≤ 20000 := by
  have := pre_bd h zs.length (Nat.le_refl _)
  unfold total
  omega
theorem buildC_two {s : ByteArray} {l b i h p gi : Int} {zs : List Int} (h1 : lastOk s l b i h p = true) (hh : inR gi 1 3 = false ∨ 100 < zs.length ∨ outB zs 1 200 = true) : buildC s l b i h p gi zs = 2 := by
  unfold buildC
  rw [if_neg (by simp [h1])]
  by_cases k1 : inR gi 1 3 = false
  · rw [if_pos k1]
  by_cases k2 : 100 < zs.length
  · rw [if_neg k1, if_pos k2]
  rw [if_neg k1, if_neg k2, if_pos ((hh.resolve_left k1).resolve_left k2)]
set_option maxRecDepth 100000 in
theorem BuildLast_any (s : ByteArray) (l b i h p gi : Int) (A : Option Addr) (n c : Nat) (zs : List Int) (w : World) (hs : s.size ≤ maxLen) (hr : Rd w 1 A n (ints zs)) (hn : n ≤ 1048576) :
    Calls Try.prog 45 #[.agg #[.string s, .int .i64 l, .int .i64 b, .int .i64 i, .int .i64 h, .int .i64 p], .int .i64 gi, .slice A n c] w fun e w' => e = .returned (.tuple #[.agg #[.string (gStr (buildC s l b i h p gi zs) s), .int .i64 (gNum (buildC s l b i h p gi zs) l), .int .i64 (gNum (buildC s l b i h p gi zs) (bAt 1 gi zs b)), .int .i64 (gNum (buildC s l b i h p gi zs) (bAt 2 gi zs i)), .int .i64 (gNum (buildC s l b i h p gi zs) (bAt 3 gi zs h)), .int .i64 (gNum (buildC s l b i h p gi zs) p)], .int .i64 (buildC s l b i h p gi zs)]) ∧ Below w.heap.size w w' := by
  have hlen := Lib.hid hr.len
  cases h1 : lastOk s l b i h p
  · go_enter Try.func45, Try.ntmps45
    go_wp2_with fail
    refine (validLast_any _ _ _ _ _ _ _ hs).mono ?_
    rintro e w1 ⟨rfl, H1⟩
    have BX := ((Blk.new w 38 #[.string s, .int .i64 l, .int .i64 b, .int .i64 i, .int .i64 h, .int .i64 p]).alloc (.cells #[.string { data := #[] }, .int .i64 0, .int .i64 0, .int .i64 0, .int .i64 0, .int .i64 0] 38)).below H1
    have BZ := (Blk.new1 w (.cells #[.string s, .int .i64 l, .int .i64 b, .int .i64 i, .int .i64 h, .int .i64 p] 38) 38 #[.string { data := #[] }, .int .i64 0, .int .i64 0, .int .i64 0, .int .i64 0, .int .i64 0]).below H1
    have bx0 : w1.cell? ⟨w.heap.size, 0, none⟩ = some (.string s) := BX.cell 0
    have bx1 : w1.cell? ⟨w.heap.size, 1, none⟩ = some (.int .i64 l) := BX.cell 1
    have bx2 : w1.cell? ⟨w.heap.size, 2, none⟩ = some (.int .i64 b) := BX.cell 2
    have bx3 : w1.cell? ⟨w.heap.size, 3, none⟩ = some (.int .i64 i) := BX.cell 3
    have bx4 : w1.cell? ⟨w.heap.size, 4, none⟩ = some (.int .i64 h) := BX.cell 4
    have bx5 : w1.cell? ⟨w.heap.size, 5, none⟩ = some (.int .i64 p) := BX.cell 5
    have bz0 : w1.cell? ⟨w.heap.size + 1, 0, none⟩ = some (.string { data := #[] }) := BZ.cell 0
    have bz1 : w1.cell? ⟨w.heap.size + 1, 1, none⟩ = some (.int .i64 0) := BZ.cell 1
    have bz2 : w1.cell? ⟨w.heap.size + 1, 2, none⟩ = some (.int .i64 0) := BZ.cell 2
    have bz3 : w1.cell? ⟨w.heap.size + 1, 3, none⟩ = some (.int .i64 0) := BZ.cell 3
    have bz4 : w1.cell? ⟨w.heap.size + 1, 4, none⟩ = some (.int .i64 0) := BZ.cell 4
    have bz5 : w1.cell? ⟨w.heap.size + 1, 5, none⟩ = some (.int .i64 0) := BZ.cell 5
    have fx := BX.frozen
    have fz := BZ.frozen
    have lz := BZ.lt
    have lx := BX.lt
    have HW : Below w.heap.size w w1 := Bl.then (by go_grown) H1
    have hr1 := hr.below HW
    clear H1
    go_wp2_with fail
    refine bodyPost_ret (v := .tuple #[.agg #[.string { data := #[] }, .int .i64 0, .int .i64 0, .int .i64 0, .int .i64 0, .int .i64 0], .int .i64 1]) (by simp [results, Try.results45, go_sem, bz0, bz1, bz2, bz3, bz4, bz5]) rfl ?_
    exact ⟨retG _ _ _ _ _ _ _ _ (by simp [buildC, h1]) (by decide), (Below.setCell (Below.setCell (Below.setCell (Below.setCell (Below.setCell (Below.setCell HW (by simp) _) (by simp) _) (by simp) _) (by simp) _) (by simp) _) (by simp) _)⟩
  cases h2 : inR gi 1 3
  · go_enter Try.func45, Try.ntmps45
    go_wp2_with fail
    refine (validLast_any _ _ _ _ _ _ _ hs).mono ?_
    rintro e w1 ⟨rfl, H1⟩
    have BX := ((Blk.new w 38 #[.string s, .int .i64 l, .int .i64 b, .int .i64 i, .int .i64 h, .int .i64 p]).alloc (.cells #[.string { data := #[] }, .int .i64 0, .int .i64 0, .int .i64 0, .int .i64 0, .int .i64 0] 38)).below H1
    have BZ := (Blk.new1 w (.cells #[.string s, .int .i64 l, .int .i64 b, .int .i64 i, .int .i64 h, .int .i64 p] 38) 38 #[.string { data := #[] }, .int .i64 0, .int .i64 0, .int .i64 0, .int .i64 0, .int .i64 0]).below H1
    have bx0 : w1.cell? ⟨w.heap.size, 0, none⟩ = some (.string s) := BX.cell 0
    have bx1 : w1.cell? ⟨w.heap.size, 1, none⟩ = some (.int .i64 l) := BX.cell 1
    have bx2 : w1.cell? ⟨w.heap.size, 2, none⟩ = some (.int .i64 b) := BX.cell 2
    have bx3 : w1.cell? ⟨w.heap.size, 3, none⟩ = some (.int .i64 i) := BX.cell 3
    have bx4 : w1.cell? ⟨w.heap.size, 4, none⟩ = some (.int .i64 h) := BX.cell 4
    have bx5 : w1.cell? ⟨w.heap.size, 5, none⟩ = some (.int .i64 p) := BX.cell 5
    have bz0 : w1.cell? ⟨w.heap.size + 1, 0, none⟩ = some (.string { data := #[] }) := BZ.cell 0
    have bz1 : w1.cell? ⟨w.heap.size + 1, 1, none⟩ = some (.int .i64 0) := BZ.cell 1
    have bz2 : w1.cell? ⟨w.heap.size + 1, 2, none⟩ = some (.int .i64 0) := BZ.cell 2
    have bz3 : w1.cell? ⟨w.heap.size + 1, 3, none⟩ = some (.int .i64 0) := BZ.cell 3
    have bz4 : w1.cell? ⟨w.heap.size + 1, 4, none⟩ = some (.int .i64 0) := BZ.cell 4
    have bz5 : w1.cell? ⟨w.heap.size + 1, 5, none⟩ = some (.int .i64 0) := BZ.cell 5
    have fx := BX.frozen
    have fz := BZ.frozen
    have lz := BZ.lt
    have lx := BX.lt
    have HW : Below w.heap.size w w1 := Bl.then (by go_grown) H1
    have hr1 := hr.below HW
    clear H1
    go_wp2_with (go_at_call 68; refine (within_any _ _ _ _).mono ?_; rintro e w9 ⟨rfl, rfl⟩)
    refine bodyPost_ret (v := .tuple #[.agg #[.string { data := #[] }, .int .i64 0, .int .i64 0, .int .i64 0, .int .i64 0, .int .i64 0], .int .i64 2]) (by simp [results, Try.results45, go_sem, bz0, bz1, bz2, bz3, bz4, bz5]) rfl ?_
    exact ⟨retG _ _ _ _ _ _ _ _ (by simp [buildC, h1, h2]) (by decide), (Below.setCell (Below.setCell (Below.setCell (Below.setCell (Below.setCell (Below.setCell HW (by simp) _) (by simp) _) (by simp) _) (by simp) _) (by simp) _) (by simp) _)⟩
  by_cases h3 : 100 < zs.length
  · have hgt : 100 < n := by rw [← hlen.out]; exact h3
    have h3' := Lib.hid h3
    clear h3
    go_enter Try.func45, Try.ntmps45
    go_wp2_with fail
    refine (validLast_any _ _ _ _ _ _ _ hs).mono ?_
    rintro e w1 ⟨rfl, H1⟩
    have BX := ((Blk.new w 38 #[.string s, .int .i64 l, .int .i64 b, .int .i64 i, .int .i64 h, .int .i64 p]).alloc (.cells #[.string { data := #[] }, .int .i64 0, .int .i64 0, .int .i64 0, .int .i64 0, .int .i64 0] 38)).below H1
    have BZ := (Blk.new1 w (.cells #[.string s, .int .i64 l, .int .i64 b, .int .i64 i, .int .i64 h, .int .i64 p] 38) 38 #[.string { data := #[] }, .int .i64 0, .int .i64 0, .int .i64 0, .int .i64 0, .int .i64 0]).below H1
    have bx0 : w1.cell? ⟨w.heap.size, 0, none⟩ = some (.string s) := BX.cell 0
    have bx1 : w1.cell? ⟨w.heap.size, 1, none⟩ = some (.int .i64 l) := BX.cell 1
    have bx2 : w1.cell? ⟨w.heap.size, 2, none⟩ = some (.int .i64 b) := BX.cell 2
    have bx3 : w1.cell? ⟨w.heap.size, 3, none⟩ = some (.int .i64 i) := BX.cell 3
    have bx4 : w1.cell? ⟨w.heap.size, 4, none⟩ = some (.int .i64 h) := BX.cell 4
    have bx5 : w1.cell? ⟨w.heap.size, 5, none⟩ = some (.int .i64 p) := BX.cell 5
    have bz0 : w1.cell? ⟨w.heap.size + 1, 0, none⟩ = some (.string { data := #[] }) := BZ.cell 0
    have bz1 : w1.cell? ⟨w.heap.size + 1, 1, none⟩ = some (.int .i64 0) := BZ.cell 1
    have bz2 : w1.cell? ⟨w.heap.size + 1, 2, none⟩ = some (.int .i64 0) := BZ.cell 2
    have bz3 : w1.cell? ⟨w.heap.size + 1, 3, none⟩ = some (.int .i64 0) := BZ.cell 3
    have bz4 : w1.cell? ⟨w.heap.size + 1, 4, none⟩ = some (.int .i64 0) := BZ.cell 4
    have bz5 : w1.cell? ⟨w.heap.size + 1, 5, none⟩ = some (.int .i64 0) := BZ.cell 5
    have fx := BX.frozen
    have fz := BZ.frozen
    have lz := BZ.lt
    have lx := BX.lt
    have HW : Below w.heap.size w w1 := Bl.then (by go_grown) H1
    have hr1 := hr.below HW
    clear H1
    go_wp2_with (go_at_call 68; refine (within_any _ _ _ _).mono ?_; rintro e w9 ⟨rfl, rfl⟩)
    refine bodyPost_ret (v := .tuple #[.agg #[.string { data := #[] }, .int .i64 0, .int .i64 0, .int .i64 0, .int .i64 0, .int .i64 0], .int .i64 2]) (by simp [results, Try.results45, go_sem, bz0, bz1, bz2, bz3, bz4, bz5]) rfl ?_
    exact ⟨retG _ _ _ _ _ _ _ _ (by simp [buildC, h1, h2, h3'.out]) (by decide), (Below.setCell (Below.setCell (Below.setCell (Below.setCell (Below.setCell (Below.setCell HW (by simp) _) (by simp) _) (by simp) _) (by simp) _) (by simp) _) (by simp) _)⟩
  have hle : ¬ 100 < n := by rw [← hlen.out]; exact h3
  have h3' := Lib.hid h3
  clear h3
  cases h4 : outB zs 1 200
  · have ha := outB_all h4
    have hsum := sum_bd ha (by rw [hlen.out]; omega)
    obtain ⟨hs1, hs2⟩ := hsum
    have ha2 := Lib.hid (ha.weak (lo' := 0) (hi' := 1000000) (by omega) (by omega))
    obtain ⟨q0, q1, q2, q3, q4, q5⟩ := lastOk_bd h1
    clear ha
    have hg := inR_true.1 h2
    have hg3 : gi = 1 ∨ gi = 2 ∨ gi = 3 := by omega
    rcases hg3 with rfl | rfl | rfl
    · have hb1 : bAt 1 1 zs b = b + total zs := by simp [bAt]
      have hb2 : bAt 2 1 zs i = i := by simp [bAt]
      have hb3 : bAt 3 1 zs h = h := by simp [bAt]
      have E := Lib.hid (show buildC s l b i h p 1 zs = if lastOk s l (b + total zs) i h p = false then 5 else 0 by simp [buildC, h1, h3'.out, h4, hb1, hb2, hb3, show inR 1 1 3 = true from rfl])
      rw [hb1, hb2, hb3]
      clear hb1 hb2 hb3
      cases h5 : lastOk s l (b + total zs) i h p
      · go_enter Try.func45, Try.ntmps45
        go_wp2_with fail
        refine (validLast_any _ _ _ _ _ _ _ hs).mono ?_
        rintro e w1 ⟨rfl, H1⟩
        have BX := ((Blk.new w 38 #[.string s, .int .i64 l, .int .i64 b, .int .i64 i, .int .i64 h, .int .i64 p]).alloc (.cells #[.string { data := #[] }, .int .i64 0, .int .i64 0, .int .i64 0, .int .i64 0, .int .i64 0] 38)).below H1
        have BZ := (Blk.new1 w (.cells #[.string s, .int .i64 l, .int .i64 b, .int .i64 i, .int .i64 h, .int .i64 p] 38) 38 #[.string { data := #[] }, .int .i64 0, .int .i64 0, .int .i64 0, .int .i64 0, .int .i64 0]).below H1
        have bx0 : w1.cell? ⟨w.heap.size, 0, none⟩ = some (.string s) := BX.cell 0
        have bx1 : w1.cell? ⟨w.heap.size, 1, none⟩ = some (.int .i64 l) := BX.cell 1
        have bx2 : w1.cell? ⟨w.heap.size, 2, none⟩ = some (.int .i64 b) := BX.cell 2
        have bx3 : w1.cell? ⟨w.heap.size, 3, none⟩ = some (.int .i64 i) := BX.cell 3
        have bx4 : w1.cell? ⟨w.heap.size, 4, none⟩ = some (.int .i64 h) := BX.cell 4
        have bx5 : w1.cell? ⟨w.heap.size, 5, none⟩ = some (.int .i64 p) := BX.cell 5
        have bz0 : w1.cell? ⟨w.heap.size + 1, 0, none⟩ = some (.string { data := #[] }) := BZ.cell 0
        have bz1 : w1.cell? ⟨w.heap.size + 1, 1, none⟩ = some (.int .i64 0) := BZ.cell 1
        have bz2 : w1.cell? ⟨w.heap.size + 1, 2, none⟩ = some (.int .i64 0) := BZ.cell 2
        have bz3 : w1.cell? ⟨w.heap.size + 1, 3, none⟩ = some (.int .i64 0) := BZ.cell 3
        have bz4 : w1.cell? ⟨w.heap.size + 1, 4, none⟩ = some (.int .i64 0) := BZ.cell 4
        have bz5 : w1.cell? ⟨w.heap.size + 1, 5, none⟩ = some (.int .i64 0) := BZ.cell 5
        have fx := BX.frozen
        have fz := BZ.frozen
        have lz := BZ.lt
        have lx := BX.lt
        have HW : Below w.heap.size w w1 := Bl.then (by go_grown) H1
        have hr1 := hr.below HW
        clear H1
        go_wp2_with (go_at_call 68; refine (within_any _ _ _ _).mono ?_; rintro e w9 ⟨rfl, rfl⟩)
        refine (outside_any _ _ _ _ _ _ _ hr1 (by omega)).mono ?_
        rintro e w2 ⟨rfl, hb2⟩
        have HW2 := Bl.then HW hb2
        have hr2 := hr1.below hb2
        have BX2 := BX.below hb2
        have BZ2 := BZ.below hb2
        clear bx0 bx1 bx2 bx3 bx4 bx5 bz0 bz1 bz2 bz3 bz4 bz5 fx fz lx lz
        clear BX BZ
        have BX := BX2
        have BZ := BZ2
        clear BX2 BZ2
        have bx0 : w2.cell? ⟨w.heap.size, 0, none⟩ = some (.string s) := BX.cell 0
        have bx1 : w2.cell? ⟨w.heap.size, 1, none⟩ = some (.int .i64 l) := BX.cell 1
        have bx2 : w2.cell? ⟨w.heap.size, 2, none⟩ = some (.int .i64 b) := BX.cell 2
        have bx3 : w2.cell? ⟨w.heap.size, 3, none⟩ = some (.int .i64 i) := BX.cell 3
        have bx4 : w2.cell? ⟨w.heap.size, 4, none⟩ = some (.int .i64 h) := BX.cell 4
        have bx5 : w2.cell? ⟨w.heap.size, 5, none⟩ = some (.int .i64 p) := BX.cell 5
        have bz0 : w2.cell? ⟨w.heap.size + 1, 0, none⟩ = some (.string { data := #[] }) := BZ.cell 0
        have bz1 : w2.cell? ⟨w.heap.size + 1, 1, none⟩ = some (.int .i64 0) := BZ.cell 1
        have bz2 : w2.cell? ⟨w.heap.size + 1, 2, none⟩ = some (.int .i64 0) := BZ.cell 2
        have bz3 : w2.cell? ⟨w.heap.size + 1, 3, none⟩ = some (.int .i64 0) := BZ.cell 3
        have bz4 : w2.cell? ⟨w.heap.size + 1, 4, none⟩ = some (.int .i64 0) := BZ.cell 4
        have bz5 : w2.cell? ⟨w.heap.size + 1, 5, none⟩ = some (.int .i64 0) := BZ.cell 5
        have fx := BX.frozen
        have fz := BZ.frozen
        have lz := BZ.lt
        have lx := BX.lt
        go_wp2_with fail
        refine (sumOf_any _ _ _ _ _ hr2 hn ha2.out).mono ?_
        rintro e w9 ⟨rfl, rfl⟩
        go_wp2_with fail
        refine (validLast_any _ _ _ _ _ _ _ hs).mono ?_
        rintro e w3 ⟨rfl, hb3⟩
        have HW3 := (HW2.setCell (p := ⟨w.heap.size, 2, none⟩) (Nat.le_refl _) _).trans (hb3.mono (by simpa using HW2.size))
        have BX3 := (BX.set 2 (.int .i64 ((b + total zs)))).below hb3
        have BZ3 := (BZ.keep w.heap.size 2 (.int .i64 ((b + total zs))) (by omega)).below hb3
        clear bx0 bx1 bx2 bx3 bx4 bx5 bz0 bz1 bz2 bz3 bz4 bz5 fx fz lx lz
        clear BX BZ
        have BX := BX3
        have BZ := BZ3
        clear BX3 BZ3
        have bx0 : w3.cell? ⟨w.heap.size, 0, none⟩ = some (.string s) := BX.cell 0
        have bx1 : w3.cell? ⟨w.heap.size, 1, none⟩ = some (.int .i64 (l)) := BX.cell 1
        have bx2 : w3.cell? ⟨w.heap.size, 2, none⟩ = some (.int .i64 ((b + total zs))) := BX.cell 2
        have bx3 : w3.cell? ⟨w.heap.size, 3, none⟩ = some (.int .i64 (i)) := BX.cell 3
        have bx4 : w3.cell? ⟨w.heap.size, 4, none⟩ = some (.int .i64 (h)) := BX.cell 4
        have bx5 : w3.cell? ⟨w.heap.size, 5, none⟩ = some (.int .i64 (p)) := BX.cell 5
        have bz0 : w3.cell? ⟨w.heap.size + 1, 0, none⟩ = some (.string { data := #[] }) := BZ.cell 0
        have bz1 : w3.cell? ⟨w.heap.size + 1, 1, none⟩ = some (.int .i64 0) := BZ.cell 1
        have bz2 : w3.cell? ⟨w.heap.size + 1, 2, none⟩ = some (.int .i64 0) := BZ.cell 2
        have bz3 : w3.cell? ⟨w.heap.size + 1, 3, none⟩ = some (.int .i64 0) := BZ.cell 3
        have bz4 : w3.cell? ⟨w.heap.size + 1, 4, none⟩ = some (.int .i64 0) := BZ.cell 4
        have bz5 : w3.cell? ⟨w.heap.size + 1, 5, none⟩ = some (.int .i64 0) := BZ.cell 5
        have fx := BX.frozen
        have fz := BZ.frozen
        have lz := BZ.lt
        have lx := BX.lt
        go_wp2_with fail
        refine bodyPost_ret (v := .tuple #[.agg #[.string { data := #[] }, .int .i64 0, .int .i64 0, .int .i64 0, .int .i64 0, .int .i64 0], .int .i64 5]) (by simp [results, Try.results45, go_sem, bz0, bz1, bz2, bz3, bz4, bz5]) rfl ?_
        exact ⟨retG _ _ _ _ _ _ _ _ (by rw [E.out, h5]; rfl) (by decide), (Below.setCell (Below.setCell (Below.setCell (Below.setCell (Below.setCell (Below.setCell HW3 (by simp) _) (by simp) _) (by simp) _) (by simp) _) (by simp) _) (by simp) _)⟩
      · go_enter Try.func45, Try.ntmps45
        go_wp2_with fail
        refine (validLast_any _ _ _ _ _ _ _ hs).mono ?_
        rintro e w1 ⟨rfl, H1⟩
        have BX := ((Blk.new w 38 #[.string s, .int .i64 l, .int .i64 b, .int .i64 i, .int .i64 h, .int .i64 p]).alloc (.cells #[.string { data := #[] }, .int .i64 0, .int .i64 0, .int .i64 0, .int .i64 0, .int .i64 0] 38)).below H1
        have BZ := (Blk.new1 w (.cells #[.string s, .int .i64 l, .int .i64 b, .int .i64 i, .int .i64 h, .int .i64 p] 38) 38 #[.string { data := #[] }, .int .i64 0, .int .i64 0, .int .i64 0, .int .i64 0, .int .i64 0]).below H1
        have bx0 : w1.cell? ⟨w.heap.size, 0, none⟩ = some (.string s) := BX.cell 0
        have bx1 : w1.cell? ⟨w.heap.size, 1, none⟩ = some (.int .i64 l) := BX.cell 1
        have bx2 : w1.cell? ⟨w.heap.size, 2, none⟩ = some (.int .i64 b) := BX.cell 2
        have bx3 : w1.cell? ⟨w.heap.size, 3, none⟩ = some (.int .i64 i) := BX.cell 3
        have bx4 : w1.cell? ⟨w.heap.size, 4, none⟩ = some (.int .i64 h) := BX.cell 4
        have bx5 : w1.cell? ⟨w.heap.size, 5, none⟩ = some (.int .i64 p) := BX.cell 5
        have bz0 : w1.cell? ⟨w.heap.size + 1, 0, none⟩ = some (.string { data := #[] }) := BZ.cell 0
        have bz1 : w1.cell? ⟨w.heap.size + 1, 1, none⟩ = some (.int .i64 0) := BZ.cell 1
        have bz2 : w1.cell? ⟨w.heap.size + 1, 2, none⟩ = some (.int .i64 0) := BZ.cell 2
        have bz3 : w1.cell? ⟨w.heap.size + 1, 3, none⟩ = some (.int .i64 0) := BZ.cell 3
        have bz4 : w1.cell? ⟨w.heap.size + 1, 4, none⟩ = some (.int .i64 0) := BZ.cell 4
        have bz5 : w1.cell? ⟨w.heap.size + 1, 5, none⟩ = some (.int .i64 0) := BZ.cell 5
        have fx := BX.frozen
        have fz := BZ.frozen
        have lz := BZ.lt
        have lx := BX.lt
        have HW : Below w.heap.size w w1 := Bl.then (by go_grown) H1
        have hr1 := hr.below HW
        clear H1
        go_wp2_with (go_at_call 68; refine (within_any _ _ _ _).mono ?_; rintro e w9 ⟨rfl, rfl⟩)
        refine (outside_any _ _ _ _ _ _ _ hr1 (by omega)).mono ?_
        rintro e w2 ⟨rfl, hb2⟩
        have HW2 := Bl.then HW hb2
        have hr2 := hr1.below hb2
        have BX2 := BX.below hb2
        have BZ2 := BZ.below hb2
        clear bx0 bx1 bx2 bx3 bx4 bx5 bz0 bz1 bz2 bz3 bz4 bz5 fx fz lx lz
        clear BX BZ
        have BX := BX2
        have BZ := BZ2
        clear BX2 BZ2
        have bx0 : w2.cell? ⟨w.heap.size, 0, none⟩ = some (.string s) := BX.cell 0
        have bx1 : w2.cell? ⟨w.heap.size, 1, none⟩ = some (.int .i64 l) := BX.cell 1
        have bx2 : w2.cell? ⟨w.heap.size, 2, none⟩ = some (.int .i64 b) := BX.cell 2
        have bx3 : w2.cell? ⟨w.heap.size, 3, none⟩ = some (.int .i64 i) := BX.cell 3
        have bx4 : w2.cell? ⟨w.heap.size, 4, none⟩ = some (.int .i64 h) := BX.cell 4
        have bx5 : w2.cell? ⟨w.heap.size, 5, none⟩ = some (.int .i64 p) := BX.cell 5
        have bz0 : w2.cell? ⟨w.heap.size + 1, 0, none⟩ = some (.string { data := #[] }) := BZ.cell 0
        have bz1 : w2.cell? ⟨w.heap.size + 1, 1, none⟩ = some (.int .i64 0) := BZ.cell 1
        have bz2 : w2.cell? ⟨w.heap.size + 1, 2, none⟩ = some (.int .i64 0) := BZ.cell 2
        have bz3 : w2.cell? ⟨w.heap.size + 1, 3, none⟩ = some (.int .i64 0) := BZ.cell 3
        have bz4 : w2.cell? ⟨w.heap.size + 1, 4, none⟩ = some (.int .i64 0) := BZ.cell 4
        have bz5 : w2.cell? ⟨w.heap.size + 1, 5, none⟩ = some (.int .i64 0) := BZ.cell 5
        have fx := BX.frozen
        have fz := BZ.frozen
        have lz := BZ.lt
        have lx := BX.lt
        go_wp2_with fail
        refine (sumOf_any _ _ _ _ _ hr2 hn ha2.out).mono ?_
        rintro e w9 ⟨rfl, rfl⟩
        go_wp2_with fail
        refine (validLast_any _ _ _ _ _ _ _ hs).mono ?_
        rintro e w3 ⟨rfl, hb3⟩
        have HW3 := (HW2.setCell (p := ⟨w.heap.size, 2, none⟩) (Nat.le_refl _) _).trans (hb3.mono (by simpa using HW2.size))
        have BX3 := (BX.set 2 (.int .i64 ((b + total zs)))).below hb3
        have BZ3 := (BZ.keep w.heap.size 2 (.int .i64 ((b + total zs))) (by omega)).below hb3
        clear bx0 bx1 bx2 bx3 bx4 bx5 bz0 bz1 bz2 bz3 bz4 bz5 fx fz lx lz
        clear BX BZ
        have BX := BX3
        have BZ := BZ3
        clear BX3 BZ3
        have bx0 : w3.cell? ⟨w.heap.size, 0, none⟩ = some (.string s) := BX.cell 0
        have bx1 : w3.cell? ⟨w.heap.size, 1, none⟩ = some (.int .i64 (l)) := BX.cell 1
        have bx2 : w3.cell? ⟨w.heap.size, 2, none⟩ = some (.int .i64 ((b + total zs))) := BX.cell 2
        have bx3 : w3.cell? ⟨w.heap.size, 3, none⟩ = some (.int .i64 (i)) := BX.cell 3
        have bx4 : w3.cell? ⟨w.heap.size, 4, none⟩ = some (.int .i64 (h)) := BX.cell 4
        have bx5 : w3.cell? ⟨w.heap.size, 5, none⟩ = some (.int .i64 (p)) := BX.cell 5
        have bz0 : w3.cell? ⟨w.heap.size + 1, 0, none⟩ = some (.string { data := #[] }) := BZ.cell 0
        have bz1 : w3.cell? ⟨w.heap.size + 1, 1, none⟩ = some (.int .i64 0) := BZ.cell 1
        have bz2 : w3.cell? ⟨w.heap.size + 1, 2, none⟩ = some (.int .i64 0) := BZ.cell 2
        have bz3 : w3.cell? ⟨w.heap.size + 1, 3, none⟩ = some (.int .i64 0) := BZ.cell 3
        have bz4 : w3.cell? ⟨w.heap.size + 1, 4, none⟩ = some (.int .i64 0) := BZ.cell 4
        have bz5 : w3.cell? ⟨w.heap.size + 1, 5, none⟩ = some (.int .i64 0) := BZ.cell 5
        have fx := BX.frozen
        have fz := BZ.frozen
        have lz := BZ.lt
        have lx := BX.lt
        go_wp2_with fail
        refine bodyPost_ret (v := .tuple #[.agg #[.string s, .int .i64 l, .int .i64 (b + total zs), .int .i64 i, .int .i64 h, .int .i64 p], .int .i64 0]) (by simp [results, Try.results45, go_sem, bz0, bz1, bz2, bz3, bz4, bz5]) rfl ?_
        exact ⟨retG0 _ _ _ _ _ _ _ (by rw [E.out, h5]; rfl), (Below.setCell (Below.setCell (Below.setCell (Below.setCell (Below.setCell (Below.setCell HW3 (by simp) _) (by simp) _) (by simp) _) (by simp) _) (by simp) _) (by simp) _)⟩
    · have hb1 : bAt 1 2 zs b = b := by simp [bAt]
      have hb2 : bAt 2 2 zs i = i + total zs := by simp [bAt]
      have hb3 : bAt 3 2 zs h = h := by simp [bAt]
      have E := Lib.hid (show buildC s l b i h p 2 zs = if lastOk s l b (i + total zs) h p = false then 5 else 0 by simp [buildC, h1, h3'.out, h4, hb1, hb2, hb3, show inR 2 1 3 = true from rfl])
      rw [hb1, hb2, hb3]
      clear hb1 hb2 hb3
      cases h5 : lastOk s l b (i + total zs) h p
      · go_enter Try.func45, Try.ntmps45
        go_wp2_with fail
        refine (validLast_any _ _ _ _ _ _ _ hs).mono ?_
        rintro e w1 ⟨rfl, H1⟩
        have BX := ((Blk.new w 38 #[.string s, .int .i64 l, .int .i64 b, .int .i64 i, .int .i64 h, .int .i64 p]).alloc (.cells #[.string { data := #[] }, .int .i64 0, .int .i64 0, .int .i64 0, .int .i64 0, .int .i64 0] 38)).below H1
        have BZ := (Blk.new1 w (.cells #[.string s, .int .i64 l, .int .i64 b, .int .i64 i, .int .i64 h, .int .i64 p] 38) 38 #[.string { data := #[] }, .int .i64 0, .int .i64 0, .int .i64 0, .int .i64 0, .int .i64 0]).below H1
        have bx0 : w1.cell? ⟨w.heap.size, 0, none⟩ = some (.string s) := BX.cell 0
        have bx1 : w1.cell? ⟨w.heap.size, 1, none⟩ = some (.int .i64 l) := BX.cell 1
        have bx2 : w1.cell? ⟨w.heap.size, 2, none⟩ = some (.int .i64 b) := BX.cell 2
        have bx3 : w1.cell? ⟨w.heap.size, 3, none⟩ = some (.int .i64 i) := BX.cell 3
        have bx4 : w1.cell? ⟨w.heap.size, 4, none⟩ = some (.int .i64 h) := BX.cell 4
        have bx5 : w1.cell? ⟨w.heap.size, 5, none⟩ = some (.int .i64 p) := BX.cell 5
        have bz0 : w1.cell? ⟨w.heap.size + 1, 0, none⟩ = some (.string { data := #[] }) := BZ.cell 0
        have bz1 : w1.cell? ⟨w.heap.size + 1, 1, none⟩ = some (.int .i64 0) := BZ.cell 1
        have bz2 : w1.cell? ⟨w.heap.size + 1, 2, none⟩ = some (.int .i64 0) := BZ.cell 2
        have bz3 : w1.cell? ⟨w.heap.size + 1, 3, none⟩ = some (.int .i64 0) := BZ.cell 3
        have bz4 : w1.cell? ⟨w.heap.size + 1, 4, none⟩ = some (.int .i64 0) := BZ.cell 4
        have bz5 : w1.cell? ⟨w.heap.size + 1, 5, none⟩ = some (.int .i64 0) := BZ.cell 5
        have fx := BX.frozen
        have fz := BZ.frozen
        have lz := BZ.lt
        have lx := BX.lt
        have HW : Below w.heap.size w w1 := Bl.then (by go_grown) H1
        have hr1 := hr.below HW
        clear H1
        go_wp2_with (go_at_call 68; refine (within_any _ _ _ _).mono ?_; rintro e w9 ⟨rfl, rfl⟩)
        refine (outside_any _ _ _ _ _ _ _ hr1 (by omega)).mono ?_
        rintro e w2 ⟨rfl, hb2⟩
        have HW2 := Bl.then HW hb2
        have hr2 := hr1.below hb2
        have BX2 := BX.below hb2
        have BZ2 := BZ.below hb2
        clear bx0 bx1 bx2 bx3 bx4 bx5 bz0 bz1 bz2 bz3 bz4 bz5 fx fz lx lz
        clear BX BZ
        have BX := BX2
        have BZ := BZ2
        clear BX2 BZ2
        have bx0 : w2.cell? ⟨w.heap.size, 0, none⟩ = some (.string s) := BX.cell 0
        have bx1 : w2.cell? ⟨w.heap.size, 1, none⟩ = some (.int .i64 l) := BX.cell 1
        have bx2 : w2.cell? ⟨w.heap.size, 2, none⟩ = some (.int .i64 b) := BX.cell 2
        have bx3 : w2.cell? ⟨w.heap.size, 3, none⟩ = some (.int .i64 i) := BX.cell 3
        have bx4 : w2.cell? ⟨w.heap.size, 4, none⟩ = some (.int .i64 h) := BX.cell 4
        have bx5 : w2.cell? ⟨w.heap.size, 5, none⟩ = some (.int .i64 p) := BX.cell 5
        have bz0 : w2.cell? ⟨w.heap.size + 1, 0, none⟩ = some (.string { data := #[] }) := BZ.cell 0
        have bz1 : w2.cell? ⟨w.heap.size + 1, 1, none⟩ = some (.int .i64 0) := BZ.cell 1
        have bz2 : w2.cell? ⟨w.heap.size + 1, 2, none⟩ = some (.int .i64 0) := BZ.cell 2
        have bz3 : w2.cell? ⟨w.heap.size + 1, 3, none⟩ = some (.int .i64 0) := BZ.cell 3
        have bz4 : w2.cell? ⟨w.heap.size + 1, 4, none⟩ = some (.int .i64 0) := BZ.cell 4
        have bz5 : w2.cell? ⟨w.heap.size + 1, 5, none⟩ = some (.int .i64 0) := BZ.cell 5
        have fx := BX.frozen
        have fz := BZ.frozen
        have lz := BZ.lt
        have lx := BX.lt
        go_wp2_with fail
        refine (sumOf_any _ _ _ _ _ hr2 hn ha2.out).mono ?_
        rintro e w9 ⟨rfl, rfl⟩
        go_wp2_with fail
        refine (validLast_any _ _ _ _ _ _ _ hs).mono ?_
        rintro e w3 ⟨rfl, hb3⟩
        have HW3 := (HW2.setCell (p := ⟨w.heap.size, 3, none⟩) (Nat.le_refl _) _).trans (hb3.mono (by simpa using HW2.size))
        have BX3 := (BX.set 3 (.int .i64 ((i + total zs)))).below hb3
        have BZ3 := (BZ.keep w.heap.size 3 (.int .i64 ((i + total zs))) (by omega)).below hb3
        clear bx0 bx1 bx2 bx3 bx4 bx5 bz0 bz1 bz2 bz3 bz4 bz5 fx fz lx lz
        clear BX BZ
        have BX := BX3
        have BZ := BZ3
        clear BX3 BZ3
        have bx0 : w3.cell? ⟨w.heap.size, 0, none⟩ = some (.string s) := BX.cell 0
        have bx1 : w3.cell? ⟨w.heap.size, 1, none⟩ = some (.int .i64 (l)) := BX.cell 1
        have bx2 : w3.cell? ⟨w.heap.size, 2, none⟩ = some (.int .i64 (b)) := BX.cell 2
        have bx3 : w3.cell? ⟨w.heap.size, 3, none⟩ = some (.int .i64 ((i + total zs))) := BX.cell 3
        have bx4 : w3.cell? ⟨w.heap.size, 4, none⟩ = some (.int .i64 (h)) := BX.cell 4
        have bx5 : w3.cell? ⟨w.heap.size, 5, none⟩ = some (.int .i64 (p)) := BX.cell 5
        have bz0 : w3.cell? ⟨w.heap.size + 1, 0, none⟩ = some (.string { data := #[] }) := BZ.cell 0
        have bz1 : w3.cell? ⟨w.heap.size + 1, 1, none⟩ = some (.int .i64 0) := BZ.cell 1
        have bz2 : w3.cell? ⟨w.heap.size + 1, 2, none⟩ = some (.int .i64 0) := BZ.cell 2
        have bz3 : w3.cell? ⟨w.heap.size + 1, 3, none⟩ = some (.int .i64 0) := BZ.cell 3
        have bz4 : w3.cell? ⟨w.heap.size + 1, 4, none⟩ = some (.int .i64 0) := BZ.cell 4
        have bz5 : w3.cell? ⟨w.heap.size + 1, 5, none⟩ = some (.int .i64 0) := BZ.cell 5
        have fx := BX.frozen
        have fz := BZ.frozen
        have lz := BZ.lt
        have lx := BX.lt
        go_wp2_with fail
        refine bodyPost_ret (v := .tuple #[.agg #[.string { data := #[] }, .int .i64 0, .int .i64 0, .int .i64 0, .int .i64 0, .int .i64 0], .int .i64 5]) (by simp [results, Try.results45, go_sem, bz0, bz1, bz2, bz3, bz4, bz5]) rfl ?_
        exact ⟨retG _ _ _ _ _ _ _ _ (by rw [E.out, h5]; rfl) (by decide), (Below.setCell (Below.setCell (Below.setCell (Below.setCell (Below.setCell (Below.setCell HW3 (by simp) _) (by simp) _) (by simp) _) (by simp) _) (by simp) _) (by simp) _)⟩
      · go_enter Try.func45, Try.ntmps45
        go_wp2_with fail
        refine (validLast_any _ _ _ _ _ _ _ hs).mono ?_
        rintro e w1 ⟨rfl, H1⟩
        have BX := ((Blk.new w 38 #[.string s, .int .i64 l, .int .i64 b, .int .i64 i, .int .i64 h, .int .i64 p]).alloc (.cells #[.string { data := #[] }, .int .i64 0, .int .i64 0, .int .i64 0, .int .i64 0, .int .i64 0] 38)).below H1
        have BZ := (Blk.new1 w (.cells #[.string s, .int .i64 l, .int .i64 b, .int .i64 i, .int .i64 h, .int .i64 p] 38) 38 #[.string { data := #[] }, .int .i64 0, .int .i64 0, .int .i64 0, .int .i64 0, .int .i64 0]).below H1
        have bx0 : w1.cell? ⟨w.heap.size, 0, none⟩ = some (.string s) := BX.cell 0
        have bx1 : w1.cell? ⟨w.heap.size, 1, none⟩ = some (.int .i64 l) := BX.cell 1
        have bx2 : w1.cell? ⟨w.heap.size, 2, none⟩ = some (.int .i64 b) := BX.cell 2
        have bx3 : w1.cell? ⟨w.heap.size, 3, none⟩ = some (.int .i64 i) := BX.cell 3
        have bx4 : w1.cell? ⟨w.heap.size, 4, none⟩ = some (.int .i64 h) := BX.cell 4
        have bx5 : w1.cell? ⟨w.heap.size, 5, none⟩ = some (.int .i64 p) := BX.cell 5
        have bz0 : w1.cell? ⟨w.heap.size + 1, 0, none⟩ = some (.string { data := #[] }) := BZ.cell 0
        have bz1 : w1.cell? ⟨w.heap.size + 1, 1, none⟩ = some (.int .i64 0) := BZ.cell 1
        have bz2 : w1.cell? ⟨w.heap.size + 1, 2, none⟩ = some (.int .i64 0) := BZ.cell 2
        have bz3 : w1.cell? ⟨w.heap.size + 1, 3, none⟩ = some (.int .i64 0) := BZ.cell 3
        have bz4 : w1.cell? ⟨w.heap.size + 1, 4, none⟩ = some (.int .i64 0) := BZ.cell 4
        have bz5 : w1.cell? ⟨w.heap.size + 1, 5, none⟩ = some (.int .i64 0) := BZ.cell 5
        have fx := BX.frozen
        have fz := BZ.frozen
        have lz := BZ.lt
        have lx := BX.lt
        have HW : Below w.heap.size w w1 := Bl.then (by go_grown) H1
        have hr1 := hr.below HW
        clear H1
        go_wp2_with (go_at_call 68; refine (within_any _ _ _ _).mono ?_; rintro e w9 ⟨rfl, rfl⟩)
        refine (outside_any _ _ _ _ _ _ _ hr1 (by omega)).mono ?_
        rintro e w2 ⟨rfl, hb2⟩
        have HW2 := Bl.then HW hb2
        have hr2 := hr1.below hb2
        have BX2 := BX.below hb2
        have BZ2 := BZ.below hb2
        clear bx0 bx1 bx2 bx3 bx4 bx5 bz0 bz1 bz2 bz3 bz4 bz5 fx fz lx lz
        clear BX BZ
        have BX := BX2
        have BZ := BZ2
        clear BX2 BZ2
        have bx0 : w2.cell? ⟨w.heap.size, 0, none⟩ = some (.string s) := BX.cell 0
        have bx1 : w2.cell? ⟨w.heap.size, 1, none⟩ = some (.int .i64 l) := BX.cell 1
        have bx2 : w2.cell? ⟨w.heap.size, 2, none⟩ = some (.int .i64 b) := BX.cell 2
        have bx3 : w2.cell? ⟨w.heap.size, 3, none⟩ = some (.int .i64 i) := BX.cell 3
        have bx4 : w2.cell? ⟨w.heap.size, 4, none⟩ = some (.int .i64 h) := BX.cell 4
        have bx5 : w2.cell? ⟨w.heap.size, 5, none⟩ = some (.int .i64 p) := BX.cell 5
        have bz0 : w2.cell? ⟨w.heap.size + 1, 0, none⟩ = some (.string { data := #[] }) := BZ.cell 0
        have bz1 : w2.cell? ⟨w.heap.size + 1, 1, none⟩ = some (.int .i64 0) := BZ.cell 1
        have bz2 : w2.cell? ⟨w.heap.size + 1, 2, none⟩ = some (.int .i64 0) := BZ.cell 2
        have bz3 : w2.cell? ⟨w.heap.size + 1, 3, none⟩ = some (.int .i64 0) := BZ.cell 3
        have bz4 : w2.cell? ⟨w.heap.size + 1, 4, none⟩ = some (.int .i64 0) := BZ.cell 4
        have bz5 : w2.cell? ⟨w.heap.size + 1, 5, none⟩ = some (.int .i64 0) := BZ.cell 5
        have fx := BX.frozen
        have fz := BZ.frozen
        have lz := BZ.lt
        have lx := BX.lt
        go_wp2_with fail
        refine (sumOf_any _ _ _ _ _ hr2 hn ha2.out).mono ?_
        rintro e w9 ⟨rfl, rfl⟩
        go_wp2_with fail
        refine (validLast_any _ _ _ _ _ _ _ hs).mono ?_
        rintro e w3 ⟨rfl, hb3⟩
        have HW3 := (HW2.setCell (p := ⟨w.heap.size, 3, none⟩) (Nat.le_refl _) _).trans (hb3.mono (by simpa using HW2.size))
        have BX3 := (BX.set 3 (.int .i64 ((i + total zs)))).below hb3
        have BZ3 := (BZ.keep w.heap.size 3 (.int .i64 ((i + total zs))) (by omega)).below hb3
        clear bx0 bx1 bx2 bx3 bx4 bx5 bz0 bz1 bz2 bz3 bz4 bz5 fx fz lx lz
        clear BX BZ
        have BX := BX3
        have BZ := BZ3
        clear BX3 BZ3
        have bx0 : w3.cell? ⟨w.heap.size, 0, none⟩ = some (.string s) := BX.cell 0
        have bx1 : w3.cell? ⟨w.heap.size, 1, none⟩ = some (.int .i64 (l)) := BX.cell 1
        have bx2 : w3.cell? ⟨w.heap.size, 2, none⟩ = some (.int .i64 (b)) := BX.cell 2
        have bx3 : w3.cell? ⟨w.heap.size, 3, none⟩ = some (.int .i64 ((i + total zs))) := BX.cell 3
        have bx4 : w3.cell? ⟨w.heap.size, 4, none⟩ = some (.int .i64 (h)) := BX.cell 4
        have bx5 : w3.cell? ⟨w.heap.size, 5, none⟩ = some (.int .i64 (p)) := BX.cell 5
        have bz0 : w3.cell? ⟨w.heap.size + 1, 0, none⟩ = some (.string { data := #[] }) := BZ.cell 0
        have bz1 : w3.cell? ⟨w.heap.size + 1, 1, none⟩ = some (.int .i64 0) := BZ.cell 1
        have bz2 : w3.cell? ⟨w.heap.size + 1, 2, none⟩ = some (.int .i64 0) := BZ.cell 2
        have bz3 : w3.cell? ⟨w.heap.size + 1, 3, none⟩ = some (.int .i64 0) := BZ.cell 3
        have bz4 : w3.cell? ⟨w.heap.size + 1, 4, none⟩ = some (.int .i64 0) := BZ.cell 4
        have bz5 : w3.cell? ⟨w.heap.size + 1, 5, none⟩ = some (.int .i64 0) := BZ.cell 5
        have fx := BX.frozen
        have fz := BZ.frozen
        have lz := BZ.lt
        have lx := BX.lt
        go_wp2_with fail
        refine bodyPost_ret (v := .tuple #[.agg #[.string s, .int .i64 l, .int .i64 b, .int .i64 (i + total zs), .int .i64 h, .int .i64 p], .int .i64 0]) (by simp [results, Try.results45, go_sem, bz0, bz1, bz2, bz3, bz4, bz5]) rfl ?_
        exact ⟨retG0 _ _ _ _ _ _ _ (by rw [E.out, h5]; rfl), (Below.setCell (Below.setCell (Below.setCell (Below.setCell (Below.setCell (Below.setCell HW3 (by simp) _) (by simp) _) (by simp) _) (by simp) _) (by simp) _) (by simp) _)⟩
    · have hb1 : bAt 1 3 zs b = b := by simp [bAt]
      have hb2 : bAt 2 3 zs i = i := by simp [bAt]
      have hb3 : bAt 3 3 zs h = h + total zs := by simp [bAt]
      have E := Lib.hid (show buildC s l b i h p 3 zs = if lastOk s l b i (h + total zs) p = false then 5 else 0 by simp [buildC, h1, h3'.out, h4, hb1, hb2, hb3, show inR 3 1 3 = true from rfl])
      rw [hb1, hb2, hb3]
      clear hb1 hb2 hb3
      cases h5 : lastOk s l b i (h + total zs) p
      · go_enter Try.func45, Try.ntmps45
        go_wp2_with fail
        refine (validLast_any _ _ _ _ _ _ _ hs).mono ?_
        rintro e w1 ⟨rfl, H1⟩
        have BX := ((Blk.new w 38 #[.string s, .int .i64 l, .int .i64 b, .int .i64 i, .int .i64 h, .int .i64 p]).alloc (.cells #[.string { data := #[] }, .int .i64 0, .int .i64 0, .int .i64 0, .int .i64 0, .int .i64 0] 38)).below H1
        have BZ := (Blk.new1 w (.cells #[.string s, .int .i64 l, .int .i64 b, .int .i64 i, .int .i64 h, .int .i64 p] 38) 38 #[.string { data := #[] }, .int .i64 0, .int .i64 0, .int .i64 0, .int .i64 0, .int .i64 0]).below H1
        have bx0 : w1.cell? ⟨w.heap.size, 0, none⟩ = some (.string s) := BX.cell 0
        have bx1 : w1.cell? ⟨w.heap.size, 1, none⟩ = some (.int .i64 l) := BX.cell 1
        have bx2 : w1.cell? ⟨w.heap.size, 2, none⟩ = some (.int .i64 b) := BX.cell 2
        have bx3 : w1.cell? ⟨w.heap.size, 3, none⟩ = some (.int .i64 i) := BX.cell 3
        have bx4 : w1.cell? ⟨w.heap.size, 4, none⟩ = some (.int .i64 h) := BX.cell 4
        have bx5 : w1.cell? ⟨w.heap.size, 5, none⟩ = some (.int .i64 p) := BX.cell 5
        have bz0 : w1.cell? ⟨w.heap.size + 1, 0, none⟩ = some (.string { data := #[] }) := BZ.cell 0
        have bz1 : w1.cell? ⟨w.heap.size + 1, 1, none⟩ = some (.int .i64 0) := BZ.cell 1
        have bz2 : w1.cell? ⟨w.heap.size + 1, 2, none⟩ = some (.int .i64 0) := BZ.cell 2
        have bz3 : w1.cell? ⟨w.heap.size + 1, 3, none⟩ = some (.int .i64 0) := BZ.cell 3
        have bz4 : w1.cell? ⟨w.heap.size + 1, 4, none⟩ = some (.int .i64 0) := BZ.cell 4
        have bz5 : w1.cell? ⟨w.heap.size + 1, 5, none⟩ = some (.int .i64 0) := BZ.cell 5
        have fx := BX.frozen
        have fz := BZ.frozen
        have lz := BZ.lt
        have lx := BX.lt
        have HW : Below w.heap.size w w1 := Bl.then (by go_grown) H1
        have hr1 := hr.below HW
        clear H1
        go_wp2_with (go_at_call 68; refine (within_any _ _ _ _).mono ?_; rintro e w9 ⟨rfl, rfl⟩)
        refine (outside_any _ _ _ _ _ _ _ hr1 (by omega)).mono ?_
        rintro e w2 ⟨rfl, hb2⟩
        have HW2 := Bl.then HW hb2
        have hr2 := hr1.below hb2
        have BX2 := BX.below hb2
        have BZ2 := BZ.below hb2
        clear bx0 bx1 bx2 bx3 bx4 bx5 bz0 bz1 bz2 bz3 bz4 bz5 fx fz lx lz
        clear BX BZ
        have BX := BX2
        have BZ := BZ2
        clear BX2 BZ2
        have bx0 : w2.cell? ⟨w.heap.size, 0, none⟩ = some (.string s) := BX.cell 0
        have bx1 : w2.cell? ⟨w.heap.size, 1, none⟩ = some (.int .i64 l) := BX.cell 1
        have bx2 : w2.cell? ⟨w.heap.size, 2, none⟩ = some (.int .i64 b) := BX.cell 2
        have bx3 : w2.cell? ⟨w.heap.size, 3, none⟩ = some (.int .i64 i) := BX.cell 3
        have bx4 : w2.cell? ⟨w.heap.size, 4, none⟩ = some (.int .i64 h) := BX.cell 4
        have bx5 : w2.cell? ⟨w.heap.size, 5, none⟩ = some (.int .i64 p) := BX.cell 5
        have bz0 : w2.cell? ⟨w.heap.size + 1, 0, none⟩ = some (.string { data := #[] }) := BZ.cell 0
        have bz1 : w2.cell? ⟨w.heap.size + 1, 1, none⟩ = some (.int .i64 0) := BZ.cell 1
        have bz2 : w2.cell? ⟨w.heap.size + 1, 2, none⟩ = some (.int .i64 0) := BZ.cell 2
        have bz3 : w2.cell? ⟨w.heap.size + 1, 3, none⟩ = some (.int .i64 0) := BZ.cell 3
        have bz4 : w2.cell? ⟨w.heap.size + 1, 4, none⟩ = some (.int .i64 0) := BZ.cell 4
        have bz5 : w2.cell? ⟨w.heap.size + 1, 5, none⟩ = some (.int .i64 0) := BZ.cell 5
        have fx := BX.frozen
        have fz := BZ.frozen
        have lz := BZ.lt
        have lx := BX.lt
        go_wp2_with fail
        refine (sumOf_any _ _ _ _ _ hr2 hn ha2.out).mono ?_
        rintro e w9 ⟨rfl, rfl⟩
        go_wp2_with fail
        refine (validLast_any _ _ _ _ _ _ _ hs).mono ?_
        rintro e w3 ⟨rfl, hb3⟩
        have HW3 := (HW2.setCell (p := ⟨w.heap.size, 4, none⟩) (Nat.le_refl _) _).trans (hb3.mono (by simpa using HW2.size))
        have BX3 := (BX.set 4 (.int .i64 ((h + total zs)))).below hb3
        have BZ3 := (BZ.keep w.heap.size 4 (.int .i64 ((h + total zs))) (by omega)).below hb3
        clear bx0 bx1 bx2 bx3 bx4 bx5 bz0 bz1 bz2 bz3 bz4 bz5 fx fz lx lz
        clear BX BZ
        have BX := BX3
        have BZ := BZ3
        clear BX3 BZ3
        have bx0 : w3.cell? ⟨w.heap.size, 0, none⟩ = some (.string s) := BX.cell 0
        have bx1 : w3.cell? ⟨w.heap.size, 1, none⟩ = some (.int .i64 (l)) := BX.cell 1
        have bx2 : w3.cell? ⟨w.heap.size, 2, none⟩ = some (.int .i64 (b)) := BX.cell 2
        have bx3 : w3.cell? ⟨w.heap.size, 3, none⟩ = some (.int .i64 (i)) := BX.cell 3
        have bx4 : w3.cell? ⟨w.heap.size, 4, none⟩ = some (.int .i64 ((h + total zs))) := BX.cell 4
        have bx5 : w3.cell? ⟨w.heap.size, 5, none⟩ = some (.int .i64 (p)) := BX.cell 5
        have bz0 : w3.cell? ⟨w.heap.size + 1, 0, none⟩ = some (.string { data := #[] }) := BZ.cell 0
        have bz1 : w3.cell? ⟨w.heap.size + 1, 1, none⟩ = some (.int .i64 0) := BZ.cell 1
        have bz2 : w3.cell? ⟨w.heap.size + 1, 2, none⟩ = some (.int .i64 0) := BZ.cell 2
        have bz3 : w3.cell? ⟨w.heap.size + 1, 3, none⟩ = some (.int .i64 0) := BZ.cell 3
        have bz4 : w3.cell? ⟨w.heap.size + 1, 4, none⟩ = some (.int .i64 0) := BZ.cell 4
        have bz5 : w3.cell? ⟨w.heap.size + 1, 5, none⟩ = some (.int .i64 0) := BZ.cell 5
        have fx := BX.frozen
        have fz := BZ.frozen
        have lz := BZ.lt
        have lx := BX.lt
        go_wp2_with fail
        refine bodyPost_ret (v := .tuple #[.agg #[.string { data := #[] }, .int .i64 0, .int .i64 0, .int .i64 0, .int .i64 0, .int .i64 0], .int .i64 5]) (by simp [results, Try.results45, go_sem, bz0, bz1, bz2, bz3, bz4, bz5]) rfl ?_
        exact ⟨retG _ _ _ _ _ _ _ _ (by rw [E.out, h5]; rfl) (by decide), (Below.setCell (Below.setCell (Below.setCell (Below.setCell (Below.setCell (Below.setCell HW3 (by simp) _) (by simp) _) (by simp) _) (by simp) _) (by simp) _) (by simp) _)⟩
      · go_enter Try.func45, Try.ntmps45
        go_wp2_with fail
        refine (validLast_any _ _ _ _ _ _ _ hs).mono ?_
        rintro e w1 ⟨rfl, H1⟩
        have BX := ((Blk.new w 38 #[.string s, .int .i64 l, .int .i64 b, .int .i64 i, .int .i64 h, .int .i64 p]).alloc (.cells #[.string { data := #[] }, .int .i64 0, .int .i64 0, .int .i64 0, .int .i64 0, .int .i64 0] 38)).below H1
        have BZ := (Blk.new1 w (.cells #[.string s, .int .i64 l, .int .i64 b, .int .i64 i, .int .i64 h, .int .i64 p] 38) 38 #[.string { data := #[] }, .int .i64 0, .int .i64 0, .int .i64 0, .int .i64 0, .int .i64 0]).below H1
        have bx0 : w1.cell? ⟨w.heap.size, 0, none⟩ = some (.string s) := BX.cell 0
        have bx1 : w1.cell? ⟨w.heap.size, 1, none⟩ = some (.int .i64 l) := BX.cell 1
        have bx2 : w1.cell? ⟨w.heap.size, 2, none⟩ = some (.int .i64 b) := BX.cell 2
        have bx3 : w1.cell? ⟨w.heap.size, 3, none⟩ = some (.int .i64 i) := BX.cell 3
        have bx4 : w1.cell? ⟨w.heap.size, 4, none⟩ = some (.int .i64 h) := BX.cell 4
        have bx5 : w1.cell? ⟨w.heap.size, 5, none⟩ = some (.int .i64 p) := BX.cell 5
        have bz0 : w1.cell? ⟨w.heap.size + 1, 0, none⟩ = some (.string { data := #[] }) := BZ.cell 0
        have bz1 : w1.cell? ⟨w.heap.size + 1, 1, none⟩ = some (.int .i64 0) := BZ.cell 1
        have bz2 : w1.cell? ⟨w.heap.size + 1, 2, none⟩ = some (.int .i64 0) := BZ.cell 2
        have bz3 : w1.cell? ⟨w.heap.size + 1, 3, none⟩ = some (.int .i64 0) := BZ.cell 3
        have bz4 : w1.cell? ⟨w.heap.size + 1, 4, none⟩ = some (.int .i64 0) := BZ.cell 4
        have bz5 : w1.cell? ⟨w.heap.size + 1, 5, none⟩ = some (.int .i64 0) := BZ.cell 5
        have fx := BX.frozen
        have fz := BZ.frozen
        have lz := BZ.lt
        have lx := BX.lt
        have HW : Below w.heap.size w w1 := Bl.then (by go_grown) H1
        have hr1 := hr.below HW
        clear H1
        go_wp2_with (go_at_call 68; refine (within_any _ _ _ _).mono ?_; rintro e w9 ⟨rfl, rfl⟩)
        refine (outside_any _ _ _ _ _ _ _ hr1 (by omega)).mono ?_
        rintro e w2 ⟨rfl, hb2⟩
        have HW2 := Bl.then HW hb2
        have hr2 := hr1.below hb2
        have BX2 := BX.below hb2
        have BZ2 := BZ.below hb2
        clear bx0 bx1 bx2 bx3 bx4 bx5 bz0 bz1 bz2 bz3 bz4 bz5 fx fz lx lz
        clear BX BZ
        have BX := BX2
        have BZ := BZ2
        clear BX2 BZ2
        have bx0 : w2.cell? ⟨w.heap.size, 0, none⟩ = some (.string s) := BX.cell 0
        have bx1 : w2.cell? ⟨w.heap.size, 1, none⟩ = some (.int .i64 l) := BX.cell 1
        have bx2 : w2.cell? ⟨w.heap.size, 2, none⟩ = some (.int .i64 b) := BX.cell 2
        have bx3 : w2.cell? ⟨w.heap.size, 3, none⟩ = some (.int .i64 i) := BX.cell 3
        have bx4 : w2.cell? ⟨w.heap.size, 4, none⟩ = some (.int .i64 h) := BX.cell 4
        have bx5 : w2.cell? ⟨w.heap.size, 5, none⟩ = some (.int .i64 p) := BX.cell 5
        have bz0 : w2.cell? ⟨w.heap.size + 1, 0, none⟩ = some (.string { data := #[] }) := BZ.cell 0
        have bz1 : w2.cell? ⟨w.heap.size + 1, 1, none⟩ = some (.int .i64 0) := BZ.cell 1
        have bz2 : w2.cell? ⟨w.heap.size + 1, 2, none⟩ = some (.int .i64 0) := BZ.cell 2
        have bz3 : w2.cell? ⟨w.heap.size + 1, 3, none⟩ = some (.int .i64 0) := BZ.cell 3
        have bz4 : w2.cell? ⟨w.heap.size + 1, 4, none⟩ = some (.int .i64 0) := BZ.cell 4
        have bz5 : w2.cell? ⟨w.heap.size + 1, 5, none⟩ = some (.int .i64 0) := BZ.cell 5
        have fx := BX.frozen
        have fz := BZ.frozen
        have lz := BZ.lt
        have lx := BX.lt
        go_wp2_with fail
        refine (sumOf_any _ _ _ _ _ hr2 hn ha2.out).mono ?_
        rintro e w9 ⟨rfl, rfl⟩
        go_wp2_with fail
        refine (validLast_any _ _ _ _ _ _ _ hs).mono ?_
        rintro e w3 ⟨rfl, hb3⟩
        have HW3 := (HW2.setCell (p := ⟨w.heap.size, 4, none⟩) (Nat.le_refl _) _).trans (hb3.mono (by simpa using HW2.size))
        have BX3 := (BX.set 4 (.int .i64 ((h + total zs)))).below hb3
        have BZ3 := (BZ.keep w.heap.size 4 (.int .i64 ((h + total zs))) (by omega)).below hb3
        clear bx0 bx1 bx2 bx3 bx4 bx5 bz0 bz1 bz2 bz3 bz4 bz5 fx fz lx lz
        clear BX BZ
        have BX := BX3
        have BZ := BZ3
        clear BX3 BZ3
        have bx0 : w3.cell? ⟨w.heap.size, 0, none⟩ = some (.string s) := BX.cell 0
        have bx1 : w3.cell? ⟨w.heap.size, 1, none⟩ = some (.int .i64 (l)) := BX.cell 1
        have bx2 : w3.cell? ⟨w.heap.size, 2, none⟩ = some (.int .i64 (b)) := BX.cell 2
        have bx3 : w3.cell? ⟨w.heap.size, 3, none⟩ = some (.int .i64 (i)) := BX.cell 3
        have bx4 : w3.cell? ⟨w.heap.size, 4, none⟩ = some (.int .i64 ((h + total zs))) := BX.cell 4
        have bx5 : w3.cell? ⟨w.heap.size, 5, none⟩ = some (.int .i64 (p)) := BX.cell 5
        have bz0 : w3.cell? ⟨w.heap.size + 1, 0, none⟩ = some (.string { data := #[] }) := BZ.cell 0
        have bz1 : w3.cell? ⟨w.heap.size + 1, 1, none⟩ = some (.int .i64 0) := BZ.cell 1
        have bz2 : w3.cell? ⟨w.heap.size + 1, 2, none⟩ = some (.int .i64 0) := BZ.cell 2
        have bz3 : w3.cell? ⟨w.heap.size + 1, 3, none⟩ = some (.int .i64 0) := BZ.cell 3
        have bz4 : w3.cell? ⟨w.heap.size + 1, 4, none⟩ = some (.int .i64 0) := BZ.cell 4
        have bz5 : w3.cell? ⟨w.heap.size + 1, 5, none⟩ = some (.int .i64 0) := BZ.cell 5
        have fx := BX.frozen
        have fz := BZ.frozen
        have lz := BZ.lt
        have lx := BX.lt
        go_wp2_with fail
        refine bodyPost_ret (v := .tuple #[.agg #[.string s, .int .i64 l, .int .i64 b, .int .i64 i, .int .i64 (h + total zs), .int .i64 p], .int .i64 0]) (by simp [results, Try.results45, go_sem, bz0, bz1, bz2, bz3, bz4, bz5]) rfl ?_
        exact ⟨retG0 _ _ _ _ _ _ _ (by rw [E.out, h5]; rfl), (Below.setCell (Below.setCell (Below.setCell (Below.setCell (Below.setCell (Below.setCell HW3 (by simp) _) (by simp) _) (by simp) _) (by simp) _) (by simp) _) (by simp) _)⟩
  · go_enter Try.func45, Try.ntmps45
    go_wp2_with fail
    refine (validLast_any _ _ _ _ _ _ _ hs).mono ?_
    rintro e w1 ⟨rfl, H1⟩
    have BX := ((Blk.new w 38 #[.string s, .int .i64 l, .int .i64 b, .int .i64 i, .int .i64 h, .int .i64 p]).alloc (.cells #[.string { data := #[] }, .int .i64 0, .int .i64 0, .int .i64 0, .int .i64 0, .int .i64 0] 38)).below H1
    have BZ := (Blk.new1 w (.cells #[.string s, .int .i64 l, .int .i64 b, .int .i64 i, .int .i64 h, .int .i64 p] 38) 38 #[.string { data := #[] }, .int .i64 0, .int .i64 0, .int .i64 0, .int .i64 0, .int .i64 0]).below H1
    have bx0 : w1.cell? ⟨w.heap.size, 0, none⟩ = some (.string s) := BX.cell 0
    have bx1 : w1.cell? ⟨w.heap.size, 1, none⟩ = some (.int .i64 l) := BX.cell 1
    have bx2 : w1.cell? ⟨w.heap.size, 2, none⟩ = some (.int .i64 b) := BX.cell 2
    have bx3 : w1.cell? ⟨w.heap.size, 3, none⟩ = some (.int .i64 i) := BX.cell 3
    have bx4 : w1.cell? ⟨w.heap.size, 4, none⟩ = some (.int .i64 h) := BX.cell 4
    have bx5 : w1.cell? ⟨w.heap.size, 5, none⟩ = some (.int .i64 p) := BX.cell 5
    have bz0 : w1.cell? ⟨w.heap.size + 1, 0, none⟩ = some (.string { data := #[] }) := BZ.cell 0
    have bz1 : w1.cell? ⟨w.heap.size + 1, 1, none⟩ = some (.int .i64 0) := BZ.cell 1
    have bz2 : w1.cell? ⟨w.heap.size + 1, 2, none⟩ = some (.int .i64 0) := BZ.cell 2
    have bz3 : w1.cell? ⟨w.heap.size + 1, 3, none⟩ = some (.int .i64 0) := BZ.cell 3
    have bz4 : w1.cell? ⟨w.heap.size + 1, 4, none⟩ = some (.int .i64 0) := BZ.cell 4
    have bz5 : w1.cell? ⟨w.heap.size + 1, 5, none⟩ = some (.int .i64 0) := BZ.cell 5
    have fx := BX.frozen
    have fz := BZ.frozen
    have lz := BZ.lt
    have lx := BX.lt
    have HW : Below w.heap.size w w1 := Bl.then (by go_grown) H1
    have hr1 := hr.below HW
    clear H1
    go_wp2_with (go_at_call 68; refine (within_any _ _ _ _).mono ?_; rintro e w9 ⟨rfl, rfl⟩)
    refine (outside_any _ _ _ _ _ _ _ hr1 (by omega)).mono ?_
    rintro e w2 ⟨rfl, hb2⟩
    have HW2 := Bl.then HW hb2
    have hr2 := hr1.below hb2
    have BX2 := BX.below hb2
    have BZ2 := BZ.below hb2
    clear bx0 bx1 bx2 bx3 bx4 bx5 bz0 bz1 bz2 bz3 bz4 bz5 fx fz lx lz
    clear BX BZ
    have BX := BX2
    have BZ := BZ2
    clear BX2 BZ2
    have bx0 : w2.cell? ⟨w.heap.size, 0, none⟩ = some (.string s) := BX.cell 0
    have bx1 : w2.cell? ⟨w.heap.size, 1, none⟩ = some (.int .i64 l) := BX.cell 1
    have bx2 : w2.cell? ⟨w.heap.size, 2, none⟩ = some (.int .i64 b) := BX.cell 2
    have bx3 : w2.cell? ⟨w.heap.size, 3, none⟩ = some (.int .i64 i) := BX.cell 3
    have bx4 : w2.cell? ⟨w.heap.size, 4, none⟩ = some (.int .i64 h) := BX.cell 4
    have bx5 : w2.cell? ⟨w.heap.size, 5, none⟩ = some (.int .i64 p) := BX.cell 5
    have bz0 : w2.cell? ⟨w.heap.size + 1, 0, none⟩ = some (.string { data := #[] }) := BZ.cell 0
    have bz1 : w2.cell? ⟨w.heap.size + 1, 1, none⟩ = some (.int .i64 0) := BZ.cell 1
    have bz2 : w2.cell? ⟨w.heap.size + 1, 2, none⟩ = some (.int .i64 0) := BZ.cell 2
    have bz3 : w2.cell? ⟨w.heap.size + 1, 3, none⟩ = some (.int .i64 0) := BZ.cell 3
    have bz4 : w2.cell? ⟨w.heap.size + 1, 4, none⟩ = some (.int .i64 0) := BZ.cell 4
    have bz5 : w2.cell? ⟨w.heap.size + 1, 5, none⟩ = some (.int .i64 0) := BZ.cell 5
    have fx := BX.frozen
    have fz := BZ.frozen
    have lz := BZ.lt
    have lx := BX.lt
    go_wp2_with fail
    refine bodyPost_ret (v := .tuple #[.agg #[.string { data := #[] }, .int .i64 0, .int .i64 0, .int .i64 0, .int .i64 0, .int .i64 0], .int .i64 2]) (by simp [results, Try.results45, go_sem, bz0, bz1, bz2, bz3, bz4, bz5]) rfl ?_
    exact ⟨retG _ _ _ _ _ _ _ _ (by simp [buildC, h1, h2, h3'.out, h4]) (by decide), (Below.setCell (Below.setCell (Below.setCell (Below.setCell (Below.setCell (Below.setCell HW2 (by simp) _) (by simp) _) (by simp) _) (by simp) _) (by simp) _) (by simp) _)⟩
set_option maxRecDepth 100000 in
theorem sBuildLast_any (s : ByteArray) (l b i h p gi : Int) (A : Option Addr) (n c : Nat) (zs : List Int) (w : World) (hs : s.size ≤ maxLen) (hr : Rd w 1 A n (ints zs)) (hn : n ≤ 1048576) :
    Calls Try.prog 43 #[.agg #[.string s, .int .i64 l, .int .i64 b, .int .i64 i, .int .i64 h, .int .i64 p], .int .i64 gi, .slice A n c] w fun e w' => e = .returned (.tuple #[.agg #[.string (gStr (buildC s l b i h p gi zs) s), .int .i64 (gNum (buildC s l b i h p gi zs) l), .int .i64 (gNum (buildC s l b i h p gi zs) (bAt 1 gi zs b)), .int .i64 (gNum (buildC s l b i h p gi zs) (bAt 2 gi zs i)), .int .i64 (gNum (buildC s l b i h p gi zs) (bAt 3 gi zs h)), .int .i64 (gNum (buildC s l b i h p gi zs) p)], .int .i64 (buildC s l b i h p gi zs)]) ∧ Below w.heap.size w w' := by
  have hlen := Lib.hid hr.len
  cases h1 : lastOk s l b i h p
  · go_enter Try.func43, Try.ntmps43
    go_wp2_with fail
    refine (l04One_any _ _ _ _ _ _ _ hs).mono ?_
    rintro e w1 ⟨rfl, H1⟩
    have BX := ((Blk.new w 38 #[.string s, .int .i64 l, .int .i64 b, .int .i64 i, .int .i64 h, .int .i64 p]).alloc (.cells #[.string { data := #[] }, .int .i64 0, .int .i64 0, .int .i64 0, .int .i64 0, .int .i64 0] 38)).below H1
    have BZ := (Blk.new1 w (.cells #[.string s, .int .i64 l, .int .i64 b, .int .i64 i, .int .i64 h, .int .i64 p] 38) 38 #[.string { data := #[] }, .int .i64 0, .int .i64 0, .int .i64 0, .int .i64 0, .int .i64 0]).below H1
    have bx0 : w1.cell? ⟨w.heap.size, 0, none⟩ = some (.string s) := BX.cell 0
    have bx1 : w1.cell? ⟨w.heap.size, 1, none⟩ = some (.int .i64 l) := BX.cell 1
    have bx2 : w1.cell? ⟨w.heap.size, 2, none⟩ = some (.int .i64 b) := BX.cell 2
    have bx3 : w1.cell? ⟨w.heap.size, 3, none⟩ = some (.int .i64 i) := BX.cell 3
    have bx4 : w1.cell? ⟨w.heap.size, 4, none⟩ = some (.int .i64 h) := BX.cell 4
    have bx5 : w1.cell? ⟨w.heap.size, 5, none⟩ = some (.int .i64 p) := BX.cell 5
    have bz0 : w1.cell? ⟨w.heap.size + 1, 0, none⟩ = some (.string { data := #[] }) := BZ.cell 0
    have bz1 : w1.cell? ⟨w.heap.size + 1, 1, none⟩ = some (.int .i64 0) := BZ.cell 1
    have bz2 : w1.cell? ⟨w.heap.size + 1, 2, none⟩ = some (.int .i64 0) := BZ.cell 2
    have bz3 : w1.cell? ⟨w.heap.size + 1, 3, none⟩ = some (.int .i64 0) := BZ.cell 3
    have bz4 : w1.cell? ⟨w.heap.size + 1, 4, none⟩ = some (.int .i64 0) := BZ.cell 4
    have bz5 : w1.cell? ⟨w.heap.size + 1, 5, none⟩ = some (.int .i64 0) := BZ.cell 5
    have fx := BX.frozen
    have fz := BZ.frozen
    have lz := BZ.lt
    have lx := BX.lt
    have HW : Below w.heap.size w w1 := Bl.then (by go_grown) H1
    have hr1 := hr.below HW
    clear H1
    go_wp2_with fail
    refine bodyPost_ret (v := .tuple #[.agg #[.string { data := #[] }, .int .i64 0, .int .i64 0, .int .i64 0, .int .i64 0, .int .i64 0], .int .i64 1]) (by simp [results, Try.results43, go_sem, bz0, bz1, bz2, bz3, bz4, bz5]) rfl ?_
    exact ⟨retG _ _ _ _ _ _ _ _ (by simp [buildC, h1]) (by decide), (Below.setCell (Below.setCell (Below.setCell (Below.setCell (Below.setCell (Below.setCell HW (by simp) _) (by simp) _) (by simp) _) (by simp) _) (by simp) _) (by simp) _)⟩
  have two := Lib.hid (buildC_two (s := s) (l := l) (b := b) (i := i) (h := h) (p := p) (gi := gi) (zs := zs) h1)
  have h1' := Lib.hid h1
  obtain ⟨q0, q1, q2, q3, q4, q5⟩ := lastOk_bd h1
  go_enter Try.func43, Try.ntmps43
  go_wp2_with fail
  refine (l04One_any _ _ _ _ _ _ _ hs).mono ?_
  rintro e w1 ⟨rfl, H1⟩
  have BX := ((Blk.new w 38 #[.string s, .int .i64 l, .int .i64 b, .int .i64 i, .int .i64 h, .int .i64 p]).alloc (.cells #[.string { data := #[] }, .int .i64 0, .int .i64 0, .int .i64 0, .int .i64 0, .int .i64 0] 38)).below H1
  have BZ := (Blk.new1 w (.cells #[.string s, .int .i64 l, .int .i64 b, .int .i64 i, .int .i64 h, .int .i64 p] 38) 38 #[.string { data := #[] }, .int .i64 0, .int .i64 0, .int .i64 0, .int .i64 0, .int .i64 0]).below H1
  have bx0 : w1.cell? ⟨w.heap.size, 0, none⟩ = some (.string s) := BX.cell 0
  have bx1 : w1.cell? ⟨w.heap.size, 1, none⟩ = some (.int .i64 l) := BX.cell 1
  have bx2 : w1.cell? ⟨w.heap.size, 2, none⟩ = some (.int .i64 b) := BX.cell 2
  have bx3 : w1.cell? ⟨w.heap.size, 3, none⟩ = some (.int .i64 i) := BX.cell 3
  have bx4 : w1.cell? ⟨w.heap.size, 4, none⟩ = some (.int .i64 h) := BX.cell 4
  have bx5 : w1.cell? ⟨w.heap.size, 5, none⟩ = some (.int .i64 p) := BX.cell 5
  have bz0 : w1.cell? ⟨w.heap.size + 1, 0, none⟩ = some (.string { data := #[] }) := BZ.cell 0
  have bz1 : w1.cell? ⟨w.heap.size + 1, 1, none⟩ = some (.int .i64 0) := BZ.cell 1
  have bz2 : w1.cell? ⟨w.heap.size + 1, 2, none⟩ = some (.int .i64 0) := BZ.cell 2
  have bz3 : w1.cell? ⟨w.heap.size + 1, 3, none⟩ = some (.int .i64 0) := BZ.cell 3
  have bz4 : w1.cell? ⟨w.heap.size + 1, 4, none⟩ = some (.int .i64 0) := BZ.cell 4
  have bz5 : w1.cell? ⟨w.heap.size + 1, 5, none⟩ = some (.int .i64 0) := BZ.cell 5
  have fx := BX.frozen
  have fz := BZ.frozen
  have lz := BZ.lt
  have lx := BX.lt
  have HW : Below w.heap.size w w1 := Bl.then (by go_grown) H1
  have hr1 := hr.below HW
  clear H1
  go_wp2_with fail
  clear h1
  go_loop [8, 9] (fun q j => ∃ k : Nat, k ≤ n ∧ j = .int .i64 k ∧ q = .int .i64 (pre zs k) ∧ Hid (AllIn zs k 1 200)) (fun _ j => n - (intOf j).toNat)
  case atStart => exact ⟨0, by omega, rfl, rfl, Lib.hid fun j hj => by omega⟩
  case round =>
    obtain ⟨k, hk, rfl, rfl, hall⟩ := hrel
    obtain ⟨pb1, pb2⟩ := pre_bd hall.out k (Nat.le_refl _)
    by_cases hlt : k < n
    · obtain ⟨ba, off, rfl, hbl, hcell⟩ := hr1.int hlt
      cases hin : inR (ix zs k) 1 200
      · have h2 := Lib.hid (two.out (.inr (.inr (outB_yes (k := k) (by rw [hlen.out]; exact hlt) hin))))
        go_wp2_with (go_at_call 65; refine (l00In_any _ _ _ _).mono ?_; rintro e w9 ⟨rfl, rfl⟩)
        refine bodyPost_ret (v := .tuple #[.agg #[.string { data := #[] }, .int .i64 0, .int .i64 0, .int .i64 0, .int .i64 0, .int .i64 0], .int .i64 2]) (by simp [results, Try.results43, go_sem, bz0, bz1, bz2, bz3, bz4, bz5]) rfl ?_
        exact ⟨retG _ _ _ _ _ _ _ _ h2.out (by decide), (Below.setCell (Below.setCell (Below.setCell (Below.setCell (Below.setCell (Below.setCell HW (by simp) _) (by simp) _) (by simp) _) (by simp) _) (by simp) _) (by simp) _)⟩
      · have hs1 : AllIn zs (k + 1) 1 200 := hall.out.snoc hin
        have hs2 := Lib.hid hs1
        obtain ⟨i1, i2⟩ := inR_true.1 hin
        clear hs1
        go_wp2_with (go_at_call 65; refine (l00In_any _ _ _ _).mono ?_; rintro e w9 ⟨rfl, rfl⟩)
        go_round
        case rel => exact ⟨k + 1, by omega, by go_num, rfl, hs2⟩
        case measure => simp [intOf]; omega
    · obtain rfl : k = n := by omega
      have hpre := Lib.hid (show pre zs k = total zs by unfold total; rw [hlen.out])
      have hout : outB zs 1 200 = false := outB_no (fun j hj => hall.out j (by have := hlen.out; omega))
      rw [hpre.out] at pb1 pb2 ⊢
      by_cases h3 : 100 < k
      · have hc2 := Lib.hid (two.out (.inr (.inl (by rw [hlen.out]; exact h3))))
        go_wp2_with (go_at_call 65; refine (l00In_any _ _ _ _).mono ?_; rintro e w9 ⟨rfl, rfl⟩)
        refine bodyPost_ret (v := .tuple #[.agg #[.string { data := #[] }, .int .i64 0, .int .i64 0, .int .i64 0, .int .i64 0, .int .i64 0], .int .i64 2]) (by simp [results, Try.results43, go_sem, bz0, bz1, bz2, bz3, bz4, bz5]) rfl ?_
        exact ⟨retG _ _ _ _ _ _ _ _ hc2.out (by decide), (Below.setCell (Below.setCell (Below.setCell (Below.setCell (Below.setCell (Below.setCell HW (by simp) _) (by simp) _) (by simp) _) (by simp) _) (by simp) _) (by simp) _)⟩
      cases h2 : inR gi 1 3
      · have hc2 := Lib.hid (two.out (.inl h2))
        go_wp2_with (go_at_call 65; refine (l00In_any _ _ _ _).mono ?_; rintro e w9 ⟨rfl, rfl⟩)
        refine bodyPost_ret (v := .tuple #[.agg #[.string { data := #[] }, .int .i64 0, .int .i64 0, .int .i64 0, .int .i64 0, .int .i64 0], .int .i64 2]) (by simp [results, Try.results43, go_sem, bz0, bz1, bz2, bz3, bz4, bz5]) rfl ?_
        exact ⟨retG _ _ _ _ _ _ _ _ hc2.out (by decide), (Below.setCell (Below.setCell (Below.setCell (Below.setCell (Below.setCell (Below.setCell HW (by simp) _) (by simp) _) (by simp) _) (by simp) _) (by simp) _) (by simp) _)⟩
      have hg := inR_true.1 h2
      have hg3 : gi = 1 ∨ gi = 2 ∨ gi = 3 := by omega
      have hle' := Lib.hid (show ¬ 100 < zs.length by rw [hlen.out]; exact h3)
      rcases hg3 with rfl | rfl | rfl
      · have hb1 : bAt 1 1 zs b = b + total zs := by simp [bAt]
        have hb2 : bAt 2 1 zs i = i := by simp [bAt]
        have hb3 : bAt 3 1 zs h = h := by simp [bAt]
        have E := Lib.hid (show buildC s l b i h p 1 zs = if lastOk s l (b + total zs) i h p = false then 5 else 0 by simp [buildC, h1'.out, hle'.out, hout, hb1, hb2, hb3, show inR 1 1 3 = true from rfl])
        have e1 := Lib.hid hb1
        have e2 := Lib.hid hb2
        have e3 := Lib.hid hb3
        clear hb1 hb2 hb3 hg
        cases h5 : lastOk s l (b + total zs) i h p
        · go_wp2_with (go_at_call 65; refine (l00In_any _ _ _ _).mono ?_; rintro e w9 ⟨rfl, rfl⟩)
          refine (l04One_any _ _ _ _ _ _ _ hs).mono ?_
          rintro e w3 ⟨rfl, hb3⟩
          have HW3 := (HW.setCell (p := ⟨w.heap.size, 2, none⟩) (Nat.le_refl _) _).trans (hb3.mono (by simpa using HW.size))
          have BX3 := (BX.set 2 (.int .i64 ((b + total zs)))).below hb3
          have BZ3 := (BZ.keep w.heap.size 2 (.int .i64 ((b + total zs))) (by omega)).below hb3
          clear bx0 bx1 bx2 bx3 bx4 bx5 bz0 bz1 bz2 bz3 bz4 bz5 fx fz lx lz
          clear BX BZ
          have BX := BX3
          have BZ := BZ3
          clear BX3 BZ3
          have bx0 : w3.cell? ⟨w.heap.size, 0, none⟩ = some (.string s) := BX.cell 0
          have bx1 : w3.cell? ⟨w.heap.size, 1, none⟩ = some (.int .i64 (l)) := BX.cell 1
          have bx2 : w3.cell? ⟨w.heap.size, 2, none⟩ = some (.int .i64 ((b + total zs))) := BX.cell 2
          have bx3 : w3.cell? ⟨w.heap.size, 3, none⟩ = some (.int .i64 (i)) := BX.cell 3
          have bx4 : w3.cell? ⟨w.heap.size, 4, none⟩ = some (.int .i64 (h)) := BX.cell 4
          have bx5 : w3.cell? ⟨w.heap.size, 5, none⟩ = some (.int .i64 (p)) := BX.cell 5
          have bz0 : w3.cell? ⟨w.heap.size + 1, 0, none⟩ = some (.string { data := #[] }) := BZ.cell 0
          have bz1 : w3.cell? ⟨w.heap.size + 1, 1, none⟩ = some (.int .i64 0) := BZ.cell 1
          have bz2 : w3.cell? ⟨w.heap.size + 1, 2, none⟩ = some (.int .i64 0) := BZ.cell 2
          have bz3 : w3.cell? ⟨w.heap.size + 1, 3, none⟩ = some (.int .i64 0) := BZ.cell 3
          have bz4 : w3.cell? ⟨w.heap.size + 1, 4, none⟩ = some (.int .i64 0) := BZ.cell 4
          have bz5 : w3.cell? ⟨w.heap.size + 1, 5, none⟩ = some (.int .i64 0) := BZ.cell 5
          have fx := BX.frozen
          have fz := BZ.frozen
          have lz := BZ.lt
          have lx := BX.lt
          go_wp2_with fail
          refine bodyPost_ret (v := .tuple #[.agg #[.string { data := #[] }, .int .i64 0, .int .i64 0, .int .i64 0, .int .i64 0, .int .i64 0], .int .i64 5]) (by simp [results, Try.results43, go_sem, bz0, bz1, bz2, bz3, bz4, bz5]) rfl ?_
          exact ⟨retG _ _ _ _ _ _ _ _ (by rw [E.out, h5]; rfl) (by decide), (Below.setCell (Below.setCell (Below.setCell (Below.setCell (Below.setCell (Below.setCell HW3 (by simp) _) (by simp) _) (by simp) _) (by simp) _) (by simp) _) (by simp) _)⟩
        · go_wp2_with (go_at_call 65; refine (l00In_any _ _ _ _).mono ?_; rintro e w9 ⟨rfl, rfl⟩)
          refine (l04One_any _ _ _ _ _ _ _ hs).mono ?_
          rintro e w3 ⟨rfl, hb3⟩
          have HW3 := (HW.setCell (p := ⟨w.heap.size, 2, none⟩) (Nat.le_refl _) _).trans (hb3.mono (by simpa using HW.size))
          have BX3 := (BX.set 2 (.int .i64 ((b + total zs)))).below hb3
          have BZ3 := (BZ.keep w.heap.size 2 (.int .i64 ((b + total zs))) (by omega)).below hb3
          clear bx0 bx1 bx2 bx3 bx4 bx5 bz0 bz1 bz2 bz3 bz4 bz5 fx fz lx lz
          clear BX BZ
          have BX := BX3
          have BZ := BZ3
          clear BX3 BZ3
          have bx0 : w3.cell? ⟨w.heap.size, 0, none⟩ = some (.string s) := BX.cell 0
          have bx1 : w3.cell? ⟨w.heap.size, 1, none⟩ = some (.int .i64 (l)) := BX.cell 1
          have bx2 : w3.cell? ⟨w.heap.size, 2, none⟩ = some (.int .i64 ((b + total zs))) := BX.cell 2
          have bx3 : w3.cell? ⟨w.heap.size, 3, none⟩ = some (.int .i64 (i)) := BX.cell 3
          have bx4 : w3.cell? ⟨w.heap.size, 4, none⟩ = some (.int .i64 (h)) := BX.cell 4
          have bx5 : w3.cell? ⟨w.heap.size, 5, none⟩ = some (.int .i64 (p)) := BX.cell 5
          have bz0 : w3.cell? ⟨w.heap.size + 1, 0, none⟩ = some (.string { data := #[] }) := BZ.cell 0
          have bz1 : w3.cell? ⟨w.heap.size + 1, 1, none⟩ = some (.int .i64 0) := BZ.cell 1
          have bz2 : w3.cell? ⟨w.heap.size + 1, 2, none⟩ = some (.int .i64 0) := BZ.cell 2
          have bz3 : w3.cell? ⟨w.heap.size + 1, 3, none⟩ = some (.int .i64 0) := BZ.cell 3
          have bz4 : w3.cell? ⟨w.heap.size + 1, 4, none⟩ = some (.int .i64 0) := BZ.cell 4
          have bz5 : w3.cell? ⟨w.heap.size + 1, 5, none⟩ = some (.int .i64 0) := BZ.cell 5
          have fx := BX.frozen
          have fz := BZ.frozen
          have lz := BZ.lt
          have lx := BX.lt
          go_wp2_with fail
          refine bodyPost_ret (v := .tuple #[.agg #[.string s, .int .i64 l, .int .i64 (b + total zs), .int .i64 i, .int .i64 h, .int .i64 p], .int .i64 0]) (by simp [results, Try.results43, go_sem, bz0, bz1, bz2, bz3, bz4, bz5]) rfl ?_
          exact ⟨(by rw [e1.out, e2.out, e3.out]; exact retG0 _ _ _ _ _ _ _ (by rw [E.out, h5]; rfl)), (Below.setCell (Below.setCell (Below.setCell (Below.setCell (Below.setCell (Below.setCell HW3 (by simp) _) (by simp) _) (by simp) _) (by simp) _) (by simp) _) (by simp) _)⟩
      · have hb1 : bAt 1 2 zs b = b := by simp [bAt]
        have hb2 : bAt 2 2 zs i = i + total zs := by simp [bAt]
        have hb3 : bAt 3 2 zs h = h := by simp [bAt]
        have E := Lib.hid (show buildC s l b i h p 2 zs = if lastOk s l b (i + total zs) h p = false then 5 else 0 by simp [buildC, h1'.out, hle'.out, hout, hb1, hb2, hb3, show inR 2 1 3 = true from rfl])
        have e1 := Lib.hid hb1
        have e2 := Lib.hid hb2
        have e3 := Lib.hid hb3
        clear hb1 hb2 hb3 hg
        cases h5 : lastOk s l b (i + total zs) h p
        · go_wp2_with (go_at_call 65; refine (l00In_any _ _ _ _).mono ?_; rintro e w9 ⟨rfl, rfl⟩)
          refine (l04One_any _ _ _ _ _ _ _ hs).mono ?_
          rintro e w3 ⟨rfl, hb3⟩
          have HW3 := (HW.setCell (p := ⟨w.heap.size, 3, none⟩) (Nat.le_refl _) _).trans (hb3.mono (by simpa using HW.size))
          have BX3 := (BX.set 3 (.int .i64 ((i + total zs)))).below hb3
          have BZ3 := (BZ.keep w.heap.size 3 (.int .i64 ((i + total zs))) (by omega)).below hb3
          clear bx0 bx1 bx2 bx3 bx4 bx5 bz0 bz1 bz2 bz3 bz4 bz5 fx fz lx lz
          clear BX BZ
          have BX := BX3
          have BZ := BZ3
          clear BX3 BZ3
          have bx0 : w3.cell? ⟨w.heap.size, 0, none⟩ = some (.string s) := BX.cell 0
          have bx1 : w3.cell? ⟨w.heap.size, 1, none⟩ = some (.int .i64 (l)) := BX.cell 1
          have bx2 : w3.cell? ⟨w.heap.size, 2, none⟩ = some (.int .i64 (b)) := BX.cell 2
          have bx3 : w3.cell? ⟨w.heap.size, 3, none⟩ = some (.int .i64 ((i + total zs))) := BX.cell 3
          have bx4 : w3.cell? ⟨w.heap.size, 4, none⟩ = some (.int .i64 (h)) := BX.cell 4
          have bx5 : w3.cell? ⟨w.heap.size, 5, none⟩ = some (.int .i64 (p)) := BX.cell 5
          have bz0 : w3.cell? ⟨w.heap.size + 1, 0, none⟩ = some (.string { data := #[] }) := BZ.cell 0
          have bz1 : w3.cell? ⟨w.heap.size + 1, 1, none⟩ = some (.int .i64 0) := BZ.cell 1
          have bz2 : w3.cell? ⟨w.heap.size + 1, 2, none⟩ = some (.int .i64 0) := BZ.cell 2
          have bz3 : w3.cell? ⟨w.heap.size + 1, 3, none⟩ = some (.int .i64 0) := BZ.cell 3
          have bz4 : w3.cell? ⟨w.heap.size + 1, 4, none⟩ = some (.int .i64 0) := BZ.cell 4
          have bz5 : w3.cell? ⟨w.heap.size + 1, 5, none⟩ = some (.int .i64 0) := BZ.cell 5
          have fx := BX.frozen
          have fz := BZ.frozen
          have lz := BZ.lt
          have lx := BX.lt
          go_wp2_with fail
          refine bodyPost_ret (v := .tuple #[.agg #[.string { data := #[] }, .int .i64 0, .int .i64 0, .int .i64 0, .int .i64 0, .int .i64 0], .int .i64 5]) (by simp [results, Try.results43, go_sem, bz0, bz1, bz2, bz3, bz4, bz5]) rfl ?_
          exact ⟨retG _ _ _ _ _ _ _ _ (by rw [E.out, h5]; rfl) (by decide), (Below.setCell (Below.setCell (Below.setCell (Below.setCell (Below.setCell (Below.setCell HW3 (by simp) _) (by simp) _) (by simp) _) (by simp) _) (by simp) _) (by simp) _)⟩
        · go_wp2_with (go_at_call 65; refine (l00In_any _ _ _ _).mono ?_; rintro e w9 ⟨rfl, rfl⟩)
          refine (l04One_any _ _ _ _ _ _ _ hs).mono ?_
          rintro e w3 ⟨rfl, hb3⟩
          have HW3 := (HW.setCell (p := ⟨w.heap.size, 3, none⟩) (Nat.le_refl _) _).trans (hb3.mono (by simpa using HW.size))
          have BX3 := (BX.set 3 (.int .i64 ((i + total zs)))).below hb3
          have BZ3 := (BZ.keep w.heap.size 3 (.int .i64 ((i + total zs))) (by omega)).below hb3
          clear bx0 bx1 bx2 bx3 bx4 bx5 bz0 bz1 bz2 bz3 bz4 bz5 fx fz lx lz
          clear BX BZ
          have BX := BX3
          have BZ := BZ3
          clear BX3 BZ3
          have bx0 : w3.cell? ⟨w.heap.size, 0, none⟩ = some (.string s) := BX.cell 0
          have bx1 : w3.cell? ⟨w.heap.size, 1, none⟩ = some (.int .i64 (l)) := BX.cell 1
          have bx2 : w3.cell? ⟨w.heap.size, 2, none⟩ = some (.int .i64 (b)) := BX.cell 2
          have bx3 : w3.cell? ⟨w.heap.size, 3, none⟩ = some (.int .i64 ((i + total zs))) := BX.cell 3
          have bx4 : w3.cell? ⟨w.heap.size, 4, none⟩ = some (.int .i64 (h)) := BX.cell 4
          have bx5 : w3.cell? ⟨w.heap.size, 5, none⟩ = some (.int .i64 (p)) := BX.cell 5
          have bz0 : w3.cell? ⟨w.heap.size + 1, 0, none⟩ = some (.string { data := #[] }) := BZ.cell 0
          have bz1 : w3.cell? ⟨w.heap.size + 1, 1, none⟩ = some (.int .i64 0) := BZ.cell 1
          have bz2 : w3.cell? ⟨w.heap.size + 1, 2, none⟩ = some (.int .i64 0) := BZ.cell 2
          have bz3 : w3.cell? ⟨w.heap.size + 1, 3, none⟩ = some (.int .i64 0) := BZ.cell 3
          have bz4 : w3.cell? ⟨w.heap.size + 1, 4, none⟩ = some (.int .i64 0) := BZ.cell 4
          have bz5 : w3.cell? ⟨w.heap.size + 1, 5, none⟩ = some (.int .i64 0) := BZ.cell 5
          have fx := BX.frozen
          have fz := BZ.frozen
          have lz := BZ.lt
          have lx := BX.lt
          go_wp2_with fail
          refine bodyPost_ret (v := .tuple #[.agg #[.string s, .int .i64 l, .int .i64 b, .int .i64 (i + total zs), .int .i64 h, .int .i64 p], .int .i64 0]) (by simp [results, Try.results43, go_sem, bz0, bz1, bz2, bz3, bz4, bz5]) rfl ?_
          exact ⟨(by rw [e1.out, e2.out, e3.out]; exact retG0 _ _ _ _ _ _ _ (by rw [E.out, h5]; rfl)), (Below.setCell (Below.setCell (Below.setCell (Below.setCell (Below.setCell (Below.setCell HW3 (by simp) _) (by simp) _) (by simp) _) (by simp) _) (by simp) _) (by simp) _)⟩
      · have hb1 : bAt 1 3 zs b = b := by simp [bAt]
        have hb2 : bAt 2 3 zs i = i := by simp [bAt]
        have hb3 : bAt 3 3 zs h = h + total zs := by simp [bAt]
        have E := Lib.hid (show buildC s l b i h p 3 zs = if lastOk s l b i (h + total zs) p = false then 5 else 0 by simp [buildC, h1'.out, hle'.out, hout, hb1, hb2, hb3, show inR 3 1 3 = true from rfl])
        have e1 := Lib.hid hb1
        have e2 := Lib.hid hb2
        have e3 := Lib.hid hb3
        clear hb1 hb2 hb3 hg
        cases h5 : lastOk s l b i (h + total zs) p
        · go_wp2_with (go_at_call 65; refine (l00In_any _ _ _ _).mono ?_; rintro e w9 ⟨rfl, rfl⟩)
          refine (l04One_any _ _ _ _ _ _ _ hs).mono ?_
          rintro e w3 ⟨rfl, hb3⟩
          have HW3 := (HW.setCell (p := ⟨w.heap.size, 4, none⟩) (Nat.le_refl _) _).trans (hb3.mono (by simpa using HW.size))
          have BX3 := (BX.set 4 (.int .i64 ((h + total zs)))).below hb3
          have BZ3 := (BZ.keep w.heap.size 4 (.int .i64 ((h + total zs))) (by omega)).below hb3
          clear bx0 bx1 bx2 bx3 bx4 bx5 bz0 bz1 bz2 bz3 bz4 bz5 fx fz lx lz
          clear BX BZ
          have BX := BX3
          have BZ := BZ3
          clear BX3 BZ3
          have bx0 : w3.cell? ⟨w.heap.size, 0, none⟩ = some (.string s) := BX.cell 0
          have bx1 : w3.cell? ⟨w.heap.size, 1, none⟩ = some (.int .i64 (l)) := BX.cell 1
          have bx2 : w3.cell? ⟨w.heap.size, 2, none⟩ = some (.int .i64 (b)) := BX.cell 2
          have bx3 : w3.cell? ⟨w.heap.size, 3, none⟩ = some (.int .i64 (i)) := BX.cell 3
          have bx4 : w3.cell? ⟨w.heap.size, 4, none⟩ = some (.int .i64 ((h + total zs))) := BX.cell 4
          have bx5 : w3.cell? ⟨w.heap.size, 5, none⟩ = some (.int .i64 (p)) := BX.cell 5
          have bz0 : w3.cell? ⟨w.heap.size + 1, 0, none⟩ = some (.string { data := #[] }) := BZ.cell 0
          have bz1 : w3.cell? ⟨w.heap.size + 1, 1, none⟩ = some (.int .i64 0) := BZ.cell 1
          have bz2 : w3.cell? ⟨w.heap.size + 1, 2, none⟩ = some (.int .i64 0) := BZ.cell 2
          have bz3 : w3.cell? ⟨w.heap.size + 1, 3, none⟩ = some (.int .i64 0) := BZ.cell 3
          have bz4 : w3.cell? ⟨w.heap.size + 1, 4, none⟩ = some (.int .i64 0) := BZ.cell 4
          have bz5 : w3.cell? ⟨w.heap.size + 1, 5, none⟩ = some (.int .i64 0) := BZ.cell 5
          have fx := BX.frozen
          have fz := BZ.frozen
          have lz := BZ.lt
          have lx := BX.lt
          go_wp2_with fail
          refine bodyPost_ret (v := .tuple #[.agg #[.string { data := #[] }, .int .i64 0, .int .i64 0, .int .i64 0, .int .i64 0, .int .i64 0], .int .i64 5]) (by simp [results, Try.results43, go_sem, bz0, bz1, bz2, bz3, bz4, bz5]) rfl ?_
          exact ⟨retG _ _ _ _ _ _ _ _ (by rw [E.out, h5]; rfl) (by decide), (Below.setCell (Below.setCell (Below.setCell (Below.setCell (Below.setCell (Below.setCell HW3 (by simp) _) (by simp) _) (by simp) _) (by simp) _) (by simp) _) (by simp) _)⟩
        · go_wp2_with (go_at_call 65; refine (l00In_any _ _ _ _).mono ?_; rintro e w9 ⟨rfl, rfl⟩)
          refine (l04One_any _ _ _ _ _ _ _ hs).mono ?_
          rintro e w3 ⟨rfl, hb3⟩
          have HW3 := (HW.setCell (p := ⟨w.heap.size, 4, none⟩) (Nat.le_refl _) _).trans (hb3.mono (by simpa using HW.size))
          have BX3 := (BX.set 4 (.int .i64 ((h + total zs)))).below hb3
          have BZ3 := (BZ.keep w.heap.size 4 (.int .i64 ((h + total zs))) (by omega)).below hb3
          clear bx0 bx1 bx2 bx3 bx4 bx5 bz0 bz1 bz2 bz3 bz4 bz5 fx fz lx lz
          clear BX BZ
          have BX := BX3
          have BZ := BZ3
          clear BX3 BZ3
          have bx0 : w3.cell? ⟨w.heap.size, 0, none⟩ = some (.string s) := BX.cell 0
          have bx1 : w3.cell? ⟨w.heap.size, 1, none⟩ = some (.int .i64 (l)) := BX.cell 1
          have bx2 : w3.cell? ⟨w.heap.size, 2, none⟩ = some (.int .i64 (b)) := BX.cell 2
          have bx3 : w3.cell? ⟨w.heap.size, 3, none⟩ = some (.int .i64 (i)) := BX.cell 3
          have bx4 : w3.cell? ⟨w.heap.size, 4, none⟩ = some (.int .i64 ((h + total zs))) := BX.cell 4
          have bx5 : w3.cell? ⟨w.heap.size, 5, none⟩ = some (.int .i64 (p)) := BX.cell 5
          have bz0 : w3.cell? ⟨w.heap.size + 1, 0, none⟩ = some (.string { data := #[] }) := BZ.cell 0
          have bz1 : w3.cell? ⟨w.heap.size + 1, 1, none⟩ = some (.int .i64 0) := BZ.cell 1
          have bz2 : w3.cell? ⟨w.heap.size + 1, 2, none⟩ = some (.int .i64 0) := BZ.cell 2
          have bz3 : w3.cell? ⟨w.heap.size + 1, 3, none⟩ = some (.int .i64 0) := BZ.cell 3
          have bz4 : w3.cell? ⟨w.heap.size + 1, 4, none⟩ = some (.int .i64 0) := BZ.cell 4
          have bz5 : w3.cell? ⟨w.heap.size + 1, 5, none⟩ = some (.int .i64 0) := BZ.cell 5
          have fx := BX.frozen
          have fz := BZ.frozen
          have lz := BZ.lt
          have lx := BX.lt
          go_wp2_with fail
          refine bodyPost_ret (v := .tuple #[.agg #[.string s, .int .i64 l, .int .i64 b, .int .i64 i, .int .i64 (h + total zs), .int .i64 p], .int .i64 0]) (by simp [results, Try.results43, go_sem, bz0, bz1, bz2, bz3, bz4, bz5]) rfl ?_
          exact ⟨(by rw [e1.out, e2.out, e3.out]; exact retG0 _ _ _ _ _ _ _ (by rw [E.out, h5]; rfl)), (Below.setCell (Below.setCell (Below.setCell (Below.setCell (Below.setCell (Below.setCell HW3 (by simp) _) (by simp) _) (by simp) _) (by simp) _) (by simp) _) (by simp) _)⟩
end Go.Proofs.Ytgkkfofjaealoaa
