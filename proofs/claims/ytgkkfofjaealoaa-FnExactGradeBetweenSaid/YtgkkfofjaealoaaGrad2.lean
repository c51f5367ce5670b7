/-
  GradeLast of the program and of the reference; names are any strings that Go can hold.
-/
import Derived.Test.YtgkkfofjaealoaaGrad
namespace Go.Proofs.Ytgkkfofjaealoaa
open Go.RowKit
set_option maxHeartbeats 1600000

noncomputable def gradedC (s : ByteArray) (l b i h p ga gb gc gd ge : Int) (t : Int) : Int :=
  if lastOk s l b i h p = false then 1 else if gradeOk ga gb gc gd ge = false then 1 else if inR t (-30) 30 = false then 2 else if lastOk s (grow1 l ga t) (grow1 b gb t) (grow1 i gc t) (grow1 h gd t) (grow1 p ge t) = false then 5 else 0
def gStr (c : Int) (s : ByteArray) : ByteArray := if c = 0 then s else { data := #[] }
def gNum (c x : Int) : Int := if c = 0 then x else 0
theorem retG (c k : Int) (s : ByteArray) (x1 x2 x3 x4 x5 : Int) (hc : c = k) (hk : k ≠ 0) :
    Ending.returned (.tuple #[.agg #[.string { data := #[] }, .int .i64 0, .int .i64 0, .int .i64 0, .int .i64 0, .int .i64 0], .int .i64 k]) = .returned (.tuple #[.agg #[.string (gStr c s), .int .i64 (gNum c x1), .int .i64 (gNum c x2), .int .i64 (gNum c x3), .int .i64 (gNum c x4), .int .i64 (gNum c x5)], .int .i64 c]) := by
  subst hc; simp [gStr, gNum, hk]
theorem retG0 (c : Int) (s : ByteArray) (x1 x2 x3 x4 x5 : Int) (hc : c = 0) :
    Ending.returned (.tuple #[.agg #[.string s, .int .i64 x1, .int .i64 x2, .int .i64 x3, .int .i64 x4, .int .i64 x5], .int .i64 0]) = .returned (.tuple #[.agg #[.string (gStr c s), .int .i64 (gNum c x1), .int .i64 (gNum c x2), .int .i64 (gNum c x3), .int .i64 (gNum c x4), .int .i64 (gNum c x5)], .int .i64 c]) := by
  subst hc; simp [gStr, gNum]
theorem isSteps_any (n : Int) (w : World) :
    Calls Try.prog 75 #[.int .i64 n] w fun e w' => e = .returned (.bool (inR n (-30) 30)) ∧ w = w' := by
  go_enter Try.func75, Try.ntmps75
  go_wp2_with (go_at_call 68; refine (within_any _ _ _ _).mono ?_; rintro e w' ⟨rfl, rfl⟩)
  go_ret
  exact ⟨rfl, rfl⟩
theorem l05Steps_any (n : Int) (w : World) :
    Calls Try.prog 73 #[.int .i64 n] w fun e w' => e = .returned (.bool (inR n (-30) 30)) ∧ w = w' := by
  go_enter Try.func73, Try.ntmps73
  go_wp2_with (go_at_call 65; refine (l00In_any _ _ _ _).mono ?_; rintro e w' ⟨rfl, rfl⟩)
  go_ret
  exact ⟨rfl, rfl⟩
set_option maxRecDepth 100000 in
theorem GradeLast_any (s : ByteArray) (l b i h p ga gb gc gd ge : Int) (t : Int) (w : World) (hs : s.size ≤ maxLen) :
    Calls Try.prog 35 #[.agg #[.string s, .int .i64 l, .int .i64 b, .int .i64 i, .int .i64 h, .int .i64 p], .agg #[.int .i64 ga, .int .i64 gb, .int .i64 gc, .int .i64 gd, .int .i64 ge], .int .i64 t] w fun e w' => e = .returned (.tuple #[.agg #[.string (gStr (gradedC s l b i h p ga gb gc gd ge t) s), .int .i64 (gNum (gradedC s l b i h p ga gb gc gd ge t) (grow1 l ga t)), .int .i64 (gNum (gradedC s l b i h p ga gb gc gd ge t) (grow1 b gb t)), .int .i64 (gNum (gradedC s l b i h p ga gb gc gd ge t) (grow1 i gc t)), .int .i64 (gNum (gradedC s l b i h p ga gb gc gd ge t) (grow1 h gd t)), .int .i64 (gNum (gradedC s l b i h p ga gb gc gd ge t) (grow1 p ge t))], .int .i64 (gradedC s l b i h p ga gb gc gd ge t)]) ∧ Below w.heap.size w w' := by
  cases h1 : lastOk s l b i h p
  · go_enter Try.func35, Try.ntmps35
    go_wp2_with fail
    refine (validLast_any _ _ _ _ _ _ _ hs).mono ?_
    rintro e w1 ⟨rfl, H1⟩
    obtain ⟨hc, hf⟩ := bcell H1
    have c0 : w1.cell? ⟨w.heap.size + 1 + 1, 0, none⟩ = some (.string { data := #[] }) := by rw [hc _ _ (by simp)]; exact (Blk.new2 w _ _ _ _).cell 0
    have f0 : w1.frozen? ⟨w.heap.size + 1 + 1, 0, none⟩ = false := by rw [hf _ _ (by simp)]; exact (Blk.new2 w _ _ _ _).frozen 0
    have c1 : w1.cell? ⟨w.heap.size + 1 + 1, 1, none⟩ = some (.int .i64 0) := by rw [hc _ _ (by simp)]; exact (Blk.new2 w _ _ _ _).cell 1
    have f1 : w1.frozen? ⟨w.heap.size + 1 + 1, 1, none⟩ = false := by rw [hf _ _ (by simp)]; exact (Blk.new2 w _ _ _ _).frozen 1
    have c2 : w1.cell? ⟨w.heap.size + 1 + 1, 2, none⟩ = some (.int .i64 0) := by rw [hc _ _ (by simp)]; exact (Blk.new2 w _ _ _ _).cell 2
    have f2 : w1.frozen? ⟨w.heap.size + 1 + 1, 2, none⟩ = false := by rw [hf _ _ (by simp)]; exact (Blk.new2 w _ _ _ _).frozen 2
    have c3 : w1.cell? ⟨w.heap.size + 1 + 1, 3, none⟩ = some (.int .i64 0) := by rw [hc _ _ (by simp)]; exact (Blk.new2 w _ _ _ _).cell 3
    have f3 : w1.frozen? ⟨w.heap.size + 1 + 1, 3, none⟩ = false := by rw [hf _ _ (by simp)]; exact (Blk.new2 w _ _ _ _).frozen 3
    have c4 : w1.cell? ⟨w.heap.size + 1 + 1, 4, none⟩ = some (.int .i64 0) := by rw [hc _ _ (by simp)]; exact (Blk.new2 w _ _ _ _).cell 4
    have f4 : w1.frozen? ⟨w.heap.size + 1 + 1, 4, none⟩ = false := by rw [hf _ _ (by simp)]; exact (Blk.new2 w _ _ _ _).frozen 4
    have c5 : w1.cell? ⟨w.heap.size + 1 + 1, 5, none⟩ = some (.int .i64 0) := by rw [hc _ _ (by simp)]; exact (Blk.new2 w _ _ _ _).cell 5
    have f5 : w1.frozen? ⟨w.heap.size + 1 + 1, 5, none⟩ = false := by rw [hf _ _ (by simp)]; exact (Blk.new2 w _ _ _ _).frozen 5
    go_wp2_with fail
    refine bodyPost_ret (v := .tuple #[.agg #[.string { data := #[] }, .int .i64 0, .int .i64 0, .int .i64 0, .int .i64 0, .int .i64 0], .int .i64 1]) (by simp [results, Try.results35, go_sem, c0, c1, c2, c3, c4, c5]) rfl ?_
    exact ⟨retG _ _ _ _ _ _ _ _ (by simp [gradedC, h1]) (by decide), (Below.setCell (Below.setCell (Below.setCell (Below.setCell (Below.setCell (Below.setCell (Bl.then (by go_grown) H1) (by simp; try omega) _) (by simp; try omega) _) (by simp; try omega) _) (by simp; try omega) _) (by simp; try omega) _) (by simp; try omega) _)⟩
  cases h2 : gradeOk ga gb gc gd ge
  · go_enter Try.func35, Try.ntmps35
    go_wp2_with fail
    refine (validLast_any _ _ _ _ _ _ _ hs).mono ?_
    rintro e w1 ⟨rfl, H1⟩
    obtain ⟨hc, hf⟩ := bcell H1
    go_wp2_with fail
    refine (ValidGrade_any _ _ _ _ _ _).mono ?_
    rintro e w2 ⟨rfl, hb⟩
    have H2 := Bl.then H1 hb
    clear hc hf hb
    obtain ⟨hc, hf⟩ := bcell H2
    have c0 : w2.cell? ⟨w.heap.size + 1 + 1, 0, none⟩ = some (.string { data := #[] }) := by rw [hc _ _ (by simp)]; exact (Blk.new2 w _ _ _ _).cell 0
    have f0 : w2.frozen? ⟨w.heap.size + 1 + 1, 0, none⟩ = false := by rw [hf _ _ (by simp)]; exact (Blk.new2 w _ _ _ _).frozen 0
    have c1 : w2.cell? ⟨w.heap.size + 1 + 1, 1, none⟩ = some (.int .i64 0) := by rw [hc _ _ (by simp)]; exact (Blk.new2 w _ _ _ _).cell 1
    have f1 : w2.frozen? ⟨w.heap.size + 1 + 1, 1, none⟩ = false := by rw [hf _ _ (by simp)]; exact (Blk.new2 w _ _ _ _).frozen 1
    have c2 : w2.cell? ⟨w.heap.size + 1 + 1, 2, none⟩ = some (.int .i64 0) := by rw [hc _ _ (by simp)]; exact (Blk.new2 w _ _ _ _).cell 2
    have f2 : w2.frozen? ⟨w.heap.size + 1 + 1, 2, none⟩ = false := by rw [hf _ _ (by simp)]; exact (Blk.new2 w _ _ _ _).frozen 2
    have c3 : w2.cell? ⟨w.heap.size + 1 + 1, 3, none⟩ = some (.int .i64 0) := by rw [hc _ _ (by simp)]; exact (Blk.new2 w _ _ _ _).cell 3
    have f3 : w2.frozen? ⟨w.heap.size + 1 + 1, 3, none⟩ = false := by rw [hf _ _ (by simp)]; exact (Blk.new2 w _ _ _ _).frozen 3
    have c4 : w2.cell? ⟨w.heap.size + 1 + 1, 4, none⟩ = some (.int .i64 0) := by rw [hc _ _ (by simp)]; exact (Blk.new2 w _ _ _ _).cell 4
    have f4 : w2.frozen? ⟨w.heap.size + 1 + 1, 4, none⟩ = false := by rw [hf _ _ (by simp)]; exact (Blk.new2 w _ _ _ _).frozen 4
    have c5 : w2.cell? ⟨w.heap.size + 1 + 1, 5, none⟩ = some (.int .i64 0) := by rw [hc _ _ (by simp)]; exact (Blk.new2 w _ _ _ _).cell 5
    have f5 : w2.frozen? ⟨w.heap.size + 1 + 1, 5, none⟩ = false := by rw [hf _ _ (by simp)]; exact (Blk.new2 w _ _ _ _).frozen 5
    go_wp2_with fail
    refine bodyPost_ret (v := .tuple #[.agg #[.string { data := #[] }, .int .i64 0, .int .i64 0, .int .i64 0, .int .i64 0, .int .i64 0], .int .i64 1]) (by simp [results, Try.results35, go_sem, c0, c1, c2, c3, c4, c5]) rfl ?_
    exact ⟨retG _ _ _ _ _ _ _ _ (by simp [gradedC, h1, h2]) (by decide), (Below.setCell (Below.setCell (Below.setCell (Below.setCell (Below.setCell (Below.setCell (Bl.then (by go_grown) H2) (by simp; try omega) _) (by simp; try omega) _) (by simp; try omega) _) (by simp; try omega) _) (by simp; try omega) _) (by simp; try omega) _)⟩
  cases h3 : inR t (-30) 30
  · go_enter Try.func35, Try.ntmps35
    go_wp2_with fail
    refine (validLast_any _ _ _ _ _ _ _ hs).mono ?_
    rintro e w1 ⟨rfl, H1⟩
    obtain ⟨hc, hf⟩ := bcell H1
    go_wp2_with fail
    refine (ValidGrade_any _ _ _ _ _ _).mono ?_
    rintro e w2 ⟨rfl, hb⟩
    have H2 := Bl.then H1 hb
    clear hc hf hb
    obtain ⟨hc, hf⟩ := bcell H2
    have c0 : w2.cell? ⟨w.heap.size + 1 + 1, 0, none⟩ = some (.string { data := #[] }) := by rw [hc _ _ (by simp)]; exact (Blk.new2 w _ _ _ _).cell 0
    have f0 : w2.frozen? ⟨w.heap.size + 1 + 1, 0, none⟩ = false := by rw [hf _ _ (by simp)]; exact (Blk.new2 w _ _ _ _).frozen 0
    have c1 : w2.cell? ⟨w.heap.size + 1 + 1, 1, none⟩ = some (.int .i64 0) := by rw [hc _ _ (by simp)]; exact (Blk.new2 w _ _ _ _).cell 1
    have f1 : w2.frozen? ⟨w.heap.size + 1 + 1, 1, none⟩ = false := by rw [hf _ _ (by simp)]; exact (Blk.new2 w _ _ _ _).frozen 1
    have c2 : w2.cell? ⟨w.heap.size + 1 + 1, 2, none⟩ = some (.int .i64 0) := by rw [hc _ _ (by simp)]; exact (Blk.new2 w _ _ _ _).cell 2
    have f2 : w2.frozen? ⟨w.heap.size + 1 + 1, 2, none⟩ = false := by rw [hf _ _ (by simp)]; exact (Blk.new2 w _ _ _ _).frozen 2
    have c3 : w2.cell? ⟨w.heap.size + 1 + 1, 3, none⟩ = some (.int .i64 0) := by rw [hc _ _ (by simp)]; exact (Blk.new2 w _ _ _ _).cell 3
    have f3 : w2.frozen? ⟨w.heap.size + 1 + 1, 3, none⟩ = false := by rw [hf _ _ (by simp)]; exact (Blk.new2 w _ _ _ _).frozen 3
    have c4 : w2.cell? ⟨w.heap.size + 1 + 1, 4, none⟩ = some (.int .i64 0) := by rw [hc _ _ (by simp)]; exact (Blk.new2 w _ _ _ _).cell 4
    have f4 : w2.frozen? ⟨w.heap.size + 1 + 1, 4, none⟩ = false := by rw [hf _ _ (by simp)]; exact (Blk.new2 w _ _ _ _).frozen 4
    have c5 : w2.cell? ⟨w.heap.size + 1 + 1, 5, none⟩ = some (.int .i64 0) := by rw [hc _ _ (by simp)]; exact (Blk.new2 w _ _ _ _).cell 5
    have f5 : w2.frozen? ⟨w.heap.size + 1 + 1, 5, none⟩ = false := by rw [hf _ _ (by simp)]; exact (Blk.new2 w _ _ _ _).frozen 5
    go_wp2_with (go_at_call 75; refine (isSteps_any _ _).mono ?_; rintro e w9 ⟨rfl, rfl⟩)
    refine bodyPost_ret (v := .tuple #[.agg #[.string { data := #[] }, .int .i64 0, .int .i64 0, .int .i64 0, .int .i64 0, .int .i64 0], .int .i64 2]) (by simp [results, Try.results35, go_sem, c0, c1, c2, c3, c4, c5]) rfl ?_
    exact ⟨retG _ _ _ _ _ _ _ _ (by simp [gradedC, h1, h2, h3]) (by decide), (Below.setCell (Below.setCell (Below.setCell (Below.setCell (Below.setCell (Below.setCell (Bl.then (by go_grown) H2) (by simp; try omega) _) (by simp; try omega) _) (by simp; try omega) _) (by simp; try omega) _) (by simp; try omega) _) (by simp; try omega) _)⟩
  have ht := inR_true.1 h3
  cases h4 : lastOk s (grow1 l ga t) (grow1 b gb t) (grow1 i gc t) (grow1 h gd t) (grow1 p ge t)
  · go_enter Try.func35, Try.ntmps35
    go_wp2_with fail
    refine (validLast_any _ _ _ _ _ _ _ hs).mono ?_
    rintro e w1 ⟨rfl, H1⟩
    obtain ⟨hc, hf⟩ := bcell H1
    go_wp2_with fail
    refine (ValidGrade_any _ _ _ _ _ _).mono ?_
    rintro e w2 ⟨rfl, hb⟩
    have H2 := Bl.then H1 hb
    clear hc hf hb
    obtain ⟨hc, hf⟩ := bcell H2
    go_wp2_with (go_at_call 75; refine (isSteps_any _ _).mono ?_; rintro e w9 ⟨rfl, rfl⟩)
    refine (gradeLast_any _ _ _ _ _ _ _ _ _ _ _ _ _ h1 h2 ht).mono ?_
    rintro e w3 ⟨rfl, hb⟩
    have H3 := Bl.then H2 hb
    clear hc hf hb
    obtain ⟨hc, hf⟩ := bcell H3
    go_wp2_with fail
    refine (validLast_any _ _ _ _ _ _ _ hs).mono ?_
    rintro e w4 ⟨rfl, hb⟩
    have H4 := Bl.then (Bl.alloc H3 _) hb
    have B8 := (Blk.new w3 _ _).below hb
    have k0 : w4.cell? ⟨w3.heap.size, 0, none⟩ = some (.string s) := B8.cell 0
    have k1 : w4.cell? ⟨w3.heap.size, 1, none⟩ = some (.int .i64 (grow1 l ga t)) := B8.cell 1
    have k2 : w4.cell? ⟨w3.heap.size, 2, none⟩ = some (.int .i64 (grow1 b gb t)) := B8.cell 2
    have k3 : w4.cell? ⟨w3.heap.size, 3, none⟩ = some (.int .i64 (grow1 i gc t)) := B8.cell 3
    have k4 : w4.cell? ⟨w3.heap.size, 4, none⟩ = some (.int .i64 (grow1 h gd t)) := B8.cell 4
    have k5 : w4.cell? ⟨w3.heap.size, 5, none⟩ = some (.int .i64 (grow1 p ge t)) := B8.cell 5
    clear hc hf hb B8
    obtain ⟨hc, hf⟩ := bcell H4
    have c0 : w4.cell? ⟨w.heap.size + 1 + 1, 0, none⟩ = some (.string { data := #[] }) := by rw [hc _ _ (by simp)]; exact (Blk.new2 w _ _ _ _).cell 0
    have f0 : w4.frozen? ⟨w.heap.size + 1 + 1, 0, none⟩ = false := by rw [hf _ _ (by simp)]; exact (Blk.new2 w _ _ _ _).frozen 0
    have c1 : w4.cell? ⟨w.heap.size + 1 + 1, 1, none⟩ = some (.int .i64 0) := by rw [hc _ _ (by simp)]; exact (Blk.new2 w _ _ _ _).cell 1
    have f1 : w4.frozen? ⟨w.heap.size + 1 + 1, 1, none⟩ = false := by rw [hf _ _ (by simp)]; exact (Blk.new2 w _ _ _ _).frozen 1
    have c2 : w4.cell? ⟨w.heap.size + 1 + 1, 2, none⟩ = some (.int .i64 0) := by rw [hc _ _ (by simp)]; exact (Blk.new2 w _ _ _ _).cell 2
    have f2 : w4.frozen? ⟨w.heap.size + 1 + 1, 2, none⟩ = false := by rw [hf _ _ (by simp)]; exact (Blk.new2 w _ _ _ _).frozen 2
    have c3 : w4.cell? ⟨w.heap.size + 1 + 1, 3, none⟩ = some (.int .i64 0) := by rw [hc _ _ (by simp)]; exact (Blk.new2 w _ _ _ _).cell 3
    have f3 : w4.frozen? ⟨w.heap.size + 1 + 1, 3, none⟩ = false := by rw [hf _ _ (by simp)]; exact (Blk.new2 w _ _ _ _).frozen 3
    have c4 : w4.cell? ⟨w.heap.size + 1 + 1, 4, none⟩ = some (.int .i64 0) := by rw [hc _ _ (by simp)]; exact (Blk.new2 w _ _ _ _).cell 4
    have f4 : w4.frozen? ⟨w.heap.size + 1 + 1, 4, none⟩ = false := by rw [hf _ _ (by simp)]; exact (Blk.new2 w _ _ _ _).frozen 4
    have c5 : w4.cell? ⟨w.heap.size + 1 + 1, 5, none⟩ = some (.int .i64 0) := by rw [hc _ _ (by simp)]; exact (Blk.new2 w _ _ _ _).cell 5
    have f5 : w4.frozen? ⟨w.heap.size + 1 + 1, 5, none⟩ = false := by rw [hf _ _ (by simp)]; exact (Blk.new2 w _ _ _ _).frozen 5
    go_wp2_with fail
    refine bodyPost_ret (v := .tuple #[.agg #[.string { data := #[] }, .int .i64 0, .int .i64 0, .int .i64 0, .int .i64 0, .int .i64 0], .int .i64 5]) (by simp [results, Try.results35, go_sem, c0, c1, c2, c3, c4, c5]) rfl ?_
    exact ⟨retG _ _ _ _ _ _ _ _ (by simp [gradedC, h1, h2, h3, h4]) (by decide), (Below.setCell (Below.setCell (Below.setCell (Below.setCell (Below.setCell (Below.setCell (Bl.then (by go_grown) H4) (by simp; try omega) _) (by simp; try omega) _) (by simp; try omega) _) (by simp; try omega) _) (by simp; try omega) _) (by simp; try omega) _)⟩
  go_enter Try.func35, Try.ntmps35
  go_wp2_with fail
  refine (validLast_any _ _ _ _ _ _ _ hs).mono ?_
  rintro e w1 ⟨rfl, H1⟩
  obtain ⟨hc, hf⟩ := bcell H1
  go_wp2_with fail
  refine (ValidGrade_any _ _ _ _ _ _).mono ?_
  rintro e w2 ⟨rfl, hb⟩
  have H2 := Bl.then H1 hb
  clear hc hf hb
  obtain ⟨hc, hf⟩ := bcell H2
  go_wp2_with (go_at_call 75; refine (isSteps_any _ _).mono ?_; rintro e w9 ⟨rfl, rfl⟩)
  refine (gradeLast_any _ _ _ _ _ _ _ _ _ _ _ _ _ h1 h2 ht).mono ?_
  rintro e w3 ⟨rfl, hb⟩
  have H3 := Bl.then H2 hb
  clear hc hf hb
  obtain ⟨hc, hf⟩ := bcell H3
  go_wp2_with fail
  refine (validLast_any _ _ _ _ _ _ _ hs).mono ?_
  rintro e w4 ⟨rfl, hb⟩
  have H4 := Bl.then (Bl.alloc H3 _) hb
  have B8 := (Blk.new w3 _ _).below hb
  have k0 : w4.cell? ⟨w3.heap.size, 0, none⟩ = some (.string s) := B8.cell 0
  have k1 : w4.cell? ⟨w3.heap.size, 1, none⟩ = some (.int .i64 (grow1 l ga t)) := B8.cell 1
  have k2 : w4.cell? ⟨w3.heap.size, 2, none⟩ = some (.int .i64 (grow1 b gb t)) := B8.cell 2
  have k3 : w4.cell? ⟨w3.heap.size, 3, none⟩ = some (.int .i64 (grow1 i gc t)) := B8.cell 3
  have k4 : w4.cell? ⟨w3.heap.size, 4, none⟩ = some (.int .i64 (grow1 h gd t)) := B8.cell 4
  have k5 : w4.cell? ⟨w3.heap.size, 5, none⟩ = some (.int .i64 (grow1 p ge t)) := B8.cell 5
  clear hc hf hb B8
  obtain ⟨hc, hf⟩ := bcell H4
  have c0 : w4.cell? ⟨w.heap.size + 1 + 1, 0, none⟩ = some (.string { data := #[] }) := by rw [hc _ _ (by simp)]; exact (Blk.new2 w _ _ _ _).cell 0
  have f0 : w4.frozen? ⟨w.heap.size + 1 + 1, 0, none⟩ = false := by rw [hf _ _ (by simp)]; exact (Blk.new2 w _ _ _ _).frozen 0
  have c1 : w4.cell? ⟨w.heap.size + 1 + 1, 1, none⟩ = some (.int .i64 0) := by rw [hc _ _ (by simp)]; exact (Blk.new2 w _ _ _ _).cell 1
  have f1 : w4.frozen? ⟨w.heap.size + 1 + 1, 1, none⟩ = false := by rw [hf _ _ (by simp)]; exact (Blk.new2 w _ _ _ _).frozen 1
  have c2 : w4.cell? ⟨w.heap.size + 1 + 1, 2, none⟩ = some (.int .i64 0) := by rw [hc _ _ (by simp)]; exact (Blk.new2 w _ _ _ _).cell 2
  have f2 : w4.frozen? ⟨w.heap.size + 1 + 1, 2, none⟩ = false := by rw [hf _ _ (by simp)]; exact (Blk.new2 w _ _ _ _).frozen 2
  have c3 : w4.cell? ⟨w.heap.size + 1 + 1, 3, none⟩ = some (.int .i64 0) := by rw [hc _ _ (by simp)]; exact (Blk.new2 w _ _ _ _).cell 3
  have f3 : w4.frozen? ⟨w.heap.size + 1 + 1, 3, none⟩ = false := by rw [hf _ _ (by simp)]; exact (Blk.new2 w _ _ _ _).frozen 3
  have c4 : w4.cell? ⟨w.heap.size + 1 + 1, 4, none⟩ = some (.int .i64 0) := by rw [hc _ _ (by simp)]; exact (Blk.new2 w _ _ _ _).cell 4
  have f4 : w4.frozen? ⟨w.heap.size + 1 + 1, 4, none⟩ = false := by rw [hf _ _ (by simp)]; exact (Blk.new2 w _ _ _ _).frozen 4
  have c5 : w4.cell? ⟨w.heap.size + 1 + 1, 5, none⟩ = some (.int .i64 0) := by rw [hc _ _ (by simp)]; exact (Blk.new2 w _ _ _ _).cell 5
  have f5 : w4.frozen? ⟨w.heap.size + 1 + 1, 5, none⟩ = false := by rw [hf _ _ (by simp)]; exact (Blk.new2 w _ _ _ _).frozen 5
  go_wp2_with fail
  refine bodyPost_ret (v := .tuple #[.agg #[.string s, .int .i64 (grow1 l ga t), .int .i64 (grow1 b gb t), .int .i64 (grow1 i gc t), .int .i64 (grow1 h gd t), .int .i64 (grow1 p ge t)], .int .i64 0]) (by simp [results, Try.results35, go_sem, c0, c1, c2, c3, c4, c5]) rfl ?_
  exact ⟨retG0 _ _ _ _ _ _ _ (by simp [gradedC, h1, h2, h3, h4]), (Below.setCell (Below.setCell (Below.setCell (Below.setCell (Below.setCell (Below.setCell (Bl.then (by go_grown) H4) (by simp; try omega) _) (by simp; try omega) _) (by simp; try omega) _) (by simp; try omega) _) (by simp; try omega) _) (by simp; try omega) _)⟩
set_option maxRecDepth 100000 in
theorem sGradeLast_any (s : ByteArray) (l b i h p ga gb gc gd ge : Int) (t : Int) (w : World) (hs : s.size ≤ maxLen) :
    Calls Try.prog 33 #[.agg #[.string s, .int .i64 l, .int .i64 b, .int .i64 i, .int .i64 h, .int .i64 p], .agg #[.int .i64 ga, .int .i64 gb, .int .i64 gc, .int .i64 gd, .int .i64 ge], .int .i64 t] w fun e w' => e = .returned (.tuple #[.agg #[.string (gStr (gradedC s l b i h p ga gb gc gd ge t) s), .int .i64 (gNum (gradedC s l b i h p ga gb gc gd ge t) (grow1 l ga t)), .int .i64 (gNum (gradedC s l b i h p ga gb gc gd ge t) (grow1 b gb t)), .int .i64 (gNum (gradedC s l b i h p ga gb gc gd ge t) (grow1 i gc t)), .int .i64 (gNum (gradedC s l b i h p ga gb gc gd ge t) (grow1 h gd t)), .int .i64 (gNum (gradedC s l b i h p ga gb gc gd ge t) (grow1 p ge t))], .int .i64 (gradedC s l b i h p ga gb gc gd ge t)]) ∧ Below w.heap.size w w' := by
  cases h1 : lastOk s l b i h p
  · go_enter Try.func33, Try.ntmps33
    go_wp2_with fail
    refine (l04One_any _ _ _ _ _ _ _ hs).mono ?_
    rintro e w1 ⟨rfl, H1⟩
    obtain ⟨hc, hf⟩ := bcell H1
    have c0 : w1.cell? ⟨w.heap.size + 1 + 1, 0, none⟩ = some (.string { data := #[] }) := by rw [hc _ _ (by simp)]; exact (Blk.new2 w _ _ _ _).cell 0
    have f0 : w1.frozen? ⟨w.heap.size + 1 + 1, 0, none⟩ = false := by rw [hf _ _ (by simp)]; exact (Blk.new2 w _ _ _ _).frozen 0
    have c1 : w1.cell? ⟨w.heap.size + 1 + 1, 1, none⟩ = some (.int .i64 0) := by rw [hc _ _ (by simp)]; exact (Blk.new2 w _ _ _ _).cell 1
    have f1 : w1.frozen? ⟨w.heap.size + 1 + 1, 1, none⟩ = false := by rw [hf _ _ (by simp)]; exact (Blk.new2 w _ _ _ _).frozen 1
    have c2 : w1.cell? ⟨w.heap.size + 1 + 1, 2, none⟩ = some (.int .i64 0) := by rw [hc _ _ (by simp)]; exact (Blk.new2 w _ _ _ _).cell 2
    have f2 : w1.frozen? ⟨w.heap.size + 1 + 1, 2, none⟩ = false := by rw [hf _ _ (by simp)]; exact (Blk.new2 w _ _ _ _).frozen 2
    have c3 : w1.cell? ⟨w.heap.size + 1 + 1, 3, none⟩ = some (.int .i64 0) := by rw [hc _ _ (by simp)]; exact (Blk.new2 w _ _ _ _).cell 3
    have f3 : w1.frozen? ⟨w.heap.size + 1 + 1, 3, none⟩ = false := by rw [hf _ _ (by simp)]; exact (Blk.new2 w _ _ _ _).frozen 3
    have c4 : w1.cell? ⟨w.heap.size + 1 + 1, 4, none⟩ = some (.int .i64 0) := by rw [hc _ _ (by simp)]; exact (Blk.new2 w _ _ _ _).cell 4
    have f4 : w1.frozen? ⟨w.heap.size + 1 + 1, 4, none⟩ = false := by rw [hf _ _ (by simp)]; exact (Blk.new2 w _ _ _ _).frozen 4
    have c5 : w1.cell? ⟨w.heap.size + 1 + 1, 5, none⟩ = some (.int .i64 0) := by rw [hc _ _ (by simp)]; exact (Blk.new2 w _ _ _ _).cell 5
    have f5 : w1.frozen? ⟨w.heap.size + 1 + 1, 5, none⟩ = false := by rw [hf _ _ (by simp)]; exact (Blk.new2 w _ _ _ _).frozen 5
    go_wp2_with fail
    refine bodyPost_ret (v := .tuple #[.agg #[.string { data := #[] }, .int .i64 0, .int .i64 0, .int .i64 0, .int .i64 0, .int .i64 0], .int .i64 1]) (by simp [results, Try.results33, go_sem, c0, c1, c2, c3, c4, c5]) rfl ?_
    exact ⟨retG _ _ _ _ _ _ _ _ (by simp [gradedC, h1]) (by decide), (Below.setCell (Below.setCell (Below.setCell (Below.setCell (Below.setCell (Below.setCell (Bl.then (by go_grown) H1) (by simp; try omega) _) (by simp; try omega) _) (by simp; try omega) _) (by simp; try omega) _) (by simp; try omega) _) (by simp; try omega) _)⟩
  cases h2 : gradeOk ga gb gc gd ge
  · go_enter Try.func33, Try.ntmps33
    go_wp2_with fail
    refine (l04One_any _ _ _ _ _ _ _ hs).mono ?_
    rintro e w1 ⟨rfl, H1⟩
    obtain ⟨hc, hf⟩ := bcell H1
    go_wp2_with fail
    refine (l05Ok_any _ _ _ _ _ _).mono ?_
    rintro e w2 ⟨rfl, hb⟩
    have H2 := Bl.then H1 hb
    clear hc hf hb
    obtain ⟨hc, hf⟩ := bcell H2
    have c0 : w2.cell? ⟨w.heap.size + 1 + 1, 0, none⟩ = some (.string { data := #[] }) := by rw [hc _ _ (by simp)]; exact (Blk.new2 w _ _ _ _).cell 0
    have f0 : w2.frozen? ⟨w.heap.size + 1 + 1, 0, none⟩ = false := by rw [hf _ _ (by simp)]; exact (Blk.new2 w _ _ _ _).frozen 0
    have c1 : w2.cell? ⟨w.heap.size + 1 + 1, 1, none⟩ = some (.int .i64 0) := by rw [hc _ _ (by simp)]; exact (Blk.new2 w _ _ _ _).cell 1
    have f1 : w2.frozen? ⟨w.heap.size + 1 + 1, 1, none⟩ = false := by rw [hf _ _ (by simp)]; exact (Blk.new2 w _ _ _ _).frozen 1
    have c2 : w2.cell? ⟨w.heap.size + 1 + 1, 2, none⟩ = some (.int .i64 0) := by rw [hc _ _ (by simp)]; exact (Blk.new2 w _ _ _ _).cell 2
    have f2 : w2.frozen? ⟨w.heap.size + 1 + 1, 2, none⟩ = false := by rw [hf _ _ (by simp)]; exact (Blk.new2 w _ _ _ _).frozen 2
    have c3 : w2.cell? ⟨w.heap.size + 1 + 1, 3, none⟩ = some (.int .i64 0) := by rw [hc _ _ (by simp)]; exact (Blk.new2 w _ _ _ _).cell 3
    have f3 : w2.frozen? ⟨w.heap.size + 1 + 1, 3, none⟩ = false := by rw [hf _ _ (by simp)]; exact (Blk.new2 w _ _ _ _).frozen 3
    have c4 : w2.cell? ⟨w.heap.size + 1 + 1, 4, none⟩ = some (.int .i64 0) := by rw [hc _ _ (by simp)]; exact (Blk.new2 w _ _ _ _).cell 4
    have f4 : w2.frozen? ⟨w.heap.size + 1 + 1, 4, none⟩ = false := by rw [hf _ _ (by simp)]; exact (Blk.new2 w _ _ _ _).frozen 4
    have c5 : w2.cell? ⟨w.heap.size + 1 + 1, 5, none⟩ = some (.int .i64 0) := by rw [hc _ _ (by simp)]; exact (Blk.new2 w _ _ _ _).cell 5
    have f5 : w2.frozen? ⟨w.heap.size + 1 + 1, 5, none⟩ = false := by rw [hf _ _ (by simp)]; exact (Blk.new2 w _ _ _ _).frozen 5
    go_wp2_with fail
    refine bodyPost_ret (v := .tuple #[.agg #[.string { data := #[] }, .int .i64 0, .int .i64 0, .int .i64 0, .int .i64 0, .int .i64 0], .int .i64 1]) (by simp [results, Try.results33, go_sem, c0, c1, c2, c3, c4, c5]) rfl ?_
    exact ⟨retG _ _ _ _ _ _ _ _ (by simp [gradedC, h1, h2]) (by decide), (Below.setCell (Below.setCell (Below.setCell (Below.setCell (Below.setCell (Below.setCell (Bl.then (by go_grown) H2) (by simp; try omega) _) (by simp; try omega) _) (by simp; try omega) _) (by simp; try omega) _) (by simp; try omega) _) (by simp; try omega) _)⟩
  cases h3 : inR t (-30) 30
  · go_enter Try.func33, Try.ntmps33
    go_wp2_with fail
    refine (l04One_any _ _ _ _ _ _ _ hs).mono ?_
    rintro e w1 ⟨rfl, H1⟩
    obtain ⟨hc, hf⟩ := bcell H1
    go_wp2_with fail
    refine (l05Ok_any _ _ _ _ _ _).mono ?_
    rintro e w2 ⟨rfl, hb⟩
    have H2 := Bl.then H1 hb
    clear hc hf hb
    obtain ⟨hc, hf⟩ := bcell H2
    have c0 : w2.cell? ⟨w.heap.size + 1 + 1, 0, none⟩ = some (.string { data := #[] }) := by rw [hc _ _ (by simp)]; exact (Blk.new2 w _ _ _ _).cell 0
    have f0 : w2.frozen? ⟨w.heap.size + 1 + 1, 0, none⟩ = false := by rw [hf _ _ (by simp)]; exact (Blk.new2 w _ _ _ _).frozen 0
    have c1 : w2.cell? ⟨w.heap.size + 1 + 1, 1, none⟩ = some (.int .i64 0) := by rw [hc _ _ (by simp)]; exact (Blk.new2 w _ _ _ _).cell 1
    have f1 : w2.frozen? ⟨w.heap.size + 1 + 1, 1, none⟩ = false := by rw [hf _ _ (by simp)]; exact (Blk.new2 w _ _ _ _).frozen 1
    have c2 : w2.cell? ⟨w.heap.size + 1 + 1, 2, none⟩ = some (.int .i64 0) := by rw [hc _ _ (by simp)]; exact (Blk.new2 w _ _ _ _).cell 2
    have f2 : w2.frozen? ⟨w.heap.size + 1 + 1, 2, none⟩ = false := by rw [hf _ _ (by simp)]; exact (Blk.new2 w _ _ _ _).frozen 2
    have c3 : w2.cell? ⟨w.heap.size + 1 + 1, 3, none⟩ = some (.int .i64 0) := by rw [hc _ _ (by simp)]; exact (Blk.new2 w _ _ _ _).cell 3
    have f3 : w2.frozen? ⟨w.heap.size + 1 + 1, 3, none⟩ = false := by rw [hf _ _ (by simp)]; exact (Blk.new2 w _ _ _ _).frozen 3
    have c4 : w2.cell? ⟨w.heap.size + 1 + 1, 4, none⟩ = some (.int .i64 0) := by rw [hc _ _ (by simp)]; exact (Blk.new2 w _ _ _ _).cell 4
    have f4 : w2.frozen? ⟨w.heap.size + 1 + 1, 4, none⟩ = false := by rw [hf _ _ (by simp)]; exact (Blk.new2 w _ _ _ _).frozen 4
    have c5 : w2.cell? ⟨w.heap.size + 1 + 1, 5, none⟩ = some (.int .i64 0) := by rw [hc _ _ (by simp)]; exact (Blk.new2 w _ _ _ _).cell 5
    have f5 : w2.frozen? ⟨w.heap.size + 1 + 1, 5, none⟩ = false := by rw [hf _ _ (by simp)]; exact (Blk.new2 w _ _ _ _).frozen 5
    go_wp2_with (go_at_call 73; refine (l05Steps_any _ _).mono ?_; rintro e w9 ⟨rfl, rfl⟩)
    refine bodyPost_ret (v := .tuple #[.agg #[.string { data := #[] }, .int .i64 0, .int .i64 0, .int .i64 0, .int .i64 0, .int .i64 0], .int .i64 2]) (by simp [results, Try.results33, go_sem, c0, c1, c2, c3, c4, c5]) rfl ?_
    exact ⟨retG _ _ _ _ _ _ _ _ (by simp [gradedC, h1, h2, h3]) (by decide), (Below.setCell (Below.setCell (Below.setCell (Below.setCell (Below.setCell (Below.setCell (Bl.then (by go_grown) H2) (by simp; try omega) _) (by simp; try omega) _) (by simp; try omega) _) (by simp; try omega) _) (by simp; try omega) _) (by simp; try omega) _)⟩
  have ht := inR_true.1 h3
  cases h4 : lastOk s (grow1 l ga t) (grow1 b gb t) (grow1 i gc t) (grow1 h gd t) (grow1 p ge t)
  · go_enter Try.func33, Try.ntmps33
    go_wp2_with fail
    refine (l04One_any _ _ _ _ _ _ _ hs).mono ?_
    rintro e w1 ⟨rfl, H1⟩
    obtain ⟨hc, hf⟩ := bcell H1
    go_wp2_with fail
    refine (l05Ok_any _ _ _ _ _ _).mono ?_
    rintro e w2 ⟨rfl, hb⟩
    have H2 := Bl.then H1 hb
    clear hc hf hb
    obtain ⟨hc, hf⟩ := bcell H2
    go_wp2_with (go_at_call 73; refine (l05Steps_any _ _).mono ?_; rintro e w9 ⟨rfl, rfl⟩)
    refine (l05Last_any _ _ _ _ _ _ _ _ _ _ _ _ _ h1 h2 ht).mono ?_
    rintro e w3 ⟨rfl, hb⟩
    have H3 := Bl.then H2 hb
    clear hc hf hb
    obtain ⟨hc, hf⟩ := bcell H3
    go_wp2_with fail
    refine (l04One_any _ _ _ _ _ _ _ hs).mono ?_
    rintro e w4 ⟨rfl, hb⟩
    have H4 := Bl.then (Bl.alloc H3 _) hb
    have B8 := (Blk.new w3 _ _).below hb
    have k0 : w4.cell? ⟨w3.heap.size, 0, none⟩ = some (.string s) := B8.cell 0
    have k1 : w4.cell? ⟨w3.heap.size, 1, none⟩ = some (.int .i64 (grow1 l ga t)) := B8.cell 1
    have k2 : w4.cell? ⟨w3.heap.size, 2, none⟩ = some (.int .i64 (grow1 b gb t)) := B8.cell 2
    have k3 : w4.cell? ⟨w3.heap.size, 3, none⟩ = some (.int .i64 (grow1 i gc t)) := B8.cell 3
    have k4 : w4.cell? ⟨w3.heap.size, 4, none⟩ = some (.int .i64 (grow1 h gd t)) := B8.cell 4
    have k5 : w4.cell? ⟨w3.heap.size, 5, none⟩ = some (.int .i64 (grow1 p ge t)) := B8.cell 5
    clear hc hf hb B8
    obtain ⟨hc, hf⟩ := bcell H4
    have c0 : w4.cell? ⟨w.heap.size + 1 + 1, 0, none⟩ = some (.string { data := #[] }) := by rw [hc _ _ (by simp)]; exact (Blk.new2 w _ _ _ _).cell 0
    have f0 : w4.frozen? ⟨w.heap.size + 1 + 1, 0, none⟩ = false := by rw [hf _ _ (by simp)]; exact (Blk.new2 w _ _ _ _).frozen 0
    have c1 : w4.cell? ⟨w.heap.size + 1 + 1, 1, none⟩ = some (.int .i64 0) := by rw [hc _ _ (by simp)]; exact (Blk.new2 w _ _ _ _).cell 1
    have f1 : w4.frozen? ⟨w.heap.size + 1 + 1, 1, none⟩ = false := by rw [hf _ _ (by simp)]; exact (Blk.new2 w _ _ _ _).frozen 1
    have c2 : w4.cell? ⟨w.heap.size + 1 + 1, 2, none⟩ = some (.int .i64 0) := by rw [hc _ _ (by simp)]; exact (Blk.new2 w _ _ _ _).cell 2
    have f2 : w4.frozen? ⟨w.heap.size + 1 + 1, 2, none⟩ = false := by rw [hf _ _ (by simp)]; exact (Blk.new2 w _ _ _ _).frozen 2
    have c3 : w4.cell? ⟨w.heap.size + 1 + 1, 3, none⟩ = some (.int .i64 0) := by rw [hc _ _ (by simp)]; exact (Blk.new2 w _ _ _ _).cell 3
    have f3 : w4.frozen? ⟨w.heap.size + 1 + 1, 3, none⟩ = false := by rw [hf _ _ (by simp)]; exact (Blk.new2 w _ _ _ _).frozen 3
    have c4 : w4.cell? ⟨w.heap.size + 1 + 1, 4, none⟩ = some (.int .i64 0) := by rw [hc _ _ (by simp)]; exact (Blk.new2 w _ _ _ _).cell 4
    have f4 : w4.frozen? ⟨w.heap.size + 1 + 1, 4, none⟩ = false := by rw [hf _ _ (by simp)]; exact (Blk.new2 w _ _ _ _).frozen 4
    have c5 : w4.cell? ⟨w.heap.size + 1 + 1, 5, none⟩ = some (.int .i64 0) := by rw [hc _ _ (by simp)]; exact (Blk.new2 w _ _ _ _).cell 5
    have f5 : w4.frozen? ⟨w.heap.size + 1 + 1, 5, none⟩ = false := by rw [hf _ _ (by simp)]; exact (Blk.new2 w _ _ _ _).frozen 5
    go_wp2_with fail
    refine bodyPost_ret (v := .tuple #[.agg #[.string { data := #[] }, .int .i64 0, .int .i64 0, .int .i64 0, .int .i64 0, .int .i64 0], .int .i64 5]) (by simp [results, Try.results33, go_sem, c0, c1, c2, c3, c4, c5]) rfl ?_
    exact ⟨retG _ _ _ _ _ _ _ _ (by simp [gradedC, h1, h2, h3, h4]) (by decide), (Below.setCell (Below.setCell (Below.setCell (Below.setCell (Below.setCell (Below.setCell (Bl.then (by go_grown) H4) (by simp; try omega) _) (by simp; try omega) _) (by simp; try omega) _) (by simp; try omega) _) (by simp; try omega) _) (by simp; try omega) _)⟩
  go_enter Try.func33, Try.ntmps33
  go_wp2_with fail
  refine (l04One_any _ _ _ _ _ _ _ hs).mono ?_
  rintro e w1 ⟨rfl, H1⟩
  obtain ⟨hc, hf⟩ := bcell H1
  go_wp2_with fail
  refine (l05Ok_any _ _ _ _ _ _).mono ?_
  rintro e w2 ⟨rfl, hb⟩
  have H2 := Bl.then H1 hb
  clear hc hf hb
  obtain ⟨hc, hf⟩ := bcell H2
  go_wp2_with (go_at_call 73; refine (l05Steps_any _ _).mono ?_; rintro e w9 ⟨rfl, rfl⟩)
  refine (l05Last_any _ _ _ _ _ _ _ _ _ _ _ _ _ h1 h2 ht).mono ?_
  rintro e w3 ⟨rfl, hb⟩
  have H3 := Bl.then H2 hb
  clear hc hf hb
  obtain ⟨hc, hf⟩ := bcell H3
  go_wp2_with fail
  refine (l04One_any _ _ _ _ _ _ _ hs).mono ?_
  rintro e w4 ⟨rfl, hb⟩
  have H4 := Bl.then (Bl.alloc H3 _) hb
  have B8 := (Blk.new w3 _ _).below hb
  have k0 : w4.cell? ⟨w3.heap.size, 0, none⟩ = some (.string s) := B8.cell 0
  have k1 : w4.cell? ⟨w3.heap.size, 1, none⟩ = some (.int .i64 (grow1 l ga t)) := B8.cell 1
  have k2 : w4.cell? ⟨w3.heap.size, 2, none⟩ = some (.int .i64 (grow1 b gb t)) := B8.cell 2
  have k3 : w4.cell? ⟨w3.heap.size, 3, none⟩ = some (.int .i64 (grow1 i gc t)) := B8.cell 3
  have k4 : w4.cell? ⟨w3.heap.size, 4, none⟩ = some (.int .i64 (grow1 h gd t)) := B8.cell 4
  have k5 : w4.cell? ⟨w3.heap.size, 5, none⟩ = some (.int .i64 (grow1 p ge t)) := B8.cell 5
  clear hc hf hb B8
  obtain ⟨hc, hf⟩ := bcell H4
  have c0 : w4.cell? ⟨w.heap.size + 1 + 1, 0, none⟩ = some (.string { data := #[] }) := by rw [hc _ _ (by simp)]; exact (Blk.new2 w _ _ _ _).cell 0
  have f0 : w4.frozen? ⟨w.heap.size + 1 + 1, 0, none⟩ = false := by rw [hf _ _ (by simp)]; exact (Blk.new2 w _ _ _ _).frozen 0
  have c1 : w4.cell? ⟨w.heap.size + 1 + 1, 1, none⟩ = some (.int .i64 0) := by rw [hc _ _ (by simp)]; exact (Blk.new2 w _ _ _ _).cell 1
  have f1 : w4.frozen? ⟨w.heap.size + 1 + 1, 1, none⟩ = false := by rw [hf _ _ (by simp)]; exact (Blk.new2 w _ _ _ _).frozen 1
  have c2 : w4.cell? ⟨w.heap.size + 1 + 1, 2, none⟩ = some (.int .i64 0) := by rw [hc _ _ (by simp)]; exact (Blk.new2 w _ _ _ _).cell 2
  have f2 : w4.frozen? ⟨w.heap.size + 1 + 1, 2, none⟩ = false := by rw [hf _ _ (by simp)]; exact (Blk.new2 w _ _ _ _).frozen 2
  have c3 : w4.cell? ⟨w.heap.size + 1 + 1, 3, none⟩ = some (.int .i64 0) := by rw [hc _ _ (by simp)]; exact (Blk.new2 w _ _ _ _).cell 3
  have f3 : w4.frozen? ⟨w.heap.size + 1 + 1, 3, none⟩ = false := by rw [hf _ _ (by simp)]; exact (Blk.new2 w _ _ _ _).frozen 3
  have c4 : w4.cell? ⟨w.heap.size + 1 + 1, 4, none⟩ = some (.int .i64 0) := by rw [hc _ _ (by simp)]; exact (Blk.new2 w _ _ _ _).cell 4
  have f4 : w4.frozen? ⟨w.heap.size + 1 + 1, 4, none⟩ = false := by rw [hf _ _ (by simp)]; exact (Blk.new2 w _ _ _ _).frozen 4
  have c5 : w4.cell? ⟨w.heap.size + 1 + 1, 5, none⟩ = some (.int .i64 0) := by rw [hc _ _ (by simp)]; exact (Blk.new2 w _ _ _ _).cell 5
  have f5 : w4.frozen? ⟨w.heap.size + 1 + 1, 5, none⟩ = false := by rw [hf _ _ (by simp)]; exact (Blk.new2 w _ _ _ _).frozen 5
  go_wp2_with fail
  refine bodyPost_ret (v := .tuple #[.agg #[.string s, .int .i64 (grow1 l ga t), .int .i64 (grow1 b gb t), .int .i64 (grow1 i gc t), .int .i64 (grow1 h gd t), .int .i64 (grow1 p ge t)], .int .i64 0]) (by simp [results, Try.results33, go_sem, c0, c1, c2, c3, c4, c5]) rfl ?_
  exact ⟨retG0 _ _ _ _ _ _ _ (by simp [gradedC, h1, h2, h3, h4]), (Below.setCell (Below.setCell (Below.setCell (Below.setCell (Below.setCell (Below.setCell (Bl.then (by go_grown) H4) (by simp; try omega) _) (by simp; try omega) _) (by simp; try omega) _) (by simp; try omega) _) (by simp; try omega) _) (by simp; try omega) _)⟩
end Go.Proofs.Ytgkkfofjaealoaa
