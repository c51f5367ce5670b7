/-
  StepsFor of the program and of the reference; names are any strings that Go can hold.
-/
import Derived.Test.YtgkkfofjaealoaaGrad2
namespace Go.Proofs.Ytgkkfofjaealoaa
open Go.RowKit
set_option maxHeartbeats 1600000

def stepAt (l ga z : Int) (k : Nat) : Bool := decide (z ≤ grow1 l ga ((k : Int) - 30))
noncomputable def stepsR (s : ByteArray) (l b i h p ga gb gc gd ge : Int) (z : Int) : Int × Int :=
  if lastOk s l b i h p = false then (0, 1) else if gradeOk ga gb gc gd ge = false then (0, 1) else if inR z 500 5000 = false then (0, 2) else
    match firstOf 61 (stepAt l ga z) with
    | some k => ((k : Int) - 30, 0)
    | none => (0, 3)
def NoStep (l ga z : Int) (k : Nat) : Prop := ∀ j, j < k → stepAt l ga z j = false
theorem NoStep.snoc {l ga z : Int} {k : Nat} (h : NoStep l ga z k) (hk : stepAt l ga z k = false) : NoStep l ga z (k + 1) := fun j hj => by
  by_cases e : j = k
  · subst e; exact hk
  · exact h j (by omega)
theorem field_len (s : ByteArray) (x1 x2 x3 x4 x5 : Int) (w : World) : Sem.run Try.prog (Instr.field 38 (.agg #[.string s, .int .i64 x1, .int .i64 x2, .int .i64 x3, .int .i64 x4, .int .i64 x5]) 1) w = .ok (.int .i64 x1) w := by kernel_rfl
theorem isMeasure_any (n : Int) (w : World) :
    Calls Try.prog 78 #[.int .i64 n] w fun e w' => e = .returned (.bool (inR n 500 5000)) ∧ w = w' := by
  go_enter Try.func78, Try.ntmps78
  go_wp2_with (go_at_call 68; refine (within_any _ _ _ _).mono ?_; rintro e w' ⟨rfl, rfl⟩)
  go_ret
  exact ⟨rfl, rfl⟩
set_option maxRecDepth 100000 in
theorem StepsFor_any (s : ByteArray) (l b i h p ga gb gc gd ge : Int) (z : Int) (w : World) (hs : s.size ≤ maxLen) :
    Calls Try.prog 38 #[.agg #[.string s, .int .i64 l, .int .i64 b, .int .i64 i, .int .i64 h, .int .i64 p], .agg #[.int .i64 ga, .int .i64 gb, .int .i64 gc, .int .i64 gd, .int .i64 ge], .int .i64 z] w fun e w' => e = .returned (.tuple #[.int .i64 (stepsR s l b i h p ga gb gc gd ge z).1, .int .i64 (stepsR s l b i h p ga gb gc gd ge z).2]) ∧ Below w.heap.size w w' := by
  cases h1 : lastOk s l b i h p
  · go_enter Try.func38, Try.ntmps38
    go_wp2_with fail
    refine (validLast_any _ _ _ _ _ _ _ hs).mono ?_
    rintro e w1 ⟨rfl, H1⟩
    obtain ⟨hc, hf⟩ := bcell H1
    go_wp2_with fail
    go_ret2
    exact ⟨ret_pair (by simp [stepsR, h1]), Bl.then (by go_grown) H1⟩
  cases h2 : gradeOk ga gb gc gd ge
  · go_enter Try.func38, Try.ntmps38
    go_wp2_with fail
    refine (validLast_any _ _ _ _ _ _ _ hs).mono ?_
    rintro e w1 ⟨rfl, H1⟩
    obtain ⟨hc, hf⟩ := bcell H1
    go_wp2_with fail
    refine (ValidGrade_any _ _ _ _ _ _).mono ?_
    rintro e w2 ⟨rfl, hb⟩
    have H2 := Bl.then H1 hb
    clear hc hf hb
    obtain ⟨hc, hf⟩ := bcell H2
    go_wp2_with fail
    go_ret2
    exact ⟨ret_pair (by simp [stepsR, h1, h2]), Bl.then (by go_grown) H2⟩
  cases h3 : inR z 500 5000
  · go_enter Try.func38, Try.ntmps38
    go_wp2_with fail
    refine (validLast_any _ _ _ _ _ _ _ hs).mono ?_
    rintro e w1 ⟨rfl, H1⟩
    obtain ⟨hc, hf⟩ := bcell H1
    go_wp2_with fail
    refine (ValidGrade_any _ _ _ _ _ _).mono ?_
    rintro e w2 ⟨rfl, hb⟩
    have H2 := Bl.then H1 hb
    clear hc hf hb
    obtain ⟨hc, hf⟩ := bcell H2
    go_wp2_with (go_at_call 78; refine (isMeasure_any _ _).mono ?_; rintro e w9 ⟨rfl, rfl⟩)
    go_ret2
    exact ⟨ret_pair (by simp [stepsR, h1, h2, h3]), Bl.then (by go_grown) H2⟩
  have hr := Lib.hid (show ∀ k : Nat, k < 61 → NoStep l ga z k → stepAt l ga z k = true → stepsR s l b i h p ga gb gc gd ge z = ((k : Int) - 30, 0) from fun k hk h4 h5 => by simp [stepsR, h1, h2, h3, firstOf_some hk h5 h4])
  have hr2 := Lib.hid (show NoStep l ga z 61 → stepsR s l b i h p ga gb gc gd ge z = (0, 3) from fun h4 => by simp [stepsR, h1, h2, h3, firstOf_none h4])
  have hl := Lib.hid (lastOk_bd h1).2.1
  have hg := Lib.hid (gradeOk_bd h2).1
  go_enter Try.func38, Try.ntmps38
  go_wp2_with fail
  refine (validLast_any _ _ _ _ _ _ _ hs).mono ?_
  rintro e w1 ⟨rfl, H1⟩
  obtain ⟨hc, hf⟩ := bcell H1
  go_wp2_with fail
  refine (ValidGrade_any _ _ _ _ _ _).mono ?_
  rintro e w2 ⟨rfl, hb⟩
  have H2 := Bl.then H1 hb
  clear hc hf hb
  obtain ⟨hc, hf⟩ := bcell H2
  go_wp2_with (go_at_call 78; refine (isMeasure_any _ _).mono ?_; rintro e w9 ⟨rfl, rfl⟩)
  clear hc hf
  have HW : Below w.heap.size w ((w.alloc (.cells #[.string s, .int .i64 l, .int .i64 b, .int .i64 i, .int .i64 h, .int .i64 p] 38)).alloc (.cells #[.int .i64 ga, .int .i64 gb, .int .i64 gc, .int .i64 gd, .int .i64 ge] 46)) := by go_grown
  have b0 : Blk ((w.alloc (.cells #[.string s, .int .i64 l, .int .i64 b, .int .i64 i, .int .i64 h, .int .i64 p] 38)).alloc (.cells #[.int .i64 ga, .int .i64 gb, .int .i64 gc, .int .i64 gd, .int .i64 ge] 46)) w.heap.size 38 #[.string s, .int .i64 l, .int .i64 b, .int .i64 i, .int .i64 h, .int .i64 p] := (Blk.new w _ _).alloc _
  have b1 : Blk ((w.alloc (.cells #[.string s, .int .i64 l, .int .i64 b, .int .i64 i, .int .i64 h, .int .i64 p] 38)).alloc (.cells #[.int .i64 ga, .int .i64 gb, .int .i64 gc, .int .i64 gd, .int .i64 ge] 46)) (w.heap.size + 1) 46 #[.int .i64 ga, .int .i64 gb, .int .i64 gc, .int .i64 gd, .int .i64 ge] := Blk.new1 w _ _ _
  generalize ((w.alloc (.cells #[.string s, .int .i64 l, .int .i64 b, .int .i64 i, .int .i64 h, .int .i64 p] 38)).alloc (.cells #[.int .i64 ga, .int .i64 gb, .int .i64 gc, .int .i64 gd, .int .i64 ge] 46)) = W at *
  have b0' := Lib.hid b0
  have b1' := Lib.hid b1
  clear b0 b1
  go_wp2_with fail
  go_loopw [8] (fun i wr => ∃ k : Nat, k ≤ 61 ∧ i = .int .i64 ((k : Int) - 30) ∧ NoStep l ga z k ∧ Below W.heap.size W wr) (fun i _ => (31 - intOf i).toNat)
  case atStart => exact ⟨0, by omega, rfl, fun j hj => by omega, H2⟩
  case round =>
    obtain ⟨k, hk, rfl, hno, HB⟩ := hrel
    by_cases hlt : k < 61
    · have q0 := b0'.out.below HB
      have q1 := b1'.out.below HB
      have k00 : wr.cell? ⟨w.heap.size, 0, none⟩ = some (.string s) := q0.cell 0
      have k01 : wr.cell? ⟨w.heap.size, 1, none⟩ = some (.int .i64 l) := q0.cell 1
      have k02 : wr.cell? ⟨w.heap.size, 2, none⟩ = some (.int .i64 b) := q0.cell 2
      have k03 : wr.cell? ⟨w.heap.size, 3, none⟩ = some (.int .i64 i) := q0.cell 3
      have k04 : wr.cell? ⟨w.heap.size, 4, none⟩ = some (.int .i64 h) := q0.cell 4
      have k05 : wr.cell? ⟨w.heap.size, 5, none⟩ = some (.int .i64 p) := q0.cell 5
      have k10 : wr.cell? ⟨w.heap.size + 1, 0, none⟩ = some (.int .i64 ga) := q1.cell 0
      have k11 : wr.cell? ⟨w.heap.size + 1, 1, none⟩ = some (.int .i64 gb) := q1.cell 1
      have k12 : wr.cell? ⟨w.heap.size + 1, 2, none⟩ = some (.int .i64 gc) := q1.cell 2
      have k13 : wr.cell? ⟨w.heap.size + 1, 3, none⟩ = some (.int .i64 gd) := q1.cell 3
      have k14 : wr.cell? ⟨w.heap.size + 1, 4, none⟩ = some (.int .i64 ge) := q1.cell 4
      clear q0 q1
      cases hst : stepAt l ga z k
      · have hd : ¬ z ≤ grow1 l ga ((k : Int) - 30) := by simpa [stepAt] using hst
        have hst' := Lib.hid hst
        go_wp2_with (go_at_call 76; refine (gradeLast_any _ _ _ _ _ _ _ _ _ _ _ _ _ h1 h2 (by omega)).mono ?_; rintro e w3 ⟨rfl, hb3⟩)
        go_wp2_with fail
        rw [field_len]
        go_wp2_with fail
        go_roundw
        case rel => exact ⟨k + 1, by omega, by go_num, hno.snoc hst'.out, (Bl.then HB hb3)⟩
        case measure => simp [intOf]; omega
      · have hd : z ≤ grow1 l ga ((k : Int) - 30) := by simpa [stepAt] using hst
        have hst' := Lib.hid hst
        go_wp2_with (go_at_call 76; refine (gradeLast_any _ _ _ _ _ _ _ _ _ _ _ _ _ h1 h2 (by omega)).mono ?_; rintro e w3 ⟨rfl, hb3⟩)
        go_wp2_with fail
        rw [field_len]
        go_wp2_with fail
        go_ret2
        exact ⟨ret_pair (hr.out k hlt hno hst'.out), Bl.then HW (Bl.then HB hb3)⟩
    · obtain rfl : k = 61 := by omega
      go_wp2_with fail
      go_ret2
      exact ⟨ret_pair (hr2.out hno), Bl.then HW HB⟩
set_option maxRecDepth 100000 in
theorem sStepsFor_any (s : ByteArray) (l b i h p ga gb gc gd ge : Int) (z : Int) (w : World) (hs : s.size ≤ maxLen) :
    Calls Try.prog 37 #[.agg #[.string s, .int .i64 l, .int .i64 b, .int .i64 i, .int .i64 h, .int .i64 p], .agg #[.int .i64 ga, .int .i64 gb, .int .i64 gc, .int .i64 gd, .int .i64 ge], .int .i64 z] w fun e w' => e = .returned (.tuple #[.int .i64 (stepsR s l b i h p ga gb gc gd ge z).1, .int .i64 (stepsR s l b i h p ga gb gc gd ge z).2]) ∧ Below w.heap.size w w' := by
  cases h1 : lastOk s l b i h p
  · go_enter Try.func37, Try.ntmps37
    go_wp2_with fail
    refine (l04One_any _ _ _ _ _ _ _ hs).mono ?_
    rintro e w1 ⟨rfl, H1⟩
    obtain ⟨hc, hf⟩ := bcell H1
    go_wp2_with fail
    go_ret2
    exact ⟨ret_pair (by simp [stepsR, h1]), Bl.then (by go_grown) H1⟩
  cases h2 : gradeOk ga gb gc gd ge
  · go_enter Try.func37, Try.ntmps37
    go_wp2_with fail
    refine (l04One_any _ _ _ _ _ _ _ hs).mono ?_
    rintro e w1 ⟨rfl, H1⟩
    obtain ⟨hc, hf⟩ := bcell H1
    go_wp2_with fail
    refine (l05Ok_any _ _ _ _ _ _).mono ?_
    rintro e w2 ⟨rfl, hb⟩
    have H2 := Bl.then H1 hb
    clear hc hf hb
    obtain ⟨hc, hf⟩ := bcell H2
    go_wp2_with fail
    go_ret2
    exact ⟨ret_pair (by simp [stepsR, h1, h2]), Bl.then (by go_grown) H2⟩
  cases h3 : inR z 500 5000
  · go_enter Try.func37, Try.ntmps37
    go_wp2_with fail
    refine (l04One_any _ _ _ _ _ _ _ hs).mono ?_
    rintro e w1 ⟨rfl, H1⟩
    obtain ⟨hc, hf⟩ := bcell H1
    go_wp2_with fail
    refine (l05Ok_any _ _ _ _ _ _).mono ?_
    rintro e w2 ⟨rfl, hb⟩
    have H2 := Bl.then H1 hb
    clear hc hf hb
    obtain ⟨hc, hf⟩ := bcell H2
    go_wp2_with (go_at_call 65; refine (l00In_any _ _ _ _).mono ?_; rintro e w9 ⟨rfl, rfl⟩)
    go_ret2
    exact ⟨ret_pair (by simp [stepsR, h1, h2, h3]), Bl.then (by go_grown) H2⟩
  have hr := Lib.hid (show ∀ k : Nat, k < 61 → NoStep l ga z k → stepAt l ga z k = true → stepsR s l b i h p ga gb gc gd ge z = ((k : Int) - 30, 0) from fun k hk h4 h5 => by simp [stepsR, h1, h2, h3, firstOf_some hk h5 h4])
  have hr2 := Lib.hid (show NoStep l ga z 61 → stepsR s l b i h p ga gb gc gd ge z = (0, 3) from fun h4 => by simp [stepsR, h1, h2, h3, firstOf_none h4])
  have hl := Lib.hid (lastOk_bd h1).2.1
  have hg := Lib.hid (gradeOk_bd h2).1
  go_enter Try.func37, Try.ntmps37
  go_wp2_with fail
  refine (l04One_any _ _ _ _ _ _ _ hs).mono ?_
  rintro e w1 ⟨rfl, H1⟩
  obtain ⟨hc, hf⟩ := bcell H1
  go_wp2_with fail
  refine (l05Ok_any _ _ _ _ _ _).mono ?_
  rintro e w2 ⟨rfl, hb⟩
  have H2 := Bl.then H1 hb
  clear hc hf hb
  obtain ⟨hc, hf⟩ := bcell H2
  go_wp2_with (go_at_call 65; refine (l00In_any _ _ _ _).mono ?_; rintro e w9 ⟨rfl, rfl⟩)
  clear hc hf
  have HW : Below w.heap.size w ((w.alloc (.cells #[.string s, .int .i64 l, .int .i64 b, .int .i64 i, .int .i64 h, .int .i64 p] 38)).alloc (.cells #[.int .i64 ga, .int .i64 gb, .int .i64 gc, .int .i64 gd, .int .i64 ge] 46)) := by go_grown
  have b0 : Blk ((w.alloc (.cells #[.string s, .int .i64 l, .int .i64 b, .int .i64 i, .int .i64 h, .int .i64 p] 38)).alloc (.cells #[.int .i64 ga, .int .i64 gb, .int .i64 gc, .int .i64 gd, .int .i64 ge] 46)) w.heap.size 38 #[.string s, .int .i64 l, .int .i64 b, .int .i64 i, .int .i64 h, .int .i64 p] := (Blk.new w _ _).alloc _
  have b1 : Blk ((w.alloc (.cells #[.string s, .int .i64 l, .int .i64 b, .int .i64 i, .int .i64 h, .int .i64 p] 38)).alloc (.cells #[.int .i64 ga, .int .i64 gb, .int .i64 gc, .int .i64 gd, .int .i64 ge] 46)) (w.heap.size + 1) 46 #[.int .i64 ga, .int .i64 gb, .int .i64 gc, .int .i64 gd, .int .i64 ge] := Blk.new1 w _ _ _
  generalize ((w.alloc (.cells #[.string s, .int .i64 l, .int .i64 b, .int .i64 i, .int .i64 h, .int .i64 p] 38)).alloc (.cells #[.int .i64 ga, .int .i64 gb, .int .i64 gc, .int .i64 gd, .int .i64 ge] 46)) = W at *
  have b0' := Lib.hid b0
  have b1' := Lib.hid b1
  clear b0 b1
  go_wp2_with fail
  go_loopw [8] (fun i wr => ∃ k : Nat, k ≤ 61 ∧ i = .int .i64 ((k : Int) - 30) ∧ NoStep l ga z k ∧ Below W.heap.size W wr) (fun i _ => (31 - intOf i).toNat)
  case atStart => exact ⟨0, by omega, rfl, fun j hj => by omega, H2⟩
  case round =>
    obtain ⟨k, hk, rfl, hno, HB⟩ := hrel
    by_cases hlt : k < 61
    · have q0 := b0'.out.below HB
      have q1 := b1'.out.below HB
      have k00 : wr.cell? ⟨w.heap.size, 0, none⟩ = some (.string s) := q0.cell 0
      have k01 : wr.cell? ⟨w.heap.size, 1, none⟩ = some (.int .i64 l) := q0.cell 1
      have k02 : wr.cell? ⟨w.heap.size, 2, none⟩ = some (.int .i64 b) := q0.cell 2
      have k03 : wr.cell? ⟨w.heap.size, 3, none⟩ = some (.int .i64 i) := q0.cell 3
      have k04 : wr.cell? ⟨w.heap.size, 4, none⟩ = some (.int .i64 h) := q0.cell 4
      have k05 : wr.cell? ⟨w.heap.size, 5, none⟩ = some (.int .i64 p) := q0.cell 5
      have k10 : wr.cell? ⟨w.heap.size + 1, 0, none⟩ = some (.int .i64 ga) := q1.cell 0
      have k11 : wr.cell? ⟨w.heap.size + 1, 1, none⟩ = some (.int .i64 gb) := q1.cell 1
      have k12 : wr.cell? ⟨w.heap.size + 1, 2, none⟩ = some (.int .i64 gc) := q1.cell 2
      have k13 : wr.cell? ⟨w.heap.size + 1, 3, none⟩ = some (.int .i64 gd) := q1.cell 3
      have k14 : wr.cell? ⟨w.heap.size + 1, 4, none⟩ = some (.int .i64 ge) := q1.cell 4
      clear q0 q1
      cases hst : stepAt l ga z k
      · have hd : ¬ z ≤ grow1 l ga ((k : Int) - 30) := by simpa [stepAt] using hst
        have hst' := Lib.hid hst
        go_wp2_with (go_at_call 77; refine (l05Add_any _ _ _ _ (by have := hl.out; omega) hg.out (by omega)).mono ?_; rintro e w3 ⟨rfl, rfl⟩)
        go_roundw
        case rel => exact ⟨k + 1, by omega, by go_num, hno.snoc hst'.out, HB⟩
        case measure => simp [intOf]; omega
      · have hd : z ≤ grow1 l ga ((k : Int) - 30) := by simpa [stepAt] using hst
        have hst' := Lib.hid hst
        go_wp2_with (go_at_call 77; refine (l05Add_any _ _ _ _ (by have := hl.out; omega) hg.out (by omega)).mono ?_; rintro e w3 ⟨rfl, rfl⟩)
        go_ret2
        exact ⟨ret_pair (hr.out k hlt hno hst'.out), Bl.then HW HB⟩
    · obtain rfl : k = 61 := by omega
      go_wp2_with fail
      go_ret2
      exact ⟨ret_pair (hr2.out hno), Bl.then HW HB⟩
end Go.Proofs.Ytgkkfofjaealoaa
