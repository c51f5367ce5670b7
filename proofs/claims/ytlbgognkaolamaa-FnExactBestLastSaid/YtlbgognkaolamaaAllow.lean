/-
  AllowedLasts of the program and of the reference; names are any strings that Go can hold, slices read as the given lists.
-/
import Derived.Test.YtlbgognkaolamaaAlw
namespace Go.Proofs.Ytlbgognkaolamaa
open Go.RowKit
set_option maxHeartbeats 1600000

noncomputable def lsOk (q0 q1 q2 : Int) (zf : List Int) (xs : List LastD) (f : FootD) : Bool := lastsOk xs && fOk f && fitOk q0 q1 q2 zf
noncomputable def alR (q0 q1 q2 : Int) (zf : List Int) (xs : List LastD) (f : FootD) : List Int × Int := if lsOk q0 q1 q2 zf xs f = true then (accL (alwI q0 q1 q2 xs [f]) xs.length, 0) else ([], 1)
theorem lsOk_bd {q0 q1 q2 : Int} {zf : List Int} {xs : List LastD} {f : FootD} (h : lsOk q0 q1 q2 zf xs f = true) : lastsOk xs = true ∧ fOk f = true ∧ fitOk q0 q1 q2 zf = true := by
  simp only [lsOk, Bool.and_eq_true] at h
  exact ⟨h.1.1, h.1.2, h.2⟩
theorem alR_len (q0 q1 q2 : Int) (zf : List Int) (xs : List LastD) (f : FootD) : (alR q0 q1 q2 zf xs f).1.length ≤ 1048577 := by
  unfold alR
  by_cases h : lsOk q0 q1 q2 zf xs f = true
  · rw [if_pos h]
    have h1 := (lastsOk_bd (lsOk_bd h).1).1
    have h2 := accL_len (alwI_len q0 q1 q2 xs [f]) xs.length
    show (accL _ _).length ≤ _
    omega
  · rw [if_neg h]; simp
theorem rd_foot {w : World} {g : Nat} {f : FootD} (h : Blk w g 25 #[.int .i64 f.l, .int .i64 f.b, .int .i64 f.i, .int .i64 f.h]) : Rd w 4 (some ⟨g, 0, none⟩) 1 (feet [f]) := by
  refine ⟨by simp [feet, FootD.cells], fun _ => ⟨g, 0, rfl, h.lt, fun j u hu => ?_⟩⟩
  rw [Nat.zero_add, h.cell j]
  simpa [feet, FootD.cells] using hu
theorem one_foot {q0 q1 q2 : Int} {x : LastD} {f : FootD} : allM q0 q1 q2 x [f] [f].length = mX q0 q1 q2 x f := by simp [allM, feetAt]
theorem alw_one {q0 q1 q2 : Int} {xs : List LastD} {f : FootD} {m : Nat} : alwI q0 q1 q2 xs [f] m = if mX q0 q1 q2 (lastsAt xs m) f = true then [(m : Int)] else [] := by unfold alwI; rw [one_foot]
theorem costR_sign {q0 q1 q2 : Int} {zf : List Int} {x : LastD} {f : FootD} (hq : fitOk q0 q1 q2 zf = true) : decide (costR x.l x.b x.i x.h f.l f.b f.i f.h q0 q1 q2 zf < 0) = !mX q0 q1 q2 x f := costR_neg hq
theorem costR_cX {q0 q1 q2 : Int} {zf : List Int} {x : LastD} {f : FootD} (h : mX q0 q1 q2 x f = true) : costR x.l x.b x.i x.h f.l f.b f.i f.h q0 q1 q2 zf = cX q0 zf x f := by
  unfold costR; rw [if_pos (show mayF x.l x.b x.i x.h f.l f.b f.i f.h q0 q1 q2 = true from h)]; rfl
theorem feet_one {f : FootD} (h : fOk f = true) : ∀ k, k < [f].length → fOk (feetAt [f] k) = true := fun k hk => by
  obtain rfl : k = 0 := by simpa using hk
  exact h
theorem l04Code_any (A : Option Addr) (n c : Nat) (xs : List LastD) (f : FootD) (g : Nat) (q0 q1 q2 : Int) (Af : Option Addr) (nf cf : Nat) (zf : List Int) (w : World) (hX : Rd w 6 A n (lasts xs)) (hn : n ≤ 1048576) (hx : ∀ x ∈ xs, x.s.size ≤ maxLen) (hG : Blk w g 53 #[.int .i64 q0, .int .i64 q1, .int .i64 q2, .slice Af nf cf]) (h0 : Rd w 1 Af nf (ints zf)) (hnf : nf ≤ 1048576) :
    Calls Try.prog 88 #[.slice A n c, .agg #[.int .i64 f.l, .int .i64 f.b, .int .i64 f.i, .int .i64 f.h], .pointer (some ⟨g, 0, none⟩)] w fun e w' => e = .returned (.bool (lsOk q0 q1 q2 zf xs f)) ∧ Below w.heap.size w w' := by
  have hfo : footOk f.l f.b f.i f.h = fOk f := rfl
  cases k1 : lastsOk xs
  · have hr := Lib.hid (show false = lsOk q0 q1 q2 zf xs f by simp [lsOk, k1])
    clear hfo
    go_enter Try.func88, Try.ntmps88
    go_wp2_with fail
    refine (l04Ok_any _ _ _ _ _ (hX.alloc _) (by omega) hx).mono ?_
    rintro e w1 ⟨rfl, H1⟩
    have BF := (Blk.new w 25 #[.int .i64 f.l, .int .i64 f.b, .int .i64 f.i, .int .i64 f.h]).below H1
    have HW : Below w.heap.size w w1 := Bl.then (by go_grown) H1
    clear H1
    have cF0 : w1.cell? ⟨w.heap.size, 0, none⟩ = some (.int .i64 f.l) := BF.cell 0
    have cF1 : w1.cell? ⟨w.heap.size, 1, none⟩ = some (.int .i64 f.b) := BF.cell 1
    have cF2 : w1.cell? ⟨w.heap.size, 2, none⟩ = some (.int .i64 f.i) := BF.cell 2
    have cF3 : w1.cell? ⟨w.heap.size, 3, none⟩ = some (.int .i64 f.h) := BF.cell 3
    have lF := BF.lt
    go_wp2_with fail
    go_ret
    exact ⟨ret_bool hr.out, HW⟩
  cases k2 : footOk f.l f.b f.i f.h
  · have hr := Lib.hid (show false = lsOk q0 q1 q2 zf xs f by simp [lsOk, ← hfo, k2])
    clear hfo
    go_enter Try.func88, Try.ntmps88
    go_wp2_with fail
    refine (l04Ok_any _ _ _ _ _ (hX.alloc _) (by omega) hx).mono ?_
    rintro e w1 ⟨rfl, H1⟩
    have BF := (Blk.new w 25 #[.int .i64 f.l, .int .i64 f.b, .int .i64 f.i, .int .i64 f.h]).below H1
    have HW : Below w.heap.size w w1 := Bl.then (by go_grown) H1
    clear H1
    have cF0 : w1.cell? ⟨w.heap.size, 0, none⟩ = some (.int .i64 f.l) := BF.cell 0
    have cF1 : w1.cell? ⟨w.heap.size, 1, none⟩ = some (.int .i64 f.b) := BF.cell 1
    have cF2 : w1.cell? ⟨w.heap.size, 2, none⟩ = some (.int .i64 f.i) := BF.cell 2
    have cF3 : w1.cell? ⟨w.heap.size, 3, none⟩ = some (.int .i64 f.h) := BF.cell 3
    have lF := BF.lt
    go_wp2_with fail
    refine (l02Foot_any _ _ _ _ _).mono ?_
    rintro e w2 ⟨rfl, hb2⟩
    clear cF0 cF1 cF2 cF3 lF
    replace BF := BF.below hb2
    replace HW := Bl.then HW hb2
    have cF0 : w2.cell? ⟨w.heap.size, 0, none⟩ = some (.int .i64 f.l) := BF.cell 0
    have cF1 : w2.cell? ⟨w.heap.size, 1, none⟩ = some (.int .i64 f.b) := BF.cell 1
    have cF2 : w2.cell? ⟨w.heap.size, 2, none⟩ = some (.int .i64 f.i) := BF.cell 2
    have cF3 : w2.cell? ⟨w.heap.size, 3, none⟩ = some (.int .i64 f.h) := BF.cell 3
    have lF := BF.lt
    go_wp2_with fail
    go_ret
    exact ⟨ret_bool hr.out, HW⟩
  have hr := Lib.hid (show fitOk q0 q1 q2 zf = lsOk q0 q1 q2 zf xs f by simp [lsOk, ← hfo, k1, k2])
  clear hfo
  go_enter Try.func88, Try.ntmps88
  go_wp2_with fail
  refine (l04Ok_any _ _ _ _ _ (hX.alloc _) (by omega) hx).mono ?_
  rintro e w1 ⟨rfl, H1⟩
  have BF := (Blk.new w 25 #[.int .i64 f.l, .int .i64 f.b, .int .i64 f.i, .int .i64 f.h]).below H1
  have HW : Below w.heap.size w w1 := Bl.then (by go_grown) H1
  clear H1
  have cF0 : w1.cell? ⟨w.heap.size, 0, none⟩ = some (.int .i64 f.l) := BF.cell 0
  have cF1 : w1.cell? ⟨w.heap.size, 1, none⟩ = some (.int .i64 f.b) := BF.cell 1
  have cF2 : w1.cell? ⟨w.heap.size, 2, none⟩ = some (.int .i64 f.i) := BF.cell 2
  have cF3 : w1.cell? ⟨w.heap.size, 3, none⟩ = some (.int .i64 f.h) := BF.cell 3
  have lF := BF.lt
  go_wp2_with fail
  refine (l02Foot_any _ _ _ _ _).mono ?_
  rintro e w2 ⟨rfl, hb2⟩
  clear cF0 cF1 cF2 cF3 lF
  replace BF := BF.below hb2
  replace HW := Bl.then HW hb2
  have cF0 : w2.cell? ⟨w.heap.size, 0, none⟩ = some (.int .i64 f.l) := BF.cell 0
  have cF1 : w2.cell? ⟨w.heap.size, 1, none⟩ = some (.int .i64 f.b) := BF.cell 1
  have cF2 : w2.cell? ⟨w.heap.size, 2, none⟩ = some (.int .i64 f.i) := BF.cell 2
  have cF3 : w2.cell? ⟨w.heap.size, 3, none⟩ = some (.int .i64 f.h) := BF.cell 3
  have lF := BF.lt
  go_wp2_with fail
  refine (l04Fit_any _ _ _ _ _ _ _ _ _ (hG.below HW) (h0.below HW) hnf).mono ?_
  rintro e w3 ⟨rfl, hb3⟩
  clear cF0 cF1 cF2 cF3 lF
  replace BF := BF.below hb3
  replace HW := Bl.then HW hb3
  have cF0 : w3.cell? ⟨w.heap.size, 0, none⟩ = some (.int .i64 f.l) := BF.cell 0
  have cF1 : w3.cell? ⟨w.heap.size, 1, none⟩ = some (.int .i64 f.b) := BF.cell 1
  have cF2 : w3.cell? ⟨w.heap.size, 2, none⟩ = some (.int .i64 f.i) := BF.cell 2
  have cF3 : w3.cell? ⟨w.heap.size, 3, none⟩ = some (.int .i64 f.h) := BF.cell 3
  have lF := BF.lt
  go_wp2_with fail
  go_ret
  exact ⟨ret_bool hr.out, HW⟩
set_option maxRecDepth 100000 in
theorem AllowedLasts_any (A : Option Addr) (n c : Nat) (xs : List LastD) (f : FootD) (q0 q1 q2 : Int) (Af : Option Addr) (nf cf : Nat) (zf : List Int) (w : World) (hX : Rd w 6 A n (lasts xs)) (hn : n ≤ 1048576) (hx : ∀ x ∈ xs, x.s.size ≤ maxLen) (h0 : Rd w 1 Af nf (ints zf)) (hnf : nf ≤ 1048576) :
    Calls Try.prog 42 #[.slice A n c, .agg #[.int .i64 f.l, .int .i64 f.b, .int .i64 f.i, .int .i64 f.h], .agg #[.int .i64 q0, .int .i64 q1, .int .i64 q2, .slice Af nf cf]] w (RetInts (alR q0 q1 q2 zf xs f) w) := by
  have hxl := Lib.hid hX.lasts_length
  have hfo : footOk f.l f.b f.i f.h = fOk f := rfl
  cases k1 : lastsOk xs
  · have hr := Lib.hid (show alR q0 q1 q2 zf xs f = ([], 1) by simp [alR, lsOk, k1])
    clear hfo
    go_enter Try.func42, Try.ntmps42
    go_wp2_with fail
    refine (ValidLasts_any _ _ _ _ _ ((hX.alloc _).alloc _) (by omega) hx).mono ?_
    rintro e w1 ⟨rfl, H1⟩
    have BF := ((Blk.new w 25 #[.int .i64 f.l, .int .i64 f.b, .int .i64 f.i, .int .i64 f.h]).alloc (.cells #[.int .i64 q0, .int .i64 q1, .int .i64 q2, .slice Af nf cf] 53)).below H1
    have BQ := (Blk.new1 w _ 53 #[.int .i64 q0, .int .i64 q1, .int .i64 q2, .slice Af nf cf]).below H1
    have HW : Below w.heap.size w w1 := Bl.then (by go_grown) H1
    clear H1
    have cF0 : w1.cell? ⟨w.heap.size, 0, none⟩ = some (.int .i64 f.l) := BF.cell 0
    have cF1 : w1.cell? ⟨w.heap.size, 1, none⟩ = some (.int .i64 f.b) := BF.cell 1
    have cF2 : w1.cell? ⟨w.heap.size, 2, none⟩ = some (.int .i64 f.i) := BF.cell 2
    have cF3 : w1.cell? ⟨w.heap.size, 3, none⟩ = some (.int .i64 f.h) := BF.cell 3
    have lF := BF.lt
    have cQ0 : w1.cell? ⟨w.heap.size + 1, 0, none⟩ = some (.int .i64 q0) := BQ.cell 0
    have cQ1 : w1.cell? ⟨w.heap.size + 1, 1, none⟩ = some (.int .i64 q1) := BQ.cell 1
    have cQ2 : w1.cell? ⟨w.heap.size + 1, 2, none⟩ = some (.int .i64 q2) := BQ.cell 2
    have cQ3 : w1.cell? ⟨w.heap.size + 1, 3, none⟩ = some (.slice Af nf cf) := BQ.cell 3
    have lQ := BQ.lt
    go_wp2_with fail
    go_ret2
    exact RetInts.nil hr.out HW
  cases k2 : footOk f.l f.b f.i f.h
  · have hr := Lib.hid (show alR q0 q1 q2 zf xs f = ([], 1) by simp [alR, lsOk, ← hfo, k2])
    clear hfo
    go_enter Try.func42, Try.ntmps42
    go_wp2_with fail
    refine (ValidLasts_any _ _ _ _ _ ((hX.alloc _).alloc _) (by omega) hx).mono ?_
    rintro e w1 ⟨rfl, H1⟩
    have BF := ((Blk.new w 25 #[.int .i64 f.l, .int .i64 f.b, .int .i64 f.i, .int .i64 f.h]).alloc (.cells #[.int .i64 q0, .int .i64 q1, .int .i64 q2, .slice Af nf cf] 53)).below H1
    have BQ := (Blk.new1 w _ 53 #[.int .i64 q0, .int .i64 q1, .int .i64 q2, .slice Af nf cf]).below H1
    have HW : Below w.heap.size w w1 := Bl.then (by go_grown) H1
    clear H1
    have cF0 : w1.cell? ⟨w.heap.size, 0, none⟩ = some (.int .i64 f.l) := BF.cell 0
    have cF1 : w1.cell? ⟨w.heap.size, 1, none⟩ = some (.int .i64 f.b) := BF.cell 1
    have cF2 : w1.cell? ⟨w.heap.size, 2, none⟩ = some (.int .i64 f.i) := BF.cell 2
    have cF3 : w1.cell? ⟨w.heap.size, 3, none⟩ = some (.int .i64 f.h) := BF.cell 3
    have lF := BF.lt
    have cQ0 : w1.cell? ⟨w.heap.size + 1, 0, none⟩ = some (.int .i64 q0) := BQ.cell 0
    have cQ1 : w1.cell? ⟨w.heap.size + 1, 1, none⟩ = some (.int .i64 q1) := BQ.cell 1
    have cQ2 : w1.cell? ⟨w.heap.size + 1, 2, none⟩ = some (.int .i64 q2) := BQ.cell 2
    have cQ3 : w1.cell? ⟨w.heap.size + 1, 3, none⟩ = some (.slice Af nf cf) := BQ.cell 3
    have lQ := BQ.lt
    go_wp2_with fail
    refine (ValidFoot_any _ _ _ _ _).mono ?_
    rintro e w2 ⟨rfl, hb2⟩
    clear cF0 cF1 cF2 cF3 lF cQ0 cQ1 cQ2 cQ3 lQ
    replace BF := BF.below hb2
    replace BQ := BQ.below hb2
    replace HW := Bl.then HW hb2
    have cF0 : w2.cell? ⟨w.heap.size, 0, none⟩ = some (.int .i64 f.l) := BF.cell 0
    have cF1 : w2.cell? ⟨w.heap.size, 1, none⟩ = some (.int .i64 f.b) := BF.cell 1
    have cF2 : w2.cell? ⟨w.heap.size, 2, none⟩ = some (.int .i64 f.i) := BF.cell 2
    have cF3 : w2.cell? ⟨w.heap.size, 3, none⟩ = some (.int .i64 f.h) := BF.cell 3
    have lF := BF.lt
    have cQ0 : w2.cell? ⟨w.heap.size + 1, 0, none⟩ = some (.int .i64 q0) := BQ.cell 0
    have cQ1 : w2.cell? ⟨w.heap.size + 1, 1, none⟩ = some (.int .i64 q1) := BQ.cell 1
    have cQ2 : w2.cell? ⟨w.heap.size + 1, 2, none⟩ = some (.int .i64 q2) := BQ.cell 2
    have cQ3 : w2.cell? ⟨w.heap.size + 1, 3, none⟩ = some (.slice Af nf cf) := BQ.cell 3
    have lQ := BQ.lt
    go_wp2_with fail
    go_ret2
    exact RetInts.nil hr.out HW
  cases k3 : fitOk q0 q1 q2 zf
  · have hr := Lib.hid (show alR q0 q1 q2 zf xs f = ([], 1) by simp [alR, lsOk, k3])
    clear hfo
    go_enter Try.func42, Try.ntmps42
    go_wp2_with fail
    refine (ValidLasts_any _ _ _ _ _ ((hX.alloc _).alloc _) (by omega) hx).mono ?_
    rintro e w1 ⟨rfl, H1⟩
    have BF := ((Blk.new w 25 #[.int .i64 f.l, .int .i64 f.b, .int .i64 f.i, .int .i64 f.h]).alloc (.cells #[.int .i64 q0, .int .i64 q1, .int .i64 q2, .slice Af nf cf] 53)).below H1
    have BQ := (Blk.new1 w _ 53 #[.int .i64 q0, .int .i64 q1, .int .i64 q2, .slice Af nf cf]).below H1
    have HW : Below w.heap.size w w1 := Bl.then (by go_grown) H1
    clear H1
    have cF0 : w1.cell? ⟨w.heap.size, 0, none⟩ = some (.int .i64 f.l) := BF.cell 0
    have cF1 : w1.cell? ⟨w.heap.size, 1, none⟩ = some (.int .i64 f.b) := BF.cell 1
    have cF2 : w1.cell? ⟨w.heap.size, 2, none⟩ = some (.int .i64 f.i) := BF.cell 2
    have cF3 : w1.cell? ⟨w.heap.size, 3, none⟩ = some (.int .i64 f.h) := BF.cell 3
    have lF := BF.lt
    have cQ0 : w1.cell? ⟨w.heap.size + 1, 0, none⟩ = some (.int .i64 q0) := BQ.cell 0
    have cQ1 : w1.cell? ⟨w.heap.size + 1, 1, none⟩ = some (.int .i64 q1) := BQ.cell 1
    have cQ2 : w1.cell? ⟨w.heap.size + 1, 2, none⟩ = some (.int .i64 q2) := BQ.cell 2
    have cQ3 : w1.cell? ⟨w.heap.size + 1, 3, none⟩ = some (.slice Af nf cf) := BQ.cell 3
    have lQ := BQ.lt
    go_wp2_with fail
    refine (ValidFoot_any _ _ _ _ _).mono ?_
    rintro e w2 ⟨rfl, hb2⟩
    clear cF0 cF1 cF2 cF3 lF cQ0 cQ1 cQ2 cQ3 lQ
    replace BF := BF.below hb2
    replace BQ := BQ.below hb2
    replace HW := Bl.then HW hb2
    have cF0 : w2.cell? ⟨w.heap.size, 0, none⟩ = some (.int .i64 f.l) := BF.cell 0
    have cF1 : w2.cell? ⟨w.heap.size, 1, none⟩ = some (.int .i64 f.b) := BF.cell 1
    have cF2 : w2.cell? ⟨w.heap.size, 2, none⟩ = some (.int .i64 f.i) := BF.cell 2
    have cF3 : w2.cell? ⟨w.heap.size, 3, none⟩ = some (.int .i64 f.h) := BF.cell 3
    have lF := BF.lt
    have cQ0 : w2.cell? ⟨w.heap.size + 1, 0, none⟩ = some (.int .i64 q0) := BQ.cell 0
    have cQ1 : w2.cell? ⟨w.heap.size + 1, 1, none⟩ = some (.int .i64 q1) := BQ.cell 1
    have cQ2 : w2.cell? ⟨w.heap.size + 1, 2, none⟩ = some (.int .i64 q2) := BQ.cell 2
    have cQ3 : w2.cell? ⟨w.heap.size + 1, 3, none⟩ = some (.slice Af nf cf) := BQ.cell 3
    have lQ := BQ.lt
    go_wp2_with fail
    refine (ValidFit_any _ _ _ _ _ _ _ _ (h0.below HW) hnf).mono ?_
    rintro e w3 ⟨rfl, hb3⟩
    clear cF0 cF1 cF2 cF3 lF cQ0 cQ1 cQ2 cQ3 lQ
    replace BF := BF.below hb3
    replace BQ := BQ.below hb3
    replace HW := Bl.then HW hb3
    have cF0 : w3.cell? ⟨w.heap.size, 0, none⟩ = some (.int .i64 f.l) := BF.cell 0
    have cF1 : w3.cell? ⟨w.heap.size, 1, none⟩ = some (.int .i64 f.b) := BF.cell 1
    have cF2 : w3.cell? ⟨w.heap.size, 2, none⟩ = some (.int .i64 f.i) := BF.cell 2
    have cF3 : w3.cell? ⟨w.heap.size, 3, none⟩ = some (.int .i64 f.h) := BF.cell 3
    have lF := BF.lt
    have cQ0 : w3.cell? ⟨w.heap.size + 1, 0, none⟩ = some (.int .i64 q0) := BQ.cell 0
    have cQ1 : w3.cell? ⟨w.heap.size + 1, 1, none⟩ = some (.int .i64 q1) := BQ.cell 1
    have cQ2 : w3.cell? ⟨w.heap.size + 1, 2, none⟩ = some (.int .i64 q2) := BQ.cell 2
    have cQ3 : w3.cell? ⟨w.heap.size + 1, 3, none⟩ = some (.slice Af nf cf) := BQ.cell 3
    have lQ := BQ.lt
    go_wp2_with fail
    go_ret2
    exact RetInts.nil hr.out HW
  have hr := Lib.hid (show alR q0 q1 q2 zf xs f = (accL (alwI q0 q1 q2 xs [f]) xs.length, 0) by simp [alR, lsOk, k1, ← hfo, k2, k3])
  have k9 := Lib.hid (lastsOk_bd k1)
  have kx := Lib.hid (fun (k : Nat) (hk : k < xs.length) => lOk_bd k1 hk)
  have kf := Lib.hid (feet_one (show fOk f = true from k2))
  have k3' := Lib.hid k3
  clear hfo
  go_enter Try.func42, Try.ntmps42
  go_wp2_with fail
  refine (ValidLasts_any _ _ _ _ _ ((hX.alloc _).alloc _) (by omega) hx).mono ?_
  rintro e w1 ⟨rfl, H1⟩
  have BF := ((Blk.new w 25 #[.int .i64 f.l, .int .i64 f.b, .int .i64 f.i, .int .i64 f.h]).alloc (.cells #[.int .i64 q0, .int .i64 q1, .int .i64 q2, .slice Af nf cf] 53)).below H1
  have BQ := (Blk.new1 w _ 53 #[.int .i64 q0, .int .i64 q1, .int .i64 q2, .slice Af nf cf]).below H1
  have HW : Below w.heap.size w w1 := Bl.then (by go_grown) H1
  clear H1
  have cF0 : w1.cell? ⟨w.heap.size, 0, none⟩ = some (.int .i64 f.l) := BF.cell 0
  have cF1 : w1.cell? ⟨w.heap.size, 1, none⟩ = some (.int .i64 f.b) := BF.cell 1
  have cF2 : w1.cell? ⟨w.heap.size, 2, none⟩ = some (.int .i64 f.i) := BF.cell 2
  have cF3 : w1.cell? ⟨w.heap.size, 3, none⟩ = some (.int .i64 f.h) := BF.cell 3
  have lF := BF.lt
  have cQ0 : w1.cell? ⟨w.heap.size + 1, 0, none⟩ = some (.int .i64 q0) := BQ.cell 0
  have cQ1 : w1.cell? ⟨w.heap.size + 1, 1, none⟩ = some (.int .i64 q1) := BQ.cell 1
  have cQ2 : w1.cell? ⟨w.heap.size + 1, 2, none⟩ = some (.int .i64 q2) := BQ.cell 2
  have cQ3 : w1.cell? ⟨w.heap.size + 1, 3, none⟩ = some (.slice Af nf cf) := BQ.cell 3
  have lQ := BQ.lt
  go_wp2_with fail
  refine (ValidFoot_any _ _ _ _ _).mono ?_
  rintro e w2 ⟨rfl, hb2⟩
  clear cF0 cF1 cF2 cF3 lF cQ0 cQ1 cQ2 cQ3 lQ
  replace BF := BF.below hb2
  replace BQ := BQ.below hb2
  replace HW := Bl.then HW hb2
  have cF0 : w2.cell? ⟨w.heap.size, 0, none⟩ = some (.int .i64 f.l) := BF.cell 0
  have cF1 : w2.cell? ⟨w.heap.size, 1, none⟩ = some (.int .i64 f.b) := BF.cell 1
  have cF2 : w2.cell? ⟨w.heap.size, 2, none⟩ = some (.int .i64 f.i) := BF.cell 2
  have cF3 : w2.cell? ⟨w.heap.size, 3, none⟩ = some (.int .i64 f.h) := BF.cell 3
  have lF := BF.lt
  have cQ0 : w2.cell? ⟨w.heap.size + 1, 0, none⟩ = some (.int .i64 q0) := BQ.cell 0
  have cQ1 : w2.cell? ⟨w.heap.size + 1, 1, none⟩ = some (.int .i64 q1) := BQ.cell 1
  have cQ2 : w2.cell? ⟨w.heap.size + 1, 2, none⟩ = some (.int .i64 q2) := BQ.cell 2
  have cQ3 : w2.cell? ⟨w.heap.size + 1, 3, none⟩ = some (.slice Af nf cf) := BQ.cell 3
  have lQ := BQ.lt
  go_wp2_with fail
  refine (ValidFit_any _ _ _ _ _ _ _ _ (h0.below HW) hnf).mono ?_
  rintro e w3 ⟨rfl, hb3⟩
  clear cF0 cF1 cF2 cF3 lF cQ0 cQ1 cQ2 cQ3 lQ
  replace BF := BF.below hb3
  replace BQ := BQ.below hb3
  replace HW := Bl.then HW hb3
  have cF0 : w3.cell? ⟨w.heap.size, 0, none⟩ = some (.int .i64 f.l) := BF.cell 0
  have cF1 : w3.cell? ⟨w.heap.size, 1, none⟩ = some (.int .i64 f.b) := BF.cell 1
  have cF2 : w3.cell? ⟨w.heap.size, 2, none⟩ = some (.int .i64 f.i) := BF.cell 2
  have cF3 : w3.cell? ⟨w.heap.size, 3, none⟩ = some (.int .i64 f.h) := BF.cell 3
  have lF := BF.lt
  have cQ0 : w3.cell? ⟨w.heap.size + 1, 0, none⟩ = some (.int .i64 q0) := BQ.cell 0
  have cQ1 : w3.cell? ⟨w.heap.size + 1, 1, none⟩ = some (.int .i64 q1) := BQ.cell 1
  have cQ2 : w3.cell? ⟨w.heap.size + 1, 2, none⟩ = some (.int .i64 q2) := BQ.cell 2
  have cQ3 : w3.cell? ⟨w.heap.size + 1, 3, none⟩ = some (.slice Af nf cf) := BQ.cell 3
  have lQ := BQ.lt
  go_wp2_with fail
  clear cF0 cF1 cF2 cF3 lF cQ0 cQ1 cQ2 cQ3 lQ
  replace BF := BF.alloc (.cells #[.int .i64 f.l, .int .i64 f.b, .int .i64 f.i, .int .i64 f.h] 25)
  replace BQ := BQ.alloc (.cells #[.int .i64 f.l, .int .i64 f.b, .int .i64 f.i, .int .i64 f.h] 25)
  have BL := Blk.new w3 25 #[.int .i64 f.l, .int .i64 f.b, .int .i64 f.i, .int .i64 f.h]
  replace HW := Bl.alloc HW (.cells #[.int .i64 f.l, .int .i64 f.b, .int .i64 f.i, .int .i64 f.h] 25)
  refine (allowed_any _ _ _ xs _ _ _ _ _ _ zf _ _ _ [f] _ (hX.below HW) (h0.below HW) (rd_foot BL) (by have := k9.out.1; rw [hxl.out] at this; exact this) (by decide) kx.out kf.out k3'.out).mono ?_
  rintro e w8 ⟨A5, c5, B5, d5, rfl, o5, p5, hb8⟩
  have HS := HW.size
  replace BF := BF.below hb8
  replace BQ := BQ.below hb8
  replace BL := BL.below hb8
  replace HW := Bl.then HW hb8
  have cF0 : w8.cell? ⟨w.heap.size, 0, none⟩ = some (.int .i64 f.l) := BF.cell 0
  have cF1 : w8.cell? ⟨w.heap.size, 1, none⟩ = some (.int .i64 f.b) := BF.cell 1
  have cF2 : w8.cell? ⟨w.heap.size, 2, none⟩ = some (.int .i64 f.i) := BF.cell 2
  have cF3 : w8.cell? ⟨w.heap.size, 3, none⟩ = some (.int .i64 f.h) := BF.cell 3
  have lF := BF.lt
  have cQ0 : w8.cell? ⟨w.heap.size + 1, 0, none⟩ = some (.int .i64 q0) := BQ.cell 0
  have cQ1 : w8.cell? ⟨w.heap.size + 1, 1, none⟩ = some (.int .i64 q1) := BQ.cell 1
  have cQ2 : w8.cell? ⟨w.heap.size + 1, 2, none⟩ = some (.int .i64 q2) := BQ.cell 2
  have cQ3 : w8.cell? ⟨w.heap.size + 1, 3, none⟩ = some (.slice Af nf cf) := BQ.cell 3
  have lQ := BQ.lt
  have cL0 : w8.cell? ⟨w3.heap.size, 0, none⟩ = some (.int .i64 f.l) := BL.cell 0
  have cL1 : w8.cell? ⟨w3.heap.size, 1, none⟩ = some (.int .i64 f.b) := BL.cell 1
  have cL2 : w8.cell? ⟨w3.heap.size, 2, none⟩ = some (.int .i64 f.i) := BL.cell 2
  have cL3 : w8.cell? ⟨w3.heap.size, 3, none⟩ = some (.int .i64 f.h) := BL.cell 3
  have lL := BL.lt
  go_wp2_with fail
  go_ret2
  exact RetInts.mk hr.out (ownsRow_le' o5 HS) HW
set_option maxRecDepth 100000 in
theorem sAllowedLasts_any (A : Option Addr) (n c : Nat) (xs : List LastD) (f : FootD) (q0 q1 q2 : Int) (Af : Option Addr) (nf cf : Nat) (zf : List Int) (w : World) (hX : Rd w 6 A n (lasts xs)) (hn : n ≤ 1048576) (hx : ∀ x ∈ xs, x.s.size ≤ maxLen) (h0 : Rd w 1 Af nf (ints zf)) (hnf : nf ≤ 1048576) :
    Calls Try.prog 41 #[.slice A n c, .agg #[.int .i64 f.l, .int .i64 f.b, .int .i64 f.i, .int .i64 f.h], .agg #[.int .i64 q0, .int .i64 q1, .int .i64 q2, .slice Af nf cf]] w (RetInts (alR q0 q1 q2 zf xs f) w) := by
  have hxl := Lib.hid hX.lasts_length
  cases k1 : lsOk q0 q1 q2 zf xs f
  · have hr := Lib.hid (show alR q0 q1 q2 zf xs f = ([], 1) by simp [alR, k1])
    go_enter Try.func41, Try.ntmps41
    go_wp2_with fail
    refine (l04Code_any _ _ _ _ f _ _ _ _ _ _ _ _ _ ((hX.alloc _).alloc _) hn hx (Blk.new1 w _ 53 #[.int .i64 q0, .int .i64 q1, .int .i64 q2, .slice Af nf cf]) ((h0.alloc _).alloc _) hnf).mono ?_
    rintro e w1 ⟨rfl, H1⟩
    have BF := ((Blk.new w 25 #[.int .i64 f.l, .int .i64 f.b, .int .i64 f.i, .int .i64 f.h]).alloc (.cells #[.int .i64 q0, .int .i64 q1, .int .i64 q2, .slice Af nf cf] 53)).below H1
    have BQ := (Blk.new1 w _ 53 #[.int .i64 q0, .int .i64 q1, .int .i64 q2, .slice Af nf cf]).below H1
    have HW : Below w.heap.size w w1 := Bl.then (by go_grown) H1
    clear H1
    have cF0 : w1.cell? ⟨w.heap.size, 0, none⟩ = some (.int .i64 f.l) := BF.cell 0
    have cF1 : w1.cell? ⟨w.heap.size, 1, none⟩ = some (.int .i64 f.b) := BF.cell 1
    have cF2 : w1.cell? ⟨w.heap.size, 2, none⟩ = some (.int .i64 f.i) := BF.cell 2
    have cF3 : w1.cell? ⟨w.heap.size, 3, none⟩ = some (.int .i64 f.h) := BF.cell 3
    have lF := BF.lt
    have cQ0 : w1.cell? ⟨w.heap.size + 1, 0, none⟩ = some (.int .i64 q0) := BQ.cell 0
    have cQ1 : w1.cell? ⟨w.heap.size + 1, 1, none⟩ = some (.int .i64 q1) := BQ.cell 1
    have cQ2 : w1.cell? ⟨w.heap.size + 1, 2, none⟩ = some (.int .i64 q2) := BQ.cell 2
    have cQ3 : w1.cell? ⟨w.heap.size + 1, 3, none⟩ = some (.slice Af nf cf) := BQ.cell 3
    have lQ := BQ.lt
    go_wp2_with fail
    go_ret2
    exact RetInts.nil hr.out HW
  have hr := Lib.hid (show alR q0 q1 q2 zf xs f = (accL (alwI q0 q1 q2 xs [f]) xs.length, 0) by simp [alR, k1])
  have k2 := lsOk_bd k1
  have k9 := Lib.hid (lastsOk_bd k2.1)
  have kx := Lib.hid (fun (k : Nat) (hk : k < xs.length) => lOk_bd k2.1 hk)
  have kf := Lib.hid k2.2.1
  have kq := Lib.hid k2.2.2
  have hal := Lib.hid (accL_len (alwI_len q0 q1 q2 xs [f]))
  clear k2
  go_enter Try.func41, Try.ntmps41
  go_wp2_with fail
  refine (l04Code_any _ _ _ _ f _ _ _ _ _ _ _ _ _ ((hX.alloc _).alloc _) hn hx (Blk.new1 w _ 53 #[.int .i64 q0, .int .i64 q1, .int .i64 q2, .slice Af nf cf]) ((h0.alloc _).alloc _) hnf).mono ?_
  rintro e w1 ⟨rfl, H1⟩
  have BF := ((Blk.new w 25 #[.int .i64 f.l, .int .i64 f.b, .int .i64 f.i, .int .i64 f.h]).alloc (.cells #[.int .i64 q0, .int .i64 q1, .int .i64 q2, .slice Af nf cf] 53)).below H1
  have BQ := (Blk.new1 w _ 53 #[.int .i64 q0, .int .i64 q1, .int .i64 q2, .slice Af nf cf]).below H1
  have HW : Below w.heap.size w w1 := Bl.then (by go_grown) H1
  clear H1
  have cF0 : w1.cell? ⟨w.heap.size, 0, none⟩ = some (.int .i64 f.l) := BF.cell 0
  have cF1 : w1.cell? ⟨w.heap.size, 1, none⟩ = some (.int .i64 f.b) := BF.cell 1
  have cF2 : w1.cell? ⟨w.heap.size, 2, none⟩ = some (.int .i64 f.i) := BF.cell 2
  have cF3 : w1.cell? ⟨w.heap.size, 3, none⟩ = some (.int .i64 f.h) := BF.cell 3
  have lF := BF.lt
  have cQ0 : w1.cell? ⟨w.heap.size + 1, 0, none⟩ = some (.int .i64 q0) := BQ.cell 0
  have cQ1 : w1.cell? ⟨w.heap.size + 1, 1, none⟩ = some (.int .i64 q1) := BQ.cell 1
  have cQ2 : w1.cell? ⟨w.heap.size + 1, 2, none⟩ = some (.int .i64 q2) := BQ.cell 2
  have cQ3 : w1.cell? ⟨w.heap.size + 1, 3, none⟩ = some (.slice Af nf cf) := BQ.cell 3
  have lQ := BQ.lt
  clear cF0 cF1 cF2 cF3 lF cQ0 cQ1 cQ2 cQ3 lQ
  have RX := hX.below HW
  have RQ := h0.below HW
  go_wp2_with fail
  have oo := own_lit (W := w1) (cs := #[]) (e := 2) (size := 1) (n := 0) (xs := ints (accL (alwI q0 q1 q2 xs [f]) 0)) rfl (Nat.le_refl w1.heap.size) (by decide) rfl rfl
  have HM := Bl.alloc (Below.refl w1.heap.size w1) (.cells #[] 2)
  go_loopw [8, 9] (fun v i wr => ∃ (m : Nat) (A' : Option Addr) (q c' : Nat), m ≤ n ∧ i = .int .i64 m ∧ v = .slice A' q c' ∧ q ≤ m ∧ wr.ownsRow w1.heap.size 2 1 (.slice A' q c') q (ints (accL (alwI q0 q1 q2 xs [f]) m)) ∧ Below w1.heap.size w1 wr) (fun _ i _ => n - (intOf i).toNat)
  case atStart => exact ⟨0, _, _, _, by omega, rfl, rfl, by omega, oo, HM⟩
  case round =>
    clear oo HM
    obtain ⟨m, A', q, c', hmn, rfl, rfl, hqm, ho, HP⟩ := hrel
    by_cases hlm : m < n
    · have hxk := Lib.hid (show lastOk (lastsAt xs m).s (lastsAt xs m).l (lastsAt xs m).b (lastsAt xs m).i (lastsAt xs m).h (lastsAt xs m).p = true from kx.out m (by rw [hxl.out]; exact hlm))
      have kfo := Lib.hid (show footOk f.l f.b f.i f.h = true from kf.out)
      obtain ⟨b, off, eA, hbl, i0, i1, i2, i3, i4, i5⟩ := (RX.below HP).lasts hlm
      subst eA
      have BQr := BQ.below HP
      have BFr := BF.below HP
      have RQr := RQ.below HP
      have kF := BFr.cell
      have lF := BFr.lt
      have hm9 := costR_sign (q0 := q0) (q1 := q1) (q2 := q2) (zf := zf) (x := lastsAt xs m) (f := f) kq.out
      have hq30 : q ≤ 30 := by have := k9.out.1; rw [hxl.out] at this; omega
      cases hmx : mX q0 q1 q2 (lastsAt xs m) f
      · have hg0 := Lib.hid (accL_skip (g := alwI q0 q1 q2 xs [f]) (k := m) (by rw [alw_one, if_neg (by rw [hmx]; decide)]))
        have hng : costR (lastsAt xs m).l (lastsAt xs m).b (lastsAt xs m).i (lastsAt xs m).h f.l f.b f.i f.h q0 q1 q2 zf < 0 := by rw [hmx] at hm9; simpa using hm9
        clear hm9 hmx
        go_wp2_with fail
        refine wp_region_held_drew (S := (fun wz => Below wr.heap.size wr wz ∧ ∀ b o, b < wr.heap.size → wz.cell? ⟨b, o, none⟩ = wr.cell? ⟨b, o, none⟩)) (by kernel_rfl) (old_of (Below.drew (Below.refl _ _))) (fun hHeld => ?_)
        refine wpAnyH_take (i := 0) (oi := ?_) (v := ?_) ?_ (by kernel_rfl) (by kernel_rfl) (by kernel_rfl) ?_ (Or.inl ⟨?_, ?_⟩) (by assumption) ?_
        rotate_left 2
        · (simp only [List.getElem?_toArray, List.getElem?_cons_zero]; rfl)
        · exact fun _ _ _ h => h
        · rfl
        · intro w hSw
          (try dsimp only at hSw)
          go_simp
          try with_reducible rfl
        simp only [put_arr, List.set_cons_zero, List.set_cons_succ]
        refine wpAnyH_take (i := 1) (oi := ?_) (v := ?_) ?_ (by kernel_rfl) (by kernel_rfl) (by kernel_rfl) ?_ (Or.inl ⟨?_, ?_⟩) (by assumption) ?_
        rotate_left 2
        · (simp only [List.getElem?_toArray, List.getElem?_cons_zero, List.getElem?_cons_succ]; rfl)
        · exact fun _ _ _ h => h
        · rfl
        · intro w hSw
          (try dsimp only at hSw)
          go_simp
          try with_reducible rfl
        simp only [put_arr, List.set_cons_zero, List.set_cons_succ]
        refine wpAnyH_take (i := 2) (oi := ?_) (v := ?_) ?_ (by kernel_rfl) (by kernel_rfl) (by kernel_rfl) ?_ (Or.inl ⟨?_, ?_⟩) (by assumption) ?_
        rotate_left 2
        · (simp only [List.getElem?_toArray, List.getElem?_cons_zero, List.getElem?_cons_succ]; rfl)
        · exact fun _ _ _ h => h
        · rfl
        · intro w hSw
          (try dsimp only at hSw)
          go_simp
          try with_reducible rfl
        simp only [put_arr, List.set_cons_zero, List.set_cons_succ]
        refine wpAnyH_take (i := 3) (oi := ?_) (v := ?_) ?_ (by kernel_rfl) (by kernel_rfl) (by kernel_rfl) ?_ (Or.inl ⟨?_, ?_⟩) (by assumption) ?_
        rotate_left 2
        · (simp only [List.getElem?_toArray, List.getElem?_cons_zero, List.getElem?_cons_succ]; rfl)
        · exact fun _ _ _ h => h
        · rfl
        · intro w hSw
          (try dsimp only at hSw)
          go_simp
          try with_reducible rfl
        simp only [put_arr, List.set_cons_zero, List.set_cons_succ]
        refine wpAnyH_take (i := 4) (oi := ?_) (v := ?_) ?_ (by kernel_rfl) (by kernel_rfl) (by kernel_rfl) ?_ (Or.inl ⟨?_, ?_⟩) (by assumption) ?_
        rotate_left 2
        · (simp only [List.getElem?_toArray, List.getElem?_cons_zero, List.getElem?_cons_succ]; rfl)
        · exact fun _ _ _ h => h
        · rfl
        · intro w hSw
          (try dsimp only at hSw)
          go_simp
          try with_reducible rfl
        simp only [put_arr, List.set_cons_zero, List.set_cons_succ]
        refine wpAnyH_ready (rs := [5]) (by kernel_rfl) (by simp) ?_
        refine AllReadyH.cons (o := ?_) ?_ (fun K hK => ?_) AllReadyH.nil
        rotate_left
        · (simp only [List.getElem?_toArray, List.getElem?_cons_zero, List.getElem?_cons_succ]; rfl)
        rw [if_pos (by rfl)]
        go_simp
        (with_reducible refine (l04Cost_any _ _ _ _ _ _ _ _ _ _ _ _ _ _ _ _ _ _ _ (BQr.below hHeld.1) (RQr.below hHeld.1) hxk.out kfo.out kq.out).mono ?_)
        rintro e w2 ⟨rfl, hb2⟩
        have HZ := Bl.then (w := wr) hHeld.1 hb2
        go_wp2_with fail
        refine hK.out _ _ (old_of HZ) (fun hHeld2 => ?_)
        clear hK K hHeld
        have hHeld := hHeld2
        clear hHeld2
        refine wpAnyH_take (i := 6) (oi := ?_) (v := ?_) ?_ (by kernel_rfl) (by kernel_rfl) (by kernel_rfl) ?_ (Or.inl ⟨?_, ?_⟩) (by assumption) ?_
        rotate_left 2
        · (simp only [List.getElem?_toArray, List.getElem?_cons_zero, List.getElem?_cons_succ]; rfl)
        · exact fun _ _ _ h => h
        · rfl
        · intro w hSw
          (try dsimp only at hSw)
          go_simp
          try with_reducible rfl
        simp only [put_arr, List.set_cons_zero, List.set_cons_succ]
        refine wpAnyH_done (by kernel_rfl) ?_ _
        go_wp2_with fail
        go_roundw
        case rel => exact ⟨m + 1, A', q, c', by omega, by go_num, rfl, by omega, by rw [← hg0.out]; exact own_below ho HZ, Bl.then HP HZ⟩
        case measure => simp [intOf]; omega
      · have hg0 := Lib.hid (accL_add (g := alwI q0 q1 q2 xs [f]) (k := m) (x := (m : Int)) (by rw [alw_one, if_pos hmx]))
        have hps : 0 ≤ costR (lastsAt xs m).l (lastsAt xs m).b (lastsAt xs m).i (lastsAt xs m).h f.l f.b f.i f.h q0 q1 q2 zf := by rw [hmx] at hm9; simpa using hm9
        clear hm9 hmx
        go_wp2_with fail
        refine wp_region_held_drew (S := (fun wz => Below wr.heap.size wr wz ∧ ∀ b o, b < wr.heap.size → wz.cell? ⟨b, o, none⟩ = wr.cell? ⟨b, o, none⟩)) (by kernel_rfl) (old_of (Below.drew (Below.refl _ _))) (fun hHeld => ?_)
        refine wpAnyH_take (i := 0) (oi := ?_) (v := ?_) ?_ (by kernel_rfl) (by kernel_rfl) (by kernel_rfl) ?_ (Or.inl ⟨?_, ?_⟩) (by assumption) ?_
        rotate_left 2
        · (simp only [List.getElem?_toArray, List.getElem?_cons_zero]; rfl)
        · exact fun _ _ _ h => h
        · rfl
        · intro w hSw
          (try dsimp only at hSw)
          go_simp
          try with_reducible rfl
        simp only [put_arr, List.set_cons_zero, List.set_cons_succ]
        refine wpAnyH_take (i := 1) (oi := ?_) (v := ?_) ?_ (by kernel_rfl) (by kernel_rfl) (by kernel_rfl) ?_ (Or.inl ⟨?_, ?_⟩) (by assumption) ?_
        rotate_left 2
        · (simp only [List.getElem?_toArray, List.getElem?_cons_zero, List.getElem?_cons_succ]; rfl)
        · exact fun _ _ _ h => h
        · rfl
        · intro w hSw
          (try dsimp only at hSw)
          go_simp
          try with_reducible rfl
        simp only [put_arr, List.set_cons_zero, List.set_cons_succ]
        refine wpAnyH_take (i := 2) (oi := ?_) (v := ?_) ?_ (by kernel_rfl) (by kernel_rfl) (by kernel_rfl) ?_ (Or.inl ⟨?_, ?_⟩) (by assumption) ?_
        rotate_left 2
        · (simp only [List.getElem?_toArray, List.getElem?_cons_zero, List.getElem?_cons_succ]; rfl)
        · exact fun _ _ _ h => h
        · rfl
        · intro w hSw
          (try dsimp only at hSw)
          go_simp
          try with_reducible rfl
        simp only [put_arr, List.set_cons_zero, List.set_cons_succ]
        refine wpAnyH_take (i := 3) (oi := ?_) (v := ?_) ?_ (by kernel_rfl) (by kernel_rfl) (by kernel_rfl) ?_ (Or.inl ⟨?_, ?_⟩) (by assumption) ?_
        rotate_left 2
        · (simp only [List.getElem?_toArray, List.getElem?_cons_zero, List.getElem?_cons_succ]; rfl)
        · exact fun _ _ _ h => h
        · rfl
        · intro w hSw
          (try dsimp only at hSw)
          go_simp
          try with_reducible rfl
        simp only [put_arr, List.set_cons_zero, List.set_cons_succ]
        refine wpAnyH_take (i := 4) (oi := ?_) (v := ?_) ?_ (by kernel_rfl) (by kernel_rfl) (by kernel_rfl) ?_ (Or.inl ⟨?_, ?_⟩) (by assumption) ?_
        rotate_left 2
        · (simp only [List.getElem?_toArray, List.getElem?_cons_zero, List.getElem?_cons_succ]; rfl)
        · exact fun _ _ _ h => h
        · rfl
        · intro w hSw
          (try dsimp only at hSw)
          go_simp
          try with_reducible rfl
        simp only [put_arr, List.set_cons_zero, List.set_cons_succ]
        refine wpAnyH_ready (rs := [5]) (by kernel_rfl) (by simp) ?_
        refine AllReadyH.cons (o := ?_) ?_ (fun K hK => ?_) AllReadyH.nil
        rotate_left
        · (simp only [List.getElem?_toArray, List.getElem?_cons_zero, List.getElem?_cons_succ]; rfl)
        rw [if_pos (by rfl)]
        go_simp
        (with_reducible refine (l04Cost_any _ _ _ _ _ _ _ _ _ _ _ _ _ _ _ _ _ _ _ (BQr.below hHeld.1) (RQr.below hHeld.1) hxk.out kfo.out kq.out).mono ?_)
        rintro e w2 ⟨rfl, hb2⟩
        have HZ := Bl.then (w := wr) hHeld.1 hb2
        go_wp2_with fail
        refine hK.out _ _ (old_of HZ) (fun hHeld2 => ?_)
        clear hK K hHeld
        have hHeld := hHeld2
        clear hHeld2
        refine wpAnyH_take (i := 6) (oi := ?_) (v := ?_) ?_ (by kernel_rfl) (by kernel_rfl) (by kernel_rfl) ?_ (Or.inl ⟨?_, ?_⟩) (by assumption) ?_
        rotate_left 2
        · (simp only [List.getElem?_toArray, List.getElem?_cons_zero, List.getElem?_cons_succ]; rfl)
        · exact fun _ _ _ h => h
        · rfl
        · intro w hSw
          (try dsimp only at hSw)
          go_simp
          try with_reducible rfl
        simp only [put_arr, List.set_cons_zero, List.set_cons_succ]
        refine wpAnyH_done (by kernel_rfl) ?_ _
        have HP3 := Bl.then HP HZ
        have ho3 := own_below ho HZ
        go_wp2_with (at_builtin; refine wpList_app_int _ rfl _ _ rfl _ _ _ _ _ _ rfl ho3 rfl HP3.size (by omega) ?_; intro A2 c2 w4 ho4 hg4)
        go_roundw
        case rel => exact ⟨m + 1, A2, q + 1, c2, by omega, by go_num, rfl, by omega, by rw [← hg0.out]; exact ho4, app_below ho3 HP3 (Nat.le_refl _) HP3.size hg4⟩
        case measure => simp [intOf]; omega
    · obtain rfl : m = n := by omega
      go_wp2_with fail
      go_ret2
      refine RetInts.mk hr.out (ownsRow_le' ?_ HW.size) (Bl.then HW HP)
      rw [hxl.out]
      exact ho
end Go.Proofs.Ytlbgognkaolamaa
