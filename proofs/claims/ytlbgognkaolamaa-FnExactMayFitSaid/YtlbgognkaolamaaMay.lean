/-
  MayFit and FitCost of the program and of the reference; names are any strings that Go can hold, weights read as the given list.
-/
import Derived.Test.YtlbgognkaolamaaCost
namespace Go.Proofs.Ytlbgognkaolamaa
open Go.RowKit
set_option maxHeartbeats 1600000

noncomputable def allOk (s : ByteArray) (l b i h p fl fb fi fh q0 q1 q2 : Int) (zf : List Int) : Bool := lastOk s l b i h p && footOk fl fb fi fh && fitOk q0 q1 q2 zf
noncomputable def mayV (s : ByteArray) (l b i h p fl fb fi fh q0 q1 q2 : Int) (zf : List Int) : Bool := allOk s l b i h p fl fb fi fh q0 q1 q2 zf && mayF l b i h fl fb fi fh q0 q1 q2
noncomputable def mayC (s : ByteArray) (l b i h p fl fb fi fh q0 q1 q2 : Int) (zf : List Int) : Int := if allOk s l b i h p fl fb fi fh q0 q1 q2 zf = true then 0 else 1
noncomputable def fcV (s : ByteArray) (l b i h p fl fb fi fh q0 q1 q2 : Int) (zf : List Int) : Int := if allOk s l b i h p fl fb fi fh q0 q1 q2 zf = true then (if mayF l b i h fl fb fi fh q0 q1 q2 = true then costF l b i h fl fb fi fh q0 zf else 0) else 0
noncomputable def fcC (s : ByteArray) (l b i h p fl fb fi fh q0 q1 q2 : Int) (zf : List Int) : Int := if allOk s l b i h p fl fb fi fh q0 q1 q2 zf = true then (if mayF l b i h fl fb fi fh q0 q1 q2 = true then 0 else 10) else 1
theorem ret_bc {a b : Bool} {c d : Int} (h : a = b) (h' : c = d) : Ending.returned (.tuple #[.bool a, .int .i64 c]) = .returned (.tuple #[.bool b, .int .i64 d]) := by rw [h, h']
theorem no_may {s : ByteArray} {l b i h p fl fb fi fh q0 q1 q2 : Int} {zf : List Int} (hx : allOk s l b i h p fl fb fi fh q0 q1 q2 zf = false) : false = mayV s l b i h p fl fb fi fh q0 q1 q2 zf ∧ (1 : Int) = mayC s l b i h p fl fb fi fh q0 q1 q2 zf := by simp [mayV, mayC, hx]
theorem no_fc {s : ByteArray} {l b i h p fl fb fi fh q0 q1 q2 : Int} {zf : List Int} (hx : allOk s l b i h p fl fb fi fh q0 q1 q2 zf = false) : (0 : Int) = fcV s l b i h p fl fb fi fh q0 q1 q2 zf ∧ (1 : Int) = fcC s l b i h p fl fb fi fh q0 q1 q2 zf := by simp [fcV, fcC, hx]
set_option maxRecDepth 100000 in
theorem MayFit_any (s : ByteArray) (l b i h p fl fb fi fh q0 q1 q2 : Int) (Af : Option Addr) (nf cf : Nat) (zf : List Int) (w : World) (h0 : Rd w 1 Af nf (ints zf)) (hn : nf ≤ 1048576) (hs : s.size ≤ maxLen) :
    Calls Try.prog 34 #[.agg #[.string s, .int .i64 l, .int .i64 b, .int .i64 i, .int .i64 h, .int .i64 p], .agg #[.int .i64 fl, .int .i64 fb, .int .i64 fi, .int .i64 fh], .agg #[.int .i64 q0, .int .i64 q1, .int .i64 q2, .slice Af nf cf]] w fun e w' => e = .returned (.tuple #[.bool (mayV s l b i h p fl fb fi fh q0 q1 q2 zf), .int .i64 (mayC s l b i h p fl fb fi fh q0 q1 q2 zf)]) ∧ Below w.heap.size w w' := by
  cases k1 : lastOk s l b i h p
  · have hr := Lib.hid (no_may (show allOk s l b i h p fl fb fi fh q0 q1 q2 zf = false by simp [allOk, k1]))
    go_enter Try.func34, Try.ntmps34
    go_wp2_with fail
    refine (validLast_any _ _ _ _ _ _ _ hs).mono ?_
    rintro e w1 ⟨rfl, H1⟩
    have BX := (((Blk.new w 41 #[.string s, .int .i64 l, .int .i64 b, .int .i64 i, .int .i64 h, .int .i64 p]).alloc (.cells #[.int .i64 fl, .int .i64 fb, .int .i64 fi, .int .i64 fh] 25)).alloc (.cells #[.int .i64 q0, .int .i64 q1, .int .i64 q2, .slice Af nf cf] 53)).below H1
    have BF := ((Blk.new1 w _ 25 #[.int .i64 fl, .int .i64 fb, .int .i64 fi, .int .i64 fh]).alloc (.cells #[.int .i64 q0, .int .i64 q1, .int .i64 q2, .slice Af nf cf] 53)).below H1
    have BQ := (Blk.new2 w _ _ 53 #[.int .i64 q0, .int .i64 q1, .int .i64 q2, .slice Af nf cf]).below H1
    have HW : Below w.heap.size w w1 := Bl.then (by go_grown) H1
    clear H1
    have cX0 : w1.cell? ⟨w.heap.size, 0, none⟩ = some (.string s) := BX.cell 0
    have cX1 : w1.cell? ⟨w.heap.size, 1, none⟩ = some (.int .i64 l) := BX.cell 1
    have cX2 : w1.cell? ⟨w.heap.size, 2, none⟩ = some (.int .i64 b) := BX.cell 2
    have cX3 : w1.cell? ⟨w.heap.size, 3, none⟩ = some (.int .i64 i) := BX.cell 3
    have cX4 : w1.cell? ⟨w.heap.size, 4, none⟩ = some (.int .i64 h) := BX.cell 4
    have cX5 : w1.cell? ⟨w.heap.size, 5, none⟩ = some (.int .i64 p) := BX.cell 5
    have lX := BX.lt
    have cF0 : w1.cell? ⟨w.heap.size + 1, 0, none⟩ = some (.int .i64 fl) := BF.cell 0
    have cF1 : w1.cell? ⟨w.heap.size + 1, 1, none⟩ = some (.int .i64 fb) := BF.cell 1
    have cF2 : w1.cell? ⟨w.heap.size + 1, 2, none⟩ = some (.int .i64 fi) := BF.cell 2
    have cF3 : w1.cell? ⟨w.heap.size + 1, 3, none⟩ = some (.int .i64 fh) := BF.cell 3
    have lF := BF.lt
    have cQ0 : w1.cell? ⟨w.heap.size + 1 + 1, 0, none⟩ = some (.int .i64 q0) := BQ.cell 0
    have cQ1 : w1.cell? ⟨w.heap.size + 1 + 1, 1, none⟩ = some (.int .i64 q1) := BQ.cell 1
    have cQ2 : w1.cell? ⟨w.heap.size + 1 + 1, 2, none⟩ = some (.int .i64 q2) := BQ.cell 2
    have cQ3 : w1.cell? ⟨w.heap.size + 1 + 1, 3, none⟩ = some (.slice Af nf cf) := BQ.cell 3
    have lQ := BQ.lt
    go_wp2_with fail
    go_ret2
    exact ⟨ret_bc hr.out.1 hr.out.2, HW⟩
  cases k2 : footOk fl fb fi fh
  · have hr := Lib.hid (no_may (show allOk s l b i h p fl fb fi fh q0 q1 q2 zf = false by simp [allOk, k2]))
    go_enter Try.func34, Try.ntmps34
    go_wp2_with fail
    refine (validLast_any _ _ _ _ _ _ _ hs).mono ?_
    rintro e w1 ⟨rfl, H1⟩
    have BX := (((Blk.new w 41 #[.string s, .int .i64 l, .int .i64 b, .int .i64 i, .int .i64 h, .int .i64 p]).alloc (.cells #[.int .i64 fl, .int .i64 fb, .int .i64 fi, .int .i64 fh] 25)).alloc (.cells #[.int .i64 q0, .int .i64 q1, .int .i64 q2, .slice Af nf cf] 53)).below H1
    have BF := ((Blk.new1 w _ 25 #[.int .i64 fl, .int .i64 fb, .int .i64 fi, .int .i64 fh]).alloc (.cells #[.int .i64 q0, .int .i64 q1, .int .i64 q2, .slice Af nf cf] 53)).below H1
    have BQ := (Blk.new2 w _ _ 53 #[.int .i64 q0, .int .i64 q1, .int .i64 q2, .slice Af nf cf]).below H1
    have HW : Below w.heap.size w w1 := Bl.then (by go_grown) H1
    clear H1
    have cX0 : w1.cell? ⟨w.heap.size, 0, none⟩ = some (.string s) := BX.cell 0
    have cX1 : w1.cell? ⟨w.heap.size, 1, none⟩ = some (.int .i64 l) := BX.cell 1
    have cX2 : w1.cell? ⟨w.heap.size, 2, none⟩ = some (.int .i64 b) := BX.cell 2
    have cX3 : w1.cell? ⟨w.heap.size, 3, none⟩ = some (.int .i64 i) := BX.cell 3
    have cX4 : w1.cell? ⟨w.heap.size, 4, none⟩ = some (.int .i64 h) := BX.cell 4
    have cX5 : w1.cell? ⟨w.heap.size, 5, none⟩ = some (.int .i64 p) := BX.cell 5
    have lX := BX.lt
    have cF0 : w1.cell? ⟨w.heap.size + 1, 0, none⟩ = some (.int .i64 fl) := BF.cell 0
    have cF1 : w1.cell? ⟨w.heap.size + 1, 1, none⟩ = some (.int .i64 fb) := BF.cell 1
    have cF2 : w1.cell? ⟨w.heap.size + 1, 2, none⟩ = some (.int .i64 fi) := BF.cell 2
    have cF3 : w1.cell? ⟨w.heap.size + 1, 3, none⟩ = some (.int .i64 fh) := BF.cell 3
    have lF := BF.lt
    have cQ0 : w1.cell? ⟨w.heap.size + 1 + 1, 0, none⟩ = some (.int .i64 q0) := BQ.cell 0
    have cQ1 : w1.cell? ⟨w.heap.size + 1 + 1, 1, none⟩ = some (.int .i64 q1) := BQ.cell 1
    have cQ2 : w1.cell? ⟨w.heap.size + 1 + 1, 2, none⟩ = some (.int .i64 q2) := BQ.cell 2
    have cQ3 : w1.cell? ⟨w.heap.size + 1 + 1, 3, none⟩ = some (.slice Af nf cf) := BQ.cell 3
    have lQ := BQ.lt
    go_wp2_with fail
    refine (ValidFoot_any _ _ _ _ _).mono ?_
    rintro e w2 ⟨rfl, hb2⟩
    clear cX0 cX1 cX2 cX3 cX4 cX5 lX cF0 cF1 cF2 cF3 lF cQ0 cQ1 cQ2 cQ3 lQ
    replace BX := BX.below hb2
    replace BF := BF.below hb2
    replace BQ := BQ.below hb2
    replace HW := Bl.then HW hb2
    have cX0 : w2.cell? ⟨w.heap.size, 0, none⟩ = some (.string s) := BX.cell 0
    have cX1 : w2.cell? ⟨w.heap.size, 1, none⟩ = some (.int .i64 l) := BX.cell 1
    have cX2 : w2.cell? ⟨w.heap.size, 2, none⟩ = some (.int .i64 b) := BX.cell 2
    have cX3 : w2.cell? ⟨w.heap.size, 3, none⟩ = some (.int .i64 i) := BX.cell 3
    have cX4 : w2.cell? ⟨w.heap.size, 4, none⟩ = some (.int .i64 h) := BX.cell 4
    have cX5 : w2.cell? ⟨w.heap.size, 5, none⟩ = some (.int .i64 p) := BX.cell 5
    have lX := BX.lt
    have cF0 : w2.cell? ⟨w.heap.size + 1, 0, none⟩ = some (.int .i64 fl) := BF.cell 0
    have cF1 : w2.cell? ⟨w.heap.size + 1, 1, none⟩ = some (.int .i64 fb) := BF.cell 1
    have cF2 : w2.cell? ⟨w.heap.size + 1, 2, none⟩ = some (.int .i64 fi) := BF.cell 2
    have cF3 : w2.cell? ⟨w.heap.size + 1, 3, none⟩ = some (.int .i64 fh) := BF.cell 3
    have lF := BF.lt
    have cQ0 : w2.cell? ⟨w.heap.size + 1 + 1, 0, none⟩ = some (.int .i64 q0) := BQ.cell 0
    have cQ1 : w2.cell? ⟨w.heap.size + 1 + 1, 1, none⟩ = some (.int .i64 q1) := BQ.cell 1
    have cQ2 : w2.cell? ⟨w.heap.size + 1 + 1, 2, none⟩ = some (.int .i64 q2) := BQ.cell 2
    have cQ3 : w2.cell? ⟨w.heap.size + 1 + 1, 3, none⟩ = some (.slice Af nf cf) := BQ.cell 3
    have lQ := BQ.lt
    go_wp2_with fail
    go_ret2
    exact ⟨ret_bc hr.out.1 hr.out.2, HW⟩
  cases k3 : fitOk q0 q1 q2 zf
  · have hr := Lib.hid (no_may (show allOk s l b i h p fl fb fi fh q0 q1 q2 zf = false by simp [allOk, k3]))
    go_enter Try.func34, Try.ntmps34
    go_wp2_with fail
    refine (validLast_any _ _ _ _ _ _ _ hs).mono ?_
    rintro e w1 ⟨rfl, H1⟩
    have BX := (((Blk.new w 41 #[.string s, .int .i64 l, .int .i64 b, .int .i64 i, .int .i64 h, .int .i64 p]).alloc (.cells #[.int .i64 fl, .int .i64 fb, .int .i64 fi, .int .i64 fh] 25)).alloc (.cells #[.int .i64 q0, .int .i64 q1, .int .i64 q2, .slice Af nf cf] 53)).below H1
    have BF := ((Blk.new1 w _ 25 #[.int .i64 fl, .int .i64 fb, .int .i64 fi, .int .i64 fh]).alloc (.cells #[.int .i64 q0, .int .i64 q1, .int .i64 q2, .slice Af nf cf] 53)).below H1
    have BQ := (Blk.new2 w _ _ 53 #[.int .i64 q0, .int .i64 q1, .int .i64 q2, .slice Af nf cf]).below H1
    have HW : Below w.heap.size w w1 := Bl.then (by go_grown) H1
    clear H1
    have cX0 : w1.cell? ⟨w.heap.size, 0, none⟩ = some (.string s) := BX.cell 0
    have cX1 : w1.cell? ⟨w.heap.size, 1, none⟩ = some (.int .i64 l) := BX.cell 1
    have cX2 : w1.cell? ⟨w.heap.size, 2, none⟩ = some (.int .i64 b) := BX.cell 2
    have cX3 : w1.cell? ⟨w.heap.size, 3, none⟩ = some (.int .i64 i) := BX.cell 3
    have cX4 : w1.cell? ⟨w.heap.size, 4, none⟩ = some (.int .i64 h) := BX.cell 4
    have cX5 : w1.cell? ⟨w.heap.size, 5, none⟩ = some (.int .i64 p) := BX.cell 5
    have lX := BX.lt
    have cF0 : w1.cell? ⟨w.heap.size + 1, 0, none⟩ = some (.int .i64 fl) := BF.cell 0
    have cF1 : w1.cell? ⟨w.heap.size + 1, 1, none⟩ = some (.int .i64 fb) := BF.cell 1
    have cF2 : w1.cell? ⟨w.heap.size + 1, 2, none⟩ = some (.int .i64 fi) := BF.cell 2
    have cF3 : w1.cell? ⟨w.heap.size + 1, 3, none⟩ = some (.int .i64 fh) := BF.cell 3
    have lF := BF.lt
    have cQ0 : w1.cell? ⟨w.heap.size + 1 + 1, 0, none⟩ = some (.int .i64 q0) := BQ.cell 0
    have cQ1 : w1.cell? ⟨w.heap.size + 1 + 1, 1, none⟩ = some (.int .i64 q1) := BQ.cell 1
    have cQ2 : w1.cell? ⟨w.heap.size + 1 + 1, 2, none⟩ = some (.int .i64 q2) := BQ.cell 2
    have cQ3 : w1.cell? ⟨w.heap.size + 1 + 1, 3, none⟩ = some (.slice Af nf cf) := BQ.cell 3
    have lQ := BQ.lt
    go_wp2_with fail
    refine (ValidFoot_any _ _ _ _ _).mono ?_
    rintro e w2 ⟨rfl, hb2⟩
    clear cX0 cX1 cX2 cX3 cX4 cX5 lX cF0 cF1 cF2 cF3 lF cQ0 cQ1 cQ2 cQ3 lQ
    replace BX := BX.below hb2
    replace BF := BF.below hb2
    replace BQ := BQ.below hb2
    replace HW := Bl.then HW hb2
    have cX0 : w2.cell? ⟨w.heap.size, 0, none⟩ = some (.string s) := BX.cell 0
    have cX1 : w2.cell? ⟨w.heap.size, 1, none⟩ = some (.int .i64 l) := BX.cell 1
    have cX2 : w2.cell? ⟨w.heap.size, 2, none⟩ = some (.int .i64 b) := BX.cell 2
    have cX3 : w2.cell? ⟨w.heap.size, 3, none⟩ = some (.int .i64 i) := BX.cell 3
    have cX4 : w2.cell? ⟨w.heap.size, 4, none⟩ = some (.int .i64 h) := BX.cell 4
    have cX5 : w2.cell? ⟨w.heap.size, 5, none⟩ = some (.int .i64 p) := BX.cell 5
    have lX := BX.lt
    have cF0 : w2.cell? ⟨w.heap.size + 1, 0, none⟩ = some (.int .i64 fl) := BF.cell 0
    have cF1 : w2.cell? ⟨w.heap.size + 1, 1, none⟩ = some (.int .i64 fb) := BF.cell 1
    have cF2 : w2.cell? ⟨w.heap.size + 1, 2, none⟩ = some (.int .i64 fi) := BF.cell 2
    have cF3 : w2.cell? ⟨w.heap.size + 1, 3, none⟩ = some (.int .i64 fh) := BF.cell 3
    have lF := BF.lt
    have cQ0 : w2.cell? ⟨w.heap.size + 1 + 1, 0, none⟩ = some (.int .i64 q0) := BQ.cell 0
    have cQ1 : w2.cell? ⟨w.heap.size + 1 + 1, 1, none⟩ = some (.int .i64 q1) := BQ.cell 1
    have cQ2 : w2.cell? ⟨w.heap.size + 1 + 1, 2, none⟩ = some (.int .i64 q2) := BQ.cell 2
    have cQ3 : w2.cell? ⟨w.heap.size + 1 + 1, 3, none⟩ = some (.slice Af nf cf) := BQ.cell 3
    have lQ := BQ.lt
    go_wp2_with fail
    refine (ValidFit_any _ _ _ _ _ _ _ _ (h0.below HW) hn).mono ?_
    rintro e w3 ⟨rfl, hb3⟩
    clear cX0 cX1 cX2 cX3 cX4 cX5 lX cF0 cF1 cF2 cF3 lF cQ0 cQ1 cQ2 cQ3 lQ
    replace BX := BX.below hb3
    replace BF := BF.below hb3
    replace BQ := BQ.below hb3
    replace HW := Bl.then HW hb3
    have cX0 : w3.cell? ⟨w.heap.size, 0, none⟩ = some (.string s) := BX.cell 0
    have cX1 : w3.cell? ⟨w.heap.size, 1, none⟩ = some (.int .i64 l) := BX.cell 1
    have cX2 : w3.cell? ⟨w.heap.size, 2, none⟩ = some (.int .i64 b) := BX.cell 2
    have cX3 : w3.cell? ⟨w.heap.size, 3, none⟩ = some (.int .i64 i) := BX.cell 3
    have cX4 : w3.cell? ⟨w.heap.size, 4, none⟩ = some (.int .i64 h) := BX.cell 4
    have cX5 : w3.cell? ⟨w.heap.size, 5, none⟩ = some (.int .i64 p) := BX.cell 5
    have lX := BX.lt
    have cF0 : w3.cell? ⟨w.heap.size + 1, 0, none⟩ = some (.int .i64 fl) := BF.cell 0
    have cF1 : w3.cell? ⟨w.heap.size + 1, 1, none⟩ = some (.int .i64 fb) := BF.cell 1
    have cF2 : w3.cell? ⟨w.heap.size + 1, 2, none⟩ = some (.int .i64 fi) := BF.cell 2
    have cF3 : w3.cell? ⟨w.heap.size + 1, 3, none⟩ = some (.int .i64 fh) := BF.cell 3
    have lF := BF.lt
    have cQ0 : w3.cell? ⟨w.heap.size + 1 + 1, 0, none⟩ = some (.int .i64 q0) := BQ.cell 0
    have cQ1 : w3.cell? ⟨w.heap.size + 1 + 1, 1, none⟩ = some (.int .i64 q1) := BQ.cell 1
    have cQ2 : w3.cell? ⟨w.heap.size + 1 + 1, 2, none⟩ = some (.int .i64 q2) := BQ.cell 2
    have cQ3 : w3.cell? ⟨w.heap.size + 1 + 1, 3, none⟩ = some (.slice Af nf cf) := BQ.cell 3
    have lQ := BQ.lt
    go_wp2_with fail
    go_ret2
    exact ⟨ret_bc hr.out.1 hr.out.2, HW⟩
  have hok : allOk s l b i h p fl fb fi fh q0 q1 q2 zf = true := by simp [allOk, k1, k2, k3]
  have k1' := Lib.hid k1
  have k2' := Lib.hid k2
  have k3' := Lib.hid k3
  have hr1 := Lib.hid (show mayF l b i h fl fb fi fh q0 q1 q2 = mayV s l b i h p fl fb fi fh q0 q1 q2 zf by simp [mayV, hok])
  have hr2 := Lib.hid (show (0 : Int) = mayC s l b i h p fl fb fi fh q0 q1 q2 zf by simp [mayC, hok])
  clear hok
  go_enter Try.func34, Try.ntmps34
  go_wp2_with fail
  refine (validLast_any _ _ _ _ _ _ _ hs).mono ?_
  rintro e w1 ⟨rfl, H1⟩
  have BX := (((Blk.new w 41 #[.string s, .int .i64 l, .int .i64 b, .int .i64 i, .int .i64 h, .int .i64 p]).alloc (.cells #[.int .i64 fl, .int .i64 fb, .int .i64 fi, .int .i64 fh] 25)).alloc (.cells #[.int .i64 q0, .int .i64 q1, .int .i64 q2, .slice Af nf cf] 53)).below H1
  have BF := ((Blk.new1 w _ 25 #[.int .i64 fl, .int .i64 fb, .int .i64 fi, .int .i64 fh]).alloc (.cells #[.int .i64 q0, .int .i64 q1, .int .i64 q2, .slice Af nf cf] 53)).below H1
  have BQ := (Blk.new2 w _ _ 53 #[.int .i64 q0, .int .i64 q1, .int .i64 q2, .slice Af nf cf]).below H1
  have HW : Below w.heap.size w w1 := Bl.then (by go_grown) H1
  clear H1
  have cX0 : w1.cell? ⟨w.heap.size, 0, none⟩ = some (.string s) := BX.cell 0
  have cX1 : w1.cell? ⟨w.heap.size, 1, none⟩ = some (.int .i64 l) := BX.cell 1
  have cX2 : w1.cell? ⟨w.heap.size, 2, none⟩ = some (.int .i64 b) := BX.cell 2
  have cX3 : w1.cell? ⟨w.heap.size, 3, none⟩ = some (.int .i64 i) := BX.cell 3
  have cX4 : w1.cell? ⟨w.heap.size, 4, none⟩ = some (.int .i64 h) := BX.cell 4
  have cX5 : w1.cell? ⟨w.heap.size, 5, none⟩ = some (.int .i64 p) := BX.cell 5
  have lX := BX.lt
  have cF0 : w1.cell? ⟨w.heap.size + 1, 0, none⟩ = some (.int .i64 fl) := BF.cell 0
  have cF1 : w1.cell? ⟨w.heap.size + 1, 1, none⟩ = some (.int .i64 fb) := BF.cell 1
  have cF2 : w1.cell? ⟨w.heap.size + 1, 2, none⟩ = some (.int .i64 fi) := BF.cell 2
  have cF3 : w1.cell? ⟨w.heap.size + 1, 3, none⟩ = some (.int .i64 fh) := BF.cell 3
  have lF := BF.lt
  have cQ0 : w1.cell? ⟨w.heap.size + 1 + 1, 0, none⟩ = some (.int .i64 q0) := BQ.cell 0
  have cQ1 : w1.cell? ⟨w.heap.size + 1 + 1, 1, none⟩ = some (.int .i64 q1) := BQ.cell 1
  have cQ2 : w1.cell? ⟨w.heap.size + 1 + 1, 2, none⟩ = some (.int .i64 q2) := BQ.cell 2
  have cQ3 : w1.cell? ⟨w.heap.size + 1 + 1, 3, none⟩ = some (.slice Af nf cf) := BQ.cell 3
  have lQ := BQ.lt
  go_wp2_with fail
  refine (ValidFoot_any _ _ _ _ _).mono ?_
  rintro e w2 ⟨rfl, hb2⟩
  clear cX0 cX1 cX2 cX3 cX4 cX5 lX cF0 cF1 cF2 cF3 lF cQ0 cQ1 cQ2 cQ3 lQ
  replace BX := BX.below hb2
  replace BF := BF.below hb2
  replace BQ := BQ.below hb2
  replace HW := Bl.then HW hb2
  have cX0 : w2.cell? ⟨w.heap.size, 0, none⟩ = some (.string s) := BX.cell 0
  have cX1 : w2.cell? ⟨w.heap.size, 1, none⟩ = some (.int .i64 l) := BX.cell 1
  have cX2 : w2.cell? ⟨w.heap.size, 2, none⟩ = some (.int .i64 b) := BX.cell 2
  have cX3 : w2.cell? ⟨w.heap.size, 3, none⟩ = some (.int .i64 i) := BX.cell 3
  have cX4 : w2.cell? ⟨w.heap.size, 4, none⟩ = some (.int .i64 h) := BX.cell 4
  have cX5 : w2.cell? ⟨w.heap.size, 5, none⟩ = some (.int .i64 p) := BX.cell 5
  have lX := BX.lt
  have cF0 : w2.cell? ⟨w.heap.size + 1, 0, none⟩ = some (.int .i64 fl) := BF.cell 0
  have cF1 : w2.cell? ⟨w.heap.size + 1, 1, none⟩ = some (.int .i64 fb) := BF.cell 1
  have cF2 : w2.cell? ⟨w.heap.size + 1, 2, none⟩ = some (.int .i64 fi) := BF.cell 2
  have cF3 : w2.cell? ⟨w.heap.size + 1, 3, none⟩ = some (.int .i64 fh) := BF.cell 3
  have lF := BF.lt
  have cQ0 : w2.cell? ⟨w.heap.size + 1 + 1, 0, none⟩ = some (.int .i64 q0) := BQ.cell 0
  have cQ1 : w2.cell? ⟨w.heap.size + 1 + 1, 1, none⟩ = some (.int .i64 q1) := BQ.cell 1
  have cQ2 : w2.cell? ⟨w.heap.size + 1 + 1, 2, none⟩ = some (.int .i64 q2) := BQ.cell 2
  have cQ3 : w2.cell? ⟨w.heap.size + 1 + 1, 3, none⟩ = some (.slice Af nf cf) := BQ.cell 3
  have lQ := BQ.lt
  go_wp2_with fail
  refine (ValidFit_any _ _ _ _ _ _ _ _ (h0.below HW) hn).mono ?_
  rintro e w3 ⟨rfl, hb3⟩
  clear cX0 cX1 cX2 cX3 cX4 cX5 lX cF0 cF1 cF2 cF3 lF cQ0 cQ1 cQ2 cQ3 lQ
  replace BX := BX.below hb3
  replace BF := BF.below hb3
  replace BQ := BQ.below hb3
  replace HW := Bl.then HW hb3
  have cX0 : w3.cell? ⟨w.heap.size, 0, none⟩ = some (.string s) := BX.cell 0
  have cX1 : w3.cell? ⟨w.heap.size, 1, none⟩ = some (.int .i64 l) := BX.cell 1
  have cX2 : w3.cell? ⟨w.heap.size, 2, none⟩ = some (.int .i64 b) := BX.cell 2
  have cX3 : w3.cell? ⟨w.heap.size, 3, none⟩ = some (.int .i64 i) := BX.cell 3
  have cX4 : w3.cell? ⟨w.heap.size, 4, none⟩ = some (.int .i64 h) := BX.cell 4
  have cX5 : w3.cell? ⟨w.heap.size, 5, none⟩ = some (.int .i64 p) := BX.cell 5
  have lX := BX.lt
  have cF0 : w3.cell? ⟨w.heap.size + 1, 0, none⟩ = some (.int .i64 fl) := BF.cell 0
  have cF1 : w3.cell? ⟨w.heap.size + 1, 1, none⟩ = some (.int .i64 fb) := BF.cell 1
  have cF2 : w3.cell? ⟨w.heap.size + 1, 2, none⟩ = some (.int .i64 fi) := BF.cell 2
  have cF3 : w3.cell? ⟨w.heap.size + 1, 3, none⟩ = some (.int .i64 fh) := BF.cell 3
  have lF := BF.lt
  have cQ0 : w3.cell? ⟨w.heap.size + 1 + 1, 0, none⟩ = some (.int .i64 q0) := BQ.cell 0
  have cQ1 : w3.cell? ⟨w.heap.size + 1 + 1, 1, none⟩ = some (.int .i64 q1) := BQ.cell 1
  have cQ2 : w3.cell? ⟨w.heap.size + 1 + 1, 2, none⟩ = some (.int .i64 q2) := BQ.cell 2
  have cQ3 : w3.cell? ⟨w.heap.size + 1 + 1, 3, none⟩ = some (.slice Af nf cf) := BQ.cell 3
  have lQ := BQ.lt
  go_wp2_with fail
  refine (fitCost_any _ _ _ _ _ _ _ _ _ _ _ _ _ _ _ _ _ _ (h0.below HW) k1'.out k2'.out k3'.out).mono ?_
  rintro e w4 ⟨rfl, hb4⟩
  clear cX0 cX1 cX2 cX3 cX4 cX5 lX cF0 cF1 cF2 cF3 lF cQ0 cQ1 cQ2 cQ3 lQ
  replace BX := BX.below hb4
  replace BF := BF.below hb4
  replace BQ := BQ.below hb4
  replace HW := Bl.then HW hb4
  have cX0 : w4.cell? ⟨w.heap.size, 0, none⟩ = some (.string s) := BX.cell 0
  have cX1 : w4.cell? ⟨w.heap.size, 1, none⟩ = some (.int .i64 l) := BX.cell 1
  have cX2 : w4.cell? ⟨w.heap.size, 2, none⟩ = some (.int .i64 b) := BX.cell 2
  have cX3 : w4.cell? ⟨w.heap.size, 3, none⟩ = some (.int .i64 i) := BX.cell 3
  have cX4 : w4.cell? ⟨w.heap.size, 4, none⟩ = some (.int .i64 h) := BX.cell 4
  have cX5 : w4.cell? ⟨w.heap.size, 5, none⟩ = some (.int .i64 p) := BX.cell 5
  have lX := BX.lt
  have cF0 : w4.cell? ⟨w.heap.size + 1, 0, none⟩ = some (.int .i64 fl) := BF.cell 0
  have cF1 : w4.cell? ⟨w.heap.size + 1, 1, none⟩ = some (.int .i64 fb) := BF.cell 1
  have cF2 : w4.cell? ⟨w.heap.size + 1, 2, none⟩ = some (.int .i64 fi) := BF.cell 2
  have cF3 : w4.cell? ⟨w.heap.size + 1, 3, none⟩ = some (.int .i64 fh) := BF.cell 3
  have lF := BF.lt
  have cQ0 : w4.cell? ⟨w.heap.size + 1 + 1, 0, none⟩ = some (.int .i64 q0) := BQ.cell 0
  have cQ1 : w4.cell? ⟨w.heap.size + 1 + 1, 1, none⟩ = some (.int .i64 q1) := BQ.cell 1
  have cQ2 : w4.cell? ⟨w.heap.size + 1 + 1, 2, none⟩ = some (.int .i64 q2) := BQ.cell 2
  have cQ3 : w4.cell? ⟨w.heap.size + 1 + 1, 3, none⟩ = some (.slice Af nf cf) := BQ.cell 3
  have lQ := BQ.lt
  go_wp2_with fail
  go_ret2
  exact ⟨ret_bc hr1.out hr2.out, HW⟩
set_option maxRecDepth 100000 in
theorem sMayFit_any (s : ByteArray) (l b i h p fl fb fi fh q0 q1 q2 : Int) (Af : Option Addr) (nf cf : Nat) (zf : List Int) (w : World) (h0 : Rd w 1 Af nf (ints zf)) (hn : nf ≤ 1048576) (hs : s.size ≤ maxLen) :
    Calls Try.prog 32 #[.agg #[.string s, .int .i64 l, .int .i64 b, .int .i64 i, .int .i64 h, .int .i64 p], .agg #[.int .i64 fl, .int .i64 fb, .int .i64 fi, .int .i64 fh], .agg #[.int .i64 q0, .int .i64 q1, .int .i64 q2, .slice Af nf cf]] w fun e w' => e = .returned (.tuple #[.bool (mayV s l b i h p fl fb fi fh q0 q1 q2 zf), .int .i64 (mayC s l b i h p fl fb fi fh q0 q1 q2 zf)]) ∧ Below w.heap.size w w' := by
  cases k1 : lastOk s l b i h p
  · have hr := Lib.hid (no_may (show allOk s l b i h p fl fb fi fh q0 q1 q2 zf = false by simp [allOk, k1]))
    go_enter Try.func32, Try.ntmps32
    go_wp2_with fail
    refine (l04One_any _ _ _ _ _ _ _ hs).mono ?_
    rintro e w1 ⟨rfl, H1⟩
    have BX := (((Blk.new w 41 #[.string s, .int .i64 l, .int .i64 b, .int .i64 i, .int .i64 h, .int .i64 p]).alloc (.cells #[.int .i64 fl, .int .i64 fb, .int .i64 fi, .int .i64 fh] 25)).alloc (.cells #[.int .i64 q0, .int .i64 q1, .int .i64 q2, .slice Af nf cf] 53)).below H1
    have BF := ((Blk.new1 w _ 25 #[.int .i64 fl, .int .i64 fb, .int .i64 fi, .int .i64 fh]).alloc (.cells #[.int .i64 q0, .int .i64 q1, .int .i64 q2, .slice Af nf cf] 53)).below H1
    have BQ := (Blk.new2 w _ _ 53 #[.int .i64 q0, .int .i64 q1, .int .i64 q2, .slice Af nf cf]).below H1
    have HW : Below w.heap.size w w1 := Bl.then (by go_grown) H1
    clear H1
    have cX0 : w1.cell? ⟨w.heap.size, 0, none⟩ = some (.string s) := BX.cell 0
    have cX1 : w1.cell? ⟨w.heap.size, 1, none⟩ = some (.int .i64 l) := BX.cell 1
    have cX2 : w1.cell? ⟨w.heap.size, 2, none⟩ = some (.int .i64 b) := BX.cell 2
    have cX3 : w1.cell? ⟨w.heap.size, 3, none⟩ = some (.int .i64 i) := BX.cell 3
    have cX4 : w1.cell? ⟨w.heap.size, 4, none⟩ = some (.int .i64 h) := BX.cell 4
    have cX5 : w1.cell? ⟨w.heap.size, 5, none⟩ = some (.int .i64 p) := BX.cell 5
    have lX := BX.lt
    have cF0 : w1.cell? ⟨w.heap.size + 1, 0, none⟩ = some (.int .i64 fl) := BF.cell 0
    have cF1 : w1.cell? ⟨w.heap.size + 1, 1, none⟩ = some (.int .i64 fb) := BF.cell 1
    have cF2 : w1.cell? ⟨w.heap.size + 1, 2, none⟩ = some (.int .i64 fi) := BF.cell 2
    have cF3 : w1.cell? ⟨w.heap.size + 1, 3, none⟩ = some (.int .i64 fh) := BF.cell 3
    have lF := BF.lt
    have cQ0 : w1.cell? ⟨w.heap.size + 1 + 1, 0, none⟩ = some (.int .i64 q0) := BQ.cell 0
    have cQ1 : w1.cell? ⟨w.heap.size + 1 + 1, 1, none⟩ = some (.int .i64 q1) := BQ.cell 1
    have cQ2 : w1.cell? ⟨w.heap.size + 1 + 1, 2, none⟩ = some (.int .i64 q2) := BQ.cell 2
    have cQ3 : w1.cell? ⟨w.heap.size + 1 + 1, 3, none⟩ = some (.slice Af nf cf) := BQ.cell 3
    have lQ := BQ.lt
    go_wp2_with fail
    go_ret2
    exact ⟨ret_bc hr.out.1 hr.out.2, HW⟩
  cases k2 : footOk fl fb fi fh
  · have hr := Lib.hid (no_may (show allOk s l b i h p fl fb fi fh q0 q1 q2 zf = false by simp [allOk, k2]))
    go_enter Try.func32, Try.ntmps32
    go_wp2_with fail
    refine (l04One_any _ _ _ _ _ _ _ hs).mono ?_
    rintro e w1 ⟨rfl, H1⟩
    have BX := (((Blk.new w 41 #[.string s, .int .i64 l, .int .i64 b, .int .i64 i, .int .i64 h, .int .i64 p]).alloc (.cells #[.int .i64 fl, .int .i64 fb, .int .i64 fi, .int .i64 fh] 25)).alloc (.cells #[.int .i64 q0, .int .i64 q1, .int .i64 q2, .slice Af nf cf] 53)).below H1
    have BF := ((Blk.new1 w _ 25 #[.int .i64 fl, .int .i64 fb, .int .i64 fi, .int .i64 fh]).alloc (.cells #[.int .i64 q0, .int .i64 q1, .int .i64 q2, .slice Af nf cf] 53)).below H1
    have BQ := (Blk.new2 w _ _ 53 #[.int .i64 q0, .int .i64 q1, .int .i64 q2, .slice Af nf cf]).below H1
    have HW : Below w.heap.size w w1 := Bl.then (by go_grown) H1
    clear H1
    have cX0 : w1.cell? ⟨w.heap.size, 0, none⟩ = some (.string s) := BX.cell 0
    have cX1 : w1.cell? ⟨w.heap.size, 1, none⟩ = some (.int .i64 l) := BX.cell 1
    have cX2 : w1.cell? ⟨w.heap.size, 2, none⟩ = some (.int .i64 b) := BX.cell 2
    have cX3 : w1.cell? ⟨w.heap.size, 3, none⟩ = some (.int .i64 i) := BX.cell 3
    have cX4 : w1.cell? ⟨w.heap.size, 4, none⟩ = some (.int .i64 h) := BX.cell 4
    have cX5 : w1.cell? ⟨w.heap.size, 5, none⟩ = some (.int .i64 p) := BX.cell 5
    have lX := BX.lt
    have cF0 : w1.cell? ⟨w.heap.size + 1, 0, none⟩ = some (.int .i64 fl) := BF.cell 0
    have cF1 : w1.cell? ⟨w.heap.size + 1, 1, none⟩ = some (.int .i64 fb) := BF.cell 1
    have cF2 : w1.cell? ⟨w.heap.size + 1, 2, none⟩ = some (.int .i64 fi) := BF.cell 2
    have cF3 : w1.cell? ⟨w.heap.size + 1, 3, none⟩ = some (.int .i64 fh) := BF.cell 3
    have lF := BF.lt
    have cQ0 : w1.cell? ⟨w.heap.size + 1 + 1, 0, none⟩ = some (.int .i64 q0) := BQ.cell 0
    have cQ1 : w1.cell? ⟨w.heap.size + 1 + 1, 1, none⟩ = some (.int .i64 q1) := BQ.cell 1
    have cQ2 : w1.cell? ⟨w.heap.size + 1 + 1, 2, none⟩ = some (.int .i64 q2) := BQ.cell 2
    have cQ3 : w1.cell? ⟨w.heap.size + 1 + 1, 3, none⟩ = some (.slice Af nf cf) := BQ.cell 3
    have lQ := BQ.lt
    go_wp2_with fail
    refine (l02Foot_any _ _ _ _ _).mono ?_
    rintro e w2 ⟨rfl, hb2⟩
    clear cX0 cX1 cX2 cX3 cX4 cX5 lX cF0 cF1 cF2 cF3 lF cQ0 cQ1 cQ2 cQ3 lQ
    replace BX := BX.below hb2
    replace BF := BF.below hb2
    replace BQ := BQ.below hb2
    replace HW := Bl.then HW hb2
    have cX0 : w2.cell? ⟨w.heap.size, 0, none⟩ = some (.string s) := BX.cell 0
    have cX1 : w2.cell? ⟨w.heap.size, 1, none⟩ = some (.int .i64 l) := BX.cell 1
    have cX2 : w2.cell? ⟨w.heap.size, 2, none⟩ = some (.int .i64 b) := BX.cell 2
    have cX3 : w2.cell? ⟨w.heap.size, 3, none⟩ = some (.int .i64 i) := BX.cell 3
    have cX4 : w2.cell? ⟨w.heap.size, 4, none⟩ = some (.int .i64 h) := BX.cell 4
    have cX5 : w2.cell? ⟨w.heap.size, 5, none⟩ = some (.int .i64 p) := BX.cell 5
    have lX := BX.lt
    have cF0 : w2.cell? ⟨w.heap.size + 1, 0, none⟩ = some (.int .i64 fl) := BF.cell 0
    have cF1 : w2.cell? ⟨w.heap.size + 1, 1, none⟩ = some (.int .i64 fb) := BF.cell 1
    have cF2 : w2.cell? ⟨w.heap.size + 1, 2, none⟩ = some (.int .i64 fi) := BF.cell 2
    have cF3 : w2.cell? ⟨w.heap.size + 1, 3, none⟩ = some (.int .i64 fh) := BF.cell 3
    have lF := BF.lt
    have cQ0 : w2.cell? ⟨w.heap.size + 1 + 1, 0, none⟩ = some (.int .i64 q0) := BQ.cell 0
    have cQ1 : w2.cell? ⟨w.heap.size + 1 + 1, 1, none⟩ = some (.int .i64 q1) := BQ.cell 1
    have cQ2 : w2.cell? ⟨w.heap.size + 1 + 1, 2, none⟩ = some (.int .i64 q2) := BQ.cell 2
    have cQ3 : w2.cell? ⟨w.heap.size + 1 + 1, 3, none⟩ = some (.slice Af nf cf) := BQ.cell 3
    have lQ := BQ.lt
    go_wp2_with fail
    go_ret2
    exact ⟨ret_bc hr.out.1 hr.out.2, HW⟩
  cases k3 : fitOk q0 q1 q2 zf
  · have hr := Lib.hid (no_may (show allOk s l b i h p fl fb fi fh q0 q1 q2 zf = false by simp [allOk, k3]))
    go_enter Try.func32, Try.ntmps32
    go_wp2_with fail
    refine (l04One_any _ _ _ _ _ _ _ hs).mono ?_
    rintro e w1 ⟨rfl, H1⟩
    have BX := (((Blk.new w 41 #[.string s, .int .i64 l, .int .i64 b, .int .i64 i, .int .i64 h, .int .i64 p]).alloc (.cells #[.int .i64 fl, .int .i64 fb, .int .i64 fi, .int .i64 fh] 25)).alloc (.cells #[.int .i64 q0, .int .i64 q1, .int .i64 q2, .slice Af nf cf] 53)).below H1
    have BF := ((Blk.new1 w _ 25 #[.int .i64 fl, .int .i64 fb, .int .i64 fi, .int .i64 fh]).alloc (.cells #[.int .i64 q0, .int .i64 q1, .int .i64 q2, .slice Af nf cf] 53)).below H1
    have BQ := (Blk.new2 w _ _ 53 #[.int .i64 q0, .int .i64 q1, .int .i64 q2, .slice Af nf cf]).below H1
    have HW : Below w.heap.size w w1 := Bl.then (by go_grown) H1
    clear H1
    have cX0 : w1.cell? ⟨w.heap.size, 0, none⟩ = some (.string s) := BX.cell 0
    have cX1 : w1.cell? ⟨w.heap.size, 1, none⟩ = some (.int .i64 l) := BX.cell 1
    have cX2 : w1.cell? ⟨w.heap.size, 2, none⟩ = some (.int .i64 b) := BX.cell 2
    have cX3 : w1.cell? ⟨w.heap.size, 3, none⟩ = some (.int .i64 i) := BX.cell 3
    have cX4 : w1.cell? ⟨w.heap.size, 4, none⟩ = some (.int .i64 h) := BX.cell 4
    have cX5 : w1.cell? ⟨w.heap.size, 5, none⟩ = some (.int .i64 p) := BX.cell 5
    have lX := BX.lt
    have cF0 : w1.cell? ⟨w.heap.size + 1, 0, none⟩ = some (.int .i64 fl) := BF.cell 0
    have cF1 : w1.cell? ⟨w.heap.size + 1, 1, none⟩ = some (.int .i64 fb) := BF.cell 1
    have cF2 : w1.cell? ⟨w.heap.size + 1, 2, none⟩ = some (.int .i64 fi) := BF.cell 2
    have cF3 : w1.cell? ⟨w.heap.size + 1, 3, none⟩ = some (.int .i64 fh) := BF.cell 3
    have lF := BF.lt
    have cQ0 : w1.cell? ⟨w.heap.size + 1 + 1, 0, none⟩ = some (.int .i64 q0) := BQ.cell 0
    have cQ1 : w1.cell? ⟨w.heap.size + 1 + 1, 1, none⟩ = some (.int .i64 q1) := BQ.cell 1
    have cQ2 : w1.cell? ⟨w.heap.size + 1 + 1, 2, none⟩ = some (.int .i64 q2) := BQ.cell 2
    have cQ3 : w1.cell? ⟨w.heap.size + 1 + 1, 3, none⟩ = some (.slice Af nf cf) := BQ.cell 3
    have lQ := BQ.lt
    go_wp2_with fail
    refine (l02Foot_any _ _ _ _ _).mono ?_
    rintro e w2 ⟨rfl, hb2⟩
    clear cX0 cX1 cX2 cX3 cX4 cX5 lX cF0 cF1 cF2 cF3 lF cQ0 cQ1 cQ2 cQ3 lQ
    replace BX := BX.below hb2
    replace BF := BF.below hb2
    replace BQ := BQ.below hb2
    replace HW := Bl.then HW hb2
    have cX0 : w2.cell? ⟨w.heap.size, 0, none⟩ = some (.string s) := BX.cell 0
    have cX1 : w2.cell? ⟨w.heap.size, 1, none⟩ = some (.int .i64 l) := BX.cell 1
    have cX2 : w2.cell? ⟨w.heap.size, 2, none⟩ = some (.int .i64 b) := BX.cell 2
    have cX3 : w2.cell? ⟨w.heap.size, 3, none⟩ = some (.int .i64 i) := BX.cell 3
    have cX4 : w2.cell? ⟨w.heap.size, 4, none⟩ = some (.int .i64 h) := BX.cell 4
    have cX5 : w2.cell? ⟨w.heap.size, 5, none⟩ = some (.int .i64 p) := BX.cell 5
    have lX := BX.lt
    have cF0 : w2.cell? ⟨w.heap.size + 1, 0, none⟩ = some (.int .i64 fl) := BF.cell 0
    have cF1 : w2.cell? ⟨w.heap.size + 1, 1, none⟩ = some (.int .i64 fb) := BF.cell 1
    have cF2 : w2.cell? ⟨w.heap.size + 1, 2, none⟩ = some (.int .i64 fi) := BF.cell 2
    have cF3 : w2.cell? ⟨w.heap.size + 1, 3, none⟩ = some (.int .i64 fh) := BF.cell 3
    have lF := BF.lt
    have cQ0 : w2.cell? ⟨w.heap.size + 1 + 1, 0, none⟩ = some (.int .i64 q0) := BQ.cell 0
    have cQ1 : w2.cell? ⟨w.heap.size + 1 + 1, 1, none⟩ = some (.int .i64 q1) := BQ.cell 1
    have cQ2 : w2.cell? ⟨w.heap.size + 1 + 1, 2, none⟩ = some (.int .i64 q2) := BQ.cell 2
    have cQ3 : w2.cell? ⟨w.heap.size + 1 + 1, 3, none⟩ = some (.slice Af nf cf) := BQ.cell 3
    have lQ := BQ.lt
    go_wp2_with fail
    refine (l04Fit_any _ _ _ _ _ _ _ _ _ BQ (h0.below HW) hn).mono ?_
    rintro e w3 ⟨rfl, hb3⟩
    clear cX0 cX1 cX2 cX3 cX4 cX5 lX cF0 cF1 cF2 cF3 lF cQ0 cQ1 cQ2 cQ3 lQ
    replace BX := BX.below hb3
    replace BF := BF.below hb3
    replace BQ := BQ.below hb3
    replace HW := Bl.then HW hb3
    have cX0 : w3.cell? ⟨w.heap.size, 0, none⟩ = some (.string s) := BX.cell 0
    have cX1 : w3.cell? ⟨w.heap.size, 1, none⟩ = some (.int .i64 l) := BX.cell 1
    have cX2 : w3.cell? ⟨w.heap.size, 2, none⟩ = some (.int .i64 b) := BX.cell 2
    have cX3 : w3.cell? ⟨w.heap.size, 3, none⟩ = some (.int .i64 i) := BX.cell 3
    have cX4 : w3.cell? ⟨w.heap.size, 4, none⟩ = some (.int .i64 h) := BX.cell 4
    have cX5 : w3.cell? ⟨w.heap.size, 5, none⟩ = some (.int .i64 p) := BX.cell 5
    have lX := BX.lt
    have cF0 : w3.cell? ⟨w.heap.size + 1, 0, none⟩ = some (.int .i64 fl) := BF.cell 0
    have cF1 : w3.cell? ⟨w.heap.size + 1, 1, none⟩ = some (.int .i64 fb) := BF.cell 1
    have cF2 : w3.cell? ⟨w.heap.size + 1, 2, none⟩ = some (.int .i64 fi) := BF.cell 2
    have cF3 : w3.cell? ⟨w.heap.size + 1, 3, none⟩ = some (.int .i64 fh) := BF.cell 3
    have lF := BF.lt
    have cQ0 : w3.cell? ⟨w.heap.size + 1 + 1, 0, none⟩ = some (.int .i64 q0) := BQ.cell 0
    have cQ1 : w3.cell? ⟨w.heap.size + 1 + 1, 1, none⟩ = some (.int .i64 q1) := BQ.cell 1
    have cQ2 : w3.cell? ⟨w.heap.size + 1 + 1, 2, none⟩ = some (.int .i64 q2) := BQ.cell 2
    have cQ3 : w3.cell? ⟨w.heap.size + 1 + 1, 3, none⟩ = some (.slice Af nf cf) := BQ.cell 3
    have lQ := BQ.lt
    go_wp2_with fail
    go_ret2
    exact ⟨ret_bc hr.out.1 hr.out.2, HW⟩
  have hok : allOk s l b i h p fl fb fi fh q0 q1 q2 zf = true := by simp [allOk, k1, k2, k3]
  have k1' := Lib.hid k1
  have k2' := Lib.hid k2
  have k3' := Lib.hid k3
  have hneg := costR_neg (l := l) (b := b) (i := i) (h := h) (fl := fl) (fb := fb) (fi := fi) (fh := fh) k3
  have hr1 := Lib.hid (show decide (0 ≤ costR l b i h fl fb fi fh q0 q1 q2 zf) = mayV s l b i h p fl fb fi fh q0 q1 q2 zf by simp only [mayV, hok, Bool.true_and]; rw [show decide (0 ≤ costR l b i h fl fb fi fh q0 q1 q2 zf) = !decide (costR l b i h fl fb fi fh q0 q1 q2 zf < 0) by rw [← decide_not]; exact decide_eq_decide.2 (by omega), hneg, Bool.not_not])
  have hr2 := Lib.hid (show (0 : Int) = mayC s l b i h p fl fb fi fh q0 q1 q2 zf by simp [mayC, hok])
  clear hok hneg
  go_enter Try.func32, Try.ntmps32
  go_wp2_with fail
  refine (l04One_any _ _ _ _ _ _ _ hs).mono ?_
  rintro e w1 ⟨rfl, H1⟩
  have BX := (((Blk.new w 41 #[.string s, .int .i64 l, .int .i64 b, .int .i64 i, .int .i64 h, .int .i64 p]).alloc (.cells #[.int .i64 fl, .int .i64 fb, .int .i64 fi, .int .i64 fh] 25)).alloc (.cells #[.int .i64 q0, .int .i64 q1, .int .i64 q2, .slice Af nf cf] 53)).below H1
  have BF := ((Blk.new1 w _ 25 #[.int .i64 fl, .int .i64 fb, .int .i64 fi, .int .i64 fh]).alloc (.cells #[.int .i64 q0, .int .i64 q1, .int .i64 q2, .slice Af nf cf] 53)).below H1
  have BQ := (Blk.new2 w _ _ 53 #[.int .i64 q0, .int .i64 q1, .int .i64 q2, .slice Af nf cf]).below H1
  have HW : Below w.heap.size w w1 := Bl.then (by go_grown) H1
  clear H1
  have cX0 : w1.cell? ⟨w.heap.size, 0, none⟩ = some (.string s) := BX.cell 0
  have cX1 : w1.cell? ⟨w.heap.size, 1, none⟩ = some (.int .i64 l) := BX.cell 1
  have cX2 : w1.cell? ⟨w.heap.size, 2, none⟩ = some (.int .i64 b) := BX.cell 2
  have cX3 : w1.cell? ⟨w.heap.size, 3, none⟩ = some (.int .i64 i) := BX.cell 3
  have cX4 : w1.cell? ⟨w.heap.size, 4, none⟩ = some (.int .i64 h) := BX.cell 4
  have cX5 : w1.cell? ⟨w.heap.size, 5, none⟩ = some (.int .i64 p) := BX.cell 5
  have lX := BX.lt
  have cF0 : w1.cell? ⟨w.heap.size + 1, 0, none⟩ = some (.int .i64 fl) := BF.cell 0
  have cF1 : w1.cell? ⟨w.heap.size + 1, 1, none⟩ = some (.int .i64 fb) := BF.cell 1
  have cF2 : w1.cell? ⟨w.heap.size + 1, 2, none⟩ = some (.int .i64 fi) := BF.cell 2
  have cF3 : w1.cell? ⟨w.heap.size + 1, 3, none⟩ = some (.int .i64 fh) := BF.cell 3
  have lF := BF.lt
  have cQ0 : w1.cell? ⟨w.heap.size + 1 + 1, 0, none⟩ = some (.int .i64 q0) := BQ.cell 0
  have cQ1 : w1.cell? ⟨w.heap.size + 1 + 1, 1, none⟩ = some (.int .i64 q1) := BQ.cell 1
  have cQ2 : w1.cell? ⟨w.heap.size + 1 + 1, 2, none⟩ = some (.int .i64 q2) := BQ.cell 2
  have cQ3 : w1.cell? ⟨w.heap.size + 1 + 1, 3, none⟩ = some (.slice Af nf cf) := BQ.cell 3
  have lQ := BQ.lt
  go_wp2_with fail
  refine (l02Foot_any _ _ _ _ _).mono ?_
  rintro e w2 ⟨rfl, hb2⟩
  clear cX0 cX1 cX2 cX3 cX4 cX5 lX cF0 cF1 cF2 cF3 lF cQ0 cQ1 cQ2 cQ3 lQ
  replace BX := BX.below hb2
  replace BF := BF.below hb2
  replace BQ := BQ.below hb2
  replace HW := Bl.then HW hb2
  have cX0 : w2.cell? ⟨w.heap.size, 0, none⟩ = some (.string s) := BX.cell 0
  have cX1 : w2.cell? ⟨w.heap.size, 1, none⟩ = some (.int .i64 l) := BX.cell 1
  have cX2 : w2.cell? ⟨w.heap.size, 2, none⟩ = some (.int .i64 b) := BX.cell 2
  have cX3 : w2.cell? ⟨w.heap.size, 3, none⟩ = some (.int .i64 i) := BX.cell 3
  have cX4 : w2.cell? ⟨w.heap.size, 4, none⟩ = some (.int .i64 h) := BX.cell 4
  have cX5 : w2.cell? ⟨w.heap.size, 5, none⟩ = some (.int .i64 p) := BX.cell 5
  have lX := BX.lt
  have cF0 : w2.cell? ⟨w.heap.size + 1, 0, none⟩ = some (.int .i64 fl) := BF.cell 0
  have cF1 : w2.cell? ⟨w.heap.size + 1, 1, none⟩ = some (.int .i64 fb) := BF.cell 1
  have cF2 : w2.cell? ⟨w.heap.size + 1, 2, none⟩ = some (.int .i64 fi) := BF.cell 2
  have cF3 : w2.cell? ⟨w.heap.size + 1, 3, none⟩ = some (.int .i64 fh) := BF.cell 3
  have lF := BF.lt
  have cQ0 : w2.cell? ⟨w.heap.size + 1 + 1, 0, none⟩ = some (.int .i64 q0) := BQ.cell 0
  have cQ1 : w2.cell? ⟨w.heap.size + 1 + 1, 1, none⟩ = some (.int .i64 q1) := BQ.cell 1
  have cQ2 : w2.cell? ⟨w.heap.size + 1 + 1, 2, none⟩ = some (.int .i64 q2) := BQ.cell 2
  have cQ3 : w2.cell? ⟨w.heap.size + 1 + 1, 3, none⟩ = some (.slice Af nf cf) := BQ.cell 3
  have lQ := BQ.lt
  go_wp2_with fail
  refine (l04Fit_any _ _ _ _ _ _ _ _ _ BQ (h0.below HW) hn).mono ?_
  rintro e w3 ⟨rfl, hb3⟩
  clear cX0 cX1 cX2 cX3 cX4 cX5 lX cF0 cF1 cF2 cF3 lF cQ0 cQ1 cQ2 cQ3 lQ
  replace BX := BX.below hb3
  replace BF := BF.below hb3
  replace BQ := BQ.below hb3
  replace HW := Bl.then HW hb3
  have cX0 : w3.cell? ⟨w.heap.size, 0, none⟩ = some (.string s) := BX.cell 0
  have cX1 : w3.cell? ⟨w.heap.size, 1, none⟩ = some (.int .i64 l) := BX.cell 1
  have cX2 : w3.cell? ⟨w.heap.size, 2, none⟩ = some (.int .i64 b) := BX.cell 2
  have cX3 : w3.cell? ⟨w.heap.size, 3, none⟩ = some (.int .i64 i) := BX.cell 3
  have cX4 : w3.cell? ⟨w.heap.size, 4, none⟩ = some (.int .i64 h) := BX.cell 4
  have cX5 : w3.cell? ⟨w.heap.size, 5, none⟩ = some (.int .i64 p) := BX.cell 5
  have lX := BX.lt
  have cF0 : w3.cell? ⟨w.heap.size + 1, 0, none⟩ = some (.int .i64 fl) := BF.cell 0
  have cF1 : w3.cell? ⟨w.heap.size + 1, 1, none⟩ = some (.int .i64 fb) := BF.cell 1
  have cF2 : w3.cell? ⟨w.heap.size + 1, 2, none⟩ = some (.int .i64 fi) := BF.cell 2
  have cF3 : w3.cell? ⟨w.heap.size + 1, 3, none⟩ = some (.int .i64 fh) := BF.cell 3
  have lF := BF.lt
  have cQ0 : w3.cell? ⟨w.heap.size + 1 + 1, 0, none⟩ = some (.int .i64 q0) := BQ.cell 0
  have cQ1 : w3.cell? ⟨w.heap.size + 1 + 1, 1, none⟩ = some (.int .i64 q1) := BQ.cell 1
  have cQ2 : w3.cell? ⟨w.heap.size + 1 + 1, 2, none⟩ = some (.int .i64 q2) := BQ.cell 2
  have cQ3 : w3.cell? ⟨w.heap.size + 1 + 1, 3, none⟩ = some (.slice Af nf cf) := BQ.cell 3
  have lQ := BQ.lt
  go_wp2_with fail
  refine (l04Cost_any _ _ _ _ _ _ _ _ _ _ _ _ _ _ _ _ _ _ _ BQ (h0.below HW) k1'.out k2'.out k3'.out).mono ?_
  rintro e w4 ⟨rfl, hb4⟩
  clear cX0 cX1 cX2 cX3 cX4 cX5 lX cF0 cF1 cF2 cF3 lF cQ0 cQ1 cQ2 cQ3 lQ
  replace BX := BX.below hb4
  replace BF := BF.below hb4
  replace BQ := BQ.below hb4
  replace HW := Bl.then HW hb4
  have cX0 : w4.cell? ⟨w.heap.size, 0, none⟩ = some (.string s) := BX.cell 0
  have cX1 : w4.cell? ⟨w.heap.size, 1, none⟩ = some (.int .i64 l) := BX.cell 1
  have cX2 : w4.cell? ⟨w.heap.size, 2, none⟩ = some (.int .i64 b) := BX.cell 2
  have cX3 : w4.cell? ⟨w.heap.size, 3, none⟩ = some (.int .i64 i) := BX.cell 3
  have cX4 : w4.cell? ⟨w.heap.size, 4, none⟩ = some (.int .i64 h) := BX.cell 4
  have cX5 : w4.cell? ⟨w.heap.size, 5, none⟩ = some (.int .i64 p) := BX.cell 5
  have lX := BX.lt
  have cF0 : w4.cell? ⟨w.heap.size + 1, 0, none⟩ = some (.int .i64 fl) := BF.cell 0
  have cF1 : w4.cell? ⟨w.heap.size + 1, 1, none⟩ = some (.int .i64 fb) := BF.cell 1
  have cF2 : w4.cell? ⟨w.heap.size + 1, 2, none⟩ = some (.int .i64 fi) := BF.cell 2
  have cF3 : w4.cell? ⟨w.heap.size + 1, 3, none⟩ = some (.int .i64 fh) := BF.cell 3
  have lF := BF.lt
  have cQ0 : w4.cell? ⟨w.heap.size + 1 + 1, 0, none⟩ = some (.int .i64 q0) := BQ.cell 0
  have cQ1 : w4.cell? ⟨w.heap.size + 1 + 1, 1, none⟩ = some (.int .i64 q1) := BQ.cell 1
  have cQ2 : w4.cell? ⟨w.heap.size + 1 + 1, 2, none⟩ = some (.int .i64 q2) := BQ.cell 2
  have cQ3 : w4.cell? ⟨w.heap.size + 1 + 1, 3, none⟩ = some (.slice Af nf cf) := BQ.cell 3
  have lQ := BQ.lt
  go_wp2_with fail
  go_ret2
  exact ⟨ret_bc hr1.out hr2.out, HW⟩
set_option maxRecDepth 100000 in
theorem FitCost_any (s : ByteArray) (l b i h p fl fb fi fh q0 q1 q2 : Int) (Af : Option Addr) (nf cf : Nat) (zf : List Int) (w : World) (h0 : Rd w 1 Af nf (ints zf)) (hn : nf ≤ 1048576) (hs : s.size ≤ maxLen) :
    Calls Try.prog 36 #[.agg #[.string s, .int .i64 l, .int .i64 b, .int .i64 i, .int .i64 h, .int .i64 p], .agg #[.int .i64 fl, .int .i64 fb, .int .i64 fi, .int .i64 fh], .agg #[.int .i64 q0, .int .i64 q1, .int .i64 q2, .slice Af nf cf]] w fun e w' => e = .returned (.tuple #[.int .i64 (fcV s l b i h p fl fb fi fh q0 q1 q2 zf), .int .i64 (fcC s l b i h p fl fb fi fh q0 q1 q2 zf)]) ∧ Below w.heap.size w w' := by
  cases k1 : lastOk s l b i h p
  · have hr := Lib.hid (no_fc (show allOk s l b i h p fl fb fi fh q0 q1 q2 zf = false by simp [allOk, k1]))
    go_enter Try.func36, Try.ntmps36
    go_wp2_with fail
    refine (validLast_any _ _ _ _ _ _ _ hs).mono ?_
    rintro e w1 ⟨rfl, H1⟩
    have BX := (((Blk.new w 41 #[.string s, .int .i64 l, .int .i64 b, .int .i64 i, .int .i64 h, .int .i64 p]).alloc (.cells #[.int .i64 fl, .int .i64 fb, .int .i64 fi, .int .i64 fh] 25)).alloc (.cells #[.int .i64 q0, .int .i64 q1, .int .i64 q2, .slice Af nf cf] 53)).below H1
    have BF := ((Blk.new1 w _ 25 #[.int .i64 fl, .int .i64 fb, .int .i64 fi, .int .i64 fh]).alloc (.cells #[.int .i64 q0, .int .i64 q1, .int .i64 q2, .slice Af nf cf] 53)).below H1
    have BQ := (Blk.new2 w _ _ 53 #[.int .i64 q0, .int .i64 q1, .int .i64 q2, .slice Af nf cf]).below H1
    have HW : Below w.heap.size w w1 := Bl.then (by go_grown) H1
    clear H1
    have cX0 : w1.cell? ⟨w.heap.size, 0, none⟩ = some (.string s) := BX.cell 0
    have cX1 : w1.cell? ⟨w.heap.size, 1, none⟩ = some (.int .i64 l) := BX.cell 1
    have cX2 : w1.cell? ⟨w.heap.size, 2, none⟩ = some (.int .i64 b) := BX.cell 2
    have cX3 : w1.cell? ⟨w.heap.size, 3, none⟩ = some (.int .i64 i) := BX.cell 3
    have cX4 : w1.cell? ⟨w.heap.size, 4, none⟩ = some (.int .i64 h) := BX.cell 4
    have cX5 : w1.cell? ⟨w.heap.size, 5, none⟩ = some (.int .i64 p) := BX.cell 5
    have lX := BX.lt
    have cF0 : w1.cell? ⟨w.heap.size + 1, 0, none⟩ = some (.int .i64 fl) := BF.cell 0
    have cF1 : w1.cell? ⟨w.heap.size + 1, 1, none⟩ = some (.int .i64 fb) := BF.cell 1
    have cF2 : w1.cell? ⟨w.heap.size + 1, 2, none⟩ = some (.int .i64 fi) := BF.cell 2
    have cF3 : w1.cell? ⟨w.heap.size + 1, 3, none⟩ = some (.int .i64 fh) := BF.cell 3
    have lF := BF.lt
    have cQ0 : w1.cell? ⟨w.heap.size + 1 + 1, 0, none⟩ = some (.int .i64 q0) := BQ.cell 0
    have cQ1 : w1.cell? ⟨w.heap.size + 1 + 1, 1, none⟩ = some (.int .i64 q1) := BQ.cell 1
    have cQ2 : w1.cell? ⟨w.heap.size + 1 + 1, 2, none⟩ = some (.int .i64 q2) := BQ.cell 2
    have cQ3 : w1.cell? ⟨w.heap.size + 1 + 1, 3, none⟩ = some (.slice Af nf cf) := BQ.cell 3
    have lQ := BQ.lt
    go_wp2_with fail
    go_ret2
    exact ⟨ret_int2 hr.out.1 hr.out.2, HW⟩
  cases k2 : footOk fl fb fi fh
  · have hr := Lib.hid (no_fc (show allOk s l b i h p fl fb fi fh q0 q1 q2 zf = false by simp [allOk, k2]))
    go_enter Try.func36, Try.ntmps36
    go_wp2_with fail
    refine (validLast_any _ _ _ _ _ _ _ hs).mono ?_
    rintro e w1 ⟨rfl, H1⟩
    have BX := (((Blk.new w 41 #[.string s, .int .i64 l, .int .i64 b, .int .i64 i, .int .i64 h, .int .i64 p]).alloc (.cells #[.int .i64 fl, .int .i64 fb, .int .i64 fi, .int .i64 fh] 25)).alloc (.cells #[.int .i64 q0, .int .i64 q1, .int .i64 q2, .slice Af nf cf] 53)).below H1
    have BF := ((Blk.new1 w _ 25 #[.int .i64 fl, .int .i64 fb, .int .i64 fi, .int .i64 fh]).alloc (.cells #[.int .i64 q0, .int .i64 q1, .int .i64 q2, .slice Af nf cf] 53)).below H1
    have BQ := (Blk.new2 w _ _ 53 #[.int .i64 q0, .int .i64 q1, .int .i64 q2, .slice Af nf cf]).below H1
    have HW : Below w.heap.size w w1 := Bl.then (by go_grown) H1
    clear H1
    have cX0 : w1.cell? ⟨w.heap.size, 0, none⟩ = some (.string s) := BX.cell 0
    have cX1 : w1.cell? ⟨w.heap.size, 1, none⟩ = some (.int .i64 l) := BX.cell 1
    have cX2 : w1.cell? ⟨w.heap.size, 2, none⟩ = some (.int .i64 b) := BX.cell 2
    have cX3 : w1.cell? ⟨w.heap.size, 3, none⟩ = some (.int .i64 i) := BX.cell 3
    have cX4 : w1.cell? ⟨w.heap.size, 4, none⟩ = some (.int .i64 h) := BX.cell 4
    have cX5 : w1.cell? ⟨w.heap.size, 5, none⟩ = some (.int .i64 p) := BX.cell 5
    have lX := BX.lt
    have cF0 : w1.cell? ⟨w.heap.size + 1, 0, none⟩ = some (.int .i64 fl) := BF.cell 0
    have cF1 : w1.cell? ⟨w.heap.size + 1, 1, none⟩ = some (.int .i64 fb) := BF.cell 1
    have cF2 : w1.cell? ⟨w.heap.size + 1, 2, none⟩ = some (.int .i64 fi) := BF.cell 2
    have cF3 : w1.cell? ⟨w.heap.size + 1, 3, none⟩ = some (.int .i64 fh) := BF.cell 3
    have lF := BF.lt
    have cQ0 : w1.cell? ⟨w.heap.size + 1 + 1, 0, none⟩ = some (.int .i64 q0) := BQ.cell 0
    have cQ1 : w1.cell? ⟨w.heap.size + 1 + 1, 1, none⟩ = some (.int .i64 q1) := BQ.cell 1
    have cQ2 : w1.cell? ⟨w.heap.size + 1 + 1, 2, none⟩ = some (.int .i64 q2) := BQ.cell 2
    have cQ3 : w1.cell? ⟨w.heap.size + 1 + 1, 3, none⟩ = some (.slice Af nf cf) := BQ.cell 3
    have lQ := BQ.lt
    go_wp2_with fail
    refine (ValidFoot_any _ _ _ _ _).mono ?_
    rintro e w2 ⟨rfl, hb2⟩
    clear cX0 cX1 cX2 cX3 cX4 cX5 lX cF0 cF1 cF2 cF3 lF cQ0 cQ1 cQ2 cQ3 lQ
    replace BX := BX.below hb2
    replace BF := BF.below hb2
    replace BQ := BQ.below hb2
    replace HW := Bl.then HW hb2
    have cX0 : w2.cell? ⟨w.heap.size, 0, none⟩ = some (.string s) := BX.cell 0
    have cX1 : w2.cell? ⟨w.heap.size, 1, none⟩ = some (.int .i64 l) := BX.cell 1
    have cX2 : w2.cell? ⟨w.heap.size, 2, none⟩ = some (.int .i64 b) := BX.cell 2
    have cX3 : w2.cell? ⟨w.heap.size, 3, none⟩ = some (.int .i64 i) := BX.cell 3
    have cX4 : w2.cell? ⟨w.heap.size, 4, none⟩ = some (.int .i64 h) := BX.cell 4
    have cX5 : w2.cell? ⟨w.heap.size, 5, none⟩ = some (.int .i64 p) := BX.cell 5
    have lX := BX.lt
    have cF0 : w2.cell? ⟨w.heap.size + 1, 0, none⟩ = some (.int .i64 fl) := BF.cell 0
    have cF1 : w2.cell? ⟨w.heap.size + 1, 1, none⟩ = some (.int .i64 fb) := BF.cell 1
    have cF2 : w2.cell? ⟨w.heap.size + 1, 2, none⟩ = some (.int .i64 fi) := BF.cell 2
    have cF3 : w2.cell? ⟨w.heap.size + 1, 3, none⟩ = some (.int .i64 fh) := BF.cell 3
    have lF := BF.lt
    have cQ0 : w2.cell? ⟨w.heap.size + 1 + 1, 0, none⟩ = some (.int .i64 q0) := BQ.cell 0
    have cQ1 : w2.cell? ⟨w.heap.size + 1 + 1, 1, none⟩ = some (.int .i64 q1) := BQ.cell 1
    have cQ2 : w2.cell? ⟨w.heap.size + 1 + 1, 2, none⟩ = some (.int .i64 q2) := BQ.cell 2
    have cQ3 : w2.cell? ⟨w.heap.size + 1 + 1, 3, none⟩ = some (.slice Af nf cf) := BQ.cell 3
    have lQ := BQ.lt
    go_wp2_with fail
    go_ret2
    exact ⟨ret_int2 hr.out.1 hr.out.2, HW⟩
  cases k3 : fitOk q0 q1 q2 zf
  · have hr := Lib.hid (no_fc (show allOk s l b i h p fl fb fi fh q0 q1 q2 zf = false by simp [allOk, k3]))
    go_enter Try.func36, Try.ntmps36
    go_wp2_with fail
    refine (validLast_any _ _ _ _ _ _ _ hs).mono ?_
    rintro e w1 ⟨rfl, H1⟩
    have BX := (((Blk.new w 41 #[.string s, .int .i64 l, .int .i64 b, .int .i64 i, .int .i64 h, .int .i64 p]).alloc (.cells #[.int .i64 fl, .int .i64 fb, .int .i64 fi, .int .i64 fh] 25)).alloc (.cells #[.int .i64 q0, .int .i64 q1, .int .i64 q2, .slice Af nf cf] 53)).below H1
    have BF := ((Blk.new1 w _ 25 #[.int .i64 fl, .int .i64 fb, .int .i64 fi, .int .i64 fh]).alloc (.cells #[.int .i64 q0, .int .i64 q1, .int .i64 q2, .slice Af nf cf] 53)).below H1
    have BQ := (Blk.new2 w _ _ 53 #[.int .i64 q0, .int .i64 q1, .int .i64 q2, .slice Af nf cf]).below H1
    have HW : Below w.heap.size w w1 := Bl.then (by go_grown) H1
    clear H1
    have cX0 : w1.cell? ⟨w.heap.size, 0, none⟩ = some (.string s) := BX.cell 0
    have cX1 : w1.cell? ⟨w.heap.size, 1, none⟩ = some (.int .i64 l) := BX.cell 1
    have cX2 : w1.cell? ⟨w.heap.size, 2, none⟩ = some (.int .i64 b) := BX.cell 2
    have cX3 : w1.cell? ⟨w.heap.size, 3, none⟩ = some (.int .i64 i) := BX.cell 3
    have cX4 : w1.cell? ⟨w.heap.size, 4, none⟩ = some (.int .i64 h) := BX.cell 4
    have cX5 : w1.cell? ⟨w.heap.size, 5, none⟩ = some (.int .i64 p) := BX.cell 5
    have lX := BX.lt
    have cF0 : w1.cell? ⟨w.heap.size + 1, 0, none⟩ = some (.int .i64 fl) := BF.cell 0
    have cF1 : w1.cell? ⟨w.heap.size + 1, 1, none⟩ = some (.int .i64 fb) := BF.cell 1
    have cF2 : w1.cell? ⟨w.heap.size + 1, 2, none⟩ = some (.int .i64 fi) := BF.cell 2
    have cF3 : w1.cell? ⟨w.heap.size + 1, 3, none⟩ = some (.int .i64 fh) := BF.cell 3
    have lF := BF.lt
    have cQ0 : w1.cell? ⟨w.heap.size + 1 + 1, 0, none⟩ = some (.int .i64 q0) := BQ.cell 0
    have cQ1 : w1.cell? ⟨w.heap.size + 1 + 1, 1, none⟩ = some (.int .i64 q1) := BQ.cell 1
    have cQ2 : w1.cell? ⟨w.heap.size + 1 + 1, 2, none⟩ = some (.int .i64 q2) := BQ.cell 2
    have cQ3 : w1.cell? ⟨w.heap.size + 1 + 1, 3, none⟩ = some (.slice Af nf cf) := BQ.cell 3
    have lQ := BQ.lt
    go_wp2_with fail
    refine (ValidFoot_any _ _ _ _ _).mono ?_
    rintro e w2 ⟨rfl, hb2⟩
    clear cX0 cX1 cX2 cX3 cX4 cX5 lX cF0 cF1 cF2 cF3 lF cQ0 cQ1 cQ2 cQ3 lQ
    replace BX := BX.below hb2
    replace BF := BF.below hb2
    replace BQ := BQ.below hb2
    replace HW := Bl.then HW hb2
    have cX0 : w2.cell? ⟨w.heap.size, 0, none⟩ = some (.string s) := BX.cell 0
    have cX1 : w2.cell? ⟨w.heap.size, 1, none⟩ = some (.int .i64 l) := BX.cell 1
    have cX2 : w2.cell? ⟨w.heap.size, 2, none⟩ = some (.int .i64 b) := BX.cell 2
    have cX3 : w2.cell? ⟨w.heap.size, 3, none⟩ = some (.int .i64 i) := BX.cell 3
    have cX4 : w2.cell? ⟨w.heap.size, 4, none⟩ = some (.int .i64 h) := BX.cell 4
    have cX5 : w2.cell? ⟨w.heap.size, 5, none⟩ = some (.int .i64 p) := BX.cell 5
    have lX := BX.lt
    have cF0 : w2.cell? ⟨w.heap.size + 1, 0, none⟩ = some (.int .i64 fl) := BF.cell 0
    have cF1 : w2.cell? ⟨w.heap.size + 1, 1, none⟩ = some (.int .i64 fb) := BF.cell 1
    have cF2 : w2.cell? ⟨w.heap.size + 1, 2, none⟩ = some (.int .i64 fi) := BF.cell 2
    have cF3 : w2.cell? ⟨w.heap.size + 1, 3, none⟩ = some (.int .i64 fh) := BF.cell 3
    have lF := BF.lt
    have cQ0 : w2.cell? ⟨w.heap.size + 1 + 1, 0, none⟩ = some (.int .i64 q0) := BQ.cell 0
    have cQ1 : w2.cell? ⟨w.heap.size + 1 + 1, 1, none⟩ = some (.int .i64 q1) := BQ.cell 1
    have cQ2 : w2.cell? ⟨w.heap.size + 1 + 1, 2, none⟩ = some (.int .i64 q2) := BQ.cell 2
    have cQ3 : w2.cell? ⟨w.heap.size + 1 + 1, 3, none⟩ = some (.slice Af nf cf) := BQ.cell 3
    have lQ := BQ.lt
    go_wp2_with fail
    refine (ValidFit_any _ _ _ _ _ _ _ _ (h0.below HW) hn).mono ?_
    rintro e w3 ⟨rfl, hb3⟩
    clear cX0 cX1 cX2 cX3 cX4 cX5 lX cF0 cF1 cF2 cF3 lF cQ0 cQ1 cQ2 cQ3 lQ
    replace BX := BX.below hb3
    replace BF := BF.below hb3
    replace BQ := BQ.below hb3
    replace HW := Bl.then HW hb3
    have cX0 : w3.cell? ⟨w.heap.size, 0, none⟩ = some (.string s) := BX.cell 0
    have cX1 : w3.cell? ⟨w.heap.size, 1, none⟩ = some (.int .i64 l) := BX.cell 1
    have cX2 : w3.cell? ⟨w.heap.size, 2, none⟩ = some (.int .i64 b) := BX.cell 2
    have cX3 : w3.cell? ⟨w.heap.size, 3, none⟩ = some (.int .i64 i) := BX.cell 3
    have cX4 : w3.cell? ⟨w.heap.size, 4, none⟩ = some (.int .i64 h) := BX.cell 4
    have cX5 : w3.cell? ⟨w.heap.size, 5, none⟩ = some (.int .i64 p) := BX.cell 5
    have lX := BX.lt
    have cF0 : w3.cell? ⟨w.heap.size + 1, 0, none⟩ = some (.int .i64 fl) := BF.cell 0
    have cF1 : w3.cell? ⟨w.heap.size + 1, 1, none⟩ = some (.int .i64 fb) := BF.cell 1
    have cF2 : w3.cell? ⟨w.heap.size + 1, 2, none⟩ = some (.int .i64 fi) := BF.cell 2
    have cF3 : w3.cell? ⟨w.heap.size + 1, 3, none⟩ = some (.int .i64 fh) := BF.cell 3
    have lF := BF.lt
    have cQ0 : w3.cell? ⟨w.heap.size + 1 + 1, 0, none⟩ = some (.int .i64 q0) := BQ.cell 0
    have cQ1 : w3.cell? ⟨w.heap.size + 1 + 1, 1, none⟩ = some (.int .i64 q1) := BQ.cell 1
    have cQ2 : w3.cell? ⟨w.heap.size + 1 + 1, 2, none⟩ = some (.int .i64 q2) := BQ.cell 2
    have cQ3 : w3.cell? ⟨w.heap.size + 1 + 1, 3, none⟩ = some (.slice Af nf cf) := BQ.cell 3
    have lQ := BQ.lt
    go_wp2_with fail
    go_ret2
    exact ⟨ret_int2 hr.out.1 hr.out.2, HW⟩
  have hok : allOk s l b i h p fl fb fi fh q0 q1 q2 zf = true := by simp [allOk, k1, k2, k3]
  have k1' := Lib.hid k1
  have k2' := Lib.hid k2
  have k3' := Lib.hid k3
  cases hm : mayF l b i h fl fb fi fh q0 q1 q2
  · have hr1 := Lib.hid (show (0 : Int) = fcV s l b i h p fl fb fi fh q0 q1 q2 zf by simp [fcV, hok, hm])
    have hr2 := Lib.hid (show (10 : Int) = fcC s l b i h p fl fb fi fh q0 q1 q2 zf by simp [fcC, hok, hm])
    clear hok
    go_enter Try.func36, Try.ntmps36
    go_wp2_with fail
    refine (validLast_any _ _ _ _ _ _ _ hs).mono ?_
    rintro e w1 ⟨rfl, H1⟩
    have BX := (((Blk.new w 41 #[.string s, .int .i64 l, .int .i64 b, .int .i64 i, .int .i64 h, .int .i64 p]).alloc (.cells #[.int .i64 fl, .int .i64 fb, .int .i64 fi, .int .i64 fh] 25)).alloc (.cells #[.int .i64 q0, .int .i64 q1, .int .i64 q2, .slice Af nf cf] 53)).below H1
    have BF := ((Blk.new1 w _ 25 #[.int .i64 fl, .int .i64 fb, .int .i64 fi, .int .i64 fh]).alloc (.cells #[.int .i64 q0, .int .i64 q1, .int .i64 q2, .slice Af nf cf] 53)).below H1
    have BQ := (Blk.new2 w _ _ 53 #[.int .i64 q0, .int .i64 q1, .int .i64 q2, .slice Af nf cf]).below H1
    have HW : Below w.heap.size w w1 := Bl.then (by go_grown) H1
    clear H1
    have cX0 : w1.cell? ⟨w.heap.size, 0, none⟩ = some (.string s) := BX.cell 0
    have cX1 : w1.cell? ⟨w.heap.size, 1, none⟩ = some (.int .i64 l) := BX.cell 1
    have cX2 : w1.cell? ⟨w.heap.size, 2, none⟩ = some (.int .i64 b) := BX.cell 2
    have cX3 : w1.cell? ⟨w.heap.size, 3, none⟩ = some (.int .i64 i) := BX.cell 3
    have cX4 : w1.cell? ⟨w.heap.size, 4, none⟩ = some (.int .i64 h) := BX.cell 4
    have cX5 : w1.cell? ⟨w.heap.size, 5, none⟩ = some (.int .i64 p) := BX.cell 5
    have lX := BX.lt
    have cF0 : w1.cell? ⟨w.heap.size + 1, 0, none⟩ = some (.int .i64 fl) := BF.cell 0
    have cF1 : w1.cell? ⟨w.heap.size + 1, 1, none⟩ = some (.int .i64 fb) := BF.cell 1
    have cF2 : w1.cell? ⟨w.heap.size + 1, 2, none⟩ = some (.int .i64 fi) := BF.cell 2
    have cF3 : w1.cell? ⟨w.heap.size + 1, 3, none⟩ = some (.int .i64 fh) := BF.cell 3
    have lF := BF.lt
    have cQ0 : w1.cell? ⟨w.heap.size + 1 + 1, 0, none⟩ = some (.int .i64 q0) := BQ.cell 0
    have cQ1 : w1.cell? ⟨w.heap.size + 1 + 1, 1, none⟩ = some (.int .i64 q1) := BQ.cell 1
    have cQ2 : w1.cell? ⟨w.heap.size + 1 + 1, 2, none⟩ = some (.int .i64 q2) := BQ.cell 2
    have cQ3 : w1.cell? ⟨w.heap.size + 1 + 1, 3, none⟩ = some (.slice Af nf cf) := BQ.cell 3
    have lQ := BQ.lt
    go_wp2_with fail
    refine (ValidFoot_any _ _ _ _ _).mono ?_
    rintro e w2 ⟨rfl, hb2⟩
    clear cX0 cX1 cX2 cX3 cX4 cX5 lX cF0 cF1 cF2 cF3 lF cQ0 cQ1 cQ2 cQ3 lQ
    replace BX := BX.below hb2
    replace BF := BF.below hb2
    replace BQ := BQ.below hb2
    replace HW := Bl.then HW hb2
    have cX0 : w2.cell? ⟨w.heap.size, 0, none⟩ = some (.string s) := BX.cell 0
    have cX1 : w2.cell? ⟨w.heap.size, 1, none⟩ = some (.int .i64 l) := BX.cell 1
    have cX2 : w2.cell? ⟨w.heap.size, 2, none⟩ = some (.int .i64 b) := BX.cell 2
    have cX3 : w2.cell? ⟨w.heap.size, 3, none⟩ = some (.int .i64 i) := BX.cell 3
    have cX4 : w2.cell? ⟨w.heap.size, 4, none⟩ = some (.int .i64 h) := BX.cell 4
    have cX5 : w2.cell? ⟨w.heap.size, 5, none⟩ = some (.int .i64 p) := BX.cell 5
    have lX := BX.lt
    have cF0 : w2.cell? ⟨w.heap.size + 1, 0, none⟩ = some (.int .i64 fl) := BF.cell 0
    have cF1 : w2.cell? ⟨w.heap.size + 1, 1, none⟩ = some (.int .i64 fb) := BF.cell 1
    have cF2 : w2.cell? ⟨w.heap.size + 1, 2, none⟩ = some (.int .i64 fi) := BF.cell 2
    have cF3 : w2.cell? ⟨w.heap.size + 1, 3, none⟩ = some (.int .i64 fh) := BF.cell 3
    have lF := BF.lt
    have cQ0 : w2.cell? ⟨w.heap.size + 1 + 1, 0, none⟩ = some (.int .i64 q0) := BQ.cell 0
    have cQ1 : w2.cell? ⟨w.heap.size + 1 + 1, 1, none⟩ = some (.int .i64 q1) := BQ.cell 1
    have cQ2 : w2.cell? ⟨w.heap.size + 1 + 1, 2, none⟩ = some (.int .i64 q2) := BQ.cell 2
    have cQ3 : w2.cell? ⟨w.heap.size + 1 + 1, 3, none⟩ = some (.slice Af nf cf) := BQ.cell 3
    have lQ := BQ.lt
    go_wp2_with fail
    refine (ValidFit_any _ _ _ _ _ _ _ _ (h0.below HW) hn).mono ?_
    rintro e w3 ⟨rfl, hb3⟩
    clear cX0 cX1 cX2 cX3 cX4 cX5 lX cF0 cF1 cF2 cF3 lF cQ0 cQ1 cQ2 cQ3 lQ
    replace BX := BX.below hb3
    replace BF := BF.below hb3
    replace BQ := BQ.below hb3
    replace HW := Bl.then HW hb3
    have cX0 : w3.cell? ⟨w.heap.size, 0, none⟩ = some (.string s) := BX.cell 0
    have cX1 : w3.cell? ⟨w.heap.size, 1, none⟩ = some (.int .i64 l) := BX.cell 1
    have cX2 : w3.cell? ⟨w.heap.size, 2, none⟩ = some (.int .i64 b) := BX.cell 2
    have cX3 : w3.cell? ⟨w.heap.size, 3, none⟩ = some (.int .i64 i) := BX.cell 3
    have cX4 : w3.cell? ⟨w.heap.size, 4, none⟩ = some (.int .i64 h) := BX.cell 4
    have cX5 : w3.cell? ⟨w.heap.size, 5, none⟩ = some (.int .i64 p) := BX.cell 5
    have lX := BX.lt
    have cF0 : w3.cell? ⟨w.heap.size + 1, 0, none⟩ = some (.int .i64 fl) := BF.cell 0
    have cF1 : w3.cell? ⟨w.heap.size + 1, 1, none⟩ = some (.int .i64 fb) := BF.cell 1
    have cF2 : w3.cell? ⟨w.heap.size + 1, 2, none⟩ = some (.int .i64 fi) := BF.cell 2
    have cF3 : w3.cell? ⟨w.heap.size + 1, 3, none⟩ = some (.int .i64 fh) := BF.cell 3
    have lF := BF.lt
    have cQ0 : w3.cell? ⟨w.heap.size + 1 + 1, 0, none⟩ = some (.int .i64 q0) := BQ.cell 0
    have cQ1 : w3.cell? ⟨w.heap.size + 1 + 1, 1, none⟩ = some (.int .i64 q1) := BQ.cell 1
    have cQ2 : w3.cell? ⟨w.heap.size + 1 + 1, 2, none⟩ = some (.int .i64 q2) := BQ.cell 2
    have cQ3 : w3.cell? ⟨w.heap.size + 1 + 1, 3, none⟩ = some (.slice Af nf cf) := BQ.cell 3
    have lQ := BQ.lt
    go_wp2_with fail
    refine (fitCost_any _ _ _ _ _ _ _ _ _ _ _ _ _ _ _ _ _ _ (h0.below HW) k1'.out k2'.out k3'.out).mono ?_
    rintro e w4 ⟨rfl, hb4⟩
    clear cX0 cX1 cX2 cX3 cX4 cX5 lX cF0 cF1 cF2 cF3 lF cQ0 cQ1 cQ2 cQ3 lQ
    replace BX := BX.below hb4
    replace BF := BF.below hb4
    replace BQ := BQ.below hb4
    replace HW := Bl.then HW hb4
    have cX0 : w4.cell? ⟨w.heap.size, 0, none⟩ = some (.string s) := BX.cell 0
    have cX1 : w4.cell? ⟨w.heap.size, 1, none⟩ = some (.int .i64 l) := BX.cell 1
    have cX2 : w4.cell? ⟨w.heap.size, 2, none⟩ = some (.int .i64 b) := BX.cell 2
    have cX3 : w4.cell? ⟨w.heap.size, 3, none⟩ = some (.int .i64 i) := BX.cell 3
    have cX4 : w4.cell? ⟨w.heap.size, 4, none⟩ = some (.int .i64 h) := BX.cell 4
    have cX5 : w4.cell? ⟨w.heap.size, 5, none⟩ = some (.int .i64 p) := BX.cell 5
    have lX := BX.lt
    have cF0 : w4.cell? ⟨w.heap.size + 1, 0, none⟩ = some (.int .i64 fl) := BF.cell 0
    have cF1 : w4.cell? ⟨w.heap.size + 1, 1, none⟩ = some (.int .i64 fb) := BF.cell 1
    have cF2 : w4.cell? ⟨w.heap.size + 1, 2, none⟩ = some (.int .i64 fi) := BF.cell 2
    have cF3 : w4.cell? ⟨w.heap.size + 1, 3, none⟩ = some (.int .i64 fh) := BF.cell 3
    have lF := BF.lt
    have cQ0 : w4.cell? ⟨w.heap.size + 1 + 1, 0, none⟩ = some (.int .i64 q0) := BQ.cell 0
    have cQ1 : w4.cell? ⟨w.heap.size + 1 + 1, 1, none⟩ = some (.int .i64 q1) := BQ.cell 1
    have cQ2 : w4.cell? ⟨w.heap.size + 1 + 1, 2, none⟩ = some (.int .i64 q2) := BQ.cell 2
    have cQ3 : w4.cell? ⟨w.heap.size + 1 + 1, 3, none⟩ = some (.slice Af nf cf) := BQ.cell 3
    have lQ := BQ.lt
    go_wp2_with fail
    go_ret2
    exact ⟨ret_int2 hr1.out hr2.out, HW⟩
  · have hr1 := Lib.hid (show costF l b i h fl fb fi fh q0 zf = fcV s l b i h p fl fb fi fh q0 q1 q2 zf by simp [fcV, hok, hm])
    have hr2 := Lib.hid (show (0 : Int) = fcC s l b i h p fl fb fi fh q0 q1 q2 zf by simp [fcC, hok, hm])
    clear hok
    go_enter Try.func36, Try.ntmps36
    go_wp2_with fail
    refine (validLast_any _ _ _ _ _ _ _ hs).mono ?_
    rintro e w1 ⟨rfl, H1⟩
    have BX := (((Blk.new w 41 #[.string s, .int .i64 l, .int .i64 b, .int .i64 i, .int .i64 h, .int .i64 p]).alloc (.cells #[.int .i64 fl, .int .i64 fb, .int .i64 fi, .int .i64 fh] 25)).alloc (.cells #[.int .i64 q0, .int .i64 q1, .int .i64 q2, .slice Af nf cf] 53)).below H1
    have BF := ((Blk.new1 w _ 25 #[.int .i64 fl, .int .i64 fb, .int .i64 fi, .int .i64 fh]).alloc (.cells #[.int .i64 q0, .int .i64 q1, .int .i64 q2, .slice Af nf cf] 53)).below H1
    have BQ := (Blk.new2 w _ _ 53 #[.int .i64 q0, .int .i64 q1, .int .i64 q2, .slice Af nf cf]).below H1
    have HW : Below w.heap.size w w1 := Bl.then (by go_grown) H1
    clear H1
    have cX0 : w1.cell? ⟨w.heap.size, 0, none⟩ = some (.string s) := BX.cell 0
    have cX1 : w1.cell? ⟨w.heap.size, 1, none⟩ = some (.int .i64 l) := BX.cell 1
    have cX2 : w1.cell? ⟨w.heap.size, 2, none⟩ = some (.int .i64 b) := BX.cell 2
    have cX3 : w1.cell? ⟨w.heap.size, 3, none⟩ = some (.int .i64 i) := BX.cell 3
    have cX4 : w1.cell? ⟨w.heap.size, 4, none⟩ = some (.int .i64 h) := BX.cell 4
    have cX5 : w1.cell? ⟨w.heap.size, 5, none⟩ = some (.int .i64 p) := BX.cell 5
    have lX := BX.lt
    have cF0 : w1.cell? ⟨w.heap.size + 1, 0, none⟩ = some (.int .i64 fl) := BF.cell 0
    have cF1 : w1.cell? ⟨w.heap.size + 1, 1, none⟩ = some (.int .i64 fb) := BF.cell 1
    have cF2 : w1.cell? ⟨w.heap.size + 1, 2, none⟩ = some (.int .i64 fi) := BF.cell 2
    have cF3 : w1.cell? ⟨w.heap.size + 1, 3, none⟩ = some (.int .i64 fh) := BF.cell 3
    have lF := BF.lt
    have cQ0 : w1.cell? ⟨w.heap.size + 1 + 1, 0, none⟩ = some (.int .i64 q0) := BQ.cell 0
    have cQ1 : w1.cell? ⟨w.heap.size + 1 + 1, 1, none⟩ = some (.int .i64 q1) := BQ.cell 1
    have cQ2 : w1.cell? ⟨w.heap.size + 1 + 1, 2, none⟩ = some (.int .i64 q2) := BQ.cell 2
    have cQ3 : w1.cell? ⟨w.heap.size + 1 + 1, 3, none⟩ = some (.slice Af nf cf) := BQ.cell 3
    have lQ := BQ.lt
    go_wp2_with fail
    refine (ValidFoot_any _ _ _ _ _).mono ?_
    rintro e w2 ⟨rfl, hb2⟩
    clear cX0 cX1 cX2 cX3 cX4 cX5 lX cF0 cF1 cF2 cF3 lF cQ0 cQ1 cQ2 cQ3 lQ
    replace BX := BX.below hb2
    replace BF := BF.below hb2
    replace BQ := BQ.below hb2
    replace HW := Bl.then HW hb2
    have cX0 : w2.cell? ⟨w.heap.size, 0, none⟩ = some (.string s) := BX.cell 0
    have cX1 : w2.cell? ⟨w.heap.size, 1, none⟩ = some (.int .i64 l) := BX.cell 1
    have cX2 : w2.cell? ⟨w.heap.size, 2, none⟩ = some (.int .i64 b) := BX.cell 2
    have cX3 : w2.cell? ⟨w.heap.size, 3, none⟩ = some (.int .i64 i) := BX.cell 3
    have cX4 : w2.cell? ⟨w.heap.size, 4, none⟩ = some (.int .i64 h) := BX.cell 4
    have cX5 : w2.cell? ⟨w.heap.size, 5, none⟩ = some (.int .i64 p) := BX.cell 5
    have lX := BX.lt
    have cF0 : w2.cell? ⟨w.heap.size + 1, 0, none⟩ = some (.int .i64 fl) := BF.cell 0
    have cF1 : w2.cell? ⟨w.heap.size + 1, 1, none⟩ = some (.int .i64 fb) := BF.cell 1
    have cF2 : w2.cell? ⟨w.heap.size + 1, 2, none⟩ = some (.int .i64 fi) := BF.cell 2
    have cF3 : w2.cell? ⟨w.heap.size + 1, 3, none⟩ = some (.int .i64 fh) := BF.cell 3
    have lF := BF.lt
    have cQ0 : w2.cell? ⟨w.heap.size + 1 + 1, 0, none⟩ = some (.int .i64 q0) := BQ.cell 0
    have cQ1 : w2.cell? ⟨w.heap.size + 1 + 1, 1, none⟩ = some (.int .i64 q1) := BQ.cell 1
    have cQ2 : w2.cell? ⟨w.heap.size + 1 + 1, 2, none⟩ = some (.int .i64 q2) := BQ.cell 2
    have cQ3 : w2.cell? ⟨w.heap.size + 1 + 1, 3, none⟩ = some (.slice Af nf cf) := BQ.cell 3
    have lQ := BQ.lt
    go_wp2_with fail
    refine (ValidFit_any _ _ _ _ _ _ _ _ (h0.below HW) hn).mono ?_
    rintro e w3 ⟨rfl, hb3⟩
    clear cX0 cX1 cX2 cX3 cX4 cX5 lX cF0 cF1 cF2 cF3 lF cQ0 cQ1 cQ2 cQ3 lQ
    replace BX := BX.below hb3
    replace BF := BF.below hb3
    replace BQ := BQ.below hb3
    replace HW := Bl.then HW hb3
    have cX0 : w3.cell? ⟨w.heap.size, 0, none⟩ = some (.string s) := BX.cell 0
    have cX1 : w3.cell? ⟨w.heap.size, 1, none⟩ = some (.int .i64 l) := BX.cell 1
    have cX2 : w3.cell? ⟨w.heap.size, 2, none⟩ = some (.int .i64 b) := BX.cell 2
    have cX3 : w3.cell? ⟨w.heap.size, 3, none⟩ = some (.int .i64 i) := BX.cell 3
    have cX4 : w3.cell? ⟨w.heap.size, 4, none⟩ = some (.int .i64 h) := BX.cell 4
    have cX5 : w3.cell? ⟨w.heap.size, 5, none⟩ = some (.int .i64 p) := BX.cell 5
    have lX := BX.lt
    have cF0 : w3.cell? ⟨w.heap.size + 1, 0, none⟩ = some (.int .i64 fl) := BF.cell 0
    have cF1 : w3.cell? ⟨w.heap.size + 1, 1, none⟩ = some (.int .i64 fb) := BF.cell 1
    have cF2 : w3.cell? ⟨w.heap.size + 1, 2, none⟩ = some (.int .i64 fi) := BF.cell 2
    have cF3 : w3.cell? ⟨w.heap.size + 1, 3, none⟩ = some (.int .i64 fh) := BF.cell 3
    have lF := BF.lt
    have cQ0 : w3.cell? ⟨w.heap.size + 1 + 1, 0, none⟩ = some (.int .i64 q0) := BQ.cell 0
    have cQ1 : w3.cell? ⟨w.heap.size + 1 + 1, 1, none⟩ = some (.int .i64 q1) := BQ.cell 1
    have cQ2 : w3.cell? ⟨w.heap.size + 1 + 1, 2, none⟩ = some (.int .i64 q2) := BQ.cell 2
    have cQ3 : w3.cell? ⟨w.heap.size + 1 + 1, 3, none⟩ = some (.slice Af nf cf) := BQ.cell 3
    have lQ := BQ.lt
    go_wp2_with fail
    refine (fitCost_any _ _ _ _ _ _ _ _ _ _ _ _ _ _ _ _ _ _ (h0.below HW) k1'.out k2'.out k3'.out).mono ?_
    rintro e w4 ⟨rfl, hb4⟩
    clear cX0 cX1 cX2 cX3 cX4 cX5 lX cF0 cF1 cF2 cF3 lF cQ0 cQ1 cQ2 cQ3 lQ
    replace BX := BX.below hb4
    replace BF := BF.below hb4
    replace BQ := BQ.below hb4
    replace HW := Bl.then HW hb4
    have cX0 : w4.cell? ⟨w.heap.size, 0, none⟩ = some (.string s) := BX.cell 0
    have cX1 : w4.cell? ⟨w.heap.size, 1, none⟩ = some (.int .i64 l) := BX.cell 1
    have cX2 : w4.cell? ⟨w.heap.size, 2, none⟩ = some (.int .i64 b) := BX.cell 2
    have cX3 : w4.cell? ⟨w.heap.size, 3, none⟩ = some (.int .i64 i) := BX.cell 3
    have cX4 : w4.cell? ⟨w.heap.size, 4, none⟩ = some (.int .i64 h) := BX.cell 4
    have cX5 : w4.cell? ⟨w.heap.size, 5, none⟩ = some (.int .i64 p) := BX.cell 5
    have lX := BX.lt
    have cF0 : w4.cell? ⟨w.heap.size + 1, 0, none⟩ = some (.int .i64 fl) := BF.cell 0
    have cF1 : w4.cell? ⟨w.heap.size + 1, 1, none⟩ = some (.int .i64 fb) := BF.cell 1
    have cF2 : w4.cell? ⟨w.heap.size + 1, 2, none⟩ = some (.int .i64 fi) := BF.cell 2
    have cF3 : w4.cell? ⟨w.heap.size + 1, 3, none⟩ = some (.int .i64 fh) := BF.cell 3
    have lF := BF.lt
    have cQ0 : w4.cell? ⟨w.heap.size + 1 + 1, 0, none⟩ = some (.int .i64 q0) := BQ.cell 0
    have cQ1 : w4.cell? ⟨w.heap.size + 1 + 1, 1, none⟩ = some (.int .i64 q1) := BQ.cell 1
    have cQ2 : w4.cell? ⟨w.heap.size + 1 + 1, 2, none⟩ = some (.int .i64 q2) := BQ.cell 2
    have cQ3 : w4.cell? ⟨w.heap.size + 1 + 1, 3, none⟩ = some (.slice Af nf cf) := BQ.cell 3
    have lQ := BQ.lt
    go_wp2_with fail
    go_ret2
    exact ⟨ret_int2 hr1.out hr2.out, HW⟩
set_option maxRecDepth 100000 in
theorem sFitCost_any (s : ByteArray) (l b i h p fl fb fi fh q0 q1 q2 : Int) (Af : Option Addr) (nf cf : Nat) (zf : List Int) (w : World) (h0 : Rd w 1 Af nf (ints zf)) (hn : nf ≤ 1048576) (hs : s.size ≤ maxLen) :
    Calls Try.prog 35 #[.agg #[.string s, .int .i64 l, .int .i64 b, .int .i64 i, .int .i64 h, .int .i64 p], .agg #[.int .i64 fl, .int .i64 fb, .int .i64 fi, .int .i64 fh], .agg #[.int .i64 q0, .int .i64 q1, .int .i64 q2, .slice Af nf cf]] w fun e w' => e = .returned (.tuple #[.int .i64 (fcV s l b i h p fl fb fi fh q0 q1 q2 zf), .int .i64 (fcC s l b i h p fl fb fi fh q0 q1 q2 zf)]) ∧ Below w.heap.size w w' := by
  cases k1 : lastOk s l b i h p
  · have hr := Lib.hid (no_fc (show allOk s l b i h p fl fb fi fh q0 q1 q2 zf = false by simp [allOk, k1]))
    go_enter Try.func35, Try.ntmps35
    go_wp2_with fail
    refine (l04One_any _ _ _ _ _ _ _ hs).mono ?_
    rintro e w1 ⟨rfl, H1⟩
    have BX := (((Blk.new w 41 #[.string s, .int .i64 l, .int .i64 b, .int .i64 i, .int .i64 h, .int .i64 p]).alloc (.cells #[.int .i64 fl, .int .i64 fb, .int .i64 fi, .int .i64 fh] 25)).alloc (.cells #[.int .i64 q0, .int .i64 q1, .int .i64 q2, .slice Af nf cf] 53)).below H1
    have BF := ((Blk.new1 w _ 25 #[.int .i64 fl, .int .i64 fb, .int .i64 fi, .int .i64 fh]).alloc (.cells #[.int .i64 q0, .int .i64 q1, .int .i64 q2, .slice Af nf cf] 53)).below H1
    have BQ := (Blk.new2 w _ _ 53 #[.int .i64 q0, .int .i64 q1, .int .i64 q2, .slice Af nf cf]).below H1
    have HW : Below w.heap.size w w1 := Bl.then (by go_grown) H1
    clear H1
    have cX0 : w1.cell? ⟨w.heap.size, 0, none⟩ = some (.string s) := BX.cell 0
    have cX1 : w1.cell? ⟨w.heap.size, 1, none⟩ = some (.int .i64 l) := BX.cell 1
    have cX2 : w1.cell? ⟨w.heap.size, 2, none⟩ = some (.int .i64 b) := BX.cell 2
    have cX3 : w1.cell? ⟨w.heap.size, 3, none⟩ = some (.int .i64 i) := BX.cell 3
    have cX4 : w1.cell? ⟨w.heap.size, 4, none⟩ = some (.int .i64 h) := BX.cell 4
    have cX5 : w1.cell? ⟨w.heap.size, 5, none⟩ = some (.int .i64 p) := BX.cell 5
    have lX := BX.lt
    have cF0 : w1.cell? ⟨w.heap.size + 1, 0, none⟩ = some (.int .i64 fl) := BF.cell 0
    have cF1 : w1.cell? ⟨w.heap.size + 1, 1, none⟩ = some (.int .i64 fb) := BF.cell 1
    have cF2 : w1.cell? ⟨w.heap.size + 1, 2, none⟩ = some (.int .i64 fi) := BF.cell 2
    have cF3 : w1.cell? ⟨w.heap.size + 1, 3, none⟩ = some (.int .i64 fh) := BF.cell 3
    have lF := BF.lt
    have cQ0 : w1.cell? ⟨w.heap.size + 1 + 1, 0, none⟩ = some (.int .i64 q0) := BQ.cell 0
    have cQ1 : w1.cell? ⟨w.heap.size + 1 + 1, 1, none⟩ = some (.int .i64 q1) := BQ.cell 1
    have cQ2 : w1.cell? ⟨w.heap.size + 1 + 1, 2, none⟩ = some (.int .i64 q2) := BQ.cell 2
    have cQ3 : w1.cell? ⟨w.heap.size + 1 + 1, 3, none⟩ = some (.slice Af nf cf) := BQ.cell 3
    have lQ := BQ.lt
    go_wp2_with fail
    go_ret2
    exact ⟨ret_int2 hr.out.1 hr.out.2, HW⟩
  cases k2 : footOk fl fb fi fh
  · have hr := Lib.hid (no_fc (show allOk s l b i h p fl fb fi fh q0 q1 q2 zf = false by simp [allOk, k2]))
    go_enter Try.func35, Try.ntmps35
    go_wp2_with fail
    refine (l04One_any _ _ _ _ _ _ _ hs).mono ?_
    rintro e w1 ⟨rfl, H1⟩
    have BX := (((Blk.new w 41 #[.string s, .int .i64 l, .int .i64 b, .int .i64 i, .int .i64 h, .int .i64 p]).alloc (.cells #[.int .i64 fl, .int .i64 fb, .int .i64 fi, .int .i64 fh] 25)).alloc (.cells #[.int .i64 q0, .int .i64 q1, .int .i64 q2, .slice Af nf cf] 53)).below H1
    have BF := ((Blk.new1 w _ 25 #[.int .i64 fl, .int .i64 fb, .int .i64 fi, .int .i64 fh]).alloc (.cells #[.int .i64 q0, .int .i64 q1, .int .i64 q2, .slice Af nf cf] 53)).below H1
    have BQ := (Blk.new2 w _ _ 53 #[.int .i64 q0, .int .i64 q1, .int .i64 q2, .slice Af nf cf]).below H1
    have HW : Below w.heap.size w w1 := Bl.then (by go_grown) H1
    clear H1
    have cX0 : w1.cell? ⟨w.heap.size, 0, none⟩ = some (.string s) := BX.cell 0
    have cX1 : w1.cell? ⟨w.heap.size, 1, none⟩ = some (.int .i64 l) := BX.cell 1
    have cX2 : w1.cell? ⟨w.heap.size, 2, none⟩ = some (.int .i64 b) := BX.cell 2
    have cX3 : w1.cell? ⟨w.heap.size, 3, none⟩ = some (.int .i64 i) := BX.cell 3
    have cX4 : w1.cell? ⟨w.heap.size, 4, none⟩ = some (.int .i64 h) := BX.cell 4
    have cX5 : w1.cell? ⟨w.heap.size, 5, none⟩ = some (.int .i64 p) := BX.cell 5
    have lX := BX.lt
    have cF0 : w1.cell? ⟨w.heap.size + 1, 0, none⟩ = some (.int .i64 fl) := BF.cell 0
    have cF1 : w1.cell? ⟨w.heap.size + 1, 1, none⟩ = some (.int .i64 fb) := BF.cell 1
    have cF2 : w1.cell? ⟨w.heap.size + 1, 2, none⟩ = some (.int .i64 fi) := BF.cell 2
    have cF3 : w1.cell? ⟨w.heap.size + 1, 3, none⟩ = some (.int .i64 fh) := BF.cell 3
    have lF := BF.lt
    have cQ0 : w1.cell? ⟨w.heap.size + 1 + 1, 0, none⟩ = some (.int .i64 q0) := BQ.cell 0
    have cQ1 : w1.cell? ⟨w.heap.size + 1 + 1, 1, none⟩ = some (.int .i64 q1) := BQ.cell 1
    have cQ2 : w1.cell? ⟨w.heap.size + 1 + 1, 2, none⟩ = some (.int .i64 q2) := BQ.cell 2
    have cQ3 : w1.cell? ⟨w.heap.size + 1 + 1, 3, none⟩ = some (.slice Af nf cf) := BQ.cell 3
    have lQ := BQ.lt
    go_wp2_with fail
    refine (l02Foot_any _ _ _ _ _).mono ?_
    rintro e w2 ⟨rfl, hb2⟩
    clear cX0 cX1 cX2 cX3 cX4 cX5 lX cF0 cF1 cF2 cF3 lF cQ0 cQ1 cQ2 cQ3 lQ
    replace BX := BX.below hb2
    replace BF := BF.below hb2
    replace BQ := BQ.below hb2
    replace HW := Bl.then HW hb2
    have cX0 : w2.cell? ⟨w.heap.size, 0, none⟩ = some (.string s) := BX.cell 0
    have cX1 : w2.cell? ⟨w.heap.size, 1, none⟩ = some (.int .i64 l) := BX.cell 1
    have cX2 : w2.cell? ⟨w.heap.size, 2, none⟩ = some (.int .i64 b) := BX.cell 2
    have cX3 : w2.cell? ⟨w.heap.size, 3, none⟩ = some (.int .i64 i) := BX.cell 3
    have cX4 : w2.cell? ⟨w.heap.size, 4, none⟩ = some (.int .i64 h) := BX.cell 4
    have cX5 : w2.cell? ⟨w.heap.size, 5, none⟩ = some (.int .i64 p) := BX.cell 5
    have lX := BX.lt
    have cF0 : w2.cell? ⟨w.heap.size + 1, 0, none⟩ = some (.int .i64 fl) := BF.cell 0
    have cF1 : w2.cell? ⟨w.heap.size + 1, 1, none⟩ = some (.int .i64 fb) := BF.cell 1
    have cF2 : w2.cell? ⟨w.heap.size + 1, 2, none⟩ = some (.int .i64 fi) := BF.cell 2
    have cF3 : w2.cell? ⟨w.heap.size + 1, 3, none⟩ = some (.int .i64 fh) := BF.cell 3
    have lF := BF.lt
    have cQ0 : w2.cell? ⟨w.heap.size + 1 + 1, 0, none⟩ = some (.int .i64 q0) := BQ.cell 0
    have cQ1 : w2.cell? ⟨w.heap.size + 1 + 1, 1, none⟩ = some (.int .i64 q1) := BQ.cell 1
    have cQ2 : w2.cell? ⟨w.heap.size + 1 + 1, 2, none⟩ = some (.int .i64 q2) := BQ.cell 2
    have cQ3 : w2.cell? ⟨w.heap.size + 1 + 1, 3, none⟩ = some (.slice Af nf cf) := BQ.cell 3
    have lQ := BQ.lt
    go_wp2_with fail
    go_ret2
    exact ⟨ret_int2 hr.out.1 hr.out.2, HW⟩
  cases k3 : fitOk q0 q1 q2 zf
  · have hr := Lib.hid (no_fc (show allOk s l b i h p fl fb fi fh q0 q1 q2 zf = false by simp [allOk, k3]))
    go_enter Try.func35, Try.ntmps35
    go_wp2_with fail
    refine (l04One_any _ _ _ _ _ _ _ hs).mono ?_
    rintro e w1 ⟨rfl, H1⟩
    have BX := (((Blk.new w 41 #[.string s, .int .i64 l, .int .i64 b, .int .i64 i, .int .i64 h, .int .i64 p]).alloc (.cells #[.int .i64 fl, .int .i64 fb, .int .i64 fi, .int .i64 fh] 25)).alloc (.cells #[.int .i64 q0, .int .i64 q1, .int .i64 q2, .slice Af nf cf] 53)).below H1
    have BF := ((Blk.new1 w _ 25 #[.int .i64 fl, .int .i64 fb, .int .i64 fi, .int .i64 fh]).alloc (.cells #[.int .i64 q0, .int .i64 q1, .int .i64 q2, .slice Af nf cf] 53)).below H1
    have BQ := (Blk.new2 w _ _ 53 #[.int .i64 q0, .int .i64 q1, .int .i64 q2, .slice Af nf cf]).below H1
    have HW : Below w.heap.size w w1 := Bl.then (by go_grown) H1
    clear H1
    have cX0 : w1.cell? ⟨w.heap.size, 0, none⟩ = some (.string s) := BX.cell 0
    have cX1 : w1.cell? ⟨w.heap.size, 1, none⟩ = some (.int .i64 l) := BX.cell 1
    have cX2 : w1.cell? ⟨w.heap.size, 2, none⟩ = some (.int .i64 b) := BX.cell 2
    have cX3 : w1.cell? ⟨w.heap.size, 3, none⟩ = some (.int .i64 i) := BX.cell 3
    have cX4 : w1.cell? ⟨w.heap.size, 4, none⟩ = some (.int .i64 h) := BX.cell 4
    have cX5 : w1.cell? ⟨w.heap.size, 5, none⟩ = some (.int .i64 p) := BX.cell 5
    have lX := BX.lt
    have cF0 : w1.cell? ⟨w.heap.size + 1, 0, none⟩ = some (.int .i64 fl) := BF.cell 0
    have cF1 : w1.cell? ⟨w.heap.size + 1, 1, none⟩ = some (.int .i64 fb) := BF.cell 1
    have cF2 : w1.cell? ⟨w.heap.size + 1, 2, none⟩ = some (.int .i64 fi) := BF.cell 2
    have cF3 : w1.cell? ⟨w.heap.size + 1, 3, none⟩ = some (.int .i64 fh) := BF.cell 3
    have lF := BF.lt
    have cQ0 : w1.cell? ⟨w.heap.size + 1 + 1, 0, none⟩ = some (.int .i64 q0) := BQ.cell 0
    have cQ1 : w1.cell? ⟨w.heap.size + 1 + 1, 1, none⟩ = some (.int .i64 q1) := BQ.cell 1
    have cQ2 : w1.cell? ⟨w.heap.size + 1 + 1, 2, none⟩ = some (.int .i64 q2) := BQ.cell 2
    have cQ3 : w1.cell? ⟨w.heap.size + 1 + 1, 3, none⟩ = some (.slice Af nf cf) := BQ.cell 3
    have lQ := BQ.lt
    go_wp2_with fail
    refine (l02Foot_any _ _ _ _ _).mono ?_
    rintro e w2 ⟨rfl, hb2⟩
    clear cX0 cX1 cX2 cX3 cX4 cX5 lX cF0 cF1 cF2 cF3 lF cQ0 cQ1 cQ2 cQ3 lQ
    replace BX := BX.below hb2
    replace BF := BF.below hb2
    replace BQ := BQ.below hb2
    replace HW := Bl.then HW hb2
    have cX0 : w2.cell? ⟨w.heap.size, 0, none⟩ = some (.string s) := BX.cell 0
    have cX1 : w2.cell? ⟨w.heap.size, 1, none⟩ = some (.int .i64 l) := BX.cell 1
    have cX2 : w2.cell? ⟨w.heap.size, 2, none⟩ = some (.int .i64 b) := BX.cell 2
    have cX3 : w2.cell? ⟨w.heap.size, 3, none⟩ = some (.int .i64 i) := BX.cell 3
    have cX4 : w2.cell? ⟨w.heap.size, 4, none⟩ = some (.int .i64 h) := BX.cell 4
    have cX5 : w2.cell? ⟨w.heap.size, 5, none⟩ = some (.int .i64 p) := BX.cell 5
    have lX := BX.lt
    have cF0 : w2.cell? ⟨w.heap.size + 1, 0, none⟩ = some (.int .i64 fl) := BF.cell 0
    have cF1 : w2.cell? ⟨w.heap.size + 1, 1, none⟩ = some (.int .i64 fb) := BF.cell 1
    have cF2 : w2.cell? ⟨w.heap.size + 1, 2, none⟩ = some (.int .i64 fi) := BF.cell 2
    have cF3 : w2.cell? ⟨w.heap.size + 1, 3, none⟩ = some (.int .i64 fh) := BF.cell 3
    have lF := BF.lt
    have cQ0 : w2.cell? ⟨w.heap.size + 1 + 1, 0, none⟩ = some (.int .i64 q0) := BQ.cell 0
    have cQ1 : w2.cell? ⟨w.heap.size + 1 + 1, 1, none⟩ = some (.int .i64 q1) := BQ.cell 1
    have cQ2 : w2.cell? ⟨w.heap.size + 1 + 1, 2, none⟩ = some (.int .i64 q2) := BQ.cell 2
    have cQ3 : w2.cell? ⟨w.heap.size + 1 + 1, 3, none⟩ = some (.slice Af nf cf) := BQ.cell 3
    have lQ := BQ.lt
    go_wp2_with fail
    refine (l04Fit_any _ _ _ _ _ _ _ _ _ BQ (h0.below HW) hn).mono ?_
    rintro e w3 ⟨rfl, hb3⟩
    clear cX0 cX1 cX2 cX3 cX4 cX5 lX cF0 cF1 cF2 cF3 lF cQ0 cQ1 cQ2 cQ3 lQ
    replace BX := BX.below hb3
    replace BF := BF.below hb3
    replace BQ := BQ.below hb3
    replace HW := Bl.then HW hb3
    have cX0 : w3.cell? ⟨w.heap.size, 0, none⟩ = some (.string s) := BX.cell 0
    have cX1 : w3.cell? ⟨w.heap.size, 1, none⟩ = some (.int .i64 l) := BX.cell 1
    have cX2 : w3.cell? ⟨w.heap.size, 2, none⟩ = some (.int .i64 b) := BX.cell 2
    have cX3 : w3.cell? ⟨w.heap.size, 3, none⟩ = some (.int .i64 i) := BX.cell 3
    have cX4 : w3.cell? ⟨w.heap.size, 4, none⟩ = some (.int .i64 h) := BX.cell 4
    have cX5 : w3.cell? ⟨w.heap.size, 5, none⟩ = some (.int .i64 p) := BX.cell 5
    have lX := BX.lt
    have cF0 : w3.cell? ⟨w.heap.size + 1, 0, none⟩ = some (.int .i64 fl) := BF.cell 0
    have cF1 : w3.cell? ⟨w.heap.size + 1, 1, none⟩ = some (.int .i64 fb) := BF.cell 1
    have cF2 : w3.cell? ⟨w.heap.size + 1, 2, none⟩ = some (.int .i64 fi) := BF.cell 2
    have cF3 : w3.cell? ⟨w.heap.size + 1, 3, none⟩ = some (.int .i64 fh) := BF.cell 3
    have lF := BF.lt
    have cQ0 : w3.cell? ⟨w.heap.size + 1 + 1, 0, none⟩ = some (.int .i64 q0) := BQ.cell 0
    have cQ1 : w3.cell? ⟨w.heap.size + 1 + 1, 1, none⟩ = some (.int .i64 q1) := BQ.cell 1
    have cQ2 : w3.cell? ⟨w.heap.size + 1 + 1, 2, none⟩ = some (.int .i64 q2) := BQ.cell 2
    have cQ3 : w3.cell? ⟨w.heap.size + 1 + 1, 3, none⟩ = some (.slice Af nf cf) := BQ.cell 3
    have lQ := BQ.lt
    go_wp2_with fail
    go_ret2
    exact ⟨ret_int2 hr.out.1 hr.out.2, HW⟩
  have hok : allOk s l b i h p fl fb fi fh q0 q1 q2 zf = true := by simp [allOk, k1, k2, k3]
  have k1' := Lib.hid k1
  have k2' := Lib.hid k2
  have k3' := Lib.hid k3
  have hneg := costR_neg (l := l) (b := b) (i := i) (h := h) (fl := fl) (fb := fb) (fi := fi) (fh := fh) k3
  cases hm : mayF l b i h fl fb fi fh q0 q1 q2
  · rw [hm] at hneg
    have hr1 := Lib.hid (show (0 : Int) = fcV s l b i h p fl fb fi fh q0 q1 q2 zf by simp [fcV, hok, hm])
    have hr2 := Lib.hid (show (10 : Int) = fcC s l b i h p fl fb fi fh q0 q1 q2 zf by simp [fcC, hok, hm])
    have hs9 : costR l b i h fl fb fi fh q0 q1 q2 zf < 0 := by simpa using hneg
    clear hok hm hneg
    go_enter Try.func35, Try.ntmps35
    go_wp2_with fail
    refine (l04One_any _ _ _ _ _ _ _ hs).mono ?_
    rintro e w1 ⟨rfl, H1⟩
    have BX := (((Blk.new w 41 #[.string s, .int .i64 l, .int .i64 b, .int .i64 i, .int .i64 h, .int .i64 p]).alloc (.cells #[.int .i64 fl, .int .i64 fb, .int .i64 fi, .int .i64 fh] 25)).alloc (.cells #[.int .i64 q0, .int .i64 q1, .int .i64 q2, .slice Af nf cf] 53)).below H1
    have BF := ((Blk.new1 w _ 25 #[.int .i64 fl, .int .i64 fb, .int .i64 fi, .int .i64 fh]).alloc (.cells #[.int .i64 q0, .int .i64 q1, .int .i64 q2, .slice Af nf cf] 53)).below H1
    have BQ := (Blk.new2 w _ _ 53 #[.int .i64 q0, .int .i64 q1, .int .i64 q2, .slice Af nf cf]).below H1
    have HW : Below w.heap.size w w1 := Bl.then (by go_grown) H1
    clear H1
    have cX0 : w1.cell? ⟨w.heap.size, 0, none⟩ = some (.string s) := BX.cell 0
    have cX1 : w1.cell? ⟨w.heap.size, 1, none⟩ = some (.int .i64 l) := BX.cell 1
    have cX2 : w1.cell? ⟨w.heap.size, 2, none⟩ = some (.int .i64 b) := BX.cell 2
    have cX3 : w1.cell? ⟨w.heap.size, 3, none⟩ = some (.int .i64 i) := BX.cell 3
    have cX4 : w1.cell? ⟨w.heap.size, 4, none⟩ = some (.int .i64 h) := BX.cell 4
    have cX5 : w1.cell? ⟨w.heap.size, 5, none⟩ = some (.int .i64 p) := BX.cell 5
    have lX := BX.lt
    have cF0 : w1.cell? ⟨w.heap.size + 1, 0, none⟩ = some (.int .i64 fl) := BF.cell 0
    have cF1 : w1.cell? ⟨w.heap.size + 1, 1, none⟩ = some (.int .i64 fb) := BF.cell 1
    have cF2 : w1.cell? ⟨w.heap.size + 1, 2, none⟩ = some (.int .i64 fi) := BF.cell 2
    have cF3 : w1.cell? ⟨w.heap.size + 1, 3, none⟩ = some (.int .i64 fh) := BF.cell 3
    have lF := BF.lt
    have cQ0 : w1.cell? ⟨w.heap.size + 1 + 1, 0, none⟩ = some (.int .i64 q0) := BQ.cell 0
    have cQ1 : w1.cell? ⟨w.heap.size + 1 + 1, 1, none⟩ = some (.int .i64 q1) := BQ.cell 1
    have cQ2 : w1.cell? ⟨w.heap.size + 1 + 1, 2, none⟩ = some (.int .i64 q2) := BQ.cell 2
    have cQ3 : w1.cell? ⟨w.heap.size + 1 + 1, 3, none⟩ = some (.slice Af nf cf) := BQ.cell 3
    have lQ := BQ.lt
    go_wp2_with fail
    refine (l02Foot_any _ _ _ _ _).mono ?_
    rintro e w2 ⟨rfl, hb2⟩
    clear cX0 cX1 cX2 cX3 cX4 cX5 lX cF0 cF1 cF2 cF3 lF cQ0 cQ1 cQ2 cQ3 lQ
    replace BX := BX.below hb2
    replace BF := BF.below hb2
    replace BQ := BQ.below hb2
    replace HW := Bl.then HW hb2
    have cX0 : w2.cell? ⟨w.heap.size, 0, none⟩ = some (.string s) := BX.cell 0
    have cX1 : w2.cell? ⟨w.heap.size, 1, none⟩ = some (.int .i64 l) := BX.cell 1
    have cX2 : w2.cell? ⟨w.heap.size, 2, none⟩ = some (.int .i64 b) := BX.cell 2
    have cX3 : w2.cell? ⟨w.heap.size, 3, none⟩ = some (.int .i64 i) := BX.cell 3
    have cX4 : w2.cell? ⟨w.heap.size, 4, none⟩ = some (.int .i64 h) := BX.cell 4
    have cX5 : w2.cell? ⟨w.heap.size, 5, none⟩ = some (.int .i64 p) := BX.cell 5
    have lX := BX.lt
    have cF0 : w2.cell? ⟨w.heap.size + 1, 0, none⟩ = some (.int .i64 fl) := BF.cell 0
    have cF1 : w2.cell? ⟨w.heap.size + 1, 1, none⟩ = some (.int .i64 fb) := BF.cell 1
    have cF2 : w2.cell? ⟨w.heap.size + 1, 2, none⟩ = some (.int .i64 fi) := BF.cell 2
    have cF3 : w2.cell? ⟨w.heap.size + 1, 3, none⟩ = some (.int .i64 fh) := BF.cell 3
    have lF := BF.lt
    have cQ0 : w2.cell? ⟨w.heap.size + 1 + 1, 0, none⟩ = some (.int .i64 q0) := BQ.cell 0
    have cQ1 : w2.cell? ⟨w.heap.size + 1 + 1, 1, none⟩ = some (.int .i64 q1) := BQ.cell 1
    have cQ2 : w2.cell? ⟨w.heap.size + 1 + 1, 2, none⟩ = some (.int .i64 q2) := BQ.cell 2
    have cQ3 : w2.cell? ⟨w.heap.size + 1 + 1, 3, none⟩ = some (.slice Af nf cf) := BQ.cell 3
    have lQ := BQ.lt
    go_wp2_with fail
    refine (l04Fit_any _ _ _ _ _ _ _ _ _ BQ (h0.below HW) hn).mono ?_
    rintro e w3 ⟨rfl, hb3⟩
    clear cX0 cX1 cX2 cX3 cX4 cX5 lX cF0 cF1 cF2 cF3 lF cQ0 cQ1 cQ2 cQ3 lQ
    replace BX := BX.below hb3
    replace BF := BF.below hb3
    replace BQ := BQ.below hb3
    replace HW := Bl.then HW hb3
    have cX0 : w3.cell? ⟨w.heap.size, 0, none⟩ = some (.string s) := BX.cell 0
    have cX1 : w3.cell? ⟨w.heap.size, 1, none⟩ = some (.int .i64 l) := BX.cell 1
    have cX2 : w3.cell? ⟨w.heap.size, 2, none⟩ = some (.int .i64 b) := BX.cell 2
    have cX3 : w3.cell? ⟨w.heap.size, 3, none⟩ = some (.int .i64 i) := BX.cell 3
    have cX4 : w3.cell? ⟨w.heap.size, 4, none⟩ = some (.int .i64 h) := BX.cell 4
    have cX5 : w3.cell? ⟨w.heap.size, 5, none⟩ = some (.int .i64 p) := BX.cell 5
    have lX := BX.lt
    have cF0 : w3.cell? ⟨w.heap.size + 1, 0, none⟩ = some (.int .i64 fl) := BF.cell 0
    have cF1 : w3.cell? ⟨w.heap.size + 1, 1, none⟩ = some (.int .i64 fb) := BF.cell 1
    have cF2 : w3.cell? ⟨w.heap.size + 1, 2, none⟩ = some (.int .i64 fi) := BF.cell 2
    have cF3 : w3.cell? ⟨w.heap.size + 1, 3, none⟩ = some (.int .i64 fh) := BF.cell 3
    have lF := BF.lt
    have cQ0 : w3.cell? ⟨w.heap.size + 1 + 1, 0, none⟩ = some (.int .i64 q0) := BQ.cell 0
    have cQ1 : w3.cell? ⟨w.heap.size + 1 + 1, 1, none⟩ = some (.int .i64 q1) := BQ.cell 1
    have cQ2 : w3.cell? ⟨w.heap.size + 1 + 1, 2, none⟩ = some (.int .i64 q2) := BQ.cell 2
    have cQ3 : w3.cell? ⟨w.heap.size + 1 + 1, 3, none⟩ = some (.slice Af nf cf) := BQ.cell 3
    have lQ := BQ.lt
    go_wp2_with fail
    refine (l04Cost_any _ _ _ _ _ _ _ _ _ _ _ _ _ _ _ _ _ _ _ BQ (h0.below HW) k1'.out k2'.out k3'.out).mono ?_
    rintro e w4 ⟨rfl, hb4⟩
    clear cX0 cX1 cX2 cX3 cX4 cX5 lX cF0 cF1 cF2 cF3 lF cQ0 cQ1 cQ2 cQ3 lQ
    replace BX := BX.below hb4
    replace BF := BF.below hb4
    replace BQ := BQ.below hb4
    replace HW := Bl.then HW hb4
    have cX0 : w4.cell? ⟨w.heap.size, 0, none⟩ = some (.string s) := BX.cell 0
    have cX1 : w4.cell? ⟨w.heap.size, 1, none⟩ = some (.int .i64 l) := BX.cell 1
    have cX2 : w4.cell? ⟨w.heap.size, 2, none⟩ = some (.int .i64 b) := BX.cell 2
    have cX3 : w4.cell? ⟨w.heap.size, 3, none⟩ = some (.int .i64 i) := BX.cell 3
    have cX4 : w4.cell? ⟨w.heap.size, 4, none⟩ = some (.int .i64 h) := BX.cell 4
    have cX5 : w4.cell? ⟨w.heap.size, 5, none⟩ = some (.int .i64 p) := BX.cell 5
    have lX := BX.lt
    have cF0 : w4.cell? ⟨w.heap.size + 1, 0, none⟩ = some (.int .i64 fl) := BF.cell 0
    have cF1 : w4.cell? ⟨w.heap.size + 1, 1, none⟩ = some (.int .i64 fb) := BF.cell 1
    have cF2 : w4.cell? ⟨w.heap.size + 1, 2, none⟩ = some (.int .i64 fi) := BF.cell 2
    have cF3 : w4.cell? ⟨w.heap.size + 1, 3, none⟩ = some (.int .i64 fh) := BF.cell 3
    have lF := BF.lt
    have cQ0 : w4.cell? ⟨w.heap.size + 1 + 1, 0, none⟩ = some (.int .i64 q0) := BQ.cell 0
    have cQ1 : w4.cell? ⟨w.heap.size + 1 + 1, 1, none⟩ = some (.int .i64 q1) := BQ.cell 1
    have cQ2 : w4.cell? ⟨w.heap.size + 1 + 1, 2, none⟩ = some (.int .i64 q2) := BQ.cell 2
    have cQ3 : w4.cell? ⟨w.heap.size + 1 + 1, 3, none⟩ = some (.slice Af nf cf) := BQ.cell 3
    have lQ := BQ.lt
    go_wp2_with fail
    go_ret2
    exact ⟨ret_int2 hr1.out hr2.out, HW⟩
  · rw [hm] at hneg
    have hr1 := Lib.hid (show costR l b i h fl fb fi fh q0 q1 q2 zf = fcV s l b i h p fl fb fi fh q0 q1 q2 zf by simp [fcV, hok, hm, costR])
    have hr2 := Lib.hid (show (0 : Int) = fcC s l b i h p fl fb fi fh q0 q1 q2 zf by simp [fcC, hok, hm])
    have hs9 : 0 ≤ costR l b i h fl fb fi fh q0 q1 q2 zf := by simpa using hneg
    clear hok hm hneg
    go_enter Try.func35, Try.ntmps35
    go_wp2_with fail
    refine (l04One_any _ _ _ _ _ _ _ hs).mono ?_
    rintro e w1 ⟨rfl, H1⟩
    have BX := (((Blk.new w 41 #[.string s, .int .i64 l, .int .i64 b, .int .i64 i, .int .i64 h, .int .i64 p]).alloc (.cells #[.int .i64 fl, .int .i64 fb, .int .i64 fi, .int .i64 fh] 25)).alloc (.cells #[.int .i64 q0, .int .i64 q1, .int .i64 q2, .slice Af nf cf] 53)).below H1
    have BF := ((Blk.new1 w _ 25 #[.int .i64 fl, .int .i64 fb, .int .i64 fi, .int .i64 fh]).alloc (.cells #[.int .i64 q0, .int .i64 q1, .int .i64 q2, .slice Af nf cf] 53)).below H1
    have BQ := (Blk.new2 w _ _ 53 #[.int .i64 q0, .int .i64 q1, .int .i64 q2, .slice Af nf cf]).below H1
    have HW : Below w.heap.size w w1 := Bl.then (by go_grown) H1
    clear H1
    have cX0 : w1.cell? ⟨w.heap.size, 0, none⟩ = some (.string s) := BX.cell 0
    have cX1 : w1.cell? ⟨w.heap.size, 1, none⟩ = some (.int .i64 l) := BX.cell 1
    have cX2 : w1.cell? ⟨w.heap.size, 2, none⟩ = some (.int .i64 b) := BX.cell 2
    have cX3 : w1.cell? ⟨w.heap.size, 3, none⟩ = some (.int .i64 i) := BX.cell 3
    have cX4 : w1.cell? ⟨w.heap.size, 4, none⟩ = some (.int .i64 h) := BX.cell 4
    have cX5 : w1.cell? ⟨w.heap.size, 5, none⟩ = some (.int .i64 p) := BX.cell 5
    have lX := BX.lt
    have cF0 : w1.cell? ⟨w.heap.size + 1, 0, none⟩ = some (.int .i64 fl) := BF.cell 0
    have cF1 : w1.cell? ⟨w.heap.size + 1, 1, none⟩ = some (.int .i64 fb) := BF.cell 1
    have cF2 : w1.cell? ⟨w.heap.size + 1, 2, none⟩ = some (.int .i64 fi) := BF.cell 2
    have cF3 : w1.cell? ⟨w.heap.size + 1, 3, none⟩ = some (.int .i64 fh) := BF.cell 3
    have lF := BF.lt
    have cQ0 : w1.cell? ⟨w.heap.size + 1 + 1, 0, none⟩ = some (.int .i64 q0) := BQ.cell 0
    have cQ1 : w1.cell? ⟨w.heap.size + 1 + 1, 1, none⟩ = some (.int .i64 q1) := BQ.cell 1
    have cQ2 : w1.cell? ⟨w.heap.size + 1 + 1, 2, none⟩ = some (.int .i64 q2) := BQ.cell 2
    have cQ3 : w1.cell? ⟨w.heap.size + 1 + 1, 3, none⟩ = some (.slice Af nf cf) := BQ.cell 3
    have lQ := BQ.lt
    go_wp2_with fail
    refine (l02Foot_any _ _ _ _ _).mono ?_
    rintro e w2 ⟨rfl, hb2⟩
    clear cX0 cX1 cX2 cX3 cX4 cX5 lX cF0 cF1 cF2 cF3 lF cQ0 cQ1 cQ2 cQ3 lQ
    replace BX := BX.below hb2
    replace BF := BF.below hb2
    replace BQ := BQ.below hb2
    replace HW := Bl.then HW hb2
    have cX0 : w2.cell? ⟨w.heap.size, 0, none⟩ = some (.string s) := BX.cell 0
    have cX1 : w2.cell? ⟨w.heap.size, 1, none⟩ = some (.int .i64 l) := BX.cell 1
    have cX2 : w2.cell? ⟨w.heap.size, 2, none⟩ = some (.int .i64 b) := BX.cell 2
    have cX3 : w2.cell? ⟨w.heap.size, 3, none⟩ = some (.int .i64 i) := BX.cell 3
    have cX4 : w2.cell? ⟨w.heap.size, 4, none⟩ = some (.int .i64 h) := BX.cell 4
    have cX5 : w2.cell? ⟨w.heap.size, 5, none⟩ = some (.int .i64 p) := BX.cell 5
    have lX := BX.lt
    have cF0 : w2.cell? ⟨w.heap.size + 1, 0, none⟩ = some (.int .i64 fl) := BF.cell 0
    have cF1 : w2.cell? ⟨w.heap.size + 1, 1, none⟩ = some (.int .i64 fb) := BF.cell 1
    have cF2 : w2.cell? ⟨w.heap.size + 1, 2, none⟩ = some (.int .i64 fi) := BF.cell 2
    have cF3 : w2.cell? ⟨w.heap.size + 1, 3, none⟩ = some (.int .i64 fh) := BF.cell 3
    have lF := BF.lt
    have cQ0 : w2.cell? ⟨w.heap.size + 1 + 1, 0, none⟩ = some (.int .i64 q0) := BQ.cell 0
    have cQ1 : w2.cell? ⟨w.heap.size + 1 + 1, 1, none⟩ = some (.int .i64 q1) := BQ.cell 1
    have cQ2 : w2.cell? ⟨w.heap.size + 1 + 1, 2, none⟩ = some (.int .i64 q2) := BQ.cell 2
    have cQ3 : w2.cell? ⟨w.heap.size + 1 + 1, 3, none⟩ = some (.slice Af nf cf) := BQ.cell 3
    have lQ := BQ.lt
    go_wp2_with fail
    refine (l04Fit_any _ _ _ _ _ _ _ _ _ BQ (h0.below HW) hn).mono ?_
    rintro e w3 ⟨rfl, hb3⟩
    clear cX0 cX1 cX2 cX3 cX4 cX5 lX cF0 cF1 cF2 cF3 lF cQ0 cQ1 cQ2 cQ3 lQ
    replace BX := BX.below hb3
    replace BF := BF.below hb3
    replace BQ := BQ.below hb3
    replace HW := Bl.then HW hb3
    have cX0 : w3.cell? ⟨w.heap.size, 0, none⟩ = some (.string s) := BX.cell 0
    have cX1 : w3.cell? ⟨w.heap.size, 1, none⟩ = some (.int .i64 l) := BX.cell 1
    have cX2 : w3.cell? ⟨w.heap.size, 2, none⟩ = some (.int .i64 b) := BX.cell 2
    have cX3 : w3.cell? ⟨w.heap.size, 3, none⟩ = some (.int .i64 i) := BX.cell 3
    have cX4 : w3.cell? ⟨w.heap.size, 4, none⟩ = some (.int .i64 h) := BX.cell 4
    have cX5 : w3.cell? ⟨w.heap.size, 5, none⟩ = some (.int .i64 p) := BX.cell 5
    have lX := BX.lt
    have cF0 : w3.cell? ⟨w.heap.size + 1, 0, none⟩ = some (.int .i64 fl) := BF.cell 0
    have cF1 : w3.cell? ⟨w.heap.size + 1, 1, none⟩ = some (.int .i64 fb) := BF.cell 1
    have cF2 : w3.cell? ⟨w.heap.size + 1, 2, none⟩ = some (.int .i64 fi) := BF.cell 2
    have cF3 : w3.cell? ⟨w.heap.size + 1, 3, none⟩ = some (.int .i64 fh) := BF.cell 3
    have lF := BF.lt
    have cQ0 : w3.cell? ⟨w.heap.size + 1 + 1, 0, none⟩ = some (.int .i64 q0) := BQ.cell 0
    have cQ1 : w3.cell? ⟨w.heap.size + 1 + 1, 1, none⟩ = some (.int .i64 q1) := BQ.cell 1
    have cQ2 : w3.cell? ⟨w.heap.size + 1 + 1, 2, none⟩ = some (.int .i64 q2) := BQ.cell 2
    have cQ3 : w3.cell? ⟨w.heap.size + 1 + 1, 3, none⟩ = some (.slice Af nf cf) := BQ.cell 3
    have lQ := BQ.lt
    go_wp2_with fail
    refine (l04Cost_any _ _ _ _ _ _ _ _ _ _ _ _ _ _ _ _ _ _ _ BQ (h0.below HW) k1'.out k2'.out k3'.out).mono ?_
    rintro e w4 ⟨rfl, hb4⟩
    clear cX0 cX1 cX2 cX3 cX4 cX5 lX cF0 cF1 cF2 cF3 lF cQ0 cQ1 cQ2 cQ3 lQ
    replace BX := BX.below hb4
    replace BF := BF.below hb4
    replace BQ := BQ.below hb4
    replace HW := Bl.then HW hb4
    have cX0 : w4.cell? ⟨w.heap.size, 0, none⟩ = some (.string s) := BX.cell 0
    have cX1 : w4.cell? ⟨w.heap.size, 1, none⟩ = some (.int .i64 l) := BX.cell 1
    have cX2 : w4.cell? ⟨w.heap.size, 2, none⟩ = some (.int .i64 b) := BX.cell 2
    have cX3 : w4.cell? ⟨w.heap.size, 3, none⟩ = some (.int .i64 i) := BX.cell 3
    have cX4 : w4.cell? ⟨w.heap.size, 4, none⟩ = some (.int .i64 h) := BX.cell 4
    have cX5 : w4.cell? ⟨w.heap.size, 5, none⟩ = some (.int .i64 p) := BX.cell 5
    have lX := BX.lt
    have cF0 : w4.cell? ⟨w.heap.size + 1, 0, none⟩ = some (.int .i64 fl) := BF.cell 0
    have cF1 : w4.cell? ⟨w.heap.size + 1, 1, none⟩ = some (.int .i64 fb) := BF.cell 1
    have cF2 : w4.cell? ⟨w.heap.size + 1, 2, none⟩ = some (.int .i64 fi) := BF.cell 2
    have cF3 : w4.cell? ⟨w.heap.size + 1, 3, none⟩ = some (.int .i64 fh) := BF.cell 3
    have lF := BF.lt
    have cQ0 : w4.cell? ⟨w.heap.size + 1 + 1, 0, none⟩ = some (.int .i64 q0) := BQ.cell 0
    have cQ1 : w4.cell? ⟨w.heap.size + 1 + 1, 1, none⟩ = some (.int .i64 q1) := BQ.cell 1
    have cQ2 : w4.cell? ⟨w.heap.size + 1 + 1, 2, none⟩ = some (.int .i64 q2) := BQ.cell 2
    have cQ3 : w4.cell? ⟨w.heap.size + 1 + 1, 3, none⟩ = some (.slice Af nf cf) := BQ.cell 3
    have lQ := BQ.lt
    go_wp2_with fail
    go_ret2
    exact ⟨ret_int2 hr1.out hr2.out, HW⟩
end Go.Proofs.Ytlbgognkaolamaa
