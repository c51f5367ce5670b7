/-
  PairLast of the reference; names are any strings that Go can hold, slices read as the given lists.
-/
import Derived.Test.YtlbgognkaolamaaBest
namespace Go.Proofs.Ytlbgognkaolamaa
open Go.RowKit
set_option maxHeartbeats 3200000

set_option maxRecDepth 100000 in
theorem sPairLast_any (A : Option Addr) (n c : Nat) (xs : List LastD) (f h : FootD) (q0 q1 q2 : Int) (Af : Option Addr) (nf cf : Nat) (zf : List Int) (w : World) (hX : Rd w 6 A n (lasts xs)) (hn : n ≤ 1048576) (hx : ∀ x ∈ xs, x.s.size ≤ maxLen) (h0 : Rd w 1 Af nf (ints zf)) (hnf : nf ≤ 1048576) :
    Calls Try.prog 49 #[.slice A n c, .agg #[.int .i64 f.l, .int .i64 f.b, .int .i64 f.i, .int .i64 f.h], .agg #[.int .i64 h.l, .int .i64 h.b, .int .i64 h.i, .int .i64 h.h], .agg #[.int .i64 q0, .int .i64 q1, .int .i64 q2, .slice Af nf cf]] w fun e w' => e = .returned (.tuple #[.int .i64 (prV q0 q1 q2 zf xs f h), .int .i64 (prC q0 q1 q2 zf xs f h)]) ∧ Below w.heap.size w w' := by
  have hxl := Lib.hid hX.lasts_length
  have hho : footOk h.l h.b h.i h.h = fOk h := rfl
  cases k1 : lsOk q0 q1 q2 zf xs f
  · have hr1 := Lib.hid (show (0 : Int) = prV q0 q1 q2 zf xs f h by rw [prV, if_neg (by simp [prOk, k1])])
    have hr2 := Lib.hid (show (1 : Int) = prC q0 q1 q2 zf xs f h by rw [prC, if_neg (by simp [prOk, k1])])
    clear hho
    go_enter Try.func49, Try.ntmps49
    go_wp2_with fail
    refine (l04Code_any _ _ _ _ f _ _ _ _ _ _ _ _ _ (((hX.alloc _).alloc _).alloc _) hn hx (Blk.new2 w _ _ 53 #[.int .i64 q0, .int .i64 q1, .int .i64 q2, .slice Af nf cf]) (((h0.alloc _).alloc _).alloc _) hnf).mono ?_
    rintro e w1 ⟨rfl, H1⟩
    have BF := (((Blk.new w 25 #[.int .i64 f.l, .int .i64 f.b, .int .i64 f.i, .int .i64 f.h]).alloc (.cells #[.int .i64 h.l, .int .i64 h.b, .int .i64 h.i, .int .i64 h.h] 25)).alloc (.cells #[.int .i64 q0, .int .i64 q1, .int .i64 q2, .slice Af nf cf] 53)).below H1
    have BG := ((Blk.new1 w _ 25 #[.int .i64 h.l, .int .i64 h.b, .int .i64 h.i, .int .i64 h.h]).alloc (.cells #[.int .i64 q0, .int .i64 q1, .int .i64 q2, .slice Af nf cf] 53)).below H1
    have BQ := (Blk.new2 w _ _ 53 #[.int .i64 q0, .int .i64 q1, .int .i64 q2, .slice Af nf cf]).below H1
    have HW : Below w.heap.size w w1 := Bl.then (by go_grown) H1
    clear H1
    have cF0 : w1.cell? ⟨w.heap.size, 0, none⟩ = some (.int .i64 f.l) := BF.cell 0
    have cF1 : w1.cell? ⟨w.heap.size, 1, none⟩ = some (.int .i64 f.b) := BF.cell 1
    have cF2 : w1.cell? ⟨w.heap.size, 2, none⟩ = some (.int .i64 f.i) := BF.cell 2
    have cF3 : w1.cell? ⟨w.heap.size, 3, none⟩ = some (.int .i64 f.h) := BF.cell 3
    have lF := BF.lt
    have cG0 : w1.cell? ⟨w.heap.size + 1, 0, none⟩ = some (.int .i64 h.l) := BG.cell 0
    have cG1 : w1.cell? ⟨w.heap.size + 1, 1, none⟩ = some (.int .i64 h.b) := BG.cell 1
    have cG2 : w1.cell? ⟨w.heap.size + 1, 2, none⟩ = some (.int .i64 h.i) := BG.cell 2
    have cG3 : w1.cell? ⟨w.heap.size + 1, 3, none⟩ = some (.int .i64 h.h) := BG.cell 3
    have lG := BG.lt
    have cQ0 : w1.cell? ⟨w.heap.size + 1 + 1, 0, none⟩ = some (.int .i64 q0) := BQ.cell 0
    have cQ1 : w1.cell? ⟨w.heap.size + 1 + 1, 1, none⟩ = some (.int .i64 q1) := BQ.cell 1
    have cQ2 : w1.cell? ⟨w.heap.size + 1 + 1, 2, none⟩ = some (.int .i64 q2) := BQ.cell 2
    have cQ3 : w1.cell? ⟨w.heap.size + 1 + 1, 3, none⟩ = some (.slice Af nf cf) := BQ.cell 3
    have lQ := BQ.lt
    go_wp2_with fail
    go_ret2
    exact ⟨ret_int2 hr1.out hr2.out, HW⟩
  cases k4 : footOk h.l h.b h.i h.h
  · have hr1 := Lib.hid (show (0 : Int) = prV q0 q1 q2 zf xs f h by rw [prV, if_neg (by simp [prOk, ← hho, k4])])
    have hr2 := Lib.hid (show (1 : Int) = prC q0 q1 q2 zf xs f h by rw [prC, if_neg (by simp [prOk, ← hho, k4])])
    clear hho
    go_enter Try.func49, Try.ntmps49
    go_wp2_with fail
    refine (l04Code_any _ _ _ _ f _ _ _ _ _ _ _ _ _ (((hX.alloc _).alloc _).alloc _) hn hx (Blk.new2 w _ _ 53 #[.int .i64 q0, .int .i64 q1, .int .i64 q2, .slice Af nf cf]) (((h0.alloc _).alloc _).alloc _) hnf).mono ?_
    rintro e w1 ⟨rfl, H1⟩
    have BF := (((Blk.new w 25 #[.int .i64 f.l, .int .i64 f.b, .int .i64 f.i, .int .i64 f.h]).alloc (.cells #[.int .i64 h.l, .int .i64 h.b, .int .i64 h.i, .int .i64 h.h] 25)).alloc (.cells #[.int .i64 q0, .int .i64 q1, .int .i64 q2, .slice Af nf cf] 53)).below H1
    have BG := ((Blk.new1 w _ 25 #[.int .i64 h.l, .int .i64 h.b, .int .i64 h.i, .int .i64 h.h]).alloc (.cells #[.int .i64 q0, .int .i64 q1, .int .i64 q2, .slice Af nf cf] 53)).below H1
    have BQ := (Blk.new2 w _ _ 53 #[.int .i64 q0, .int .i64 q1, .int .i64 q2, .slice Af nf cf]).below H1
    have HW : Below w.heap.size w w1 := Bl.then (by go_grown) H1
    clear H1
    have cF0 : w1.cell? ⟨w.heap.size, 0, none⟩ = some (.int .i64 f.l) := BF.cell 0
    have cF1 : w1.cell? ⟨w.heap.size, 1, none⟩ = some (.int .i64 f.b) := BF.cell 1
    have cF2 : w1.cell? ⟨w.heap.size, 2, none⟩ = some (.int .i64 f.i) := BF.cell 2
    have cF3 : w1.cell? ⟨w.heap.size, 3, none⟩ = some (.int .i64 f.h) := BF.cell 3
    have lF := BF.lt
    have cG0 : w1.cell? ⟨w.heap.size + 1, 0, none⟩ = some (.int .i64 h.l) := BG.cell 0
    have cG1 : w1.cell? ⟨w.heap.size + 1, 1, none⟩ = some (.int .i64 h.b) := BG.cell 1
    have cG2 : w1.cell? ⟨w.heap.size + 1, 2, none⟩ = some (.int .i64 h.i) := BG.cell 2
    have cG3 : w1.cell? ⟨w.heap.size + 1, 3, none⟩ = some (.int .i64 h.h) := BG.cell 3
    have lG := BG.lt
    have cQ0 : w1.cell? ⟨w.heap.size + 1 + 1, 0, none⟩ = some (.int .i64 q0) := BQ.cell 0
    have cQ1 : w1.cell? ⟨w.heap.size + 1 + 1, 1, none⟩ = some (.int .i64 q1) := BQ.cell 1
    have cQ2 : w1.cell? ⟨w.heap.size + 1 + 1, 2, none⟩ = some (.int .i64 q2) := BQ.cell 2
    have cQ3 : w1.cell? ⟨w.heap.size + 1 + 1, 3, none⟩ = some (.slice Af nf cf) := BQ.cell 3
    have lQ := BQ.lt
    go_wp2_with fail
    refine (l02Foot_any _ _ _ _ _).mono ?_
    rintro e w2 ⟨rfl, hb2⟩
    clear cF0 cF1 cF2 cF3 lF cG0 cG1 cG2 cG3 lG cQ0 cQ1 cQ2 cQ3 lQ
    replace BF := BF.below hb2
    replace BG := BG.below hb2
    replace BQ := BQ.below hb2
    replace HW := Bl.then HW hb2
    have cF0 : w2.cell? ⟨w.heap.size, 0, none⟩ = some (.int .i64 f.l) := BF.cell 0
    have cF1 : w2.cell? ⟨w.heap.size, 1, none⟩ = some (.int .i64 f.b) := BF.cell 1
    have cF2 : w2.cell? ⟨w.heap.size, 2, none⟩ = some (.int .i64 f.i) := BF.cell 2
    have cF3 : w2.cell? ⟨w.heap.size, 3, none⟩ = some (.int .i64 f.h) := BF.cell 3
    have lF := BF.lt
    have cG0 : w2.cell? ⟨w.heap.size + 1, 0, none⟩ = some (.int .i64 h.l) := BG.cell 0
    have cG1 : w2.cell? ⟨w.heap.size + 1, 1, none⟩ = some (.int .i64 h.b) := BG.cell 1
    have cG2 : w2.cell? ⟨w.heap.size + 1, 2, none⟩ = some (.int .i64 h.i) := BG.cell 2
    have cG3 : w2.cell? ⟨w.heap.size + 1, 3, none⟩ = some (.int .i64 h.h) := BG.cell 3
    have lG := BG.lt
    have cQ0 : w2.cell? ⟨w.heap.size + 1 + 1, 0, none⟩ = some (.int .i64 q0) := BQ.cell 0
    have cQ1 : w2.cell? ⟨w.heap.size + 1 + 1, 1, none⟩ = some (.int .i64 q1) := BQ.cell 1
    have cQ2 : w2.cell? ⟨w.heap.size + 1 + 1, 2, none⟩ = some (.int .i64 q2) := BQ.cell 2
    have cQ3 : w2.cell? ⟨w.heap.size + 1 + 1, 3, none⟩ = some (.slice Af nf cf) := BQ.cell 3
    have lQ := BQ.lt
    go_wp2_with fail
    go_ret2
    exact ⟨ret_int2 hr1.out hr2.out, HW⟩
  have hok : prOk q0 q1 q2 zf xs f h = true := by simp [prOk, k1, ← hho, k4]
  have hr1 := Lib.hid (show cheV (accL (alwI q0 q1 q2 xs [f, h]) xs.length) (accL (alwC q0 q1 q2 zf xs [f, h]) xs.length) = prV q0 q1 q2 zf xs f h by rw [prV, if_pos hok])
  have hr2 := Lib.hid (show cheC (accL (alwI q0 q1 q2 xs [f, h]) xs.length) = prC q0 q1 q2 zf xs f h by rw [prC, if_pos hok])
  have k2 := lsOk_bd k1
  have k9 := Lib.hid (lastsOk_bd k2.1)
  have kx := Lib.hid (fun (k : Nat) (hk : k < xs.length) => lOk_bd k2.1 hk)
  have kf := Lib.hid k2.2.1
  have kh := Lib.hid (show fOk h = true from k4)
  have kq := Lib.hid k2.2.2
  have hll := Lib.hid (alwC_len q0 q1 q2 zf xs [f, h])
  clear k2 hho hok
  go_enter Try.func49, Try.ntmps49
  go_wp2_with fail
  refine (l04Code_any _ _ _ _ f _ _ _ _ _ _ _ _ _ (((hX.alloc _).alloc _).alloc _) hn hx (Blk.new2 w _ _ 53 #[.int .i64 q0, .int .i64 q1, .int .i64 q2, .slice Af nf cf]) (((h0.alloc _).alloc _).alloc _) hnf).mono ?_
  rintro e w1 ⟨rfl, H1⟩
  have BF := (((Blk.new w 25 #[.int .i64 f.l, .int .i64 f.b, .int .i64 f.i, .int .i64 f.h]).alloc (.cells #[.int .i64 h.l, .int .i64 h.b, .int .i64 h.i, .int .i64 h.h] 25)).alloc (.cells #[.int .i64 q0, .int .i64 q1, .int .i64 q2, .slice Af nf cf] 53)).below H1
  have BG := ((Blk.new1 w _ 25 #[.int .i64 h.l, .int .i64 h.b, .int .i64 h.i, .int .i64 h.h]).alloc (.cells #[.int .i64 q0, .int .i64 q1, .int .i64 q2, .slice Af nf cf] 53)).below H1
  have BQ := (Blk.new2 w _ _ 53 #[.int .i64 q0, .int .i64 q1, .int .i64 q2, .slice Af nf cf]).below H1
  have HW : Below w.heap.size w w1 := Bl.then (by go_grown) H1
  clear H1
  have cF0 : w1.cell? ⟨w.heap.size, 0, none⟩ = some (.int .i64 f.l) := BF.cell 0
  have cF1 : w1.cell? ⟨w.heap.size, 1, none⟩ = some (.int .i64 f.b) := BF.cell 1
  have cF2 : w1.cell? ⟨w.heap.size, 2, none⟩ = some (.int .i64 f.i) := BF.cell 2
  have cF3 : w1.cell? ⟨w.heap.size, 3, none⟩ = some (.int .i64 f.h) := BF.cell 3
  have lF := BF.lt
  have cG0 : w1.cell? ⟨w.heap.size + 1, 0, none⟩ = some (.int .i64 h.l) := BG.cell 0
  have cG1 : w1.cell? ⟨w.heap.size + 1, 1, none⟩ = some (.int .i64 h.b) := BG.cell 1
  have cG2 : w1.cell? ⟨w.heap.size + 1, 2, none⟩ = some (.int .i64 h.i) := BG.cell 2
  have cG3 : w1.cell? ⟨w.heap.size + 1, 3, none⟩ = some (.int .i64 h.h) := BG.cell 3
  have lG := BG.lt
  have cQ0 : w1.cell? ⟨w.heap.size + 1 + 1, 0, none⟩ = some (.int .i64 q0) := BQ.cell 0
  have cQ1 : w1.cell? ⟨w.heap.size + 1 + 1, 1, none⟩ = some (.int .i64 q1) := BQ.cell 1
  have cQ2 : w1.cell? ⟨w.heap.size + 1 + 1, 2, none⟩ = some (.int .i64 q2) := BQ.cell 2
  have cQ3 : w1.cell? ⟨w.heap.size + 1 + 1, 3, none⟩ = some (.slice Af nf cf) := BQ.cell 3
  have lQ := BQ.lt
  go_wp2_with fail
  refine (l02Foot_any _ _ _ _ _).mono ?_
  rintro e w2 ⟨rfl, hb2⟩
  clear cF0 cF1 cF2 cF3 lF cG0 cG1 cG2 cG3 lG cQ0 cQ1 cQ2 cQ3 lQ
  replace BF := BF.below hb2
  replace BG := BG.below hb2
  replace BQ := BQ.below hb2
  replace HW := Bl.then HW hb2
  have cF0 : w2.cell? ⟨w.heap.size, 0, none⟩ = some (.int .i64 f.l) := BF.cell 0
  have cF1 : w2.cell? ⟨w.heap.size, 1, none⟩ = some (.int .i64 f.b) := BF.cell 1
  have cF2 : w2.cell? ⟨w.heap.size, 2, none⟩ = some (.int .i64 f.i) := BF.cell 2
  have cF3 : w2.cell? ⟨w.heap.size, 3, none⟩ = some (.int .i64 f.h) := BF.cell 3
  have lF := BF.lt
  have cG0 : w2.cell? ⟨w.heap.size + 1, 0, none⟩ = some (.int .i64 h.l) := BG.cell 0
  have cG1 : w2.cell? ⟨w.heap.size + 1, 1, none⟩ = some (.int .i64 h.b) := BG.cell 1
  have cG2 : w2.cell? ⟨w.heap.size + 1, 2, none⟩ = some (.int .i64 h.i) := BG.cell 2
  have cG3 : w2.cell? ⟨w.heap.size + 1, 3, none⟩ = some (.int .i64 h.h) := BG.cell 3
  have lG := BG.lt
  have cQ0 : w2.cell? ⟨w.heap.size + 1 + 1, 0, none⟩ = some (.int .i64 q0) := BQ.cell 0
  have cQ1 : w2.cell? ⟨w.heap.size + 1 + 1, 1, none⟩ = some (.int .i64 q1) := BQ.cell 1
  have cQ2 : w2.cell? ⟨w.heap.size + 1 + 1, 2, none⟩ = some (.int .i64 q2) := BQ.cell 2
  have cQ3 : w2.cell? ⟨w.heap.size + 1 + 1, 3, none⟩ = some (.slice Af nf cf) := BQ.cell 3
  have lQ := BQ.lt
  clear cF0 cF1 cF2 cF3 lF cG0 cG1 cG2 cG3 lG cQ0 cQ1 cQ2 cQ3 lQ
  have RX := hX.below HW
  have RQ := h0.below HW
  go_wp2_with fail
  go_loopw [10, 11, 12] (fun bb ll i wr => ∃ (m : Nat) (b l : Int), m ≤ n ∧ i = .int .i64 m ∧ bb = .int .i64 b ∧ ll = .int .i64 l ∧ -1 ≤ b ∧ 0 ≤ l ∧ l ≤ 4000000 ∧ Hid (IsBest (accL (alwI q0 q1 q2 xs [f, h]) m) (accL (alwC q0 q1 q2 zf xs [f, h]) m) b l) ∧ Below w2.heap.size w2 wr) (fun _ _ i _ => n - (intOf i).toNat)
  case atStart => exact ⟨0, _, _, by omega, rfl, rfl, rfl, by omega, by omega, by omega, Lib.hid IsBest.nil, Below.refl _ _⟩
  case round =>
    obtain ⟨m, b, l, hmn, rfl, rfl, rfl, hb0, hl0, hl1, hbe, HP⟩ := hrel
    by_cases hlm : m < n
    · have hxk := Lib.hid (show lastOk (lastsAt xs m).s (lastsAt xs m).l (lastsAt xs m).b (lastsAt xs m).i (lastsAt xs m).h (lastsAt xs m).p = true from kx.out m (by rw [hxl.out]; exact hlm))
      have kfo := Lib.hid (show footOk f.l f.b f.i f.h = true from kf.out)
      have kho := Lib.hid (show footOk h.l h.b h.i h.h = true from kh.out)
      obtain ⟨bk, off, eA, hbl, i0, i1, i2, i3, i4, i5⟩ := (RX.below HP).lasts hlm
      subst eA
      have BQr := BQ.below HP
      have BFr := BF.below HP
      have BGr := BG.below HP
      have RQr := RQ.below HP
      have kF := BFr.cell
      have lF := BFr.lt
      have kG := BGr.cell
      have lG := BGr.lt
      have s1 := costR_sign (q0 := q0) (q1 := q1) (q2 := q2) (zf := zf) (x := lastsAt xs m) (f := f) kq.out
      have s2 := costR_sign (q0 := q0) (q1 := q1) (q2 := q2) (zf := zf) (x := lastsAt xs m) (f := h) kq.out
      cases hL : mX q0 q1 q2 (lastsAt xs m) f
      · have g1 := Lib.hid (accL_skip (g := alwI q0 q1 q2 xs [f, h]) (k := m) (by unfold alwI; rw [if_neg (by rw [two_feet, hL, Bool.false_and]; decide)]))
        have g2 := Lib.hid (accL_skip (g := alwC q0 q1 q2 zf xs [f, h]) (k := m) (by unfold alwC; rw [if_neg (by rw [two_feet, hL, Bool.false_and]; decide)]))
        have hbn := Lib.hid (show IsBest (accL (alwI q0 q1 q2 xs [f, h]) (m + 1)) (accL (alwC q0 q1 q2 zf xs [f, h]) (m + 1)) b l by rw [← g1.out, ← g2.out]; exact hbe.out)
        have c1 : costR (lastsAt xs m).l (lastsAt xs m).b (lastsAt xs m).i (lastsAt xs m).h f.l f.b f.i f.h q0 q1 q2 zf < 0 := by rw [hL] at s1; simpa using s1
        clear s1 s2 hL
        go_wp2_with fail
        refine wp_region_held_drew (S := (fun wz => Below wr.heap.size wr wz ∧ ∀ b o, b < wr.heap.size → wz.cell? ⟨b, o, none⟩ = wr.cell? ⟨b, o, none⟩)) (by kernel_rfl) (old_of (Below.drew (Below.refl _ _))) (fun hHeld => ?_)
        refine wpAnyH_take (i := 0) (oi := ?_) (v := ?_) ?_ (by kernel_rfl) (by kernel_rfl) (by kernel_rfl) ?_ (Or.inl ⟨?_, ?_⟩) (by assumption) ?_
        rotate_left 2
        · (simp only [List.getElem?_toArray, List.getElem?_cons_zero]; rfl)
        · exact fun _ _ _ h => h
        · rfl
        · intro w hSw
          (try dsimp only at hSw)
          go_simp
          try with_reducible rfl
        simp only [put_arr, List.set_cons_zero, List.set_cons_succ]
        refine wpAnyH_take (i := 1) (oi := ?_) (v := ?_) ?_ (by kernel_rfl) (by kernel_rfl) (by kernel_rfl) ?_ (Or.inl ⟨?_, ?_⟩) (by assumption) ?_
        rotate_left 2
        · (simp only [List.getElem?_toArray, List.getElem?_cons_zero, List.getElem?_cons_succ]; rfl)
        · exact fun _ _ _ h => h
        · rfl
        · intro w hSw
          (try dsimp only at hSw)
          go_simp
          try with_reducible rfl
        simp only [put_arr, List.set_cons_zero, List.set_cons_succ]
        refine wpAnyH_take (i := 2) (oi := ?_) (v := ?_) ?_ (by kernel_rfl) (by kernel_rfl) (by kernel_rfl) ?_ (Or.inl ⟨?_, ?_⟩) (by assumption) ?_
        rotate_left 2
        · (simp only [List.getElem?_toArray, List.getElem?_cons_zero, List.getElem?_cons_succ]; rfl)
        · exact fun _ _ _ h => h
        · rfl
        · intro w hSw
          (try dsimp only at hSw)
          go_simp
          try with_reducible rfl
        simp only [put_arr, List.set_cons_zero, List.set_cons_succ]
        refine wpAnyH_take (i := 3) (oi := ?_) (v := ?_) ?_ (by kernel_rfl) (by kernel_rfl) (by kernel_rfl) ?_ (Or.inl ⟨?_, ?_⟩) (by assumption) ?_
        rotate_left 2
        · (simp only [List.getElem?_toArray, List.getElem?_cons_zero, List.getElem?_cons_succ]; rfl)
        · exact fun _ _ _ h => h
        · rfl
        · intro w hSw
          (try dsimp only at hSw)
          go_simp
          try with_reducible rfl
        simp only [put_arr, List.set_cons_zero, List.set_cons_succ]
        refine wpAnyH_take (i := 4) (oi := ?_) (v := ?_) ?_ (by kernel_rfl) (by kernel_rfl) (by kernel_rfl) ?_ (Or.inl ⟨?_, ?_⟩) (by assumption) ?_
        rotate_left 2
        · (simp only [List.getElem?_toArray, List.getElem?_cons_zero, List.getElem?_cons_succ]; rfl)
        · exact fun _ _ _ h => h
        · rfl
        · intro w hSw
          (try dsimp only at hSw)
          go_simp
          try with_reducible rfl
        simp only [put_arr, List.set_cons_zero, List.set_cons_succ]
        refine wpAnyH_ready (rs := [5]) (by kernel_rfl) (by simp) ?_
        refine AllReadyH.cons (o := ?_) ?_ (fun K hK => ?_) AllReadyH.nil
        rotate_left
        · (simp only [List.getElem?_toArray, List.getElem?_cons_zero, List.getElem?_cons_succ]; rfl)
        rw [if_pos (by rfl)]
        go_simp
        (with_reducible refine (l04Cost_any _ _ _ _ _ _ _ _ _ _ _ _ _ _ _ _ _ _ _ (BQr.below hHeld.1) (RQr.below hHeld.1) hxk.out kfo.out kq.out).mono ?_)
        rintro e v2 ⟨rfl, hb7⟩
        have HZ7 := Bl.then (w := wr) hHeld.1 hb7
        go_wp2_with fail
        refine hK.out _ _ (old_of HZ7) (fun hHeld2 => ?_)
        clear hK K hHeld
        have hHeld := hHeld2
        clear hHeld2
        refine wpAnyH_take (i := 6) (oi := ?_) (v := ?_) ?_ (by kernel_rfl) (by kernel_rfl) (by kernel_rfl) ?_ (Or.inl ⟨?_, ?_⟩) (by assumption) ?_
        rotate_left 2
        · (simp only [List.getElem?_toArray, List.getElem?_cons_zero, List.getElem?_cons_succ]; rfl)
        · exact fun _ _ _ h => h
        · rfl
        · intro w hSw
          (try dsimp only at hSw)
          go_simp
          try with_reducible rfl
        simp only [put_arr, List.set_cons_zero, List.set_cons_succ]
        refine wpAnyH_done (by kernel_rfl) ?_ _
        clear hHeld
        go_wp2_with fail
        refine wp_region_held_drew (S := (fun wz => Below wr.heap.size wr wz ∧ ∀ b o, b < wr.heap.size → wz.cell? ⟨b, o, none⟩ = wr.cell? ⟨b, o, none⟩)) (by kernel_rfl) (old_of (Below.drew HZ7)) (fun hHeld => ?_)
        refine wpAnyH_take (i := 0) (oi := ?_) (v := ?_) ?_ (by kernel_rfl) (by kernel_rfl) (by kernel_rfl) ?_ (Or.inl ⟨?_, ?_⟩) (by assumption) ?_
        rotate_left 2
        · (simp only [List.getElem?_toArray, List.getElem?_cons_zero]; rfl)
        · exact fun _ _ _ h => h
        · rfl
        · intro w hSw
          (try dsimp only at hSw)
          go_simp
          try with_reducible rfl
        simp only [put_arr, List.set_cons_zero, List.set_cons_succ]
        refine wpAnyH_take (i := 1) (oi := ?_) (v := ?_) ?_ (by kernel_rfl) (by kernel_rfl) (by kernel_rfl) ?_ (Or.inl ⟨?_, ?_⟩) (by assumption) ?_
        rotate_left 2
        · (simp only [List.getElem?_toArray, List.getElem?_cons_zero, List.getElem?_cons_succ]; rfl)
        · exact fun _ _ _ h => h
        · rfl
        · intro w hSw
          (try dsimp only at hSw)
          go_simp
          try with_reducible rfl
        simp only [put_arr, List.set_cons_zero, List.set_cons_succ]
        refine wpAnyH_take (i := 2) (oi := ?_) (v := ?_) ?_ (by kernel_rfl) (by kernel_rfl) (by kernel_rfl) ?_ (Or.inl ⟨?_, ?_⟩) (by assumption) ?_
        rotate_left 2
        · (simp only [List.getElem?_toArray, List.getElem?_cons_zero, List.getElem?_cons_succ]; rfl)
        · exact fun _ _ _ h => h
        · rfl
        · intro w hSw
          (try dsimp only at hSw)
          go_simp
          try with_reducible rfl
        simp only [put_arr, List.set_cons_zero, List.set_cons_succ]
        refine wpAnyH_take (i := 3) (oi := ?_) (v := ?_) ?_ (by kernel_rfl) (by kernel_rfl) (by kernel_rfl) ?_ (Or.inl ⟨?_, ?_⟩) (by assumption) ?_
        rotate_left 2
        · (simp only [List.getElem?_toArray, List.getElem?_cons_zero, List.getElem?_cons_succ]; rfl)
        · exact fun _ _ _ h => h
        · rfl
        · intro w hSw
          (try dsimp only at hSw)
          go_simp
          try with_reducible rfl
        simp only [put_arr, List.set_cons_zero, List.set_cons_succ]
        refine wpAnyH_take (i := 4) (oi := ?_) (v := ?_) ?_ (by kernel_rfl) (by kernel_rfl) (by kernel_rfl) ?_ (Or.inl ⟨?_, ?_⟩) (by assumption) ?_
        rotate_left 2
        · (simp only [List.getElem?_toArray, List.getElem?_cons_zero, List.getElem?_cons_succ]; rfl)
        · exact fun _ _ _ h => h
        · rfl
        · intro w hSw
          (try dsimp only at hSw)
          go_simp
          try with_reducible rfl
        simp only [put_arr, List.set_cons_zero, List.set_cons_succ]
        refine wpAnyH_ready (rs := [5]) (by kernel_rfl) (by simp) ?_
        refine AllReadyH.cons (o := ?_) ?_ (fun K hK => ?_) AllReadyH.nil
        rotate_left
        · (simp only [List.getElem?_toArray, List.getElem?_cons_zero, List.getElem?_cons_succ]; rfl)
        rw [if_pos (by rfl)]
        go_simp
        (with_reducible refine (l04Cost_any _ _ _ _ _ _ _ _ _ _ _ _ _ _ _ _ _ _ _ (BQr.below hHeld.1) (RQr.below hHeld.1) hxk.out kho.out kq.out).mono ?_)
        rintro e v3 ⟨rfl, hb8⟩
        have HZ8 := Bl.then (w := wr) hHeld.1 hb8
        go_wp2_with fail
        refine hK.out _ _ (old_of HZ8) (fun hHeld2 => ?_)
        clear hK K hHeld
        have hHeld := hHeld2
        clear hHeld2
        refine wpAnyH_take (i := 6) (oi := ?_) (v := ?_) ?_ (by kernel_rfl) (by kernel_rfl) (by kernel_rfl) ?_ (Or.inl ⟨?_, ?_⟩) (by assumption) ?_
        rotate_left 2
        · (simp only [List.getElem?_toArray, List.getElem?_cons_zero, List.getElem?_cons_succ]; rfl)
        · exact fun _ _ _ h => h
        · rfl
        · intro w hSw
          (try dsimp only at hSw)
          go_simp
          try with_reducible rfl
        simp only [put_arr, List.set_cons_zero, List.set_cons_succ]
        refine wpAnyH_done (by kernel_rfl) ?_ _
        clear hHeld
        go_wp2_with fail
        go_roundw
        case rel => exact ⟨m + 1, b, l, by omega, by go_num, rfl, rfl, by omega, by omega, by omega, hbn, Bl.then HP HZ8⟩
        case measure => simp [intOf]; omega
      cases hR : mX q0 q1 q2 (lastsAt xs m) h
      · have g1 := Lib.hid (accL_skip (g := alwI q0 q1 q2 xs [f, h]) (k := m) (by unfold alwI; rw [if_neg (by rw [two_feet, hR, Bool.and_false]; decide)]))
        have g2 := Lib.hid (accL_skip (g := alwC q0 q1 q2 zf xs [f, h]) (k := m) (by unfold alwC; rw [if_neg (by rw [two_feet, hR, Bool.and_false]; decide)]))
        have hbn := Lib.hid (show IsBest (accL (alwI q0 q1 q2 xs [f, h]) (m + 1)) (accL (alwC q0 q1 q2 zf xs [f, h]) (m + 1)) b l by rw [← g1.out, ← g2.out]; exact hbe.out)
        have c1 : 0 ≤ costR (lastsAt xs m).l (lastsAt xs m).b (lastsAt xs m).i (lastsAt xs m).h f.l f.b f.i f.h q0 q1 q2 zf := by rw [hL] at s1; simpa using s1
        have c2 : costR (lastsAt xs m).l (lastsAt xs m).b (lastsAt xs m).i (lastsAt xs m).h h.l h.b h.i h.h q0 q1 q2 zf < 0 := by rw [hR] at s2; simpa using s2
        clear s1 s2 hL hR
        go_wp2_with fail
        refine wp_region_held_drew (S := (fun wz => Below wr.heap.size wr wz ∧ ∀ b o, b < wr.heap.size → wz.cell? ⟨b, o, none⟩ = wr.cell? ⟨b, o, none⟩)) (by kernel_rfl) (old_of (Below.drew (Below.refl _ _))) (fun hHeld => ?_)
        refine wpAnyH_take (i := 0) (oi := ?_) (v := ?_) ?_ (by kernel_rfl) (by kernel_rfl) (by kernel_rfl) ?_ (Or.inl ⟨?_, ?_⟩) (by assumption) ?_
        rotate_left 2
        · (simp only [List.getElem?_toArray, List.getElem?_cons_zero]; rfl)
        · exact fun _ _ _ h => h
        · rfl
        · intro w hSw
          (try dsimp only at hSw)
          go_simp
          try with_reducible rfl
        simp only [put_arr, List.set_cons_zero, List.set_cons_succ]
        refine wpAnyH_take (i := 1) (oi := ?_) (v := ?_) ?_ (by kernel_rfl) (by kernel_rfl) (by kernel_rfl) ?_ (Or.inl ⟨?_, ?_⟩) (by assumption) ?_
        rotate_left 2
        · (simp only [List.getElem?_toArray, List.getElem?_cons_zero, List.getElem?_cons_succ]; rfl)
        · exact fun _ _ _ h => h
        · rfl
        · intro w hSw
          (try dsimp only at hSw)
          go_simp
          try with_reducible rfl
        simp only [put_arr, List.set_cons_zero, List.set_cons_succ]
        refine wpAnyH_take (i := 2) (oi := ?_) (v := ?_) ?_ (by kernel_rfl) (by kernel_rfl) (by kernel_rfl) ?_ (Or.inl ⟨?_, ?_⟩) (by assumption) ?_
        rotate_left 2
        · (simp only [List.getElem?_toArray, List.getElem?_cons_zero, List.getElem?_cons_succ]; rfl)
        · exact fun _ _ _ h => h
        · rfl
        · intro w hSw
          (try dsimp only at hSw)
          go_simp
          try with_reducible rfl
        simp only [put_arr, List.set_cons_zero, List.set_cons_succ]
        refine wpAnyH_take (i := 3) (oi := ?_) (v := ?_) ?_ (by kernel_rfl) (by kernel_rfl) (by kernel_rfl) ?_ (Or.inl ⟨?_, ?_⟩) (by assumption) ?_
        rotate_left 2
        · (simp only [List.getElem?_toArray, List.getElem?_cons_zero, List.getElem?_cons_succ]; rfl)
        · exact fun _ _ _ h => h
        · rfl
        · intro w hSw
          (try dsimp only at hSw)
          go_simp
          try with_reducible rfl
        simp only [put_arr, List.set_cons_zero, List.set_cons_succ]
        refine wpAnyH_take (i := 4) (oi := ?_) (v := ?_) ?_ (by kernel_rfl) (by kernel_rfl) (by kernel_rfl) ?_ (Or.inl ⟨?_, ?_⟩) (by assumption) ?_
        rotate_left 2
        · (simp only [List.getElem?_toArray, List.getElem?_cons_zero, List.getElem?_cons_succ]; rfl)
        · exact fun _ _ _ h => h
        · rfl
        · intro w hSw
          (try dsimp only at hSw)
          go_simp
          try with_reducible rfl
        simp only [put_arr, List.set_cons_zero, List.set_cons_succ]
        refine wpAnyH_ready (rs := [5]) (by kernel_rfl) (by simp) ?_
        refine AllReadyH.cons (o := ?_) ?_ (fun K hK => ?_) AllReadyH.nil
        rotate_left
        · (simp only [List.getElem?_toArray, List.getElem?_cons_zero, List.getElem?_cons_succ]; rfl)
        rw [if_pos (by rfl)]
        go_simp
        (with_reducible refine (l04Cost_any _ _ _ _ _ _ _ _ _ _ _ _ _ _ _ _ _ _ _ (BQr.below hHeld.1) (RQr.below hHeld.1) hxk.out kfo.out kq.out).mono ?_)
        rintro e v2 ⟨rfl, hb7⟩
        have HZ7 := Bl.then (w := wr) hHeld.1 hb7
        go_wp2_with fail
        refine hK.out _ _ (old_of HZ7) (fun hHeld2 => ?_)
        clear hK K hHeld
        have hHeld := hHeld2
        clear hHeld2
        refine wpAnyH_take (i := 6) (oi := ?_) (v := ?_) ?_ (by kernel_rfl) (by kernel_rfl) (by kernel_rfl) ?_ (Or.inl ⟨?_, ?_⟩) (by assumption) ?_
        rotate_left 2
        · (simp only [List.getElem?_toArray, List.getElem?_cons_zero, List.getElem?_cons_succ]; rfl)
        · exact fun _ _ _ h => h
        · rfl
        · intro w hSw
          (try dsimp only at hSw)
          go_simp
          try with_reducible rfl
        simp only [put_arr, List.set_cons_zero, List.set_cons_succ]
        refine wpAnyH_done (by kernel_rfl) ?_ _
        clear hHeld
        go_wp2_with fail
        refine wp_region_held_drew (S := (fun wz => Below wr.heap.size wr wz ∧ ∀ b o, b < wr.heap.size → wz.cell? ⟨b, o, none⟩ = wr.cell? ⟨b, o, none⟩)) (by kernel_rfl) (old_of (Below.drew HZ7)) (fun hHeld => ?_)
        refine wpAnyH_take (i := 0) (oi := ?_) (v := ?_) ?_ (by kernel_rfl) (by kernel_rfl) (by kernel_rfl) ?_ (Or.inl ⟨?_, ?_⟩) (by assumption) ?_
        rotate_left 2
        · (simp only [List.getElem?_toArray, List.getElem?_cons_zero]; rfl)
        · exact fun _ _ _ h => h
        · rfl
        · intro w hSw
          (try dsimp only at hSw)
          go_simp
          try with_reducible rfl
        simp only [put_arr, List.set_cons_zero, List.set_cons_succ]
        refine wpAnyH_take (i := 1) (oi := ?_) (v := ?_) ?_ (by kernel_rfl) (by kernel_rfl) (by kernel_rfl) ?_ (Or.inl ⟨?_, ?_⟩) (by assumption) ?_
        rotate_left 2
        · (simp only [List.getElem?_toArray, List.getElem?_cons_zero, List.getElem?_cons_succ]; rfl)
        · exact fun _ _ _ h => h
        · rfl
        · intro w hSw
          (try dsimp only at hSw)
          go_simp
          try with_reducible rfl
        simp only [put_arr, List.set_cons_zero, List.set_cons_succ]
        refine wpAnyH_take (i := 2) (oi := ?_) (v := ?_) ?_ (by kernel_rfl) (by kernel_rfl) (by kernel_rfl) ?_ (Or.inl ⟨?_, ?_⟩) (by assumption) ?_
        rotate_left 2
        · (simp only [List.getElem?_toArray, List.getElem?_cons_zero, List.getElem?_cons_succ]; rfl)
        · exact fun _ _ _ h => h
        · rfl
        · intro w hSw
          (try dsimp only at hSw)
          go_simp
          try with_reducible rfl
        simp only [put_arr, List.set_cons_zero, List.set_cons_succ]
        refine wpAnyH_take (i := 3) (oi := ?_) (v := ?_) ?_ (by kernel_rfl) (by kernel_rfl) (by kernel_rfl) ?_ (Or.inl ⟨?_, ?_⟩) (by assumption) ?_
        rotate_left 2
        · (simp only [List.getElem?_toArray, List.getElem?_cons_zero, List.getElem?_cons_succ]; rfl)
        · exact fun _ _ _ h => h
        · rfl
        · intro w hSw
          (try dsimp only at hSw)
          go_simp
          try with_reducible rfl
        simp only [put_arr, List.set_cons_zero, List.set_cons_succ]
        refine wpAnyH_take (i := 4) (oi := ?_) (v := ?_) ?_ (by kernel_rfl) (by kernel_rfl) (by kernel_rfl) ?_ (Or.inl ⟨?_, ?_⟩) (by assumption) ?_
        rotate_left 2
        · (simp only [List.getElem?_toArray, List.getElem?_cons_zero, List.getElem?_cons_succ]; rfl)
        · exact fun _ _ _ h => h
        · rfl
        · intro w hSw
          (try dsimp only at hSw)
          go_simp
          try with_reducible rfl
        simp only [put_arr, List.set_cons_zero, List.set_cons_succ]
        refine wpAnyH_ready (rs := [5]) (by kernel_rfl) (by simp) ?_
        refine AllReadyH.cons (o := ?_) ?_ (fun K hK => ?_) AllReadyH.nil
        rotate_left
        · (simp only [List.getElem?_toArray, List.getElem?_cons_zero, List.getElem?_cons_succ]; rfl)
        rw [if_pos (by rfl)]
        go_simp
        (with_reducible refine (l04Cost_any _ _ _ _ _ _ _ _ _ _ _ _ _ _ _ _ _ _ _ (BQr.below hHeld.1) (RQr.below hHeld.1) hxk.out kho.out kq.out).mono ?_)
        rintro e v3 ⟨rfl, hb8⟩
        have HZ8 := Bl.then (w := wr) hHeld.1 hb8
        go_wp2_with fail
        refine hK.out _ _ (old_of HZ8) (fun hHeld2 => ?_)
        clear hK K hHeld
        have hHeld := hHeld2
        clear hHeld2
        refine wpAnyH_take (i := 6) (oi := ?_) (v := ?_) ?_ (by kernel_rfl) (by kernel_rfl) (by kernel_rfl) ?_ (Or.inl ⟨?_, ?_⟩) (by assumption) ?_
        rotate_left 2
        · (simp only [List.getElem?_toArray, List.getElem?_cons_zero, List.getElem?_cons_succ]; rfl)
        · exact fun _ _ _ h => h
        · rfl
        · intro w hSw
          (try dsimp only at hSw)
          go_simp
          try with_reducible rfl
        simp only [put_arr, List.set_cons_zero, List.set_cons_succ]
        refine wpAnyH_done (by kernel_rfl) ?_ _
        clear hHeld
        go_wp2_with fail
        go_roundw
        case rel => exact ⟨m + 1, b, l, by omega, by go_num, rfl, rfl, by omega, by omega, by omega, hbn, Bl.then HP HZ8⟩
        case measure => simp [intOf]; omega
      have c1 : 0 ≤ costR (lastsAt xs m).l (lastsAt xs m).b (lastsAt xs m).i (lastsAt xs m).h f.l f.b f.i f.h q0 q1 q2 zf := by rw [hL] at s1; simpa using s1
      have c2 : 0 ≤ costR (lastsAt xs m).l (lastsAt xs m).b (lastsAt xs m).i (lastsAt xs m).h h.l h.b h.i h.h q0 q1 q2 zf := by rw [hR] at s2; simpa using s2
      have e1 := costR_cX (q0 := q0) (q1 := q1) (q2 := q2) (zf := zf) (x := lastsAt xs m) (f := f) hL
      have e2 := costR_cX (q0 := q0) (q1 := q1) (q2 := q2) (zf := zf) (x := lastsAt xs m) (f := h) hR
      have d1 : costR (lastsAt xs m).l (lastsAt xs m).b (lastsAt xs m).i (lastsAt xs m).h f.l f.b f.i f.h q0 q1 q2 zf ≤ 2000000 := by rw [e1]; exact (cX_bd (show lOk (lastsAt xs m) = true from hxk.out) kf.out kq.out).2
      have d2 : costR (lastsAt xs m).l (lastsAt xs m).b (lastsAt xs m).i (lastsAt xs m).h h.l h.b h.i h.h q0 q1 q2 zf ≤ 2000000 := by rw [e2]; exact (cX_bd (show lOk (lastsAt xs m) = true from hxk.out) kh.out kq.out).2
      have g1 := Lib.hid (accL_add (g := alwI q0 q1 q2 xs [f, h]) (k := m) (x := (m : Int)) (by unfold alwI; rw [if_pos (by rw [two_feet, hL, hR]; rfl)]))
      have g2 := Lib.hid (accL_add (g := alwC q0 q1 q2 zf xs [f, h]) (k := m) (x := (costR (lastsAt xs m).l (lastsAt xs m).b (lastsAt xs m).i (lastsAt xs m).h f.l f.b f.i f.h q0 q1 q2 zf + costR (lastsAt xs m).l (lastsAt xs m).b (lastsAt xs m).i (lastsAt xs m).h h.l h.b h.i h.h q0 q1 q2 zf)) (by unfold alwC; rw [if_pos (by rw [two_feet, hL, hR]; rfl), two_sum, e1, e2]))
      clear s1 s2 hL hR e1 e2
      have hlc := hll.out m
      have hlc' := Lib.hid hlc
      clear hlc
      by_cases hneg : b < 0
      · have hbn := Lib.hid (show IsBest (accL (alwI q0 q1 q2 xs [f, h]) (m + 1)) (accL (alwC q0 q1 q2 zf xs [f, h]) (m + 1)) (m : Int) (costR (lastsAt xs m).l (lastsAt xs m).b (lastsAt xs m).i (lastsAt xs m).h f.l f.b f.i f.h q0 q1 q2 zf + costR (lastsAt xs m).l (lastsAt xs m).b (lastsAt xs m).i (lastsAt xs m).h h.l h.b h.i h.h q0 q1 q2 zf) by rw [← g1.out, ← g2.out]; exact hbe.out.first hlc'.out (by omega) hneg)
        go_wp2_with fail
        refine wp_region_held_drew (S := (fun wz => Below wr.heap.size wr wz ∧ ∀ b o, b < wr.heap.size → wz.cell? ⟨b, o, none⟩ = wr.cell? ⟨b, o, none⟩)) (by kernel_rfl) (old_of (Below.drew (Below.refl _ _))) (fun hHeld => ?_)
        refine wpAnyH_take (i := 0) (oi := ?_) (v := ?_) ?_ (by kernel_rfl) (by kernel_rfl) (by kernel_rfl) ?_ (Or.inl ⟨?_, ?_⟩) (by assumption) ?_
        rotate_left 2
        · (simp only [List.getElem?_toArray, List.getElem?_cons_zero]; rfl)
        · exact fun _ _ _ h => h
        · rfl
        · intro w hSw
          (try dsimp only at hSw)
          go_simp
          try with_reducible rfl
        simp only [put_arr, List.set_cons_zero, List.set_cons_succ]
        refine wpAnyH_take (i := 1) (oi := ?_) (v := ?_) ?_ (by kernel_rfl) (by kernel_rfl) (by kernel_rfl) ?_ (Or.inl ⟨?_, ?_⟩) (by assumption) ?_
        rotate_left 2
        · (simp only [List.getElem?_toArray, List.getElem?_cons_zero, List.getElem?_cons_succ]; rfl)
        · exact fun _ _ _ h => h
        · rfl
        · intro w hSw
          (try dsimp only at hSw)
          go_simp
          try with_reducible rfl
        simp only [put_arr, List.set_cons_zero, List.set_cons_succ]
        refine wpAnyH_take (i := 2) (oi := ?_) (v := ?_) ?_ (by kernel_rfl) (by kernel_rfl) (by kernel_rfl) ?_ (Or.inl ⟨?_, ?_⟩) (by assumption) ?_
        rotate_left 2
        · (simp only [List.getElem?_toArray, List.getElem?_cons_zero, List.getElem?_cons_succ]; rfl)
        · exact fun _ _ _ h => h
        · rfl
        · intro w hSw
          (try dsimp only at hSw)
          go_simp
          try with_reducible rfl
        simp only [put_arr, List.set_cons_zero, List.set_cons_succ]
        refine wpAnyH_take (i := 3) (oi := ?_) (v := ?_) ?_ (by kernel_rfl) (by kernel_rfl) (by kernel_rfl) ?_ (Or.inl ⟨?_, ?_⟩) (by assumption) ?_
        rotate_left 2
        · (simp only [List.getElem?_toArray, List.getElem?_cons_zero, List.getElem?_cons_succ]; rfl)
        · exact fun _ _ _ h => h
        · rfl
        · intro w hSw
          (try dsimp only at hSw)
          go_simp
          try with_reducible rfl
        simp only [put_arr, List.set_cons_zero, List.set_cons_succ]
        refine wpAnyH_take (i := 4) (oi := ?_) (v := ?_) ?_ (by kernel_rfl) (by kernel_rfl) (by kernel_rfl) ?_ (Or.inl ⟨?_, ?_⟩) (by assumption) ?_
        rotate_left 2
        · (simp only [List.getElem?_toArray, List.getElem?_cons_zero, List.getElem?_cons_succ]; rfl)
        · exact fun _ _ _ h => h
        · rfl
        · intro w hSw
          (try dsimp only at hSw)
          go_simp
          try with_reducible rfl
        simp only [put_arr, List.set_cons_zero, List.set_cons_succ]
        refine wpAnyH_ready (rs := [5]) (by kernel_rfl) (by simp) ?_
        refine AllReadyH.cons (o := ?_) ?_ (fun K hK => ?_) AllReadyH.nil
        rotate_left
        · (simp only [List.getElem?_toArray, List.getElem?_cons_zero, List.getElem?_cons_succ]; rfl)
        rw [if_pos (by rfl)]
        go_simp
        (with_reducible refine (l04Cost_any _ _ _ _ _ _ _ _ _ _ _ _ _ _ _ _ _ _ _ (BQr.below hHeld.1) (RQr.below hHeld.1) hxk.out kfo.out kq.out).mono ?_)
        rintro e v2 ⟨rfl, hb7⟩
        have HZ7 := Bl.then (w := wr) hHeld.1 hb7
        go_wp2_with fail
        refine hK.out _ _ (old_of HZ7) (fun hHeld2 => ?_)
        clear hK K hHeld
        have hHeld := hHeld2
        clear hHeld2
        refine wpAnyH_take (i := 6) (oi := ?_) (v := ?_) ?_ (by kernel_rfl) (by kernel_rfl) (by kernel_rfl) ?_ (Or.inl ⟨?_, ?_⟩) (by assumption) ?_
        rotate_left 2
        · (simp only [List.getElem?_toArray, List.getElem?_cons_zero, List.getElem?_cons_succ]; rfl)
        · exact fun _ _ _ h => h
        · rfl
        · intro w hSw
          (try dsimp only at hSw)
          go_simp
          try with_reducible rfl
        simp only [put_arr, List.set_cons_zero, List.set_cons_succ]
        refine wpAnyH_done (by kernel_rfl) ?_ _
        clear hHeld
        go_wp2_with fail
        refine wp_region_held_drew (S := (fun wz => Below wr.heap.size wr wz ∧ ∀ b o, b < wr.heap.size → wz.cell? ⟨b, o, none⟩ = wr.cell? ⟨b, o, none⟩)) (by kernel_rfl) (old_of (Below.drew HZ7)) (fun hHeld => ?_)
        refine wpAnyH_take (i := 0) (oi := ?_) (v := ?_) ?_ (by kernel_rfl) (by kernel_rfl) (by kernel_rfl) ?_ (Or.inl ⟨?_, ?_⟩) (by assumption) ?_
        rotate_left 2
        · (simp only [List.getElem?_toArray, List.getElem?_cons_zero]; rfl)
        · exact fun _ _ _ h => h
        · rfl
        · intro w hSw
          (try dsimp only at hSw)
          go_simp
          try with_reducible rfl
        simp only [put_arr, List.set_cons_zero, List.set_cons_succ]
        refine wpAnyH_take (i := 1) (oi := ?_) (v := ?_) ?_ (by kernel_rfl) (by kernel_rfl) (by kernel_rfl) ?_ (Or.inl ⟨?_, ?_⟩) (by assumption) ?_
        rotate_left 2
        · (simp only [List.getElem?_toArray, List.getElem?_cons_zero, List.getElem?_cons_succ]; rfl)
        · exact fun _ _ _ h => h
        · rfl
        · intro w hSw
          (try dsimp only at hSw)
          go_simp
          try with_reducible rfl
        simp only [put_arr, List.set_cons_zero, List.set_cons_succ]
        refine wpAnyH_take (i := 2) (oi := ?_) (v := ?_) ?_ (by kernel_rfl) (by kernel_rfl) (by kernel_rfl) ?_ (Or.inl ⟨?_, ?_⟩) (by assumption) ?_
        rotate_left 2
        · (simp only [List.getElem?_toArray, List.getElem?_cons_zero, List.getElem?_cons_succ]; rfl)
        · exact fun _ _ _ h => h
        · rfl
        · intro w hSw
          (try dsimp only at hSw)
          go_simp
          try with_reducible rfl
        simp only [put_arr, List.set_cons_zero, List.set_cons_succ]
        refine wpAnyH_take (i := 3) (oi := ?_) (v := ?_) ?_ (by kernel_rfl) (by kernel_rfl) (by kernel_rfl) ?_ (Or.inl ⟨?_, ?_⟩) (by assumption) ?_
        rotate_left 2
        · (simp only [List.getElem?_toArray, List.getElem?_cons_zero, List.getElem?_cons_succ]; rfl)
        · exact fun _ _ _ h => h
        · rfl
        · intro w hSw
          (try dsimp only at hSw)
          go_simp
          try with_reducible rfl
        simp only [put_arr, List.set_cons_zero, List.set_cons_succ]
        refine wpAnyH_take (i := 4) (oi := ?_) (v := ?_) ?_ (by kernel_rfl) (by kernel_rfl) (by kernel_rfl) ?_ (Or.inl ⟨?_, ?_⟩) (by assumption) ?_
        rotate_left 2
        · (simp only [List.getElem?_toArray, List.getElem?_cons_zero, List.getElem?_cons_succ]; rfl)
        · exact fun _ _ _ h => h
        · rfl
        · intro w hSw
          (try dsimp only at hSw)
          go_simp
          try with_reducible rfl
        simp only [put_arr, List.set_cons_zero, List.set_cons_succ]
        refine wpAnyH_ready (rs := [5]) (by kernel_rfl) (by simp) ?_
        refine AllReadyH.cons (o := ?_) ?_ (fun K hK => ?_) AllReadyH.nil
        rotate_left
        · (simp only [List.getElem?_toArray, List.getElem?_cons_zero, List.getElem?_cons_succ]; rfl)
        rw [if_pos (by rfl)]
        go_simp
        (with_reducible refine (l04Cost_any _ _ _ _ _ _ _ _ _ _ _ _ _ _ _ _ _ _ _ (BQr.below hHeld.1) (RQr.below hHeld.1) hxk.out kho.out kq.out).mono ?_)
        rintro e v3 ⟨rfl, hb8⟩
        have HZ8 := Bl.then (w := wr) hHeld.1 hb8
        go_wp2_with fail
        refine hK.out _ _ (old_of HZ8) (fun hHeld2 => ?_)
        clear hK K hHeld
        have hHeld := hHeld2
        clear hHeld2
        refine wpAnyH_take (i := 6) (oi := ?_) (v := ?_) ?_ (by kernel_rfl) (by kernel_rfl) (by kernel_rfl) ?_ (Or.inl ⟨?_, ?_⟩) (by assumption) ?_
        rotate_left 2
        · (simp only [List.getElem?_toArray, List.getElem?_cons_zero, List.getElem?_cons_succ]; rfl)
        · exact fun _ _ _ h => h
        · rfl
        · intro w hSw
          (try dsimp only at hSw)
          go_simp
          try with_reducible rfl
        simp only [put_arr, List.set_cons_zero, List.set_cons_succ]
        refine wpAnyH_done (by kernel_rfl) ?_ _
        clear hHeld
        go_wp2_with fail
        go_roundw
        case rel => exact ⟨m + 1, _, _, by omega, by go_num, rfl, rfl, by omega, by omega, by omega, hbn, Bl.then HP HZ8⟩
        case measure => simp [intOf]; omega
      have hpos : 0 ≤ b := by omega
      by_cases hlt9 : (costR (lastsAt xs m).l (lastsAt xs m).b (lastsAt xs m).i (lastsAt xs m).h f.l f.b f.i f.h q0 q1 q2 zf + costR (lastsAt xs m).l (lastsAt xs m).b (lastsAt xs m).i (lastsAt xs m).h h.l h.b h.i h.h q0 q1 q2 zf) < l
      · have hbn := Lib.hid (show IsBest (accL (alwI q0 q1 q2 xs [f, h]) (m + 1)) (accL (alwC q0 q1 q2 zf xs [f, h]) (m + 1)) (m : Int) (costR (lastsAt xs m).l (lastsAt xs m).b (lastsAt xs m).i (lastsAt xs m).h f.l f.b f.i f.h q0 q1 q2 zf + costR (lastsAt xs m).l (lastsAt xs m).b (lastsAt xs m).i (lastsAt xs m).h h.l h.b h.i h.h q0 q1 q2 zf) by rw [← g1.out, ← g2.out]; exact hbe.out.less hlc'.out (by omega) hpos hlt9)
        go_wp2_with fail
        refine wp_region_held_drew (S := (fun wz => Below wr.heap.size wr wz ∧ ∀ b o, b < wr.heap.size → wz.cell? ⟨b, o, none⟩ = wr.cell? ⟨b, o, none⟩)) (by kernel_rfl) (old_of (Below.drew (Below.refl _ _))) (fun hHeld => ?_)
        refine wpAnyH_take (i := 0) (oi := ?_) (v := ?_) ?_ (by kernel_rfl) (by kernel_rfl) (by kernel_rfl) ?_ (Or.inl ⟨?_, ?_⟩) (by assumption) ?_
        rotate_left 2
        · (simp only [List.getElem?_toArray, List.getElem?_cons_zero]; rfl)
        · exact fun _ _ _ h => h
        · rfl
        · intro w hSw
          (try dsimp only at hSw)
          go_simp
          try with_reducible rfl
        simp only [put_arr, List.set_cons_zero, List.set_cons_succ]
        refine wpAnyH_take (i := 1) (oi := ?_) (v := ?_) ?_ (by kernel_rfl) (by kernel_rfl) (by kernel_rfl) ?_ (Or.inl ⟨?_, ?_⟩) (by assumption) ?_
        rotate_left 2
        · (simp only [List.getElem?_toArray, List.getElem?_cons_zero, List.getElem?_cons_succ]; rfl)
        · exact fun _ _ _ h => h
        · rfl
        · intro w hSw
          (try dsimp only at hSw)
          go_simp
          try with_reducible rfl
        simp only [put_arr, List.set_cons_zero, List.set_cons_succ]
        refine wpAnyH_take (i := 2) (oi := ?_) (v := ?_) ?_ (by kernel_rfl) (by kernel_rfl) (by kernel_rfl) ?_ (Or.inl ⟨?_, ?_⟩) (by assumption) ?_
        rotate_left 2
        · (simp only [List.getElem?_toArray, List.getElem?_cons_zero, List.getElem?_cons_succ]; rfl)
        · exact fun _ _ _ h => h
        · rfl
        · intro w hSw
          (try dsimp only at hSw)
          go_simp
          try with_reducible rfl
        simp only [put_arr, List.set_cons_zero, List.set_cons_succ]
        refine wpAnyH_take (i := 3) (oi := ?_) (v := ?_) ?_ (by kernel_rfl) (by kernel_rfl) (by kernel_rfl) ?_ (Or.inl ⟨?_, ?_⟩) (by assumption) ?_
        rotate_left 2
        · (simp only [List.getElem?_toArray, List.getElem?_cons_zero, List.getElem?_cons_succ]; rfl)
        · exact fun _ _ _ h => h
        · rfl
        · intro w hSw
          (try dsimp only at hSw)
          go_simp
          try with_reducible rfl
        simp only [put_arr, List.set_cons_zero, List.set_cons_succ]
        refine wpAnyH_take (i := 4) (oi := ?_) (v := ?_) ?_ (by kernel_rfl) (by kernel_rfl) (by kernel_rfl) ?_ (Or.inl ⟨?_, ?_⟩) (by assumption) ?_
        rotate_left 2
        · (simp only [List.getElem?_toArray, List.getElem?_cons_zero, List.getElem?_cons_succ]; rfl)
        · exact fun _ _ _ h => h
        · rfl
        · intro w hSw
          (try dsimp only at hSw)
          go_simp
          try with_reducible rfl
        simp only [put_arr, List.set_cons_zero, List.set_cons_succ]
        refine wpAnyH_ready (rs := [5]) (by kernel_rfl) (by simp) ?_
        refine AllReadyH.cons (o := ?_) ?_ (fun K hK => ?_) AllReadyH.nil
        rotate_left
        · (simp only [List.getElem?_toArray, List.getElem?_cons_zero, List.getElem?_cons_succ]; rfl)
        rw [if_pos (by rfl)]
        go_simp
        (with_reducible refine (l04Cost_any _ _ _ _ _ _ _ _ _ _ _ _ _ _ _ _ _ _ _ (BQr.below hHeld.1) (RQr.below hHeld.1) hxk.out kfo.out kq.out).mono ?_)
        rintro e v2 ⟨rfl, hb7⟩
        have HZ7 := Bl.then (w := wr) hHeld.1 hb7
        go_wp2_with fail
        refine hK.out _ _ (old_of HZ7) (fun hHeld2 => ?_)
        clear hK K hHeld
        have hHeld := hHeld2
        clear hHeld2
        refine wpAnyH_take (i := 6) (oi := ?_) (v := ?_) ?_ (by kernel_rfl) (by kernel_rfl) (by kernel_rfl) ?_ (Or.inl ⟨?_, ?_⟩) (by assumption) ?_
        rotate_left 2
        · (simp only [List.getElem?_toArray, List.getElem?_cons_zero, List.getElem?_cons_succ]; rfl)
        · exact fun _ _ _ h => h
        · rfl
        · intro w hSw
          (try dsimp only at hSw)
          go_simp
          try with_reducible rfl
        simp only [put_arr, List.set_cons_zero, List.set_cons_succ]
        refine wpAnyH_done (by kernel_rfl) ?_ _
        clear hHeld
        go_wp2_with fail
        refine wp_region_held_drew (S := (fun wz => Below wr.heap.size wr wz ∧ ∀ b o, b < wr.heap.size → wz.cell? ⟨b, o, none⟩ = wr.cell? ⟨b, o, none⟩)) (by kernel_rfl) (old_of (Below.drew HZ7)) (fun hHeld => ?_)
        refine wpAnyH_take (i := 0) (oi := ?_) (v := ?_) ?_ (by kernel_rfl) (by kernel_rfl) (by kernel_rfl) ?_ (Or.inl ⟨?_, ?_⟩) (by assumption) ?_
        rotate_left 2
        · (simp only [List.getElem?_toArray, List.getElem?_cons_zero]; rfl)
        · exact fun _ _ _ h => h
        · rfl
        · intro w hSw
          (try dsimp only at hSw)
          go_simp
          try with_reducible rfl
        simp only [put_arr, List.set_cons_zero, List.set_cons_succ]
        refine wpAnyH_take (i := 1) (oi := ?_) (v := ?_) ?_ (by kernel_rfl) (by kernel_rfl) (by kernel_rfl) ?_ (Or.inl ⟨?_, ?_⟩) (by assumption) ?_
        rotate_left 2
        · (simp only [List.getElem?_toArray, List.getElem?_cons_zero, List.getElem?_cons_succ]; rfl)
        · exact fun _ _ _ h => h
        · rfl
        · intro w hSw
          (try dsimp only at hSw)
          go_simp
          try with_reducible rfl
        simp only [put_arr, List.set_cons_zero, List.set_cons_succ]
        refine wpAnyH_take (i := 2) (oi := ?_) (v := ?_) ?_ (by kernel_rfl) (by kernel_rfl) (by kernel_rfl) ?_ (Or.inl ⟨?_, ?_⟩) (by assumption) ?_
        rotate_left 2
        · (simp only [List.getElem?_toArray, List.getElem?_cons_zero, List.getElem?_cons_succ]; rfl)
        · exact fun _ _ _ h => h
        · rfl
        · intro w hSw
          (try dsimp only at hSw)
          go_simp
          try with_reducible rfl
        simp only [put_arr, List.set_cons_zero, List.set_cons_succ]
        refine wpAnyH_take (i := 3) (oi := ?_) (v := ?_) ?_ (by kernel_rfl) (by kernel_rfl) (by kernel_rfl) ?_ (Or.inl ⟨?_, ?_⟩) (by assumption) ?_
        rotate_left 2
        · (simp only [List.getElem?_toArray, List.getElem?_cons_zero, List.getElem?_cons_succ]; rfl)
        · exact fun _ _ _ h => h
        · rfl
        · intro w hSw
          (try dsimp only at hSw)
          go_simp
          try with_reducible rfl
        simp only [put_arr, List.set_cons_zero, List.set_cons_succ]
        refine wpAnyH_take (i := 4) (oi := ?_) (v := ?_) ?_ (by kernel_rfl) (by kernel_rfl) (by kernel_rfl) ?_ (Or.inl ⟨?_, ?_⟩) (by assumption) ?_
        rotate_left 2
        · (simp only [List.getElem?_toArray, List.getElem?_cons_zero, List.getElem?_cons_succ]; rfl)
        · exact fun _ _ _ h => h
        · rfl
        · intro w hSw
          (try dsimp only at hSw)
          go_simp
          try with_reducible rfl
        simp only [put_arr, List.set_cons_zero, List.set_cons_succ]
        refine wpAnyH_ready (rs := [5]) (by kernel_rfl) (by simp) ?_
        refine AllReadyH.cons (o := ?_) ?_ (fun K hK => ?_) AllReadyH.nil
        rotate_left
        · (simp only [List.getElem?_toArray, List.getElem?_cons_zero, List.getElem?_cons_succ]; rfl)
        rw [if_pos (by rfl)]
        go_simp
        (with_reducible refine (l04Cost_any _ _ _ _ _ _ _ _ _ _ _ _ _ _ _ _ _ _ _ (BQr.below hHeld.1) (RQr.below hHeld.1) hxk.out kho.out kq.out).mono ?_)
        rintro e v3 ⟨rfl, hb8⟩
        have HZ8 := Bl.then (w := wr) hHeld.1 hb8
        go_wp2_with fail
        refine hK.out _ _ (old_of HZ8) (fun hHeld2 => ?_)
        clear hK K hHeld
        have hHeld := hHeld2
        clear hHeld2
        refine wpAnyH_take (i := 6) (oi := ?_) (v := ?_) ?_ (by kernel_rfl) (by kernel_rfl) (by kernel_rfl) ?_ (Or.inl ⟨?_, ?_⟩) (by assumption) ?_
        rotate_left 2
        · (simp only [List.getElem?_toArray, List.getElem?_cons_zero, List.getElem?_cons_succ]; rfl)
        · exact fun _ _ _ h => h
        · rfl
        · intro w hSw
          (try dsimp only at hSw)
          go_simp
          try with_reducible rfl
        simp only [put_arr, List.set_cons_zero, List.set_cons_succ]
        refine wpAnyH_done (by kernel_rfl) ?_ _
        clear hHeld
        go_wp2_with fail
        go_roundw
        case rel => exact ⟨m + 1, _, _, by omega, by go_num, rfl, rfl, by omega, by omega, by omega, hbn, Bl.then HP HZ8⟩
        case measure => simp [intOf]; omega
      · have hbn := Lib.hid (show IsBest (accL (alwI q0 q1 q2 xs [f, h]) (m + 1)) (accL (alwC q0 q1 q2 zf xs [f, h]) (m + 1)) b l by rw [← g1.out, ← g2.out]; exact hbe.out.more hlc'.out hpos hlt9)
        go_wp2_with fail
        refine wp_region_held_drew (S := (fun wz => Below wr.heap.size wr wz ∧ ∀ b o, b < wr.heap.size → wz.cell? ⟨b, o, none⟩ = wr.cell? ⟨b, o, none⟩)) (by kernel_rfl) (old_of (Below.drew (Below.refl _ _))) (fun hHeld => ?_)
        refine wpAnyH_take (i := 0) (oi := ?_) (v := ?_) ?_ (by kernel_rfl) (by kernel_rfl) (by kernel_rfl) ?_ (Or.inl ⟨?_, ?_⟩) (by assumption) ?_
        rotate_left 2
        · (simp only [List.getElem?_toArray, List.getElem?_cons_zero]; rfl)
        · exact fun _ _ _ h => h
        · rfl
        · intro w hSw
          (try dsimp only at hSw)
          go_simp
          try with_reducible rfl
        simp only [put_arr, List.set_cons_zero, List.set_cons_succ]
        refine wpAnyH_take (i := 1) (oi := ?_) (v := ?_) ?_ (by kernel_rfl) (by kernel_rfl) (by kernel_rfl) ?_ (Or.inl ⟨?_, ?_⟩) (by assumption) ?_
        rotate_left 2
        · (simp only [List.getElem?_toArray, List.getElem?_cons_zero, List.getElem?_cons_succ]; rfl)
        · exact fun _ _ _ h => h
        · rfl
        · intro w hSw
          (try dsimp only at hSw)
          go_simp
          try with_reducible rfl
        simp only [put_arr, List.set_cons_zero, List.set_cons_succ]
        refine wpAnyH_take (i := 2) (oi := ?_) (v := ?_) ?_ (by kernel_rfl) (by kernel_rfl) (by kernel_rfl) ?_ (Or.inl ⟨?_, ?_⟩) (by assumption) ?_
        rotate_left 2
        · (simp only [List.getElem?_toArray, List.getElem?_cons_zero, List.getElem?_cons_succ]; rfl)
        · exact fun _ _ _ h => h
        · rfl
        · intro w hSw
          (try dsimp only at hSw)
          go_simp
          try with_reducible rfl
        simp only [put_arr, List.set_cons_zero, List.set_cons_succ]
        refine wpAnyH_take (i := 3) (oi := ?_) (v := ?_) ?_ (by kernel_rfl) (by kernel_rfl) (by kernel_rfl) ?_ (Or.inl ⟨?_, ?_⟩) (by assumption) ?_
        rotate_left 2
        · (simp only [List.getElem?_toArray, List.getElem?_cons_zero, List.getElem?_cons_succ]; rfl)
        · exact fun _ _ _ h => h
        · rfl
        · intro w hSw
          (try dsimp only at hSw)
          go_simp
          try with_reducible rfl
        simp only [put_arr, List.set_cons_zero, List.set_cons_succ]
        refine wpAnyH_take (i := 4) (oi := ?_) (v := ?_) ?_ (by kernel_rfl) (by kernel_rfl) (by kernel_rfl) ?_ (Or.inl ⟨?_, ?_⟩) (by assumption) ?_
        rotate_left 2
        · (simp only [List.getElem?_toArray, List.getElem?_cons_zero, List.getElem?_cons_succ]; rfl)
        · exact fun _ _ _ h => h
        · rfl
        · intro w hSw
          (try dsimp only at hSw)
          go_simp
          try with_reducible rfl
        simp only [put_arr, List.set_cons_zero, List.set_cons_succ]
        refine wpAnyH_ready (rs := [5]) (by kernel_rfl) (by simp) ?_
        refine AllReadyH.cons (o := ?_) ?_ (fun K hK => ?_) AllReadyH.nil
        rotate_left
        · (simp only [List.getElem?_toArray, List.getElem?_cons_zero, List.getElem?_cons_succ]; rfl)
        rw [if_pos (by rfl)]
        go_simp
        (with_reducible refine (l04Cost_any _ _ _ _ _ _ _ _ _ _ _ _ _ _ _ _ _ _ _ (BQr.below hHeld.1) (RQr.below hHeld.1) hxk.out kfo.out kq.out).mono ?_)
        rintro e v2 ⟨rfl, hb7⟩
        have HZ7 := Bl.then (w := wr) hHeld.1 hb7
        go_wp2_with fail
        refine hK.out _ _ (old_of HZ7) (fun hHeld2 => ?_)
        clear hK K hHeld
        have hHeld := hHeld2
        clear hHeld2
        refine wpAnyH_take (i := 6) (oi := ?_) (v := ?_) ?_ (by kernel_rfl) (by kernel_rfl) (by kernel_rfl) ?_ (Or.inl ⟨?_, ?_⟩) (by assumption) ?_
        rotate_left 2
        · (simp only [List.getElem?_toArray, List.getElem?_cons_zero, List.getElem?_cons_succ]; rfl)
        · exact fun _ _ _ h => h
        · rfl
        · intro w hSw
          (try dsimp only at hSw)
          go_simp
          try with_reducible rfl
        simp only [put_arr, List.set_cons_zero, List.set_cons_succ]
        refine wpAnyH_done (by kernel_rfl) ?_ _
        clear hHeld
        go_wp2_with fail
        refine wp_region_held_drew (S := (fun wz => Below wr.heap.size wr wz ∧ ∀ b o, b < wr.heap.size → wz.cell? ⟨b, o, none⟩ = wr.cell? ⟨b, o, none⟩)) (by kernel_rfl) (old_of (Below.drew HZ7)) (fun hHeld => ?_)
        refine wpAnyH_take (i := 0) (oi := ?_) (v := ?_) ?_ (by kernel_rfl) (by kernel_rfl) (by kernel_rfl) ?_ (Or.inl ⟨?_, ?_⟩) (by assumption) ?_
        rotate_left 2
        · (simp only [List.getElem?_toArray, List.getElem?_cons_zero]; rfl)
        · exact fun _ _ _ h => h
        · rfl
        · intro w hSw
          (try dsimp only at hSw)
          go_simp
          try with_reducible rfl
        simp only [put_arr, List.set_cons_zero, List.set_cons_succ]
        refine wpAnyH_take (i := 1) (oi := ?_) (v := ?_) ?_ (by kernel_rfl) (by kernel_rfl) (by kernel_rfl) ?_ (Or.inl ⟨?_, ?_⟩) (by assumption) ?_
        rotate_left 2
        · (simp only [List.getElem?_toArray, List.getElem?_cons_zero, List.getElem?_cons_succ]; rfl)
        · exact fun _ _ _ h => h
        · rfl
        · intro w hSw
          (try dsimp only at hSw)
          go_simp
          try with_reducible rfl
        simp only [put_arr, List.set_cons_zero, List.set_cons_succ]
        refine wpAnyH_take (i := 2) (oi := ?_) (v := ?_) ?_ (by kernel_rfl) (by kernel_rfl) (by kernel_rfl) ?_ (Or.inl ⟨?_, ?_⟩) (by assumption) ?_
        rotate_left 2
        · (simp only [List.getElem?_toArray, List.getElem?_cons_zero, List.getElem?_cons_succ]; rfl)
        · exact fun _ _ _ h => h
        · rfl
        · intro w hSw
          (try dsimp only at hSw)
          go_simp
          try with_reducible rfl
        simp only [put_arr, List.set_cons_zero, List.set_cons_succ]
        refine wpAnyH_take (i := 3) (oi := ?_) (v := ?_) ?_ (by kernel_rfl) (by kernel_rfl) (by kernel_rfl) ?_ (Or.inl ⟨?_, ?_⟩) (by assumption) ?_
        rotate_left 2
        · (simp only [List.getElem?_toArray, List.getElem?_cons_zero, List.getElem?_cons_succ]; rfl)
        · exact fun _ _ _ h => h
        · rfl
        · intro w hSw
          (try dsimp only at hSw)
          go_simp
          try with_reducible rfl
        simp only [put_arr, List.set_cons_zero, List.set_cons_succ]
        refine wpAnyH_take (i := 4) (oi := ?_) (v := ?_) ?_ (by kernel_rfl) (by kernel_rfl) (by kernel_rfl) ?_ (Or.inl ⟨?_, ?_⟩) (by assumption) ?_
        rotate_left 2
        · (simp only [List.getElem?_toArray, List.getElem?_cons_zero, List.getElem?_cons_succ]; rfl)
        · exact fun _ _ _ h => h
        · rfl
        · intro w hSw
          (try dsimp only at hSw)
          go_simp
          try with_reducible rfl
        simp only [put_arr, List.set_cons_zero, List.set_cons_succ]
        refine wpAnyH_ready (rs := [5]) (by kernel_rfl) (by simp) ?_
        refine AllReadyH.cons (o := ?_) ?_ (fun K hK => ?_) AllReadyH.nil
        rotate_left
        · (simp only [List.getElem?_toArray, List.getElem?_cons_zero, List.getElem?_cons_succ]; rfl)
        rw [if_pos (by rfl)]
        go_simp
        (with_reducible refine (l04Cost_any _ _ _ _ _ _ _ _ _ _ _ _ _ _ _ _ _ _ _ (BQr.below hHeld.1) (RQr.below hHeld.1) hxk.out kho.out kq.out).mono ?_)
        rintro e v3 ⟨rfl, hb8⟩
        have HZ8 := Bl.then (w := wr) hHeld.1 hb8
        go_wp2_with fail
        refine hK.out _ _ (old_of HZ8) (fun hHeld2 => ?_)
        clear hK K hHeld
        have hHeld := hHeld2
        clear hHeld2
        refine wpAnyH_take (i := 6) (oi := ?_) (v := ?_) ?_ (by kernel_rfl) (by kernel_rfl) (by kernel_rfl) ?_ (Or.inl ⟨?_, ?_⟩) (by assumption) ?_
        rotate_left 2
        · (simp only [List.getElem?_toArray, List.getElem?_cons_zero, List.getElem?_cons_succ]; rfl)
        · exact fun _ _ _ h => h
        · rfl
        · intro w hSw
          (try dsimp only at hSw)
          go_simp
          try with_reducible rfl
        simp only [put_arr, List.set_cons_zero, List.set_cons_succ]
        refine wpAnyH_done (by kernel_rfl) ?_ _
        clear hHeld
        go_wp2_with fail
        go_roundw
        case rel => exact ⟨m + 1, b, l, by omega, by go_num, rfl, rfl, by omega, by omega, by omega, hbn, Bl.then HP HZ8⟩
        case measure => simp [intOf]; omega
    · obtain rfl : m = n := by omega
      have he := hbe.out.end_ (hll.out m)
      have hr1' := hr1.out
      have hr2' := hr2.out
      rw [hxl.out] at hr1' hr2'
      rcases he with ⟨he, h5, h6⟩ | ⟨he, h5, h6⟩
      · rw [h5] at hr1'
        rw [h6] at hr2'
        have u1 := Lib.hid hr1'
        have u2 := Lib.hid hr2'
        clear hr1' hr2' h5 h6
        go_wp2_with fail
        go_ret2
        exact ⟨ret_int2 u1.out u2.out, Bl.then HW HP⟩
      · rw [h5] at hr1'
        rw [h6] at hr2'
        have u1 := Lib.hid hr1'
        have u2 := Lib.hid hr2'
        clear hr1' hr2' h5 h6
        go_wp2_with fail
        go_ret2
        exact ⟨ret_int2 u1.out u2.out, Bl.then HW HP⟩
end Go.Proofs.Ytlbgognkaolamaa
