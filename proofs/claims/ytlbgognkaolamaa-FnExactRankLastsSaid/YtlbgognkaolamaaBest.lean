/-
  The cheapest of the allowed lasts: BestLast and PairLast of the program, PairLast of the reference; names are any strings that Go can hold, slices read as the given lists.
-/
import Derived.Test.YtlbgognkaolamaaAllow
namespace Go.Proofs.Ytlbgognkaolamaa
open Go.RowKit
set_option maxHeartbeats 1600000

/-- The first place of a least number. -/
def bestJ (cs : List Int) : Nat := (firstOf cs.length fun j => (List.range cs.length).all fun k => decide (ix cs j ≤ ix cs k)).getD 0
theorem bestJ_eq {cs : List Int} {j : Nat} (hj : j < cs.length) (h1 : ∀ k, k < cs.length → ix cs j ≤ ix cs k) (h2 : ∀ k, k < j → ix cs j < ix cs k) : bestJ cs = j := by
  unfold bestJ
  rw [firstOf_some (k := j) hj ?_ ?_]
  · rfl
  · rw [List.all_eq_true]
    intro k hk
    exact decide_eq_true (h1 k (List.mem_range.1 hk))
  · intro i hi
    rw [List.all_eq_false]
    exact ⟨j, List.mem_range.2 hj, by have := h2 i hi; simp; omega⟩
def cheV (is cs : List Int) : Int := if is.length = 0 then 0 else ix is (bestJ cs)
def cheC (is : List Int) : Int := if is.length = 0 then 10 else 0
theorem ix_app_lt {xs ys : List Int} {k : Nat} (h : k < xs.length) : ix (xs ++ ys) k = ix xs k := by
  unfold ix; rw [List.getD_eq_getElem?_getD, List.getD_eq_getElem?_getD, List.getElem?_append_left h]
theorem ix_app_last (xs : List Int) (x : Int) : ix (xs ++ [x]) xs.length = x := by
  unfold ix; rw [List.getD_eq_getElem?_getD, List.getElem?_append_right (Nat.le_refl _), Nat.sub_self]; rfl
/-- b is the first of the cheapest, l what it costs. -/
def IsBest (is cs : List Int) (b l : Int) : Prop := (is.length = 0 ∧ b = -1) ∨ ∃ j, j < is.length ∧ b = ix is j ∧ 0 ≤ b ∧ l = ix cs j ∧ (∀ k, k < j → l < ix cs k) ∧ (∀ k, k < cs.length → l ≤ ix cs k)
theorem IsBest.nil : IsBest [] [] (-1) 0 := .inl ⟨rfl, rfl⟩
theorem IsBest.first {is cs : List Int} {b l x v : Int} (h : IsBest is cs b l) (hl : cs.length = is.length) (hx : 0 ≤ x) (hb : b < 0) : IsBest (is ++ [x]) (cs ++ [v]) x v := by
  rcases h with ⟨h, -⟩ | ⟨j, _, _, h0, _⟩
  · obtain rfl : is = [] := List.eq_nil_of_length_eq_zero h
    obtain rfl : cs = [] := List.eq_nil_of_length_eq_zero (hl.trans h)
    refine .inr ⟨0, by simp, rfl, hx, rfl, fun k hk => by omega, fun k hk => ?_⟩
    obtain rfl : k = 0 := by simpa using hk
    exact Int.le_refl _
  · omega
theorem IsBest.less {is cs : List Int} {b l x v : Int} (h : IsBest is cs b l) (hl : cs.length = is.length) (hx : 0 ≤ x) (hb : 0 ≤ b) (hv : v < l) : IsBest (is ++ [x]) (cs ++ [v]) x v := by
  rcases h with ⟨-, h⟩ | ⟨j, j1, j2, j3, j4, j5, j6⟩
  · omega
  · refine .inr ⟨is.length, by simp, (ix_app_last is x).symm, hx, by rw [← hl]; exact (ix_app_last cs v).symm, fun k hk => ?_, fun k hk => ?_⟩
    · rw [ix_app_lt (by omega)]
      have := j6 k (by omega)
      omega
    · by_cases e : k < cs.length
      · rw [ix_app_lt e]; have := j6 k e; omega
      · obtain rfl : k = cs.length := by simp at hk; omega
        rw [ix_app_last]; exact Int.le_refl _
theorem IsBest.more {is cs : List Int} {b l x v : Int} (h : IsBest is cs b l) (hl : cs.length = is.length) (hb : 0 ≤ b) (hv : ¬ v < l) : IsBest (is ++ [x]) (cs ++ [v]) b l := by
  rcases h with ⟨-, h⟩ | ⟨j, j1, j2, j3, j4, j5, j6⟩
  · omega
  · refine .inr ⟨j, by simp; omega, by rw [ix_app_lt j1]; exact j2, j3, by rw [ix_app_lt (by omega)]; exact j4, fun k hk => ?_, fun k hk => ?_⟩
    · rw [ix_app_lt (by omega)]; exact j5 k hk
    · by_cases e : k < cs.length
      · rw [ix_app_lt e]; exact j6 k e
      · obtain rfl : k = cs.length := by simp at hk; omega
        rw [ix_app_last]; omega
theorem IsBest.end_ {is cs : List Int} {b l : Int} (h : IsBest is cs b l) (hl : cs.length = is.length) : (b < 0 ∧ cheV is cs = 0 ∧ cheC is = 10) ∨ (0 ≤ b ∧ cheV is cs = b ∧ cheC is = 0) := by
  rcases h with ⟨h, hb⟩ | ⟨j, j1, j2, j3, j4, j5, j6⟩
  · exact .inl ⟨by omega, by simp [cheV, h], by simp [cheC, h]⟩
  · have e := bestJ_eq (cs := cs) (j := j) (by omega) (fun k hk => by rw [← j4]; exact j6 k hk) (fun k hk => by rw [← j4]; exact j5 k hk)
    have hne : ¬ is.length = 0 := by omega
    exact .inr ⟨j3, by rw [cheV, if_neg hne, e, ← j2], by rw [cheC, if_neg hne]⟩
/-- A least number of a row. -/
def MinOf (cs : List Int) (n : Nat) (e : Ending) : Prop := ∃ m, e = .returned (.int .i64 m) ∧ (∃ j, j < n ∧ ix cs j = m) ∧ ∀ k, k < n → m ≤ ix cs k
theorem Min_any (A : Option Addr) (n c : Nat) (cs : List Int) (w : World) (h : Rd w 1 A n (ints cs)) (hn : 1 ≤ n) (hn2 : n ≤ 1048577) :
    Calls Try.prog 125 #[.slice A n c] w fun e w' => MinOf cs n e ∧ w = w' := by
  obtain ⟨b, off, rfl, hb, h0⟩ := h.int (k := 0) (by omega)
  have h0' : w.cell? ⟨b, off, none⟩ = some (.int .i64 (ix cs 0)) := by simpa using h0
  have hni : (1 : Int) ≤ (n : Int) := by omega
  have hn0 : 0 < n := by omega
  clear h0
  go_enter Try.func125, Try.ntmps125
  go_wp2_with fail
  go_loop [3, 4] (fun m i => ∃ (k : Nat) (v : Int), 1 ≤ k ∧ k ≤ n ∧ i = .int .i64 k ∧ m = .int .i64 v ∧ Hid (∃ j, j < k ∧ ix cs j = v) ∧ Hid (∀ j, j < k → v ≤ ix cs j)) (fun _ i => n - (intOf i).toNat)
  case atStart => exact ⟨1, _, by omega, hn, rfl, rfl, Lib.hid ⟨0, by omega, rfl⟩, Lib.hid fun j hj => (show ix cs 0 ≤ ix cs j by rw [show j = 0 by omega]; exact Int.le_refl _)⟩
  case round =>
    obtain ⟨k, v, hk1, hk, rfl, rfl, hex, hall⟩ := hrel
    by_cases hlt : k < n
    · obtain ⟨b2, off2, heq, hb2, hcell⟩ := h.int (k := k) hlt
      simp only [Option.some.injEq, Addr.mk.injEq, and_true] at heq
      obtain ⟨rfl, rfl⟩ := heq
      by_cases hle : ix cs k < v
      · have e1 := Lib.hid (show ∃ j, j < k + 1 ∧ ix cs j = ix cs k from ⟨k, by omega, rfl⟩)
        have e2 := Lib.hid (show ∀ j, j < k + 1 → ix cs k ≤ ix cs j from fun j hj => by
          by_cases e : j = k
          · subst e; exact Int.le_refl _
          · have := hall.out j (by omega); omega)
        go_wp2_with fail
        go_round
        case rel => exact ⟨k + 1, _, by omega, by omega, by go_num, rfl, e1, e2⟩
        case measure => simp [intOf]; omega
      · have e1 := Lib.hid (show ∃ j, j < k + 1 ∧ ix cs j = v from by obtain ⟨j, j1, j2⟩ := hex.out; exact ⟨j, by omega, j2⟩)
        have e2 := Lib.hid (show ∀ j, j < k + 1 → v ≤ ix cs j from fun j hj => by
          by_cases e : j = k
          · subst e; omega
          · exact hall.out j (by omega))
        go_wp2_with fail
        go_round
        case rel => exact ⟨k + 1, _, by omega, by omega, by go_num, rfl, e1, e2⟩
        case measure => simp [intOf]; omega
    · obtain rfl : k = n := by omega
      go_wp2_with fail
      go_ret
      exact ⟨⟨v, rfl, hex.out, hall.out⟩, rfl⟩
/-- Where a number lies first. -/
def FirstAt (cs : List Int) (v : Int) (n : Nat) (e : Ending) : Prop := ∃ j : Nat, j < n ∧ e = .returned (.int .i64 j) ∧ ix cs j = v ∧ ∀ k, k < j → ix cs k ≠ v
theorem Index_any (A : Option Addr) (n c : Nat) (cs : List Int) (v : Int) (w : World) (h : Rd w 1 A n (ints cs)) (hn2 : n ≤ 1048577) (hv : ∃ j, j < n ∧ ix cs j = v) :
    Calls Try.prog 124 #[.slice A n c, .int .i64 v] w fun e w' => FirstAt cs v n e ∧ w = w' := by
  have hv' := Lib.hid hv
  clear hv
  go_enter Try.func124, Try.ntmps124
  go_wp2_with fail
  go_loop [8] (fun i => ∃ k : Nat, k ≤ n ∧ i = .int .i64 k ∧ Hid (∀ j, j < k → ix cs j ≠ v)) (fun i => n - (intOf i).toNat)
  case atStart => exact ⟨0, by omega, rfl, Lib.hid fun j hj => by omega⟩
  case round =>
    obtain ⟨k, hk, rfl, hno⟩ := hrel
    by_cases hlt : k < n
    · obtain ⟨b2, off2, eA, hb2, hcell⟩ := h.int (k := k) hlt
      subst eA
      by_cases hle : v = ix cs k
      · have hb : (v == ix cs k) = true := by rw [beq_iff_eq]; exact hle
        have e1 := Lib.hid (show ix cs k = v from hle.symm)
        clear hle
        go_wp2_with fail
        go_ret
        exact ⟨⟨k, hlt, rfl, e1.out, hno.out⟩, rfl⟩
      · have hb : (v == ix cs k) = false := by rw [beq_eq_false_iff_ne]; exact hle
        have e2 := Lib.hid (show ∀ j, j < k + 1 → ix cs j ≠ v from fun j hj => by
          by_cases e : j = k
          · subst e; exact fun e9 => hle e9.symm
          · exact hno.out j (by omega))
        clear hle
        go_wp2_with fail
        go_round
        case rel => exact ⟨k + 1, by omega, by go_num, e2⟩
        case measure => simp [intOf]; omega
    · obtain rfl : k = n := by omega
      exfalso
      obtain ⟨j, j1, j2⟩ := hv'.out
      exact hno.out j j1 j2
set_option maxRecDepth 100000 in
theorem cheapest_any (A : Option Addr) (n c : Nat) (xs : List LastD) (q0 q1 q2 : Int) (Af : Option Addr) (nf cf : Nat) (zf : List Int) (A2 : Option Addr) (n2 c2 : Nat) (fs : List FootD) (w : World) (hX : Rd w 6 A n (lasts xs)) (h0 : Rd w 1 Af nf (ints zf)) (hF : Rd w 4 A2 n2 (feet fs))
    (hn : n ≤ 30) (hn2 : n2 ≤ 2) (kx : ∀ k, k < xs.length → lOk (lastsAt xs k) = true) (kf : ∀ k, k < fs.length → fOk (feetAt fs k) = true) (hq : fitOk q0 q1 q2 zf = true) :
    Calls Try.prog 90 #[.slice A n c, .agg #[.int .i64 q0, .int .i64 q1, .int .i64 q2, .slice Af nf cf], .slice A2 n2 c2] w fun e w' => e = .returned (.tuple #[.int .i64 (cheV (accL (alwI q0 q1 q2 xs fs) xs.length) (accL (alwC q0 q1 q2 zf xs fs) xs.length)), .int .i64 (cheC (accL (alwI q0 q1 q2 xs fs) xs.length))]) ∧ Below w.heap.size w w' := by
  have hxl := Lib.hid hX.lasts_length
  have hll := Lib.hid (alwC_len q0 q1 q2 zf xs fs xs.length)
  have hle := Lib.hid (accL_len (alwI_len q0 q1 q2 xs fs) xs.length)
  go_enter Try.func90, Try.ntmps90
  go_wp2_with fail
  refine (allowed_any _ _ _ xs _ _ _ _ _ _ zf _ _ _ fs _ (hX.alloc _) (h0.alloc _) (hF.alloc _) hn hn2 kx kf hq).mono ?_
  rintro e w1 ⟨A5, c5, B5, d5, rfl, o5, p5, H1⟩
  have HW : Below w.heap.size w w1 := Bl.then (by go_grown) H1
  clear kx kf hq H1
  generalize hI0 : accL (alwI q0 q1 q2 xs fs) xs.length = is at *
  generalize hC0 : accL (alwC q0 q1 q2 zf xs fs) xs.length = cs at *
  have hI := Lib.hid hI0
  have hC := Lib.hid hC0
  clear hI0 hC0
  by_cases hz : is.length = 0
  · have hz2 : ((is.length : Int) == 0) = true := by rw [beq_iff_eq]; omega
    have hr1 := Lib.hid (show (0 : Int) = cheV is cs by rw [cheV, if_pos hz])
    have hr2 := Lib.hid (show (10 : Int) = cheC is by rw [cheC, if_pos hz])
    clear hz
    go_wp2_with fail
    go_ret2
    exact ⟨ret_int2 (by rw [hI.out, hC.out]; exact hr1.out) (by rw [hI.out]; exact hr2.out), HW⟩
  · have hz2 : ((is.length : Int) == 0) = false := by rw [beq_eq_false_iff_ne]; omega
    have hr2 := Lib.hid (show (0 : Int) = cheC is by rw [cheC, if_neg hz])
    have hn1 : 1 ≤ is.length := by omega
    have hn30 : is.length ≤ 30 := by have := hle.out; have := hxl.out; omega
    have hcv := Lib.hid (show cheV is cs = ix is (bestJ cs) by rw [cheV, if_neg hz])
    clear hz
    go_wp2_with fail
    refine (Min_any _ _ _ cs _ (Rd.of_own p5) hn1 (by omega)).mono ?_
    rintro e w2 ⟨⟨m, rfl, hex, hall⟩, rfl⟩
    have hex' := Lib.hid hex
    have hall' := Lib.hid hall
    clear hex hall
    go_wp2_with fail
    refine (Index_any _ _ _ cs _ _ (Rd.of_own p5) (by omega) hex'.out).mono ?_
    rintro e w3 ⟨⟨j, hj, rfl, hj1, hj2⟩, rfl⟩
    obtain ⟨b, off, eA, hb, hcell⟩ := (Rd.of_own o5).int (k := j) hj
    subst eA
    have hbj := Lib.hid (show ix is j = cheV is cs by
      rw [hcv.out, bestJ_eq (cs := cs) (j := j) (by rw [hll.out]; exact hj) (fun k hk => by rw [hj1]; exact hall'.out k (by rw [hll.out] at hk; exact hk)) (fun k hk => by
        have h1 := hall'.out k (by omega)
        have h2 := hj2 k hk
        rw [hj1]; omega)])
    clear hj1 hj2
    go_wp2_with fail
    go_ret2
    exact ⟨ret_int2 (by rw [hI.out, hC.out]; exact hbj.out) (by rw [hI.out]; exact hr2.out), HW⟩
noncomputable def beV (q0 q1 q2 : Int) (zf : List Int) (xs : List LastD) (f : FootD) : Int := if lsOk q0 q1 q2 zf xs f = true then cheV (accL (alwI q0 q1 q2 xs [f]) xs.length) (accL (alwC q0 q1 q2 zf xs [f]) xs.length) else 0
noncomputable def beC (q0 q1 q2 : Int) (zf : List Int) (xs : List LastD) (f : FootD) : Int := if lsOk q0 q1 q2 zf xs f = true then cheC (accL (alwI q0 q1 q2 xs [f]) xs.length) else 1
noncomputable def prOk (q0 q1 q2 : Int) (zf : List Int) (xs : List LastD) (f h : FootD) : Bool := lsOk q0 q1 q2 zf xs f && fOk h
noncomputable def prV (q0 q1 q2 : Int) (zf : List Int) (xs : List LastD) (f h : FootD) : Int := if prOk q0 q1 q2 zf xs f h = true then cheV (accL (alwI q0 q1 q2 xs [f, h]) xs.length) (accL (alwC q0 q1 q2 zf xs [f, h]) xs.length) else 0
noncomputable def prC (q0 q1 q2 : Int) (zf : List Int) (xs : List LastD) (f h : FootD) : Int := if prOk q0 q1 q2 zf xs f h = true then cheC (accL (alwI q0 q1 q2 xs [f, h]) xs.length) else 1
theorem rd_feet2 {w : World} {g : Nat} {f h : FootD} (hb : Blk w g 25 #[.int .i64 f.l, .int .i64 f.b, .int .i64 f.i, .int .i64 f.h, .int .i64 h.l, .int .i64 h.b, .int .i64 h.i, .int .i64 h.h]) : Rd w 4 (some ⟨g, 0, none⟩) 2 (feet [f, h]) := by
  refine ⟨by simp [feet, FootD.cells], fun _ => ⟨g, 0, rfl, hb.lt, fun j u hu => ?_⟩⟩
  rw [Nat.zero_add, hb.cell j]
  simpa [feet, FootD.cells] using hu
theorem feet_two {f h : FootD} (h1 : fOk f = true) (h2 : fOk h = true) : ∀ k, k < [f, h].length → fOk (feetAt [f, h] k) = true := fun k hk => by
  match k, hk with
  | 0, _ => exact h1
  | 1, _ => exact h2
theorem two_feet {q0 q1 q2 : Int} {x : LastD} {f h : FootD} : allM q0 q1 q2 x [f, h] [f, h].length = (mX q0 q1 q2 x f && mX q0 q1 q2 x h) := by simp [allM, feetAt]
theorem two_sum {q0 : Int} {zf : List Int} {x : LastD} {f h : FootD} : sumC q0 zf x [f, h] [f, h].length = cX q0 zf x f + cX q0 zf x h := by simp [sumC, feetAt]
set_option maxRecDepth 100000 in
theorem BestLast_any (A : Option Addr) (n c : Nat) (xs : List LastD) (f : FootD) (q0 q1 q2 : Int) (Af : Option Addr) (nf cf : Nat) (zf : List Int) (w : World) (hX : Rd w 6 A n (lasts xs)) (hn : n ≤ 1048576) (hx : ∀ x ∈ xs, x.s.size ≤ maxLen) (h0 : Rd w 1 Af nf (ints zf)) (hnf : nf ≤ 1048576) :
    Calls Try.prog 48 #[.slice A n c, .agg #[.int .i64 f.l, .int .i64 f.b, .int .i64 f.i, .int .i64 f.h], .agg #[.int .i64 q0, .int .i64 q1, .int .i64 q2, .slice Af nf cf]] w fun e w' => e = .returned (.tuple #[.int .i64 (beV q0 q1 q2 zf xs f), .int .i64 (beC q0 q1 q2 zf xs f)]) ∧ Below w.heap.size w w' := by
  have hxl := Lib.hid hX.lasts_length
  have hfo : footOk f.l f.b f.i f.h = fOk f := rfl
  cases k1 : lastsOk xs
  · have hr1 := Lib.hid (show (0 : Int) = beV q0 q1 q2 zf xs f by rw [beV, if_neg (by simp [lsOk, k1])])
    have hr2 := Lib.hid (show (1 : Int) = beC q0 q1 q2 zf xs f by rw [beC, if_neg (by simp [lsOk, k1])])
    clear hfo
    go_enter Try.func48, Try.ntmps48
    go_wp2_with fail
    refine (ValidLasts_any _ _ _ _ _ ((hX.alloc _).alloc _) (by omega) hx).mono ?_
    rintro e w1 ⟨rfl, H1⟩
    have BF := ((Blk.new w 25 #[.int .i64 f.l, .int .i64 f.b, .int .i64 f.i, .int .i64 f.h]).alloc (.cells #[.int .i64 q0, .int .i64 q1, .int .i64 q2, .slice Af nf cf] 53)).below H1
    have BQ := (Blk.new1 w _ 53 #[.int .i64 q0, .int .i64 q1, .int .i64 q2, .slice Af nf cf]).below H1
    have HW : Below w.heap.size w w1 := Bl.then (by go_grown) H1
    clear H1
    have cF0 : w1.cell? ⟨w.heap.size, 0, none⟩ = some (.int .i64 f.l) := BF.cell 0
    have cF1 : w1.cell? ⟨w.heap.size, 1, none⟩ = some (.int .i64 f.b) := BF.cell 1
    have cF2 : w1.cell? ⟨w.heap.size, 2, none⟩ = some (.int .i64 f.i) := BF.cell 2
    have cF3 : w1.cell? ⟨w.heap.size, 3, none⟩ = some (.int .i64 f.h) := BF.cell 3
    have lF := BF.lt
    have cQ0 : w1.cell? ⟨w.heap.size + 1, 0, none⟩ = some (.int .i64 q0) := BQ.cell 0
    have cQ1 : w1.cell? ⟨w.heap.size + 1, 1, none⟩ = some (.int .i64 q1) := BQ.cell 1
    have cQ2 : w1.cell? ⟨w.heap.size + 1, 2, none⟩ = some (.int .i64 q2) := BQ.cell 2
    have cQ3 : w1.cell? ⟨w.heap.size + 1, 3, none⟩ = some (.slice Af nf cf) := BQ.cell 3
    have lQ := BQ.lt
    go_wp2_with fail
    go_ret2
    exact ⟨ret_int2 hr1.out hr2.out, HW⟩
  cases k2 : footOk f.l f.b f.i f.h
  · have hr1 := Lib.hid (show (0 : Int) = beV q0 q1 q2 zf xs f by rw [beV, if_neg (by simp [lsOk, ← hfo, k2])])
    have hr2 := Lib.hid (show (1 : Int) = beC q0 q1 q2 zf xs f by rw [beC, if_neg (by simp [lsOk, ← hfo, k2])])
    clear hfo
    go_enter Try.func48, Try.ntmps48
    go_wp2_with fail
    refine (ValidLasts_any _ _ _ _ _ ((hX.alloc _).alloc _) (by omega) hx).mono ?_
    rintro e w1 ⟨rfl, H1⟩
    have BF := ((Blk.new w 25 #[.int .i64 f.l, .int .i64 f.b, .int .i64 f.i, .int .i64 f.h]).alloc (.cells #[.int .i64 q0, .int .i64 q1, .int .i64 q2, .slice Af nf cf] 53)).below H1
    have BQ := (Blk.new1 w _ 53 #[.int .i64 q0, .int .i64 q1, .int .i64 q2, .slice Af nf cf]).below H1
    have HW : Below w.heap.size w w1 := Bl.then (by go_grown) H1
    clear H1
    have cF0 : w1.cell? ⟨w.heap.size, 0, none⟩ = some (.int .i64 f.l) := BF.cell 0
    have cF1 : w1.cell? ⟨w.heap.size, 1, none⟩ = some (.int .i64 f.b) := BF.cell 1
    have cF2 : w1.cell? ⟨w.heap.size, 2, none⟩ = some (.int .i64 f.i) := BF.cell 2
    have cF3 : w1.cell? ⟨w.heap.size, 3, none⟩ = some (.int .i64 f.h) := BF.cell 3
    have lF := BF.lt
    have cQ0 : w1.cell? ⟨w.heap.size + 1, 0, none⟩ = some (.int .i64 q0) := BQ.cell 0
    have cQ1 : w1.cell? ⟨w.heap.size + 1, 1, none⟩ = some (.int .i64 q1) := BQ.cell 1
    have cQ2 : w1.cell? ⟨w.heap.size + 1, 2, none⟩ = some (.int .i64 q2) := BQ.cell 2
    have cQ3 : w1.cell? ⟨w.heap.size + 1, 3, none⟩ = some (.slice Af nf cf) := BQ.cell 3
    have lQ := BQ.lt
    go_wp2_with fail
    refine (ValidFoot_any _ _ _ _ _).mono ?_
    rintro e w2 ⟨rfl, hb2⟩
    clear cF0 cF1 cF2 cF3 lF cQ0 cQ1 cQ2 cQ3 lQ
    replace BF := BF.below hb2
    replace BQ := BQ.below hb2
    replace HW := Bl.then HW hb2
    have cF0 : w2.cell? ⟨w.heap.size, 0, none⟩ = some (.int .i64 f.l) := BF.cell 0
    have cF1 : w2.cell? ⟨w.heap.size, 1, none⟩ = some (.int .i64 f.b) := BF.cell 1
    have cF2 : w2.cell? ⟨w.heap.size, 2, none⟩ = some (.int .i64 f.i) := BF.cell 2
    have cF3 : w2.cell? ⟨w.heap.size, 3, none⟩ = some (.int .i64 f.h) := BF.cell 3
    have lF := BF.lt
    have cQ0 : w2.cell? ⟨w.heap.size + 1, 0, none⟩ = some (.int .i64 q0) := BQ.cell 0
    have cQ1 : w2.cell? ⟨w.heap.size + 1, 1, none⟩ = some (.int .i64 q1) := BQ.cell 1
    have cQ2 : w2.cell? ⟨w.heap.size + 1, 2, none⟩ = some (.int .i64 q2) := BQ.cell 2
    have cQ3 : w2.cell? ⟨w.heap.size + 1, 3, none⟩ = some (.slice Af nf cf) := BQ.cell 3
    have lQ := BQ.lt
    go_wp2_with fail
    go_ret2
    exact ⟨ret_int2 hr1.out hr2.out, HW⟩
  cases k3 : fitOk q0 q1 q2 zf
  · have hr1 := Lib.hid (show (0 : Int) = beV q0 q1 q2 zf xs f by rw [beV, if_neg (by simp [lsOk, k3])])
    have hr2 := Lib.hid (show (1 : Int) = beC q0 q1 q2 zf xs f by rw [beC, if_neg (by simp [lsOk, k3])])
    clear hfo
    go_enter Try.func48, Try.ntmps48
    go_wp2_with fail
    refine (ValidLasts_any _ _ _ _ _ ((hX.alloc _).alloc _) (by omega) hx).mono ?_
    rintro e w1 ⟨rfl, H1⟩
    have BF := ((Blk.new w 25 #[.int .i64 f.l, .int .i64 f.b, .int .i64 f.i, .int .i64 f.h]).alloc (.cells #[.int .i64 q0, .int .i64 q1, .int .i64 q2, .slice Af nf cf] 53)).below H1
    have BQ := (Blk.new1 w _ 53 #[.int .i64 q0, .int .i64 q1, .int .i64 q2, .slice Af nf cf]).below H1
    have HW : Below w.heap.size w w1 := Bl.then (by go_grown) H1
    clear H1
    have cF0 : w1.cell? ⟨w.heap.size, 0, none⟩ = some (.int .i64 f.l) := BF.cell 0
    have cF1 : w1.cell? ⟨w.heap.size, 1, none⟩ = some (.int .i64 f.b) := BF.cell 1
    have cF2 : w1.cell? ⟨w.heap.size, 2, none⟩ = some (.int .i64 f.i) := BF.cell 2
    have cF3 : w1.cell? ⟨w.heap.size, 3, none⟩ = some (.int .i64 f.h) := BF.cell 3
    have lF := BF.lt
    have cQ0 : w1.cell? ⟨w.heap.size + 1, 0, none⟩ = some (.int .i64 q0) := BQ.cell 0
    have cQ1 : w1.cell? ⟨w.heap.size + 1, 1, none⟩ = some (.int .i64 q1) := BQ.cell 1
    have cQ2 : w1.cell? ⟨w.heap.size + 1, 2, none⟩ = some (.int .i64 q2) := BQ.cell 2
    have cQ3 : w1.cell? ⟨w.heap.size + 1, 3, none⟩ = some (.slice Af nf cf) := BQ.cell 3
    have lQ := BQ.lt
    go_wp2_with fail
    refine (ValidFoot_any _ _ _ _ _).mono ?_
    rintro e w2 ⟨rfl, hb2⟩
    clear cF0 cF1 cF2 cF3 lF cQ0 cQ1 cQ2 cQ3 lQ
    replace BF := BF.below hb2
    replace BQ := BQ.below hb2
    replace HW := Bl.then HW hb2
    have cF0 : w2.cell? ⟨w.heap.size, 0, none⟩ = some (.int .i64 f.l) := BF.cell 0
    have cF1 : w2.cell? ⟨w.heap.size, 1, none⟩ = some (.int .i64 f.b) := BF.cell 1
    have cF2 : w2.cell? ⟨w.heap.size, 2, none⟩ = some (.int .i64 f.i) := BF.cell 2
    have cF3 : w2.cell? ⟨w.heap.size, 3, none⟩ = some (.int .i64 f.h) := BF.cell 3
    have lF := BF.lt
    have cQ0 : w2.cell? ⟨w.heap.size + 1, 0, none⟩ = some (.int .i64 q0) := BQ.cell 0
    have cQ1 : w2.cell? ⟨w.heap.size + 1, 1, none⟩ = some (.int .i64 q1) := BQ.cell 1
    have cQ2 : w2.cell? ⟨w.heap.size + 1, 2, none⟩ = some (.int .i64 q2) := BQ.cell 2
    have cQ3 : w2.cell? ⟨w.heap.size + 1, 3, none⟩ = some (.slice Af nf cf) := BQ.cell 3
    have lQ := BQ.lt
    go_wp2_with fail
    refine (ValidFit_any _ _ _ _ _ _ _ _ (h0.below HW) hnf).mono ?_
    rintro e w3 ⟨rfl, hb3⟩
    clear cF0 cF1 cF2 cF3 lF cQ0 cQ1 cQ2 cQ3 lQ
    replace BF := BF.below hb3
    replace BQ := BQ.below hb3
    replace HW := Bl.then HW hb3
    have cF0 : w3.cell? ⟨w.heap.size, 0, none⟩ = some (.int .i64 f.l) := BF.cell 0
    have cF1 : w3.cell? ⟨w.heap.size, 1, none⟩ = some (.int .i64 f.b) := BF.cell 1
    have cF2 : w3.cell? ⟨w.heap.size, 2, none⟩ = some (.int .i64 f.i) := BF.cell 2
    have cF3 : w3.cell? ⟨w.heap.size, 3, none⟩ = some (.int .i64 f.h) := BF.cell 3
    have lF := BF.lt
    have cQ0 : w3.cell? ⟨w.heap.size + 1, 0, none⟩ = some (.int .i64 q0) := BQ.cell 0
    have cQ1 : w3.cell? ⟨w.heap.size + 1, 1, none⟩ = some (.int .i64 q1) := BQ.cell 1
    have cQ2 : w3.cell? ⟨w.heap.size + 1, 2, none⟩ = some (.int .i64 q2) := BQ.cell 2
    have cQ3 : w3.cell? ⟨w.heap.size + 1, 3, none⟩ = some (.slice Af nf cf) := BQ.cell 3
    have lQ := BQ.lt
    go_wp2_with fail
    go_ret2
    exact ⟨ret_int2 hr1.out hr2.out, HW⟩
  have hok : lsOk q0 q1 q2 zf xs f = true := by simp [lsOk, k1, ← hfo, k2, k3]
  have hr1 := Lib.hid (show cheV (accL (alwI q0 q1 q2 xs [f]) xs.length) (accL (alwC q0 q1 q2 zf xs [f]) xs.length) = beV q0 q1 q2 zf xs f by rw [beV, if_pos hok])
  have hr2 := Lib.hid (show cheC (accL (alwI q0 q1 q2 xs [f]) xs.length) = beC q0 q1 q2 zf xs f by rw [beC, if_pos hok])
  have k9 := Lib.hid (lastsOk_bd k1)
  have kx := Lib.hid (fun (k : Nat) (hk : k < xs.length) => lOk_bd k1 hk)
  have kf := Lib.hid (feet_one (show fOk f = true from k2))
  have k3' := Lib.hid k3
  clear hfo hok
  go_enter Try.func48, Try.ntmps48
  go_wp2_with fail
  refine (ValidLasts_any _ _ _ _ _ ((hX.alloc _).alloc _) (by omega) hx).mono ?_
  rintro e w1 ⟨rfl, H1⟩
  have BF := ((Blk.new w 25 #[.int .i64 f.l, .int .i64 f.b, .int .i64 f.i, .int .i64 f.h]).alloc (.cells #[.int .i64 q0, .int .i64 q1, .int .i64 q2, .slice Af nf cf] 53)).below H1
  have BQ := (Blk.new1 w _ 53 #[.int .i64 q0, .int .i64 q1, .int .i64 q2, .slice Af nf cf]).below H1
  have HW : Below w.heap.size w w1 := Bl.then (by go_grown) H1
  clear H1
  have cF0 : w1.cell? ⟨w.heap.size, 0, none⟩ = some (.int .i64 f.l) := BF.cell 0
  have cF1 : w1.cell? ⟨w.heap.size, 1, none⟩ = some (.int .i64 f.b) := BF.cell 1
  have cF2 : w1.cell? ⟨w.heap.size, 2, none⟩ = some (.int .i64 f.i) := BF.cell 2
  have cF3 : w1.cell? ⟨w.heap.size, 3, none⟩ = some (.int .i64 f.h) := BF.cell 3
  have lF := BF.lt
  have cQ0 : w1.cell? ⟨w.heap.size + 1, 0, none⟩ = some (.int .i64 q0) := BQ.cell 0
  have cQ1 : w1.cell? ⟨w.heap.size + 1, 1, none⟩ = some (.int .i64 q1) := BQ.cell 1
  have cQ2 : w1.cell? ⟨w.heap.size + 1, 2, none⟩ = some (.int .i64 q2) := BQ.cell 2
  have cQ3 : w1.cell? ⟨w.heap.size + 1, 3, none⟩ = some (.slice Af nf cf) := BQ.cell 3
  have lQ := BQ.lt
  go_wp2_with fail
  refine (ValidFoot_any _ _ _ _ _).mono ?_
  rintro e w2 ⟨rfl, hb2⟩
  clear cF0 cF1 cF2 cF3 lF cQ0 cQ1 cQ2 cQ3 lQ
  replace BF := BF.below hb2
  replace BQ := BQ.below hb2
  replace HW := Bl.then HW hb2
  have cF0 : w2.cell? ⟨w.heap.size, 0, none⟩ = some (.int .i64 f.l) := BF.cell 0
  have cF1 : w2.cell? ⟨w.heap.size, 1, none⟩ = some (.int .i64 f.b) := BF.cell 1
  have cF2 : w2.cell? ⟨w.heap.size, 2, none⟩ = some (.int .i64 f.i) := BF.cell 2
  have cF3 : w2.cell? ⟨w.heap.size, 3, none⟩ = some (.int .i64 f.h) := BF.cell 3
  have lF := BF.lt
  have cQ0 : w2.cell? ⟨w.heap.size + 1, 0, none⟩ = some (.int .i64 q0) := BQ.cell 0
  have cQ1 : w2.cell? ⟨w.heap.size + 1, 1, none⟩ = some (.int .i64 q1) := BQ.cell 1
  have cQ2 : w2.cell? ⟨w.heap.size + 1, 2, none⟩ = some (.int .i64 q2) := BQ.cell 2
  have cQ3 : w2.cell? ⟨w.heap.size + 1, 3, none⟩ = some (.slice Af nf cf) := BQ.cell 3
  have lQ := BQ.lt
  go_wp2_with fail
  refine (ValidFit_any _ _ _ _ _ _ _ _ (h0.below HW) hnf).mono ?_
  rintro e w3 ⟨rfl, hb3⟩
  clear cF0 cF1 cF2 cF3 lF cQ0 cQ1 cQ2 cQ3 lQ
  replace BF := BF.below hb3
  replace BQ := BQ.below hb3
  replace HW := Bl.then HW hb3
  have cF0 : w3.cell? ⟨w.heap.size, 0, none⟩ = some (.int .i64 f.l) := BF.cell 0
  have cF1 : w3.cell? ⟨w.heap.size, 1, none⟩ = some (.int .i64 f.b) := BF.cell 1
  have cF2 : w3.cell? ⟨w.heap.size, 2, none⟩ = some (.int .i64 f.i) := BF.cell 2
  have cF3 : w3.cell? ⟨w.heap.size, 3, none⟩ = some (.int .i64 f.h) := BF.cell 3
  have lF := BF.lt
  have cQ0 : w3.cell? ⟨w.heap.size + 1, 0, none⟩ = some (.int .i64 q0) := BQ.cell 0
  have cQ1 : w3.cell? ⟨w.heap.size + 1, 1, none⟩ = some (.int .i64 q1) := BQ.cell 1
  have cQ2 : w3.cell? ⟨w.heap.size + 1, 2, none⟩ = some (.int .i64 q2) := BQ.cell 2
  have cQ3 : w3.cell? ⟨w.heap.size + 1, 3, none⟩ = some (.slice Af nf cf) := BQ.cell 3
  have lQ := BQ.lt
  go_wp2_with fail
  clear cF0 cF1 cF2 cF3 lF cQ0 cQ1 cQ2 cQ3 lQ
  replace BF := BF.alloc (.cells #[.int .i64 f.l, .int .i64 f.b, .int .i64 f.i, .int .i64 f.h] 25)
  replace BQ := BQ.alloc (.cells #[.int .i64 f.l, .int .i64 f.b, .int .i64 f.i, .int .i64 f.h] 25)
  have BL := Blk.new w3 25 #[.int .i64 f.l, .int .i64 f.b, .int .i64 f.i, .int .i64 f.h]
  replace HW := Bl.alloc HW (.cells #[.int .i64 f.l, .int .i64 f.b, .int .i64 f.i, .int .i64 f.h] 25)
  refine (cheapest_any _ _ _ xs _ _ _ _ _ _ zf _ _ _ [f] _ (hX.below HW) (h0.below HW) (rd_foot BL) (by have := k9.out.1; rw [hxl.out] at this; exact this) (by decide) kx.out kf.out k3'.out).mono ?_
  rintro e w8 ⟨rfl, hb8⟩
  replace BF := BF.below hb8
  replace BQ := BQ.below hb8
  replace BL := BL.below hb8
  replace HW := Bl.then HW hb8
  have cF0 : w8.cell? ⟨w.heap.size, 0, none⟩ = some (.int .i64 f.l) := BF.cell 0
  have cF1 : w8.cell? ⟨w.heap.size, 1, none⟩ = some (.int .i64 f.b) := BF.cell 1
  have cF2 : w8.cell? ⟨w.heap.size, 2, none⟩ = some (.int .i64 f.i) := BF.cell 2
  have cF3 : w8.cell? ⟨w.heap.size, 3, none⟩ = some (.int .i64 f.h) := BF.cell 3
  have lF := BF.lt
  have cQ0 : w8.cell? ⟨w.heap.size + 1, 0, none⟩ = some (.int .i64 q0) := BQ.cell 0
  have cQ1 : w8.cell? ⟨w.heap.size + 1, 1, none⟩ = some (.int .i64 q1) := BQ.cell 1
  have cQ2 : w8.cell? ⟨w.heap.size + 1, 2, none⟩ = some (.int .i64 q2) := BQ.cell 2
  have cQ3 : w8.cell? ⟨w.heap.size + 1, 3, none⟩ = some (.slice Af nf cf) := BQ.cell 3
  have lQ := BQ.lt
  have cL0 : w8.cell? ⟨w3.heap.size, 0, none⟩ = some (.int .i64 f.l) := BL.cell 0
  have cL1 : w8.cell? ⟨w3.heap.size, 1, none⟩ = some (.int .i64 f.b) := BL.cell 1
  have cL2 : w8.cell? ⟨w3.heap.size, 2, none⟩ = some (.int .i64 f.i) := BL.cell 2
  have cL3 : w8.cell? ⟨w3.heap.size, 3, none⟩ = some (.int .i64 f.h) := BL.cell 3
  have lL := BL.lt
  go_wp2_with fail
  go_ret2
  exact ⟨ret_int2 hr1.out hr2.out, HW⟩
set_option maxRecDepth 100000 in
theorem PairLast_any (A : Option Addr) (n c : Nat) (xs : List LastD) (f h : FootD) (q0 q1 q2 : Int) (Af : Option Addr) (nf cf : Nat) (zf : List Int) (w : World) (hX : Rd w 6 A n (lasts xs)) (hn : n ≤ 1048576) (hx : ∀ x ∈ xs, x.s.size ≤ maxLen) (h0 : Rd w 1 Af nf (ints zf)) (hnf : nf ≤ 1048576) :
    Calls Try.prog 50 #[.slice A n c, .agg #[.int .i64 f.l, .int .i64 f.b, .int .i64 f.i, .int .i64 f.h], .agg #[.int .i64 h.l, .int .i64 h.b, .int .i64 h.i, .int .i64 h.h], .agg #[.int .i64 q0, .int .i64 q1, .int .i64 q2, .slice Af nf cf]] w fun e w' => e = .returned (.tuple #[.int .i64 (prV q0 q1 q2 zf xs f h), .int .i64 (prC q0 q1 q2 zf xs f h)]) ∧ Below w.heap.size w w' := by
  have hxl := Lib.hid hX.lasts_length
  have hfo : footOk f.l f.b f.i f.h = fOk f := rfl
  have hho : footOk h.l h.b h.i h.h = fOk h := rfl
  cases k1 : lastsOk xs
  · have hr1 := Lib.hid (show (0 : Int) = prV q0 q1 q2 zf xs f h by rw [prV, if_neg (by simp [prOk, lsOk, k1])])
    have hr2 := Lib.hid (show (1 : Int) = prC q0 q1 q2 zf xs f h by rw [prC, if_neg (by simp [prOk, lsOk, k1])])
    clear hfo hho
    go_enter Try.func50, Try.ntmps50
    go_wp2_with fail
    refine (ValidLasts_any _ _ _ _ _ (((hX.alloc _).alloc _).alloc _) (by omega) hx).mono ?_
    rintro e w1 ⟨rfl, H1⟩
    have BF := (((Blk.new w 25 #[.int .i64 f.l, .int .i64 f.b, .int .i64 f.i, .int .i64 f.h]).alloc (.cells #[.int .i64 h.l, .int .i64 h.b, .int .i64 h.i, .int .i64 h.h] 25)).alloc (.cells #[.int .i64 q0, .int .i64 q1, .int .i64 q2, .slice Af nf cf] 53)).below H1
    have BG := ((Blk.new1 w _ 25 #[.int .i64 h.l, .int .i64 h.b, .int .i64 h.i, .int .i64 h.h]).alloc (.cells #[.int .i64 q0, .int .i64 q1, .int .i64 q2, .slice Af nf cf] 53)).below H1
    have BQ := (Blk.new2 w _ _ 53 #[.int .i64 q0, .int .i64 q1, .int .i64 q2, .slice Af nf cf]).below H1
    have HW : Below w.heap.size w w1 := Bl.then (by go_grown) H1
    clear H1
    have cF0 : w1.cell? ⟨w.heap.size, 0, none⟩ = some (.int .i64 f.l) := BF.cell 0
    have cF1 : w1.cell? ⟨w.heap.size, 1, none⟩ = some (.int .i64 f.b) := BF.cell 1
    have cF2 : w1.cell? ⟨w.heap.size, 2, none⟩ = some (.int .i64 f.i) := BF.cell 2
    have cF3 : w1.cell? ⟨w.heap.size, 3, none⟩ = some (.int .i64 f.h) := BF.cell 3
    have lF := BF.lt
    have cG0 : w1.cell? ⟨w.heap.size + 1, 0, none⟩ = some (.int .i64 h.l) := BG.cell 0
    have cG1 : w1.cell? ⟨w.heap.size + 1, 1, none⟩ = some (.int .i64 h.b) := BG.cell 1
    have cG2 : w1.cell? ⟨w.heap.size + 1, 2, none⟩ = some (.int .i64 h.i) := BG.cell 2
    have cG3 : w1.cell? ⟨w.heap.size + 1, 3, none⟩ = some (.int .i64 h.h) := BG.cell 3
    have lG := BG.lt
    have cQ0 : w1.cell? ⟨w.heap.size + 1 + 1, 0, none⟩ = some (.int .i64 q0) := BQ.cell 0
    have cQ1 : w1.cell? ⟨w.heap.size + 1 + 1, 1, none⟩ = some (.int .i64 q1) := BQ.cell 1
    have cQ2 : w1.cell? ⟨w.heap.size + 1 + 1, 2, none⟩ = some (.int .i64 q2) := BQ.cell 2
    have cQ3 : w1.cell? ⟨w.heap.size + 1 + 1, 3, none⟩ = some (.slice Af nf cf) := BQ.cell 3
    have lQ := BQ.lt
    go_wp2_with fail
    go_ret2
    exact ⟨ret_int2 hr1.out hr2.out, HW⟩
  cases k2 : footOk f.l f.b f.i f.h
  · have hr1 := Lib.hid (show (0 : Int) = prV q0 q1 q2 zf xs f h by rw [prV, if_neg (by simp [prOk, lsOk, ← hfo, k2])])
    have hr2 := Lib.hid (show (1 : Int) = prC q0 q1 q2 zf xs f h by rw [prC, if_neg (by simp [prOk, lsOk, ← hfo, k2])])
    clear hfo hho
    go_enter Try.func50, Try.ntmps50
    go_wp2_with fail
    refine (ValidLasts_any _ _ _ _ _ (((hX.alloc _).alloc _).alloc _) (by omega) hx).mono ?_
    rintro e w1 ⟨rfl, H1⟩
    have BF := (((Blk.new w 25 #[.int .i64 f.l, .int .i64 f.b, .int .i64 f.i, .int .i64 f.h]).alloc (.cells #[.int .i64 h.l, .int .i64 h.b, .int .i64 h.i, .int .i64 h.h] 25)).alloc (.cells #[.int .i64 q0, .int .i64 q1, .int .i64 q2, .slice Af nf cf] 53)).below H1
    have BG := ((Blk.new1 w _ 25 #[.int .i64 h.l, .int .i64 h.b, .int .i64 h.i, .int .i64 h.h]).alloc (.cells #[.int .i64 q0, .int .i64 q1, .int .i64 q2, .slice Af nf cf] 53)).below H1
    have BQ := (Blk.new2 w _ _ 53 #[.int .i64 q0, .int .i64 q1, .int .i64 q2, .slice Af nf cf]).below H1
    have HW : Below w.heap.size w w1 := Bl.then (by go_grown) H1
    clear H1
    have cF0 : w1.cell? ⟨w.heap.size, 0, none⟩ = some (.int .i64 f.l) := BF.cell 0
    have cF1 : w1.cell? ⟨w.heap.size, 1, none⟩ = some (.int .i64 f.b) := BF.cell 1
    have cF2 : w1.cell? ⟨w.heap.size, 2, none⟩ = some (.int .i64 f.i) := BF.cell 2
    have cF3 : w1.cell? ⟨w.heap.size, 3, none⟩ = some (.int .i64 f.h) := BF.cell 3
    have lF := BF.lt
    have cG0 : w1.cell? ⟨w.heap.size + 1, 0, none⟩ = some (.int .i64 h.l) := BG.cell 0
    have cG1 : w1.cell? ⟨w.heap.size + 1, 1, none⟩ = some (.int .i64 h.b) := BG.cell 1
    have cG2 : w1.cell? ⟨w.heap.size + 1, 2, none⟩ = some (.int .i64 h.i) := BG.cell 2
    have cG3 : w1.cell? ⟨w.heap.size + 1, 3, none⟩ = some (.int .i64 h.h) := BG.cell 3
    have lG := BG.lt
    have cQ0 : w1.cell? ⟨w.heap.size + 1 + 1, 0, none⟩ = some (.int .i64 q0) := BQ.cell 0
    have cQ1 : w1.cell? ⟨w.heap.size + 1 + 1, 1, none⟩ = some (.int .i64 q1) := BQ.cell 1
    have cQ2 : w1.cell? ⟨w.heap.size + 1 + 1, 2, none⟩ = some (.int .i64 q2) := BQ.cell 2
    have cQ3 : w1.cell? ⟨w.heap.size + 1 + 1, 3, none⟩ = some (.slice Af nf cf) := BQ.cell 3
    have lQ := BQ.lt
    go_wp2_with fail
    refine (ValidFoot_any _ _ _ _ _).mono ?_
    rintro e w2 ⟨rfl, hb2⟩
    clear cF0 cF1 cF2 cF3 lF cG0 cG1 cG2 cG3 lG cQ0 cQ1 cQ2 cQ3 lQ
    replace BF := BF.below hb2
    replace BG := BG.below hb2
    replace BQ := BQ.below hb2
    replace HW := Bl.then HW hb2
    have cF0 : w2.cell? ⟨w.heap.size, 0, none⟩ = some (.int .i64 f.l) := BF.cell 0
    have cF1 : w2.cell? ⟨w.heap.size, 1, none⟩ = some (.int .i64 f.b) := BF.cell 1
    have cF2 : w2.cell? ⟨w.heap.size, 2, none⟩ = some (.int .i64 f.i) := BF.cell 2
    have cF3 : w2.cell? ⟨w.heap.size, 3, none⟩ = some (.int .i64 f.h) := BF.cell 3
    have lF := BF.lt
    have cG0 : w2.cell? ⟨w.heap.size + 1, 0, none⟩ = some (.int .i64 h.l) := BG.cell 0
    have cG1 : w2.cell? ⟨w.heap.size + 1, 1, none⟩ = some (.int .i64 h.b) := BG.cell 1
    have cG2 : w2.cell? ⟨w.heap.size + 1, 2, none⟩ = some (.int .i64 h.i) := BG.cell 2
    have cG3 : w2.cell? ⟨w.heap.size + 1, 3, none⟩ = some (.int .i64 h.h) := BG.cell 3
    have lG := BG.lt
    have cQ0 : w2.cell? ⟨w.heap.size + 1 + 1, 0, none⟩ = some (.int .i64 q0) := BQ.cell 0
    have cQ1 : w2.cell? ⟨w.heap.size + 1 + 1, 1, none⟩ = some (.int .i64 q1) := BQ.cell 1
    have cQ2 : w2.cell? ⟨w.heap.size + 1 + 1, 2, none⟩ = some (.int .i64 q2) := BQ.cell 2
    have cQ3 : w2.cell? ⟨w.heap.size + 1 + 1, 3, none⟩ = some (.slice Af nf cf) := BQ.cell 3
    have lQ := BQ.lt
    go_wp2_with fail
    go_ret2
    exact ⟨ret_int2 hr1.out hr2.out, HW⟩
  cases k4 : footOk h.l h.b h.i h.h
  · have hr1 := Lib.hid (show (0 : Int) = prV q0 q1 q2 zf xs f h by rw [prV, if_neg (by simp [prOk, ← hho, k4])])
    have hr2 := Lib.hid (show (1 : Int) = prC q0 q1 q2 zf xs f h by rw [prC, if_neg (by simp [prOk, ← hho, k4])])
    clear hfo hho
    go_enter Try.func50, Try.ntmps50
    go_wp2_with fail
    refine (ValidLasts_any _ _ _ _ _ (((hX.alloc _).alloc _).alloc _) (by omega) hx).mono ?_
    rintro e w1 ⟨rfl, H1⟩
    have BF := (((Blk.new w 25 #[.int .i64 f.l, .int .i64 f.b, .int .i64 f.i, .int .i64 f.h]).alloc (.cells #[.int .i64 h.l, .int .i64 h.b, .int .i64 h.i, .int .i64 h.h] 25)).alloc (.cells #[.int .i64 q0, .int .i64 q1, .int .i64 q2, .slice Af nf cf] 53)).below H1
    have BG := ((Blk.new1 w _ 25 #[.int .i64 h.l, .int .i64 h.b, .int .i64 h.i, .int .i64 h.h]).alloc (.cells #[.int .i64 q0, .int .i64 q1, .int .i64 q2, .slice Af nf cf] 53)).below H1
    have BQ := (Blk.new2 w _ _ 53 #[.int .i64 q0, .int .i64 q1, .int .i64 q2, .slice Af nf cf]).below H1
    have HW : Below w.heap.size w w1 := Bl.then (by go_grown) H1
    clear H1
    have cF0 : w1.cell? ⟨w.heap.size, 0, none⟩ = some (.int .i64 f.l) := BF.cell 0
    have cF1 : w1.cell? ⟨w.heap.size, 1, none⟩ = some (.int .i64 f.b) := BF.cell 1
    have cF2 : w1.cell? ⟨w.heap.size, 2, none⟩ = some (.int .i64 f.i) := BF.cell 2
    have cF3 : w1.cell? ⟨w.heap.size, 3, none⟩ = some (.int .i64 f.h) := BF.cell 3
    have lF := BF.lt
    have cG0 : w1.cell? ⟨w.heap.size + 1, 0, none⟩ = some (.int .i64 h.l) := BG.cell 0
    have cG1 : w1.cell? ⟨w.heap.size + 1, 1, none⟩ = some (.int .i64 h.b) := BG.cell 1
    have cG2 : w1.cell? ⟨w.heap.size + 1, 2, none⟩ = some (.int .i64 h.i) := BG.cell 2
    have cG3 : w1.cell? ⟨w.heap.size + 1, 3, none⟩ = some (.int .i64 h.h) := BG.cell 3
    have lG := BG.lt
    have cQ0 : w1.cell? ⟨w.heap.size + 1 + 1, 0, none⟩ = some (.int .i64 q0) := BQ.cell 0
    have cQ1 : w1.cell? ⟨w.heap.size + 1 + 1, 1, none⟩ = some (.int .i64 q1) := BQ.cell 1
    have cQ2 : w1.cell? ⟨w.heap.size + 1 + 1, 2, none⟩ = some (.int .i64 q2) := BQ.cell 2
    have cQ3 : w1.cell? ⟨w.heap.size + 1 + 1, 3, none⟩ = some (.slice Af nf cf) := BQ.cell 3
    have lQ := BQ.lt
    go_wp2_with fail
    refine (ValidFoot_any _ _ _ _ _).mono ?_
    rintro e w2 ⟨rfl, hb2⟩
    clear cF0 cF1 cF2 cF3 lF cG0 cG1 cG2 cG3 lG cQ0 cQ1 cQ2 cQ3 lQ
    replace BF := BF.below hb2
    replace BG := BG.below hb2
    replace BQ := BQ.below hb2
    replace HW := Bl.then HW hb2
    have cF0 : w2.cell? ⟨w.heap.size, 0, none⟩ = some (.int .i64 f.l) := BF.cell 0
    have cF1 : w2.cell? ⟨w.heap.size, 1, none⟩ = some (.int .i64 f.b) := BF.cell 1
    have cF2 : w2.cell? ⟨w.heap.size, 2, none⟩ = some (.int .i64 f.i) := BF.cell 2
    have cF3 : w2.cell? ⟨w.heap.size, 3, none⟩ = some (.int .i64 f.h) := BF.cell 3
    have lF := BF.lt
    have cG0 : w2.cell? ⟨w.heap.size + 1, 0, none⟩ = some (.int .i64 h.l) := BG.cell 0
    have cG1 : w2.cell? ⟨w.heap.size + 1, 1, none⟩ = some (.int .i64 h.b) := BG.cell 1
    have cG2 : w2.cell? ⟨w.heap.size + 1, 2, none⟩ = some (.int .i64 h.i) := BG.cell 2
    have cG3 : w2.cell? ⟨w.heap.size + 1, 3, none⟩ = some (.int .i64 h.h) := BG.cell 3
    have lG := BG.lt
    have cQ0 : w2.cell? ⟨w.heap.size + 1 + 1, 0, none⟩ = some (.int .i64 q0) := BQ.cell 0
    have cQ1 : w2.cell? ⟨w.heap.size + 1 + 1, 1, none⟩ = some (.int .i64 q1) := BQ.cell 1
    have cQ2 : w2.cell? ⟨w.heap.size + 1 + 1, 2, none⟩ = some (.int .i64 q2) := BQ.cell 2
    have cQ3 : w2.cell? ⟨w.heap.size + 1 + 1, 3, none⟩ = some (.slice Af nf cf) := BQ.cell 3
    have lQ := BQ.lt
    go_wp2_with fail
    refine (ValidFoot_any _ _ _ _ _).mono ?_
    rintro e w3 ⟨rfl, hb3⟩
    clear cF0 cF1 cF2 cF3 lF cG0 cG1 cG2 cG3 lG cQ0 cQ1 cQ2 cQ3 lQ
    replace BF := BF.below hb3
    replace BG := BG.below hb3
    replace BQ := BQ.below hb3
    replace HW := Bl.then HW hb3
    have cF0 : w3.cell? ⟨w.heap.size, 0, none⟩ = some (.int .i64 f.l) := BF.cell 0
    have cF1 : w3.cell? ⟨w.heap.size, 1, none⟩ = some (.int .i64 f.b) := BF.cell 1
    have cF2 : w3.cell? ⟨w.heap.size, 2, none⟩ = some (.int .i64 f.i) := BF.cell 2
    have cF3 : w3.cell? ⟨w.heap.size, 3, none⟩ = some (.int .i64 f.h) := BF.cell 3
    have lF := BF.lt
    have cG0 : w3.cell? ⟨w.heap.size + 1, 0, none⟩ = some (.int .i64 h.l) := BG.cell 0
    have cG1 : w3.cell? ⟨w.heap.size + 1, 1, none⟩ = some (.int .i64 h.b) := BG.cell 1
    have cG2 : w3.cell? ⟨w.heap.size + 1, 2, none⟩ = some (.int .i64 h.i) := BG.cell 2
    have cG3 : w3.cell? ⟨w.heap.size + 1, 3, none⟩ = some (.int .i64 h.h) := BG.cell 3
    have lG := BG.lt
    have cQ0 : w3.cell? ⟨w.heap.size + 1 + 1, 0, none⟩ = some (.int .i64 q0) := BQ.cell 0
    have cQ1 : w3.cell? ⟨w.heap.size + 1 + 1, 1, none⟩ = some (.int .i64 q1) := BQ.cell 1
    have cQ2 : w3.cell? ⟨w.heap.size + 1 + 1, 2, none⟩ = some (.int .i64 q2) := BQ.cell 2
    have cQ3 : w3.cell? ⟨w.heap.size + 1 + 1, 3, none⟩ = some (.slice Af nf cf) := BQ.cell 3
    have lQ := BQ.lt
    go_wp2_with fail
    go_ret2
    exact ⟨ret_int2 hr1.out hr2.out, HW⟩
  cases k3 : fitOk q0 q1 q2 zf
  · have hr1 := Lib.hid (show (0 : Int) = prV q0 q1 q2 zf xs f h by rw [prV, if_neg (by simp [prOk, lsOk, k3])])
    have hr2 := Lib.hid (show (1 : Int) = prC q0 q1 q2 zf xs f h by rw [prC, if_neg (by simp [prOk, lsOk, k3])])
    clear hfo hho
    go_enter Try.func50, Try.ntmps50
    go_wp2_with fail
    refine (ValidLasts_any _ _ _ _ _ (((hX.alloc _).alloc _).alloc _) (by omega) hx).mono ?_
    rintro e w1 ⟨rfl, H1⟩
    have BF := (((Blk.new w 25 #[.int .i64 f.l, .int .i64 f.b, .int .i64 f.i, .int .i64 f.h]).alloc (.cells #[.int .i64 h.l, .int .i64 h.b, .int .i64 h.i, .int .i64 h.h] 25)).alloc (.cells #[.int .i64 q0, .int .i64 q1, .int .i64 q2, .slice Af nf cf] 53)).below H1
    have BG := ((Blk.new1 w _ 25 #[.int .i64 h.l, .int .i64 h.b, .int .i64 h.i, .int .i64 h.h]).alloc (.cells #[.int .i64 q0, .int .i64 q1, .int .i64 q2, .slice Af nf cf] 53)).below H1
    have BQ := (Blk.new2 w _ _ 53 #[.int .i64 q0, .int .i64 q1, .int .i64 q2, .slice Af nf cf]).below H1
    have HW : Below w.heap.size w w1 := Bl.then (by go_grown) H1
    clear H1
    have cF0 : w1.cell? ⟨w.heap.size, 0, none⟩ = some (.int .i64 f.l) := BF.cell 0
    have cF1 : w1.cell? ⟨w.heap.size, 1, none⟩ = some (.int .i64 f.b) := BF.cell 1
    have cF2 : w1.cell? ⟨w.heap.size, 2, none⟩ = some (.int .i64 f.i) := BF.cell 2
    have cF3 : w1.cell? ⟨w.heap.size, 3, none⟩ = some (.int .i64 f.h) := BF.cell 3
    have lF := BF.lt
    have cG0 : w1.cell? ⟨w.heap.size + 1, 0, none⟩ = some (.int .i64 h.l) := BG.cell 0
    have cG1 : w1.cell? ⟨w.heap.size + 1, 1, none⟩ = some (.int .i64 h.b) := BG.cell 1
    have cG2 : w1.cell? ⟨w.heap.size + 1, 2, none⟩ = some (.int .i64 h.i) := BG.cell 2
    have cG3 : w1.cell? ⟨w.heap.size + 1, 3, none⟩ = some (.int .i64 h.h) := BG.cell 3
    have lG := BG.lt
    have cQ0 : w1.cell? ⟨w.heap.size + 1 + 1, 0, none⟩ = some (.int .i64 q0) := BQ.cell 0
    have cQ1 : w1.cell? ⟨w.heap.size + 1 + 1, 1, none⟩ = some (.int .i64 q1) := BQ.cell 1
    have cQ2 : w1.cell? ⟨w.heap.size + 1 + 1, 2, none⟩ = some (.int .i64 q2) := BQ.cell 2
    have cQ3 : w1.cell? ⟨w.heap.size + 1 + 1, 3, none⟩ = some (.slice Af nf cf) := BQ.cell 3
    have lQ := BQ.lt
    go_wp2_with fail
    refine (ValidFoot_any _ _ _ _ _).mono ?_
    rintro e w2 ⟨rfl, hb2⟩
    clear cF0 cF1 cF2 cF3 lF cG0 cG1 cG2 cG3 lG cQ0 cQ1 cQ2 cQ3 lQ
    replace BF := BF.below hb2
    replace BG := BG.below hb2
    replace BQ := BQ.below hb2
    replace HW := Bl.then HW hb2
    have cF0 : w2.cell? ⟨w.heap.size, 0, none⟩ = some (.int .i64 f.l) := BF.cell 0
    have cF1 : w2.cell? ⟨w.heap.size, 1, none⟩ = some (.int .i64 f.b) := BF.cell 1
    have cF2 : w2.cell? ⟨w.heap.size, 2, none⟩ = some (.int .i64 f.i) := BF.cell 2
    have cF3 : w2.cell? ⟨w.heap.size, 3, none⟩ = some (.int .i64 f.h) := BF.cell 3
    have lF := BF.lt
    have cG0 : w2.cell? ⟨w.heap.size + 1, 0, none⟩ = some (.int .i64 h.l) := BG.cell 0
    have cG1 : w2.cell? ⟨w.heap.size + 1, 1, none⟩ = some (.int .i64 h.b) := BG.cell 1
    have cG2 : w2.cell? ⟨w.heap.size + 1, 2, none⟩ = some (.int .i64 h.i) := BG.cell 2
    have cG3 : w2.cell? ⟨w.heap.size + 1, 3, none⟩ = some (.int .i64 h.h) := BG.cell 3
    have lG := BG.lt
    have cQ0 : w2.cell? ⟨w.heap.size + 1 + 1, 0, none⟩ = some (.int .i64 q0) := BQ.cell 0
    have cQ1 : w2.cell? ⟨w.heap.size + 1 + 1, 1, none⟩ = some (.int .i64 q1) := BQ.cell 1
    have cQ2 : w2.cell? ⟨w.heap.size + 1 + 1, 2, none⟩ = some (.int .i64 q2) := BQ.cell 2
    have cQ3 : w2.cell? ⟨w.heap.size + 1 + 1, 3, none⟩ = some (.slice Af nf cf) := BQ.cell 3
    have lQ := BQ.lt
    go_wp2_with fail
    refine (ValidFoot_any _ _ _ _ _).mono ?_
    rintro e w3 ⟨rfl, hb3⟩
    clear cF0 cF1 cF2 cF3 lF cG0 cG1 cG2 cG3 lG cQ0 cQ1 cQ2 cQ3 lQ
    replace BF := BF.below hb3
    replace BG := BG.below hb3
    replace BQ := BQ.below hb3
    replace HW := Bl.then HW hb3
    have cF0 : w3.cell? ⟨w.heap.size, 0, none⟩ = some (.int .i64 f.l) := BF.cell 0
    have cF1 : w3.cell? ⟨w.heap.size, 1, none⟩ = some (.int .i64 f.b) := BF.cell 1
    have cF2 : w3.cell? ⟨w.heap.size, 2, none⟩ = some (.int .i64 f.i) := BF.cell 2
    have cF3 : w3.cell? ⟨w.heap.size, 3, none⟩ = some (.int .i64 f.h) := BF.cell 3
    have lF := BF.lt
    have cG0 : w3.cell? ⟨w.heap.size + 1, 0, none⟩ = some (.int .i64 h.l) := BG.cell 0
    have cG1 : w3.cell? ⟨w.heap.size + 1, 1, none⟩ = some (.int .i64 h.b) := BG.cell 1
    have cG2 : w3.cell? ⟨w.heap.size + 1, 2, none⟩ = some (.int .i64 h.i) := BG.cell 2
    have cG3 : w3.cell? ⟨w.heap.size + 1, 3, none⟩ = some (.int .i64 h.h) := BG.cell 3
    have lG := BG.lt
    have cQ0 : w3.cell? ⟨w.heap.size + 1 + 1, 0, none⟩ = some (.int .i64 q0) := BQ.cell 0
    have cQ1 : w3.cell? ⟨w.heap.size + 1 + 1, 1, none⟩ = some (.int .i64 q1) := BQ.cell 1
    have cQ2 : w3.cell? ⟨w.heap.size + 1 + 1, 2, none⟩ = some (.int .i64 q2) := BQ.cell 2
    have cQ3 : w3.cell? ⟨w.heap.size + 1 + 1, 3, none⟩ = some (.slice Af nf cf) := BQ.cell 3
    have lQ := BQ.lt
    go_wp2_with fail
    refine (ValidFit_any _ _ _ _ _ _ _ _ (h0.below HW) hnf).mono ?_
    rintro e w4 ⟨rfl, hb4⟩
    clear cF0 cF1 cF2 cF3 lF cG0 cG1 cG2 cG3 lG cQ0 cQ1 cQ2 cQ3 lQ
    replace BF := BF.below hb4
    replace BG := BG.below hb4
    replace BQ := BQ.below hb4
    replace HW := Bl.then HW hb4
    have cF0 : w4.cell? ⟨w.heap.size, 0, none⟩ = some (.int .i64 f.l) := BF.cell 0
    have cF1 : w4.cell? ⟨w.heap.size, 1, none⟩ = some (.int .i64 f.b) := BF.cell 1
    have cF2 : w4.cell? ⟨w.heap.size, 2, none⟩ = some (.int .i64 f.i) := BF.cell 2
    have cF3 : w4.cell? ⟨w.heap.size, 3, none⟩ = some (.int .i64 f.h) := BF.cell 3
    have lF := BF.lt
    have cG0 : w4.cell? ⟨w.heap.size + 1, 0, none⟩ = some (.int .i64 h.l) := BG.cell 0
    have cG1 : w4.cell? ⟨w.heap.size + 1, 1, none⟩ = some (.int .i64 h.b) := BG.cell 1
    have cG2 : w4.cell? ⟨w.heap.size + 1, 2, none⟩ = some (.int .i64 h.i) := BG.cell 2
    have cG3 : w4.cell? ⟨w.heap.size + 1, 3, none⟩ = some (.int .i64 h.h) := BG.cell 3
    have lG := BG.lt
    have cQ0 : w4.cell? ⟨w.heap.size + 1 + 1, 0, none⟩ = some (.int .i64 q0) := BQ.cell 0
    have cQ1 : w4.cell? ⟨w.heap.size + 1 + 1, 1, none⟩ = some (.int .i64 q1) := BQ.cell 1
    have cQ2 : w4.cell? ⟨w.heap.size + 1 + 1, 2, none⟩ = some (.int .i64 q2) := BQ.cell 2
    have cQ3 : w4.cell? ⟨w.heap.size + 1 + 1, 3, none⟩ = some (.slice Af nf cf) := BQ.cell 3
    have lQ := BQ.lt
    go_wp2_with fail
    go_ret2
    exact ⟨ret_int2 hr1.out hr2.out, HW⟩
  have hok : prOk q0 q1 q2 zf xs f h = true := by simp [prOk, lsOk, k1, ← hfo, k2, k3, ← hho, k4]
  have hr1 := Lib.hid (show cheV (accL (alwI q0 q1 q2 xs [f, h]) xs.length) (accL (alwC q0 q1 q2 zf xs [f, h]) xs.length) = prV q0 q1 q2 zf xs f h by rw [prV, if_pos hok])
  have hr2 := Lib.hid (show cheC (accL (alwI q0 q1 q2 xs [f, h]) xs.length) = prC q0 q1 q2 zf xs f h by rw [prC, if_pos hok])
  have k9 := Lib.hid (lastsOk_bd k1)
  have kx := Lib.hid (fun (k : Nat) (hk : k < xs.length) => lOk_bd k1 hk)
  have kf := Lib.hid (feet_two (show fOk f = true from k2) (show fOk h = true from k4))
  have k3' := Lib.hid k3
  clear hfo hho hok
  go_enter Try.func50, Try.ntmps50
  go_wp2_with fail
  refine (ValidLasts_any _ _ _ _ _ (((hX.alloc _).alloc _).alloc _) (by omega) hx).mono ?_
  rintro e w1 ⟨rfl, H1⟩
  have BF := (((Blk.new w 25 #[.int .i64 f.l, .int .i64 f.b, .int .i64 f.i, .int .i64 f.h]).alloc (.cells #[.int .i64 h.l, .int .i64 h.b, .int .i64 h.i, .int .i64 h.h] 25)).alloc (.cells #[.int .i64 q0, .int .i64 q1, .int .i64 q2, .slice Af nf cf] 53)).below H1
  have BG := ((Blk.new1 w _ 25 #[.int .i64 h.l, .int .i64 h.b, .int .i64 h.i, .int .i64 h.h]).alloc (.cells #[.int .i64 q0, .int .i64 q1, .int .i64 q2, .slice Af nf cf] 53)).below H1
  have BQ := (Blk.new2 w _ _ 53 #[.int .i64 q0, .int .i64 q1, .int .i64 q2, .slice Af nf cf]).below H1
  have HW : Below w.heap.size w w1 := Bl.then (by go_grown) H1
  clear H1
  have cF0 : w1.cell? ⟨w.heap.size, 0, none⟩ = some (.int .i64 f.l) := BF.cell 0
  have cF1 : w1.cell? ⟨w.heap.size, 1, none⟩ = some (.int .i64 f.b) := BF.cell 1
  have cF2 : w1.cell? ⟨w.heap.size, 2, none⟩ = some (.int .i64 f.i) := BF.cell 2
  have cF3 : w1.cell? ⟨w.heap.size, 3, none⟩ = some (.int .i64 f.h) := BF.cell 3
  have lF := BF.lt
  have cG0 : w1.cell? ⟨w.heap.size + 1, 0, none⟩ = some (.int .i64 h.l) := BG.cell 0
  have cG1 : w1.cell? ⟨w.heap.size + 1, 1, none⟩ = some (.int .i64 h.b) := BG.cell 1
  have cG2 : w1.cell? ⟨w.heap.size + 1, 2, none⟩ = some (.int .i64 h.i) := BG.cell 2
  have cG3 : w1.cell? ⟨w.heap.size + 1, 3, none⟩ = some (.int .i64 h.h) := BG.cell 3
  have lG := BG.lt
  have cQ0 : w1.cell? ⟨w.heap.size + 1 + 1, 0, none⟩ = some (.int .i64 q0) := BQ.cell 0
  have cQ1 : w1.cell? ⟨w.heap.size + 1 + 1, 1, none⟩ = some (.int .i64 q1) := BQ.cell 1
  have cQ2 : w1.cell? ⟨w.heap.size + 1 + 1, 2, none⟩ = some (.int .i64 q2) := BQ.cell 2
  have cQ3 : w1.cell? ⟨w.heap.size + 1 + 1, 3, none⟩ = some (.slice Af nf cf) := BQ.cell 3
  have lQ := BQ.lt
  go_wp2_with fail
  refine (ValidFoot_any _ _ _ _ _).mono ?_
  rintro e w2 ⟨rfl, hb2⟩
  clear cF0 cF1 cF2 cF3 lF cG0 cG1 cG2 cG3 lG cQ0 cQ1 cQ2 cQ3 lQ
  replace BF := BF.below hb2
  replace BG := BG.below hb2
  replace BQ := BQ.below hb2
  replace HW := Bl.then HW hb2
  have cF0 : w2.cell? ⟨w.heap.size, 0, none⟩ = some (.int .i64 f.l) := BF.cell 0
  have cF1 : w2.cell? ⟨w.heap.size, 1, none⟩ = some (.int .i64 f.b) := BF.cell 1
  have cF2 : w2.cell? ⟨w.heap.size, 2, none⟩ = some (.int .i64 f.i) := BF.cell 2
  have cF3 : w2.cell? ⟨w.heap.size, 3, none⟩ = some (.int .i64 f.h) := BF.cell 3
  have lF := BF.lt
  have cG0 : w2.cell? ⟨w.heap.size + 1, 0, none⟩ = some (.int .i64 h.l) := BG.cell 0
  have cG1 : w2.cell? ⟨w.heap.size + 1, 1, none⟩ = some (.int .i64 h.b) := BG.cell 1
  have cG2 : w2.cell? ⟨w.heap.size + 1, 2, none⟩ = some (.int .i64 h.i) := BG.cell 2
  have cG3 : w2.cell? ⟨w.heap.size + 1, 3, none⟩ = some (.int .i64 h.h) := BG.cell 3
  have lG := BG.lt
  have cQ0 : w2.cell? ⟨w.heap.size + 1 + 1, 0, none⟩ = some (.int .i64 q0) := BQ.cell 0
  have cQ1 : w2.cell? ⟨w.heap.size + 1 + 1, 1, none⟩ = some (.int .i64 q1) := BQ.cell 1
  have cQ2 : w2.cell? ⟨w.heap.size + 1 + 1, 2, none⟩ = some (.int .i64 q2) := BQ.cell 2
  have cQ3 : w2.cell? ⟨w.heap.size + 1 + 1, 3, none⟩ = some (.slice Af nf cf) := BQ.cell 3
  have lQ := BQ.lt
  go_wp2_with fail
  refine (ValidFoot_any _ _ _ _ _).mono ?_
  rintro e w3 ⟨rfl, hb3⟩
  clear cF0 cF1 cF2 cF3 lF cG0 cG1 cG2 cG3 lG cQ0 cQ1 cQ2 cQ3 lQ
  replace BF := BF.below hb3
  replace BG := BG.below hb3
  replace BQ := BQ.below hb3
  replace HW := Bl.then HW hb3
  have cF0 : w3.cell? ⟨w.heap.size, 0, none⟩ = some (.int .i64 f.l) := BF.cell 0
  have cF1 : w3.cell? ⟨w.heap.size, 1, none⟩ = some (.int .i64 f.b) := BF.cell 1
  have cF2 : w3.cell? ⟨w.heap.size, 2, none⟩ = some (.int .i64 f.i) := BF.cell 2
  have cF3 : w3.cell? ⟨w.heap.size, 3, none⟩ = some (.int .i64 f.h) := BF.cell 3
  have lF := BF.lt
  have cG0 : w3.cell? ⟨w.heap.size + 1, 0, none⟩ = some (.int .i64 h.l) := BG.cell 0
  have cG1 : w3.cell? ⟨w.heap.size + 1, 1, none⟩ = some (.int .i64 h.b) := BG.cell 1
  have cG2 : w3.cell? ⟨w.heap.size + 1, 2, none⟩ = some (.int .i64 h.i) := BG.cell 2
  have cG3 : w3.cell? ⟨w.heap.size + 1, 3, none⟩ = some (.int .i64 h.h) := BG.cell 3
  have lG := BG.lt
  have cQ0 : w3.cell? ⟨w.heap.size + 1 + 1, 0, none⟩ = some (.int .i64 q0) := BQ.cell 0
  have cQ1 : w3.cell? ⟨w.heap.size + 1 + 1, 1, none⟩ = some (.int .i64 q1) := BQ.cell 1
  have cQ2 : w3.cell? ⟨w.heap.size + 1 + 1, 2, none⟩ = some (.int .i64 q2) := BQ.cell 2
  have cQ3 : w3.cell? ⟨w.heap.size + 1 + 1, 3, none⟩ = some (.slice Af nf cf) := BQ.cell 3
  have lQ := BQ.lt
  go_wp2_with fail
  refine (ValidFit_any _ _ _ _ _ _ _ _ (h0.below HW) hnf).mono ?_
  rintro e w4 ⟨rfl, hb4⟩
  clear cF0 cF1 cF2 cF3 lF cG0 cG1 cG2 cG3 lG cQ0 cQ1 cQ2 cQ3 lQ
  replace BF := BF.below hb4
  replace BG := BG.below hb4
  replace BQ := BQ.below hb4
  replace HW := Bl.then HW hb4
  have cF0 : w4.cell? ⟨w.heap.size, 0, none⟩ = some (.int .i64 f.l) := BF.cell 0
  have cF1 : w4.cell? ⟨w.heap.size, 1, none⟩ = some (.int .i64 f.b) := BF.cell 1
  have cF2 : w4.cell? ⟨w.heap.size, 2, none⟩ = some (.int .i64 f.i) := BF.cell 2
  have cF3 : w4.cell? ⟨w.heap.size, 3, none⟩ = some (.int .i64 f.h) := BF.cell 3
  have lF := BF.lt
  have cG0 : w4.cell? ⟨w.heap.size + 1, 0, none⟩ = some (.int .i64 h.l) := BG.cell 0
  have cG1 : w4.cell? ⟨w.heap.size + 1, 1, none⟩ = some (.int .i64 h.b) := BG.cell 1
  have cG2 : w4.cell? ⟨w.heap.size + 1, 2, none⟩ = some (.int .i64 h.i) := BG.cell 2
  have cG3 : w4.cell? ⟨w.heap.size + 1, 3, none⟩ = some (.int .i64 h.h) := BG.cell 3
  have lG := BG.lt
  have cQ0 : w4.cell? ⟨w.heap.size + 1 + 1, 0, none⟩ = some (.int .i64 q0) := BQ.cell 0
  have cQ1 : w4.cell? ⟨w.heap.size + 1 + 1, 1, none⟩ = some (.int .i64 q1) := BQ.cell 1
  have cQ2 : w4.cell? ⟨w.heap.size + 1 + 1, 2, none⟩ = some (.int .i64 q2) := BQ.cell 2
  have cQ3 : w4.cell? ⟨w.heap.size + 1 + 1, 3, none⟩ = some (.slice Af nf cf) := BQ.cell 3
  have lQ := BQ.lt
  go_wp2_with fail
  clear cF0 cF1 cF2 cF3 lF cG0 cG1 cG2 cG3 lG cQ0 cQ1 cQ2 cQ3 lQ
  replace BF := BF.alloc (.cells #[.int .i64 f.l, .int .i64 f.b, .int .i64 f.i, .int .i64 f.h, .int .i64 h.l, .int .i64 h.b, .int .i64 h.i, .int .i64 h.h] 25)
  replace BG := BG.alloc (.cells #[.int .i64 f.l, .int .i64 f.b, .int .i64 f.i, .int .i64 f.h, .int .i64 h.l, .int .i64 h.b, .int .i64 h.i, .int .i64 h.h] 25)
  replace BQ := BQ.alloc (.cells #[.int .i64 f.l, .int .i64 f.b, .int .i64 f.i, .int .i64 f.h, .int .i64 h.l, .int .i64 h.b, .int .i64 h.i, .int .i64 h.h] 25)
  have BL := Blk.new w4 25 #[.int .i64 f.l, .int .i64 f.b, .int .i64 f.i, .int .i64 f.h, .int .i64 h.l, .int .i64 h.b, .int .i64 h.i, .int .i64 h.h]
  replace HW := Bl.alloc HW (.cells #[.int .i64 f.l, .int .i64 f.b, .int .i64 f.i, .int .i64 f.h, .int .i64 h.l, .int .i64 h.b, .int .i64 h.i, .int .i64 h.h] 25)
  refine (cheapest_any _ _ _ xs _ _ _ _ _ _ zf _ _ _ [f, h] _ (hX.below HW) (h0.below HW) (rd_feet2 BL) (by have := k9.out.1; rw [hxl.out] at this; exact this) (by decide) kx.out kf.out k3'.out).mono ?_
  rintro e w8 ⟨rfl, hb8⟩
  replace BF := BF.below hb8
  replace BG := BG.below hb8
  replace BQ := BQ.below hb8
  replace BL := BL.below hb8
  replace HW := Bl.then HW hb8
  have cF0 : w8.cell? ⟨w.heap.size, 0, none⟩ = some (.int .i64 f.l) := BF.cell 0
  have cF1 : w8.cell? ⟨w.heap.size, 1, none⟩ = some (.int .i64 f.b) := BF.cell 1
  have cF2 : w8.cell? ⟨w.heap.size, 2, none⟩ = some (.int .i64 f.i) := BF.cell 2
  have cF3 : w8.cell? ⟨w.heap.size, 3, none⟩ = some (.int .i64 f.h) := BF.cell 3
  have lF := BF.lt
  have cG0 : w8.cell? ⟨w.heap.size + 1, 0, none⟩ = some (.int .i64 h.l) := BG.cell 0
  have cG1 : w8.cell? ⟨w.heap.size + 1, 1, none⟩ = some (.int .i64 h.b) := BG.cell 1
  have cG2 : w8.cell? ⟨w.heap.size + 1, 2, none⟩ = some (.int .i64 h.i) := BG.cell 2
  have cG3 : w8.cell? ⟨w.heap.size + 1, 3, none⟩ = some (.int .i64 h.h) := BG.cell 3
  have lG := BG.lt
  have cQ0 : w8.cell? ⟨w.heap.size + 1 + 1, 0, none⟩ = some (.int .i64 q0) := BQ.cell 0
  have cQ1 : w8.cell? ⟨w.heap.size + 1 + 1, 1, none⟩ = some (.int .i64 q1) := BQ.cell 1
  have cQ2 : w8.cell? ⟨w.heap.size + 1 + 1, 2, none⟩ = some (.int .i64 q2) := BQ.cell 2
  have cQ3 : w8.cell? ⟨w.heap.size + 1 + 1, 3, none⟩ = some (.slice Af nf cf) := BQ.cell 3
  have lQ := BQ.lt
  have cL0 : w8.cell? ⟨w4.heap.size, 0, none⟩ = some (.int .i64 f.l) := BL.cell 0
  have cL1 : w8.cell? ⟨w4.heap.size, 1, none⟩ = some (.int .i64 f.b) := BL.cell 1
  have cL2 : w8.cell? ⟨w4.heap.size, 2, none⟩ = some (.int .i64 f.i) := BL.cell 2
  have cL3 : w8.cell? ⟨w4.heap.size, 3, none⟩ = some (.int .i64 f.h) := BL.cell 3
  have cL4 : w8.cell? ⟨w4.heap.size, 4, none⟩ = some (.int .i64 h.l) := BL.cell 4
  have cL5 : w8.cell? ⟨w4.heap.size, 5, none⟩ = some (.int .i64 h.b) := BL.cell 5
  have cL6 : w8.cell? ⟨w4.heap.size, 6, none⟩ = some (.int .i64 h.i) := BL.cell 6
  have cL7 : w8.cell? ⟨w4.heap.size, 7, none⟩ = some (.int .i64 h.h) := BL.cell 7
  have lL := BL.lt
  go_wp2_with fail
  go_ret2
  exact ⟨ret_int2 hr1.out hr2.out, HW⟩
end Go.Proofs.Ytlbgognkaolamaa
