/-
  GrowthOf and LengthOn of the reference; the condition of a slice argument is that it reads as the given list.
-/
import Derived.Test.YtlmjchmbbmiocaaGrowP
import Derived.Test.YtlmjchmbbmiocaaBlk2
namespace Go.Proofs.Ytlmjchmbbmiocaa
open Go.RowKit
set_option maxHeartbeats 1600000

theorem retFr (c k x1 x2 : Int) (hc : c = k) (hk : k ≠ 0) :
    Ending.returned (.tuple #[.agg #[.int .i64 0, .int .i64 0], .int .i64 k]) = .returned (.tuple #[.agg #[.int .i64 (fNum c x1), .int .i64 (fNum c x2)], .int .i64 c]) := by
  subst hc; simp [fNum, hk]
theorem retFr0 (c x1 x2 y1 y2 : Int) (hc : c = 0) (h1 : x1 = y1) (h2 : x2 = y2) :
    Ending.returned (.tuple #[.agg #[.int .i64 x1, .int .i64 x2], .int .i64 0]) = .returned (.tuple #[.agg #[.int .i64 (fNum c y1), .int .i64 (fNum c y2)], .int .i64 c]) := by
  subst hc h1 h2; simp [fNum]
theorem retNC (c k x : Int) (hc : c = k) (hk : k ≠ 0) : Ending.returned (.tuple #[.int .i64 0, .int .i64 k]) = .returned (.tuple #[.int .i64 (fNum c x), .int .i64 c]) := by
  subst hc; simp [fNum, hk]
theorem retNC0 (c x y : Int) (hc : c = 0) (h : x = y) : Ending.returned (.tuple #[.int .i64 x, .int .i64 0]) = .returned (.tuple #[.int .i64 (fNum c y), .int .i64 c]) := by
  subst hc h; simp [fNum]
def lineN (ds : List Int) (xs : List FootD) : Int := outN ds (col xs 0) xs.length
def lineD (ds : List Int) (xs : List FootD) : Int := outN ds ds xs.length
def lenV (ds : List Int) (xs : List FootD) (day : Int) : Int := rnd (sumA (col xs 0) xs.length * lineD ds xs + lineN ds xs * ((xs.length : Int) * day - sumA ds xs.length)) ((xs.length : Int) * lineD ds xs)
/-- What a good list of days and feet says. -/
theorem days_good {ds : List Int} {xs : List FootD} {day : Int} {n : Nat} (hn : xs.length = n) (h : daysC ds xs day = 0) : 2 ≤ n ∧ n ≤ 30 ∧ ds.length = n ∧ InM ds n 10000 ∧ InM (col xs 0) n 5000 ∧ ix ds 0 < ix ds 1 ∧ (0 ≤ day ∧ day ≤ 20000) := by
  obtain ⟨h1, h2, h3, h4, h5⟩ := daysC_ok h
  subst hn
  obtain ⟨g1, g2⟩ := feetOk_bd h1
  have hr := riseB_true h3
  rw [h2] at hr
  have hx : xs.all fOk = true := by simp only [feetOk, Bool.and_eq_true] at h1; exact h1.1
  have hc := col_in hx (k := 0) (by decide)
  rw [col_len] at hc
  refine ⟨h5, g1, h2, AllIn.inM (lo := 0) (hi := 10000) (fun j hj => hr.1 j hj) (by omega) (by omega), hc.inM (by omega) (by omega), ?_, inR_true.1 h4⟩
  exact hr.2 1 (by omega) (by omega)
set_option maxRecDepth 100000 in
theorem l02Days_any (A A2 : Option Addr) (n c n2 c2 : Nat) (ds : List Int) (xs : List FootD) (day : Int) (w : World) (h : Rd w 1 A n (ints ds)) (h2 : Rd w 4 A2 n2 (feet xs)) (hn : n ≤ 1048576) (hn2 : n2 ≤ 1048576) :
    Calls Try.prog 48 #[.slice A n c, .slice A2 n2 c2, .int .i64 day] w fun e w' => e = .returned (.int .i64 (daysC ds xs day)) ∧ Below w.heap.size w w' := by
  have hlen := Lib.hid h.len
  have hlen2 := Lib.hid h2.feet_length
  cases h1 : feetOk xs
  · have hr := Lib.hid (show daysC ds xs day = 1 by simp [daysC, h1])
    go_enter Try.func48, Try.ntmps48
    go_wp2_with fail
    refine (l02Ok_any _ _ _ _ _ h2 (by omega)).mono ?_
    rintro e w1 ⟨rfl, hb1⟩
    go_wp2_with fail
    go_ret
    exact ⟨ret_int hr.out.symm, hb1⟩
  by_cases h3 : n = n2
  rotate_left
  · have hr := Lib.hid (show daysC ds xs day = 2 by simp [daysC, h1, hlen.out, hlen2.out, h3])
    have k1 : ((n : Int) != n2) = true := by simp; omega
    go_enter Try.func48, Try.ntmps48
    go_wp2_with fail
    refine (l02Ok_any _ _ _ _ _ h2 (by omega)).mono ?_
    rintro e w1 ⟨rfl, hb1⟩
    go_wp2_with fail
    go_ret
    exact ⟨ret_int hr.out.symm, hb1⟩
  have hl := Lib.hid (show ds.length = xs.length by rw [hlen.out, hlen2.out, h3])
  subst h3
  have k1 : ((n : Int) != n) = false := by simp
  cases h4 : riseB ds 0 10000
  · have hr := Lib.hid (show daysC ds xs day = 2 by simp [daysC, h1, h4])
    go_enter Try.func48, Try.ntmps48
    go_wp2_with fail
    refine (l02Ok_any _ _ _ _ _ h2 (by omega)).mono ?_
    rintro e w1 ⟨rfl, hb1⟩
    go_wp2_with fail
    refine (l00Rises_any _ _ _ _ _ _ _ (h.below hb1) (by omega)).mono ?_
    rintro e w2 ⟨rfl, hb2⟩
    have H2 := Bl.then hb1 hb2
    go_wp2_with fail
    go_ret
    exact ⟨ret_int hr.out.symm, H2⟩
  cases h5 : inR day 0 20000
  · have hr := Lib.hid (show daysC ds xs day = 2 by simp [daysC, h1, h5])
    go_enter Try.func48, Try.ntmps48
    go_wp2_with fail
    refine (l02Ok_any _ _ _ _ _ h2 (by omega)).mono ?_
    rintro e w1 ⟨rfl, hb1⟩
    go_wp2_with fail
    refine (l00Rises_any _ _ _ _ _ _ _ (h.below hb1) (by omega)).mono ?_
    rintro e w2 ⟨rfl, hb2⟩
    have H2 := Bl.then hb1 hb2
    go_wp2_with (go_at_call 76; refine (l00In_any _ _ _ _).mono ?_; rintro e w9 ⟨rfl, rfl⟩)
    go_ret
    exact ⟨ret_int hr.out.symm, H2⟩
  by_cases h6 : n < 2
  · have hr := Lib.hid (show daysC ds xs day = 3 by simp [daysC, h1, hl.out, h4, h5, hlen2.out, h6])
    go_enter Try.func48, Try.ntmps48
    go_wp2_with fail
    refine (l02Ok_any _ _ _ _ _ h2 (by omega)).mono ?_
    rintro e w1 ⟨rfl, hb1⟩
    go_wp2_with fail
    refine (l00Rises_any _ _ _ _ _ _ _ (h.below hb1) (by omega)).mono ?_
    rintro e w2 ⟨rfl, hb2⟩
    have H2 := Bl.then hb1 hb2
    go_wp2_with (go_at_call 76; refine (l00In_any _ _ _ _).mono ?_; rintro e w9 ⟨rfl, rfl⟩)
    go_ret
    exact ⟨ret_int hr.out.symm, H2⟩
  have hr := Lib.hid (show daysC ds xs day = 0 by simp [daysC, h1, hl.out, h4, h5, hlen2.out, h6])
  go_enter Try.func48, Try.ntmps48
  go_wp2_with fail
  refine (l02Ok_any _ _ _ _ _ h2 (by omega)).mono ?_
  rintro e w1 ⟨rfl, hb1⟩
  go_wp2_with fail
  refine (l00Rises_any _ _ _ _ _ _ _ (h.below hb1) (by omega)).mono ?_
  rintro e w2 ⟨rfl, hb2⟩
  have H2 := Bl.then hb1 hb2
  go_wp2_with (go_at_call 76; refine (l00In_any _ _ _ _).mono ?_; rintro e w9 ⟨rfl, rfl⟩)
  go_ret
  exact ⟨ret_int hr.out.symm, H2⟩
theorem l02Sum_any (A : Option Addr) (n c : Nat) (zs : List Int) (w : World) (h : Rd w 1 A n (ints zs)) (hz : InM zs n 10000) (hn : n ≤ 30) :
    Calls Try.prog 55 #[.slice A n c] w fun e w' => e = .returned (.int .i64 (sumA zs n)) ∧ w = w' := by
  have hz' := Lib.hid hz
  clear hz
  go_enter Try.func55, Try.ntmps55
  go_wp2_with fail
  go_loop [3, 4] (fun s i => ∃ k : Nat, k ≤ n ∧ s = .int .i64 (sumA zs k) ∧ i = .int .i64 k) (fun _ i => n - (intOf i).toNat)
  case atStart => exact ⟨0, by omega, rfl, rfl⟩
  case round =>
    obtain ⟨k, hk, rfl, rfl⟩ := hrel
    by_cases hlt : k < n
    · obtain ⟨b, off, rfl, hbl, hcell⟩ := h.int hlt
      obtain ⟨s1, s2⟩ := sumA_bd (k := k) 300000 hz'.out (by omega) hn (by decide) (by decide)
      obtain ⟨s3, s4⟩ := hz'.out k hlt
      have hs := Lib.hid (sumA_succ zs k)
      go_wp2_with fail
      go_round
      case rel => exact ⟨k + 1, by omega, by rw [hs.out], by go_num⟩
      case measure => simp [intOf]; omega
    · obtain rfl : k = n := by omega
      go_wp2_with fail
      go_ret
      exact ⟨rfl, rfl⟩
theorem l02Line_any (A A2 : Option Addr) (n c c2 : Nat) (ds ls : List Int) (w : World) (h : Rd w 1 A n (ints ds)) (h2 : Rd w 1 A2 n (ints ls)) (hd : InM ds n 10000) (hl : InM ls n 5000) (hn : n ≤ 30) :
    Calls Try.prog 49 #[.slice A n c, .slice A2 n c2] w fun e w' => e = .returned (.tuple #[.int .i64 (outN ds ls n), .int .i64 (outN ds ds n)]) ∧ Below w.heap.size w w' := by
  have hd' := Lib.hid hd
  have hl' := Lib.hid hl
  clear hd hl
  go_enter Try.func49, Try.ntmps49
  go_wp2_with fail
  go_loopw [6, 7, 8] (fun p q i wr => ∃ m : Nat, m ≤ n ∧ p = .int .i64 (outN ds ls m) ∧ q = .int .i64 (outN ds ds m) ∧ i = .int .i64 m ∧ Below w.heap.size w wr) (fun _ _ i _ => n - (intOf i).toNat)
  case atStart => exact ⟨0, by omega, rfl, rfl, rfl, Below.refl _ _⟩
  case round =>
    obtain ⟨m, hm, rfl, rfl, rfl, HP⟩ := hrel
    by_cases hlm : m < n
    · obtain ⟨o1, o2⟩ := outN_bd (k := m) 200000000 6000000000 180000000000 hd'.out hl'.out (by omega) hn (by decide) (by decide) (by decide) (by decide)
      obtain ⟨o3, o4⟩ := outN_bd (k := m) 400000000 12000000000 360000000000 hd'.out hd'.out (by omega) hn (by decide) (by decide) (by decide) (by decide)
      have hs1 := Lib.hid (outN_succ ds ls m)
      have hs2 := Lib.hid (outN_succ ds ds m)
      generalize outN ds ls m = X at *
      generalize outN ds ds m = Y at *
      obtain ⟨b, off, rfl, hbl, hci⟩ := (h.below HP).int hlm
      obtain ⟨b2, off2, rfl, hbl2, hdi⟩ := (h2.below HP).int hlm
      go_wp2_with fail
      go_loopw [6, 7, 9] (fun p q i wz => ∃ k : Nat, k ≤ m ∧ p = .int .i64 (X + inN ds ls m k) ∧ q = .int .i64 (Y + inN ds ds m k) ∧ i = .int .i64 k ∧ Below wr.heap.size wr wz) (fun _ _ i _ => m - (intOf i).toNat)
      case atStart => exact ⟨0, by omega, by simp [inN, ps], by simp [inN, ps], rfl, Below.refl _ _⟩
      case round =>
        obtain ⟨k, hk, rfl, rfl, rfl, HB⟩ := hrel
        by_cases hlt : k < m
        · obtain ⟨i1, i2⟩ := inN_bd (i := m) (k := k) 200000000 6000000000 hd'.out hl'.out hlm (by omega) hn (by decide) (by decide) (by decide)
          obtain ⟨i3, i4⟩ := inN_bd (i := m) (k := k) 400000000 12000000000 hd'.out hd'.out hlm (by omega) hn (by decide) (by decide) (by decide)
          have hs3 := Lib.hid (inN_succ ds ls m k)
          have hs4 := Lib.hid (inN_succ ds ds m k)
          obtain ⟨b', off', e1, hbl', hck⟩ := ((h.below HP).below HB).int (k := k) (by omega)
          obtain ⟨b2', off2', e2, hbl2', hdk⟩ := ((h2.below HP).below HB).int (k := k) (by omega)
          simp only [Option.some.injEq, Addr.mk.injEq, and_true] at e1 e2
          obtain ⟨rfl, rfl⟩ := e1
          obtain ⟨rfl, rfl⟩ := e2
          have hci' := cell_later HB hci
          have hdi' := cell_later HB hdi
          obtain ⟨d1, d2⟩ := hd'.out m hlm
          obtain ⟨d3, d4⟩ := hd'.out k (by omega)
          obtain ⟨l1, l2⟩ := hl'.out m hlm
          obtain ⟨l3, l4⟩ := hl'.out k (by omega)
          obtain ⟨p1, p2⟩ := mul_abs (a := ix ds m - ix ds k) (b := ix ls m - ix ls k) (A := 20000) (B := 10000) 200000000 (by omega) (by omega) (by decide) (by decide)
          obtain ⟨p3, p4⟩ := mul_abs (a := ix ds m - ix ds k) (b := ix ds m - ix ds k) (A := 20000) (B := 20000) 400000000 (by omega) (by omega) (by decide) (by decide)
          have f1 : IntKind.i64.wrap (ix ds m - ix ds k) = ix ds m - ix ds k := IntWalk.i64_in _ (by omega)
          have f2 : IntKind.i64.wrap (ix ls m - ix ls k) = ix ls m - ix ls k := IntWalk.i64_in _ (by omega)
          have f3 : IntKind.i64.wrap ((ix ds m - ix ds k) * (ix ls m - ix ls k)) = (ix ds m - ix ds k) * (ix ls m - ix ls k) := IntWalk.i64_in _ (by omega)
          have f4 : IntKind.i64.wrap ((ix ds m - ix ds k) * (ix ds m - ix ds k)) = (ix ds m - ix ds k) * (ix ds m - ix ds k) := IntWalk.i64_in _ (by omega)
          have f5 : IntKind.i64.wrap (X + inN ds ls m k + (ix ds m - ix ds k) * (ix ls m - ix ls k)) = X + inN ds ls m k + (ix ds m - ix ds k) * (ix ls m - ix ls k) := IntWalk.i64_in _ (by omega)
          have f6 : IntKind.i64.wrap (Y + inN ds ds m k + (ix ds m - ix ds k) * (ix ds m - ix ds k)) = Y + inN ds ds m k + (ix ds m - ix ds k) * (ix ds m - ix ds k) := IntWalk.i64_in _ (by omega)
          have g1 : (m : Int) < n := by omega
          have g2 : (k : Int) < m := by omega
          clear hci hdi
          go_wp2_with fail
          go_quiet (fail)
          go_wp2_with fail
          go_quiet (fail)
          go_wp2_with fail
          go_roundw
          case rel => exact ⟨k + 1, by omega, by rw [hs3.out, Int.add_assoc], by rw [hs4.out, Int.add_assoc], by go_num, below_drewN HB _⟩
          case measure => simp [intOf]; omega
        · obtain rfl : k = m := by omega
          have HQ := Bl.then HP HB
          go_wp2_with fail
          go_roundw
          case rel => exact ⟨k + 1, by omega, by rw [hs1.out], by rw [hs2.out], by go_num, HQ⟩
          case measure => simp [intOf]; omega
    · obtain rfl : m = n := by omega
      go_wp2_with fail
      go_ret2
      exact ⟨rfl, HP⟩
set_option maxRecDepth 100000 in
theorem sGrowthOf_any (A A2 : Option Addr) (n c n2 c2 : Nat) (ds : List Int) (xs : List FootD) (w : World) (h : Rd w 1 A n (ints ds)) (h2 : Rd w 4 A2 n2 (feet xs)) (hn : n ≤ 1048576) (hn2 : n2 ≤ 1048576) :
    Calls Try.prog 23 #[.slice A n c, .slice A2 n2 c2] w fun e w' => e = .returned (.tuple #[.agg #[.int .i64 (fNum (daysC ds xs 0) (lowN (lineN ds xs) (lineD ds xs))), .int .i64 (fNum (daysC ds xs 0) (lowD (lineN ds xs) (lineD ds xs)))], .int .i64 (daysC ds xs 0)]) ∧ Below w.heap.size w w' := by
  have hlen := Lib.hid h2.feet_length
  by_cases h0 : daysC ds xs 0 ≠ 0
  · have k1 : (daysC ds xs 0 != 0) = true := by simpa using h0
    have h0' := Lib.hid h0
    clear h0
    go_enter Try.func23, Try.ntmps23
    go_wp2_with fail
    refine (l02Days_any _ _ _ _ _ _ _ _ _ _ (h.alloc _) (h2.alloc _) hn hn2).mono ?_
    rintro e w1 ⟨rfl, H1⟩
    have BZ := (Blk.new w 40 #[.int .i64 0, .int .i64 0]).below H1
    have HW : Below w.heap.size w w1 := Bl.then (by go_grown) H1
    clear H1
    have cZ0 : w1.cell? ⟨w.heap.size, 0, none⟩ = some (.int .i64 0) := BZ.cell 0
    have cZ1 : w1.cell? ⟨w.heap.size, 1, none⟩ = some (.int .i64 0) := BZ.cell 1
    have fZ := BZ.frozen
    have lZ := BZ.lt
    go_wp2_with fail
    refine bodyPost_ret (v := .tuple #[.agg #[.int .i64 0, .int .i64 0], .int .i64 (daysC ds xs 0)]) (by simp [results, Try.results23, go_sem, cZ0, cZ1]) rfl ?_
    exact ⟨retFr _ _ _ _ rfl h0'.out, (Below.setCell (Below.setCell HW (by simp; try omega) _) (by simp; try omega) _)⟩
  have k1 : (daysC ds xs 0 != 0) = false := by simpa using h0
  have h0 : daysC ds xs 0 = 0 := by simpa using h0
  obtain ⟨f1, f2, f3, f4, f5, f6, f7⟩ := days_good hlen.out h0
  have q1 := outN_bd (k := n2) 200000000 6000000000 180000000000 f4 f5 (Nat.le_refl _) f2 (by decide) (by decide) (by decide) (by decide)
  have q2 := outN_bd (k := n2) 400000000 12000000000 360000000000 f4 f4 (Nat.le_refl _) f2 (by decide) (by decide) (by decide) (by decide)
  have q3 := outN_pos f1 f6
  have q4 := Lib.hid (show lineN ds xs = outN ds (col xs 0) n2 by unfold lineN; rw [hlen.out])
  have q5 := Lib.hid (show lineD ds xs = outN ds ds n2 by unfold lineD; rw [hlen.out])
  have hnn : n = n2 := by have := h.len; omega
  subst hnn
  have f4' := Lib.hid f4
  have f5' := Lib.hid f5
  have h0' := Lib.hid h0
  clear f3 f4 f5 f6 h0
  go_enter Try.func23, Try.ntmps23
  go_wp2_with fail
  refine (l02Days_any _ _ _ _ _ _ _ _ _ _ (h.alloc _) (h2.alloc _) hn hn2).mono ?_
  rintro e w1 ⟨rfl, H1⟩
  have BZ := (Blk.new w 40 #[.int .i64 0, .int .i64 0]).below H1
  have HW : Below w.heap.size w w1 := Bl.then (by go_grown) H1
  clear H1
  have cZ0 : w1.cell? ⟨w.heap.size, 0, none⟩ = some (.int .i64 0) := BZ.cell 0
  have cZ1 : w1.cell? ⟨w.heap.size, 1, none⟩ = some (.int .i64 0) := BZ.cell 1
  have fZ := BZ.frozen
  have lZ := BZ.lt
  go_wp2_with fail
  refine (l02Column_any _ _ _ _ 0 _ (h2.below HW) (by omega) (by omega)).mono ?_
  rintro e w2 ⟨A3, c3, rfl, o3, hb2⟩
  clear cZ0 cZ1 fZ lZ
  replace BZ := BZ.below hb2
  replace HW := Bl.then HW hb2
  have cZ0 : w2.cell? ⟨w.heap.size, 0, none⟩ = some (.int .i64 0) := BZ.cell 0
  have cZ1 : w2.cell? ⟨w.heap.size, 1, none⟩ = some (.int .i64 0) := BZ.cell 1
  have fZ := BZ.frozen
  have lZ := BZ.lt
  have R3 := Rd.of_own o3
  clear o3
  go_wp2_with fail
  refine (l02Line_any _ _ _ _ _ _ _ _ (h.below HW) R3 f4'.out f5'.out f2).mono ?_
  rintro e w3 ⟨rfl, hb3⟩
  clear cZ0 cZ1 fZ lZ
  replace BZ := BZ.below hb3
  replace HW := Bl.then HW hb3
  have cZ0 : w3.cell? ⟨w.heap.size, 0, none⟩ = some (.int .i64 0) := BZ.cell 0
  have cZ1 : w3.cell? ⟨w.heap.size, 1, none⟩ = some (.int .i64 0) := BZ.cell 1
  have fZ := BZ.frozen
  have lZ := BZ.lt
  clear R3
  generalize outN ds (col xs 0) n = X at *
  generalize outN ds ds n = Y at *
  go_wp2_with fail
  refine (l02Make_any _ _ _ (by unfold Mid; omega) q3 (by unfold Mid; omega)).mono ?_
  rintro e w4 ⟨rfl, hb4⟩
  clear cZ0 cZ1 fZ lZ
  replace BZ := BZ.below hb4
  replace HW := Bl.then HW hb4
  have cZ0 : w4.cell? ⟨w.heap.size, 0, none⟩ = some (.int .i64 0) := BZ.cell 0
  have cZ1 : w4.cell? ⟨w.heap.size, 1, none⟩ = some (.int .i64 0) := BZ.cell 1
  have fZ := BZ.frozen
  have lZ := BZ.lt
  go_wp2_with fail
  refine bodyPost_ret (v := .tuple #[.agg #[.int .i64 (lowN X Y), .int .i64 (lowD X Y)], .int .i64 0]) (by simp [results, Try.results23, go_sem, cZ0, cZ1]) rfl ?_
  exact ⟨retFr0 _ _ _ _ _ h0'.out (by rw [q4.out, q5.out]) (by rw [q4.out, q5.out]), (Below.setCell (Below.setCell HW (by simp; try omega) _) (by simp; try omega) _)⟩
/-- The bounds of the two parts of a length. -/
theorem len_bd {L N D S day : Int} {n : Nat} (h1 : -150000 ≤ L ∧ L ≤ 150000) (h2 : -180000000000 ≤ N ∧ N ≤ 180000000000) (h3 : 1 ≤ D ∧ D ≤ 360000000000) (h4 : -300000 ≤ S ∧ S ≤ 300000) (hd : 0 ≤ day ∧ day ≤ 20000) (h5 : 1 ≤ n) (hn : n ≤ 30) :
    (-54000000000000000 ≤ L * D ∧ L * D ≤ 54000000000000000) ∧ (0 ≤ (n : Int) * day ∧ (n : Int) * day ≤ 600000) ∧ (-162000000000000000 ≤ N * ((n : Int) * day - S) ∧ N * ((n : Int) * day - S) ≤ 162000000000000000) ∧ (1 ≤ (n : Int) * D ∧ (n : Int) * D ≤ 10800000000000) := by
  have a1 := mul_bd (a := (n : Int)) (b := day) (by omega) (show (n : Int) ≤ 30 by omega) hd.1 hd.2 (C := 600000) (by decide)
  refine ⟨mul_abs (A := 150000) (B := 360000000000) _ (by omega) (by omega) (by decide) (by decide), a1, mul_abs (A := 180000000000) (B := 900000) _ (by omega) (by omega) (by decide) (by decide), ?_, ?_⟩
  · exact Int.mul_pos (by omega) (by omega)
  · exact (mul_bd (a := (n : Int)) (b := D) (by omega) (show (n : Int) ≤ 30 by omega) (by omega) h3.2 (C := 10800000000000) (by decide)).2
set_option maxRecDepth 100000 in
theorem sLengthOn_any (A A2 : Option Addr) (n c n2 c2 : Nat) (ds : List Int) (xs : List FootD) (day : Int) (w : World) (h : Rd w 1 A n (ints ds)) (h2 : Rd w 4 A2 n2 (feet xs)) (hn : n ≤ 1048576) (hn2 : n2 ≤ 1048576) :
    Calls Try.prog 27 #[.slice A n c, .slice A2 n2 c2, .int .i64 day] w fun e w' => e = .returned (.tuple #[.int .i64 (fNum (daysC ds xs day) (lenV ds xs day)), .int .i64 (daysC ds xs day)]) ∧ Below w.heap.size w w' := by
  have hlen := Lib.hid h2.feet_length
  by_cases h0 : daysC ds xs day ≠ 0
  · have k1 : (daysC ds xs day != 0) = true := by simpa using h0
    have h0' := Lib.hid h0
    clear h0
    go_enter Try.func27, Try.ntmps27
    go_wp2_with fail
    refine (l02Days_any _ _ _ _ _ _ _ _ _ _ h h2 hn hn2).mono ?_
    rintro e w1 ⟨rfl, hb1⟩
    go_wp2_with fail
    go_ret2
    exact ⟨retNC _ _ _ rfl h0'.out, hb1⟩
  have k1 : (daysC ds xs day != 0) = false := by simpa using h0
  have h0 : daysC ds xs day = 0 := by simpa using h0
  obtain ⟨f1, f2, f3, f4, f5, f6, f7⟩ := days_good hlen.out h0
  have q1 := outN_bd (k := n2) 200000000 6000000000 180000000000 f4 f5 (Nat.le_refl _) f2 (by decide) (by decide) (by decide) (by decide)
  have q2 := outN_bd (k := n2) 400000000 12000000000 360000000000 f4 f4 (Nat.le_refl _) f2 (by decide) (by decide) (by decide) (by decide)
  have q3 := outN_pos f1 f6
  have q4 := Lib.hid (show lineN ds xs = outN ds (col xs 0) n2 by unfold lineN; rw [hlen.out])
  have q5 := Lib.hid (show lineD ds xs = outN ds ds n2 by unfold lineD; rw [hlen.out])
  have hnn : n = n2 := by have := h.len; omega
  subst hnn
  have f4' := Lib.hid f4
  have f5' := Lib.hid f5
  have h0' := Lib.hid h0
  clear f3 f4 f5 f6 h0
  have q6 := sumA_bd (k := n) 150000 f5'.out (Nat.le_refl _) f2 (by decide) (by decide)
  have q7 := sumA_bd (k := n) 300000 f4'.out (Nat.le_refl _) f2 (by decide) (by decide)
  obtain ⟨⟨b1, b2⟩, ⟨b3, b4⟩, ⟨b5, b6⟩, ⟨b7, b8⟩⟩ := len_bd q6 q1 ⟨q3, q2.2⟩ q7 f7 (by omega) f2
  have q8 := Lib.hid (show lenV ds xs day = rnd (sumA (col xs 0) n * outN ds ds n + outN ds (col xs 0) n * ((n : Int) * day - sumA ds n)) ((n : Int) * outN ds ds n) by unfold lenV; rw [q4.out, q5.out, hlen.out])
  have f5'' := Lib.hid (show InM (col xs 0) n 10000 from fun j hj => by have := f5'.out j hj; omega)
  go_enter Try.func27, Try.ntmps27
  go_wp2_with fail
  refine (l02Days_any _ _ _ _ _ _ _ _ _ _ h h2 hn hn2).mono ?_
  rintro e w1 ⟨rfl, hb1⟩
  go_wp2_with fail
  refine (l02Column_any _ _ _ _ 0 _ (h2.below hb1) (by omega) (by omega)).mono ?_
  rintro e w2 ⟨A3, c3, rfl, o3, hb2⟩
  have R3 := Rd.of_own o3
  have H2 := Bl.then hb1 hb2
  clear o3
  go_wp2_with fail
  refine (l02Line_any _ _ _ _ _ _ _ _ (h.below H2) R3 f4'.out f5'.out f2).mono ?_
  rintro e w3 ⟨rfl, hb3⟩
  have R4 := R3.below hb3
  have R5 := h.below (Bl.then H2 hb3)
  have H3 := Bl.then H2 hb3
  clear R3
  go_wp2_with fail
  refine (l02Sum_any _ _ _ _ _ R4 f5''.out f2).mono ?_
  rintro e w4 ⟨rfl, rfl⟩
  have g1 : IntKind.i64.wrap (sumA (col xs 0) n * outN ds ds n) = sumA (col xs 0) n * outN ds ds n := IntWalk.i64_in _ (by omega)
  have g2 : IntKind.i64.wrap ((n : Int) * day) = (n : Int) * day := IntWalk.i64_in _ (by omega)
  go_wp2_with fail
  refine (l02Sum_any _ _ _ _ _ R5 f4'.out f2).mono ?_
  rintro e w5 ⟨rfl, rfl⟩
  clear R4 R5
  generalize outN ds (col xs 0) n = X at *
  generalize outN ds ds n = Y at *
  generalize sumA (col xs 0) n = L at *
  generalize sumA ds n = S at *
  have g3 : IntKind.i64.wrap ((n : Int) * day - S) = (n : Int) * day - S := IntWalk.i64_in _ (by omega)
  have g4 : IntKind.i64.wrap (X * ((n : Int) * day - S)) = X * ((n : Int) * day - S) := IntWalk.i64_in _ (by omega)
  have g5 : IntKind.i64.wrap (L * Y + X * ((n : Int) * day - S)) = L * Y + X * ((n : Int) * day - S) := IntWalk.i64_in _ (by omega)
  have g6 : IntKind.i64.wrap ((n : Int) * Y) = (n : Int) * Y := IntWalk.i64_in _ (by omega)
  go_wp2_with fail
  refine (l02Round_any _ _ _ (by unfold Mid; omega) b7 (by unfold Mid; omega)).mono ?_
  rintro e w6 ⟨rfl, rfl⟩
  go_wp2_with fail
  go_ret2
  exact ⟨retNC0 _ _ _ h0'.out q8.out.symm, H3⟩
end Go.Proofs.Ytlmjchmbbmiocaa
