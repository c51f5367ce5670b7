/-
  GrowthOf and LengthOn of the program; the condition of a slice argument is that it reads as the given list.
-/
import Derived.Test.YtlmjchmbbmiocaaGrow
namespace Go.Proofs.Ytlmjchmbbmiocaa
open Go.RowKit
set_option maxHeartbeats 1600000

theorem outB_false {zs : List Int} {lo hi : Int} (h : outB zs lo hi = false) : AllIn zs zs.length lo hi := fun j hj => by
  cases hh : inR (ix zs j) lo hi
  · rw [outB_yes hj hh] at h; cases h
  · rfl
theorem rise_out {zs : List Int} {lo hi : Int} (h : outB zs lo hi = true) : riseB zs lo hi = false := riseB_no fun hr => by
  rw [outB_no (fun j hj => hr.1 j hj)] at h; cases h
def UpTo (ds : List Int) (m : Nat) : Prop := ∀ j, 0 < j → j < m → ix ds (j - 1) < ix ds j
theorem UpTo.snoc {ds : List Int} {m : Nat} (h : UpTo ds m) (hm : 0 < m → ix ds (m - 1) < ix ds m) : UpTo ds (m + 1) := fun j h0 hj => by
  by_cases e : j = m
  · subst e; exact hm h0
  · exact h j h0 (by omega)
noncomputable def growCells (ds : List Int) (xs : List FootD) (day : Int) : Array Value := #[.int .i64 (fNum (daysC ds xs day) (lineN ds xs)), .int .i64 (fNum (daysC ds xs day) (lineD ds xs)), .int .i64 (fNum (daysC ds xs day) (sumA ds xs.length)), .int .i64 (fNum (daysC ds xs day) (sumA (col xs 0) xs.length)), .int .i64 (fNum (daysC ds xs day) xs.length)]
theorem retG (ds : List Int) (xs : List FootD) (day k : Int) (hc : daysC ds xs day = k) (hk : k ≠ 0) :
    Ending.returned (.tuple #[.agg #[.int .i64 0, .int .i64 0, .int .i64 0, .int .i64 0, .int .i64 0], .int .i64 k]) = .returned (.tuple #[.agg (growCells ds xs day), .int .i64 (daysC ds xs day)]) := by
  unfold growCells; subst hc; simp [fNum, hk]
theorem growCells_ok {ds : List Int} {xs : List FootD} {day : Int} (hc : daysC ds xs day = 0) : growCells ds xs day = #[.int .i64 (lineN ds xs), .int .i64 (lineD ds xs), .int .i64 (sumA ds xs.length), .int .i64 (sumA (col xs 0) xs.length), .int .i64 xs.length] := by
  unfold growCells; rw [hc]; simp [fNum]
theorem retG0 (ds : List Int) (xs : List FootD) (day x1 x2 x3 x4 x5 : Int) (hc : daysC ds xs day = 0) (h1 : x1 = lineN ds xs) (h2 : x2 = lineD ds xs) (h3 : x3 = sumA ds xs.length) (h4 : x4 = sumA (col xs 0) xs.length) (h5 : x5 = xs.length) :
    Ending.returned (.tuple #[.agg #[.int .i64 x1, .int .i64 x2, .int .i64 x3, .int .i64 x4, .int .i64 x5], .int .i64 0]) = .returned (.tuple #[.agg (growCells ds xs day), .int .i64 (daysC ds xs day)]) := by
  rw [growCells_ok hc, hc]; subst h1 h2 h3 h4 h5; rfl
/-- A good list, but for the number of days. -/
theorem days_few {ds : List Int} {xs : List FootD} {day : Int} (h1 : feetOk xs = true) (h2 : ds.length = xs.length) (h3 : outB ds 0 10000 = false) (h4 : inR day 0 20000 = true) (hr : UpTo ds ds.length) : daysC ds xs day = if xs.length < 2 then 3 else 0 := by
  have : riseB ds 0 10000 = true := riseB_yes ⟨fun j hj => outB_false h3 j hj, fun j h0 hj => hr j h0 hj⟩
  simp [daysC, h1, h2, this, h4]
theorem days_fall {ds : List Int} {xs : List FootD} {day : Int} {m : Nat} (h1 : feetOk xs = true) (h0 : 0 < m) (hm : m < ds.length) (h : ix ds m ≤ ix ds (m - 1)) : daysC ds xs day = 2 := by
  have : riseB ds 0 10000 = false := riseB_no fun hr => by have := hr.2 m h0 hm; omega
  simp [daysC, h1, this]
set_option maxRecDepth 100000 in
theorem growthOf_any (A A2 : Option Addr) (n c n2 c2 : Nat) (ds : List Int) (xs : List FootD) (day : Int) (w : World) (h : Rd w 1 A n (ints ds)) (h2 : Rd w 4 A2 n2 (feet xs)) (hn : n ≤ 1048576) (hn2 : n2 ≤ 1048576) :
    Calls Try.prog 52 #[.slice A n c, .slice A2 n2 c2, .int .i64 day] w fun e w' => e = .returned (.tuple #[.agg (growCells ds xs day), .int .i64 (daysC ds xs day)]) ∧ Below w.heap.size w w' := by
  have hlen := Lib.hid h.len
  have hlen2 := Lib.hid h2.feet_length
  cases h1 : feetOk xs
  · have hr := Lib.hid (show daysC ds xs day = 1 by simp [daysC, h1])
    go_enter Try.func52, Try.ntmps52
    go_wp2_with fail
    refine (ValidFeet_any _ _ _ _ _ (h2.alloc _) (by omega)).mono ?_
    rintro e w1 ⟨rfl, H1⟩
    have BZ := (Blk.new w 66 #[.int .i64 0, .int .i64 0, .int .i64 0, .int .i64 0, .int .i64 0]).below H1
    have HW : Below w.heap.size w w1 := Bl.then (by go_grown) H1
    clear H1
    have cZ0 : w1.cell? ⟨w.heap.size, 0, none⟩ = some (.int .i64 0) := BZ.cell 0
    have cZ1 : w1.cell? ⟨w.heap.size, 1, none⟩ = some (.int .i64 0) := BZ.cell 1
    have cZ2 : w1.cell? ⟨w.heap.size, 2, none⟩ = some (.int .i64 0) := BZ.cell 2
    have cZ3 : w1.cell? ⟨w.heap.size, 3, none⟩ = some (.int .i64 0) := BZ.cell 3
    have cZ4 : w1.cell? ⟨w.heap.size, 4, none⟩ = some (.int .i64 0) := BZ.cell 4
    have fZ := BZ.frozen
    have lZ := BZ.lt
    go_wp2_with fail
    refine bodyPost_ret (v := .tuple #[.agg #[.int .i64 0, .int .i64 0, .int .i64 0, .int .i64 0, .int .i64 0], .int .i64 1]) (by simp [results, Try.results52, go_sem, cZ0, cZ1, cZ2, cZ3, cZ4]) rfl ?_
    exact ⟨retG _ _ _ _ hr.out (by decide), (Below.setCell (Below.setCell (Below.setCell (Below.setCell (Below.setCell HW (by simp; try omega) _) (by simp; try omega) _) (by simp; try omega) _) (by simp; try omega) _) (by simp; try omega) _)⟩
  by_cases h3 : n = n2
  rotate_left
  · have hr := Lib.hid (show daysC ds xs day = 2 by simp [daysC, h1, hlen.out, hlen2.out, h3])
    have k1 : ((n : Int) != n2) = true := by simp; omega
    go_enter Try.func52, Try.ntmps52
    go_wp2_with fail
    refine (ValidFeet_any _ _ _ _ _ (h2.alloc _) (by omega)).mono ?_
    rintro e w1 ⟨rfl, H1⟩
    have BZ := (Blk.new w 66 #[.int .i64 0, .int .i64 0, .int .i64 0, .int .i64 0, .int .i64 0]).below H1
    have HW : Below w.heap.size w w1 := Bl.then (by go_grown) H1
    clear H1
    have cZ0 : w1.cell? ⟨w.heap.size, 0, none⟩ = some (.int .i64 0) := BZ.cell 0
    have cZ1 : w1.cell? ⟨w.heap.size, 1, none⟩ = some (.int .i64 0) := BZ.cell 1
    have cZ2 : w1.cell? ⟨w.heap.size, 2, none⟩ = some (.int .i64 0) := BZ.cell 2
    have cZ3 : w1.cell? ⟨w.heap.size, 3, none⟩ = some (.int .i64 0) := BZ.cell 3
    have cZ4 : w1.cell? ⟨w.heap.size, 4, none⟩ = some (.int .i64 0) := BZ.cell 4
    have fZ := BZ.frozen
    have lZ := BZ.lt
    go_wp2_with fail
    refine bodyPost_ret (v := .tuple #[.agg #[.int .i64 0, .int .i64 0, .int .i64 0, .int .i64 0, .int .i64 0], .int .i64 2]) (by simp [results, Try.results52, go_sem, cZ0, cZ1, cZ2, cZ3, cZ4]) rfl ?_
    exact ⟨retG _ _ _ _ hr.out (by decide), (Below.setCell (Below.setCell (Below.setCell (Below.setCell (Below.setCell HW (by simp; try omega) _) (by simp; try omega) _) (by simp; try omega) _) (by simp; try omega) _) (by simp; try omega) _)⟩
  have hl := Lib.hid (show ds.length = xs.length by rw [hlen.out, hlen2.out, h3])
  subst h3
  have k1 : ((n : Int) != n) = false := by simp
  cases h4 : outB ds 0 10000
  rotate_left
  · have hr := Lib.hid (show daysC ds xs day = 2 by simp [daysC, h1, rise_out h4])
    go_enter Try.func52, Try.ntmps52
    go_wp2_with fail
    refine (ValidFeet_any _ _ _ _ _ (h2.alloc _) (by omega)).mono ?_
    rintro e w1 ⟨rfl, H1⟩
    have BZ := (Blk.new w 66 #[.int .i64 0, .int .i64 0, .int .i64 0, .int .i64 0, .int .i64 0]).below H1
    have HW : Below w.heap.size w w1 := Bl.then (by go_grown) H1
    clear H1
    have cZ0 : w1.cell? ⟨w.heap.size, 0, none⟩ = some (.int .i64 0) := BZ.cell 0
    have cZ1 : w1.cell? ⟨w.heap.size, 1, none⟩ = some (.int .i64 0) := BZ.cell 1
    have cZ2 : w1.cell? ⟨w.heap.size, 2, none⟩ = some (.int .i64 0) := BZ.cell 2
    have cZ3 : w1.cell? ⟨w.heap.size, 3, none⟩ = some (.int .i64 0) := BZ.cell 3
    have cZ4 : w1.cell? ⟨w.heap.size, 4, none⟩ = some (.int .i64 0) := BZ.cell 4
    have fZ := BZ.frozen
    have lZ := BZ.lt
    go_wp2_with fail
    refine (outside_any _ _ _ _ _ _ _ (h.below HW) (by omega)).mono ?_
    rintro e w2 ⟨rfl, hb2⟩
    clear cZ0 cZ1 cZ2 cZ3 cZ4 fZ lZ
    replace BZ := BZ.below hb2
    replace HW := Bl.then HW hb2
    have cZ0 : w2.cell? ⟨w.heap.size, 0, none⟩ = some (.int .i64 0) := BZ.cell 0
    have cZ1 : w2.cell? ⟨w.heap.size, 1, none⟩ = some (.int .i64 0) := BZ.cell 1
    have cZ2 : w2.cell? ⟨w.heap.size, 2, none⟩ = some (.int .i64 0) := BZ.cell 2
    have cZ3 : w2.cell? ⟨w.heap.size, 3, none⟩ = some (.int .i64 0) := BZ.cell 3
    have cZ4 : w2.cell? ⟨w.heap.size, 4, none⟩ = some (.int .i64 0) := BZ.cell 4
    have fZ := BZ.frozen
    have lZ := BZ.lt
    go_wp2_with fail
    refine bodyPost_ret (v := .tuple #[.agg #[.int .i64 0, .int .i64 0, .int .i64 0, .int .i64 0, .int .i64 0], .int .i64 2]) (by simp [results, Try.results52, go_sem, cZ0, cZ1, cZ2, cZ3, cZ4]) rfl ?_
    exact ⟨retG _ _ _ _ hr.out (by decide), (Below.setCell (Below.setCell (Below.setCell (Below.setCell (Below.setCell HW (by simp; try omega) _) (by simp; try omega) _) (by simp; try omega) _) (by simp; try omega) _) (by simp; try omega) _)⟩
  cases h5 : inR day 0 20000
  · have hr := Lib.hid (show daysC ds xs day = 2 by simp [daysC, h1, h5])
    go_enter Try.func52, Try.ntmps52
    go_wp2_with fail
    refine (ValidFeet_any _ _ _ _ _ (h2.alloc _) (by omega)).mono ?_
    rintro e w1 ⟨rfl, H1⟩
    have BZ := (Blk.new w 66 #[.int .i64 0, .int .i64 0, .int .i64 0, .int .i64 0, .int .i64 0]).below H1
    have HW : Below w.heap.size w w1 := Bl.then (by go_grown) H1
    clear H1
    have cZ0 : w1.cell? ⟨w.heap.size, 0, none⟩ = some (.int .i64 0) := BZ.cell 0
    have cZ1 : w1.cell? ⟨w.heap.size, 1, none⟩ = some (.int .i64 0) := BZ.cell 1
    have cZ2 : w1.cell? ⟨w.heap.size, 2, none⟩ = some (.int .i64 0) := BZ.cell 2
    have cZ3 : w1.cell? ⟨w.heap.size, 3, none⟩ = some (.int .i64 0) := BZ.cell 3
    have cZ4 : w1.cell? ⟨w.heap.size, 4, none⟩ = some (.int .i64 0) := BZ.cell 4
    have fZ := BZ.frozen
    have lZ := BZ.lt
    go_wp2_with fail
    refine (outside_any _ _ _ _ _ _ _ (h.below HW) (by omega)).mono ?_
    rintro e w2 ⟨rfl, hb2⟩
    clear cZ0 cZ1 cZ2 cZ3 cZ4 fZ lZ
    replace BZ := BZ.below hb2
    replace HW := Bl.then HW hb2
    have cZ0 : w2.cell? ⟨w.heap.size, 0, none⟩ = some (.int .i64 0) := BZ.cell 0
    have cZ1 : w2.cell? ⟨w.heap.size, 1, none⟩ = some (.int .i64 0) := BZ.cell 1
    have cZ2 : w2.cell? ⟨w.heap.size, 2, none⟩ = some (.int .i64 0) := BZ.cell 2
    have cZ3 : w2.cell? ⟨w.heap.size, 3, none⟩ = some (.int .i64 0) := BZ.cell 3
    have cZ4 : w2.cell? ⟨w.heap.size, 4, none⟩ = some (.int .i64 0) := BZ.cell 4
    have fZ := BZ.frozen
    have lZ := BZ.lt
    go_wp2_with (go_at_call 79; refine (within_any _ _ _ _).mono ?_; rintro e w9 ⟨rfl, rfl⟩)
    refine bodyPost_ret (v := .tuple #[.agg #[.int .i64 0, .int .i64 0, .int .i64 0, .int .i64 0, .int .i64 0], .int .i64 2]) (by simp [results, Try.results52, go_sem, cZ0, cZ1, cZ2, cZ3, cZ4]) rfl ?_
    exact ⟨retG _ _ _ _ hr.out (by decide), (Below.setCell (Below.setCell (Below.setCell (Below.setCell (Below.setCell HW (by simp; try omega) _) (by simp; try omega) _) (by simp; try omega) _) (by simp; try omega) _) (by simp; try omega) _)⟩
  obtain ⟨hn30, hfo⟩ := feetOk_bd h1
  rw [hlen2.out] at hn30
  have hfall := Lib.hid (fun (m : Nat) (h0 : 0 < m) (hm : m < ds.length) (h : ix ds m ≤ ix ds (m - 1)) => days_fall (day := day) h1 h0 hm h)
  have hfew := Lib.hid (fun hr => days_few h1 hl.out h4 h5 hr)
  have hd' := Lib.hid (show InM ds n 10000 by have := outB_false h4; rw [hlen.out] at this; exact this.inM (by omega) (by omega))
  have hl' := Lib.hid (show InM (col xs 0) n 5000 by
    have hx : xs.all fOk = true := by simp only [feetOk, Bool.and_eq_true] at h1; exact h1.1
    have hc := col_in hx (k := 0) (by decide)
    rw [col_len, hlen2.out] at hc
    exact hc.inM (by omega) (by omega))
  clear hfo
  go_enter Try.func52, Try.ntmps52
  go_wp2_with fail
  refine (ValidFeet_any _ _ _ _ _ (h2.alloc _) (by omega)).mono ?_
  rintro e w1 ⟨rfl, H1⟩
  have BZ := (Blk.new w 66 #[.int .i64 0, .int .i64 0, .int .i64 0, .int .i64 0, .int .i64 0]).below H1
  have HW : Below w.heap.size w w1 := Bl.then (by go_grown) H1
  clear H1
  have cZ0 : w1.cell? ⟨w.heap.size, 0, none⟩ = some (.int .i64 0) := BZ.cell 0
  have cZ1 : w1.cell? ⟨w.heap.size, 1, none⟩ = some (.int .i64 0) := BZ.cell 1
  have cZ2 : w1.cell? ⟨w.heap.size, 2, none⟩ = some (.int .i64 0) := BZ.cell 2
  have cZ3 : w1.cell? ⟨w.heap.size, 3, none⟩ = some (.int .i64 0) := BZ.cell 3
  have cZ4 : w1.cell? ⟨w.heap.size, 4, none⟩ = some (.int .i64 0) := BZ.cell 4
  have fZ := BZ.frozen
  have lZ := BZ.lt
  go_wp2_with fail
  refine (outside_any _ _ _ _ _ _ _ (h.below HW) (by omega)).mono ?_
  rintro e w2 ⟨rfl, hb2⟩
  clear cZ0 cZ1 cZ2 cZ3 cZ4 fZ lZ
  replace BZ := BZ.below hb2
  replace HW := Bl.then HW hb2
  have cZ0 : w2.cell? ⟨w.heap.size, 0, none⟩ = some (.int .i64 0) := BZ.cell 0
  have cZ1 : w2.cell? ⟨w.heap.size, 1, none⟩ = some (.int .i64 0) := BZ.cell 1
  have cZ2 : w2.cell? ⟨w.heap.size, 2, none⟩ = some (.int .i64 0) := BZ.cell 2
  have cZ3 : w2.cell? ⟨w.heap.size, 3, none⟩ = some (.int .i64 0) := BZ.cell 3
  have cZ4 : w2.cell? ⟨w.heap.size, 4, none⟩ = some (.int .i64 0) := BZ.cell 4
  have fZ := BZ.frozen
  have lZ := BZ.lt
  have HV := HW
  have BZold := BZ
  go_wp2_with (go_at_call 79; refine (within_any _ _ _ _).mono ?_; rintro e w9 ⟨rfl, rfl⟩)
  clear cZ0 cZ1 cZ2 cZ3 cZ4 fZ lZ
  replace BZ := BZ.alloc (.cells #[.int .i64 0, .int .i64 0, .int .i64 0, .int .i64 0, .int .i64 n] 66)
  have BG := Blk.new w2 66 #[.int .i64 0, .int .i64 0, .int .i64 0, .int .i64 0, .int .i64 n]
  replace HW := Bl.alloc HW (.cells #[.int .i64 0, .int .i64 0, .int .i64 0, .int .i64 0, .int .i64 n] 66)
  have BZ' := Lib.hid BZold
  clear BZ BZold
  go_loopw [10, 11, 41] (fun p q i wr => ∃ m : Nat, m ≤ n ∧ p = .int .i64 (sumP ds (col xs 0) m) ∧ q = .int .i64 (sumP ds ds m) ∧ i = .int .i64 m ∧ Hid (UpTo ds m) ∧ Blk wr w2.heap.size 66 #[.int .i64 0, .int .i64 0, .int .i64 (sumA ds m), .int .i64 (sumA (col xs 0) m), .int .i64 n] ∧ Below w2.heap.size w2 wr) (fun _ _ i _ => n - (intOf i).toNat)
  case atStart => exact ⟨0, by omega, rfl, rfl, rfl, Lib.hid fun j _ hj => by omega, BG, by go_grown⟩
  case round =>
    clear BG HW
    obtain ⟨m, hm, rfl, rfl, rfl, hup, hG, HB⟩ := hrel
    have BZ2 := (BZ'.out).below HB
    have HW := Bl.then HV HB
    have lv : w.heap.size ≤ w2.heap.size := HV.size
    have cG0 : wr.cell? ⟨w2.heap.size, 0, none⟩ = some (.int .i64 0) := hG.cell 0
    have cG1 : wr.cell? ⟨w2.heap.size, 1, none⟩ = some (.int .i64 0) := hG.cell 1
    have cG2 : wr.cell? ⟨w2.heap.size, 2, none⟩ = some (.int .i64 (sumA ds m)) := hG.cell 2
    have cG3 : wr.cell? ⟨w2.heap.size, 3, none⟩ = some (.int .i64 (sumA (col xs 0) m)) := hG.cell 3
    have cG4 : wr.cell? ⟨w2.heap.size, 4, none⟩ = some (.int .i64 n) := hG.cell 4
    have fG := hG.frozen
    have lG := hG.lt
    have cZ0 : wr.cell? ⟨w.heap.size, 0, none⟩ = some (.int .i64 0) := BZ2.cell 0
    have cZ1 : wr.cell? ⟨w.heap.size, 1, none⟩ = some (.int .i64 0) := BZ2.cell 1
    have cZ2 : wr.cell? ⟨w.heap.size, 2, none⟩ = some (.int .i64 0) := BZ2.cell 2
    have cZ3 : wr.cell? ⟨w.heap.size, 3, none⟩ = some (.int .i64 0) := BZ2.cell 3
    have cZ4 : wr.cell? ⟨w.heap.size, 4, none⟩ = some (.int .i64 0) := BZ2.cell 4
    have fZ := BZ2.frozen
    have lZ := BZ2.lt
    have neZ : w.heap.size ≠ w2.heap.size := by have := (BZ'.out).lt; omega
    have neZ2 : w2.heap.size ≠ w.heap.size := fun e => neZ e.symm
    have s1 := sumA_bd (k := m) 300000 hd'.out hm hn30 (by decide) (by decide)
    have s2 := sumA_bd (k := m) 150000 hl'.out hm hn30 (by decide) (by decide)
    have s3 := sumP_bd (k := m) 50000000 1500000000 hd'.out hl'.out hm hn30 (by decide) (by decide) (by decide)
    have s4 := sumP_bd (k := m) 100000000 3000000000 hd'.out hd'.out hm hn30 (by decide) (by decide) (by decide)
    by_cases hlm : m < n
    · have hup1 := Lib.hid (sumA_succ ds m)
      have hup2 := Lib.hid (sumA_succ (col xs 0) m)
      have hup3 := Lib.hid (sumP_succ ds (col xs 0) m)
      have hup4 := Lib.hid (sumP_succ ds ds m)
      have hfm := Lib.hid (fun (h0 : 0 < m) (h : ix ds m ≤ ix ds (m - 1)) => hfall.out m h0 (by rw [hlen.out]; exact hlm) h)
      have hix := ix_col (xs := xs) (k := m) (by rw [hlen2.out]; exact hlm)
      have d1 := hd'.out m hlm
      have d2 := hl'.out m hlm
      rw [hix] at d2 hup2 hup3
      clear hix
      generalize sumA ds m = S at *
      generalize sumA (col xs 0) m = L at *
      generalize sumP ds (col xs 0) m = P at *
      generalize sumP ds ds m = Q at *
      obtain ⟨b1, off1, rfl, hb1, e1⟩ := (h.below HV).int hlm
      obtain ⟨b2, off2, rfl, hb2, x0, x1, x2, x3⟩ := (h2.below HV).feet hlm
      have e1' := cell_later HB e1
      have x0' := cell_later HB x0
      have ne1 : b1 ≠ w2.heap.size := by omega
      have ne2 : b2 ≠ w2.heap.size := by omega
      have g1 : (m : Int) < n := by omega
      clear x0 x1 x2 x3 e1
      by_cases h0 : 0 < m
      rotate_left
      · have dp := mul_abs (a := ix ds m) (b := (feetAt xs m).l) (A := 10000) (B := 5000) 50000000 (by omega) (by omega) (by decide) (by decide)
        have dq := mul_abs (a := ix ds m) (b := ix ds m) (A := 10000) (B := 10000) 100000000 (by omega) (by omega) (by decide) (by decide)
        have f1 : IntKind.i64.wrap (S + ix ds m) = S + ix ds m := IntWalk.i64_in _ (by omega)
        have f2 : IntKind.i64.wrap (L + (feetAt xs m).l) = L + (feetAt xs m).l := IntWalk.i64_in _ (by omega)
        have f3 : IntKind.i64.wrap (ix ds m * (feetAt xs m).l) = ix ds m * (feetAt xs m).l := IntWalk.i64_in _ (by omega)
        have f4 : IntKind.i64.wrap (ix ds m * ix ds m) = ix ds m * ix ds m := IntWalk.i64_in _ (by omega)
        have f5 : IntKind.i64.wrap (P + ix ds m * (feetAt xs m).l) = P + ix ds m * (feetAt xs m).l := IntWalk.i64_in _ (by omega)
        have f6 : IntKind.i64.wrap (Q + ix ds m * ix ds m) = Q + ix ds m * ix ds m := IntWalk.i64_in _ (by omega)
        go_wp2_with fail
        go_region
        all_goals
          go_wp2_with fail
          go_roundw
          case rel => exact ⟨m + 1, by omega, by rw [hup3.out], by rw [hup4.out], by go_num, Lib.hid (hup.out.snoc fun hh => by omega), by rw [hup1.out, hup2.out]; exact (((hG.set 2 _)).set 3 _), ((HB.setCell (p := ⟨w2.heap.size, 2, none⟩) (Nat.le_refl _) _).setCell (p := ⟨w2.heap.size, 3, none⟩) (Nat.le_refl _) _).drew⟩
          case measure => simp [intOf]; omega
      obtain ⟨b', off', hq, hb', e2⟩ := (h.below HV).int (k := m - 1) (by omega)
      simp only [Option.some.injEq, Addr.mk.injEq, and_true] at hq
      obtain ⟨rfl, rfl⟩ := hq
      have e2' := cell_later HB e2
      clear e2
      by_cases hf : ix ds m ≤ ix ds (m - 1)
      · have hr := Lib.hid (hfm.out h0 hf)
        go_wp2_with fail
        refine bodyPost_ret (v := .tuple #[.agg #[.int .i64 0, .int .i64 0, .int .i64 0, .int .i64 0, .int .i64 0], .int .i64 2]) (by simp [results, Try.results52, go_sem, cZ0, cZ1, cZ2, cZ3, cZ4]) rfl ?_
        exact ⟨retG _ _ _ _ hr.out (by decide), (Below.setCell (Below.setCell (Below.setCell (Below.setCell (Below.setCell HW (by simp; try omega) _) (by simp; try omega) _) (by simp; try omega) _) (by simp; try omega) _) (by simp; try omega) _)⟩
      have dp := mul_abs (a := ix ds m) (b := (feetAt xs m).l) (A := 10000) (B := 5000) 50000000 (by omega) (by omega) (by decide) (by decide)
      have dq := mul_abs (a := ix ds m) (b := ix ds m) (A := 10000) (B := 10000) 100000000 (by omega) (by omega) (by decide) (by decide)
      have f1 : IntKind.i64.wrap (S + ix ds m) = S + ix ds m := IntWalk.i64_in _ (by omega)
      have f2 : IntKind.i64.wrap (L + (feetAt xs m).l) = L + (feetAt xs m).l := IntWalk.i64_in _ (by omega)
      have f3 : IntKind.i64.wrap (ix ds m * (feetAt xs m).l) = ix ds m * (feetAt xs m).l := IntWalk.i64_in _ (by omega)
      have f4 : IntKind.i64.wrap (ix ds m * ix ds m) = ix ds m * ix ds m := IntWalk.i64_in _ (by omega)
      have f5 : IntKind.i64.wrap (P + ix ds m * (feetAt xs m).l) = P + ix ds m * (feetAt xs m).l := IntWalk.i64_in _ (by omega)
      have f6 : IntKind.i64.wrap (Q + ix ds m * ix ds m) = Q + ix ds m * ix ds m := IntWalk.i64_in _ (by omega)
      go_wp2_with fail
      go_region
      all_goals
        go_wp2_with fail
        go_roundw
        case rel => exact ⟨m + 1, by omega, by rw [hup3.out], by rw [hup4.out], by go_num, Lib.hid (hup.out.snoc fun hh => by omega), by rw [hup1.out, hup2.out]; exact (((hG.set 2 _)).set 3 _), ((HB.setCell (p := ⟨w2.heap.size, 2, none⟩) (Nat.le_refl _) _).setCell (p := ⟨w2.heap.size, 3, none⟩) (Nat.le_refl _) _).drew⟩
        case measure => simp [intOf]; omega
    · obtain rfl : m = n := by omega
      have hC := Lib.hid (hfew.out (by rw [hlen.out]; exact hup.out))
      by_cases h2m : m < 2
      · have hr := Lib.hid (show daysC ds xs day = 3 by rw [hC.out, if_pos (by rw [hlen2.out]; exact h2m)])
        go_wp2_with fail
        refine bodyPost_ret (v := .tuple #[.agg #[.int .i64 0, .int .i64 0, .int .i64 0, .int .i64 0, .int .i64 0], .int .i64 3]) (by simp [results, Try.results52, go_sem, cZ0, cZ1, cZ2, cZ3, cZ4]) rfl ?_
        exact ⟨retG _ _ _ _ hr.out (by decide), (Below.setCell (Below.setCell (Below.setCell (Below.setCell (Below.setCell HW (by simp; try omega) _) (by simp; try omega) _) (by simp; try omega) _) (by simp; try omega) _) (by simp; try omega) _)⟩
      have hr := Lib.hid (show daysC ds xs day = 0 by rw [hC.out, if_neg (by rw [hlen2.out]; exact h2m)])
      have n1 := Lib.hid (show lineN ds xs = (m : Int) * sumP ds (col xs 0) m - sumA ds m * sumA (col xs 0) m by unfold lineN; rw [hlen2.out]; exact outN_eq _ _ _)
      have n2 := Lib.hid (show lineD ds xs = (m : Int) * sumP ds ds m - sumA ds m * sumA ds m by unfold lineD; rw [hlen2.out]; exact outN_eq _ _ _)
      have n3 := Lib.hid (show sumA ds xs.length = sumA ds m by rw [hlen2.out])
      have n4 := Lib.hid (show sumA (col xs 0) xs.length = sumA (col xs 0) m by rw [hlen2.out])
      clear hC hfall hfew
      generalize sumA ds m = S at *
      generalize sumA (col xs 0) m = L at *
      generalize sumP ds (col xs 0) m = P at *
      generalize sumP ds ds m = Q at *
      have p1 := mul_abs (a := (m : Int)) (b := P) (A := 30) (B := 1500000000) 45000000000 (by omega) (by omega) (by decide) (by decide)
      have p2 := mul_abs (a := S) (b := L) (A := 300000) (B := 150000) 45000000000 (by omega) (by omega) (by decide) (by decide)
      have p3 := mul_abs (a := (m : Int)) (b := Q) (A := 30) (B := 3000000000) 90000000000 (by omega) (by omega) (by decide) (by decide)
      have p4 := mul_abs (a := S) (b := S) (A := 300000) (B := 300000) 90000000000 (by omega) (by omega) (by decide) (by decide)
      have f1 : IntKind.i64.wrap ((m : Int) * P) = (m : Int) * P := IntWalk.i64_in _ (by omega)
      have f2 : IntKind.i64.wrap (S * L) = S * L := IntWalk.i64_in _ (by omega)
      have f3 : IntKind.i64.wrap ((m : Int) * Q) = (m : Int) * Q := IntWalk.i64_in _ (by omega)
      have f4 : IntKind.i64.wrap (S * S) = S * S := IntWalk.i64_in _ (by omega)
      have f5 : IntKind.i64.wrap ((m : Int) * P - S * L) = (m : Int) * P - S * L := IntWalk.i64_in _ (by omega)
      have f6 : IntKind.i64.wrap ((m : Int) * Q - S * S) = (m : Int) * Q - S * S := IntWalk.i64_in _ (by omega)
      go_wp2_with fail
      refine bodyPost_ret (v := .tuple #[.agg #[.int .i64 ((m : Int) * P - S * L), .int .i64 ((m : Int) * Q - S * S), .int .i64 S, .int .i64 L, .int .i64 m], .int .i64 0]) (by simp [results, Try.results52, go_sem, cZ0, cZ1, cZ2, cZ3, cZ4]) rfl ?_
      exact ⟨retG0 _ _ _ _ _ _ _ _ hr.out n1.out.symm n2.out.symm n3.out.symm n4.out.symm (by rw [hlen2.out]), (Below.setCell (Below.setCell (Below.setCell (Below.setCell (Below.setCell (Below.setCell (Below.setCell HW (by simp; try omega) _) (by simp; try omega) _) (by simp; try omega) _) (by simp; try omega) _) (by simp; try omega) _) (by simp; try omega) _) (by simp; try omega) _)⟩
set_option maxRecDepth 100000 in
theorem GrowthOf_any (A A2 : Option Addr) (n c n2 c2 : Nat) (ds : List Int) (xs : List FootD) (w : World) (h : Rd w 1 A n (ints ds)) (h2 : Rd w 4 A2 n2 (feet xs)) (hn : n ≤ 1048576) (hn2 : n2 ≤ 1048576) :
    Calls Try.prog 25 #[.slice A n c, .slice A2 n2 c2] w fun e w' => e = .returned (.tuple #[.agg #[.int .i64 (fNum (daysC ds xs 0) (lowN (lineN ds xs) (lineD ds xs))), .int .i64 (fNum (daysC ds xs 0) (lowD (lineN ds xs) (lineD ds xs)))], .int .i64 (daysC ds xs 0)]) ∧ Below w.heap.size w w' := by
  have hlen := Lib.hid h2.feet_length
  by_cases h0 : daysC ds xs 0 ≠ 0
  · have k1 : (daysC ds xs 0 != 0) = true := by simpa using h0
    have GC : growCells ds xs 0 = #[.int .i64 0, .int .i64 0, .int .i64 0, .int .i64 0, .int .i64 0] := by unfold growCells; simp [fNum, h0]
    have h0' := Lib.hid h0
    clear h0
    have ct := growthOf_any _ _ _ c _ c2 _ _ 0 _ (h.alloc (.cells #[.int .i64 0, .int .i64 0] 40)) (h2.alloc (.cells #[.int .i64 0, .int .i64 0] 40)) hn hn2
    rw [GC] at ct
    go_enter Try.func25, Try.ntmps25
    go_wp2_with fail
    refine (ct).mono ?_
    rintro e w1 ⟨rfl, H1⟩
    clear ct
    have BZ := (Blk.new w 40 #[.int .i64 0, .int .i64 0]).below H1
    have HW : Below w.heap.size w w1 := Bl.then (by go_grown) H1
    clear H1
    have cZ0 : w1.cell? ⟨w.heap.size, 0, none⟩ = some (.int .i64 0) := BZ.cell 0
    have cZ1 : w1.cell? ⟨w.heap.size, 1, none⟩ = some (.int .i64 0) := BZ.cell 1
    have fZ := BZ.frozen
    have lZ := BZ.lt
    go_wp2_with fail
    have BY := ((BZ.set 0 (.int .i64 0)).set 1 (.int .i64 0)).alloc (.cells #[.int .i64 0, .int .i64 0, .int .i64 0, .int .i64 0, .int .i64 0] 66)
    have y0 := BY.cell 0
    have y1 := BY.cell 1
    refine bodyPost_ret (v := .tuple #[.agg #[.int .i64 0, .int .i64 0], .int .i64 (daysC ds xs 0)]) (by simp [results, Try.results25, go_sem] at y0 y1 ⊢; simp [y0, y1, go_sem]) rfl ?_
    exact ⟨retFr _ _ _ _ rfl h0'.out, Bl.alloc (Below.setCell (Below.setCell HW (by simp; try omega) _) (by simp; try omega) _) _⟩
  have k1 : (daysC ds xs 0 != 0) = false := by simpa using h0
  have h0 : daysC ds xs 0 = 0 := by simpa using h0
  obtain ⟨f1, f2, f3, f4, f5, f6, f7⟩ := days_good hlen.out h0
  have q1 := outN_bd (k := n2) 200000000 6000000000 180000000000 f4 f5 (Nat.le_refl _) f2 (by decide) (by decide) (by decide) (by decide)
  have q2 := outN_bd (k := n2) 400000000 12000000000 360000000000 f4 f4 (Nat.le_refl _) f2 (by decide) (by decide) (by decide) (by decide)
  have q3 := outN_pos f1 f6
  have q4 : lineN ds xs = outN ds (col xs 0) n2 := by unfold lineN; rw [hlen.out]
  have q5 : lineD ds xs = outN ds ds n2 := by unfold lineD; rw [hlen.out]
  rw [← q4] at q1
  rw [← q5] at q2 q3
  have GC := growCells_ok h0
  have h0' := Lib.hid h0
  clear q4 q5 f3 f4 f5 f6 f7 h0
  have ct := growthOf_any _ _ _ c _ c2 _ _ 0 _ (h.alloc (.cells #[.int .i64 0, .int .i64 0] 40)) (h2.alloc (.cells #[.int .i64 0, .int .i64 0] 40)) hn hn2
  rw [GC] at ct
  go_enter Try.func25, Try.ntmps25
  go_wp2_with fail
  refine (ct).mono ?_
  rintro e w1 ⟨rfl, H1⟩
  clear ct
  have BZ := (Blk.new w 40 #[.int .i64 0, .int .i64 0]).below H1
  have HW : Below w.heap.size w w1 := Bl.then (by go_grown) H1
  clear H1
  have cZ0 : w1.cell? ⟨w.heap.size, 0, none⟩ = some (.int .i64 0) := BZ.cell 0
  have cZ1 : w1.cell? ⟨w.heap.size, 1, none⟩ = some (.int .i64 0) := BZ.cell 1
  have fZ := BZ.frozen
  have lZ := BZ.lt
  go_wp2_with fail
  clear cZ0 cZ1 fZ lZ
  replace BZ := BZ.alloc (.cells #[.int .i64 (lineN ds xs), .int .i64 (lineD ds xs), .int .i64 (sumA ds xs.length), .int .i64 (sumA (col xs 0) xs.length), .int .i64 xs.length] 66)
  have BG := Blk.new w1 66 #[.int .i64 (lineN ds xs), .int .i64 (lineD ds xs), .int .i64 (sumA ds xs.length), .int .i64 (sumA (col xs 0) xs.length), .int .i64 xs.length]
  replace HW := Bl.alloc HW (.cells #[.int .i64 (lineN ds xs), .int .i64 (lineD ds xs), .int .i64 (sumA ds xs.length), .int .i64 (sumA (col xs 0) xs.length), .int .i64 xs.length] 66)
  have cZ0 : (w1.alloc (.cells #[.int .i64 (lineN ds xs), .int .i64 (lineD ds xs), .int .i64 (sumA ds xs.length), .int .i64 (sumA (col xs 0) xs.length), .int .i64 xs.length] 66)).cell? ⟨w.heap.size, 0, none⟩ = some (.int .i64 0) := BZ.cell 0
  have cZ1 : (w1.alloc (.cells #[.int .i64 (lineN ds xs), .int .i64 (lineD ds xs), .int .i64 (sumA ds xs.length), .int .i64 (sumA (col xs 0) xs.length), .int .i64 xs.length] 66)).cell? ⟨w.heap.size, 1, none⟩ = some (.int .i64 0) := BZ.cell 1
  have fZ := BZ.frozen
  have lZ := BZ.lt
  have cG0 : (w1.alloc (.cells #[.int .i64 (lineN ds xs), .int .i64 (lineD ds xs), .int .i64 (sumA ds xs.length), .int .i64 (sumA (col xs 0) xs.length), .int .i64 xs.length] 66)).cell? ⟨w1.heap.size, 0, none⟩ = some (.int .i64 (lineN ds xs)) := BG.cell 0
  have cG1 : (w1.alloc (.cells #[.int .i64 (lineN ds xs), .int .i64 (lineD ds xs), .int .i64 (sumA ds xs.length), .int .i64 (sumA (col xs 0) xs.length), .int .i64 xs.length] 66)).cell? ⟨w1.heap.size, 1, none⟩ = some (.int .i64 (lineD ds xs)) := BG.cell 1
  have cG2 : (w1.alloc (.cells #[.int .i64 (lineN ds xs), .int .i64 (lineD ds xs), .int .i64 (sumA ds xs.length), .int .i64 (sumA (col xs 0) xs.length), .int .i64 xs.length] 66)).cell? ⟨w1.heap.size, 2, none⟩ = some (.int .i64 (sumA ds xs.length)) := BG.cell 2
  have cG3 : (w1.alloc (.cells #[.int .i64 (lineN ds xs), .int .i64 (lineD ds xs), .int .i64 (sumA ds xs.length), .int .i64 (sumA (col xs 0) xs.length), .int .i64 xs.length] 66)).cell? ⟨w1.heap.size, 3, none⟩ = some (.int .i64 (sumA (col xs 0) xs.length)) := BG.cell 3
  have cG4 : (w1.alloc (.cells #[.int .i64 (lineN ds xs), .int .i64 (lineD ds xs), .int .i64 (sumA ds xs.length), .int .i64 (sumA (col xs 0) xs.length), .int .i64 xs.length] 66)).cell? ⟨w1.heap.size, 4, none⟩ = some (.int .i64 xs.length) := BG.cell 4
  have lG := BG.lt
  clear GC
  generalize hX0 : lineN ds xs = X at *
  have hX := Lib.hid hX0
  clear hX0
  generalize hY0 : lineD ds xs = Y at *
  have hY := Lib.hid hY0
  clear hY0
  skip
  refine (lowest_any _ _ _ (by unfold Mid; omega) q3 (by unfold Mid; omega)).mono ?_
  rintro e w22 ⟨rfl, hb22⟩
  clear cZ0 cZ1 fZ lZ cG0 cG1 cG2 cG3 cG4 lG
  replace BZ := BZ.below hb22
  replace BG := BG.below hb22
  replace HW := Bl.then HW hb22
  have cZ0 : w22.cell? ⟨w.heap.size, 0, none⟩ = some (.int .i64 0) := BZ.cell 0
  have cZ1 : w22.cell? ⟨w.heap.size, 1, none⟩ = some (.int .i64 0) := BZ.cell 1
  have fZ := BZ.frozen
  have lZ := BZ.lt
  have cG0 : w22.cell? ⟨w1.heap.size, 0, none⟩ = some (.int .i64 X) := BG.cell 0
  have cG1 : w22.cell? ⟨w1.heap.size, 1, none⟩ = some (.int .i64 Y) := BG.cell 1
  have cG2 : w22.cell? ⟨w1.heap.size, 2, none⟩ = some (.int .i64 (sumA ds xs.length)) := BG.cell 2
  have cG3 : w22.cell? ⟨w1.heap.size, 3, none⟩ = some (.int .i64 (sumA (col xs 0) xs.length)) := BG.cell 3
  have cG4 : w22.cell? ⟨w1.heap.size, 4, none⟩ = some (.int .i64 xs.length) := BG.cell 4
  have lG := BG.lt
  go_wp2_with fail
  refine bodyPost_ret (v := .tuple #[.agg #[.int .i64 (lowN X Y), .int .i64 (lowD X Y)], .int .i64 0]) (by simp [results, Try.results25, go_sem, cZ0, cZ1]) rfl ?_
  exact ⟨retFr0 _ _ _ _ _ h0'.out (by rw [hX.out, hY.out]) (by rw [hX.out, hY.out]), (Below.setCell (Below.setCell HW (by simp; try omega) _) (by simp; try omega) _)⟩
set_option maxRecDepth 100000 in
theorem LengthOn_any (A A2 : Option Addr) (n c n2 c2 : Nat) (ds : List Int) (xs : List FootD) (day : Int) (w : World) (h : Rd w 1 A n (ints ds)) (h2 : Rd w 4 A2 n2 (feet xs)) (hn : n ≤ 1048576) (hn2 : n2 ≤ 1048576) :
    Calls Try.prog 28 #[.slice A n c, .slice A2 n2 c2, .int .i64 day] w fun e w' => e = .returned (.tuple #[.int .i64 (fNum (daysC ds xs day) (lenV ds xs day)), .int .i64 (daysC ds xs day)]) ∧ Below w.heap.size w w' := by
  have hlen := Lib.hid h2.feet_length
  by_cases h0 : daysC ds xs day ≠ 0
  · have k1 : (daysC ds xs day != 0) = true := by simpa using h0
    have GC : growCells ds xs day = #[.int .i64 0, .int .i64 0, .int .i64 0, .int .i64 0, .int .i64 0] := by unfold growCells; simp [fNum, h0]
    have h0' := Lib.hid h0
    clear h0
    have ct := growthOf_any _ _ _ c _ c2 _ _ day _ h h2 hn hn2
    rw [GC] at ct
    go_enter Try.func28, Try.ntmps28
    go_wp2_with fail
    refine ct.mono ?_
    rintro e w1 ⟨rfl, HW⟩
    clear ct
    go_wp2_with fail
    go_ret2
    exact ⟨retNC _ _ _ rfl h0'.out, Bl.alloc HW _⟩
  have k1 : (daysC ds xs day != 0) = false := by simpa using h0
  have h0 : daysC ds xs day = 0 := by simpa using h0
  obtain ⟨f1, f2, f3, f4, f5, f6, f7⟩ := days_good hlen.out h0
  have q1 := outN_bd (k := n2) 200000000 6000000000 180000000000 f4 f5 (Nat.le_refl _) f2 (by decide) (by decide) (by decide) (by decide)
  have q2 := outN_bd (k := n2) 400000000 12000000000 360000000000 f4 f4 (Nat.le_refl _) f2 (by decide) (by decide) (by decide) (by decide)
  have q3 := outN_pos f1 f6
  have q4 : lineN ds xs = outN ds (col xs 0) n2 := by unfold lineN; rw [hlen.out]
  have q5 : lineD ds xs = outN ds ds n2 := by unfold lineD; rw [hlen.out]
  rw [← q4] at q1
  rw [← q5] at q2 q3
  have GC := growCells_ok h0
  have h0' := Lib.hid h0
  rw [hlen.out] at GC
  have q6 := sumA_bd (k := n2) 150000 f5 (Nat.le_refl _) f2 (by decide) (by decide)
  have q7 := sumA_bd (k := n2) 300000 f4 (Nat.le_refl _) f2 (by decide) (by decide)
  have q8 : lenV ds xs day = rnd (sumA (col xs 0) n2 * lineD ds xs + lineN ds xs * ((n2 : Int) * day - sumA ds n2)) ((n2 : Int) * lineD ds xs) := by unfold lenV; rw [hlen.out]
  rw [← rnd_low q3] at q8
  have d1 := low_d (lineN ds xs) (lineD ds xs)
  have g1 := gcdI_pos (a := lineN ds xs) q3
  have d2 : 1 ≤ lowD (lineN ds xs) (lineD ds xs) := by
    rcases Int.lt_or_le 0 (lowD (lineN ds xs) (lineD ds xs)) with hh | hh
    · omega
    · have := Int.mul_le_mul_of_nonneg_left hh (show 0 ≤ gcdI (lineN ds xs) (lineD ds xs) by omega)
      rw [d1] at this
      omega
  have d3 := tdiv_bd (lineD ds xs) (gcdI (lineN ds xs) (lineD ds xs)) 360000000000 (by omega)
  have d4 := tdiv_bd (lineN ds xs) (gcdI (lineN ds xs) (lineD ds xs)) 180000000000 (by omega)
  obtain ⟨⟨b1, b2⟩, ⟨b3, b4⟩, ⟨b5, b6⟩, ⟨b7, b8⟩⟩ := len_bd (N := lowN (lineN ds xs) (lineD ds xs)) (D := lowD (lineN ds xs) (lineD ds xs)) q6 d4 ⟨d2, d3.2⟩ q7 f7 (by omega) f2
  have q8' := Lib.hid q8
  clear q4 q5 f3 f4 f5 f6 h0 q8 d1 g1
  have ct := growthOf_any _ _ _ c _ c2 _ _ day _ h h2 hn hn2
  rw [GC] at ct
  go_enter Try.func28, Try.ntmps28
  go_wp2_with fail
  refine ct.mono ?_
  rintro e w1 ⟨rfl, HW⟩
  clear ct
  go_wp2_with fail
  have BG := Blk.new w1 66 #[.int .i64 (lineN ds xs), .int .i64 (lineD ds xs), .int .i64 (sumA ds n2), .int .i64 (sumA (col xs 0) n2), .int .i64 n2]
  replace HW := Bl.alloc HW (.cells #[.int .i64 (lineN ds xs), .int .i64 (lineD ds xs), .int .i64 (sumA ds n2), .int .i64 (sumA (col xs 0) n2), .int .i64 n2] 66)
  have cG0 : (w1.alloc (.cells #[.int .i64 (lineN ds xs), .int .i64 (lineD ds xs), .int .i64 (sumA ds n2), .int .i64 (sumA (col xs 0) n2), .int .i64 n2] 66)).cell? ⟨w1.heap.size, 0, none⟩ = some (.int .i64 (lineN ds xs)) := BG.cell 0
  have cG1 : (w1.alloc (.cells #[.int .i64 (lineN ds xs), .int .i64 (lineD ds xs), .int .i64 (sumA ds n2), .int .i64 (sumA (col xs 0) n2), .int .i64 n2] 66)).cell? ⟨w1.heap.size, 1, none⟩ = some (.int .i64 (lineD ds xs)) := BG.cell 1
  have cG2 : (w1.alloc (.cells #[.int .i64 (lineN ds xs), .int .i64 (lineD ds xs), .int .i64 (sumA ds n2), .int .i64 (sumA (col xs 0) n2), .int .i64 n2] 66)).cell? ⟨w1.heap.size, 2, none⟩ = some (.int .i64 (sumA ds n2)) := BG.cell 2
  have cG3 : (w1.alloc (.cells #[.int .i64 (lineN ds xs), .int .i64 (lineD ds xs), .int .i64 (sumA ds n2), .int .i64 (sumA (col xs 0) n2), .int .i64 n2] 66)).cell? ⟨w1.heap.size, 3, none⟩ = some (.int .i64 (sumA (col xs 0) n2)) := BG.cell 3
  have cG4 : (w1.alloc (.cells #[.int .i64 (lineN ds xs), .int .i64 (lineD ds xs), .int .i64 (sumA ds n2), .int .i64 (sumA (col xs 0) n2), .int .i64 n2] 66)).cell? ⟨w1.heap.size, 4, none⟩ = some (.int .i64 n2) := BG.cell 4
  have lG := BG.lt
  clear GC
  skip
  refine (lowest_any _ _ _ (by unfold Mid; omega) q3 (by unfold Mid; omega)).mono ?_
  rintro e w22 ⟨rfl, hb22⟩
  clear cG0 cG1 cG2 cG3 cG4 lG
  replace BG := BG.below hb22
  replace HW := Bl.then HW hb22
  have cG0 : w22.cell? ⟨w1.heap.size, 0, none⟩ = some (.int .i64 (lineN ds xs)) := BG.cell 0
  have cG1 : w22.cell? ⟨w1.heap.size, 1, none⟩ = some (.int .i64 (lineD ds xs)) := BG.cell 1
  have cG2 : w22.cell? ⟨w1.heap.size, 2, none⟩ = some (.int .i64 (sumA ds n2)) := BG.cell 2
  have cG3 : w22.cell? ⟨w1.heap.size, 3, none⟩ = some (.int .i64 (sumA (col xs 0) n2)) := BG.cell 3
  have cG4 : w22.cell? ⟨w1.heap.size, 4, none⟩ = some (.int .i64 n2) := BG.cell 4
  have lG := BG.lt
  generalize hX : lowN (lineN ds xs) (lineD ds xs) = X at *
  generalize hY : lowD (lineN ds xs) (lineD ds xs) = Y at *
  generalize sumA (col xs 0) n2 = L at *
  generalize sumA ds n2 = S at *
  have e0 : IntKind.i64.wrap (L * Y) = L * Y := IntWalk.i64_in _ (by omega)
  have e1 : IntKind.i64.wrap ((n2 : Int) * day) = (n2 : Int) * day := IntWalk.i64_in _ (by omega)
  have e2 : IntKind.i64.wrap ((n2 : Int) * day - S) = (n2 : Int) * day - S := IntWalk.i64_in _ (by omega)
  have e3 : IntKind.i64.wrap (X * ((n2 : Int) * day - S)) = X * ((n2 : Int) * day - S) := IntWalk.i64_in _ (by omega)
  have e4 : IntKind.i64.wrap (L * Y + X * ((n2 : Int) * day - S)) = L * Y + X * ((n2 : Int) * day - S) := IntWalk.i64_in _ (by omega)
  have e5 : IntKind.i64.wrap ((n2 : Int) * Y) = (n2 : Int) * Y := IntWalk.i64_in _ (by omega)
  clear hX hY
  go_wp2_with fail
  clear cG0 cG1 cG2 cG3 cG4 lG
  replace BG := BG.alloc (.cells #[.int .i64 X, .int .i64 Y] 40)
  have BK := Blk.new w22 40 #[.int .i64 X, .int .i64 Y]
  replace HW := Bl.alloc HW (.cells #[.int .i64 X, .int .i64 Y] 40)
  have cG0 : (w22.alloc (.cells #[.int .i64 X, .int .i64 Y] 40)).cell? ⟨w1.heap.size, 0, none⟩ = some (.int .i64 (lineN ds xs)) := BG.cell 0
  have cG1 : (w22.alloc (.cells #[.int .i64 X, .int .i64 Y] 40)).cell? ⟨w1.heap.size, 1, none⟩ = some (.int .i64 (lineD ds xs)) := BG.cell 1
  have cG2 : (w22.alloc (.cells #[.int .i64 X, .int .i64 Y] 40)).cell? ⟨w1.heap.size, 2, none⟩ = some (.int .i64 S) := BG.cell 2
  have cG3 : (w22.alloc (.cells #[.int .i64 X, .int .i64 Y] 40)).cell? ⟨w1.heap.size, 3, none⟩ = some (.int .i64 L) := BG.cell 3
  have cG4 : (w22.alloc (.cells #[.int .i64 X, .int .i64 Y] 40)).cell? ⟨w1.heap.size, 4, none⟩ = some (.int .i64 n2) := BG.cell 4
  have lG := BG.lt
  have cK0 : (w22.alloc (.cells #[.int .i64 X, .int .i64 Y] 40)).cell? ⟨w22.heap.size, 0, none⟩ = some (.int .i64 X) := BK.cell 0
  have cK1 : (w22.alloc (.cells #[.int .i64 X, .int .i64 Y] 40)).cell? ⟨w22.heap.size, 1, none⟩ = some (.int .i64 Y) := BK.cell 1
  have lK := BK.lt
  refine (rounded_any _ _ _ (by unfold Mid; omega) b7 (by unfold Mid; omega)).mono ?_
  rintro e w23 ⟨rfl, rfl⟩
  go_wp2_with fail
  go_ret2
  exact ⟨retNC0 _ _ _ h0'.out q8'.out.symm, HW⟩
end Go.Proofs.Ytlmjchmbbmiocaa
