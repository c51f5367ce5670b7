/-
  Texts of sizes: the program's and the reference's. The condition of the program's: the table of powers of ten holds what the library lays.
-/
import Derived.Test.YtijbaapecehamaaDoorDecS
import Derived.Lib.ItoaLen
namespace Go.Proofs.YtijbaapecehamaaDoor
open Go.RowKit
set_option maxHeartbeats 1600000
set_option linter.unusedVariables false

/-- A number's decimal form, as a string. -/
def dec (n : Int) : ByteArray := ⟨(Lib.itoa n).toArray⟩
theorem dec_size {n : Int} (h0 : -9223372036854775808 ≤ n) (h1 : n ≤ 9223372036854775807) : (dec n).size ≤ 21 := by
  have := Lib.itoa_length_le n h0 h1
  unfold dec ByteArray.size
  simpa using this
theorem dec_list (n : Int) : (dec n).data.toList = Lib.itoa n := rfl
theorem l01Dec_d (n : Int) (h0 : -9223372036854775808 ≤ n) (h1 : n ≤ 9223372036854775807) (w : World) :
    Calls Tryd.prog 57 #[.int .i64 n] w fun e w' => e = .returned (.string (dec n)) ∧ Below w.heap.size w w' := l01Dec_any n h0 h1 w
theorem Decimal_d (n : Int) (h0 : -9223372036854775808 ≤ n) (h1 : n ≤ 9223372036854775807) (w : World) (hp : PowAt w) :
    Calls Tryd.prog 21 #[.int .i64 n] w fun e w' => e = .returned (.string (dec n)) ∧ Below w.heap.size w w' := Decimal_any n h0 h1 w hp
/-- The text of half sizes. -/
def szTx (h : Int) : ByteArray := if inR h 0 120 = true then (if h % 2 = 0 then dec (h / 2) else dec (h / 2) ++ ⟨#[46, 53]⟩) else ⟨#[]⟩
theorem l03Text_0 (k : Nat) (hq0 : -9223372036854775808 ≤ (k : Int) / 2) (hq1 : (k : Int) / 2 ≤ 9223372036854775807) (h2 : (k : Int) % 2 = 0) (hcc : ¬ (9223372036854775807 < (dec ((k : Int) / 2)).size + 2)) (w : World) :
    Calls Tryd.prog 60 #[.int .i64 k] w fun e w' => e = .returned (.string (dec ((k : Int) / 2))) ∧ Below w.heap.size w w' := by
  go_enter Tryd.func60, Tryd.ntmps60
  go_wp2_with fail
  refine (l01Dec_d _ hq0 hq1 _).mono ?_
  rintro e w1 ⟨rfl, hb⟩
  go_wp2_with fail
  go_ret
  exact ⟨rfl, hb⟩
theorem l03Text_1 (k : Nat) (hq0 : -9223372036854775808 ≤ (k : Int) / 2) (hq1 : (k : Int) / 2 ≤ 9223372036854775807) (h2 : (k : Int) % 2 = 1) (hcc : ¬ (9223372036854775807 < (dec ((k : Int) / 2)).size + 2)) (w : World) :
    Calls Tryd.prog 60 #[.int .i64 k] w fun e w' => e = .returned (.string (dec ((k : Int) / 2) ++ ⟨#[46, 53]⟩)) ∧ Below w.heap.size w w' := by
  go_enter Tryd.func60, Tryd.ntmps60
  go_wp2_with fail
  refine (l01Dec_d _ hq0 hq1 _).mono ?_
  rintro e w1 ⟨rfl, hb⟩
  go_wp2_with fail
  go_ret
  exact ⟨rfl, hb⟩
theorem sSizeText_any (h : Int) (w : World) :
    Calls Tryd.prog 22 #[.int .i64 h] w fun e w' => e = .returned (.string (szTx h)) ∧ Below w.heap.size w w' := by
  cases hb : inR h 0 120
  · have hr := Lib.hid (show szTx h = ⟨#[]⟩ by simp [szTx, hb])
    go_enter Tryd.func22, Tryd.ntmps22
    go_wp2_with fail
    refine (l03Half_any _ _).mono ?_
    rintro e w1 ⟨rfl, rfl⟩
    go_wp2_with fail
    go_ret
    exact ⟨retS hr.out.symm, Below.refl _ _⟩
  obtain ⟨hb0, hb1⟩ := inR_true.1 hb
  obtain ⟨k, rfl⟩ : ∃ k : Nat, h = k := ⟨h.toNat, by omega⟩
  have hq0 : -9223372036854775808 ≤ (k : Int) / 2 := by omega
  have hq1 : (k : Int) / 2 ≤ 9223372036854775807 := by omega
  have hsz := dec_size hq0 hq1
  have hcc : ¬ (9223372036854775807 < (dec ((k : Int) / 2)).size + 2) := by omega
  clear hsz
  rcases (show (k : Int) % 2 = 0 ∨ (k : Int) % 2 = 1 by omega) with h2 | h2
  · have hr := Lib.hid (show szTx (k : Int) = dec ((k : Int) / 2) by rw [szTx, if_pos hb, if_pos h2])
    have hl := l03Text_0 k hq0 hq1 h2 hcc
    clear hcc
    go_enter Tryd.func22, Tryd.ntmps22
    go_wp2_with fail
    refine (l03Half_any _ _).mono ?_
    rintro e w1 ⟨rfl, rfl⟩
    go_wp2_with fail
    refine (hl _).mono ?_
    rintro e w2 ⟨rfl, hb2⟩
    go_wp2_with fail
    go_ret
    exact ⟨retS hr.out.symm, hb2⟩
  · have hr := Lib.hid (show szTx (k : Int) = dec ((k : Int) / 2) ++ ⟨#[46, 53]⟩ by rw [szTx, if_pos hb, if_neg (by omega)])
    have hl := l03Text_1 k hq0 hq1 h2 hcc
    clear hcc
    go_enter Tryd.func22, Tryd.ntmps22
    go_wp2_with fail
    refine (l03Half_any _ _).mono ?_
    rintro e w1 ⟨rfl, rfl⟩
    go_wp2_with fail
    refine (hl _).mono ?_
    rintro e w2 ⟨rfl, hb2⟩
    go_wp2_with fail
    go_ret
    exact ⟨retS hr.out.symm, hb2⟩
theorem SizeText_any (h : Int) (w : World) (hp : PowAt w) :
    Calls Tryd.prog 23 #[.int .i64 h] w fun e w' => e = .returned (.string (szTx h)) ∧ Below w.heap.size w w' := by
  cases hb : inR h 0 120
  · have hr := Lib.hid (show szTx h = ⟨#[]⟩ by simp [szTx, hb])
    go_enter Tryd.func23, Tryd.ntmps23
    go_wp2_with fail
    refine (isHalf_any _ _).mono ?_
    rintro e w1 ⟨rfl, rfl⟩
    go_wp2_with fail
    go_ret
    exact ⟨retS hr.out.symm, Below.refl _ _⟩
  obtain ⟨hb0, hb1⟩ := inR_true.1 hb
  obtain ⟨k, rfl⟩ : ∃ k : Nat, h = k := ⟨h.toNat, by omega⟩
  have hq0 : -9223372036854775808 ≤ (k : Int) / 2 := by omega
  have hq1 : (k : Int) / 2 ≤ 9223372036854775807 := by omega
  have hsz := dec_size hq0 hq1
  have hcc : ¬ (9223372036854775807 < (dec ((k : Int) / 2)).size + 2) := by omega
  clear hsz
  rcases (show (k : Int) % 2 = 0 ∨ (k : Int) % 2 = 1 by omega) with h2 | h2
  · have hr := Lib.hid (show szTx (k : Int) = dec ((k : Int) / 2) by rw [szTx, if_pos hb, if_pos h2])
    go_enter Tryd.func23, Tryd.ntmps23
    go_wp2_with fail
    refine (isHalf_any _ _).mono ?_
    rintro e w1 ⟨rfl, rfl⟩
    go_wp2_with fail
    refine (Decimal_d _ hq0 hq1 _ hp).mono ?_
    rintro e w2 ⟨rfl, hb2⟩
    go_wp2_with fail
    go_ret
    exact ⟨retS hr.out.symm, hb2⟩
  · have hr := Lib.hid (show szTx (k : Int) = dec ((k : Int) / 2) ++ ⟨#[46, 53]⟩ by rw [szTx, if_pos hb, if_neg (by omega)])
    go_enter Tryd.func23, Tryd.ntmps23
    go_wp2_with fail
    refine (isHalf_any _ _).mono ?_
    rintro e w1 ⟨rfl, rfl⟩
    go_wp2_with fail
    refine (Decimal_d _ hq0 hq1 _ hp).mono ?_
    rintro e w2 ⟨rfl, hb2⟩
    go_wp2_with fail
    go_ret
    exact ⟨retS hr.out.symm, hb2⟩
end Go.Proofs.YtijbaapecehamaaDoor
