/-
  The place of a name among lasts: the program's binary search and the reference's walk; the condition is that the slice reads as the given list, whose names increase.
-/
import Derived.Test.YtebghfpkgdghcaaLastsOk
namespace Go.Proofs.Ytebghfpkgdghcaa
open Go.RowKit
set_option maxHeartbeats 1600000

/-! ### The order of names -/
theorem bl_irrefl : ∀ a : List UInt8, Op.bytesLess a a = false
  | [] => rfl
  | x :: a => by
    simp only [Op.bytesLess, bl_irrefl a, Bool.and_false, Bool.or_false, decide_eq_false_iff_not]
    exact fun h => absurd h (by rw [UInt8.lt_iff_toNat_lt]; omega)
theorem bl_trans : ∀ {a b c : List UInt8}, Op.bytesLess a b = true → Op.bytesLess b c = true → Op.bytesLess a c = true
  | _, [], _, h, _ => by cases ‹List UInt8› <;> simp [Op.bytesLess] at h
  | _, _ :: _, [], _, h => by simp [Op.bytesLess] at h
  | [], _ :: _, _ :: _, _, _ => rfl
  | x :: a, y :: b, z :: c, h, k => by
    simp only [Op.bytesLess, Bool.or_eq_true, Bool.and_eq_true, decide_eq_true_eq, beq_iff_eq, UInt8.lt_iff_toNat_lt] at h k ⊢
    rcases h with h | ⟨rfl, h⟩
    · rcases k with k | ⟨rfl, k⟩
      · exact .inl (by omega)
      · exact .inl h
    · rcases k with k | ⟨rfl, k⟩
      · exact .inl k
      · exact .inr ⟨rfl, bl_trans h k⟩
theorem bl_connex : ∀ {a b : List UInt8}, Op.bytesLess a b = false → Op.bytesLess b a = false → a = b
  | [], [], _, _ => rfl
  | [], _ :: _, h, _ => by simp [Op.bytesLess] at h
  | _ :: _, [], _, h => by simp [Op.bytesLess] at h
  | x :: a, y :: b, h, k => by
    simp only [Op.bytesLess, Bool.or_eq_false_iff, Bool.and_eq_false_iff, decide_eq_false_iff_not, beq_eq_false_iff_ne, UInt8.lt_iff_toNat_lt] at h k
    have e : x = y := UInt8.toNat_inj.1 (by omega)
    subst e
    rcases h.2 with h2 | h2
    · exact absurd rfl h2
    rcases k.2 with k2 | k2
    · exact absurd rfl k2
    rw [bl_connex h2 k2]
theorem ba_ext {a b : ByteArray} (h : a.toList = b.toList) : a = b := by
  rw [ByteArray.toList_eq, ByteArray.toList_eq] at h
  obtain ⟨⟨x⟩⟩ := a
  obtain ⟨⟨y⟩⟩ := b
  simp at h
  rw [h]
/-- -1, 0, 1. -/
def cmpS (a b : List UInt8) : Int := if Op.bytesLess a b = true then -1 else if a = b then 0 else 1

/-- Names increase. -/
def Rising (xs : List LastD) : Prop := ∀ j k, j < k → k < xs.length → Op.bytesLess (lastsAt xs j).s.toList (lastsAt xs k).s.toList = true
theorem rising_of {xs : List LastD} (h : lastsOk xs = true) : Rising xs := by
  obtain ⟨_, hs⟩ := lastsOk_bd h
  have step : ∀ k, k + 1 < xs.length → Op.bytesLess (lastsAt xs k).s.toList (lastsAt xs (k + 1)).s.toList = true := by
    intro k hk
    have := hs (k + 1) hk
    simp only [stepOk, Bool.and_eq_true, Bool.or_eq_true, decide_eq_true_eq, Nat.add_sub_cancel] at this
    rcases this.2 with h2 | h2
    · omega
    · exact h2
  intro j k hjk hk
  induction k with
  | zero => omega
  | succ k ih =>
    rcases Nat.lt_or_ge j k with hlt | hge
    · exact bl_trans (ih hlt (by omega)) (step k hk)
    · obtain rfl : j = k := by omega
      exact step j hk
/-- The name at k is less. -/
def before (xs : List LastD) (t : ByteArray) (k : Nat) : Bool := Op.bytesLess (lastsAt xs k).s.toList t.toList
/-- How many names are less. -/
def cutAt (xs : List LastD) (t : ByteArray) : Nat := (firstOf xs.length fun k => !before xs t k).getD xs.length
def isAt (xs : List LastD) (t : ByteArray) (k : Nat) : Bool := (lastsAt xs k).s.toList == t.toList
def knownAt (xs : List LastD) (t : ByteArray) : Bool := decide (cutAt xs t < xs.length) && isAt xs t (cutAt xs t)
theorem cutAt_eq {xs : List LastD} {t : ByteArray} {k : Nat} (hk : k ≤ xs.length) (h1 : ∀ j, j < k → before xs t j = true) (h2 : k < xs.length → before xs t k = false) : cutAt xs t = k := by
  unfold cutAt
  rcases Nat.lt_or_ge k xs.length with hlt | hge
  · rw [firstOf_some hlt (by simp [h2 hlt]) (fun j hj => by simp [h1 j hj])]; rfl
  · obtain rfl : k = xs.length := by omega
    rw [firstOf_none (fun j hj => by simp [h1 j hj])]; rfl
theorem before_mono {xs : List LastD} {t : ByteArray} (h : Rising xs) {j k : Nat} (hjk : j ≤ k) (hk : k < xs.length) (hb : before xs t k = true) : before xs t j = true := by
  rcases Nat.lt_or_ge j k with hlt | hge
  · exact bl_trans (h j k hlt hk) hb
  · obtain rfl : j = k := by omega
    exact hb
/-- The first last with the name, as the reference walks. -/
def findAt (xs : List LastD) (t : ByteArray) : Option Nat := firstOf xs.length (isAt xs t)
theorem find_of_known {xs : List LastD} {t : ByteArray} (h : Rising xs) : findAt xs t = if knownAt xs t = true then some (cutAt xs t) else none := by
  by_cases hk : knownAt xs t = true
  · rw [if_pos hk]
    simp only [knownAt, Bool.and_eq_true, decide_eq_true_eq] at hk
    refine firstOf_some hk.1 hk.2 (fun j hj => ?_)
    have he : (lastsAt xs (cutAt xs t)).s.toList = t.toList := by simpa [isAt] using hk.2
    have hl := h j _ hj hk.1
    rw [he] at hl
    simp only [isAt, beq_eq_false_iff_ne]
    intro e
    rw [e, bl_irrefl] at hl
    cases hl
  · rw [if_neg hk]
    refine firstOf_none (fun j hj => ?_)
    cases he : isAt xs t j
    · rfl
    exfalso
    apply hk
    have ht : (lastsAt xs j).s.toList = t.toList := by simpa [isAt] using he
    have hc : cutAt xs t = j := cutAt_eq (by omega) (fun i hi => by unfold before; rw [← ht]; exact h i j hi hj) (fun _ => by unfold before; rw [ht]; exact bl_irrefl _)
    simp [knownAt, hc, hj, he]
theorem isNaN_any (a : ByteArray) (w : World) : Calls Try.prog 41 #[.string a] w fun e w' => e = .returned (.bool false) ∧ w = w' := by
  go_enter Try.func41, Try.ntmps41
  go_wp2
  go_ret
  exact ⟨ret_bool (by simp), rfl⟩
theorem Compare_any (a b : ByteArray) (w : World) : Calls Try.prog 33 #[.string a, .string b] w fun e w' => e = .returned (.int .i64 (cmpS a.toList b.toList)) ∧ w = w' := by
  cases h1 : Op.bytesLess a.toList b.toList
  · by_cases h2 : a.toList = b.toList
    · have e : cmpS a.toList b.toList = 0 := by simp [cmpS, h2, bl_irrefl]
      have E := Lib.hid e
      have k1 : (a.toList == b.toList) = true := by simp [h2]
      clear e h2
      go_enter Try.func33, Try.ntmps33
      go_wp2_with (go_at_call 41; refine (isNaN_any _ _).mono ?_; rintro e w' ⟨rfl, rfl⟩)
      go_ret
      exact ⟨ret_int E.out.symm, rfl⟩
    · have e : cmpS a.toList b.toList = 1 := by simp [cmpS, h1, h2]
      have E := Lib.hid e
      have k1 : (a.toList == b.toList) = false := by simp [h2]
      clear e h2
      go_enter Try.func33, Try.ntmps33
      go_wp2_with (go_at_call 41; refine (isNaN_any _ _).mono ?_; rintro e w' ⟨rfl, rfl⟩)
      go_ret
      exact ⟨ret_int E.out.symm, rfl⟩
  · have e : cmpS a.toList b.toList = -1 := by simp [cmpS, h1]
    have E := Lib.hid e
    clear e
    go_enter Try.func33, Try.ntmps33
    go_wp2_with (go_at_call 41; refine (isNaN_any _ _).mono ?_; rintro e w' ⟨rfl, rfl⟩)
    go_ret
    exact ⟨ret_int E.out.symm, rfl⟩
theorem lastPlace1_any (s : ByteArray) (l b i h p : Int) (t : ByteArray) (w : World) :
    Calls Try.prog 32 #[.agg #[.string s, .int .i64 l, .int .i64 b, .int .i64 i, .int .i64 h, .int .i64 p], .string t] w fun e w' => e = .returned (.int .i64 (cmpS s.toList t.toList)) ∧ Below w.heap.size w w' := by
  go_enter Try.func32, Try.ntmps32
  go_wp2_with fail
  refine (Compare_any _ _ _).mono ?_
  rintro e w' ⟨rfl, rfl⟩
  go_wp2_with fail
  go_ret
  refine ⟨rfl, ?_⟩
  go_grown
theorem cmpS_neg {a b : List UInt8} : decide (cmpS a b < 0) = Op.bytesLess a b := by
  unfold cmpS
  split
  · simp [*]
  · split <;> simp_all
theorem cmpS_zero {a b : List UInt8} : (cmpS a b == 0) = (a == b) := by
  unfold cmpS
  split
  · rename_i h
    have : a ≠ b := fun e => by rw [e, bl_irrefl] at h; cases h
    simp [this]
  · split <;> simp_all
theorem ret_ib {a b : Int} {c d : Bool} (h : a = b) (h' : c = d) : Ending.returned (.tuple #[.int .i64 a, .bool c]) = .returned (.tuple #[.int .i64 b, .bool d]) := by rw [h, h']
set_option maxRecDepth 100000 in
theorem BinarySearch_any (A : Option Addr) (n c : Nat) (xs : List LastD) (t : ByteArray) (w : World) (h : Rd w 6 A n (lasts xs)) (hn : n ≤ 1048576) (hr : Rising xs) :
    Calls Try.prog 31 #[.slice A n c, .string t, .func (.func 32) #[] #[]] w fun e w' => e = .returned (.tuple #[.int .i64 (cutAt xs t), .bool (knownAt xs t)]) ∧ Below w.heap.size w w' := by
  have hlen := Lib.hid h.lasts_length
  have hr' := Lib.hid hr
  clear hr
  go_enter Try.func31, Try.ntmps31
  go_wp2_with fail
  go_loopw [9, 10] (fun p q wr => ∃ i j : Nat, p = .int .i64 i ∧ q = .int .i64 j ∧ i ≤ j ∧ j ≤ n ∧ Hid (∀ k, k < i → before xs t k = true) ∧ Hid (∀ k, j ≤ k → k < n → before xs t k = false) ∧ Below w.heap.size w wr) (fun p q _ => (intOf q).toNat - (intOf p).toNat)
  case atStart => exact ⟨0, n, rfl, rfl, by omega, by omega, Lib.hid fun k hk => by omega, Lib.hid fun k h1 h2 => by omega, Below.refl _ _⟩
  case round =>
    obtain ⟨i, j, rfl, rfl, hij, hjn, I1, I2, HB⟩ := hrel
    by_cases hlt : i < j
    · obtain ⟨b, off, rfl, hbl, i0, i1, i2, i3, i4, i5⟩ := (h.below HB).lasts (k := (i + j) / 2) (by omega)
      cases hb : before xs t ((i + j) / 2)
      · have hb' := Lib.hid hb
        have hd : decide (cmpS (lastsAt xs ((i + j) / 2)).s.toList t.toList < 0) = false := by rw [cmpS_neg]; exact hb
        clear hb
        go_wp2_with fail
        refine (lastPlace1_any _ _ _ _ _ _ _ _).mono ?_
        rintro e w2 ⟨rfl, hb2⟩
        go_wp2_with fail
        go_roundw
        case rel =>
          refine ⟨i, (i + j) / 2, rfl, ?_, by omega, by omega, I1, Lib.hid fun k h1 h2 => ?_, Bl.then HB hb2⟩
          · rw [show ((i : Int) + (j : Int)) / 2 = (((i + j) / 2 : Nat) : Int) by omega]
          · cases hbk : before xs t k
            · rfl
            · have := before_mono hr'.out h1 (by rw [hlen.out]; exact h2) hbk
              rw [hb'.out] at this
              cases this
        case measure => simp [intOf]; omega
      · have hb' := Lib.hid hb
        have hd : decide (cmpS (lastsAt xs ((i + j) / 2)).s.toList t.toList < 0) = true := by rw [cmpS_neg]; exact hb
        clear hb
        go_wp2_with fail
        refine (lastPlace1_any _ _ _ _ _ _ _ _).mono ?_
        rintro e w2 ⟨rfl, hb2⟩
        go_wp2_with fail
        go_roundw
        case rel =>
          refine ⟨(i + j) / 2 + 1, j, ?_, rfl, by omega, by omega, Lib.hid fun k hk => before_mono hr'.out (k := (i + j) / 2) (by omega) (by have := hlen.out; omega) hb'.out, I2, Bl.then HB hb2⟩
          rw [show ((i : Int) + (j : Int)) / 2 + 1 = (((i + j) / 2 + 1 : Nat) : Int) by omega]
        case measure => simp [intOf]; omega
    · obtain rfl : j = i := by omega
      have hc := Lib.hid (show cutAt xs t = j from cutAt_eq (by rw [hlen.out]; exact hjn) I1.out (fun hk => I2.out j (Nat.le_refl _) (by rw [← hlen.out]; exact hk)))
      by_cases hjn2 : j < n
      · obtain ⟨b, off, rfl, hbl, i0, i1, i2, i3, i4, i5⟩ := (h.below HB).lasts (k := j) hjn2
        go_wp2_with fail
        refine (lastPlace1_any _ _ _ _ _ _ _ _).mono ?_
        rintro e w2 ⟨rfl, hb2⟩
        go_wp2_with fail
        go_ret2
        exact ⟨ret_ib (by rw [hc.out]) (by rw [knownAt, hc.out, hlen.out, cmpS_zero]; simp [hjn2, isAt]), Bl.then HB hb2⟩
      · go_wp2_with fail
        go_ret2
        exact ⟨ret_ib (by rw [hc.out]) (by rw [knownAt, hc.out, hlen.out]; simp [hjn2]), HB⟩
theorem lastPlace_any (A : Option Addr) (n c : Nat) (xs : List LastD) (t : ByteArray) (w : World) (h : Rd w 6 A n (lasts xs)) (hn : n ≤ 1048576) (hr : Rising xs) :
    Calls Try.prog 18 #[.slice A n c, .string t] w fun e w' => e = .returned (.tuple #[.int .i64 (cutAt xs t), .bool (knownAt xs t)]) ∧ Below w.heap.size w w' := by
  have hr' := Lib.hid hr
  clear hr
  go_enter Try.func18, Try.ntmps18
  go_wp2_with fail
  refine (BinarySearch_any _ _ _ _ _ _ h hn hr'.out).mono ?_
  rintro e w2 ⟨rfl, hb2⟩
  go_wp2_with fail
  go_ret2
  exact ⟨rfl, hb2⟩
def findI (xs : List LastD) (t : ByteArray) : Int := match findAt xs t with | some k => k | none => -1
def NoneAt (xs : List LastD) (t : ByteArray) (k : Nat) : Prop := ∀ j, j < k → isAt xs t j = false
theorem NoneAt.snoc {xs : List LastD} {t : ByteArray} {k : Nat} (h : NoneAt xs t k) (hk : isAt xs t k = false) : NoneAt xs t (k + 1) := fun j hj => by
  by_cases e : j = k
  · subst e; exact hk
  · exact h j (by omega)
theorem l04Find_any (A : Option Addr) (n c : Nat) (xs : List LastD) (t : ByteArray) (w : World) (h : Rd w 6 A n (lasts xs)) (hn : n ≤ 1048576) :
    Calls Try.prog 15 #[.slice A n c, .string t] w fun e w' => e = .returned (.int .i64 (findI xs t)) ∧ w = w' := by
  have hlen := Lib.hid h.lasts_length
  go_enter Try.func15, Try.ntmps15
  go_wp2_with fail
  go_loop [5] (fun i => ∃ k : Nat, k ≤ n ∧ i = .int .i64 k ∧ NoneAt xs t k) (fun i => n - (intOf i).toNat)
  case atStart => exact ⟨0, by omega, rfl, fun j hj => by omega⟩
  case round =>
    obtain ⟨k, hk, rfl, hno⟩ := hrel
    by_cases hlt : k < n
    · obtain ⟨b, off, rfl, hbl, i0, i1, i2, i3, i4, i5⟩ := h.lasts hlt
      cases he : isAt xs t k
      · have he' := Lib.hid he
        have k1 : ((lastsAt xs k).s.toList == t.toList) = false := he
        clear he
        go_wp2_with fail
        go_round
        case rel => exact ⟨k + 1, by omega, by go_num, hno.snoc he'.out⟩
        case measure => simp [intOf]; omega
      · have hr := Lib.hid (show findI xs t = k by unfold findI findAt; rw [firstOf_some (by rw [hlen.out]; exact hlt) he hno])
        have k1 : ((lastsAt xs k).s.toList == t.toList) = true := he
        clear he
        go_wp2_with fail
        go_ret
        exact ⟨ret_int hr.out.symm, rfl⟩
    · obtain rfl : k = n := by omega
      have hr := Lib.hid (show findI xs t = -1 by unfold findI findAt; rw [firstOf_none (by rw [hlen.out]; exact hno)])
      go_wp2_with fail
      go_ret
      exact ⟨ret_int hr.out.symm, rfl⟩
end Go.Proofs.Ytebghfpkgdghcaa
