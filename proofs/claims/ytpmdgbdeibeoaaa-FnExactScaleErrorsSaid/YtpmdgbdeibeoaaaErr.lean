/-
  ScaleErrors of the program and of the reference, for every slice that reads as the given list.
-/
import Derived.Test.YtpmdgbdeibeoaaaLens
import Derived.Test.YtpmdgbdeibeoaaaFracW
namespace Go.Proofs.Ytpmdgbdeibeoaaa
open Go.RowKit
set_option maxHeartbeats 800000

/-- What a function hands back that makes a slice of fractions and a code. -/
def RetFracs (r : List FracD × Int) (w : World) (e : Ending) (w' : World) : Prop :=
  ∃ A c, e = .returned (.tuple #[.slice A r.1.length c, .int .i64 r.2]) ∧ w'.ownsRow w.heap.size 33 2 (.slice A r.1.length c) r.1.length (fracs r.1) ∧ Below w.heap.size w w'
theorem RetFracs.mk {r : List FracD × Int} {w w' : World} {A : Option Addr} {n c : Nat} {xs : List FracD} {code : Int} (h : r = (xs, code)) (ho : w'.ownsRow w.heap.size 33 2 (.slice A n c) n (fracs xs)) (hb : Below w.heap.size w w') :
    RetFracs r w (.returned (.tuple #[.slice A n c, .int .i64 code])) w' := by
  subst h
  have hl := own_fracs_len ho
  subst hl
  exact ⟨A, c, rfl, ho, hb⟩
theorem RetFracs.nil {r : List FracD × Int} {w w' : World} {code : Int} (h : r = ([], code)) (hb : Below w.heap.size w w') :
    RetFracs r w (.returned (.tuple #[.slice none 0 0, .int .i64 code])) w' := RetFracs.mk h (World.ownsRow_nil _ _ _ _) hb
def errNum (z num den : Int) : Int := rnd (z * num) den * den - z * num
def errOf (z num den : Int) : FracD := ⟨lowN (errNum z num den) den, lowD (errNum z num den) den⟩
/-- The first k errors. -/
def errL (zs : List Int) (num den : Int) : Nat → List FracD
  | 0 => []
  | k + 1 => errL zs num den k ++ [errOf (ix zs k) num den]
theorem errL_len (zs : List Int) (num den : Int) : ∀ k, (errL zs num den k).length = k
  | 0 => rfl
  | k + 1 => by show (errL zs num den k ++ [_]).length = _; rw [List.length_append, errL_len zs num den k]; rfl
def errR (zs : List Int) (num den : Int) : List FracD × Int := if ratioOk zs num den = false then ([], 2) else (errL zs num den zs.length, 0)
theorem errR_len (zs : List Int) (num den : Int) : (errR zs num den).1.length ≤ 1048577 := by
  unfold errR
  by_cases h : ratioOk zs num den = false
  · rw [if_pos h]; simp
  · rw [if_neg h]
    have := lensOk_bd (ratioOk_bd (by simpa using h)).1
    show (errL _ _ _ _).length ≤ _
    rw [errL_len]; omega
theorem errR_no {zs : List Int} {num den : Int} (h : ratioOk zs num den = false) : errR zs num den = ([], 2) := by simp [errR, h]
theorem errR_yes {zs : List Int} {num den : Int} (h : ratioOk zs num den = true) : errR zs num den = (errL zs num den zs.length, 0) := by simp [errR, h]
theorem ScaleErrors_any (A : Option Addr) (n c : Nat) (zs : List Int) (num den : Int) (w : World) (h : Rd w 1 A n (ints zs)) (hn : n ≤ 1048576) :
    Calls Try.prog 39 #[.slice A n c, .int .i64 num, .int .i64 den] w (RetFracs (errR zs num den) w) := by
  cases h1 : ratioOk zs num den
  · have hcode : ratioC zs num den = 2 := by simp [ratioC, h1]
    have hr := Lib.hid (errR_no h1)
    go_enter Try.func39, Try.ntmps39
    go_wp2_with fail
    refine (isScaled_any _ _ _ _ _ _ _ h hn).mono ?_
    rintro e w1 ⟨rfl, H1⟩
    go_wp2_with fail
    go_ret2
    exact RetFracs.nil hr.out H1
  obtain ⟨hok, ⟨hn1, hn2⟩, hd1, hd2⟩ := ratioOk_bd h1
  have hlen := Lib.hid h.len
  have hr := Lib.hid (errR_yes h1)
  obtain ⟨hl1, hl2, hall⟩ := lensOk_bd hok
  have hn20 : n ≤ 20 := by rw [← hlen.out]; exact hl2
  clear hl1 hl2
  have hcode : ratioC zs num den = 0 := by simp [ratioC, h1]
  go_enter Try.func39, Try.ntmps39
  go_wp2_with fail
  refine (isScaled_any _ _ _ _ _ _ _ h hn).mono ?_
  rintro e w1 ⟨rfl, H1⟩
  go_wp2_with fail
  have hrd := h.below H1
  clear h1
  go_loopw [8, 19] (fun v i wr => ∃ (k : Nat) (A' : Option Addr) (c' : Nat), k ≤ n ∧ i = .int .i64 k ∧ v = .slice A' k c' ∧ wr.ownsRow w1.heap.size 33 2 (.slice A' k c') k (fracs (errL zs num den k)) ∧ Below w1.heap.size w1 wr) (fun _ i _ => n - (intOf i).toNat)
  case atStart => exact ⟨0, _, _, by omega, rfl, rfl, own_lit rfl (by simp) (by decide) rfl rfl, by go_grown⟩
  case round =>
    obtain ⟨k, A', c', hk, rfl, rfl, ho, HB⟩ := hrel
    by_cases hlt : k < n
    · obtain ⟨b, off, rfl, hb, hcell⟩ := (hrd.below HB).int hlt
      obtain ⟨i1, i2⟩ := inR_true.1 (hall k (by rw [hlen.out]; exact hlt))
      obtain ⟨u1, u2⟩ := mul_bd (show 0 ≤ ix zs k by omega) i2 (show 0 ≤ num by omega) hn2 (C := 10000000) (by decide)
      obtain ⟨v1, v2⟩ := rnd_bd hd1 10000000 (n := ix zs k * num) (by omega) (by decide)
      have v3 := Int.mul_le_mul_of_nonneg_right v2 (show 0 ≤ den by omega)
      have v4 := Int.mul_le_mul_of_nonneg_right v1 (show 0 ≤ den by omega)
      have v5 : rnd (ix zs k * num) den * den ≤ 10000001000 := by omega
      have v6 : -10000001000 ≤ rnd (ix zs k * num) den * den := by omega
      clear v3 v4
      have hx : errL zs num den k ++ [⟨lowN (rnd (ix zs k * num) den * den - ix zs k * num) den, lowD (rnd (ix zs k * num) den * den - ix zs k * num) den⟩] = errL zs num den (k + 1) := rfl
      have hx' := Lib.hid hx
      clear hx
      go_wp2_with (go_at_call 65; refine (rounded_any _ _ _ (by unfold Mid; omega) (by omega) (by unfold Mid; omega)).mono ?_; rintro e w2 ⟨rfl, rfl⟩)
      refine (lowest_any _ _ _ (by unfold Mid; omega) (by omega) (by unfold Mid; omega)).mono ?_
      rintro e w3 ⟨rfl, hb3⟩
      have HB3 := Bl.then HB hb3
      have ho3 := own_below ho hb3
      go_wp2_with (at_builtin; refine wpList_app_fracs _ rfl _ _ rfl _ _ _ _ _ ⟨lowN (rnd (ix zs k * num) den * den - ix zs k * num) den, lowD (rnd (ix zs k * num) den * den - ix zs k * num) den⟩ rfl ho3 rfl HB3.size (by omega) ?_; intro A2 c2 w2 ho2 hg2)
      go_roundw
      case rel => exact ⟨k + 1, A2, c2, by omega, by go_num, rfl, by rw [hx'.out] at ho2; exact ho2, app_below ho3 HB3 (Nat.le_refl _) HB3.size hg2⟩
      case measure => simp [intOf]; omega
    · obtain rfl : k = n := by omega
      go_wp2_with fail
      go_ret2
      refine RetFracs.mk hr.out (ownsRow_le' ?_ H1.size) (Bl.then H1 HB)
      rw [hlen.out]
      exact ho
theorem sScaleErrors_any (A : Option Addr) (n c : Nat) (zs : List Int) (num den : Int) (w : World) (h : Rd w 1 A n (ints zs)) (hn : n ≤ 1048576) :
    Calls Try.prog 38 #[.slice A n c, .int .i64 num, .int .i64 den] w (RetFracs (errR zs num den) w) := by
  cases h1 : ratioOk zs num den
  · have hcode : ratioC zs num den = 2 := by simp [ratioC, h1]
    have hr := Lib.hid (errR_no h1)
    go_enter Try.func38, Try.ntmps38
    go_wp2_with fail
    refine (l05Ratio_any _ _ _ _ _ _ _ h hn).mono ?_
    rintro e w1 ⟨rfl, rfl⟩
    have H1 := Below.refl w.heap.size w
    go_wp2_with fail
    go_ret2
    exact RetFracs.nil hr.out H1
  obtain ⟨hok, ⟨hn1, hn2⟩, hd1, hd2⟩ := ratioOk_bd h1
  have hlen := Lib.hid h.len
  have hr := Lib.hid (errR_yes h1)
  obtain ⟨hl1, hl2, hall⟩ := lensOk_bd hok
  have hn20 : n ≤ 20 := by rw [← hlen.out]; exact hl2
  clear hl1 hl2
  have hcode : ratioC zs num den = 0 := by simp [ratioC, h1]
  go_enter Try.func38, Try.ntmps38
  go_wp2_with fail
  refine (l05Ratio_any _ _ _ _ _ _ _ h hn).mono ?_
  rintro e w1 ⟨rfl, rfl⟩
  have H1 := Below.refl w.heap.size w
  go_wp2_with fail
  have hrd := h.below H1
  clear h1
  go_loopw [9, 10] (fun v i wr => ∃ (k : Nat) (A' : Option Addr) (c' : Nat), k ≤ n ∧ i = .int .i64 k ∧ v = .slice A' k c' ∧ wr.ownsRow w.heap.size 33 2 (.slice A' k c') k (fracs (errL zs num den k)) ∧ Below w.heap.size w wr) (fun _ i _ => n - (intOf i).toNat)
  case atStart => exact ⟨0, _, _, by omega, rfl, rfl, own_lit rfl (by simp) (by decide) rfl rfl, by go_grown⟩
  case round =>
    obtain ⟨k, A', c', hk, rfl, rfl, ho, HB⟩ := hrel
    by_cases hlt : k < n
    · obtain ⟨b, off, rfl, hb, hcell⟩ := (hrd.below HB).int hlt
      obtain ⟨i1, i2⟩ := inR_true.1 (hall k (by rw [hlen.out]; exact hlt))
      obtain ⟨u1, u2⟩ := mul_bd (show 0 ≤ ix zs k by omega) i2 (show 0 ≤ num by omega) hn2 (C := 10000000) (by decide)
      obtain ⟨v1, v2⟩ := rnd_bd hd1 10000000 (n := ix zs k * num) (by omega) (by decide)
      have v3 := Int.mul_le_mul_of_nonneg_right v2 (show 0 ≤ den by omega)
      have v4 := Int.mul_le_mul_of_nonneg_right v1 (show 0 ≤ den by omega)
      have v5 : rnd (ix zs k * num) den * den ≤ 10000001000 := by omega
      have v6 : -10000001000 ≤ rnd (ix zs k * num) den * den := by omega
      clear v3 v4
      have hx : errL zs num den k ++ [⟨lowN (rnd (ix zs k * num) den * den - ix zs k * num) den, lowD (rnd (ix zs k * num) den * den - ix zs k * num) den⟩] = errL zs num den (k + 1) := rfl
      have hx' := Lib.hid hx
      clear hx
      go_wp2_with (go_at_call 63; refine (l02Round_any _ _ _ (by unfold Mid; omega) (by omega) (by unfold Mid; omega)).mono ?_; rintro e w2 ⟨rfl, rfl⟩)
      refine (l02Make_any _ _ _ (by unfold Mid; omega) (by omega) (by unfold Mid; omega)).mono ?_
      rintro e w3 ⟨rfl, hb3⟩
      have HB3 := Bl.then HB hb3
      have ho3 := own_below ho hb3
      go_wp2_with (at_builtin; refine wpList_app_fracs _ rfl _ _ rfl _ _ _ _ _ ⟨lowN (rnd (ix zs k * num) den * den - ix zs k * num) den, lowD (rnd (ix zs k * num) den * den - ix zs k * num) den⟩ rfl ho3 rfl HB3.size (by omega) ?_; intro A2 c2 w2 ho2 hg2)
      go_roundw
      case rel => exact ⟨k + 1, A2, c2, by omega, by go_num, rfl, by rw [hx'.out] at ho2; exact ho2, app_below ho3 HB3 (Nat.le_refl _) HB3.size hg2⟩
      case measure => simp [intOf]; omega
    · obtain rfl : k = n := by omega
      go_wp2_with fail
      go_ret2
      refine RetFracs.mk hr.out (ownsRow_le' ?_ H1.size) (Bl.then H1 HB)
      rw [hlen.out]
      exact ho
end Go.Proofs.Ytpmdgbdeibeoaaa
