/-
  Lengths of edges: shares, scaling, for the program and for the reference; for every slice that reads as the given list.
-/
import Derived.Test.YtpmdgbdeibeoaaaLens0
namespace Go.Proofs.Ytpmdgbdeibeoaaa
open Go.RowKit
set_option maxHeartbeats 400000

def gradeLens (zs : List Int) (sum : Int) : List Int × Int := if lensOk zs = false then ([], 2) else if inR sum 1 1000000 = false then ([], 2) else (shares zs sum, 0)
def scaleLens (zs : List Int) (num den : Int) : List Int × Int := if lensOk zs = false then ([], 2) else if inR num 1 1000 = false then ([], 2) else if inR den 1 1000 = false then ([], 2) else (scaled zs num den, 0)
theorem gradeLens_len (zs : List Int) (sum : Int) : (gradeLens zs sum).1.length ≤ 1048577 := by
  unfold gradeLens
  split
  · simp
  split
  · simp
  · rename_i h _
    have := lensOk_bd (by simpa using h)
    show (shares zs sum).length ≤ _
    rw [shares_len]; omega
theorem scaleLens_len (zs : List Int) (num den : Int) : (scaleLens zs num den).1.length ≤ 1048577 := by
  unfold scaleLens
  split
  · simp
  split
  · simp
  split
  · simp
  · rename_i h _ _
    have := lensOk_bd (by simpa using h)
    have h2 := accL_len (g := scaleAt zs num den) (fun k => by simp [scaleAt]) zs.length
    show (accL _ zs.length).length ≤ _
    omega
theorem sumOf_any (A : Option Addr) (n c : Nat) (zs : List Int) (w : World) (h : Rd w 1 A n (ints zs)) (hn : n ≤ 1048576) (ha : AllIn zs zs.length 0 1000000) :
    Calls Try.prog 72 #[.slice A n c] w fun e w' => e = .returned (.int .i64 (total zs)) ∧ w = w' := by
  have hlen := Lib.hid h.len
  go_enter Try.func72, Try.ntmps72
  go_wp2_with fail
  go_loop [3, 8] (fun p i => ∃ k : Nat, k ≤ n ∧ i = .int .i64 k ∧ p = .int .i64 (pre zs k)) (fun _ i => n - (intOf i).toNat)
  case atStart => exact ⟨0, by omega, rfl, rfl⟩
  case round =>
    obtain ⟨k, hk, rfl, rfl⟩ := hrel
    by_cases hlt : k < n
    · obtain ⟨b, off, rfl, hb, hcell⟩ := h.int hlt
      obtain ⟨p1, p2⟩ := pre_bd ha k (by rw [hlen.out]; omega)
      obtain ⟨q1, q2⟩ := inR_true.1 (ha k (by rw [hlen.out]; exact hlt))
      have p3 : 0 ≤ pre zs k := by omega
      have p4 : pre zs k ≤ 1000000000000000 := by omega
      clear p1 p2
      go_wp2_with fail
      go_round
      case rel => exact ⟨k + 1, by omega, by go_num, rfl⟩
      case measure => simp [intOf]; omega
    · obtain rfl : k = n := by omega
      go_wp2_with fail
      go_ret
      exact ⟨ret_int (by unfold total; rw [hlen.out]), rfl⟩
theorem l02Sum_any (A : Option Addr) (n c : Nat) (zs : List Int) (w : World) (h : Rd w 1 A n (ints zs)) (hn : n ≤ 1048576) (ha : AllIn zs zs.length 0 1000000) :
    Calls Try.prog 71 #[.slice A n c] w fun e w' => e = .returned (.int .i64 (total zs)) ∧ w = w' := by
  have hlen := Lib.hid h.len
  go_enter Try.func71, Try.ntmps71
  go_wp2_with fail
  go_loop [3, 4] (fun p i => ∃ k : Nat, k ≤ n ∧ i = .int .i64 k ∧ p = .int .i64 (pre zs k)) (fun _ i => n - (intOf i).toNat)
  case atStart => exact ⟨0, by omega, rfl, rfl⟩
  case round =>
    obtain ⟨k, hk, rfl, rfl⟩ := hrel
    by_cases hlt : k < n
    · obtain ⟨b, off, rfl, hb, hcell⟩ := h.int hlt
      obtain ⟨p1, p2⟩ := pre_bd ha k (by rw [hlen.out]; omega)
      obtain ⟨q1, q2⟩ := inR_true.1 (ha k (by rw [hlen.out]; exact hlt))
      have p3 : 0 ≤ pre zs k := by omega
      have p4 : pre zs k ≤ 1000000000000000 := by omega
      clear p1 p2
      go_wp2_with fail
      go_round
      case rel => exact ⟨k + 1, by omega, by go_num, rfl⟩
      case measure => simp [intOf]; omega
    · obtain rfl : k = n := by omega
      go_wp2_with fail
      go_ret
      exact ⟨ret_int (by unfold total; rw [hlen.out]), rfl⟩
theorem areLengths_any (A : Option Addr) (n c : Nat) (zs : List Int) (w : World) (h : Rd w 1 A n (ints zs)) (hn : n ≤ 1048576) :
    Calls Try.prog 68 #[.slice A n c] w fun e w' => e = .returned (.bool (lensOk zs)) ∧ Below w.heap.size w w' := by
  have hlen := Lib.hid h.len
  cases h1 : inR (n : Int) 1 20
  · go_enter Try.func68, Try.ntmps68
    go_wp2_with (go_at_call 69; refine (within_any _ _ _ _).mono ?_; rintro e w2 ⟨rfl, rfl⟩)
    go_ret
    exact ⟨ret_bool (by simp [lensOk, hlen.out, h1]), Below.refl _ _⟩
  · go_enter Try.func68, Try.ntmps68
    go_wp2_with (first | (go_at_call 69; refine (within_any _ _ _ _).mono ?_; rintro e w2 ⟨rfl, rfl⟩) | (go_at_call 80; refine (outside_any _ _ _ _ _ _ _ h (by omega)).mono ?_; rintro e w3 ⟨rfl, H3⟩))
    go_ret
    exact ⟨ret_bool (by simp [lensOk, hlen.out, h1]), H3⟩
theorem l05Lengths_any (A : Option Addr) (n c : Nat) (zs : List Int) (w : World) (h : Rd w 1 A n (ints zs)) (hn : n ≤ 1048576) :
    Calls Try.prog 66 #[.slice A n c] w fun e w' => e = .returned (.bool (lensOk zs)) ∧ w = w' := by
  have hlen := Lib.hid h.len
  go_enter Try.func66, Try.ntmps66
  go_wp2_with fail
  go_loop [3] (fun i => ∃ k : Nat, k ≤ n ∧ AllIn zs k 1 10000 ∧ i = .int .i64 k) (fun i => n - (intOf i).toNat)
  case atStart => exact ⟨0, by omega, fun j h1 => by omega, rfl⟩
  case round =>
    obtain ⟨k, hk, hall, rfl⟩ := hrel
    by_cases hlt : k < n
    · obtain ⟨b, off, rfl, hb, hcell⟩ := h.int hlt
      cases hin : inR (ix zs k) 1 10000
      · have hin' := Lib.hid hin
        go_wp2_with (go_at_call 61; refine (l00In_any _ _ _ _).mono ?_; rintro e w' ⟨rfl, rfl⟩)
        go_ret
        exact ⟨ret_bool (by unfold lensOk; rw [outB_yes (k := k) (by rw [hlen.out]; exact hlt) hin'.out]; simp), rfl⟩
      · have hin' := Lib.hid hin
        go_wp2_with (go_at_call 61; refine (l00In_any _ _ _ _).mono ?_; rintro e w' ⟨rfl, rfl⟩)
        go_round
        case rel => exact ⟨k + 1, by omega, hall.snoc hin'.out, by go_num⟩
        case measure => simp [intOf]; omega
    · obtain rfl : k = n := by omega
      go_wp2_with (go_at_call 61; refine (l00In_any _ _ _ _).mono ?_; rintro e w' ⟨rfl, rfl⟩)
      go_ret
      exact ⟨ret_bool (by unfold lensOk; rw [outB_no (by rw [hlen.out]; exact hall), hlen.out]; simp), rfl⟩
theorem shared_any (A : Option Addr) (n c : Nat) (zs : List Int) (sum : Int) (w : World) (h : Rd w 1 A n (ints zs)) (hok : lensOk zs = true) (hs : 1 ≤ sum ∧ sum ≤ 1000000) :
    Calls Try.prog 70 #[.slice A n c, .int .i64 sum] w (RetSl 2 1 n (ints (shares zs sum)) w) := by
  obtain ⟨hs1, hs2⟩ := hs
  have hlen := Lib.hid h.len
  obtain ⟨hl1, hl2, hall⟩ := lensOk_bd hok
  have hn : n ≤ 20 := by rw [← hlen.out]; exact hl2
  obtain ⟨ht1, ht2⟩ := total_bd hok
  have hsl := Lib.hid (shares_len zs sum)
  clear hl1 hl2
  go_enter Try.func70, Try.ntmps70
  go_wp2_with (go_at_call 72; refine (sumOf_any _ _ _ _ _ (h.alloc _) (by omega) (hall.weak (by omega) (by omega))).mono ?_; rintro e w2 ⟨rfl, rfl⟩)
  go_loopw [5, 7, 15] (fun v p i wr => ∃ (k : Nat) (A' : Option Addr) (c' : Nat), k ≤ n ∧ i = .int .i64 k ∧ v = .slice A' k c' ∧ p = .int .i64 (pre zs k) ∧ wr.ownsRow w.heap.size 2 1 (.slice A' k c') k (ints (accL (shareAt zs sum) k)) ∧ Below w.heap.size w wr) (fun _ _ i _ => n - (intOf i).toNat)
  case atStart => exact ⟨0, _, _, by omega, rfl, rfl, rfl, own_lit rfl (by simp) (by decide) rfl rfl, by go_grown⟩
  case round =>
    obtain ⟨k, A', c', hk, rfl, rfl, rfl, ho, HB⟩ := hrel
    by_cases hlt : k < n
    · obtain ⟨b, off, rfl, hb, hcell⟩ := (h.below HB).int hlt
      have hkl : k + 1 ≤ zs.length := by rw [hlen.out]; exact hlt
      obtain ⟨q1, q2⟩ := pre_lens hok (k := k) (by omega)
      obtain ⟨r1, r2⟩ := pre_lens hok (k := k + 1) hkl
      have r3 : 0 ≤ pre zs k + ix zs k := r1
      have r4 : pre zs k + ix zs k ≤ 200000 := r2
      obtain ⟨u1, u2⟩ := mul_bd (show 0 ≤ sum by omega) hs2 q1 q2 (C := 200000000000) (by decide)
      obtain ⟨u3, u4⟩ := mul_bd (show 0 ≤ sum by omega) hs2 r3 r4 (C := 200000000000) (by decide)
      obtain ⟨v1, v2⟩ := rnd_bd ht1 200000000000 (n := sum * pre zs k) (by omega) (by decide)
      obtain ⟨v3, v4⟩ := rnd_bd ht1 200000000000 (n := sum * (pre zs k + ix zs k)) (by omega) (by decide)
      obtain ⟨i1, i2⟩ := inR_true.1 (hall k hkl)
      clear r1 r2 hkl
      go_wp2_with (first | (go_at_call 65; refine (rounded_any _ _ _ (by unfold Mid; omega) (by omega) (by unfold Mid; omega)).mono ?_; rintro e w2 ⟨rfl, rfl⟩) | (at_builtin; refine wpList_app_int _ rfl _ _ rfl _ _ _ _ _ _ rfl ho rfl HB.size (by omega) ?_; intro A2 c2 w2 ho2 hg2))
      go_roundw
      case rel => exact ⟨k + 1, A2, c2, by omega, by go_num, rfl, rfl, by rw [accL_add rfl] at ho2; exact ho2, app_below ho HB (Nat.le_refl _) HB.size hg2⟩
      case measure => simp [intOf]; omega
    · obtain rfl : k = n := by omega
      go_wp2_with fail
      go_ret
      refine ⟨_, _, rfl, ?_, HB⟩
      unfold shares
      rw [hlen.out]
      exact ho
theorem l05Grow_any (A : Option Addr) (n c : Nat) (zs : List Int) (sum : Int) (w : World) (h : Rd w 1 A n (ints zs)) (hok : lensOk zs = true) (hs : 1 ≤ sum ∧ sum ≤ 1000000) :
    Calls Try.prog 67 #[.slice A n c, .int .i64 sum] w (RetSl 2 1 n (ints (shares zs sum)) w) := by
  obtain ⟨hs1, hs2⟩ := hs
  have hlen := Lib.hid h.len
  obtain ⟨hl1, hl2, hall⟩ := lensOk_bd hok
  have hn : n ≤ 20 := by rw [← hlen.out]; exact hl2
  obtain ⟨ht1, ht2⟩ := total_bd hok
  have hsl := Lib.hid (shares_len zs sum)
  clear hl1 hl2
  go_enter Try.func67, Try.ntmps67
  go_wp2_with (go_at_call 71; refine (l02Sum_any _ _ _ _ _ h (by omega) (hall.weak (by omega) (by omega))).mono ?_; rintro e w2 ⟨rfl, rfl⟩)
  go_loopw [6, 7, 8, 9] (fun v p q i wr => ∃ (k : Nat) (A' : Option Addr) (c' : Nat), k ≤ n ∧ i = .int .i64 k ∧ v = .slice A' k c' ∧ p = .int .i64 (pre zs k) ∧ q = .int .i64 (rnd (sum * pre zs k) (total zs)) ∧ wr.ownsRow w.heap.size 2 1 (.slice A' k c') k (ints (accL (shareAt zs sum) k)) ∧ Below w.heap.size w wr) (fun _ _ _ i _ => n - (intOf i).toNat)
  case atStart => exact ⟨0, _, _, by omega, rfl, rfl, rfl, by rw [show pre zs 0 = 0 from rfl, Int.mul_zero, rnd_zero ht1], own_lit rfl (by simp) (by decide) rfl rfl, by go_grown⟩
  case round =>
    obtain ⟨k, A', c', hk, rfl, rfl, rfl, rfl, ho, HB⟩ := hrel
    by_cases hlt : k < n
    · obtain ⟨b, off, rfl, hb, hcell⟩ := (h.below HB).int hlt
      have hkl : k + 1 ≤ zs.length := by rw [hlen.out]; exact hlt
      obtain ⟨q1, q2⟩ := pre_lens hok (k := k) (by omega)
      obtain ⟨r1, r2⟩ := pre_lens hok (k := k + 1) hkl
      have r3 : 0 ≤ pre zs k + ix zs k := r1
      have r4 : pre zs k + ix zs k ≤ 200000 := r2
      obtain ⟨u1, u2⟩ := mul_bd (show 0 ≤ sum by omega) hs2 q1 q2 (C := 200000000000) (by decide)
      obtain ⟨u3, u4⟩ := mul_bd (show 0 ≤ sum by omega) hs2 r3 r4 (C := 200000000000) (by decide)
      obtain ⟨v1, v2⟩ := rnd_bd ht1 200000000000 (n := sum * pre zs k) (by omega) (by decide)
      obtain ⟨v3, v4⟩ := rnd_bd ht1 200000000000 (n := sum * (pre zs k + ix zs k)) (by omega) (by decide)
      obtain ⟨i1, i2⟩ := inR_true.1 (hall k hkl)
      clear r1 r2 hkl
      go_wp2_with (first | (go_at_call 63; refine (l02Round_any _ _ _ (by unfold Mid; omega) (by omega) (by unfold Mid; omega)).mono ?_; rintro e w2 ⟨rfl, rfl⟩) | (at_builtin; refine wpList_app_int _ rfl _ _ rfl _ _ _ _ _ _ rfl ho rfl HB.size (by omega) ?_; intro A2 c2 w2 ho2 hg2))
      go_roundw
      case rel => exact ⟨k + 1, A2, c2, by omega, by go_num, rfl, rfl, rfl, by rw [accL_add rfl] at ho2; exact ho2, app_below ho HB (Nat.le_refl _) HB.size hg2⟩
      case measure => simp [intOf]; omega
    · obtain rfl : k = n := by omega
      go_wp2_with fail
      go_ret
      refine ⟨_, _, rfl, ?_, HB⟩
      unfold shares
      rw [hlen.out]
      exact ho
theorem GradeLengths_any (A : Option Addr) (n c : Nat) (zs : List Int) (sum : Int) (w : World) (h : Rd w 1 A n (ints zs)) (hn : n ≤ 1048576) :
    Calls Try.prog 35 #[.slice A n c, .int .i64 sum] w (RetInts (gradeLens zs sum) w) := by
  cases h1 : lensOk zs
  · go_enter Try.func35, Try.ntmps35
    go_wp2_with (first | (go_at_call 68; refine (areLengths_any _ _ _ _ _ h hn).mono ?_; rintro e w1 ⟨rfl, H1⟩) | (go_at_call 69; refine (within_any _ _ _ _).mono ?_; rintro e w2 ⟨rfl, rfl⟩))
    go_ret2
    exact RetInts.nil (by simp [gradeLens, h1]) (H1)
  cases h2 : inR sum 1 1000000
  · go_enter Try.func35, Try.ntmps35
    go_wp2_with (first | (go_at_call 68; refine (areLengths_any _ _ _ _ _ h hn).mono ?_; rintro e w1 ⟨rfl, H1⟩) | (go_at_call 69; refine (within_any _ _ _ _).mono ?_; rintro e w2 ⟨rfl, rfl⟩))
    go_ret2
    exact RetInts.nil (by simp [gradeLens, h1, h2]) (H1)
  go_enter Try.func35, Try.ntmps35
  go_wp2_with (first | (go_at_call 68; refine (areLengths_any _ _ _ _ _ h hn).mono ?_; rintro e w1 ⟨rfl, H1⟩) | (go_at_call 69; refine (within_any _ _ _ _).mono ?_; rintro e w2 ⟨rfl, rfl⟩))
  refine (shared_any _ _ _ _ _ _ (h.below H1) h1 (inR_true.1 h2)).mono ?_
  rintro e w3 ⟨A3, c3, rfl, ho, H3⟩
  go_wp2_with fail
  go_ret2
  exact RetInts.mk (by simp [gradeLens, h1, h2]) (ownsRow_le' ho (H1).size) (Bl.then (H1) H3)
theorem sGradeLengths_any (A : Option Addr) (n c : Nat) (zs : List Int) (sum : Int) (w : World) (h : Rd w 1 A n (ints zs)) (hn : n ≤ 1048576) :
    Calls Try.prog 34 #[.slice A n c, .int .i64 sum] w (RetInts (gradeLens zs sum) w) := by
  cases h1 : lensOk zs
  · go_enter Try.func34, Try.ntmps34
    go_wp2_with (first | (go_at_call 66; refine (l05Lengths_any _ _ _ _ _ h hn).mono ?_; rintro e w1 ⟨rfl, rfl⟩) | (go_at_call 61; refine (l00In_any _ _ _ _).mono ?_; rintro e w2 ⟨rfl, rfl⟩))
    go_ret2
    exact RetInts.nil (by simp [gradeLens, h1]) (Below.refl w.heap.size w)
  cases h2 : inR sum 1 1000000
  · go_enter Try.func34, Try.ntmps34
    go_wp2_with (first | (go_at_call 66; refine (l05Lengths_any _ _ _ _ _ h hn).mono ?_; rintro e w1 ⟨rfl, rfl⟩) | (go_at_call 61; refine (l00In_any _ _ _ _).mono ?_; rintro e w2 ⟨rfl, rfl⟩))
    go_ret2
    exact RetInts.nil (by simp [gradeLens, h1, h2]) (Below.refl w.heap.size w)
  go_enter Try.func34, Try.ntmps34
  go_wp2_with (first | (go_at_call 66; refine (l05Lengths_any _ _ _ _ _ h hn).mono ?_; rintro e w1 ⟨rfl, rfl⟩) | (go_at_call 61; refine (l00In_any _ _ _ _).mono ?_; rintro e w2 ⟨rfl, rfl⟩))
  refine (l05Grow_any _ _ _ _ _ _ h h1 (inR_true.1 h2)).mono ?_
  rintro e w3 ⟨A3, c3, rfl, ho, H3⟩
  go_wp2_with fail
  go_ret2
  exact RetInts.mk (by simp [gradeLens, h1, h2]) (ownsRow_le' ho (Below.refl w.heap.size w).size) (Bl.then (Below.refl w.heap.size w) H3)
def ratioOk (zs : List Int) (num den : Int) : Bool := lensOk zs && inR num 1 1000 && inR den 1 1000
def ratioC (zs : List Int) (num den : Int) : Int := if ratioOk zs num den = false then 2 else 0
theorem isScaled_any (A : Option Addr) (n c : Nat) (zs : List Int) (num den : Int) (w : World) (h : Rd w 1 A n (ints zs)) (hn : n ≤ 1048576) :
    Calls Try.prog 64 #[.slice A n c, .int .i64 num, .int .i64 den] w fun e w' => e = .returned (.bool (ratioOk zs num den)) ∧ Below w.heap.size w w' := by
  cases h1 : lensOk zs <;> cases h2 : inR num 1 1000 <;> cases h3 : inR den 1 1000 <;>
  ( go_enter Try.func64, Try.ntmps64
    go_wp2_with (first | (go_at_call 68; refine (areLengths_any _ _ _ _ _ h hn).mono ?_; rintro e w1 ⟨rfl, H1⟩) | (go_at_call 69; refine (within_any _ _ _ _).mono ?_; rintro e w2 ⟨rfl, rfl⟩))
    go_ret
    exact ⟨ret_bool (by simp [ratioOk, h1, h2, h3]), H1⟩)
theorem l05Ratio_any (A : Option Addr) (n c : Nat) (zs : List Int) (num den : Int) (w : World) (h : Rd w 1 A n (ints zs)) (hn : n ≤ 1048576) :
    Calls Try.prog 62 #[.slice A n c, .int .i64 num, .int .i64 den] w fun e w' => e = .returned (.int .i64 (ratioC zs num den)) ∧ w = w' := by
  cases h1 : lensOk zs <;> cases h2 : inR num 1 1000 <;> cases h3 : inR den 1 1000 <;>
  ( go_enter Try.func62, Try.ntmps62
    go_wp2_with (first | (go_at_call 66; refine (l05Lengths_any _ _ _ _ _ h hn).mono ?_; rintro e w1 ⟨rfl, rfl⟩) | (go_at_call 61; refine (l00In_any _ _ _ _).mono ?_; rintro e w2 ⟨rfl, rfl⟩))
    go_ret
    exact ⟨ret_int (by simp [ratioC, ratioOk, h1, h2, h3]), rfl⟩)
theorem ratioOk_bd {zs : List Int} {num den : Int} (h : ratioOk zs num den = true) : lensOk zs = true ∧ (1 ≤ num ∧ num ≤ 1000) ∧ (1 ≤ den ∧ den ≤ 1000) := by
  simp only [ratioOk, Bool.and_eq_true, inR_true] at h
  exact ⟨h.1.1, h.1.2, h.2⟩
theorem scaleLens_no {zs : List Int} {num den : Int} (h : ratioOk zs num den = false) : scaleLens zs num den = ([], 2) := by
  unfold scaleLens
  unfold ratioOk at h
  cases h1 : lensOk zs <;> cases h2 : inR num 1 1000 <;> cases h3 : inR den 1 1000 <;> simp_all
theorem scaleLens_yes {zs : List Int} {num den : Int} (h : ratioOk zs num den = true) : scaleLens zs num den = (scaled zs num den, 0) := by
  unfold scaleLens
  simp only [ratioOk, Bool.and_eq_true] at h
  simp [h.1.1, h.1.2, h.2]
theorem ScaleLengths_any (A : Option Addr) (n c : Nat) (zs : List Int) (num den : Int) (w : World) (h : Rd w 1 A n (ints zs)) (hn : n ≤ 1048576) :
    Calls Try.prog 33 #[.slice A n c, .int .i64 num, .int .i64 den] w (RetInts (scaleLens zs num den) w) := by
  cases h1 : ratioOk zs num den
  · have hcode : ratioC zs num den = 2 := by simp [ratioC, h1]
    go_enter Try.func33, Try.ntmps33
    go_wp2_with fail
    refine (isScaled_any _ _ _ _ _ _ _ h hn).mono ?_
    rintro e w1 ⟨rfl, H1⟩
    go_wp2_with fail
    go_ret2
    exact RetInts.nil (scaleLens_no h1) (H1)
  obtain ⟨hok, ⟨hn1, hn2⟩, hd1, hd2⟩ := ratioOk_bd h1
  have hlen := Lib.hid h.len
  obtain ⟨hl1, hl2, hall⟩ := lensOk_bd hok
  have hn20 : n ≤ 20 := by rw [← hlen.out]; exact hl2
  clear hl1 hl2
  have hcode : ratioC zs num den = 0 := by simp [ratioC, h1]
  go_enter Try.func33, Try.ntmps33
  go_wp2_with fail
  refine (isScaled_any _ _ _ _ _ _ _ h hn).mono ?_
  rintro e w1 ⟨rfl, H1⟩
  have HB1 := H1
  go_wp2_with fail
  have hr := (h.below H1)
  have h1' := Lib.hid h1
  clear h1
  go_loopw [8, 19] (fun v i wr => ∃ (k : Nat) (A' : Option Addr) (c' : Nat), k ≤ n ∧ i = .int .i64 k ∧ v = .slice A' k c' ∧ wr.ownsRow w1.heap.size 2 1 (.slice A' k c') k (ints (accL (scaleAt zs num den) k)) ∧ Below w1.heap.size w1 wr) (fun _ i _ => n - (intOf i).toNat)
  case atStart => exact ⟨0, _, _, by omega, rfl, rfl, own_lit rfl (by simp) (by decide) rfl rfl, by go_grown⟩
  case round =>
    obtain ⟨k, A', c', hk, rfl, rfl, ho, HB⟩ := hrel
    by_cases hlt : k < n
    · obtain ⟨b, off, rfl, hb, hcell⟩ := (hr.below HB).int hlt
      obtain ⟨i1, i2⟩ := inR_true.1 (hall k (by rw [hlen.out]; exact hlt))
      obtain ⟨u1, u2⟩ := mul_bd (show 0 ≤ ix zs k by omega) i2 (show 0 ≤ num by omega) hn2 (C := 10000000) (by decide)
      go_wp2_with (first | (go_at_call 65; refine (rounded_any _ _ _ (by unfold Mid; omega) (by omega) (by unfold Mid; omega)).mono ?_; rintro e w2 ⟨rfl, rfl⟩) | (at_builtin; refine wpList_app_int _ rfl _ _ rfl _ _ _ _ _ _ rfl ho rfl HB.size (by omega) ?_; intro A2 c2 w2 ho2 hg2))
      go_roundw
      case rel => exact ⟨k + 1, A2, c2, by omega, by go_num, rfl, by rw [accL_add rfl] at ho2; exact ho2, app_below ho HB (Nat.le_refl _) HB.size hg2⟩
      case measure => simp [intOf]; omega
    · obtain rfl : k = n := by omega
      go_wp2_with fail
      go_ret2
      refine RetInts.mk (scaleLens_yes h1'.out) (ownsRow_le' ?_ HB1.size) (Bl.then HB1 HB)
      unfold scaled
      rw [hlen.out]
      exact ho
theorem sScaleLengths_any (A : Option Addr) (n c : Nat) (zs : List Int) (num den : Int) (w : World) (h : Rd w 1 A n (ints zs)) (hn : n ≤ 1048576) :
    Calls Try.prog 31 #[.slice A n c, .int .i64 num, .int .i64 den] w (RetInts (scaleLens zs num den) w) := by
  cases h1 : ratioOk zs num den
  · have hcode : ratioC zs num den = 2 := by simp [ratioC, h1]
    go_enter Try.func31, Try.ntmps31
    go_wp2_with fail
    refine (l05Ratio_any _ _ _ _ _ _ _ h hn).mono ?_
    rintro e w1 ⟨rfl, rfl⟩
    go_wp2_with fail
    go_ret2
    exact RetInts.nil (scaleLens_no h1) (Below.refl w.heap.size w)
  obtain ⟨hok, ⟨hn1, hn2⟩, hd1, hd2⟩ := ratioOk_bd h1
  have hlen := Lib.hid h.len
  obtain ⟨hl1, hl2, hall⟩ := lensOk_bd hok
  have hn20 : n ≤ 20 := by rw [← hlen.out]; exact hl2
  clear hl1 hl2
  have hcode : ratioC zs num den = 0 := by simp [ratioC, h1]
  go_enter Try.func31, Try.ntmps31
  go_wp2_with fail
  refine (l05Ratio_any _ _ _ _ _ _ _ h hn).mono ?_
  rintro e w1 ⟨rfl, rfl⟩
  have HB1 := Below.refl w.heap.size w
  go_wp2_with fail
  have hr := h
  have h1' := Lib.hid h1
  clear h1
  go_loopw [9, 10] (fun v i wr => ∃ (k : Nat) (A' : Option Addr) (c' : Nat), k ≤ n ∧ i = .int .i64 k ∧ v = .slice A' k c' ∧ wr.ownsRow w.heap.size 2 1 (.slice A' k c') k (ints (accL (scaleAt zs num den) k)) ∧ Below w.heap.size w wr) (fun _ i _ => n - (intOf i).toNat)
  case atStart => exact ⟨0, _, _, by omega, rfl, rfl, own_lit rfl (by simp) (by decide) rfl rfl, by go_grown⟩
  case round =>
    obtain ⟨k, A', c', hk, rfl, rfl, ho, HB⟩ := hrel
    by_cases hlt : k < n
    · obtain ⟨b, off, rfl, hb, hcell⟩ := (hr.below HB).int hlt
      obtain ⟨i1, i2⟩ := inR_true.1 (hall k (by rw [hlen.out]; exact hlt))
      obtain ⟨u1, u2⟩ := mul_bd (show 0 ≤ ix zs k by omega) i2 (show 0 ≤ num by omega) hn2 (C := 10000000) (by decide)
      go_wp2_with (first | (go_at_call 63; refine (l02Round_any _ _ _ (by unfold Mid; omega) (by omega) (by unfold Mid; omega)).mono ?_; rintro e w2 ⟨rfl, rfl⟩) | (at_builtin; refine wpList_app_int _ rfl _ _ rfl _ _ _ _ _ _ rfl ho rfl HB.size (by omega) ?_; intro A2 c2 w2 ho2 hg2))
      go_roundw
      case rel => exact ⟨k + 1, A2, c2, by omega, by go_num, rfl, by rw [accL_add rfl] at ho2; exact ho2, app_below ho HB (Nat.le_refl _) HB.size hg2⟩
      case measure => simp [intOf]; omega
    · obtain rfl : k = n := by omega
      go_wp2_with fail
      go_ret2
      refine RetInts.mk (scaleLens_yes h1'.out) (ownsRow_le' ?_ HB1.size) (Bl.then HB1 HB)
      unfold scaled
      rw [hlen.out]
      exact ho
end Go.Proofs.Ytpmdgbdeibeoaaa
