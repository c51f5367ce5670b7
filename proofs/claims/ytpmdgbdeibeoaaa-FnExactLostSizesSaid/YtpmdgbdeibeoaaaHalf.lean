/-
  Half sizes: HalfFor, NearestHalf, ConvertHalf, LengthOfHalf of the program and of the reference; names are any strings that Go can hold.
-/
import Derived.Test.YtpmdgbdeibeoaaaScale
import Derived.Test.YtpmdgbdeibeoaaaNum
namespace Go.Proofs.Ytpmdgbdeibeoaaa
open Go.RowKit
set_option maxHeartbeats 400000

theorem scaleOk_bd {s : ByteArray} {b n d : Int} (h : scaleOk s b n d = true) : (0 ≤ b ∧ b ≤ 100) ∧ (1 ≤ n ∧ n ≤ 1000) ∧ (1 ≤ d ∧ d ≤ 100) := by
  simp only [scaleOk, Bool.and_eq_true, inR_true] at h
  omega
noncomputable def scC (s : ByteArray) (b n d len : Int) : Int := if scaleOk s b n d = false then 1 else if inR len 0 5000 = false then 2 else 0
noncomputable def scH (s : ByteArray) (b n d half : Int) : Int := if scaleOk s b n d = false then 1 else if inR half 0 120 = false then 2 else 0
noncomputable def halfFor (s : ByteArray) (b n d len : Int) : Int × Int :=
  if scaleOk s b n d = false then (0, 1) else if inR len 0 5000 = false then (0, 2) else
    match firstOf 121 (fun k => decide (len * d ≤ ((k : Int) + b) * n)) with
    | some k => ((k : Int), 0)
    | none => (0, 3)
theorem hpair_some {n k : Nat} {p : Nat → Bool} {r : Int} (h : firstOf n p = some k) (hr : r = (k : Int)) : (match firstOf n p with | some k => ((k : Int), (0 : Int)) | none => (0, 3)) = (r, 0) := by rw [h, hr]
theorem hpair_none {n : Nat} {p : Nat → Bool} (h : firstOf n p = none) : (match firstOf n p with | some k => ((k : Int), (0 : Int)) | none => (0, 3)) = (0, 3) := by rw [h]
def HalfLow (b n d len : Int) (k : Nat) : Prop := ∀ j : Nat, j < k → ((j : Int) + b) * n < len * d
theorem HalfLow.snoc {b n d len : Int} {k : Nat} (h : HalfLow b n d len k) (hk : ((k : Int) + b) * n < len * d) : HalfLow b n d len (k + 1) := fun j hj => by
  by_cases e : j = k
  · subst e; exact hk
  · exact h j (by omega)

/-- How far the length of k half sizes is from num / den, times both denominators. -/
def nrF (b n d num den k : Int) : Int := szI ((k + b) * n * den - num * d)
/-- The first of 0 .. k at which f is least. -/
def nr (f : Int → Int) : Nat → Nat
  | 0 => 0
  | k + 1 => if f ((k : Int) + 1) < f (nr f k) then k + 1 else nr f k
theorem nr_succ (f : Int → Int) (k : Nat) : nr f (k + 1) = if f ((k : Int) + 1) < f (nr f k) then k + 1 else nr f k := rfl
theorem nr_le (f : Int → Int) : ∀ k, nr f k ≤ k
  | 0 => Nat.le_refl _
  | k + 1 => by
    have := nr_le f k
    unfold nr
    split <;> omega
def nearest (b n d num den : Int) : Int := (nr (nrF b n d num den) 120 : Nat)
theorem nearest_bd (b n d num den : Int) : 0 ≤ nearest b n d num den ∧ nearest b n d num den ≤ 120 := by
  have := nr_le (nrF b n d num den) 120
  unfold nearest; omega
theorem szI_nonneg (x : Int) : 0 ≤ szI x := by unfold szI; split <;> omega
theorem nrF_nonneg (b n d num den k : Int) : 0 ≤ nrF b n d num den k := szI_nonneg _
/-- What the program's loop knows ahead of half size k: the best so far and its distance. -/
def NrAt (f : Int → Int) (k : Nat) (best least : Int) : Prop := (k = 0 ∧ best = 0 ∧ least = -1) ∨ ∃ j, k = j + 1 ∧ best = (nr f j : Nat) ∧ least = f best
theorem NrAt.take {f : Int → Int} {k : Nat} {best least : Int} (h : NrAt f k best least) (ht : least < 0 ∨ f k < least) (hpos : ∀ x, 0 ≤ f x) : NrAt f (k + 1) k (f k) := by
  rcases h with ⟨rfl, _, _⟩ | ⟨j, rfl, hb, hl⟩
  · exact .inr ⟨0, rfl, rfl, rfl⟩
  · refine .inr ⟨j + 1, rfl, ?_, rfl⟩
    have h2 : f ((j : Int) + 1) < f (nr f j : Nat) := by
      rcases ht with h3 | h3
      · have := hpos best; omega
      · rw [hl, hb] at h3; simpa using h3
    rw [nr_succ, if_pos h2]
theorem NrAt.stay {f : Int → Int} {k : Nat} {best least : Int} (h : NrAt f k best least) (h1 : ¬ least < 0) (h2 : ¬ f k < least) : NrAt f (k + 1) best least := by
  rcases h with ⟨rfl, _, rfl⟩ | ⟨j, rfl, hb, hl⟩
  · omega
  · refine .inr ⟨j + 1, rfl, ?_, hl⟩
    have h3 : ¬ f ((j : Int) + 1) < f (nr f j : Nat) := by
      rw [hl, hb] at h2; simpa using h2
    rw [hb]
    rw [nr_succ, if_neg h3]
theorem NrAt.last {f : Int → Int} {best least : Int} (h : NrAt f 121 best least) : best = (nr f 120 : Nat) := by
  rcases h with ⟨h0, _⟩ | ⟨j, hj, hb, _⟩
  · omega
  · obtain rfl : j = 120 := by omega
    exact hb
theorem nrF_of {b n d num den k x : Int} (h : x = (k + b) * n * den - num * d) : szI x = nrF b n d num den k := by rw [h]; rfl
theorem scaleCode_any (s : ByteArray) (b n d len : Int) (w : World) (hs : s.size ≤ maxLen) :
    Calls Try.prog 50 #[.agg #[.string s, .int .i64 b, .int .i64 n, .int .i64 d], .int .i64 len] w fun e w' => e = .returned (.int .i64 (scC s b n d len)) ∧ Below w.heap.size w w' := by
  cases h1 : scaleOk s b n d <;> cases h2 : inR len 0 5000 <;>
  ( go_enter Try.func50, Try.ntmps50
    go_wp2_with (first | (go_at_call 54; refine (ValidScale_any _ _ _ _ _ hs).mono ?_; rintro e w1 ⟨rfl, H1⟩) | (go_at_call 69; refine (within_any _ _ _ _).mono ?_; rintro e w2 ⟨rfl, rfl⟩))
    go_ret
    exact ⟨ret_int (by simp [scC, h1, h2]), Bl.then (by go_grown) H1⟩)
theorem l03Length_any (s : ByteArray) (b n d len : Int) (w : World) (hs : s.size ≤ maxLen) :
    Calls Try.prog 49 #[.agg #[.string s, .int .i64 b, .int .i64 n, .int .i64 d], .int .i64 len] w fun e w' => e = .returned (.int .i64 (scC s b n d len)) ∧ Below w.heap.size w w' := by
  cases h1 : scaleOk s b n d <;> cases h2 : inR len 0 5000 <;>
  ( go_enter Try.func49, Try.ntmps49
    go_wp2_with (first | (go_at_call 51; refine (l03Ok_any _ _ _ _ _ hs).mono ?_; rintro e w1 ⟨rfl, H1⟩) | (go_at_call 61; refine (l00In_any _ _ _ _).mono ?_; rintro e w2 ⟨rfl, rfl⟩))
    go_ret
    exact ⟨ret_int (by simp [scC, h1, h2]), Bl.then (by go_grown) H1⟩)
theorem l03Code_any (s : ByteArray) (b n d len : Int) (w : World) (hs : s.size ≤ maxLen) :
    Calls Try.prog 58 #[.agg #[.string s, .int .i64 b, .int .i64 n, .int .i64 d], .int .i64 len] w fun e w' => e = .returned (.int .i64 (scH s b n d len)) ∧ Below w.heap.size w w' := by
  cases h1 : scaleOk s b n d <;> cases h2 : inR len 0 120 <;>
  ( go_enter Try.func58, Try.ntmps58
    go_wp2_with (first | (go_at_call 51; refine (l03Ok_any _ _ _ _ _ hs).mono ?_; rintro e w1 ⟨rfl, H1⟩) | (go_at_call 52; refine (l03Half_any _ _).mono ?_; rintro e w2 ⟨rfl, rfl⟩))
    go_ret
    exact ⟨ret_int (by simp [scH, h1, h2]), Bl.then (by go_grown) H1⟩)
theorem HalfFor_any (s : ByteArray) (b n d len : Int) (w : World) (hs : s.size ≤ maxLen) :
    Calls Try.prog 18 #[.agg #[.string s, .int .i64 b, .int .i64 n, .int .i64 d], .int .i64 len] w fun e w' => e = .returned (.tuple #[.int .i64 (halfFor s b n d len).1, .int .i64 (halfFor s b n d len).2]) ∧ Below w.heap.size w w' := by
  cases h1 : scaleOk s b n d
  · have hcode : scC s b n d len = 1 := by simp [scC, h1]
    go_enter Try.func18, Try.ntmps18
    go_wp2_with (go_at_call 50; refine (scaleCode_any _ _ _ _ _ _ hs).mono ?_; rintro e w1 ⟨rfl, H1⟩)
    go_ret2
    exact ⟨ret_pair (by simp [halfFor, h1]), Bl.then (by go_grown) H1⟩
  cases h2 : inR len 0 5000
  · have hcode : scC s b n d len = 2 := by simp [scC, h1, h2]
    go_enter Try.func18, Try.ntmps18
    go_wp2_with (go_at_call 50; refine (scaleCode_any _ _ _ _ _ _ hs).mono ?_; rintro e w1 ⟨rfl, H1⟩)
    go_ret2
    exact ⟨ret_pair (by simp [halfFor, h1, h2]), Bl.then (by go_grown) H1⟩
  have hcode : scC s b n d len = 0 := by simp [scC, h1, h2]
  obtain ⟨⟨hb1, hb2⟩, ⟨hn1, hn2⟩, hd1, hd2⟩ := scaleOk_bd h1
  obtain ⟨hl1, hl2⟩ := inR_true.1 h2
  obtain ⟨p3, p4⟩ := mul_bd hl1 hl2 (show 0 ≤ d by omega) hd2 (C := 500000) (by decide)
  have hfin : ∀ r, (match firstOf 121 (fun k => decide (len * d ≤ ((k : Int) + b) * n)) with | some k => ((k : Int), (0 : Int)) | none => (0, 3)) = r → halfFor s b n d len = r := fun r hr => by
    rw [← hr]; simp [halfFor, h1, h2]
  have hfin' := Lib.hid hfin
  clear hfin h1 h2
  go_enter Try.func18, Try.ntmps18
  go_wp2_with (go_at_call 50; refine (scaleCode_any _ _ _ _ _ _ hs).mono ?_; rintro e w1 ⟨rfl, H1⟩)
  clear hcode
  obtain ⟨hc, hf⟩ := bcell H1
  go_loop [7] (fun i => ∃ k : Nat, k ≤ 121 ∧ i = .int .i64 k ∧ HalfLow b n d len k) (fun i => 121 - (intOf i).toNat)
  case atStart => exact ⟨0, by omega, rfl, fun j hj => by omega⟩
  case round =>
    obtain ⟨k, hk, rfl, hlow⟩ := hrel
    by_cases hlt : k ≤ 120
    · obtain ⟨p1, p2⟩ := mul_bd (show 0 ≤ (k : Int) + b by omega) (show (k : Int) + b ≤ 220 by omega) (show 0 ≤ n by omega) hn2 (C := 220000) (by decide)
      by_cases hg : len * d ≤ ((k : Int) + b) * n
      · go_wp2_with fail
        go_ret2
        exact ⟨ret_pair (hfin'.out _ (hpair_some (firstOf_some (by omega) (by simpa using hg) (fun j hj => by have := hlow j hj; simp; omega)) rfl)), Bl.then (by go_grown) H1⟩
      · go_wp2_with fail
        go_round
        case rel => exact ⟨k + 1, by omega, by go_num, hlow.snoc (by omega)⟩
        case measure => simp [intOf]; omega
    · go_wp2_with fail
      go_ret2
      exact ⟨ret_pair (hfin'.out _ (hpair_none (firstOf_none (fun j hj => by have := hlow j (by omega); simp; omega)))), Bl.then (by go_grown) H1⟩
theorem sHalfFor_any (s : ByteArray) (b n d len : Int) (w : World) (hs : s.size ≤ maxLen) :
    Calls Try.prog 16 #[.agg #[.string s, .int .i64 b, .int .i64 n, .int .i64 d], .int .i64 len] w fun e w' => e = .returned (.tuple #[.int .i64 (halfFor s b n d len).1, .int .i64 (halfFor s b n d len).2]) ∧ Below w.heap.size w w' := by
  cases h1 : scaleOk s b n d
  · have hcode : scC s b n d len = 1 := by simp [scC, h1]
    go_enter Try.func16, Try.ntmps16
    go_wp2_with (go_at_call 49; refine (l03Length_any _ _ _ _ _ _ hs).mono ?_; rintro e w1 ⟨rfl, H1⟩)
    go_ret2
    exact ⟨ret_pair (by simp [halfFor, h1]), Bl.then (by go_grown) H1⟩
  cases h2 : inR len 0 5000
  · have hcode : scC s b n d len = 2 := by simp [scC, h1, h2]
    go_enter Try.func16, Try.ntmps16
    go_wp2_with (go_at_call 49; refine (l03Length_any _ _ _ _ _ _ hs).mono ?_; rintro e w1 ⟨rfl, H1⟩)
    go_ret2
    exact ⟨ret_pair (by simp [halfFor, h1, h2]), Bl.then (by go_grown) H1⟩
  have hcode : scC s b n d len = 0 := by simp [scC, h1, h2]
  obtain ⟨⟨hb1, hb2⟩, ⟨hn1, hn2⟩, hd1, hd2⟩ := scaleOk_bd h1
  obtain ⟨hl1, hl2⟩ := inR_true.1 h2
  obtain ⟨p3, p4⟩ := mul_bd hl1 hl2 (show 0 ≤ d by omega) hd2 (C := 500000) (by decide)
  have hfin : ∀ r, (match firstOf 121 (fun k => decide (len * d ≤ ((k : Int) + b) * n)) with | some k => ((k : Int), (0 : Int)) | none => (0, 3)) = r → halfFor s b n d len = r := fun r hr => by
    rw [← hr]; simp [halfFor, h1, h2]
  have hfin' := Lib.hid hfin
  clear hfin h1 h2
  go_enter Try.func16, Try.ntmps16
  go_wp2_with (go_at_call 49; refine (l03Length_any _ _ _ _ _ _ hs).mono ?_; rintro e w1 ⟨rfl, H1⟩)
  clear hcode
  obtain ⟨hc, hf⟩ := bcell H1
  go_loop [7] (fun i => ∃ k : Nat, k ≤ 121 ∧ i = .int .i64 k ∧ HalfLow b n d len k) (fun i => 121 - (intOf i).toNat)
  case atStart => exact ⟨0, by omega, rfl, fun j hj => by omega⟩
  case round =>
    obtain ⟨k, hk, rfl, hlow⟩ := hrel
    by_cases hlt : k ≤ 120
    · obtain ⟨p1, p2⟩ := mul_bd (show 0 ≤ (k : Int) + b by omega) (show (k : Int) + b ≤ 220 by omega) (show 0 ≤ n by omega) hn2 (C := 220000) (by decide)
      by_cases hg : len * d ≤ ((k : Int) + b) * n
      · go_wp2_with fail
        go_ret2
        exact ⟨ret_pair (hfin'.out _ (hpair_some (firstOf_some (by omega) (by simpa using hg) (fun j hj => by have := hlow j hj; simp; omega)) rfl)), Bl.then (by go_grown) H1⟩
      · go_wp2_with fail
        go_round
        case rel => exact ⟨k + 1, by omega, by go_num, hlow.snoc (by omega)⟩
        case measure => simp [intOf]; omega
    · go_wp2_with fail
      go_ret2
      exact ⟨ret_pair (hfin'.out _ (hpair_none (firstOf_none (fun j hj => by have := hlow j (by omega); simp; omega)))), Bl.then (by go_grown) H1⟩
theorem nearestHalf_any (s : ByteArray) (b n d num den : Int) (w : World) (hb : 0 ≤ b ∧ b ≤ 100) (hn : 1 ≤ n ∧ n ≤ 1000) (hd : 1 ≤ d ∧ d ≤ 100) (hu : 0 ≤ num ∧ num ≤ 220000) (hv : 1 ≤ den ∧ den ≤ 100) :
    Calls Try.prog 57 #[.agg #[.string s, .int .i64 b, .int .i64 n, .int .i64 d], .int .i64 num, .int .i64 den] w fun e w' => e = .returned (.int .i64 (nearest b n d num den)) ∧ (w.alloc (.cells #[.string s, .int .i64 b, .int .i64 n, .int .i64 d] 27)) = w' := by
  obtain ⟨hb1, hb2⟩ := hb
  obtain ⟨hn1, hn2⟩ := hn
  obtain ⟨hd1, hd2⟩ := hd
  obtain ⟨hu1, hu2⟩ := hu
  obtain ⟨hv1, hv2⟩ := hv
  obtain ⟨p3, p4⟩ := mul_bd hu1 hu2 (show 0 ≤ d by omega) hd2 (C := 22000000) (by decide)
  go_enter Try.func57, Try.ntmps57
  go_wp2_with fail
  go_loop [7, 8, 9] (fun p q i => ∃ (k : Nat) (best least : Int), k ≤ 121 ∧ i = .int .i64 k ∧ p = .int .i64 best ∧ q = .int .i64 least ∧ NrAt (nrF b n d num den) k best least) (fun _ _ i => 121 - (intOf i).toNat)
  case atStart => exact ⟨0, 0, -1, by omega, rfl, rfl, rfl, .inl ⟨rfl, rfl, rfl⟩⟩
  case round =>
    obtain ⟨k, best, least, hk, rfl, rfl, rfl, hat⟩ := hrel
    by_cases hlt : k ≤ 120
    · obtain ⟨p1, p2⟩ := mul_bd (show 0 ≤ (k : Int) + b by omega) (show (k : Int) + b ≤ 220 by omega) (show 0 ≤ n by omega) hn2 (C := 220000) (by decide)
      obtain ⟨p5, p6⟩ := mul_bd p1 p2 (show 0 ≤ den by omega) hv2 (C := 22000000) (by decide)
      have eF : szI (((k : Int) + b) * n * den - num * d) = nrF b n d num den k := rfl
      by_cases hl0 : least < 0
      · go_wp2_with (go_at_call 85; refine (apart_any _ _ _ (by unfold Mid; omega) (by unfold Mid; omega)).mono ?_; rintro e w2 ⟨rfl, rfl⟩)
        go_round
        case rel => exact ⟨k + 1, _, _, by omega, by go_num, rfl, rfl, hat.take (.inl hl0) (nrF_nonneg _ _ _ _ _)⟩
        case measure => simp [intOf]; omega
      · by_cases hlss : nrF b n d num den k < least
        · go_wp2_with (go_at_call 85; refine (apart_any _ _ _ (by unfold Mid; omega) (by unfold Mid; omega)).mono ?_; rintro e w2 ⟨rfl, rfl⟩)
          go_round
          case rel => exact ⟨k + 1, _, _, by omega, by go_num, rfl, rfl, hat.take (.inr hlss) (nrF_nonneg _ _ _ _ _)⟩
          case measure => simp [intOf]; omega
        · go_wp2_with (go_at_call 85; refine (apart_any _ _ _ (by unfold Mid; omega) (by unfold Mid; omega)).mono ?_; rintro e w2 ⟨rfl, rfl⟩)
          go_round
          case rel => exact ⟨k + 1, _, _, by omega, by go_num, rfl, rfl, hat.stay (by omega) (by omega)⟩
          case measure => simp [intOf]; omega
    · obtain rfl : k = 121 := by omega
      have hl := Lib.hid hat.last
      clear hat
      go_wp2_with fail
      go_ret
      exact ⟨ret_int hl.out, rfl⟩
set_option maxRecDepth 100000 in
theorem l03Nearest_any (s : ByteArray) (b n d num den : Int) (w : World) (hb : 0 ≤ b ∧ b ≤ 100) (hn : 1 ≤ n ∧ n ≤ 1000) (hd : 1 ≤ d ∧ d ≤ 100) (hu : 0 ≤ num ∧ num ≤ 220000) (hv : 1 ≤ den ∧ den ≤ 100) :
    Calls Try.prog 53 #[.agg #[.string s, .int .i64 b, .int .i64 n, .int .i64 d], .int .i64 num, .int .i64 den] w fun e w' => e = .returned (.int .i64 (nearest b n d num den)) ∧ (w.alloc (.cells #[.string s, .int .i64 b, .int .i64 n, .int .i64 d] 27)) = w' := by
  obtain ⟨hb1, hb2⟩ := hb
  obtain ⟨hn1, hn2⟩ := hn
  obtain ⟨hd1, hd2⟩ := hd
  obtain ⟨hu1, hu2⟩ := hu
  obtain ⟨hv1, hv2⟩ := hv
  obtain ⟨p3, p4⟩ := mul_bd hu1 hu2 (show 0 ≤ d by omega) hd2 (C := 22000000) (by decide)
  go_enter Try.func53, Try.ntmps53
  go_wp2_with fail
  go_loop [7, 8] (fun p i => ∃ (k m : Nat), k ≤ 120 ∧ i = .int .i64 ((k : Int) + 1) ∧ p = .int .i64 m ∧ Hid (m = nr (nrF b n d num den) k)) (fun _ i => 121 - (intOf i).toNat)
  case atStart => exact ⟨0, 0, by omega, rfl, rfl, rfl⟩
  case round =>
    obtain ⟨k, m, hk, rfl, rfl, hm⟩ := hrel
    by_cases hlt : k < 120
    · have hm2 : m ≤ k := by rw [hm.out]; exact nr_le _ _
      obtain ⟨p1, p2⟩ := mul_bd (show 0 ≤ (k : Int) + 1 + b by omega) (show (k : Int) + 1 + b ≤ 220 by omega) (show 0 ≤ n by omega) hn2 (C := 220000) (by decide)
      obtain ⟨p5, p6⟩ := mul_bd p1 p2 (show 0 ≤ den by omega) hv2 (C := 22000000) (by decide)
      obtain ⟨r1, r2⟩ := mul_bd (show 0 ≤ (m : Int) + b by omega) (show (m : Int) + b ≤ 220 by omega) (show 0 ≤ n by omega) hn2 (C := 220000) (by decide)
      obtain ⟨r5, r6⟩ := mul_bd r1 r2 (show 0 ≤ den by omega) hv2 (C := 22000000) (by decide)
      by_cases hlss : nrF b n d num den ((k : Int) + 1) < nrF b n d num den m
      · have e1 : szI (((k : Int) + 1 + b) * n * den - num * d) = nrF b n d num den ((k : Int) + 1) := rfl
        have e2 : szI (((m : Int) + b) * n * den - num * d) = nrF b n d num den m := rfl
        go_wp2_with fail
        refine (l02Size_any _ _ (by unfold Mid; omega)).mono ?_
        rintro e w2 ⟨rfl, rfl⟩
        go_wp2_with fail
        refine (l02Size_any _ _ (by unfold Mid; omega)).mono ?_
        rintro e w2 ⟨rfl, rfl⟩
        go_wp2_with fail
        go_round
        case rel => exact ⟨k + 1, k + 1, by omega, by go_num, by go_num, by unfold Hid; rw [nr_succ, ← hm.out, if_pos hlss]⟩
        case measure => simp [intOf]; omega
      · have e1 : szI (((k : Int) + 1 + b) * n * den - num * d) = nrF b n d num den ((k : Int) + 1) := rfl
        have e2 : szI (((m : Int) + b) * n * den - num * d) = nrF b n d num den m := rfl
        go_wp2_with fail
        refine (l02Size_any _ _ (by unfold Mid; omega)).mono ?_
        rintro e w2 ⟨rfl, rfl⟩
        go_wp2_with fail
        refine (l02Size_any _ _ (by unfold Mid; omega)).mono ?_
        rintro e w2 ⟨rfl, rfl⟩
        go_wp2_with fail
        go_round
        case rel => exact ⟨k + 1, m, by omega, by go_num, rfl, by unfold Hid; rw [nr_succ, ← hm.out, if_neg (by omega)]⟩
        case measure => simp [intOf]; omega
    · obtain rfl : k = 120 := by omega
      go_wp2_with fail
      go_ret
      exact ⟨ret_int (by unfold nearest; rw [hm.out]), rfl⟩
noncomputable def nearHalf (s : ByteArray) (b n d len : Int) : Int × Int :=
  if scaleOk s b n d = false then (0, 1) else if inR len 0 5000 = false then (0, 2) else (nearest b n d len 1, 0)
noncomputable def convHalf (s1 : ByteArray) (b1 n1 d1 half : Int) (s2 : ByteArray) (b2 n2 d2 : Int) : Int × Int :=
  if scaleOk s1 b1 n1 d1 = false then (0, 1) else if scaleOk s2 b2 n2 d2 = false then (0, 1) else if inR half 0 120 = false then (0, 2) else (nearest b2 n2 d2 ((half + b1) * n1) d1, 0)
/-- LengthOfHalf's fraction and code. -/
noncomputable def lenHalf (s : ByteArray) (b n d half : Int) : Int × Int × Int :=
  if scaleOk s b n d = false then (0, 0, 1) else if inR half 0 120 = false then (0, 0, 2) else (lowN ((half + b) * n) d, lowD ((half + b) * n) d, 0)
theorem ret_frac {x : Int × Int × Int} {a b c : Int} (h : x = (a, b, c)) : Ending.returned (.tuple #[.agg #[.int .i64 a, .int .i64 b], .int .i64 c]) = .returned (.tuple #[.agg #[.int .i64 x.1, .int .i64 x.2.1], .int .i64 x.2.2]) := by rw [h]
theorem NearestHalf_any (s : ByteArray) (b n d len : Int) (w : World) (hs : s.size ≤ maxLen) :
    Calls Try.prog 22 #[.agg #[.string s, .int .i64 b, .int .i64 n, .int .i64 d], .int .i64 len] w fun e w' => e = .returned (.tuple #[.int .i64 (nearHalf s b n d len).1, .int .i64 (nearHalf s b n d len).2]) ∧ Below w.heap.size w w' := by
  cases h1 : scaleOk s b n d
  · have hcode : scC s b n d len = 1 := by simp [scC, h1]
    go_enter Try.func22, Try.ntmps22
    go_wp2_with (go_at_call 50; refine (scaleCode_any _ _ _ _ _ _ hs).mono ?_; rintro e w1 ⟨rfl, H1⟩)
    go_ret2
    exact ⟨ret_pair (by simp [nearHalf, h1]), Bl.then (by go_grown) H1⟩
  cases h2 : inR len 0 5000
  · have hcode : scC s b n d len = 2 := by simp [scC, h1, h2]
    go_enter Try.func22, Try.ntmps22
    go_wp2_with (go_at_call 50; refine (scaleCode_any _ _ _ _ _ _ hs).mono ?_; rintro e w1 ⟨rfl, H1⟩)
    go_ret2
    exact ⟨ret_pair (by simp [nearHalf, h1, h2]), Bl.then (by go_grown) H1⟩
  have hcode : scC s b n d len = 0 := by simp [scC, h1, h2]
  obtain ⟨q1, q2, q3⟩ := scaleOk_bd h1
  obtain ⟨hl1, hl2⟩ := inR_true.1 h2
  go_enter Try.func22, Try.ntmps22
  go_wp2_with fail
  refine (scaleCode_any _ _ _ _ _ _ hs).mono ?_
  rintro e w1 ⟨rfl, H1⟩
  obtain ⟨hc, hf⟩ := bcell H1
  go_wp2_with (go_at_call 57; refine (nearestHalf_any _ _ _ _ _ _ _ q1 q2 q3 (by omega) (by omega)).mono ?_; rintro e w2 ⟨rfl, rfl⟩)
  go_ret2
  exact ⟨ret_pair (by simp [nearHalf, h1, h2]), Bl.then (by go_grown) (Bl.alloc H1 _)⟩
theorem sNearestHalf_any (s : ByteArray) (b n d len : Int) (w : World) (hs : s.size ≤ maxLen) :
    Calls Try.prog 21 #[.agg #[.string s, .int .i64 b, .int .i64 n, .int .i64 d], .int .i64 len] w fun e w' => e = .returned (.tuple #[.int .i64 (nearHalf s b n d len).1, .int .i64 (nearHalf s b n d len).2]) ∧ Below w.heap.size w w' := by
  cases h1 : scaleOk s b n d
  · have hcode : scC s b n d len = 1 := by simp [scC, h1]
    go_enter Try.func21, Try.ntmps21
    go_wp2_with (go_at_call 49; refine (l03Length_any _ _ _ _ _ _ hs).mono ?_; rintro e w1 ⟨rfl, H1⟩)
    go_ret2
    exact ⟨ret_pair (by simp [nearHalf, h1]), Bl.then (by go_grown) H1⟩
  cases h2 : inR len 0 5000
  · have hcode : scC s b n d len = 2 := by simp [scC, h1, h2]
    go_enter Try.func21, Try.ntmps21
    go_wp2_with (go_at_call 49; refine (l03Length_any _ _ _ _ _ _ hs).mono ?_; rintro e w1 ⟨rfl, H1⟩)
    go_ret2
    exact ⟨ret_pair (by simp [nearHalf, h1, h2]), Bl.then (by go_grown) H1⟩
  have hcode : scC s b n d len = 0 := by simp [scC, h1, h2]
  obtain ⟨q1, q2, q3⟩ := scaleOk_bd h1
  obtain ⟨hl1, hl2⟩ := inR_true.1 h2
  go_enter Try.func21, Try.ntmps21
  go_wp2_with fail
  refine (l03Length_any _ _ _ _ _ _ hs).mono ?_
  rintro e w1 ⟨rfl, H1⟩
  obtain ⟨hc, hf⟩ := bcell H1
  go_wp2_with (go_at_call 53; refine (l03Nearest_any _ _ _ _ _ _ _ q1 q2 q3 (by omega) (by omega)).mono ?_; rintro e w2 ⟨rfl, rfl⟩)
  go_ret2
  exact ⟨ret_pair (by simp [nearHalf, h1, h2]), Bl.then (by go_grown) (Bl.alloc H1 _)⟩
theorem convertHalf_any (s1 : ByteArray) (b1 n1 d1 half : Int) (s2 : ByteArray) (b2 n2 d2 : Int) (w : World) (hb1 : 0 ≤ b1 ∧ b1 ≤ 100) (hn1 : 1 ≤ n1 ∧ n1 ≤ 1000) (hd1 : 1 ≤ d1 ∧ d1 ≤ 100)
    (hb2 : 0 ≤ b2 ∧ b2 ≤ 100) (hn2 : 1 ≤ n2 ∧ n2 ≤ 1000) (hd2 : 1 ≤ d2 ∧ d2 ≤ 100) (hh : 0 ≤ half ∧ half ≤ 120) :
    Calls Try.prog 56 #[.agg #[.string s1, .int .i64 b1, .int .i64 n1, .int .i64 d1], .int .i64 half, .agg #[.string s2, .int .i64 b2, .int .i64 n2, .int .i64 d2]] w fun e w' => e = .returned (.int .i64 (nearest b2 n2 d2 ((half + b1) * n1) d1)) ∧ (((w.alloc (.cells #[.string s1, .int .i64 b1, .int .i64 n1, .int .i64 d1] 27)).alloc (.cells #[.string s2, .int .i64 b2, .int .i64 n2, .int .i64 d2] 27)).alloc (.cells #[.string s2, .int .i64 b2, .int .i64 n2, .int .i64 d2] 27)) = w' := by
  obtain ⟨hh1, hh2⟩ := hh
  obtain ⟨p1, p2⟩ := mul_bd (show 0 ≤ half + b1 by omega) (show half + b1 ≤ 220 by omega) (show 0 ≤ n1 by omega) hn1.2 (C := 220000) (by decide)
  go_enter Try.func56, Try.ntmps56
  go_wp2_with (go_at_call 57; refine (nearestHalf_any _ _ _ _ _ _ _ hb2 hn2 hd2 (by omega) hd1).mono ?_; rintro e w2 ⟨rfl, rfl⟩)
  go_ret
  exact ⟨rfl, rfl⟩
theorem ConvertHalf_any (s1 : ByteArray) (b1 n1 d1 half : Int) (s2 : ByteArray) (b2 n2 d2 : Int) (w : World) (hs1 : s1.size ≤ maxLen) (hs2 : s2.size ≤ maxLen) :
    Calls Try.prog 20 #[.agg #[.string s1, .int .i64 b1, .int .i64 n1, .int .i64 d1], .int .i64 half, .agg #[.string s2, .int .i64 b2, .int .i64 n2, .int .i64 d2]] w fun e w' => e = .returned (.tuple #[.int .i64 (convHalf s1 b1 n1 d1 half s2 b2 n2 d2).1, .int .i64 (convHalf s1 b1 n1 d1 half s2 b2 n2 d2).2]) ∧ Below w.heap.size w w' := by
  cases h1 : scaleOk s1 b1 n1 d1
  · go_enter Try.func20, Try.ntmps20
    go_wp2_with fail
    refine (ValidScale_any _ _ _ _ _ hs1).mono ?_
    rintro e w1 ⟨rfl, H1⟩
    obtain ⟨hc, hf⟩ := bcell H1
    go_wp2_with fail
    go_ret2
    exact ⟨ret_pair (by simp [convHalf, h1]), Bl.then (by go_grown) H1⟩
  cases h2 : scaleOk s2 b2 n2 d2
  · go_enter Try.func20, Try.ntmps20
    go_wp2_with fail
    refine (ValidScale_any _ _ _ _ _ hs1).mono ?_
    rintro e w1 ⟨rfl, H1⟩
    obtain ⟨hc, hf⟩ := bcell H1
    go_wp2_with fail
    refine (ValidScale_any _ _ _ _ _ hs2).mono ?_
    rintro e w2 ⟨rfl, hb⟩
    have H2 := Bl.then H1 hb
    clear hc hf hb
    obtain ⟨hc, hf⟩ := bcell H2
    go_wp2_with fail
    go_ret2
    exact ⟨ret_pair (by simp [convHalf, h1, h2]), Bl.then (by go_grown) H2⟩
  cases h3 : inR half 0 120
  · go_enter Try.func20, Try.ntmps20
    go_wp2_with fail
    refine (ValidScale_any _ _ _ _ _ hs1).mono ?_
    rintro e w1 ⟨rfl, H1⟩
    obtain ⟨hc, hf⟩ := bcell H1
    go_wp2_with fail
    refine (ValidScale_any _ _ _ _ _ hs2).mono ?_
    rintro e w2 ⟨rfl, hb⟩
    have H2 := Bl.then H1 hb
    clear hc hf hb
    obtain ⟨hc, hf⟩ := bcell H2
    go_wp2_with (go_at_call 55; refine (isHalf_any _ _).mono ?_; rintro e w3 ⟨rfl, rfl⟩)
    go_ret2
    exact ⟨ret_pair (by simp [convHalf, h1, h2, h3]), Bl.then (by go_grown) H2⟩
  obtain ⟨q1, q2, q3⟩ := scaleOk_bd h1
  obtain ⟨r1, r2, r3⟩ := scaleOk_bd h2
  obtain ⟨hh1, hh2⟩ := inR_true.1 h3
  obtain ⟨p1, p2⟩ := mul_bd (show 0 ≤ half + b1 by omega) (show half + b1 ≤ 220 by omega) (show 0 ≤ n1 by omega) q2.2 (C := 220000) (by decide)
  go_enter Try.func20, Try.ntmps20
  go_wp2_with fail
  refine (ValidScale_any _ _ _ _ _ hs1).mono ?_
  rintro e w1 ⟨rfl, H1⟩
  obtain ⟨hc, hf⟩ := bcell H1
  go_wp2_with fail
  refine (ValidScale_any _ _ _ _ _ hs2).mono ?_
  rintro e w2 ⟨rfl, hb⟩
  have H2 := Bl.then H1 hb
  clear hc hf hb
  obtain ⟨hc, hf⟩ := bcell H2
  go_wp2_with (go_at_call 55; refine (isHalf_any _ _).mono ?_; rintro e w3 ⟨rfl, rfl⟩)
  refine (convertHalf_any _ _ _ _ _ _ _ _ _ _ q1 q2 q3 r1 r2 r3 (by omega)).mono ?_
  rintro e w3 ⟨rfl, rfl⟩
  go_wp2_with fail
  go_ret2
  refine ⟨ret_pair (by simp [convHalf, h1, h2, h3]), Bl.then (by go_grown) (Bl.alloc (Bl.alloc (Bl.alloc H2 _) _) _)⟩
theorem sConvertHalf_any (s1 : ByteArray) (b1 n1 d1 half : Int) (s2 : ByteArray) (b2 n2 d2 : Int) (w : World) (hs1 : s1.size ≤ maxLen) (hs2 : s2.size ≤ maxLen) :
    Calls Try.prog 19 #[.agg #[.string s1, .int .i64 b1, .int .i64 n1, .int .i64 d1], .int .i64 half, .agg #[.string s2, .int .i64 b2, .int .i64 n2, .int .i64 d2]] w fun e w' => e = .returned (.tuple #[.int .i64 (convHalf s1 b1 n1 d1 half s2 b2 n2 d2).1, .int .i64 (convHalf s1 b1 n1 d1 half s2 b2 n2 d2).2]) ∧ Below w.heap.size w w' := by
  cases h1 : scaleOk s1 b1 n1 d1
  · go_enter Try.func19, Try.ntmps19
    go_wp2_with fail
    refine (l03Ok_any _ _ _ _ _ hs1).mono ?_
    rintro e w1 ⟨rfl, H1⟩
    obtain ⟨hc, hf⟩ := bcell H1
    go_wp2_with fail
    go_ret2
    exact ⟨ret_pair (by simp [convHalf, h1]), Bl.then (by go_grown) H1⟩
  cases h2 : scaleOk s2 b2 n2 d2
  · go_enter Try.func19, Try.ntmps19
    go_wp2_with fail
    refine (l03Ok_any _ _ _ _ _ hs1).mono ?_
    rintro e w1 ⟨rfl, H1⟩
    obtain ⟨hc, hf⟩ := bcell H1
    go_wp2_with fail
    refine (l03Ok_any _ _ _ _ _ hs2).mono ?_
    rintro e w2 ⟨rfl, hb⟩
    have H2 := Bl.then H1 hb
    clear hc hf hb
    obtain ⟨hc, hf⟩ := bcell H2
    go_wp2_with fail
    go_ret2
    exact ⟨ret_pair (by simp [convHalf, h1, h2]), Bl.then (by go_grown) H2⟩
  cases h3 : inR half 0 120
  · go_enter Try.func19, Try.ntmps19
    go_wp2_with fail
    refine (l03Ok_any _ _ _ _ _ hs1).mono ?_
    rintro e w1 ⟨rfl, H1⟩
    obtain ⟨hc, hf⟩ := bcell H1
    go_wp2_with fail
    refine (l03Ok_any _ _ _ _ _ hs2).mono ?_
    rintro e w2 ⟨rfl, hb⟩
    have H2 := Bl.then H1 hb
    clear hc hf hb
    obtain ⟨hc, hf⟩ := bcell H2
    go_wp2_with (go_at_call 52; refine (l03Half_any _ _).mono ?_; rintro e w3 ⟨rfl, rfl⟩)
    go_ret2
    exact ⟨ret_pair (by simp [convHalf, h1, h2, h3]), Bl.then (by go_grown) H2⟩
  obtain ⟨q1, q2, q3⟩ := scaleOk_bd h1
  obtain ⟨r1, r2, r3⟩ := scaleOk_bd h2
  obtain ⟨hh1, hh2⟩ := inR_true.1 h3
  obtain ⟨p1, p2⟩ := mul_bd (show 0 ≤ half + b1 by omega) (show half + b1 ≤ 220 by omega) (show 0 ≤ n1 by omega) q2.2 (C := 220000) (by decide)
  go_enter Try.func19, Try.ntmps19
  go_wp2_with fail
  refine (l03Ok_any _ _ _ _ _ hs1).mono ?_
  rintro e w1 ⟨rfl, H1⟩
  obtain ⟨hc, hf⟩ := bcell H1
  go_wp2_with fail
  refine (l03Ok_any _ _ _ _ _ hs2).mono ?_
  rintro e w2 ⟨rfl, hb⟩
  have H2 := Bl.then H1 hb
  clear hc hf hb
  obtain ⟨hc, hf⟩ := bcell H2
  go_wp2_with (go_at_call 52; refine (l03Half_any _ _).mono ?_; rintro e w3 ⟨rfl, rfl⟩)
  refine (l03Nearest_any _ _ _ _ _ _ _ r1 r2 r3 (by omega) q3).mono ?_
  rintro e w3 ⟨rfl, rfl⟩
  go_wp2_with fail
  go_ret2
  refine ⟨ret_pair (by simp [convHalf, h1, h2, h3]), Bl.then (by go_grown) (Bl.alloc H2 _)⟩
theorem LengthOfHalf_any (s : ByteArray) (b n d half : Int) (w : World) (hs : s.size ≤ maxLen) :
    Calls Try.prog 24 #[.agg #[.string s, .int .i64 b, .int .i64 n, .int .i64 d], .int .i64 half] w fun e w' => e = .returned (.tuple #[.agg #[.int .i64 (lenHalf s b n d half).1, .int .i64 (lenHalf s b n d half).2.1], .int .i64 (lenHalf s b n d half).2.2]) ∧ Below w.heap.size w w' := by
  cases h1 : scaleOk s b n d
  · go_enter Try.func24, Try.ntmps24
    go_wp2_with fail
    refine (ValidScale_any _ _ _ _ _ hs).mono ?_
    rintro e w1 ⟨rfl, H1⟩
    obtain ⟨hc, hf⟩ := bcell H1
    have c0 : w1.cell? ⟨w.heap.size + 1, 0, none⟩ = some (.int .i64 0) := by rw [hc _ _ (by simp)]; simp
    have c1 : w1.cell? ⟨w.heap.size + 1, 1, none⟩ = some (.int .i64 0) := by rw [hc _ _ (by simp)]; simp
    have f0 : w1.frozen? ⟨w.heap.size + 1, 0, none⟩ = false := by rw [hf _ _ (by simp)]; simp
    have f1 : w1.frozen? ⟨w.heap.size + 1, 1, none⟩ = false := by rw [hf _ _ (by simp)]; simp
    go_wp2_with fail
    refine bodyPost_ret (v := .tuple #[.agg #[.int .i64 (0), .int .i64 (0)], .int .i64 1]) (by simp [results, Try.results24, go_sem, c0, c1]) rfl ?_
    exact ⟨ret_frac (by simp [lenHalf, h1]), ((Bl.then (by go_grown) H1).setCell (by simp; try omega) _).setCell (by simp; try omega) _⟩
  cases h2 : inR half 0 120
  · go_enter Try.func24, Try.ntmps24
    go_wp2_with fail
    refine (ValidScale_any _ _ _ _ _ hs).mono ?_
    rintro e w1 ⟨rfl, H1⟩
    obtain ⟨hc, hf⟩ := bcell H1
    have c0 : w1.cell? ⟨w.heap.size + 1, 0, none⟩ = some (.int .i64 0) := by rw [hc _ _ (by simp)]; simp
    have c1 : w1.cell? ⟨w.heap.size + 1, 1, none⟩ = some (.int .i64 0) := by rw [hc _ _ (by simp)]; simp
    have f0 : w1.frozen? ⟨w.heap.size + 1, 0, none⟩ = false := by rw [hf _ _ (by simp)]; simp
    have f1 : w1.frozen? ⟨w.heap.size + 1, 1, none⟩ = false := by rw [hf _ _ (by simp)]; simp
    go_wp2_with (go_at_call 55; refine (isHalf_any _ _).mono ?_; rintro e w3 ⟨rfl, rfl⟩)
    go_wp2_with fail
    refine bodyPost_ret (v := .tuple #[.agg #[.int .i64 (0), .int .i64 (0)], .int .i64 2]) (by simp [results, Try.results24, go_sem, c0, c1]) rfl ?_
    exact ⟨ret_frac (by simp [lenHalf, h1, h2]), ((Bl.then (by go_grown) H1).setCell (by simp; try omega) _).setCell (by simp; try omega) _⟩
  obtain ⟨q1, q2, q3⟩ := scaleOk_bd h1
  obtain ⟨hh1, hh2⟩ := inR_true.1 h2
  obtain ⟨p1, p2⟩ := mul_bd (show 0 ≤ half + b by omega) (show half + b ≤ 220 by omega) (show 0 ≤ n by omega) q2.2 (C := 220000) (by decide)
  go_enter Try.func24, Try.ntmps24
  go_wp2_with fail
  refine (ValidScale_any _ _ _ _ _ hs).mono ?_
  rintro e w1 ⟨rfl, H1⟩
  obtain ⟨hc, hf⟩ := bcell H1
  go_wp2_with (go_at_call 55; refine (isHalf_any _ _).mono ?_; rintro e w3 ⟨rfl, rfl⟩)
  go_wp2_with fail
  refine (lowest_any _ _ _ (by unfold Mid; omega) (by omega) (by unfold Mid; omega)).mono ?_
  rintro e w2 ⟨rfl, hb⟩
  have H2 := Bl.then H1 hb
  clear hc hf hb
  obtain ⟨hc, hf⟩ := bcell H2
  have c0 : w2.cell? ⟨w.heap.size + 1, 0, none⟩ = some (.int .i64 0) := by rw [hc _ _ (by simp)]; simp
  have c1 : w2.cell? ⟨w.heap.size + 1, 1, none⟩ = some (.int .i64 0) := by rw [hc _ _ (by simp)]; simp
  have f0 : w2.frozen? ⟨w.heap.size + 1, 0, none⟩ = false := by rw [hf _ _ (by simp)]; simp
  have f1 : w2.frozen? ⟨w.heap.size + 1, 1, none⟩ = false := by rw [hf _ _ (by simp)]; simp
  go_wp2_with fail
  refine bodyPost_ret (v := .tuple #[.agg #[.int .i64 (lowN ((half + b) * n) d), .int .i64 (lowD ((half + b) * n) d)], .int .i64 0]) (by simp [results, Try.results24, go_sem, c0, c1]) rfl ?_
  exact ⟨ret_frac (by simp [lenHalf, h1, h2]), ((Bl.then (by go_grown) H2).setCell (by simp; try omega) _).setCell (by simp; try omega) _⟩
theorem sLengthOfHalf_any (s : ByteArray) (b n d half : Int) (w : World) (hs : s.size ≤ maxLen) :
    Calls Try.prog 23 #[.agg #[.string s, .int .i64 b, .int .i64 n, .int .i64 d], .int .i64 half] w fun e w' => e = .returned (.tuple #[.agg #[.int .i64 (lenHalf s b n d half).1, .int .i64 (lenHalf s b n d half).2.1], .int .i64 (lenHalf s b n d half).2.2]) ∧ Below w.heap.size w w' := by
  cases h1 : scaleOk s b n d
  · have hcode : scH s b n d half = 1 := by simp [scH, h1]
    go_enter Try.func23, Try.ntmps23
    go_wp2_with fail
    refine (l03Code_any _ _ _ _ _ _ hs).mono ?_
    rintro e w1 ⟨rfl, H1⟩
    obtain ⟨hc, hf⟩ := bcell H1
    have c0 : w1.cell? ⟨w.heap.size + 1, 0, none⟩ = some (.int .i64 0) := by rw [hc _ _ (by simp)]; simp
    have c1 : w1.cell? ⟨w.heap.size + 1, 1, none⟩ = some (.int .i64 0) := by rw [hc _ _ (by simp)]; simp
    have f0 : w1.frozen? ⟨w.heap.size + 1, 0, none⟩ = false := by rw [hf _ _ (by simp)]; simp
    have f1 : w1.frozen? ⟨w.heap.size + 1, 1, none⟩ = false := by rw [hf _ _ (by simp)]; simp
    go_wp2_with fail
    refine bodyPost_ret (v := .tuple #[.agg #[.int .i64 (0), .int .i64 (0)], .int .i64 1]) (by simp [results, Try.results23, go_sem, c0, c1]) rfl ?_
    exact ⟨ret_frac (by simp [lenHalf, h1]), ((Bl.then (by go_grown) H1).setCell (by simp; try omega) _).setCell (by simp; try omega) _⟩
  cases h2 : inR half 0 120
  · have hcode : scH s b n d half = 2 := by simp [scH, h1, h2]
    go_enter Try.func23, Try.ntmps23
    go_wp2_with fail
    refine (l03Code_any _ _ _ _ _ _ hs).mono ?_
    rintro e w1 ⟨rfl, H1⟩
    obtain ⟨hc, hf⟩ := bcell H1
    have c0 : w1.cell? ⟨w.heap.size + 1, 0, none⟩ = some (.int .i64 0) := by rw [hc _ _ (by simp)]; simp
    have c1 : w1.cell? ⟨w.heap.size + 1, 1, none⟩ = some (.int .i64 0) := by rw [hc _ _ (by simp)]; simp
    have f0 : w1.frozen? ⟨w.heap.size + 1, 0, none⟩ = false := by rw [hf _ _ (by simp)]; simp
    have f1 : w1.frozen? ⟨w.heap.size + 1, 1, none⟩ = false := by rw [hf _ _ (by simp)]; simp
    go_wp2_with fail
    refine bodyPost_ret (v := .tuple #[.agg #[.int .i64 (0), .int .i64 (0)], .int .i64 2]) (by simp [results, Try.results23, go_sem, c0, c1]) rfl ?_
    exact ⟨ret_frac (by simp [lenHalf, h1, h2]), ((Bl.then (by go_grown) H1).setCell (by simp; try omega) _).setCell (by simp; try omega) _⟩
  obtain ⟨q1, q2, q3⟩ := scaleOk_bd h1
  obtain ⟨hh1, hh2⟩ := inR_true.1 h2
  obtain ⟨p1, p2⟩ := mul_bd (show 0 ≤ half + b by omega) (show half + b ≤ 220 by omega) (show 0 ≤ n by omega) q2.2 (C := 220000) (by decide)
  have hcode : scH s b n d half = 0 := by simp [scH, h1, h2]
  go_enter Try.func23, Try.ntmps23
  go_wp2_with fail
  refine (l03Code_any _ _ _ _ _ _ hs).mono ?_
  rintro e w1 ⟨rfl, H1⟩
  obtain ⟨hc, hf⟩ := bcell H1
  go_wp2_with fail
  refine (l02Make_any _ _ _ (by unfold Mid; omega) (by omega) (by unfold Mid; omega)).mono ?_
  rintro e w2 ⟨rfl, hb⟩
  have H2 := Bl.then H1 hb
  clear hc hf hb
  obtain ⟨hc, hf⟩ := bcell H2
  have c0 : w2.cell? ⟨w.heap.size + 1, 0, none⟩ = some (.int .i64 0) := by rw [hc _ _ (by simp)]; simp
  have c1 : w2.cell? ⟨w.heap.size + 1, 1, none⟩ = some (.int .i64 0) := by rw [hc _ _ (by simp)]; simp
  have f0 : w2.frozen? ⟨w.heap.size + 1, 0, none⟩ = false := by rw [hf _ _ (by simp)]; simp
  have f1 : w2.frozen? ⟨w.heap.size + 1, 1, none⟩ = false := by rw [hf _ _ (by simp)]; simp
  go_wp2_with fail
  refine bodyPost_ret (v := .tuple #[.agg #[.int .i64 (lowN ((half + b) * n) d), .int .i64 (lowD ((half + b) * n) d)], .int .i64 0]) (by simp [results, Try.results23, go_sem, c0, c1]) rfl ?_
  exact ⟨ret_frac (by simp [lenHalf, h1, h2]), ((Bl.then (by go_grown) H2).setCell (by simp; try omega) _).setCell (by simp; try omega) _⟩
theorem eqFraction_same (a b : Int) (w : World) :
    Calls Try.prog 25 #[.agg #[.int .i64 a, .int .i64 b], .agg #[.int .i64 a, .int .i64 b]] w fun e w' => e = .returned (.bool true) ∧ Below w.heap.size w w' := by
  go_enter Try.func25, Try.ntmps25
  go_wp2
  go_returns
  refine ⟨rfl, ?_⟩
  go_grown
end Go.Proofs.Ytpmdgbdeibeoaaa
