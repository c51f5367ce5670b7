/-
  LostSizes of the program and of the reference; names are any strings that Go can hold.
-/
import Derived.Test.YtpmdgbdeibeoaaaHalf
import Derived.Test.YtpmdgbdeibeoaaaApp
import Derived.Test.YtpmdgbdeibeoaaaBlk
import Derived.Deep.RegionHeld3
namespace Go.Proofs.Ytpmdgbdeibeoaaa
open Go.RowKit
set_option maxHeartbeats 800000

/-- Half sizes to the other scale. -/
def there (b1 n1 d1 b2 n2 d2 h : Int) : Int := nearest b2 n2 d2 ((h + b1) * n1) d1
def lostAt (b1 n1 d1 b2 n2 d2 fro : Int) (k : Nat) : List Int := if there b2 n2 d2 b1 n1 d1 (there b1 n1 d1 b2 n2 d2 (fro + k)) = fro + k then [] else [fro + k]
theorem there_bd (b1 n1 d1 b2 n2 d2 h : Int) : 0 ≤ there b1 n1 d1 b2 n2 d2 h ∧ there b1 n1 d1 b2 n2 d2 h ≤ 120 := nearest_bd _ _ _ _ _
noncomputable def lostSizes (s1 : ByteArray) (b1 n1 d1 : Int) (s2 : ByteArray) (b2 n2 d2 fro to : Int) : List Int × Int :=
  if scaleOk s1 b1 n1 d1 = false then ([], 1) else if scaleOk s2 b2 n2 d2 = false then ([], 1) else if inR fro 0 120 = false then ([], 2) else if inR to fro 120 = false then ([], 2) else
    (accL (lostAt b1 n1 d1 b2 n2 d2 fro) (to - fro + 1).toNat, 0)
theorem lost_len (s1 : ByteArray) (b1 n1 d1 : Int) (s2 : ByteArray) (b2 n2 d2 fro to : Int) : (lostSizes s1 b1 n1 d1 s2 b2 n2 d2 fro to).1.length ≤ 1048577 := by
  unfold lostSizes
  cases h1 : scaleOk s1 b1 n1 d1
  · simp
  cases h2 : scaleOk s2 b2 n2 d2
  · simp
  cases h3 : inR fro 0 120
  · simp
  cases h4 : inR to fro 120
  · simp
  have h5 := accL_len (g := lostAt b1 n1 d1 b2 n2 d2 fro) (fun k => by unfold lostAt; split <;> simp) (to - fro + 1).toNat
  have h6 := inR_true.1 h3
  have h7 := inR_true.1 h4
  simp
  omega
set_option maxRecDepth 100000 in
theorem LostSizes_any (s1 : ByteArray) (b1 n1 d1 : Int) (s2 : ByteArray) (b2 n2 d2 fro to : Int) (w : World) (hs1 : s1.size ≤ maxLen) (hs2 : s2.size ≤ maxLen) :
    Calls Try.prog 27 #[.agg #[.string s1, .int .i64 b1, .int .i64 n1, .int .i64 d1], .agg #[.string s2, .int .i64 b2, .int .i64 n2, .int .i64 d2], .int .i64 fro, .int .i64 to] w (RetInts (lostSizes s1 b1 n1 d1 s2 b2 n2 d2 fro to) w) := by
  cases h1 : scaleOk s1 b1 n1 d1
  · go_enter Try.func27, Try.ntmps27
    go_wp2_with fail
    refine (ValidScale_any _ _ _ _ _ hs1).mono ?_
    rintro e w1 ⟨rfl, H1⟩
    obtain ⟨hc, hf⟩ := bcell H1
    go_wp2_with fail
    go_ret2
    exact RetInts.nil (by simp [lostSizes, h1]) (Bl.then (by go_grown) H1)
  cases h2 : scaleOk s2 b2 n2 d2
  · go_enter Try.func27, Try.ntmps27
    go_wp2_with fail
    refine (ValidScale_any _ _ _ _ _ hs1).mono ?_
    rintro e w1 ⟨rfl, H1⟩
    obtain ⟨hc, hf⟩ := bcell H1
    go_wp2_with fail
    refine (ValidScale_any _ _ _ _ _ hs2).mono ?_
    rintro e w2 ⟨rfl, hb⟩
    have H2 := Bl.then H1 hb
    clear hc hf hb
    obtain ⟨hc, hf⟩ := bcell H2
    go_wp2_with fail
    go_ret2
    exact RetInts.nil (by simp [lostSizes, h1, h2]) (Bl.then (by go_grown) H2)
  cases h3 : inR fro 0 120
  · go_enter Try.func27, Try.ntmps27
    go_wp2_with fail
    refine (ValidScale_any _ _ _ _ _ hs1).mono ?_
    rintro e w1 ⟨rfl, H1⟩
    obtain ⟨hc, hf⟩ := bcell H1
    go_wp2_with fail
    refine (ValidScale_any _ _ _ _ _ hs2).mono ?_
    rintro e w2 ⟨rfl, hb⟩
    have H2 := Bl.then H1 hb
    clear hc hf hb
    obtain ⟨hc, hf⟩ := bcell H2
    go_wp2_with (go_at_call 55; refine (isHalf_any _ _).mono ?_; rintro e w3 ⟨rfl, rfl⟩)
    go_ret2
    exact RetInts.nil (by simp [lostSizes, h1, h2, h3]) (Bl.then (by go_grown) H2)
  cases h5 : inR to 0 120
  · have h4 : inR to fro 120 = false := inR_no (by have := inR_false.1 h5; have := inR_true.1 h3; omega)
    go_enter Try.func27, Try.ntmps27
    go_wp2_with fail
    refine (ValidScale_any _ _ _ _ _ hs1).mono ?_
    rintro e w1 ⟨rfl, H1⟩
    obtain ⟨hc, hf⟩ := bcell H1
    go_wp2_with fail
    refine (ValidScale_any _ _ _ _ _ hs2).mono ?_
    rintro e w2 ⟨rfl, hb⟩
    have H2 := Bl.then H1 hb
    clear hc hf hb
    obtain ⟨hc, hf⟩ := bcell H2
    go_wp2_with (go_at_call 55; refine (isHalf_any _ _).mono ?_; rintro e w3 ⟨rfl, rfl⟩)
    go_ret2
    exact RetInts.nil (by simp [lostSizes, h1, h2, h3, h4]) (Bl.then (by go_grown) H2)
  by_cases h6 : to < fro
  · have h4 : inR to fro 120 = false := inR_no (by omega)
    go_enter Try.func27, Try.ntmps27
    go_wp2_with fail
    refine (ValidScale_any _ _ _ _ _ hs1).mono ?_
    rintro e w1 ⟨rfl, H1⟩
    obtain ⟨hc, hf⟩ := bcell H1
    go_wp2_with fail
    refine (ValidScale_any _ _ _ _ _ hs2).mono ?_
    rintro e w2 ⟨rfl, hb⟩
    have H2 := Bl.then H1 hb
    clear hc hf hb
    obtain ⟨hc, hf⟩ := bcell H2
    go_wp2_with (go_at_call 55; refine (isHalf_any _ _).mono ?_; rintro e w3 ⟨rfl, rfl⟩)
    go_ret2
    exact RetInts.nil (by simp [lostSizes, h1, h2, h3, h4]) (Bl.then (by go_grown) H2)
  have h4 : inR to fro 120 = true := inR_yes (by have := inR_true.1 h5; omega)
  obtain ⟨q1, q2, q3⟩ := scaleOk_bd h1
  obtain ⟨r1, r2, r3⟩ := scaleOk_bd h2
  obtain ⟨f1, f2⟩ := inR_true.1 h3
  obtain ⟨t1, t2⟩ := inR_true.1 h4
  have hfin : lostSizes s1 b1 n1 d1 s2 b2 n2 d2 fro to = (accL (lostAt b1 n1 d1 b2 n2 d2 fro) (to - fro + 1).toNat, 0) := by simp [lostSizes, h1, h2, h3, h4]
  have hfin' := Lib.hid hfin
  clear hfin
  go_enter Try.func27, Try.ntmps27
  go_wp2_with fail
  refine (ValidScale_any _ _ _ _ _ hs1).mono ?_
  rintro e w1 ⟨rfl, H1⟩
  obtain ⟨hc, hf⟩ := bcell H1
  go_wp2_with fail
  refine (ValidScale_any _ _ _ _ _ hs2).mono ?_
  rintro e w2 ⟨rfl, hb⟩
  have H2 := Bl.then H1 hb
  clear hc hf hb
  obtain ⟨hc, hf⟩ := bcell H2
  go_wp2_with (go_at_call 55; refine (isHalf_any _ _).mono ?_; rintro e w3 ⟨rfl, rfl⟩)
  clear hc hf
  go_loopw [10, 11] (fun v i wr => ∃ (k : Nat) (A' : Option Addr) (m c' : Nat), fro + k ≤ to + 1 ∧ m ≤ k ∧ i = .int .i64 (fro + k) ∧ v = .slice A' m c' ∧ wr.ownsRow w2.heap.size 2 1 (.slice A' m c') m (ints (accL (lostAt b1 n1 d1 b2 n2 d2 fro) k)) ∧ Below w2.heap.size w2 wr) (fun _ i _ => (to + 1 - intOf i).toNat)
  case atStart => exact ⟨0, _, _, _, by omega, by omega, by simp, rfl, own_lit rfl (by simp) (by decide) rfl rfl, by go_grown⟩
  case round =>
    obtain ⟨k, A', m, c', hk, hm, rfl, rfl, ho, HB⟩ := hrel
    obtain ⟨hc, hf⟩ := bcell (Bl.then H2 HB)
    have z1 : w.heap.size + 1 < wr.heap.size := by have := (Bl.then H2 HB).size; simp at this; omega
    have z0 : w.heap.size < wr.heap.size := by omega
    have B1 := ((Blk.new w 27 #[.string s1, .int .i64 b1, .int .i64 n1, .int .i64 d1]).alloc _).below (Bl.then H2 HB)
    have B2 := (Blk.new1 w _ 27 #[.string s2, .int .i64 b2, .int .i64 n2, .int .i64 d2]).below (Bl.then H2 HB)
    have y0 : wr.cell? ⟨w.heap.size, 0, none⟩ = some (.string s1) := B1.cell 0
    have y1 : wr.cell? ⟨w.heap.size, 1, none⟩ = some (.int .i64 b1) := B1.cell 1
    have y2 : wr.cell? ⟨w.heap.size, 2, none⟩ = some (.int .i64 n1) := B1.cell 2
    have y3 : wr.cell? ⟨w.heap.size, 3, none⟩ = some (.int .i64 d1) := B1.cell 3
    have y4 : wr.cell? ⟨w.heap.size + 1, 0, none⟩ = some (.string s2) := B2.cell 0
    have y5 : wr.cell? ⟨w.heap.size + 1, 1, none⟩ = some (.int .i64 b2) := B2.cell 1
    have y6 : wr.cell? ⟨w.heap.size + 1, 2, none⟩ = some (.int .i64 n2) := B2.cell 2
    have y7 : wr.cell? ⟨w.heap.size + 1, 3, none⟩ = some (.int .i64 d2) := B2.cell 3
    clear hc hf
    by_cases hlt : fro + k ≤ to
    · obtain ⟨u1, u2⟩ := mul_bd (show 0 ≤ fro + (k : Int) + b1 by omega) (show fro + (k : Int) + b1 ≤ 220 by omega) (show 0 ≤ n1 by omega) q2.2 (C := 220000) (by decide)
      have e1 : nearest b2 n2 d2 ((fro + (k : Int) + b1) * n1) d1 = there b1 n1 d1 b2 n2 d2 (fro + k) := rfl
      obtain ⟨v1, v2⟩ := there_bd b1 n1 d1 b2 n2 d2 (fro + k)
      obtain ⟨u3, u4⟩ := mul_bd (show 0 ≤ there b1 n1 d1 b2 n2 d2 (fro + k) + b2 by omega) (show there b1 n1 d1 b2 n2 d2 (fro + k) + b2 ≤ 220 by omega) (show 0 ≤ n2 by omega) r2.2 (C := 220000) (by decide)
      have e2 : nearest b1 n1 d1 ((there b1 n1 d1 b2 n2 d2 (fro + k) + b2) * n2) d2 = there b2 n2 d2 b1 n1 d1 (there b1 n1 d1 b2 n2 d2 (fro + k)) := rfl
      by_cases hq : there b2 n2 d2 b1 n1 d1 (there b1 n1 d1 b2 n2 d2 (fro + k)) = fro + k
      · have hg : lostAt b1 n1 d1 b2 n2 d2 fro k = [] := by unfold lostAt; rw [if_pos hq]
        have hg' := Lib.hid hg
        have hne : (there b2 n2 d2 b1 n1 d1 (there b1 n1 d1 b2 n2 d2 (fro + k)) != fro + k) = false := by simp [hq]
        clear hg hq
        go_wp2_with fail
        go_region_held3 (fun wz => wz.cell? ⟨w.heap.size, 0, none⟩ = some (.string s1) ∧ wz.cell? ⟨w.heap.size, 1, none⟩ = some (.int .i64 b1) ∧ wz.cell? ⟨w.heap.size, 2, none⟩ = some (.int .i64 n1) ∧ wz.cell? ⟨w.heap.size, 3, none⟩ = some (.int .i64 d1) ∧ wz.cell? ⟨w.heap.size + 1, 0, none⟩ = some (.string s2) ∧ wz.cell? ⟨w.heap.size + 1, 1, none⟩ = some (.int .i64 b2) ∧ wz.cell? ⟨w.heap.size + 1, 2, none⟩ = some (.int .i64 n2) ∧ wz.cell? ⟨w.heap.size + 1, 3, none⟩ = some (.int .i64 d2)) (((repeat' apply And.intro) <;> (repeat' (first | assumption | (with_reducible apply keep_drew) | (with_reducible apply keep_alloc))))) ((go_at_call 56; refine (convertHalf_any _ _ _ _ _ _ _ _ _ _ (by omega) (by omega) (by omega) (by omega) (by omega) (by omega) (by omega)).mono ?_; rintro e wy ⟨rfl, rfl⟩))
        go_wp2_with fail
        have HR : Below w2.heap.size w2 _ := HB
        go_roundw
        case rel => exact ⟨k + 1, A', m, c', by omega, by omega, by go_num, rfl, by rw [← accL_skip hg'.out]; exact own_below ho (by go_grown), HB.trans ((by go_grown : Below wr.heap.size wr _).mono HB.size)⟩
        case measure => simp [intOf]; omega
      · have hg : lostAt b1 n1 d1 b2 n2 d2 fro k = [fro + k] := by unfold lostAt; rw [if_neg hq]
        have hg' := Lib.hid hg
        have hne : (there b2 n2 d2 b1 n1 d1 (there b1 n1 d1 b2 n2 d2 (fro + k)) != fro + k) = true := by simp [hq]
        clear hg hq
        go_wp2_with fail
        go_region_held3 (fun wz => wz.cell? ⟨w.heap.size, 0, none⟩ = some (.string s1) ∧ wz.cell? ⟨w.heap.size, 1, none⟩ = some (.int .i64 b1) ∧ wz.cell? ⟨w.heap.size, 2, none⟩ = some (.int .i64 n1) ∧ wz.cell? ⟨w.heap.size, 3, none⟩ = some (.int .i64 d1) ∧ wz.cell? ⟨w.heap.size + 1, 0, none⟩ = some (.string s2) ∧ wz.cell? ⟨w.heap.size + 1, 1, none⟩ = some (.int .i64 b2) ∧ wz.cell? ⟨w.heap.size + 1, 2, none⟩ = some (.int .i64 n2) ∧ wz.cell? ⟨w.heap.size + 1, 3, none⟩ = some (.int .i64 d2)) (((repeat' apply And.intro) <;> (repeat' (first | assumption | (with_reducible apply keep_drew) | (with_reducible apply keep_alloc))))) ((go_at_call 56; refine (convertHalf_any _ _ _ _ _ _ _ _ _ _ (by omega) (by omega) (by omega) (by omega) (by omega) (by omega) (by omega)).mono ?_; rintro e wy ⟨rfl, rfl⟩))
        go_wp2_with (at_builtin; refine wpList_app_intG _ rfl _ _ rfl w2.heap.size A' m c' _ (fro + k) _ rfl rfl (by refine (World.cell?_alloc_at _ _ _ _ ?_).trans rfl; simp) (own_below ho (by go_grown)) (by have := HB.size; simp; omega) (by omega) ?_; intro A2 c2 w3 ho2 hg2)
        go_roundw
        case rel => exact ⟨k + 1, A2, m + 1, c2, by omega, by omega, by go_num, rfl, by rw [accL_add hg'.out] at ho2; exact ho2, app_below (own_below ho (by go_grown)) (HB.trans ((by go_grown : Below wr.heap.size wr _).mono HB.size)) (Nat.le_refl _) (by have := HB.size; simp; omega) hg2⟩
        case measure => simp [intOf]; omega
    · obtain rfl : k = (to - fro + 1).toNat := by omega
      go_wp2_with fail
      go_ret2
      exact RetInts.mk hfin'.out (ownsRow_le' ho (Below.size (w := w) (Bl.then (by go_grown) H2))) (Bl.then (by go_grown) (Bl.then H2 HB))
set_option maxRecDepth 100000 in
theorem sLostSizes_any (s1 : ByteArray) (b1 n1 d1 : Int) (s2 : ByteArray) (b2 n2 d2 fro to : Int) (w : World) (hs1 : s1.size ≤ maxLen) (hs2 : s2.size ≤ maxLen) :
    Calls Try.prog 26 #[.agg #[.string s1, .int .i64 b1, .int .i64 n1, .int .i64 d1], .agg #[.string s2, .int .i64 b2, .int .i64 n2, .int .i64 d2], .int .i64 fro, .int .i64 to] w (RetInts (lostSizes s1 b1 n1 d1 s2 b2 n2 d2 fro to) w) := by
  cases h1 : scaleOk s1 b1 n1 d1
  · go_enter Try.func26, Try.ntmps26
    go_wp2_with fail
    refine (l03Ok_any _ _ _ _ _ hs1).mono ?_
    rintro e w1 ⟨rfl, H1⟩
    obtain ⟨hc, hf⟩ := bcell H1
    go_wp2_with fail
    go_ret2
    exact RetInts.nil (by simp [lostSizes, h1]) (Bl.then (by go_grown) H1)
  cases h2 : scaleOk s2 b2 n2 d2
  · go_enter Try.func26, Try.ntmps26
    go_wp2_with fail
    refine (l03Ok_any _ _ _ _ _ hs1).mono ?_
    rintro e w1 ⟨rfl, H1⟩
    obtain ⟨hc, hf⟩ := bcell H1
    go_wp2_with fail
    refine (l03Ok_any _ _ _ _ _ hs2).mono ?_
    rintro e w2 ⟨rfl, hb⟩
    have H2 := Bl.then H1 hb
    clear hc hf hb
    obtain ⟨hc, hf⟩ := bcell H2
    go_wp2_with fail
    go_ret2
    exact RetInts.nil (by simp [lostSizes, h1, h2]) (Bl.then (by go_grown) H2)
  cases h3 : inR fro 0 120
  · go_enter Try.func26, Try.ntmps26
    go_wp2_with fail
    refine (l03Ok_any _ _ _ _ _ hs1).mono ?_
    rintro e w1 ⟨rfl, H1⟩
    obtain ⟨hc, hf⟩ := bcell H1
    go_wp2_with fail
    refine (l03Ok_any _ _ _ _ _ hs2).mono ?_
    rintro e w2 ⟨rfl, hb⟩
    have H2 := Bl.then H1 hb
    clear hc hf hb
    obtain ⟨hc, hf⟩ := bcell H2
    go_wp2_with (first | (go_at_call 52; refine (l03Half_any _ _).mono ?_; rintro e w3 ⟨rfl, rfl⟩) | (go_at_call 61; refine (l00In_any _ _ _ _).mono ?_; rintro e w3 ⟨rfl, rfl⟩))
    go_ret2
    exact RetInts.nil (by simp [lostSizes, h1, h2, h3]) (Bl.then (by go_grown) H2)
  cases h4 : inR to fro 120
  · go_enter Try.func26, Try.ntmps26
    go_wp2_with fail
    refine (l03Ok_any _ _ _ _ _ hs1).mono ?_
    rintro e w1 ⟨rfl, H1⟩
    obtain ⟨hc, hf⟩ := bcell H1
    go_wp2_with fail
    refine (l03Ok_any _ _ _ _ _ hs2).mono ?_
    rintro e w2 ⟨rfl, hb⟩
    have H2 := Bl.then H1 hb
    clear hc hf hb
    obtain ⟨hc, hf⟩ := bcell H2
    go_wp2_with (first | (go_at_call 52; refine (l03Half_any _ _).mono ?_; rintro e w3 ⟨rfl, rfl⟩) | (go_at_call 61; refine (l00In_any _ _ _ _).mono ?_; rintro e w3 ⟨rfl, rfl⟩))
    go_ret2
    exact RetInts.nil (by simp [lostSizes, h1, h2, h3, h4]) (Bl.then (by go_grown) H2)
  obtain ⟨q1, q2, q3⟩ := scaleOk_bd h1
  obtain ⟨r1, r2, r3⟩ := scaleOk_bd h2
  obtain ⟨f1, f2⟩ := inR_true.1 h3
  obtain ⟨t1, t2⟩ := inR_true.1 h4
  have hfin : lostSizes s1 b1 n1 d1 s2 b2 n2 d2 fro to = (accL (lostAt b1 n1 d1 b2 n2 d2 fro) (to - fro + 1).toNat, 0) := by simp [lostSizes, h1, h2, h3, h4]
  have hfin' := Lib.hid hfin
  clear hfin
  go_enter Try.func26, Try.ntmps26
  go_wp2_with fail
  refine (l03Ok_any _ _ _ _ _ hs1).mono ?_
  rintro e w1 ⟨rfl, H1⟩
  obtain ⟨hc, hf⟩ := bcell H1
  go_wp2_with fail
  refine (l03Ok_any _ _ _ _ _ hs2).mono ?_
  rintro e w2 ⟨rfl, hb⟩
  have H2 := Bl.then H1 hb
  clear hc hf hb
  obtain ⟨hc, hf⟩ := bcell H2
  go_wp2_with (first | (go_at_call 52; refine (l03Half_any _ _).mono ?_; rintro e w3 ⟨rfl, rfl⟩) | (go_at_call 61; refine (l00In_any _ _ _ _).mono ?_; rintro e w3 ⟨rfl, rfl⟩))
  clear hc hf
  go_loopw [10, 11] (fun v i wr => ∃ (k : Nat) (A' : Option Addr) (m c' : Nat), fro + k ≤ to + 1 ∧ m ≤ k ∧ i = .int .i64 (fro + k) ∧ v = .slice A' m c' ∧ wr.ownsRow w2.heap.size 2 1 (.slice A' m c') m (ints (accL (lostAt b1 n1 d1 b2 n2 d2 fro) k)) ∧ Below w2.heap.size w2 wr) (fun _ i _ => (to + 1 - intOf i).toNat)
  case atStart => exact ⟨0, _, _, _, by omega, by omega, by simp, rfl, own_lit rfl (by simp) (by decide) rfl rfl, by go_grown⟩
  case round =>
    obtain ⟨k, A', m, c', hk, hm, rfl, rfl, ho, HB⟩ := hrel
    obtain ⟨hc, hf⟩ := bcell (Bl.then H2 HB)
    have z1 : w.heap.size + 1 < wr.heap.size := by have := (Bl.then H2 HB).size; simp at this; omega
    have z0 : w.heap.size < wr.heap.size := by omega
    have B1 := ((Blk.new w 27 #[.string s1, .int .i64 b1, .int .i64 n1, .int .i64 d1]).alloc _).below (Bl.then H2 HB)
    have B2 := (Blk.new1 w _ 27 #[.string s2, .int .i64 b2, .int .i64 n2, .int .i64 d2]).below (Bl.then H2 HB)
    have y0 : wr.cell? ⟨w.heap.size, 0, none⟩ = some (.string s1) := B1.cell 0
    have y1 : wr.cell? ⟨w.heap.size, 1, none⟩ = some (.int .i64 b1) := B1.cell 1
    have y2 : wr.cell? ⟨w.heap.size, 2, none⟩ = some (.int .i64 n1) := B1.cell 2
    have y3 : wr.cell? ⟨w.heap.size, 3, none⟩ = some (.int .i64 d1) := B1.cell 3
    have y4 : wr.cell? ⟨w.heap.size + 1, 0, none⟩ = some (.string s2) := B2.cell 0
    have y5 : wr.cell? ⟨w.heap.size + 1, 1, none⟩ = some (.int .i64 b2) := B2.cell 1
    have y6 : wr.cell? ⟨w.heap.size + 1, 2, none⟩ = some (.int .i64 n2) := B2.cell 2
    have y7 : wr.cell? ⟨w.heap.size + 1, 3, none⟩ = some (.int .i64 d2) := B2.cell 3
    clear hc hf
    by_cases hlt : fro + k ≤ to
    · obtain ⟨u1, u2⟩ := mul_bd (show 0 ≤ fro + (k : Int) + b1 by omega) (show fro + (k : Int) + b1 ≤ 220 by omega) (show 0 ≤ n1 by omega) q2.2 (C := 220000) (by decide)
      have e1 : nearest b2 n2 d2 ((fro + (k : Int) + b1) * n1) d1 = there b1 n1 d1 b2 n2 d2 (fro + k) := rfl
      obtain ⟨v1, v2⟩ := there_bd b1 n1 d1 b2 n2 d2 (fro + k)
      obtain ⟨u3, u4⟩ := mul_bd (show 0 ≤ there b1 n1 d1 b2 n2 d2 (fro + k) + b2 by omega) (show there b1 n1 d1 b2 n2 d2 (fro + k) + b2 ≤ 220 by omega) (show 0 ≤ n2 by omega) r2.2 (C := 220000) (by decide)
      have e2 : nearest b1 n1 d1 ((there b1 n1 d1 b2 n2 d2 (fro + k) + b2) * n2) d2 = there b2 n2 d2 b1 n1 d1 (there b1 n1 d1 b2 n2 d2 (fro + k)) := rfl
      by_cases hq : there b2 n2 d2 b1 n1 d1 (there b1 n1 d1 b2 n2 d2 (fro + k)) = fro + k
      · have hg : lostAt b1 n1 d1 b2 n2 d2 fro k = [] := by unfold lostAt; rw [if_pos hq]
        have hg' := Lib.hid hg
        have hne : (there b2 n2 d2 b1 n1 d1 (there b1 n1 d1 b2 n2 d2 (fro + k)) != fro + k) = false := by simp [hq]
        clear hg hq
        go_wp2_with fail
        refine (l03Nearest_any _ _ _ _ _ _ _ r1 r2 r3 (by omega) q3).mono ?_
        rintro e wy ⟨rfl, rfl⟩
        go_wp2_with fail
        refine (l03Nearest_any _ _ _ _ _ _ _ q1 q2 q3 (by omega) r3).mono ?_
        rintro e wy ⟨rfl, rfl⟩
        go_wp2_with fail
        have HR : Below w2.heap.size w2 _ := HB
        go_roundw
        case rel => exact ⟨k + 1, A', m, c', by omega, by omega, by go_num, rfl, by rw [← accL_skip hg'.out]; exact own_below ho (by go_grown), HB.trans ((by go_grown : Below wr.heap.size wr _).mono HB.size)⟩
        case measure => simp [intOf]; omega
      · have hg : lostAt b1 n1 d1 b2 n2 d2 fro k = [fro + k] := by unfold lostAt; rw [if_neg hq]
        have hg' := Lib.hid hg
        have hne : (there b2 n2 d2 b1 n1 d1 (there b1 n1 d1 b2 n2 d2 (fro + k)) != fro + k) = true := by simp [hq]
        clear hg hq
        go_wp2_with fail
        refine (l03Nearest_any _ _ _ _ _ _ _ r1 r2 r3 (by omega) q3).mono ?_
        rintro e wy ⟨rfl, rfl⟩
        go_wp2_with fail
        refine (l03Nearest_any _ _ _ _ _ _ _ q1 q2 q3 (by omega) r3).mono ?_
        rintro e wy ⟨rfl, rfl⟩
        go_wp2_with (at_builtin; refine wpList_app_intG _ rfl _ _ rfl w2.heap.size A' m c' _ (fro + k) _ rfl rfl (by refine (World.cell?_alloc_at _ _ _ _ ?_).trans rfl; simp) (own_below ho (by go_grown)) (by have := HB.size; simp; omega) (by omega) ?_; intro A2 c2 w3 ho2 hg2)
        go_roundw
        case rel => exact ⟨k + 1, A2, m + 1, c2, by omega, by omega, by go_num, rfl, by rw [accL_add hg'.out] at ho2; exact ho2, app_below (own_below ho (by go_grown)) (HB.trans ((by go_grown : Below wr.heap.size wr _).mono HB.size)) (Nat.le_refl _) (by have := HB.size; simp; omega) hg2⟩
        case measure => simp [intOf]; omega
    · obtain rfl : k = (to - fro + 1).toNat := by omega
      go_wp2_with fail
      go_ret2
      exact RetInts.mk hfin'.out (ownsRow_le' ho (Below.size (w := w) (Bl.then (by go_grown) H2))) (Bl.then (by go_grown) (Bl.then H2 HB))
end Go.Proofs.Ytpmdgbdeibeoaaa
