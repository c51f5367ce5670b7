/-
  DifferenceOf of the program and of the reference; no condition.
-/
import Derived.Test.YtlmjchmbbmiocaaUpd
import Derived.Deep.RegionHeld3
namespace Go.Proofs.Ytlmjchmbbmiocaa
open Go.RowKit
set_option maxHeartbeats 800000

theorem footOk_bd' {a b c d : Int} (h : footOk a b c d = true) : (500 ≤ a ∧ a ≤ 5000) ∧ (500 ≤ b ∧ b ≤ 5000) ∧ (500 ≤ c ∧ c ≤ 5000) ∧ (500 ≤ d ∧ d ≤ 5000) := by
  simp only [footOk, Bool.and_eq_true, inR_true] at h
  omega
def diffL (a b c d e f g h : Int) : List Int := [e - a, f - b, g - c, h - d]
def diffR (a b c d e f g h : Int) : List Int × Int :=
  if footOk a b c d = false then ([], 1) else if footOk e f g h = false then ([], 1) else (diffL a b c d e f g h, 0)
theorem diffR_len (a b c d e f g h : Int) : (diffR a b c d e f g h).1.length ≤ 1048577 := by
  unfold diffR
  split
  · simp
  split
  · simp
  · simp [diffL]
def dsub (us : List Int) (j : Nat) (z : Int) : Int := z - ix us j
theorem upd_diff (a b c d e f g h : Int) : upd (dsub [a, b, c, d]) [e, f, g, h] 4 = diffL a b c d e f g h := by
  simp [upd, dsub, diffL, ix]
theorem DifferenceOf_any (a b c d e f g h : Int) (w : World) :
    Calls Try.prog 19 #[.agg #[.int .i64 a, .int .i64 b, .int .i64 c, .int .i64 d], .agg #[.int .i64 e, .int .i64 f, .int .i64 g, .int .i64 h]] w (RetInts (diffR a b c d e f g h) w) := by
  cases h1 : footOk a b c d
  · go_enter Try.func19, Try.ntmps19
    go_wp2_with fail
    refine (ValidFoot_any _ _ _ _ _).mono ?_
    rintro e w1 ⟨rfl, H1⟩
    obtain ⟨hc, hf⟩ := bcell H1
    go_wp2_with fail
    go_ret2
    exact RetInts.nil (by simp [diffR, h1]) (Bl.then (by go_grown) H1)
  cases h2 : footOk e f g h
  · go_enter Try.func19, Try.ntmps19
    go_wp2_with fail
    refine (ValidFoot_any _ _ _ _ _).mono ?_
    rintro e w1 ⟨rfl, H1⟩
    obtain ⟨hc, hf⟩ := bcell H1
    go_wp2_with fail
    refine (ValidFoot_any _ _ _ _ _).mono ?_
    rintro e w2 ⟨rfl, hb⟩
    have H2 := Bl.then H1 hb
    clear hc hf hb
    obtain ⟨hc, hf⟩ := bcell H2
    go_wp2_with fail
    go_ret2
    exact RetInts.nil (by simp [diffR, h1, h2]) (Bl.then (by go_grown) H2)
  obtain ⟨p1, p2, p3, p4⟩ := footOk_bd' h1
  obtain ⟨q1, q2, q3, q4⟩ := footOk_bd' h2
  have hx : ∀ k : Nat, k < 4 → (500 ≤ ix [a, b, c, d] k ∧ ix [a, b, c, d] k ≤ 5000) ∧ (500 ≤ ix [e, f, g, h] k ∧ ix [e, f, g, h] k ≤ 5000) := by
    intro k hk
    match k, hk with
    | 0, _ => exact ⟨p1, q1⟩
    | 1, _ => exact ⟨p2, q2⟩
    | 2, _ => exact ⟨p3, q3⟩
    | 3, _ => exact ⟨p4, q4⟩
  have hx' := Lib.hid hx
  have hu := Lib.hid (upd_diff a b c d e f g h)
  have hr := Lib.hid (show diffR a b c d e f g h = (diffL a b c d e f g h, 0) by simp [diffR, h1, h2])
  clear hx p1 p2 p3 p4 q1 q2 q3 q4
  go_enter Try.func19, Try.ntmps19
  go_wp2_with fail
  refine (ValidFoot_any _ _ _ _ _).mono ?_
  rintro e w1 ⟨rfl, H1⟩
  obtain ⟨hc, hf⟩ := bcell H1
  go_wp2_with fail
  refine (ValidFoot_any _ _ _ _ _).mono ?_
  rintro e w2 ⟨rfl, hb⟩
  have H2 := Bl.then H1 hb
  clear hc hf hb
  obtain ⟨hc, hf⟩ := bcell H2
  go_wp2_with fail
  refine (measures_any _ _ _ _ _).mono ?_
  rintro e w3 ⟨A3, c3, rfl, o3, hb⟩
  have H3 := Bl.then H2 hb
  have L3 := Lib.hid o3.lt
  clear hc hf
  obtain ⟨hc, hf⟩ := bcell H3
  go_wp2_with fail
  refine (measures_any _ _ _ _ _).mono ?_
  rintro e w4 ⟨A4, c4, rfl, o4, hb4⟩
  have H4 := Bl.then H3 hb4
  have o3' := own_below o3 hb4
  have HB0 : Below w.heap.size w w4 := Bl.then (by go_grown) H4
  have hw2 : w.heap.size ≤ w2.heap.size := by have := H2.size; simp at this; omega
  have L4 := Lib.hid o4.lt
  clear hc hf H1 H2 H3 H4 o3
  generalize hzs : [a, b, c, d] = us at o4 hx' hu
  generalize hys : [e, f, g, h] = vs at o3' hx' hu
  have hbl := Lib.hid (show vs.length = 4 by rw [← hys]; rfl)
  clear hzs hys
  obtain ⟨g3, rfl, -, -, -, -⟩ := own_form o3' (by omega)
  obtain ⟨g4, rfl, -, -, -, -⟩ := own_form o4 (by omega)
  have hd : g4 ≠ g3 := fun hh => by
    have i3 := L3.out g3 rfl
    have i4 := L4.out g4 rfl
    omega
  go_wp2_with fail
  go_loopw [22] (fun i wr => ∃ k : Nat, k ≤ 4 ∧ i = .int .i64 k ∧ wr.ownsRow w2.heap.size 2 1 (.slice (some ⟨g3, 0, none⟩) 4 c3) 4 (ints (upd (dsub us) vs k)) ∧ wr.ownsRow w3.heap.size 2 1 (.slice (some ⟨g4, 0, none⟩) 4 c4) 4 (ints us) ∧ Below w.heap.size w wr) (fun i _ => 4 - (intOf i).toNat)
  case atStart => exact ⟨0, by omega, rfl, by rw [upd_zero]; exact o3', o4, HB0⟩
  case round =>
    obtain ⟨k, hk, rfl, ho, hq, HB⟩ := hrel
    by_cases hlt : k < 4
    · have k1 := ho.cellAt k (by omega)
      have k2 := hq.cellAt k (by omega)
      have hkl : k < vs.length := by rw [hbl.out]; exact hlt
      rw [ints_get (by rw [upd_len]; exact hkl), upd_ix hkl] at k1
      rw [ints_get (by rw [own_int_len hq]; exact hlt)] at k2
      have hfr := ho.frozenAt k
      obtain ⟨⟨x1, x2⟩, x3, x4⟩ := hx'.out k hlt
      have hup := Lib.hid (upd_step (g := dsub us) (x := ix vs k - ix us k) hkl rfl)
      clear hkl
      go_wp2_with fail
      go_roundw
      case rel =>
        have hst := ho.stored k (.int .i64 (ix vs k - ix us k))
        rw [ints_setAt, hup.out] at hst
        exact ⟨k + 1, by omega, by go_num, hst.1, keep_own hq hst.2 (by rintro g g' h1 h2; cases h1; cases h2; exact hd), HB.grown hst.2 HB.size (by rintro q hq'; cases hq'; have := (L3.out g3 rfl).1; omega)⟩
      case measure => simp [intOf]; omega
    · obtain rfl : k = 4 := by omega
      go_wp2_with fail
      go_ret2
      rw [hu.out] at ho
      exact RetInts.mk hr.out (ownsRow_le' ho hw2) HB
def diffAt (us vs : List Int) (k : Nat) : List Int := [ix vs k - ix us k]
theorem diffAt_all (a b c d e f g h : Int) : accL (diffAt [a, b, c, d] [e, f, g, h]) 4 = diffL a b c d e f g h := rfl
theorem sDifferenceOf_any (a b c d e f g h : Int) (w : World) :
    Calls Try.prog 17 #[.agg #[.int .i64 a, .int .i64 b, .int .i64 c, .int .i64 d], .agg #[.int .i64 e, .int .i64 f, .int .i64 g, .int .i64 h]] w (RetInts (diffR a b c d e f g h) w) := by
  cases h1 : footOk a b c d
  · go_enter Try.func17, Try.ntmps17
    go_wp2_with fail
    refine (l02Foot_any _ _ _ _ _).mono ?_
    rintro e w1 ⟨rfl, H1⟩
    obtain ⟨hc, hf⟩ := bcell H1
    go_wp2_with fail
    go_ret2
    exact RetInts.nil (by simp [diffR, h1]) (Bl.then (by go_grown) H1)
  cases h2 : footOk e f g h
  · go_enter Try.func17, Try.ntmps17
    go_wp2_with fail
    refine (l02Foot_any _ _ _ _ _).mono ?_
    rintro e w1 ⟨rfl, H1⟩
    obtain ⟨hc, hf⟩ := bcell H1
    go_wp2_with fail
    refine (l02Foot_any _ _ _ _ _).mono ?_
    rintro e w2 ⟨rfl, hb⟩
    have H2 := Bl.then H1 hb
    clear hc hf hb
    obtain ⟨hc, hf⟩ := bcell H2
    go_wp2_with fail
    go_ret2
    exact RetInts.nil (by simp [diffR, h1, h2]) (Bl.then (by go_grown) H2)
  obtain ⟨p1, p2, p3, p4⟩ := footOk_bd' h1
  obtain ⟨q1, q2, q3, q4⟩ := footOk_bd' h2
  have hx : ∀ k : Nat, k < 4 → (500 ≤ ix [a, b, c, d] k ∧ ix [a, b, c, d] k ≤ 5000) ∧ (500 ≤ ix [e, f, g, h] k ∧ ix [e, f, g, h] k ≤ 5000) := by
    intro k hk
    match k, hk with
    | 0, _ => exact ⟨p1, q1⟩
    | 1, _ => exact ⟨p2, q2⟩
    | 2, _ => exact ⟨p3, q3⟩
    | 3, _ => exact ⟨p4, q4⟩
  have hx' := Lib.hid hx
  have hu := Lib.hid (diffAt_all a b c d e f g h)
  have hr := Lib.hid (show diffR a b c d e f g h = (diffL a b c d e f g h, 0) by simp [diffR, h1, h2])
  clear hx p1 p2 p3 p4 q1 q2 q3 q4
  go_enter Try.func17, Try.ntmps17
  go_wp2_with fail
  refine (l02Foot_any _ _ _ _ _).mono ?_
  rintro e w1 ⟨rfl, H1⟩
  obtain ⟨hc, hf⟩ := bcell H1
  go_wp2_with fail
  refine (l02Foot_any _ _ _ _ _).mono ?_
  rintro e w2 ⟨rfl, hb⟩
  have H2 := Bl.then H1 hb
  clear hc hf hb
  obtain ⟨hc, hf⟩ := bcell H2
  go_wp2_with fail
  refine (l02Four_any _ _ _ _ _).mono ?_
  rintro e w3 ⟨A3, c3, rfl, o3, hb⟩
  have H3 := Bl.then H2 hb
  clear hc hf hb
  obtain ⟨hc, hf⟩ := bcell H3
  go_wp2_with fail
  refine (l02Four_any _ _ _ _ _).mono ?_
  rintro e w4 ⟨A4, c4, rfl, o4, hb4⟩
  have H4 := Bl.then H3 hb4
  have r1 := (Rd.of_own o3).below hb4
  have r2 := Rd.of_own o4
  have HB0 : Below w.heap.size w w4 := Bl.then (by go_grown) H4
  clear hc hf H1 H2 H3 H4 o3 o4 hb4
  generalize hzs : [a, b, c, d] = us at r1 hx' hu
  generalize hys : [e, f, g, h] = vs at r2 hx' hu
  clear hzs hys
  go_wp2_with fail
  go_loopw [8, 9] (fun v q wr => ∃ (k : Nat) (A' : Option Addr) (c' : Nat), k ≤ 4 ∧ q = .int .i64 k ∧ v = .slice A' k c' ∧ wr.ownsRow w4.heap.size 2 1 (.slice A' k c') k (ints (accL (diffAt us vs) k)) ∧ Below w4.heap.size w4 wr) (fun _ q _ => (4 - intOf q).toNat)
  case atStart => exact ⟨0, _, _, by omega, rfl, rfl, own_lit rfl (by simp) (by decide) rfl rfl, by go_grown⟩
  case round =>
    obtain ⟨k, A', c', hk, rfl, rfl, ho, HB⟩ := hrel
    by_cases hlt : k < 4
    · obtain ⟨g1, off1, rfl, hg1, e1⟩ := r1.int (k := k) (by omega)
      obtain ⟨g2, off2, rfl, hgg, e2⟩ := r2.int (k := k) (by omega)
      have d1 := cell_later HB e1
      have d2 := cell_later HB e2
      obtain ⟨⟨x1, x2⟩, x3, x4⟩ := hx'.out k hlt
      have f1 : IntKind.i64.wrap (ix vs k - ix us k) = ix vs k - ix us k := IntWalk.i64_in _ (by omega)
      have f2 : (0 : Int) ≤ (k : Int) := by omega
      have f4 : (k : Int) < 4 := by omega
      go_wp2_with fail
      go_region_held3 (fun wz => wz.cell? ⟨g1, off1 + k, none⟩ = some (.int .i64 (ix us k)) ∧ wz.cell? ⟨g2, off2 + k, none⟩ = some (.int .i64 (ix vs k))) (((repeat' apply And.intro) <;> first | assumption | exact keep_drew (by assumption) | exact keep_alloc (by assumption) | exact keep_alloc (keep_drew (by assumption)) | exact cell_later (w := w4) (by first | assumption | exact (HB.alloc HB.size _).drew | exact HB.drew | exact HB.alloc HB.size _) (by assumption))) (first | (refine step_app_int _ rfl _ _ rfl w4.heap.size A' k c' _ (ix vs k - ix us k) _ rfl rfl (by refine (World.cell?_alloc_at _ _ _ _ ?_).trans rfl; simp) (own_below ho (by go_grown)) (by have := HB.size; simp; omega) (by omega) ?_; intro A2 c2 w5 ho2 hg2; have HB2 := app_below (own_below ho (by go_grown)) (B0 := w4.heap.size) (W0 := w4) (HB.trans ((by go_grown : Below wr.heap.size wr _).mono HB.size)) (Nat.le_refl _) (by have := HB.size; simp; omega) hg2))
      go_wp2_with fail
      go_roundw
      case rel => exact ⟨k + 1, A2, c2, by omega, by go_num, rfl, by rw [accL_add rfl] at ho2; exact ho2, HB2⟩
      case measure => simp [intOf]; omega
    · obtain rfl : k = 4 := by omega
      go_wp2_with fail
      go_ret2
      rw [hu.out] at ho
      exact RetInts.mk hr.out (ownsRow_le' ho HB0.size) (Bl.then HB0 HB)
end Go.Proofs.Ytlmjchmbbmiocaa
