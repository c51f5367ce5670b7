/-
  The cost of a last for a foot, in the program and in the reference; the last, the foot and the fit are valid ones.
-/
import Derived.Test.YtlbgognkaolamaaFit
import Derived.Test.YtlbgognkaolamaaLast
import Derived.Test.YtlbgognkaolamaaLastL
import Derived.Test.YtlbgognkaolamaaFootL
import Derived.Test.YtlbgognkaolamaaUpd
import Derived.Test.YtlbgognkaolamaaNum
import Derived.Deep.RegionHeld3
namespace Go.Proofs.Ytlbgognkaolamaa
open Go.RowKit
set_option maxHeartbeats 1600000

/-- The cost by the first k + 1 measures; whether they allow the last. -/
def costK (r q0 : Int) (us vs zf : List Int) : Nat → Int
  | 0 => ix zf 0 * (r - q0)
  | k + 1 => costK r q0 us vs zf k + ix zf (k + 1) * szI (ix us (k + 1) - ix vs (k + 1))
def okK (r q0 q1 q2 : Int) (us vs : List Int) : Nat → Bool
  | 0 => inR r q0 q1
  | k + 1 => okK r q0 q1 q2 us vs k && decide (szI (ix us (k + 1) - ix vs (k + 1)) ≤ q2)
theorem okK_no {r q0 q1 q2 : Int} {us vs : List Int} {j k : Nat} (h : okK r q0 q1 q2 us vs j = false) (hk : j ≤ k) : okK r q0 q1 q2 us vs k = false := by
  induction k with
  | zero => obtain rfl : j = 0 := by omega
            exact h
  | succ k ih =>
    by_cases e : j = k + 1
    · subst e; exact h
    · simp [okK, ih (by omega)]
def costF (l b i h fl fb fi fh q0 : Int) (zf : List Int) : Int := costK (l - fl) q0 [l, b, i, h] [fl, fb, fi, fh] zf 3
def mayF (l b i h fl fb fi fh q0 q1 q2 : Int) : Bool := okK (l - fl) q0 q1 q2 [l, b, i, h] [fl, fb, fi, fh] 3
def costR (l b i h fl fb fi fh q0 q1 q2 : Int) (zf : List Int) : Int := if mayF l b i h fl fb fi fh q0 q1 q2 = true then costF l b i h fl fb fi fh q0 zf else -1
theorem wmul_bd {a d : Int} (h1 : 0 ≤ a) (h2 : a ≤ 100) (h3 : -5000 ≤ d) (h4 : d ≤ 5000) : -500000 ≤ a * d ∧ a * d ≤ 500000 := by
  have := Int.mul_le_mul_of_nonneg_left h4 h1
  have := Int.mul_le_mul_of_nonneg_left h3 h1
  omega
theorem costK_bd {r q0 : Int} {us vs zf : List Int} (hr : -5000 ≤ r - q0 ∧ r - q0 ≤ 5000) (hz : ∀ k, k < 4 → 0 ≤ ix zf k ∧ ix zf k ≤ 100) (hu : ∀ k, k < 4 → 500 ≤ ix us k ∧ ix us k ≤ 5000) (hv : ∀ k, k < 4 → 500 ≤ ix vs k ∧ ix vs k ≤ 5000) :
    ∀ k, k < 4 → -2000000 ≤ costK r q0 us vs zf k ∧ costK r q0 us vs zf k ≤ 500000 * (k + 1) ∧ -500000 ≤ costK r q0 us vs zf k := by
  intro k
  induction k with
  | zero =>
    intro _
    have := wmul_bd (hz 0 (by omega)).1 (hz 0 (by omega)).2 hr.1 hr.2
    simp only [costK]; omega
  | succ k ih =>
    intro hk
    have h1 := ih (by omega)
    have h2 := hu (k + 1) hk
    have h3 := hv (k + 1) hk
    have h4 : 0 ≤ szI (ix us (k + 1) - ix vs (k + 1)) ∧ szI (ix us (k + 1) - ix vs (k + 1)) ≤ 4500 := by unfold szI; split <;> omega
    have h5 := wmul_bd (hz (k + 1) hk).1 (hz (k + 1) hk).2 (show -5000 ≤ szI (ix us (k + 1) - ix vs (k + 1)) by omega) (by omega)
    have h6 := Int.mul_nonneg (hz (k + 1) hk).1 h4.1
    simp only [costK]
    rw [show ((k + 1 : Nat) : Int) = (k : Int) + 1 by omega]
    omega
theorem costK_nn {r q0 q1 q2 : Int} {us vs zf : List Int} (hz : ∀ k, k < 4 → 0 ≤ ix zf k ∧ ix zf k ≤ 100) : ∀ k, k < 4 → okK r q0 q1 q2 us vs k = true → 0 ≤ costK r q0 us vs zf k := by
  intro k
  induction k with
  | zero =>
    intro _ h
    have := inR_true.1 h
    exact Int.mul_nonneg (hz 0 (by omega)).1 (by omega)
  | succ k ih =>
    intro hk h
    simp only [okK, Bool.and_eq_true] at h
    have h1 := ih (by omega) h.1
    have h2 := Int.mul_nonneg (hz (k + 1) hk).1 (show 0 ≤ szI (ix us (k + 1) - ix vs (k + 1)) by unfold szI; split <;> omega)
    simp only [costK]; omega
theorem four_in {a b c d : Int} (h : footOk a b c d = true) : ∀ k, k < 4 → 500 ≤ ix [a, b, c, d] k ∧ ix [a, b, c, d] k ≤ 5000 := by
  intro k hk
  simp only [footOk, Bool.and_eq_true] at h
  match k, hk with
  | 0, _ => exact inR_true.1 h.1.1.1
  | 1, _ => exact inR_true.1 h.1.1.2
  | 2, _ => exact inR_true.1 h.1.2
  | 3, _ => exact inR_true.1 h.2
theorem foot_of_last {s : ByteArray} {l b i h p : Int} (hl : lastOk s l b i h p = true) : footOk l b i h = true := by
  obtain ⟨-, h1, h2, h3, h4, -⟩ := lastOk_bd hl
  simp only [footOk, Bool.and_eq_true]
  exact ⟨⟨⟨inR_yes h1, inR_yes h2⟩, inR_yes h3⟩, inR_yes h4⟩
theorem costR_neg {l b i h fl fb fi fh q0 q1 q2 : Int} {zf : List Int} (hq : fitOk q0 q1 q2 zf = true) : decide (costR l b i h fl fb fi fh q0 q1 q2 zf < 0) = !mayF l b i h fl fb fi fh q0 q1 q2 := by
  unfold costR
  obtain ⟨-, -, -, -, hz⟩ := fitOk_bd hq
  cases hm : mayF l b i h fl fb fi fh q0 q1 q2
  · simp
  · have := costK_nn hz 3 (by omega) hm
    simp only [if_pos, Bool.not_true]
    exact decide_eq_false (by unfold costF; omega)
theorem ret_cost {a b : Int} {c d : Bool} (h : a = b) (h' : c = d) : Ending.returned (.tuple #[.int .i64 a, .bool c]) = .returned (.tuple #[.int .i64 b, .bool d]) := by rw [h, h']
set_option maxRecDepth 100000 in
theorem fitCost_any (s : ByteArray) (l b i h p fl fb fi fh q0 q1 q2 : Int) (Af : Option Addr) (nf cf : Nat) (zf : List Int) (w : World) (h0 : Rd w 1 Af nf (ints zf)) (hl : lastOk s l b i h p = true) (hf : footOk fl fb fi fh = true) (hq : fitOk q0 q1 q2 zf = true) :
    Calls Try.prog 81 #[.agg #[.string s, .int .i64 l, .int .i64 b, .int .i64 i, .int .i64 h, .int .i64 p], .agg #[.int .i64 fl, .int .i64 fb, .int .i64 fi, .int .i64 fh], .agg #[.int .i64 q0, .int .i64 q1, .int .i64 q2, .slice Af nf cf]] w fun e w' => e = .returned (.tuple #[.int .i64 (costF l b i h fl fb fi fh q0 zf), .bool (mayF l b i h fl fb fi fh q0 q1 q2)]) ∧ Below w.heap.size w w' := by
  have hlen := Lib.hid h0.len
  obtain ⟨⟨m1, m2⟩, ⟨m3, m4⟩, ⟨m5, m6⟩, m7, m8⟩ := fitOk_bd hq
  have hnf := Lib.hid (show nf = 4 by rw [← hlen.out]; exact m7)
  have p1 := four_in (foot_of_last hl)
  have p2 := four_in hf
  have hwz := Lib.hid m8
  obtain ⟨a1, a2⟩ : 500 ≤ l ∧ l ≤ 5000 := p1 0 (by omega)
  obtain ⟨a3, a4⟩ : 500 ≤ fl ∧ fl ≤ 5000 := p2 0 (by omega)
  obtain ⟨a5, a6⟩ := m8 0 (by omega)
  have hK := Lib.hid (costK_bd (r := l - fl) (q0 := q0) (us := [l, b, i, h]) (vs := [fl, fb, fi, fh]) ⟨by omega, by omega⟩ m8 p1 p2)
  have hp1 := Lib.hid p1
  have hp2 := Lib.hid p2
  clear hl hf hq m7 m8 p1 p2
  have hcv := Lib.hid (show costK (l - fl) q0 [l, b, i, h] [fl, fb, fi, fh] zf 3 = costF l b i h fl fb fi fh q0 zf from rfl)
  have hmv := Lib.hid (show okK (l - fl) q0 q1 q2 [l, b, i, h] [fl, fb, fi, fh] 3 = mayF l b i h fl fb fi fh q0 q1 q2 from rfl)
  obtain ⟨a7, a8⟩ := wmul_bd a5 a6 (show -5000 ≤ l - fl - q0 by omega) (by omega)
  go_enter Try.func81, Try.ntmps81
  go_wp2_with fail
  have BX := ((Blk.new w 41 #[.string s, .int .i64 l, .int .i64 b, .int .i64 i, .int .i64 h, .int .i64 p]).alloc (.cells #[.int .i64 fl, .int .i64 fb, .int .i64 fi, .int .i64 fh] 25)).alloc (.cells #[.int .i64 q0, .int .i64 q1, .int .i64 q2, .slice Af nf cf] 53)
  have BF := (Blk.new1 w (.cells #[.string s, .int .i64 l, .int .i64 b, .int .i64 i, .int .i64 h, .int .i64 p] 41) 25 #[.int .i64 fl, .int .i64 fb, .int .i64 fi, .int .i64 fh]).alloc (.cells #[.int .i64 q0, .int .i64 q1, .int .i64 q2, .slice Af nf cf] 53)
  have BQ := Blk.new2 w (.cells #[.string s, .int .i64 l, .int .i64 b, .int .i64 i, .int .i64 h, .int .i64 p] 41) (.cells #[.int .i64 fl, .int .i64 fb, .int .i64 fi, .int .i64 fh] 25) 53 #[.int .i64 q0, .int .i64 q1, .int .i64 q2, .slice Af nf cf]
  have HW : Below w.heap.size w (((w.alloc (.cells #[.string s, .int .i64 l, .int .i64 b, .int .i64 i, .int .i64 h, .int .i64 p] 41)).alloc (.cells #[.int .i64 fl, .int .i64 fb, .int .i64 fi, .int .i64 fh] 25)).alloc (.cells #[.int .i64 q0, .int .i64 q1, .int .i64 q2, .slice Af nf cf] 53)) := by go_grown
  have RW := h0.below HW
  generalize ((w.alloc (.cells #[.string s, .int .i64 l, .int .i64 b, .int .i64 i, .int .i64 h, .int .i64 p] 41)).alloc (.cells #[.int .i64 fl, .int .i64 fb, .int .i64 fi, .int .i64 fh] 25)).alloc (.cells #[.int .i64 q0, .int .i64 q1, .int .i64 q2, .slice Af nf cf] 53) = W at *
  generalize hg2 : w.heap.size + 1 + 1 = g2 at *
  generalize hg1 : w.heap.size + 1 = g1 at *
  have kX := BX.cell
  have kF := BF.cell
  have kQ := BQ.cell
  have lX := BX.lt
  have lF := BF.lt
  have lQ := BQ.lt
  clear hg1 hg2
  obtain ⟨bz, oz, rfl, hbz, hz0⟩ := RW.int (k := 0) (by rw [hnf.out]; decide)
  have hz0' : W.cell? ⟨bz, oz, none⟩ = some (.int .i64 (ix zf 0)) := by simpa using hz0
  have f1 : IntKind.i64.wrap (l - fl - q0) = l - fl - q0 := IntWalk.i64_in _ (by omega)
  have f2 : IntKind.i64.wrap (ix zf 0 * (l - fl - q0)) = ix zf 0 * (l - fl - q0) := IntWalk.i64_in _ (by omega)
  have f4 : 0 < nf := by rw [hnf.out]; decide
  clear hz0
  go_region_held3 (fun wz => Below W.heap.size W wz ∧ ∀ b o, b < W.heap.size → wz.cell? ⟨b, o, none⟩ = W.cell? ⟨b, o, none⟩) ((first | assumption | (refine old_of ?_; with_reducible first | assumption | exact Below.drew (Below.refl _ _) | exact Below.drew (by assumption)))) (first | (go_at_call 70; (with_reducible refine (within_any _ _ _ _).mono ?_); rintro e w2 ⟨rfl, rfl⟩) | (go_at_call 105; (with_reducible refine (measures_any _ _ _ _ _).mono ?_); rintro e w3 ⟨A3, c3, rfl, o3, hb3⟩; have HZ2 := Bl.then (w := W) (And.left (by assumption)) hb3))
  clear hz0' f1 f2 f4 a1 a2 a3 a4 a5 a6 a7 a8
  go_wp2_with fail
  refine (Lfoot_any _ _ _ _ _ _ _).mono ?_
  rintro e w4 ⟨rfl, hb4⟩
  go_wp2_with fail
  refine (measures_any _ _ _ _ _).mono ?_
  rintro e w5 ⟨A5, c5, rfl, o5, hb5⟩
  have HZ5 := Bl.then (Bl.then HZ2 hb4) hb5
  have r3 := ((Rd.of_own o3).below hb4).below hb5
  have r5 := Rd.of_own o5
  have BQ5 := BQ.below HZ5
  have RW5 := RW.below HZ5
  have HW5 := Bl.then HW HZ5
  clear kX kF kQ lX lF lQ BX BF BQ HZ2 HZ5 hb4 hb5 o3 o5 HW RW
  generalize hus0 : [l, b, i, h] = us at r5 hK hp1 hcv hmv
  generalize hvs0 : [fl, fb, fi, fh] = vs at r3 hK hp2 hcv hmv
  generalize hrr0 : l - fl = rr at hK hcv hmv ⊢
  have hrr := Lib.hid hrr0
  clear hus0 hvs0 hrr0
  go_wp2_with fail
  go_loopw [9, 10, 41] (fun c o i wr => ∃ k : Nat, k ≤ 4 ∧ i = .int .i64 k ∧ c = .int .i64 (costK rr q0 us vs zf (k - 1)) ∧ o = .bool (okK rr q0 q1 q2 us vs (k - 1)) ∧ Below w5.heap.size w5 wr) (fun _ _ i _ => 4 - (intOf i).toNat)
  case atStart => exact ⟨0, by omega, rfl, rfl, rfl, Below.refl _ _⟩
  case round =>
    obtain ⟨k, hk, rfl, rfl, rfl, HB⟩ := hrel
    by_cases hlt : k < 4
    · obtain ⟨b5, off5, rfl, hb5, e5⟩ := (r5.below HB).int (k := k) hlt
      rcases Nat.eq_zero_or_pos k with rfl | hpos
      · have e5' : wr.cell? ⟨b5, off5, none⟩ = some (.int .i64 (ix us 0)) := by simpa using e5
        clear e5
        go_wp2_with fail
        go_roundw
        case rel => exact ⟨1, by omega, by go_num, rfl, rfl, HB⟩
        case measure => simp [intOf]
      · obtain ⟨b3, off3, rfl, hb3, e3⟩ := (r3.below HB).int (k := k) hlt
        obtain ⟨bz, oz, ez0, hbz, ez⟩ := (RW5.below HB).int (k := k) (by rw [hnf.out]; exact hlt)
        simp only [Option.some.injEq, Addr.mk.injEq, and_true] at ez0
        obtain ⟨rfl, rfl⟩ := ez0
        have BQ6 := BQ5.below HB
        have kQ2 : wr.cell? ⟨g2, 2, none⟩ = some (.int .i64 q2) := BQ6.cell 2
        have kQ3 : wr.cell? ⟨g2, 3, none⟩ = some (.slice (some ⟨bz, oz, none⟩) nf cf) := BQ6.cell 3
        have lQ := BQ6.lt
        obtain ⟨x1, x2⟩ := hp1.out k hlt
        obtain ⟨x3, x4⟩ := hp2.out k hlt
        obtain ⟨x5, x6⟩ := hwz.out k hlt
        obtain ⟨y1, y2, y3⟩ := hK.out (k - 1) (by omega)
        obtain ⟨s1, s2⟩ : 0 ≤ szI (ix us k - ix vs k) ∧ szI (ix us k - ix vs k) ≤ 4500 := by unfold szI; split <;> omega
        obtain ⟨z1, z2⟩ := wmul_bd x5 x6 (show -5000 ≤ szI (ix us k - ix vs k) by omega) (by omega)
        have f1 : IntKind.i64.wrap (ix zf k * szI (ix us k - ix vs k)) = ix zf k * szI (ix us k - ix vs k) := IntWalk.i64_in _ (by omega)
        have f2 : IntKind.i64.wrap (costK rr q0 us vs zf (k - 1) + ix zf k * szI (ix us k - ix vs k)) = costK rr q0 us vs zf (k - 1) + ix zf k * szI (ix us k - ix vs k) := IntWalk.i64_in _ (by omega)
        have f3 : ((k : Int) == 0) = false := by rw [beq_eq_false_iff_ne]; omega
        have f4 : k < nf := by rw [hnf.out]; exact hlt
        have m1 : Mid (ix us k) := by unfold Mid; omega
        have m2 : Mid (ix vs k) := by unfold Mid; omega
        have hc2 := Lib.hid (show costK rr q0 us vs zf (k - 1) + ix zf k * szI (ix us k - ix vs k) = costK rr q0 us vs zf k by
          obtain ⟨j, rfl⟩ : ∃ j, k = j + 1 := ⟨k - 1, by omega⟩
          rfl)
        have ho2 := Lib.hid (show (okK rr q0 q1 q2 us vs (k - 1) && decide (szI (ix us k - ix vs k) ≤ q2)) = okK rr q0 q1 q2 us vs k by
          obtain ⟨j, rfl⟩ : ∃ j, k = j + 1 := ⟨k - 1, by omega⟩
          rfl)
        have HZ := Below.refl wr.heap.size wr
        cases hok : okK rr q0 q1 q2 us vs (k - 1)
        · have ho3 := Lib.hid (show false = okK rr q0 q1 q2 us vs k by rw [← ho2.out, hok]; rfl)
          clear ho2
          go_wp2_with (go_at_call 106; refine (apart_any _ _ _ m1 m2).mono ?_; rintro ez wz ⟨rfl, rfl⟩)
          refine wp_region_held_drew (S := (fun wz => Below wr.heap.size wr wz ∧ ∀ b o, b < wr.heap.size → wz.cell? ⟨b, o, none⟩ = wr.cell? ⟨b, o, none⟩)) (by kernel_rfl) (old_of (Below.drew HZ)) (fun hHeld => ?_)
          refine wpAnyH_take (i := 0) (oi := ?_) (v := ?_) ?_ (by kernel_rfl) (by kernel_rfl) (by kernel_rfl) ?_ (Or.inl ⟨?_, ?_⟩) (by assumption) ?_
          rotate_left 2
          · (simp only [List.getElem?_toArray, List.getElem?_cons_zero]; rfl)
          · exact fun _ _ _ h => h
          · rfl
          · intro w hSw
            (try dsimp only at hSw)
            go_simp
            try with_reducible rfl
          simp only [put_arr, List.set_cons_zero, List.set_cons_succ]
          refine wpAnyH_take (i := 1) (oi := ?_) (v := ?_) ?_ (by kernel_rfl) (by kernel_rfl) (by kernel_rfl) ?_ (Or.inl ⟨?_, ?_⟩) (by assumption) ?_
          rotate_left 2
          · (simp only [List.getElem?_toArray, List.getElem?_cons_zero, List.getElem?_cons_succ]; rfl)
          · exact fun _ _ _ h => h
          · rfl
          · intro w hSw
            (try dsimp only at hSw)
            go_simp
            try with_reducible rfl
          simp only [put_arr, List.set_cons_zero, List.set_cons_succ]
          refine wpAnyH_take (i := 2) (oi := ?_) (v := ?_) ?_ (by kernel_rfl) (by kernel_rfl) (by kernel_rfl) ?_ (Or.inl ⟨?_, ?_⟩) (by assumption) ?_
          rotate_left 2
          · (simp only [List.getElem?_toArray, List.getElem?_cons_zero, List.getElem?_cons_succ]; rfl)
          · exact fun _ _ _ h => h
          · rfl
          · intro w hSw
            (try dsimp only at hSw)
            go_simp
            try with_reducible rfl
          simp only [put_arr, List.set_cons_zero, List.set_cons_succ]
          refine wpAnyH_take (i := 3) (oi := ?_) (v := ?_) ?_ (by kernel_rfl) (by kernel_rfl) (by kernel_rfl) ?_ (Or.inl ⟨?_, ?_⟩) (by assumption) ?_
          rotate_left 2
          · (simp only [List.getElem?_toArray, List.getElem?_cons_zero, List.getElem?_cons_succ]; rfl)
          · exact fun _ _ _ h => h
          · rfl
          · intro w hSw
            (try dsimp only at hSw)
            go_simp
            try with_reducible rfl
          simp only [put_arr, List.set_cons_zero, List.set_cons_succ]
          refine wpAnyH_take (i := 4) (oi := ?_) (v := ?_) ?_ (by kernel_rfl) (by kernel_rfl) (by kernel_rfl) ?_ (Or.inl ⟨?_, ?_⟩) (by assumption) ?_
          rotate_left 2
          · (simp only [List.getElem?_toArray, List.getElem?_cons_zero, List.getElem?_cons_succ]; rfl)
          · exact fun _ _ _ h => h
          · rfl
          · intro w hSw
            (try dsimp only at hSw)
            go_simp
            try with_reducible rfl
          simp only [put_arr, List.set_cons_zero, List.set_cons_succ]
          refine wpAnyH_take (i := 5) (oi := ?_) (v := ?_) ?_ (by kernel_rfl) (by kernel_rfl) (by kernel_rfl) ?_ (Or.inl ⟨?_, ?_⟩) (by assumption) ?_
          rotate_left 2
          · (simp only [List.getElem?_toArray, List.getElem?_cons_zero, List.getElem?_cons_succ]; rfl)
          · exact fun _ _ _ h => h
          · rfl
          · intro w hSw
            (try dsimp only at hSw)
            go_simp
            try with_reducible rfl
          simp only [put_arr, List.set_cons_zero, List.set_cons_succ]
          refine wpAnyH_take (i := 6) (oi := ?_) (v := ?_) ?_ (by kernel_rfl) (by kernel_rfl) (by kernel_rfl) ?_ (Or.inl ⟨?_, ?_⟩) (by assumption) ?_
          rotate_left 2
          · (simp only [List.getElem?_toArray, List.getElem?_cons_zero, List.getElem?_cons_succ]; rfl)
          · exact fun _ _ _ h => h
          · rfl
          · intro w hSw
            (try dsimp only at hSw)
            go_simp
            try with_reducible rfl
          simp only [put_arr, List.set_cons_zero, List.set_cons_succ]
          refine wpAnyH_take (i := 7) (oi := ?_) (v := ?_) ?_ (by kernel_rfl) (by kernel_rfl) (by kernel_rfl) ?_ (Or.inl ⟨?_, ?_⟩) (by assumption) ?_
          rotate_left 2
          · (simp only [List.getElem?_toArray, List.getElem?_cons_zero, List.getElem?_cons_succ]; rfl)
          · exact fun _ _ _ h => h
          · rfl
          · intro w hSw
            (try dsimp only at hSw)
            go_simp
            try with_reducible rfl
          simp only [put_arr, List.set_cons_zero, List.set_cons_succ]
          refine wpAnyH_take (i := 8) (oi := ?_) (v := ?_) ?_ (by kernel_rfl) (by kernel_rfl) (by kernel_rfl) ?_ (Or.inl ⟨?_, ?_⟩) (by assumption) ?_
          rotate_left 2
          · (simp only [List.getElem?_toArray, List.getElem?_cons_zero, List.getElem?_cons_succ]; rfl)
          · exact fun _ _ _ h => h
          · rfl
          · intro w hSw
            (try dsimp only at hSw)
            go_simp
            try with_reducible rfl
          simp only [put_arr, List.set_cons_zero, List.set_cons_succ]
          refine wpAnyH_take (i := 9) (oi := ?_) (v := ?_) ?_ (by kernel_rfl) (by kernel_rfl) (by kernel_rfl) ?_ (Or.inl ⟨?_, ?_⟩) (by assumption) ?_
          rotate_left 2
          · (simp only [List.getElem?_toArray, List.getElem?_cons_zero, List.getElem?_cons_succ]; rfl)
          · exact fun _ _ _ h => h
          · rfl
          · intro w hSw
            (try dsimp only at hSw)
            go_simp
            try with_reducible rfl
          simp only [put_arr, List.set_cons_zero, List.set_cons_succ]
          refine wpAnyH_take (i := 10) (oi := ?_) (v := ?_) ?_ (by kernel_rfl) (by kernel_rfl) (by kernel_rfl) ?_ (Or.inl ⟨?_, ?_⟩) (by assumption) ?_
          rotate_left 2
          · (simp only [List.getElem?_toArray, List.getElem?_cons_zero, List.getElem?_cons_succ]; rfl)
          · exact fun _ _ _ h => h
          · rfl
          · intro w hSw
            (try dsimp only at hSw)
            go_simp
            try with_reducible rfl
          simp only [put_arr, List.set_cons_zero, List.set_cons_succ]
          refine wpAnyH_take (i := 11) (oi := ?_) ?_ (by kernel_rfl) (by kernel_rfl) (by kernel_rfl) ?_ (Or.inr ⟨?_, rfl⟩) (by assumption) ?_
          rotate_left 1
          · (simp only [List.getElem?_toArray, List.getElem?_cons_zero, List.getElem?_cons_succ]; rfl)
          · exact fun _ _ _ h => h
          · rfl
          simp only [put_arr, List.set_cons_zero, List.set_cons_succ]
          refine wpAnyH_take (i := 12) (oi := ?_) ?_ (by kernel_rfl) (by kernel_rfl) (by kernel_rfl) ?_ (Or.inr ⟨?_, rfl⟩) (by assumption) ?_
          rotate_left 1
          · (simp only [List.getElem?_toArray, List.getElem?_cons_zero, List.getElem?_cons_succ]; rfl)
          · exact fun _ _ _ h => h
          · rfl
          simp only [put_arr, List.set_cons_zero, List.set_cons_succ]
          refine wpAnyH_take (i := 13) (oi := ?_) ?_ (by kernel_rfl) (by kernel_rfl) (by kernel_rfl) ?_ (Or.inr ⟨?_, rfl⟩) (by assumption) ?_
          rotate_left 1
          · (simp only [List.getElem?_toArray, List.getElem?_cons_zero, List.getElem?_cons_succ]; rfl)
          · exact fun _ _ _ h => h
          · rfl
          simp only [put_arr, List.set_cons_zero, List.set_cons_succ]
          refine wpAnyH_take (i := 14) (oi := ?_) ?_ (by kernel_rfl) (by kernel_rfl) (by kernel_rfl) ?_ (Or.inr ⟨?_, rfl⟩) (by assumption) ?_
          rotate_left 1
          · (simp only [List.getElem?_toArray, List.getElem?_cons_zero, List.getElem?_cons_succ]; rfl)
          · exact fun _ _ _ h => h
          · rfl
          simp only [put_arr, List.set_cons_zero, List.set_cons_succ]
          refine wpAnyH_take (i := 15) (oi := ?_) (v := ?_) ?_ (by kernel_rfl) (by kernel_rfl) (by kernel_rfl) ?_ (Or.inl ⟨?_, ?_⟩) (by assumption) ?_
          rotate_left 2
          · (simp only [List.getElem?_toArray, List.getElem?_cons_zero, List.getElem?_cons_succ]; rfl)
          · exact fun _ _ _ h => h
          · rfl
          · intro w hSw
            (try dsimp only at hSw)
            go_simp
            try with_reducible rfl
          simp only [put_arr, List.set_cons_zero, List.set_cons_succ]
          refine wpAnyH_take (i := 16) (oi := ?_) (v := ?_) ?_ (by kernel_rfl) (by kernel_rfl) (by kernel_rfl) ?_ (Or.inl ⟨?_, ?_⟩) (by assumption) ?_
          rotate_left 2
          · (simp only [List.getElem?_toArray, List.getElem?_cons_zero, List.getElem?_cons_succ]; rfl)
          · exact fun _ _ _ h => h
          · rfl
          · intro w hSw
            (try dsimp only at hSw)
            go_simp
            try with_reducible rfl
          simp only [put_arr, List.set_cons_zero, List.set_cons_succ]
          refine wpAnyH_take (i := 17) (oi := ?_) (v := ?_) ?_ (by kernel_rfl) (by kernel_rfl) (by kernel_rfl) ?_ (Or.inl ⟨?_, ?_⟩) (by assumption) ?_
          rotate_left 2
          · (simp only [List.getElem?_toArray, List.getElem?_cons_zero, List.getElem?_cons_succ]; rfl)
          · exact fun _ _ _ h => h
          · rfl
          · intro w hSw
            (try dsimp only at hSw)
            go_simp
            try with_reducible rfl
          simp only [put_arr, List.set_cons_zero, List.set_cons_succ]
          refine wpAnyH_done (by kernel_rfl) ?_ _
          go_wp2_with fail
          go_roundw
          case rel => exact ⟨k + 1, by omega, by go_num, by rw [Nat.add_sub_cancel]; exact congrArg _ hc2.out, by rw [Nat.add_sub_cancel]; exact congrArg _ ho3.out, Bl.then HB (And.left hHeld)⟩
          case measure => simp [intOf]; omega
        · have ho3 := Lib.hid (show decide (szI (ix us k - ix vs k) ≤ q2) = okK rr q0 q1 q2 us vs k by rw [← ho2.out, hok]; rfl)
          clear ho2
          go_wp2_with (go_at_call 106; refine (apart_any _ _ _ m1 m2).mono ?_; rintro ez wz ⟨rfl, rfl⟩)
          refine wp_region_held_drew (S := (fun wz => Below wr.heap.size wr wz ∧ ∀ b o, b < wr.heap.size → wz.cell? ⟨b, o, none⟩ = wr.cell? ⟨b, o, none⟩)) (by kernel_rfl) (old_of (Below.drew HZ)) (fun hHeld => ?_)
          refine wpAnyH_take (i := 0) (oi := ?_) (v := ?_) ?_ (by kernel_rfl) (by kernel_rfl) (by kernel_rfl) ?_ (Or.inl ⟨?_, ?_⟩) (by assumption) ?_
          rotate_left 2
          · (simp only [List.getElem?_toArray, List.getElem?_cons_zero]; rfl)
          · exact fun _ _ _ h => h
          · rfl
          · intro w hSw
            (try dsimp only at hSw)
            go_simp
            try with_reducible rfl
          simp only [put_arr, List.set_cons_zero, List.set_cons_succ]
          refine wpAnyH_take (i := 1) (oi := ?_) (v := ?_) ?_ (by kernel_rfl) (by kernel_rfl) (by kernel_rfl) ?_ (Or.inl ⟨?_, ?_⟩) (by assumption) ?_
          rotate_left 2
          · (simp only [List.getElem?_toArray, List.getElem?_cons_zero, List.getElem?_cons_succ]; rfl)
          · exact fun _ _ _ h => h
          · rfl
          · intro w hSw
            (try dsimp only at hSw)
            go_simp
            try with_reducible rfl
          simp only [put_arr, List.set_cons_zero, List.set_cons_succ]
          refine wpAnyH_take (i := 2) (oi := ?_) (v := ?_) ?_ (by kernel_rfl) (by kernel_rfl) (by kernel_rfl) ?_ (Or.inl ⟨?_, ?_⟩) (by assumption) ?_
          rotate_left 2
          · (simp only [List.getElem?_toArray, List.getElem?_cons_zero, List.getElem?_cons_succ]; rfl)
          · exact fun _ _ _ h => h
          · rfl
          · intro w hSw
            (try dsimp only at hSw)
            go_simp
            try with_reducible rfl
          simp only [put_arr, List.set_cons_zero, List.set_cons_succ]
          refine wpAnyH_take (i := 3) (oi := ?_) (v := ?_) ?_ (by kernel_rfl) (by kernel_rfl) (by kernel_rfl) ?_ (Or.inl ⟨?_, ?_⟩) (by assumption) ?_
          rotate_left 2
          · (simp only [List.getElem?_toArray, List.getElem?_cons_zero, List.getElem?_cons_succ]; rfl)
          · exact fun _ _ _ h => h
          · rfl
          · intro w hSw
            (try dsimp only at hSw)
            go_simp
            try with_reducible rfl
          simp only [put_arr, List.set_cons_zero, List.set_cons_succ]
          refine wpAnyH_take (i := 4) (oi := ?_) (v := ?_) ?_ (by kernel_rfl) (by kernel_rfl) (by kernel_rfl) ?_ (Or.inl ⟨?_, ?_⟩) (by assumption) ?_
          rotate_left 2
          · (simp only [List.getElem?_toArray, List.getElem?_cons_zero, List.getElem?_cons_succ]; rfl)
          · exact fun _ _ _ h => h
          · rfl
          · intro w hSw
            (try dsimp only at hSw)
            go_simp
            try with_reducible rfl
          simp only [put_arr, List.set_cons_zero, List.set_cons_succ]
          refine wpAnyH_take (i := 5) (oi := ?_) (v := ?_) ?_ (by kernel_rfl) (by kernel_rfl) (by kernel_rfl) ?_ (Or.inl ⟨?_, ?_⟩) (by assumption) ?_
          rotate_left 2
          · (simp only [List.getElem?_toArray, List.getElem?_cons_zero, List.getElem?_cons_succ]; rfl)
          · exact fun _ _ _ h => h
          · rfl
          · intro w hSw
            (try dsimp only at hSw)
            go_simp
            try with_reducible rfl
          simp only [put_arr, List.set_cons_zero, List.set_cons_succ]
          refine wpAnyH_take (i := 6) (oi := ?_) (v := ?_) ?_ (by kernel_rfl) (by kernel_rfl) (by kernel_rfl) ?_ (Or.inl ⟨?_, ?_⟩) (by assumption) ?_
          rotate_left 2
          · (simp only [List.getElem?_toArray, List.getElem?_cons_zero, List.getElem?_cons_succ]; rfl)
          · exact fun _ _ _ h => h
          · rfl
          · intro w hSw
            (try dsimp only at hSw)
            go_simp
            try with_reducible rfl
          simp only [put_arr, List.set_cons_zero, List.set_cons_succ]
          refine wpAnyH_take (i := 7) (oi := ?_) (v := ?_) ?_ (by kernel_rfl) (by kernel_rfl) (by kernel_rfl) ?_ (Or.inl ⟨?_, ?_⟩) (by assumption) ?_
          rotate_left 2
          · (simp only [List.getElem?_toArray, List.getElem?_cons_zero, List.getElem?_cons_succ]; rfl)
          · exact fun _ _ _ h => h
          · rfl
          · intro w hSw
            (try dsimp only at hSw)
            go_simp
            try with_reducible rfl
          simp only [put_arr, List.set_cons_zero, List.set_cons_succ]
          refine wpAnyH_take (i := 8) (oi := ?_) (v := ?_) ?_ (by kernel_rfl) (by kernel_rfl) (by kernel_rfl) ?_ (Or.inl ⟨?_, ?_⟩) (by assumption) ?_
          rotate_left 2
          · (simp only [List.getElem?_toArray, List.getElem?_cons_zero, List.getElem?_cons_succ]; rfl)
          · exact fun _ _ _ h => h
          · rfl
          · intro w hSw
            (try dsimp only at hSw)
            go_simp
            try with_reducible rfl
          simp only [put_arr, List.set_cons_zero, List.set_cons_succ]
          refine wpAnyH_take (i := 9) (oi := ?_) (v := ?_) ?_ (by kernel_rfl) (by kernel_rfl) (by kernel_rfl) ?_ (Or.inl ⟨?_, ?_⟩) (by assumption) ?_
          rotate_left 2
          · (simp only [List.getElem?_toArray, List.getElem?_cons_zero, List.getElem?_cons_succ]; rfl)
          · exact fun _ _ _ h => h
          · rfl
          · intro w hSw
            (try dsimp only at hSw)
            go_simp
            try with_reducible rfl
          simp only [put_arr, List.set_cons_zero, List.set_cons_succ]
          refine wpAnyH_take (i := 10) (oi := ?_) (v := ?_) ?_ (by kernel_rfl) (by kernel_rfl) (by kernel_rfl) ?_ (Or.inl ⟨?_, ?_⟩) (by assumption) ?_
          rotate_left 2
          · (simp only [List.getElem?_toArray, List.getElem?_cons_zero, List.getElem?_cons_succ]; rfl)
          · exact fun _ _ _ h => h
          · rfl
          · intro w hSw
            (try dsimp only at hSw)
            go_simp
            try with_reducible rfl
          simp only [put_arr, List.set_cons_zero, List.set_cons_succ]
          refine wpAnyH_take (i := 11) (oi := ?_) (v := ?_) ?_ (by kernel_rfl) (by kernel_rfl) (by kernel_rfl) ?_ (Or.inl ⟨?_, ?_⟩) (by assumption) ?_
          rotate_left 2
          · (simp only [List.getElem?_toArray, List.getElem?_cons_zero, List.getElem?_cons_succ]; rfl)
          · exact fun _ _ _ h => h
          · rfl
          · intro w hSw
            (try dsimp only at hSw)
            go_simp
            try with_reducible rfl
          simp only [put_arr, List.set_cons_zero, List.set_cons_succ]
          refine wpAnyH_take (i := 12) (oi := ?_) (v := ?_) ?_ (by kernel_rfl) (by kernel_rfl) (by kernel_rfl) ?_ (Or.inl ⟨?_, ?_⟩) (by assumption) ?_
          rotate_left 2
          · (simp only [List.getElem?_toArray, List.getElem?_cons_zero, List.getElem?_cons_succ]; rfl)
          · exact fun _ _ _ h => h
          · rfl
          · intro w hSw
            (try dsimp only at hSw)
            go_simp
            try with_reducible rfl
          simp only [put_arr, List.set_cons_zero, List.set_cons_succ]
          refine wpAnyH_take (i := 13) (oi := ?_) (v := ?_) ?_ (by kernel_rfl) (by kernel_rfl) (by kernel_rfl) ?_ (Or.inl ⟨?_, ?_⟩) (by assumption) ?_
          rotate_left 2
          · (simp only [List.getElem?_toArray, List.getElem?_cons_zero, List.getElem?_cons_succ]; rfl)
          · exact fun _ _ _ h => h
          · rfl
          · intro w hSw
            (try dsimp only at hSw)
            go_simp
            try with_reducible rfl
          simp only [put_arr, List.set_cons_zero, List.set_cons_succ]
          refine wpAnyH_take (i := 14) (oi := ?_) (v := ?_) ?_ (by kernel_rfl) (by kernel_rfl) (by kernel_rfl) ?_ (Or.inl ⟨?_, ?_⟩) (by assumption) ?_
          rotate_left 2
          · (simp only [List.getElem?_toArray, List.getElem?_cons_zero, List.getElem?_cons_succ]; rfl)
          · exact fun _ _ _ h => h
          · rfl
          · intro w hSw
            (try dsimp only at hSw)
            go_simp
            try with_reducible rfl
          simp only [put_arr, List.set_cons_zero, List.set_cons_succ]
          refine wpAnyH_take (i := 15) (oi := ?_) (v := ?_) ?_ (by kernel_rfl) (by kernel_rfl) (by kernel_rfl) ?_ (Or.inl ⟨?_, ?_⟩) (by assumption) ?_
          rotate_left 2
          · (simp only [List.getElem?_toArray, List.getElem?_cons_zero, List.getElem?_cons_succ]; rfl)
          · exact fun _ _ _ h => h
          · rfl
          · intro w hSw
            (try dsimp only at hSw)
            go_simp
            try with_reducible rfl
          simp only [put_arr, List.set_cons_zero, List.set_cons_succ]
          refine wpAnyH_take (i := 16) (oi := ?_) (v := ?_) ?_ (by kernel_rfl) (by kernel_rfl) (by kernel_rfl) ?_ (Or.inl ⟨?_, ?_⟩) (by assumption) ?_
          rotate_left 2
          · (simp only [List.getElem?_toArray, List.getElem?_cons_zero, List.getElem?_cons_succ]; rfl)
          · exact fun _ _ _ h => h
          · rfl
          · intro w hSw
            (try dsimp only at hSw)
            go_simp
            try with_reducible rfl
          simp only [put_arr, List.set_cons_zero, List.set_cons_succ]
          refine wpAnyH_take (i := 17) (oi := ?_) (v := ?_) ?_ (by kernel_rfl) (by kernel_rfl) (by kernel_rfl) ?_ (Or.inl ⟨?_, ?_⟩) (by assumption) ?_
          rotate_left 2
          · (simp only [List.getElem?_toArray, List.getElem?_cons_zero, List.getElem?_cons_succ]; rfl)
          · exact fun _ _ _ h => h
          · rfl
          · intro w hSw
            (try dsimp only at hSw)
            go_simp
            try with_reducible rfl
          simp only [put_arr, List.set_cons_zero, List.set_cons_succ]
          refine wpAnyH_done (by kernel_rfl) ?_ _
          go_wp2_with fail
          go_roundw
          case rel => exact ⟨k + 1, by omega, by go_num, by rw [Nat.add_sub_cancel]; exact congrArg _ hc2.out, by rw [Nat.add_sub_cancel]; exact congrArg _ ho3.out, Bl.then HB (And.left hHeld)⟩
          case measure => simp [intOf]; omega
    · obtain rfl : k = 4 := by omega
      go_wp2_with fail
      go_ret2
      exact ⟨ret_cost hcv.out hmv.out, Bl.then HW5 HB⟩
set_option maxRecDepth 100000 in
theorem l04Cost_any (g : Nat) (s : ByteArray) (l b i h p fl fb fi fh q0 q1 q2 : Int) (Af : Option Addr) (nf cf : Nat) (zf : List Int) (w : World) (hG : Blk w g 53 #[.int .i64 q0, .int .i64 q1, .int .i64 q2, .slice Af nf cf]) (h0 : Rd w 1 Af nf (ints zf)) (hl : lastOk s l b i h p = true) (hf : footOk fl fb fi fh = true) (hq : fitOk q0 q1 q2 zf = true) :
    Calls Try.prog 79 #[.agg #[.string s, .int .i64 l, .int .i64 b, .int .i64 i, .int .i64 h, .int .i64 p], .agg #[.int .i64 fl, .int .i64 fb, .int .i64 fi, .int .i64 fh], .pointer (some ⟨g, 0, none⟩)] w fun e w' => e = .returned (.int .i64 (costR l b i h fl fb fi fh q0 q1 q2 zf)) ∧ Below w.heap.size w w' := by
  have hlen := Lib.hid h0.len
  obtain ⟨⟨m1, m2⟩, ⟨m3, m4⟩, ⟨m5, m6⟩, m7, m8⟩ := fitOk_bd hq
  have hnf := Lib.hid (show nf = 4 by rw [← hlen.out]; exact m7)
  have p1 := four_in (foot_of_last hl)
  have p2 := four_in hf
  have hwz := Lib.hid m8
  obtain ⟨a1, a2⟩ : 500 ≤ l ∧ l ≤ 5000 := p1 0 (by omega)
  obtain ⟨a3, a4⟩ : 500 ≤ fl ∧ fl ≤ 5000 := p2 0 (by omega)
  obtain ⟨a5, a6⟩ := m8 0 (by omega)
  have hK := Lib.hid (costK_bd (r := l - fl) (q0 := q0) (us := [l, b, i, h]) (vs := [fl, fb, fi, fh]) ⟨by omega, by omega⟩ m8 p1 p2)
  have hp1 := Lib.hid p1
  have hp2 := Lib.hid p2
  clear hl hf hq m7 m8 p1 p2
  have hyes := Lib.hid (fun (hx : okK (l - fl) q0 q1 q2 [l, b, i, h] [fl, fb, fi, fh] 3 = true) => (show costK (l - fl) q0 [l, b, i, h] [fl, fb, fi, fh] zf 3 = costR l b i h fl fb fi fh q0 q1 q2 zf by unfold costR mayF costF; rw [if_pos hx]))
  have hno := Lib.hid (fun (k : Nat) (hk : k ≤ 3) (hx : okK (l - fl) q0 q1 q2 [l, b, i, h] [fl, fb, fi, fh] k = false) => (show -1 = costR l b i h fl fb fi fh q0 q1 q2 zf by unfold costR mayF costF; rw [if_neg (by rw [okK_no hx hk]; decide)]))
  obtain ⟨a7, a8⟩ := wmul_bd a5 a6 (show -5000 ≤ l - fl - q0 by omega) (by omega)
  have lG := hG.lt
  go_enter Try.func79, Try.ntmps79
  go_wp2_with fail
  refine (l04Foot_any _ _ _ _ _ _ _).mono ?_
  rintro e w1 ⟨rfl, hb1⟩
  have BF1 := (Blk.new1 w (.cells #[.string s, .int .i64 l, .int .i64 b, .int .i64 i, .int .i64 h, .int .i64 p] 41) 25 #[.int .i64 fl, .int .i64 fb, .int .i64 fi, .int .i64 fh]).below hb1
  have HW1 : Below w.heap.size w w1 := Bl.then (by go_grown) hb1
  have kF : w1.cell? ⟨w.heap.size + 1, 0, none⟩ = some (.int .i64 fl) := BF1.cell 0
  clear kF
  go_wp2_with fail
  refine (l02Four_any _ _ _ _ _).mono ?_
  rintro e w2 ⟨A2, c2, rfl, o2, hb2⟩
  have BF2 := BF1.below hb2
  have HW2 := Bl.then HW1 hb2
  have kF0 : w2.cell? ⟨w.heap.size + 1, 0, none⟩ = some (.int .i64 fl) := BF2.cell 0
  have kF1 : w2.cell? ⟨w.heap.size + 1, 1, none⟩ = some (.int .i64 fb) := BF2.cell 1
  have kF2 : w2.cell? ⟨w.heap.size + 1, 2, none⟩ = some (.int .i64 fi) := BF2.cell 2
  have kF3 : w2.cell? ⟨w.heap.size + 1, 3, none⟩ = some (.int .i64 fh) := BF2.cell 3
  go_wp2_with fail
  refine (l02Four_any _ _ _ _ _).mono ?_
  rintro e w3 ⟨A3, c3, rfl, o3, hb3⟩
  have HW3 := Bl.then HW2 hb3
  have r2 := (Rd.of_own o2).below hb3
  have r3 := Rd.of_own o3
  have BG := hG.below HW3
  have RW := h0.below HW3
  clear kF0 kF1 kF2 kF3 BF1 BF2 HW1 HW2 hb1 hb2 hb3 o2 o3 hG h0
  generalize hus0 : [l, b, i, h] = us at r2 hK hp1 hyes hno
  generalize hvs0 : [fl, fb, fi, fh] = vs at r3 hK hp2 hyes hno
  obtain ⟨b2, off2, rfl, hb2, e2⟩ := r2.int (k := 0) (by decide)
  obtain ⟨b3, off3, rfl, hb3, e3⟩ := r3.int (k := 0) (by decide)
  obtain ⟨bz, oz, rfl, hbz, ez⟩ := RW.int (k := 0) (by rw [hnf.out]; decide)
  have e2' : w3.cell? ⟨b2, off2, none⟩ = some (.int .i64 l) := by have e : ix us 0 = l := by rw [← hus0]; rfl
                                                                  rw [← e]; simpa using e2
  have e3' : w3.cell? ⟨b3, off3, none⟩ = some (.int .i64 fl) := by have e : ix vs 0 = fl := by rw [← hvs0]; rfl
                                                                   rw [← e]; simpa using e3
  have ez' : w3.cell? ⟨bz, oz, none⟩ = some (.int .i64 (ix zf 0)) := by simpa using ez
  have kG0 : w3.cell? ⟨g, 0, none⟩ = some (.int .i64 q0) := BG.cell 0
  have kG1 : w3.cell? ⟨g, 1, none⟩ = some (.int .i64 q1) := BG.cell 1
  have kG2 : w3.cell? ⟨g, 2, none⟩ = some (.int .i64 q2) := BG.cell 2
  have kG3 : w3.cell? ⟨g, 3, none⟩ = some (.slice (some ⟨bz, oz, none⟩) nf cf) := BG.cell 3
  have lG3 := BG.lt
  have f0 : IntKind.i64.wrap (l - fl) = l - fl := IntWalk.i64_in _ (by omega)
  have f1 : IntKind.i64.wrap (l - fl - q0) = l - fl - q0 := IntWalk.i64_in _ (by omega)
  have f2 : IntKind.i64.wrap (ix zf 0 * (l - fl - q0)) = ix zf 0 * (l - fl - q0) := IntWalk.i64_in _ (by omega)
  have f4 : 0 < nf := by rw [hnf.out]; decide
  clear e2 e3 ez hus0 hvs0 a1 a2 a3 a4 a5 a6 a7 a8
  have HZ := Below.refl w3.heap.size w3
  go_wp2_with fail
  refine wp_region_held_drew (S := (fun wz => Below w3.heap.size w3 wz ∧ ∀ b o, b < w3.heap.size → wz.cell? ⟨b, o, none⟩ = w3.cell? ⟨b, o, none⟩)) (by kernel_rfl) (old_of (Below.drew HZ)) (fun hHeld => ?_)
  refine wpAnyH_take (i := 0) (oi := ?_) (v := ?_) ?_ (by kernel_rfl) (by kernel_rfl) (by kernel_rfl) ?_ (Or.inl ⟨?_, ?_⟩) (by assumption) ?_
  rotate_left 2
  · (simp only [List.getElem?_toArray, List.getElem?_cons_zero]; rfl)
  · exact fun _ _ _ h => h
  · rfl
  · intro w hSw
    (try dsimp only at hSw)
    go_simp
    try with_reducible rfl
  simp only [put_arr, List.set_cons_zero, List.set_cons_succ]
  refine wpAnyH_take (i := 1) (oi := ?_) (v := ?_) ?_ (by kernel_rfl) (by kernel_rfl) (by kernel_rfl) ?_ (Or.inl ⟨?_, ?_⟩) (by assumption) ?_
  rotate_left 2
  · (simp only [List.getElem?_toArray, List.getElem?_cons_zero, List.getElem?_cons_succ]; rfl)
  · exact fun _ _ _ h => h
  · rfl
  · intro w hSw
    (try dsimp only at hSw)
    go_simp
    try with_reducible rfl
  simp only [put_arr, List.set_cons_zero, List.set_cons_succ]
  refine wpAnyH_take (i := 2) (oi := ?_) (v := ?_) ?_ (by kernel_rfl) (by kernel_rfl) (by kernel_rfl) ?_ (Or.inl ⟨?_, ?_⟩) (by assumption) ?_
  rotate_left 2
  · (simp only [List.getElem?_toArray, List.getElem?_cons_zero, List.getElem?_cons_succ]; rfl)
  · exact fun _ _ _ h => h
  · rfl
  · intro w hSw
    (try dsimp only at hSw)
    go_simp
    try with_reducible rfl
  simp only [put_arr, List.set_cons_zero, List.set_cons_succ]
  refine wpAnyH_take (i := 3) (oi := ?_) (v := ?_) ?_ (by kernel_rfl) (by kernel_rfl) (by kernel_rfl) ?_ (Or.inl ⟨?_, ?_⟩) (by assumption) ?_
  rotate_left 2
  · (simp only [List.getElem?_toArray, List.getElem?_cons_zero, List.getElem?_cons_succ]; rfl)
  · exact fun _ _ _ h => h
  · rfl
  · intro w hSw
    (try dsimp only at hSw)
    go_simp
    try with_reducible rfl
  simp only [put_arr, List.set_cons_zero, List.set_cons_succ]
  refine wpAnyH_take (i := 4) (oi := ?_) (v := ?_) ?_ (by kernel_rfl) (by kernel_rfl) (by kernel_rfl) ?_ (Or.inl ⟨?_, ?_⟩) (by assumption) ?_
  rotate_left 2
  · (simp only [List.getElem?_toArray, List.getElem?_cons_zero, List.getElem?_cons_succ]; rfl)
  · exact fun _ _ _ h => h
  · rfl
  · intro w hSw
    (try dsimp only at hSw)
    go_simp
    try with_reducible rfl
  simp only [put_arr, List.set_cons_zero, List.set_cons_succ]
  refine wpAnyH_take (i := 5) (oi := ?_) (v := ?_) ?_ (by kernel_rfl) (by kernel_rfl) (by kernel_rfl) ?_ (Or.inl ⟨?_, ?_⟩) (by assumption) ?_
  rotate_left 2
  · (simp only [List.getElem?_toArray, List.getElem?_cons_zero, List.getElem?_cons_succ]; rfl)
  · exact fun _ _ _ h => h
  · rfl
  · intro w hSw
    (try dsimp only at hSw)
    go_simp
    try with_reducible rfl
  simp only [put_arr, List.set_cons_zero, List.set_cons_succ]
  refine wpAnyH_take (i := 6) (oi := ?_) (v := ?_) ?_ (by kernel_rfl) (by kernel_rfl) (by kernel_rfl) ?_ (Or.inl ⟨?_, ?_⟩) (by assumption) ?_
  rotate_left 2
  · (simp only [List.getElem?_toArray, List.getElem?_cons_zero, List.getElem?_cons_succ]; rfl)
  · exact fun _ _ _ h => h
  · rfl
  · intro w hSw
    (try dsimp only at hSw)
    go_simp
    try with_reducible rfl
  simp only [put_arr, List.set_cons_zero, List.set_cons_succ]
  refine wpAnyH_take (i := 7) (oi := ?_) (v := ?_) ?_ (by kernel_rfl) (by kernel_rfl) (by kernel_rfl) ?_ (Or.inl ⟨?_, ?_⟩) (by assumption) ?_
  rotate_left 2
  · (simp only [List.getElem?_toArray, List.getElem?_cons_zero, List.getElem?_cons_succ]; rfl)
  · exact fun _ _ _ h => h
  · rfl
  · intro w hSw
    (try dsimp only at hSw)
    go_simp
    try with_reducible rfl
  simp only [put_arr, List.set_cons_zero, List.set_cons_succ]
  refine wpAnyH_done (by kernel_rfl) ?_ _
  have HZ := And.left hHeld
  generalize hrr0 : l - fl = rr at f0 f1 f2 hK hyes hno ⊢
  have hrr := Lib.hid hrr0
  clear hrr0
  go_wp2_with fail
  cases hin : inR rr q0 q1
  · have hr := Lib.hid (hno.out 0 (by omega) hin)
    refine wp_region_held_drew (S := (fun wz => Below w3.heap.size w3 wz ∧ ∀ b o, b < w3.heap.size → wz.cell? ⟨b, o, none⟩ = w3.cell? ⟨b, o, none⟩)) (by kernel_rfl) (old_of (Below.drew HZ)) (fun hHeld => ?_)
    refine wpAnyH_take (i := 0) (oi := ?_) (v := ?_) ?_ (by kernel_rfl) (by kernel_rfl) (by kernel_rfl) ?_ (Or.inl ⟨?_, ?_⟩) (by assumption) ?_
    rotate_left 2
    · (simp only [List.getElem?_toArray, List.getElem?_cons_zero]; rfl)
    · exact fun _ _ _ h => h
    · rfl
    · intro w hSw
      (try dsimp only at hSw)
      go_simp
      try with_reducible rfl
    simp only [put_arr, List.set_cons_zero, List.set_cons_succ]
    refine wpAnyH_take (i := 1) (oi := ?_) (v := ?_) ?_ (by kernel_rfl) (by kernel_rfl) (by kernel_rfl) ?_ (Or.inl ⟨?_, ?_⟩) (by assumption) ?_
    rotate_left 2
    · (simp only [List.getElem?_toArray, List.getElem?_cons_zero, List.getElem?_cons_succ]; rfl)
    · exact fun _ _ _ h => h
    · rfl
    · intro w hSw
      (try dsimp only at hSw)
      go_simp
      try with_reducible rfl
    simp only [put_arr, List.set_cons_zero, List.set_cons_succ]
    refine wpAnyH_take (i := 2) (oi := ?_) (v := ?_) ?_ (by kernel_rfl) (by kernel_rfl) (by kernel_rfl) ?_ (Or.inl ⟨?_, ?_⟩) (by assumption) ?_
    rotate_left 2
    · (simp only [List.getElem?_toArray, List.getElem?_cons_zero, List.getElem?_cons_succ]; rfl)
    · exact fun _ _ _ h => h
    · rfl
    · intro w hSw
      (try dsimp only at hSw)
      go_simp
      try with_reducible rfl
    simp only [put_arr, List.set_cons_zero, List.set_cons_succ]
    refine wpAnyH_take (i := 3) (oi := ?_) (v := ?_) ?_ (by kernel_rfl) (by kernel_rfl) (by kernel_rfl) ?_ (Or.inl ⟨?_, ?_⟩) (by assumption) ?_
    rotate_left 2
    · (simp only [List.getElem?_toArray, List.getElem?_cons_zero, List.getElem?_cons_succ]; rfl)
    · exact fun _ _ _ h => h
    · rfl
    · intro w hSw
      (try dsimp only at hSw)
      go_simp
      try with_reducible rfl
    simp only [put_arr, List.set_cons_zero, List.set_cons_succ]
    refine wpAnyH_take (i := 4) (oi := ?_) (v := ?_) ?_ (by kernel_rfl) (by kernel_rfl) (by kernel_rfl) ?_ (Or.inl ⟨?_, ?_⟩) (by assumption) ?_
    rotate_left 2
    · (simp only [List.getElem?_toArray, List.getElem?_cons_zero, List.getElem?_cons_succ]; rfl)
    · exact fun _ _ _ h => h
    · rfl
    · intro w hSw
      (try dsimp only at hSw)
      go_simp
      try with_reducible rfl
    simp only [put_arr, List.set_cons_zero, List.set_cons_succ]
    refine wpAnyH_take (i := 5) (oi := ?_) (v := ?_) ?_ (by kernel_rfl) (by kernel_rfl) (by kernel_rfl) ?_ (Or.inl ⟨?_, ?_⟩) (by assumption) ?_
    rotate_left 2
    · (simp only [List.getElem?_toArray, List.getElem?_cons_zero, List.getElem?_cons_succ]; rfl)
    · exact fun _ _ _ h => h
    · rfl
    · intro w hSw
      (try dsimp only at hSw)
      go_simp
      try with_reducible rfl
    simp only [put_arr, List.set_cons_zero, List.set_cons_succ]
    refine wpAnyH_take (i := 6) (oi := ?_) (v := ?_) ?_ (by kernel_rfl) (by kernel_rfl) (by kernel_rfl) ?_ (Or.inl ⟨?_, ?_⟩) (by assumption) ?_
    rotate_left 2
    · (simp only [List.getElem?_toArray, List.getElem?_cons_zero, List.getElem?_cons_succ]; rfl)
    · exact fun _ _ _ h => h
    · rfl
    · intro w hSw
      (try dsimp only at hSw)
      go_simp
      try with_reducible rfl
    simp only [put_arr, List.set_cons_zero, List.set_cons_succ]
    refine wpAnyH_take (i := 7) (oi := ?_) (v := ?_) ?_ (by kernel_rfl) (by kernel_rfl) (by kernel_rfl) ?_ (Or.inl ⟨?_, ?_⟩) (by assumption) ?_
    rotate_left 2
    · (simp only [List.getElem?_toArray, List.getElem?_cons_zero, List.getElem?_cons_succ]; rfl)
    · exact fun _ _ _ h => h
    · rfl
    · intro w hSw
      (try dsimp only at hSw)
      go_simp
      try with_reducible rfl
    simp only [put_arr, List.set_cons_zero, List.set_cons_succ]
    refine wpAnyH_take (i := 8) (oi := ?_) (v := ?_) ?_ (by kernel_rfl) (by kernel_rfl) (by kernel_rfl) ?_ (Or.inl ⟨?_, ?_⟩) (by assumption) ?_
    rotate_left 2
    · (simp only [List.getElem?_toArray, List.getElem?_cons_zero, List.getElem?_cons_succ]; rfl)
    · exact fun _ _ _ h => h
    · rfl
    · intro w hSw
      (try dsimp only at hSw)
      go_simp
      try with_reducible rfl
    simp only [put_arr, List.set_cons_zero, List.set_cons_succ]
    refine wpAnyH_ready (rs := [9]) (by kernel_rfl) (by simp) ?_
    refine AllReadyH.cons (o := ?_) ?_ (fun K hK => ?_) AllReadyH.nil
    rotate_left
    · (simp only [List.getElem?_toArray, List.getElem?_cons_zero, List.getElem?_cons_succ]; rfl)
    rw [if_pos (by rfl)]
    go_simp
    (with_reducible refine (l00In_any _ _ _ _).mono ?_)
    rintro e w2 ⟨rfl, rfl⟩
    go_wp2_with fail
    refine hK.out _ _ (by assumption) (fun hHeld2 => ?_)
    clear hK K hHeld
    have hHeld := hHeld2
    clear hHeld2
    refine wpAnyH_take (i := 10) (oi := ?_) (v := ?_) ?_ (by kernel_rfl) (by kernel_rfl) (by kernel_rfl) ?_ (Or.inl ⟨?_, ?_⟩) (by assumption) ?_
    rotate_left 2
    · (simp only [List.getElem?_toArray, List.getElem?_cons_zero, List.getElem?_cons_succ]; rfl)
    · exact fun _ _ _ h => h
    · rfl
    · intro w hSw
      (try dsimp only at hSw)
      go_simp
      try with_reducible rfl
    simp only [put_arr, List.set_cons_zero, List.set_cons_succ]
    refine wpAnyH_done (by kernel_rfl) ?_ _
    go_wp2_with fail
    go_ret
    exact ⟨ret_int hr.out, Bl.then HW3 (And.left hHeld)⟩
  have hok0 := Lib.hid (show okK rr q0 q1 q2 us vs 0 = true from hin)
  refine wp_region_held_drew (S := (fun wz => Below w3.heap.size w3 wz ∧ ∀ b o, b < w3.heap.size → wz.cell? ⟨b, o, none⟩ = w3.cell? ⟨b, o, none⟩)) (by kernel_rfl) (old_of (Below.drew HZ)) (fun hHeld => ?_)
  refine wpAnyH_take (i := 0) (oi := ?_) (v := ?_) ?_ (by kernel_rfl) (by kernel_rfl) (by kernel_rfl) ?_ (Or.inl ⟨?_, ?_⟩) (by assumption) ?_
  rotate_left 2
  · (simp only [List.getElem?_toArray, List.getElem?_cons_zero]; rfl)
  · exact fun _ _ _ h => h
  · rfl
  · intro w hSw
    (try dsimp only at hSw)
    go_simp
    try with_reducible rfl
  simp only [put_arr, List.set_cons_zero, List.set_cons_succ]
  refine wpAnyH_take (i := 1) (oi := ?_) (v := ?_) ?_ (by kernel_rfl) (by kernel_rfl) (by kernel_rfl) ?_ (Or.inl ⟨?_, ?_⟩) (by assumption) ?_
  rotate_left 2
  · (simp only [List.getElem?_toArray, List.getElem?_cons_zero, List.getElem?_cons_succ]; rfl)
  · exact fun _ _ _ h => h
  · rfl
  · intro w hSw
    (try dsimp only at hSw)
    go_simp
    try with_reducible rfl
  simp only [put_arr, List.set_cons_zero, List.set_cons_succ]
  refine wpAnyH_take (i := 2) (oi := ?_) (v := ?_) ?_ (by kernel_rfl) (by kernel_rfl) (by kernel_rfl) ?_ (Or.inl ⟨?_, ?_⟩) (by assumption) ?_
  rotate_left 2
  · (simp only [List.getElem?_toArray, List.getElem?_cons_zero, List.getElem?_cons_succ]; rfl)
  · exact fun _ _ _ h => h
  · rfl
  · intro w hSw
    (try dsimp only at hSw)
    go_simp
    try with_reducible rfl
  simp only [put_arr, List.set_cons_zero, List.set_cons_succ]
  refine wpAnyH_take (i := 3) (oi := ?_) (v := ?_) ?_ (by kernel_rfl) (by kernel_rfl) (by kernel_rfl) ?_ (Or.inl ⟨?_, ?_⟩) (by assumption) ?_
  rotate_left 2
  · (simp only [List.getElem?_toArray, List.getElem?_cons_zero, List.getElem?_cons_succ]; rfl)
  · exact fun _ _ _ h => h
  · rfl
  · intro w hSw
    (try dsimp only at hSw)
    go_simp
    try with_reducible rfl
  simp only [put_arr, List.set_cons_zero, List.set_cons_succ]
  refine wpAnyH_take (i := 4) (oi := ?_) (v := ?_) ?_ (by kernel_rfl) (by kernel_rfl) (by kernel_rfl) ?_ (Or.inl ⟨?_, ?_⟩) (by assumption) ?_
  rotate_left 2
  · (simp only [List.getElem?_toArray, List.getElem?_cons_zero, List.getElem?_cons_succ]; rfl)
  · exact fun _ _ _ h => h
  · rfl
  · intro w hSw
    (try dsimp only at hSw)
    go_simp
    try with_reducible rfl
  simp only [put_arr, List.set_cons_zero, List.set_cons_succ]
  refine wpAnyH_take (i := 5) (oi := ?_) (v := ?_) ?_ (by kernel_rfl) (by kernel_rfl) (by kernel_rfl) ?_ (Or.inl ⟨?_, ?_⟩) (by assumption) ?_
  rotate_left 2
  · (simp only [List.getElem?_toArray, List.getElem?_cons_zero, List.getElem?_cons_succ]; rfl)
  · exact fun _ _ _ h => h
  · rfl
  · intro w hSw
    (try dsimp only at hSw)
    go_simp
    try with_reducible rfl
  simp only [put_arr, List.set_cons_zero, List.set_cons_succ]
  refine wpAnyH_take (i := 6) (oi := ?_) (v := ?_) ?_ (by kernel_rfl) (by kernel_rfl) (by kernel_rfl) ?_ (Or.inl ⟨?_, ?_⟩) (by assumption) ?_
  rotate_left 2
  · (simp only [List.getElem?_toArray, List.getElem?_cons_zero, List.getElem?_cons_succ]; rfl)
  · exact fun _ _ _ h => h
  · rfl
  · intro w hSw
    (try dsimp only at hSw)
    go_simp
    try with_reducible rfl
  simp only [put_arr, List.set_cons_zero, List.set_cons_succ]
  refine wpAnyH_take (i := 7) (oi := ?_) (v := ?_) ?_ (by kernel_rfl) (by kernel_rfl) (by kernel_rfl) ?_ (Or.inl ⟨?_, ?_⟩) (by assumption) ?_
  rotate_left 2
  · (simp only [List.getElem?_toArray, List.getElem?_cons_zero, List.getElem?_cons_succ]; rfl)
  · exact fun _ _ _ h => h
  · rfl
  · intro w hSw
    (try dsimp only at hSw)
    go_simp
    try with_reducible rfl
  simp only [put_arr, List.set_cons_zero, List.set_cons_succ]
  refine wpAnyH_take (i := 8) (oi := ?_) (v := ?_) ?_ (by kernel_rfl) (by kernel_rfl) (by kernel_rfl) ?_ (Or.inl ⟨?_, ?_⟩) (by assumption) ?_
  rotate_left 2
  · (simp only [List.getElem?_toArray, List.getElem?_cons_zero, List.getElem?_cons_succ]; rfl)
  · exact fun _ _ _ h => h
  · rfl
  · intro w hSw
    (try dsimp only at hSw)
    go_simp
    try with_reducible rfl
  simp only [put_arr, List.set_cons_zero, List.set_cons_succ]
  refine wpAnyH_ready (rs := [9]) (by kernel_rfl) (by simp) ?_
  refine AllReadyH.cons (o := ?_) ?_ (fun K hK => ?_) AllReadyH.nil
  rotate_left
  · (simp only [List.getElem?_toArray, List.getElem?_cons_zero, List.getElem?_cons_succ]; rfl)
  rw [if_pos (by rfl)]
  go_simp
  (with_reducible refine (l00In_any _ _ _ _).mono ?_)
  rintro e w2 ⟨rfl, rfl⟩
  go_wp2_with fail
  refine hK.out _ _ (by assumption) (fun hHeld2 => ?_)
  clear hK K hHeld
  have hHeld := hHeld2
  clear hHeld2
  refine wpAnyH_take (i := 10) (oi := ?_) (v := ?_) ?_ (by kernel_rfl) (by kernel_rfl) (by kernel_rfl) ?_ (Or.inl ⟨?_, ?_⟩) (by assumption) ?_
  rotate_left 2
  · (simp only [List.getElem?_toArray, List.getElem?_cons_zero, List.getElem?_cons_succ]; rfl)
  · exact fun _ _ _ h => h
  · rfl
  · intro w hSw
    (try dsimp only at hSw)
    go_simp
    try with_reducible rfl
  simp only [put_arr, List.set_cons_zero, List.set_cons_succ]
  refine wpAnyH_done (by kernel_rfl) ?_ _
  have HZ := And.left hHeld
  go_wp2_with fail
  refine wp_region_held_drew (S := (fun wz => Below w3.heap.size w3 wz ∧ ∀ b o, b < w3.heap.size → wz.cell? ⟨b, o, none⟩ = w3.cell? ⟨b, o, none⟩)) (by kernel_rfl) (old_of (Below.drew HZ)) (fun hHeld => ?_)
  refine wpAnyH_take (i := 0) (oi := ?_) (v := ?_) ?_ (by kernel_rfl) (by kernel_rfl) (by kernel_rfl) ?_ (Or.inl ⟨?_, ?_⟩) (by assumption) ?_
  rotate_left 2
  · (simp only [List.getElem?_toArray, List.getElem?_cons_zero]; rfl)
  · exact fun _ _ _ h => h
  · rfl
  · intro w hSw
    (try dsimp only at hSw)
    go_simp
    try with_reducible rfl
  simp only [put_arr, List.set_cons_zero, List.set_cons_succ]
  refine wpAnyH_take (i := 1) (oi := ?_) (v := ?_) ?_ (by kernel_rfl) (by kernel_rfl) (by kernel_rfl) ?_ (Or.inl ⟨?_, ?_⟩) (by assumption) ?_
  rotate_left 2
  · (simp only [List.getElem?_toArray, List.getElem?_cons_zero, List.getElem?_cons_succ]; rfl)
  · exact fun _ _ _ h => h
  · rfl
  · intro w hSw
    (try dsimp only at hSw)
    go_simp
    try with_reducible rfl
  simp only [put_arr, List.set_cons_zero, List.set_cons_succ]
  refine wpAnyH_take (i := 2) (oi := ?_) (v := ?_) ?_ (by kernel_rfl) (by kernel_rfl) (by kernel_rfl) ?_ (Or.inl ⟨?_, ?_⟩) (by assumption) ?_
  rotate_left 2
  · (simp only [List.getElem?_toArray, List.getElem?_cons_zero, List.getElem?_cons_succ]; rfl)
  · exact fun _ _ _ h => h
  · rfl
  · intro w hSw
    (try dsimp only at hSw)
    go_simp
    try with_reducible rfl
  simp only [put_arr, List.set_cons_zero, List.set_cons_succ]
  refine wpAnyH_take (i := 3) (oi := ?_) (v := ?_) ?_ (by kernel_rfl) (by kernel_rfl) (by kernel_rfl) ?_ (Or.inl ⟨?_, ?_⟩) (by assumption) ?_
  rotate_left 2
  · (simp only [List.getElem?_toArray, List.getElem?_cons_zero, List.getElem?_cons_succ]; rfl)
  · exact fun _ _ _ h => h
  · rfl
  · intro w hSw
    (try dsimp only at hSw)
    go_simp
    try with_reducible rfl
  simp only [put_arr, List.set_cons_zero, List.set_cons_succ]
  refine wpAnyH_take (i := 4) (oi := ?_) (v := ?_) ?_ (by kernel_rfl) (by kernel_rfl) (by kernel_rfl) ?_ (Or.inl ⟨?_, ?_⟩) (by assumption) ?_
  rotate_left 2
  · (simp only [List.getElem?_toArray, List.getElem?_cons_zero, List.getElem?_cons_succ]; rfl)
  · exact fun _ _ _ h => h
  · rfl
  · intro w hSw
    (try dsimp only at hSw)
    go_simp
    try with_reducible rfl
  simp only [put_arr, List.set_cons_zero, List.set_cons_succ]
  refine wpAnyH_take (i := 5) (oi := ?_) (v := ?_) ?_ (by kernel_rfl) (by kernel_rfl) (by kernel_rfl) ?_ (Or.inl ⟨?_, ?_⟩) (by assumption) ?_
  rotate_left 2
  · (simp only [List.getElem?_toArray, List.getElem?_cons_zero, List.getElem?_cons_succ]; rfl)
  · exact fun _ _ _ h => h
  · rfl
  · intro w hSw
    (try dsimp only at hSw)
    go_simp
    try with_reducible rfl
  simp only [put_arr, List.set_cons_zero, List.set_cons_succ]
  refine wpAnyH_take (i := 6) (oi := ?_) (v := ?_) ?_ (by kernel_rfl) (by kernel_rfl) (by kernel_rfl) ?_ (Or.inl ⟨?_, ?_⟩) (by assumption) ?_
  rotate_left 2
  · (simp only [List.getElem?_toArray, List.getElem?_cons_zero, List.getElem?_cons_succ]; rfl)
  · exact fun _ _ _ h => h
  · rfl
  · intro w hSw
    (try dsimp only at hSw)
    go_simp
    try with_reducible rfl
  simp only [put_arr, List.set_cons_zero, List.set_cons_succ]
  refine wpAnyH_take (i := 7) (oi := ?_) (v := ?_) ?_ (by kernel_rfl) (by kernel_rfl) (by kernel_rfl) ?_ (Or.inl ⟨?_, ?_⟩) (by assumption) ?_
  rotate_left 2
  · (simp only [List.getElem?_toArray, List.getElem?_cons_zero, List.getElem?_cons_succ]; rfl)
  · exact fun _ _ _ h => h
  · rfl
  · intro w hSw
    (try dsimp only at hSw)
    go_simp
    try with_reducible rfl
  simp only [put_arr, List.set_cons_zero, List.set_cons_succ]
  refine wpAnyH_take (i := 8) (oi := ?_) (v := ?_) ?_ (by kernel_rfl) (by kernel_rfl) (by kernel_rfl) ?_ (Or.inl ⟨?_, ?_⟩) (by assumption) ?_
  rotate_left 2
  · (simp only [List.getElem?_toArray, List.getElem?_cons_zero, List.getElem?_cons_succ]; rfl)
  · exact fun _ _ _ h => h
  · rfl
  · intro w hSw
    (try dsimp only at hSw)
    go_simp
    try with_reducible rfl
  simp only [put_arr, List.set_cons_zero, List.set_cons_succ]
  refine wpAnyH_take (i := 9) (oi := ?_) (v := ?_) ?_ (by kernel_rfl) (by kernel_rfl) (by kernel_rfl) ?_ (Or.inl ⟨?_, ?_⟩) (by assumption) ?_
  rotate_left 2
  · (simp only [List.getElem?_toArray, List.getElem?_cons_zero, List.getElem?_cons_succ]; rfl)
  · exact fun _ _ _ h => h
  · rfl
  · intro w hSw
    (try dsimp only at hSw)
    go_simp
    try with_reducible rfl
  simp only [put_arr, List.set_cons_zero, List.set_cons_succ]
  refine wpAnyH_take (i := 10) (oi := ?_) (v := ?_) ?_ (by kernel_rfl) (by kernel_rfl) (by kernel_rfl) ?_ (Or.inl ⟨?_, ?_⟩) (by assumption) ?_
  rotate_left 2
  · (simp only [List.getElem?_toArray, List.getElem?_cons_zero, List.getElem?_cons_succ]; rfl)
  · exact fun _ _ _ h => h
  · rfl
  · intro w hSw
    (try dsimp only at hSw)
    go_simp
    try with_reducible rfl
  simp only [put_arr, List.set_cons_zero, List.set_cons_succ]
  refine wpAnyH_take (i := 11) (oi := ?_) (v := ?_) ?_ (by kernel_rfl) (by kernel_rfl) (by kernel_rfl) ?_ (Or.inl ⟨?_, ?_⟩) (by assumption) ?_
  rotate_left 2
  · (simp only [List.getElem?_toArray, List.getElem?_cons_zero, List.getElem?_cons_succ]; rfl)
  · exact fun _ _ _ h => h
  · rfl
  · intro w hSw
    (try dsimp only at hSw)
    go_simp
    try with_reducible rfl
  simp only [put_arr, List.set_cons_zero, List.set_cons_succ]
  refine wpAnyH_take (i := 12) (oi := ?_) (v := ?_) ?_ (by kernel_rfl) (by kernel_rfl) (by kernel_rfl) ?_ (Or.inl ⟨?_, ?_⟩) (by assumption) ?_
  rotate_left 2
  · (simp only [List.getElem?_toArray, List.getElem?_cons_zero, List.getElem?_cons_succ]; rfl)
  · exact fun _ _ _ h => h
  · rfl
  · intro w hSw
    (try dsimp only at hSw)
    go_simp
    try with_reducible rfl
  simp only [put_arr, List.set_cons_zero, List.set_cons_succ]
  refine wpAnyH_take (i := 13) (oi := ?_) (v := ?_) ?_ (by kernel_rfl) (by kernel_rfl) (by kernel_rfl) ?_ (Or.inl ⟨?_, ?_⟩) (by assumption) ?_
  rotate_left 2
  · (simp only [List.getElem?_toArray, List.getElem?_cons_zero, List.getElem?_cons_succ]; rfl)
  · exact fun _ _ _ h => h
  · rfl
  · intro w hSw
    (try dsimp only at hSw)
    go_simp
    try with_reducible rfl
  simp only [put_arr, List.set_cons_zero, List.set_cons_succ]
  refine wpAnyH_done (by kernel_rfl) ?_ _
  have HZ := And.left hHeld
  clear hHeld
  go_wp2_with fail
  go_loopw [10, 11] (fun v i wr => ∃ k : Nat, k ≤ 3 ∧ i = .int .i64 ((k : Int) + 1) ∧ v = .int .i64 (costK rr q0 us vs zf k) ∧ Hid (okK rr q0 q1 q2 us vs k = true) ∧ Below w3.heap.size w3 wr) (fun _ i _ => (4 - intOf i).toNat)
  case atStart => exact ⟨0, by omega, rfl, rfl, hok0, HZ⟩
  case round =>
    clear HZ hok0 kG0 kG1 kG2 kG3 e2' e3' ez' hin
    obtain ⟨k, hk, rfl, rfl, hok, HB⟩ := hrel
    by_cases hlt : k < 3
    · obtain ⟨b5, off5, e50, hb5, e5⟩ := (r2.below HB).int (k := k + 1) (by omega)
      obtain ⟨b6, off6, e60, hb6, e6⟩ := (r3.below HB).int (k := k + 1) (by omega)
      obtain ⟨b7, off7, e70, hb7, e7⟩ := (RW.below HB).int (k := k + 1) (by rw [hnf.out]; omega)
      simp only [Option.some.injEq, Addr.mk.injEq, and_true] at e50 e60 e70
      obtain ⟨rfl, rfl⟩ := e50
      obtain ⟨rfl, rfl⟩ := e60
      obtain ⟨rfl, rfl⟩ := e70
      have BG6 := BG.below HB
      have kG2 : wr.cell? ⟨g, 2, none⟩ = some (.int .i64 q2) := BG6.cell 2
      have kG3 : wr.cell? ⟨g, 3, none⟩ = some (.slice (some ⟨bz, oz, none⟩) nf cf) := BG6.cell 3
      have lG6 := BG6.lt
      obtain ⟨x1, x2⟩ := hp1.out (k + 1) (by omega)
      obtain ⟨x3, x4⟩ := hp2.out (k + 1) (by omega)
      obtain ⟨x5, x6⟩ := hwz.out (k + 1) (by omega)
      obtain ⟨y1, y2, y3⟩ := hK.out k (by omega)
      obtain ⟨s1, s2⟩ : 0 ≤ szI (ix us (k + 1) - ix vs (k + 1)) ∧ szI (ix us (k + 1) - ix vs (k + 1)) ≤ 4500 := by unfold szI; split <;> omega
      obtain ⟨z1, z2⟩ := wmul_bd x5 x6 (show -5000 ≤ szI (ix us (k + 1) - ix vs (k + 1)) by omega) (by omega)
      have g0 : IntKind.i64.wrap (ix us (k + 1) - ix vs (k + 1)) = ix us (k + 1) - ix vs (k + 1) := IntWalk.i64_in _ (by omega)
      have g1 : (0 : Int) ≤ (k : Int) + 1 := by omega
      have g2 : ((k : Int) + 1).toNat = k + 1 := by omega
      have g3 : (k : Int) + 1 < 4 := by omega
      have g4 : k + 1 < nf := by rw [hnf.out]; omega
      have hm : Mid (ix us (k + 1) - ix vs (k + 1)) := by unfold Mid; omega
      have HZ := Below.refl wr.heap.size wr
      cases hle : decide (szI (ix us (k + 1) - ix vs (k + 1)) ≤ q2)
      · have hgt : q2 < szI (ix us (k + 1) - ix vs (k + 1)) := by simpa using hle
        have hr := Lib.hid (hno.out (k + 1) (by omega) (by simp only [okK, hle, Bool.and_false]))
        clear hle
        go_wp2_with fail
        refine wp_region_held_drew (S := (fun wz => Below wr.heap.size wr wz ∧ ∀ b o, b < wr.heap.size → wz.cell? ⟨b, o, none⟩ = wr.cell? ⟨b, o, none⟩)) (by kernel_rfl) (old_of (Below.drew HZ)) (fun hHeld => ?_)
        refine wpAnyH_take (i := 0) (oi := ?_) (v := ?_) ?_ (by kernel_rfl) (by kernel_rfl) (by kernel_rfl) ?_ (Or.inl ⟨?_, ?_⟩) (by assumption) ?_
        rotate_left 2
        · (simp only [List.getElem?_toArray, List.getElem?_cons_zero]; rfl)
        · exact fun _ _ _ h => h
        · rfl
        · intro w hSw
          (try dsimp only at hSw)
          go_simp
          try with_reducible rfl
        simp only [put_arr, List.set_cons_zero, List.set_cons_succ]
        refine wpAnyH_take (i := 1) (oi := ?_) (v := ?_) ?_ (by kernel_rfl) (by kernel_rfl) (by kernel_rfl) ?_ (Or.inl ⟨?_, ?_⟩) (by assumption) ?_
        rotate_left 2
        · (simp only [List.getElem?_toArray, List.getElem?_cons_zero, List.getElem?_cons_succ]; rfl)
        · exact fun _ _ _ h => h
        · rfl
        · intro w hSw
          (try dsimp only at hSw)
          go_simp
          try with_reducible rfl
        simp only [put_arr, List.set_cons_zero, List.set_cons_succ]
        refine wpAnyH_take (i := 2) (oi := ?_) (v := ?_) ?_ (by kernel_rfl) (by kernel_rfl) (by kernel_rfl) ?_ (Or.inl ⟨?_, ?_⟩) (by assumption) ?_
        rotate_left 2
        · (simp only [List.getElem?_toArray, List.getElem?_cons_zero, List.getElem?_cons_succ]; rfl)
        · exact fun _ _ _ h => h
        · rfl
        · intro w hSw
          (try dsimp only at hSw)
          go_simp
          try with_reducible rfl
        simp only [put_arr, List.set_cons_zero, List.set_cons_succ]
        refine wpAnyH_take (i := 3) (oi := ?_) (v := ?_) ?_ (by kernel_rfl) (by kernel_rfl) (by kernel_rfl) ?_ (Or.inl ⟨?_, ?_⟩) (by assumption) ?_
        rotate_left 2
        · (simp only [List.getElem?_toArray, List.getElem?_cons_zero, List.getElem?_cons_succ]; rfl)
        · exact fun _ _ _ h => h
        · rfl
        · intro w hSw
          (try dsimp only at hSw)
          go_simp
          try with_reducible rfl
        simp only [put_arr, List.set_cons_zero, List.set_cons_succ]
        refine wpAnyH_take (i := 4) (oi := ?_) (v := ?_) ?_ (by kernel_rfl) (by kernel_rfl) (by kernel_rfl) ?_ (Or.inl ⟨?_, ?_⟩) (by assumption) ?_
        rotate_left 2
        · (simp only [List.getElem?_toArray, List.getElem?_cons_zero, List.getElem?_cons_succ]; rfl)
        · exact fun _ _ _ h => h
        · rfl
        · intro w hSw
          (try dsimp only at hSw)
          go_simp
          try with_reducible rfl
        simp only [put_arr, List.set_cons_zero, List.set_cons_succ]
        refine wpAnyH_take (i := 5) (oi := ?_) (v := ?_) ?_ (by kernel_rfl) (by kernel_rfl) (by kernel_rfl) ?_ (Or.inl ⟨?_, ?_⟩) (by assumption) ?_
        rotate_left 2
        · (simp only [List.getElem?_toArray, List.getElem?_cons_zero, List.getElem?_cons_succ]; rfl)
        · exact fun _ _ _ h => h
        · rfl
        · intro w hSw
          (try dsimp only at hSw)
          go_simp
          try with_reducible rfl
        simp only [put_arr, List.set_cons_zero, List.set_cons_succ]
        refine wpAnyH_take (i := 6) (oi := ?_) (v := ?_) ?_ (by kernel_rfl) (by kernel_rfl) (by kernel_rfl) ?_ (Or.inl ⟨?_, ?_⟩) (by assumption) ?_
        rotate_left 2
        · (simp only [List.getElem?_toArray, List.getElem?_cons_zero, List.getElem?_cons_succ]; rfl)
        · exact fun _ _ _ h => h
        · rfl
        · intro w hSw
          (try dsimp only at hSw)
          go_simp
          try with_reducible rfl
        simp only [put_arr, List.set_cons_zero, List.set_cons_succ]
        refine wpAnyH_take (i := 7) (oi := ?_) (v := ?_) ?_ (by kernel_rfl) (by kernel_rfl) (by kernel_rfl) ?_ (Or.inl ⟨?_, ?_⟩) (by assumption) ?_
        rotate_left 2
        · (simp only [List.getElem?_toArray, List.getElem?_cons_zero, List.getElem?_cons_succ]; rfl)
        · exact fun _ _ _ h => h
        · rfl
        · intro w hSw
          (try dsimp only at hSw)
          go_simp
          try with_reducible rfl
        simp only [put_arr, List.set_cons_zero, List.set_cons_succ]
        refine wpAnyH_take (i := 8) (oi := ?_) (v := ?_) ?_ (by kernel_rfl) (by kernel_rfl) (by kernel_rfl) ?_ (Or.inl ⟨?_, ?_⟩) (by assumption) ?_
        rotate_left 2
        · (simp only [List.getElem?_toArray, List.getElem?_cons_zero, List.getElem?_cons_succ]; rfl)
        · exact fun _ _ _ h => h
        · rfl
        · intro w hSw
          (try dsimp only at hSw)
          go_simp
          try with_reducible rfl
        simp only [put_arr, List.set_cons_zero, List.set_cons_succ]
        refine wpAnyH_ready (rs := [9]) (by kernel_rfl) (by simp) ?_
        refine AllReadyH.cons (o := ?_) ?_ (fun K hK => ?_) AllReadyH.nil
        rotate_left
        · (simp only [List.getElem?_toArray, List.getElem?_cons_zero, List.getElem?_cons_succ]; rfl)
        rw [if_pos (by rfl)]
        go_simp
        (with_reducible refine (l02Size_any _ _ hm).mono ?_)
        rintro e w2 ⟨rfl, rfl⟩
        go_wp2_with fail
        refine hK.out _ _ (by assumption) (fun hHeld2 => ?_)
        clear hK K hHeld
        have hHeld := hHeld2
        clear hHeld2
        refine wpAnyH_take (i := 10) (oi := ?_) (v := ?_) ?_ (by kernel_rfl) (by kernel_rfl) (by kernel_rfl) ?_ (Or.inl ⟨?_, ?_⟩) (by assumption) ?_
        rotate_left 2
        · (simp only [List.getElem?_toArray, List.getElem?_cons_zero, List.getElem?_cons_succ]; rfl)
        · exact fun _ _ _ h => h
        · rfl
        · intro w hSw
          (try dsimp only at hSw)
          go_simp
          try with_reducible rfl
        simp only [put_arr, List.set_cons_zero, List.set_cons_succ]
        refine wpAnyH_done (by kernel_rfl) ?_ _
        go_wp2_with fail
        go_ret
        exact ⟨ret_int hr.out, Bl.then HW3 (Bl.then HB (And.left hHeld))⟩
      · have hle' : szI (ix us (k + 1) - ix vs (k + 1)) ≤ q2 := by simpa using hle
        have hok2 := Lib.hid (show okK rr q0 q1 q2 us vs (k + 1) = true by simp only [okK, hle, hok.out, Bool.and_true])
        clear hle
        go_wp2_with fail
        refine wp_region_held_drew (S := (fun wz => Below wr.heap.size wr wz ∧ ∀ b o, b < wr.heap.size → wz.cell? ⟨b, o, none⟩ = wr.cell? ⟨b, o, none⟩)) (by kernel_rfl) (old_of (Below.drew HZ)) (fun hHeld => ?_)
        refine wpAnyH_take (i := 0) (oi := ?_) (v := ?_) ?_ (by kernel_rfl) (by kernel_rfl) (by kernel_rfl) ?_ (Or.inl ⟨?_, ?_⟩) (by assumption) ?_
        rotate_left 2
        · (simp only [List.getElem?_toArray, List.getElem?_cons_zero]; rfl)
        · exact fun _ _ _ h => h
        · rfl
        · intro w hSw
          (try dsimp only at hSw)
          go_simp
          try with_reducible rfl
        simp only [put_arr, List.set_cons_zero, List.set_cons_succ]
        refine wpAnyH_take (i := 1) (oi := ?_) (v := ?_) ?_ (by kernel_rfl) (by kernel_rfl) (by kernel_rfl) ?_ (Or.inl ⟨?_, ?_⟩) (by assumption) ?_
        rotate_left 2
        · (simp only [List.getElem?_toArray, List.getElem?_cons_zero, List.getElem?_cons_succ]; rfl)
        · exact fun _ _ _ h => h
        · rfl
        · intro w hSw
          (try dsimp only at hSw)
          go_simp
          try with_reducible rfl
        simp only [put_arr, List.set_cons_zero, List.set_cons_succ]
        refine wpAnyH_take (i := 2) (oi := ?_) (v := ?_) ?_ (by kernel_rfl) (by kernel_rfl) (by kernel_rfl) ?_ (Or.inl ⟨?_, ?_⟩) (by assumption) ?_
        rotate_left 2
        · (simp only [List.getElem?_toArray, List.getElem?_cons_zero, List.getElem?_cons_succ]; rfl)
        · exact fun _ _ _ h => h
        · rfl
        · intro w hSw
          (try dsimp only at hSw)
          go_simp
          try with_reducible rfl
        simp only [put_arr, List.set_cons_zero, List.set_cons_succ]
        refine wpAnyH_take (i := 3) (oi := ?_) (v := ?_) ?_ (by kernel_rfl) (by kernel_rfl) (by kernel_rfl) ?_ (Or.inl ⟨?_, ?_⟩) (by assumption) ?_
        rotate_left 2
        · (simp only [List.getElem?_toArray, List.getElem?_cons_zero, List.getElem?_cons_succ]; rfl)
        · exact fun _ _ _ h => h
        · rfl
        · intro w hSw
          (try dsimp only at hSw)
          go_simp
          try with_reducible rfl
        simp only [put_arr, List.set_cons_zero, List.set_cons_succ]
        refine wpAnyH_take (i := 4) (oi := ?_) (v := ?_) ?_ (by kernel_rfl) (by kernel_rfl) (by kernel_rfl) ?_ (Or.inl ⟨?_, ?_⟩) (by assumption) ?_
        rotate_left 2
        · (simp only [List.getElem?_toArray, List.getElem?_cons_zero, List.getElem?_cons_succ]; rfl)
        · exact fun _ _ _ h => h
        · rfl
        · intro w hSw
          (try dsimp only at hSw)
          go_simp
          try with_reducible rfl
        simp only [put_arr, List.set_cons_zero, List.set_cons_succ]
        refine wpAnyH_take (i := 5) (oi := ?_) (v := ?_) ?_ (by kernel_rfl) (by kernel_rfl) (by kernel_rfl) ?_ (Or.inl ⟨?_, ?_⟩) (by assumption) ?_
        rotate_left 2
        · (simp only [List.getElem?_toArray, List.getElem?_cons_zero, List.getElem?_cons_succ]; rfl)
        · exact fun _ _ _ h => h
        · rfl
        · intro w hSw
          (try dsimp only at hSw)
          go_simp
          try with_reducible rfl
        simp only [put_arr, List.set_cons_zero, List.set_cons_succ]
        refine wpAnyH_take (i := 6) (oi := ?_) (v := ?_) ?_ (by kernel_rfl) (by kernel_rfl) (by kernel_rfl) ?_ (Or.inl ⟨?_, ?_⟩) (by assumption) ?_
        rotate_left 2
        · (simp only [List.getElem?_toArray, List.getElem?_cons_zero, List.getElem?_cons_succ]; rfl)
        · exact fun _ _ _ h => h
        · rfl
        · intro w hSw
          (try dsimp only at hSw)
          go_simp
          try with_reducible rfl
        simp only [put_arr, List.set_cons_zero, List.set_cons_succ]
        refine wpAnyH_take (i := 7) (oi := ?_) (v := ?_) ?_ (by kernel_rfl) (by kernel_rfl) (by kernel_rfl) ?_ (Or.inl ⟨?_, ?_⟩) (by assumption) ?_
        rotate_left 2
        · (simp only [List.getElem?_toArray, List.getElem?_cons_zero, List.getElem?_cons_succ]; rfl)
        · exact fun _ _ _ h => h
        · rfl
        · intro w hSw
          (try dsimp only at hSw)
          go_simp
          try with_reducible rfl
        simp only [put_arr, List.set_cons_zero, List.set_cons_succ]
        refine wpAnyH_take (i := 8) (oi := ?_) (v := ?_) ?_ (by kernel_rfl) (by kernel_rfl) (by kernel_rfl) ?_ (Or.inl ⟨?_, ?_⟩) (by assumption) ?_
        rotate_left 2
        · (simp only [List.getElem?_toArray, List.getElem?_cons_zero, List.getElem?_cons_succ]; rfl)
        · exact fun _ _ _ h => h
        · rfl
        · intro w hSw
          (try dsimp only at hSw)
          go_simp
          try with_reducible rfl
        simp only [put_arr, List.set_cons_zero, List.set_cons_succ]
        refine wpAnyH_ready (rs := [9]) (by kernel_rfl) (by simp) ?_
        refine AllReadyH.cons (o := ?_) ?_ (fun K hK => ?_) AllReadyH.nil
        rotate_left
        · (simp only [List.getElem?_toArray, List.getElem?_cons_zero, List.getElem?_cons_succ]; rfl)
        rw [if_pos (by rfl)]
        go_simp
        (with_reducible refine (l02Size_any _ _ hm).mono ?_)
        rintro e w2 ⟨rfl, rfl⟩
        go_wp2_with fail
        refine hK.out _ _ (by assumption) (fun hHeld2 => ?_)
        clear hK K hHeld
        have hHeld := hHeld2
        clear hHeld2
        refine wpAnyH_take (i := 10) (oi := ?_) (v := ?_) ?_ (by kernel_rfl) (by kernel_rfl) (by kernel_rfl) ?_ (Or.inl ⟨?_, ?_⟩) (by assumption) ?_
        rotate_left 2
        · (simp only [List.getElem?_toArray, List.getElem?_cons_zero, List.getElem?_cons_succ]; rfl)
        · exact fun _ _ _ h => h
        · rfl
        · intro w hSw
          (try dsimp only at hSw)
          go_simp
          try with_reducible rfl
        simp only [put_arr, List.set_cons_zero, List.set_cons_succ]
        refine wpAnyH_done (by kernel_rfl) ?_ _
        go_wp2_with fail
        go_roundw
        case rel => exact ⟨k + 1, by omega, by go_num, rfl, hok2, Bl.then HB (And.left hHeld)⟩
        case measure => simp [intOf]; omega
    · obtain rfl : k = 3 := by omega
      have hr := Lib.hid (hyes.out hok.out)
      go_wp2_with fail
      go_ret
      exact ⟨ret_int hr.out, Bl.then HW3 HB⟩
end Go.Proofs.Ytlbgognkaolamaa
