/-
  The stable sort of the library on a row of numbers by a comparison that the caller hands over; the condition is what the comparison says.
-/
import Derived.Test.YtlbgognkaolamaaStabP
import Derived.Test.YtlbgognkaolamaaApp2
import Derived.Deep.RegionHeld3
import Derived.RegionTactic
import Derived.BigRegion
namespace Go.Proofs.Ytlbgognkaolamaa
open Go.RowKit
set_option maxHeartbeats 1600000

def RngN (N : Int) (zs : List Int) : Prop := ∀ k, k < zs.length → 0 ≤ ix zs k ∧ ix zs k < N
theorem RngN.perm {N : Int} {zs zs' : List Int} (h : RngN N zs) (hp : zs'.Perm zs) : RngN N zs' := fun k hk => by
  have hm : ix zs' k ∈ zs := hp.mem_iff.1 (by rw [← ix_eq hk]; exact List.getElem_mem hk)
  obtain ⟨j, hj, e⟩ := List.getElem_of_mem hm
  rw [ix_eq hj] at e
  rw [← e]
  exact h j hj
theorem RngN.rng {N : Int} {zs : List Int} (h : RngN N zs) (hN : N ≤ 64) : Rng zs := fun k hk => by have := h k hk; omega
def cmpI (x y : Int) : Int := if x < y then -1 else if y < x then 1 else 0
theorem cmpI_lt {x y : Int} : cmpI x y < 0 ↔ x < y := by unfold cmpI; split <;> (try split) <;> omega
/-- Two places exchanged, whichever is stored first. -/
theorem swap_stored {W : World} {base g n c i j : Nat} {zs : List Int} (ho : W.ownsRow base 2 1 (.slice (some ⟨g, 0, none⟩) n c) n (ints zs)) :
    ((W.setCell ⟨g, i, none⟩ (.int .i64 (ix zs j))).setCell ⟨g, j, none⟩ (.int .i64 (ix zs i))).ownsRow base 2 1 (.slice (some ⟨g, 0, none⟩) n c) n (ints (swapL zs i j)) ∧ W.grownBy ((W.setCell ⟨g, i, none⟩ (.int .i64 (ix zs j))).setCell ⟨g, j, none⟩ (.int .i64 (ix zs i))) (some g) := by
  have h1 := ho.stored i (.int .i64 (ix zs j))
  have h2 := h1.1.stored j (.int .i64 (ix zs i))
  rw [ints_setAt, ints_setAt] at h2
  exact ⟨h2.1, gtrans h1.2 h2.2⟩
theorem grown_drew {w w' : World} {row : Option Nat} (h : w.grownBy w' row) : w.grownBy w'.drew row := ⟨h.os, h.tape, h.output, h.size, h.block⟩
set_option maxRecDepth 100000 in
theorem swapRange_any (base g n c lo hi k : Nat) (zs : List Int) (fv : Value) (w : World) (ho : w.ownsRow base 2 1 (.slice (some ⟨g, 0, none⟩) n c) n (ints zs)) (h1 : lo + k ≤ hi) (h2 : hi + k ≤ n) (hn : n ≤ 64) :
    Calls Try.prog 156 #[.slice (some ⟨g, 0, none⟩) n c, .int .i64 lo, .int .i64 hi, .int .i64 k, fv] w fun e w' => e = .returned (.tuple #[]) ∧ ∃ zs', Swapped zs zs' lo hi k ∧ w'.ownsRow base 2 1 (.slice (some ⟨g, 0, none⟩) n c) n (ints zs') ∧ w.grownBy w' (some g) := by
  have hzl := Lib.hid (own_int_len ho)
  go_enter Try.func156, Try.ntmps156
  go_wp2_with fail
  go_loopw [10] (fun i wr => ∃ (m : Nat) (ys : List Int), m ≤ k ∧ i = .int .i64 m ∧ wr.ownsRow base 2 1 (.slice (some ⟨g, 0, none⟩) n c) n (ints ys) ∧ Hid (Swapped zs ys lo hi m) ∧ w.grownBy wr (some g)) (fun i _ => k - (intOf i).toNat)
  case atStart => exact ⟨0, zs, by omega, rfl, ho, Lib.hid (Swapped.zero zs lo hi), World.grownBy.refl _ _⟩
  case round =>
    clear ho
    obtain ⟨m, ys, hm, rfl, ho, hs, hg⟩ := hrel
    by_cases hlt : m < k
    · have hyl := Lib.hid (own_int_len ho)
      have q1 := ho.cellAt (lo + m) (by omega)
      have q2 := ho.cellAt (hi + m) (by omega)
      rw [ints_get (by rw [hyl.out]; omega)] at q1 q2
      have hfr := ho.frozenAt
      have f1 := hfr (lo + m)
      have f2 := hfr (hi + m)
      have hs2 := Lib.hid (hs.out.step (by omega) (by rw [hzl.out]; omega))
      have hst := swap_stored ho (i := lo + m) (j := hi + m)
      go_wp2_with fail
      go_region
      all_goals
        go_wp2_with fail
        go_roundw
        case rel => exact ⟨m + 1, _, by omega, by go_num, hst.1, hs2, gtrans hg (by first | exact hst.2 | exact grown_drew hst.2)⟩
        case measure => simp [intOf]; omega
    · obtain rfl : m = k := by omega
      go_wp2_with fail
      go_end0
      exact ⟨rfl, ys, hs.out, ho, hg⟩
theorem swapRange_at {base g n c lo hi k : Nat} {zs : List Int} {LO HI K : Int} (fv : Value) (w : World) (ho : w.ownsRow base 2 1 (.slice (some ⟨g, 0, none⟩) n c) n (ints zs)) (e1 : LO = lo) (e2 : HI = hi) (e3 : K = k) (h1 : lo + k ≤ hi) (h2 : hi + k ≤ n) (hn : n ≤ 64) :
    Calls Try.prog 156 #[.slice (some ⟨g, 0, none⟩) n c, .int .i64 LO, .int .i64 HI, .int .i64 K, fv] w fun e w' => e = .returned (.tuple #[]) ∧ ∃ zs', Swapped zs zs' lo hi k ∧ w'.ownsRow base 2 1 (.slice (some ⟨g, 0, none⟩) n c) n (ints zs') ∧ w.grownBy w' (some g) := by
  subst e1 e2 e3
  exact swapRange_any base g n c lo hi k zs fv w ho h1 h2 hn
set_option maxRecDepth 100000 in
theorem rotate_any (base g n c a m b : Nat) (zs : List Int) (fv : Value) (w : World) (ho : w.ownsRow base 2 1 (.slice (some ⟨g, 0, none⟩) n c) n (ints zs)) (h1 : a < m) (h2 : m < b) (h3 : b ≤ n) (hn : n ≤ 64) :
    Calls Try.prog 144 #[.slice (some ⟨g, 0, none⟩) n c, .int .i64 a, .int .i64 m, .int .i64 b, fv] w fun e w' => e = .returned (.tuple #[]) ∧ ∃ zs', Rotated zs zs' a m b ∧ w'.ownsRow base 2 1 (.slice (some ⟨g, 0, none⟩) n c) n (ints zs') ∧ w.grownBy w' (some g) := by
  have e1 := Lib.hid (show (m : Int) - (a : Int) = ((m - a : Nat) : Int) by omega)
  have e2 := Lib.hid (show (b : Int) - (m : Int) = ((b - m : Nat) : Int) by omega)
  have hR0 := Lib.hid (RotI.start zs (a := a) (m := m) (b := b) (by omega) (by omega))
  go_enter Try.func144, Try.ntmps144
  go_wp2_with fail
  go_loopw [10, 11] (fun s t wr => ∃ (i j : Nat) (ys : List Int), 1 ≤ i ∧ 1 ≤ j ∧ i ≤ m ∧ m + j ≤ n ∧ s = .int .i64 i ∧ t = .int .i64 j ∧ wr.ownsRow base 2 1 (.slice (some ⟨g, 0, none⟩) n c) n (ints ys) ∧ Hid (RotI zs ys a m b i j) ∧ w.grownBy wr (some g)) (fun s t _ => (intOf s).toNat + (intOf t).toNat)
  case atStart => exact ⟨m - a, b - m, zs, by omega, by omega, by omega, by omega, congrArg _ e1.out, congrArg _ e2.out, ho, hR0, World.grownBy.refl _ _⟩
  case round =>
    clear ho
    obtain ⟨i, j, ys, hi, hj, him, hmj, rfl, rfl, ho, hR, hg⟩ := hrel
    by_cases hij : i = j
    · subst hij
      have t1 : ((i : Int) != (i : Int)) = false := by simp
      go_wp2_with fail
      refine (swapRange_at (lo := m - i) (hi := m) (k := i) _ _ ho (by omega) rfl rfl (by omega) (by omega) hn).mono ?_
      rintro e w2 ⟨rfl, zs2, hs, ho2, hg2⟩
      have hf := Lib.hid (hR.out.done him hs)
      clear hs
      go_wp2_with fail
      go_end0
      exact ⟨rfl, zs2, hf.out, ho2, gtrans hg hg2⟩
    · have t1 : ((i : Int) != (j : Int)) = true := by simp; omega
      by_cases hlt : j < i
      · have t2 : (j : Int) < (i : Int) := by omega
        go_wp2_with fail
        refine (swapRange_at (lo := m - i) (hi := m) (k := j) _ _ ho (by omega) rfl rfl (by omega) (by omega) hn).mono ?_
        rintro e w2 ⟨rfl, zs2, hs, ho2, hg2⟩
        have hf := Lib.hid (hR.out.left hlt him hs)
        have e3 := Lib.hid (show (i : Int) - (j : Int) = ((i - j : Nat) : Int) by omega)
        clear hs
        go_wp2_with fail
        go_roundw
        case rel => exact ⟨i - j, j, zs2, by omega, hj, by omega, hmj, congrArg _ e3.out, rfl, ho2, hf, gtrans hg hg2⟩
        case measure => simp [intOf]; omega
      · have t2 : ¬ (j : Int) < (i : Int) := by omega
        have t3 : i < j := by omega
        go_wp2_with fail
        refine (swapRange_at (lo := m - i) (hi := m + j - i) (k := i) _ _ ho (by omega) (by omega) rfl (by omega) (by omega) hn).mono ?_
        rintro e w2 ⟨rfl, zs2, hs, ho2, hg2⟩
        have hf := Lib.hid (hR.out.right t3 him hs)
        have e3 := Lib.hid (show (j : Int) - (i : Int) = ((j - i : Nat) : Int) by omega)
        clear hs
        go_wp2_with fail
        go_roundw
        case rel => exact ⟨i, j - i, zs2, hi, by omega, him, by omega, rfl, congrArg _ e3.out, ho2, hf, gtrans hg hg2⟩
        case measure => simp [intOf]; omega
theorem rotate_at {base g n c a m b : Nat} {zs : List Int} {LA LM LB : Int} (fv : Value) (w : World) (ho : w.ownsRow base 2 1 (.slice (some ⟨g, 0, none⟩) n c) n (ints zs)) (e1 : LA = a) (e2 : LM = m) (e3 : LB = b) (h1 : a < m) (h2 : m < b) (h3 : b ≤ n) (hn : n ≤ 64) :
    Calls Try.prog 144 #[.slice (some ⟨g, 0, none⟩) n c, .int .i64 LA, .int .i64 LM, .int .i64 LB, fv] w fun e w' => e = .returned (.tuple #[]) ∧ ∃ zs', Rotated zs zs' a m b ∧ w'.ownsRow base 2 1 (.slice (some ⟨g, 0, none⟩) n c) n (ints zs') ∧ w.grownBy w' (some g) := by
  subst e1 e2 e3
  exact rotate_any base g n c a m b zs fv w ho h1 h2 h3 hn
/-- What the comparison says, in whatever world has come of w0 by new blocks from B on. -/
def CmpAt (B : Nat) (w0 : World) (pl pf pq : Nat) (cf : Int → Int) (N : Int) : Prop :=
  ∀ (x y : Int) (w : World), 0 ≤ x → x < N → 0 ≤ y → y < N → Below B w0 w → Calls Try.prog 93 #[.int .i64 x, .int .i64 y, .pointer (some ⟨pl, 0, none⟩), .pointer (some ⟨pf, 0, none⟩), .pointer (some ⟨pq, 0, none⟩)] w fun e w' => e = .returned (.int .i64 (cmpI (cf x) (cf y))) ∧ Below w.heap.size w w'
theorem CmpAt.call {B : Nat} {w0 : World} {pl pf pq : Nat} {cf : Int → Int} {N : Int} (h : CmpAt B w0 pl pf pq cf N) {x y : Int} (w : World) (hx : 0 ≤ x ∧ x < N) (hy : 0 ≤ y ∧ y < N) (hb : Below B w0 w) :
    Calls Try.prog 93 #[.int .i64 x, .int .i64 y, .pointer (some ⟨pl, 0, none⟩), .pointer (some ⟨pf, 0, none⟩), .pointer (some ⟨pq, 0, none⟩)] w fun e w' => e = .returned (.int .i64 (cmpI (cf x) (cf y))) ∧ Below w.heap.size w w' := h x y w hx.1 hx.2 hy.1 hy.2 hb
/-- What has come of w by the sort: still of w0. -/
theorem come {B base : Nat} {w0 w wr wz : World} (H0 : Below B w0 w) (hBb : B ≤ base) (HB : Below base w wr) (hbase : base ≤ w.heap.size) (hz : Below wr.heap.size wr wz) : Below B w0 wz :=
  H0.trans ((HB.trans (hz.mono (Nat.le_trans hbase HB.size))).mono hBb)
theorem come2 {base : Nat} {w wr wz : World} (HB : Below base w wr) (hbase : base ≤ w.heap.size) (hz : Below wr.heap.size wr wz) : Below base w wz := HB.trans (hz.mono (Nat.le_trans hbase HB.size))
theorem below_grow {base g : Nat} {w wr w2 : World} (HB : Below base w wr) (hbase : base ≤ w.heap.size) (hg : base ≤ g) (h : wr.grownBy w2 (some g)) : Below base w w2 := HB.grown h (Nat.le_trans hbase HB.size) (fun q hq => by cases hq; exact hg)
theorem InsA.out {cf : Int → Int} {zs ys : List Int} {a i b : Nat} (h : InsA cf zs ys a i) (hi : i ≤ b ∨ i = a + 1) (hb : ¬ i < b) (h0 : i = a + 1 → ys = zs) : SortedOn (keyOf cf) ys a b ∧ Wn zs ys a b := by
  by_cases e : i = b
  · subst e; exact ⟨h.2, h.1⟩
  · rw [h0 (by omega)]
    exact ⟨sorted_none _ _ (by omega), Wn.refl _ _ _⟩
set_option maxRecDepth 100000 in
theorem insSort_any (a b : Nat) (base g n c : Nat) (zs : List Int) (pl pf pq : Nat) (cf : Int → Int) (N : Int) (B : Nat) (w0 w : World) (ho : w.ownsRow base 2 1 (.slice (some ⟨g, 0, none⟩) n c) n (ints zs)) (hg : base ≤ g) (hbase : base ≤ w.heap.size) (hBb : B ≤ base) (H0 : Below B w0 w) (hcmp : CmpAt B w0 pl pf pq cf N) (hN : N ≤ 64) (hr : RngN N zs) (hn : n ≤ 64) (han : a ≤ n) (hbn : b ≤ n) (hi : Inc zs a b) :
    Calls Try.prog 138 #[.slice (some ⟨g, 0, none⟩) n c, .int .i64 a, .int .i64 b, .func (.func 93) #[] #[.pointer (some ⟨pl, 0, none⟩), .pointer (some ⟨pf, 0, none⟩), .pointer (some ⟨pq, 0, none⟩)]] w fun e w' => e = .returned (.tuple #[]) ∧ ∃ zs', SortedOn (keyOf cf) zs' a b ∧ Wn zs zs' a b ∧ w'.ownsRow base 2 1 (.slice (some ⟨g, 0, none⟩) n c) n (ints zs') ∧ Below base w w' := by
  have hzl := Lib.hid (own_int_len ho)
  have hi' := Lib.hid hi
  clear hi
  go_enter Try.func138, Try.ntmps138
  go_wp2_with fail
  go_loopw [8] (fun s wr => ∃ (i : Nat) (ys : List Int), s = .int .i64 i ∧ a + 1 ≤ i ∧ (i ≤ b ∨ i = a + 1) ∧ wr.ownsRow base 2 1 (.slice (some ⟨g, 0, none⟩) n c) n (ints ys) ∧ Hid (InsA cf zs ys a i) ∧ Hid (i = a + 1 → ys = zs) ∧ Below base w wr) (fun s _ => b - (intOf s).toNat)
  case atStart => exact ⟨a + 1, zs, by go_num, by omega, .inr rfl, ho, Lib.hid (InsA.zero cf zs a), Lib.hid fun _ => rfl, Below.refl _ _⟩
  case round =>
    clear ho
    obtain ⟨i, ys, rfl, hai, hib, ho, hA, hA0, HB⟩ := hrel
    obtain ⟨wo, rfl⟩ : ∃ wo : World, wo = wr := ⟨_, rfl⟩
    by_cases hlt : i < b
    · have hB0 := Lib.hid (hA.out.start hi'.out hlt)
      go_wp2_with fail
      go_loopw [9] (fun s wr => ∃ (j : Nat) (ys : List Int), s = .int .i64 j ∧ a ≤ j ∧ j ≤ i ∧ wr.ownsRow base 2 1 (.slice (some ⟨g, 0, none⟩) n c) n (ints ys) ∧ Hid (InsB cf zs ys a i j) ∧ Below base w wr) (fun s _ => (intOf s).toNat)
      case atStart => exact ⟨i, ys, rfl, by omega, by omega, ho, hB0, HB⟩
      case round =>
        clear ho hA hA0 HB hB0
        obtain ⟨j, ys, rfl, haj, hji, ho, hB, HB⟩ := hrel
        have hyl := Lib.hid (own_int_len ho)
        have HZ := Below.refl wr.heap.size wr
        by_cases hja : j = a
        · have hdone := Lib.hid (hB.out.done (hr.rng hN) haj hji (by rw [hzl.out]; omega) (.inl hja))
          have a0 : ¬ (a : Int) < (j : Int) := by omega
          go_wp2_with fail
          refine wp_region_held_drew (S := (fun wz => Below wr.heap.size wr wz ∧ ∀ b o, b < wr.heap.size → wz.cell? ⟨b, o, none⟩ = wr.cell? ⟨b, o, none⟩)) (by kernel_rfl) (old_of (Below.drew (Below.refl _ _))) (fun hHeld => ?_)
          refine wpAnyH_take (i := 0) (oi := ?_) (v := ?_) ?_ (by kernel_rfl) (by kernel_rfl) (by kernel_rfl) ?_ (Or.inl ⟨?_, ?_⟩) (by assumption) ?_
          rotate_left 2
          · (simp only [List.getElem?_toArray, List.getElem?_cons_zero]; rfl)
          · exact fun _ _ _ h => h
          · rfl
          · intro w hSw
            (try dsimp only at hSw)
            go_simp
            try with_reducible rfl
          simp only [put_arr, List.set_cons_zero, List.set_cons_succ]
          refine wpAnyH_take (i := 1) (oi := ?_) (v := ?_) ?_ (by kernel_rfl) (by kernel_rfl) (by kernel_rfl) ?_ (Or.inl ⟨?_, ?_⟩) (by assumption) ?_
          rotate_left 2
          · (simp only [List.getElem?_toArray, List.getElem?_cons_zero, List.getElem?_cons_succ]; rfl)
          · exact fun _ _ _ h => h
          · rfl
          · intro w hSw
            (try dsimp only at hSw)
            go_simp
            try with_reducible rfl
          simp only [put_arr, List.set_cons_zero, List.set_cons_succ]
          refine wpAnyH_take (i := 2) (oi := ?_) (v := ?_) ?_ (by kernel_rfl) (by kernel_rfl) (by kernel_rfl) ?_ (Or.inl ⟨?_, ?_⟩) (by assumption) ?_
          rotate_left 2
          · (simp only [List.getElem?_toArray, List.getElem?_cons_zero, List.getElem?_cons_succ]; rfl)
          · exact fun _ _ _ h => h
          · rfl
          · intro w hSw
            (try dsimp only at hSw)
            go_simp
            try with_reducible rfl
          simp only [put_arr, List.set_cons_zero, List.set_cons_succ]
          refine wpAnyH_take (i := 3) (oi := ?_) (v := ?_) ?_ (by kernel_rfl) (by kernel_rfl) (by kernel_rfl) ?_ (Or.inl ⟨?_, ?_⟩) (by assumption) ?_
          rotate_left 2
          · (simp only [List.getElem?_toArray, List.getElem?_cons_zero, List.getElem?_cons_succ]; rfl)
          · exact fun _ _ _ h => h
          · rfl
          · intro w hSw
            (try dsimp only at hSw)
            go_simp
            try with_reducible rfl
          simp only [put_arr, List.set_cons_zero, List.set_cons_succ]
          refine wpAnyH_take (i := 4) (oi := ?_) ?_ (by kernel_rfl) (by kernel_rfl) (by kernel_rfl) ?_ (Or.inr ⟨?_, rfl⟩) (by assumption) ?_
          rotate_left 1
          · (simp only [List.getElem?_toArray, List.getElem?_cons_zero, List.getElem?_cons_succ]; rfl)
          · exact fun _ _ _ h => h
          · rfl
          simp only [put_arr, List.set_cons_zero, List.set_cons_succ]
          refine wpAnyH_take (i := 5) (oi := ?_) ?_ (by kernel_rfl) (by kernel_rfl) (by kernel_rfl) ?_ (Or.inr ⟨?_, rfl⟩) (by assumption) ?_
          rotate_left 1
          · (simp only [List.getElem?_toArray, List.getElem?_cons_zero, List.getElem?_cons_succ]; rfl)
          · exact fun _ _ _ h => h
          · rfl
          simp only [put_arr, List.set_cons_zero, List.set_cons_succ]
          refine wpAnyH_take (i := 6) (oi := ?_) ?_ (by kernel_rfl) (by kernel_rfl) (by kernel_rfl) ?_ (Or.inr ⟨?_, rfl⟩) (by assumption) ?_
          rotate_left 1
          · (simp only [List.getElem?_toArray, List.getElem?_cons_zero, List.getElem?_cons_succ]; rfl)
          · exact fun _ _ _ h => h
          · rfl
          simp only [put_arr, List.set_cons_zero, List.set_cons_succ]
          refine wpAnyH_take (i := 7) (oi := ?_) ?_ (by kernel_rfl) (by kernel_rfl) (by kernel_rfl) ?_ (Or.inr ⟨?_, rfl⟩) (by assumption) ?_
          rotate_left 1
          · (simp only [List.getElem?_toArray, List.getElem?_cons_zero, List.getElem?_cons_succ]; rfl)
          · exact fun _ _ _ h => h
          · rfl
          simp only [put_arr, List.set_cons_zero, List.set_cons_succ]
          refine wpAnyH_take (i := 8) (oi := ?_) ?_ (by kernel_rfl) (by kernel_rfl) (by kernel_rfl) ?_ (Or.inr ⟨?_, rfl⟩) (by assumption) ?_
          rotate_left 1
          · (simp only [List.getElem?_toArray, List.getElem?_cons_zero, List.getElem?_cons_succ]; rfl)
          · exact fun _ _ _ h => h
          · rfl
          simp only [put_arr, List.set_cons_zero, List.set_cons_succ]
          refine wpAnyH_take (i := 9) (oi := ?_) ?_ (by kernel_rfl) (by kernel_rfl) (by kernel_rfl) ?_ (Or.inr ⟨?_, rfl⟩) (by assumption) ?_
          rotate_left 1
          · (simp only [List.getElem?_toArray, List.getElem?_cons_zero, List.getElem?_cons_succ]; rfl)
          · exact fun _ _ _ h => h
          · rfl
          simp only [put_arr, List.set_cons_zero, List.set_cons_succ]
          refine wpAnyH_take (i := 10) (oi := ?_) ?_ (by kernel_rfl) (by kernel_rfl) (by kernel_rfl) ?_ (Or.inr ⟨?_, rfl⟩) (by assumption) ?_
          rotate_left 1
          · (simp only [List.getElem?_toArray, List.getElem?_cons_zero, List.getElem?_cons_succ]; rfl)
          · exact fun _ _ _ h => h
          · rfl
          simp only [put_arr, List.set_cons_zero, List.set_cons_succ]
          refine wpAnyH_take (i := 11) (oi := ?_) ?_ (by kernel_rfl) (by kernel_rfl) (by kernel_rfl) ?_ (Or.inr ⟨?_, rfl⟩) (by assumption) ?_
          rotate_left 1
          · (simp only [List.getElem?_toArray, List.getElem?_cons_zero, List.getElem?_cons_succ]; rfl)
          · exact fun _ _ _ h => h
          · rfl
          simp only [put_arr, List.set_cons_zero, List.set_cons_succ]
          refine wpAnyH_take (i := 12) (oi := ?_) ?_ (by kernel_rfl) (by kernel_rfl) (by kernel_rfl) ?_ (Or.inr ⟨?_, rfl⟩) (by assumption) ?_
          rotate_left 1
          · (simp only [List.getElem?_toArray, List.getElem?_cons_zero, List.getElem?_cons_succ]; rfl)
          · exact fun _ _ _ h => h
          · rfl
          simp only [put_arr, List.set_cons_zero, List.set_cons_succ]
          refine wpAnyH_take (i := 13) (oi := ?_) ?_ (by kernel_rfl) (by kernel_rfl) (by kernel_rfl) ?_ (Or.inr ⟨?_, rfl⟩) (by assumption) ?_
          rotate_left 1
          · (simp only [List.getElem?_toArray, List.getElem?_cons_zero, List.getElem?_cons_succ]; rfl)
          · exact fun _ _ _ h => h
          · rfl
          simp only [put_arr, List.set_cons_zero, List.set_cons_succ]
          refine wpAnyH_take (i := 14) (oi := ?_) ?_ (by kernel_rfl) (by kernel_rfl) (by kernel_rfl) ?_ (Or.inr ⟨?_, rfl⟩) (by assumption) ?_
          rotate_left 1
          · (simp only [List.getElem?_toArray, List.getElem?_cons_zero, List.getElem?_cons_succ]; rfl)
          · exact fun _ _ _ h => h
          · rfl
          simp only [put_arr, List.set_cons_zero, List.set_cons_succ]
          refine wpAnyH_take (i := 15) (oi := ?_) ?_ (by kernel_rfl) (by kernel_rfl) (by kernel_rfl) ?_ (Or.inr ⟨?_, rfl⟩) (by assumption) ?_
          rotate_left 1
          · (simp only [List.getElem?_toArray, List.getElem?_cons_zero, List.getElem?_cons_succ]; rfl)
          · exact fun _ _ _ h => h
          · rfl
          simp only [put_arr, List.set_cons_zero, List.set_cons_succ]
          refine wpAnyH_take (i := 16) (oi := ?_) (v := ?_) ?_ (by kernel_rfl) (by kernel_rfl) (by kernel_rfl) ?_ (Or.inl ⟨?_, ?_⟩) (by assumption) ?_
          rotate_left 2
          · (simp only [List.getElem?_toArray, List.getElem?_cons_zero, List.getElem?_cons_succ]; rfl)
          · exact fun _ _ _ h => h
          · rfl
          · intro w hSw
            (try dsimp only at hSw)
            go_simp
            try with_reducible rfl
          simp only [put_arr, List.set_cons_zero, List.set_cons_succ]
          refine wpAnyH_done (by kernel_rfl) ?_ _
          go_wp2_with fail
          go_roundw
          case rel => exact ⟨i + 1, ys, by go_num, by omega, .inl (by omega), ho, hdone, Lib.hid fun e => by omega, come2 HB hbase hHeld.1⟩
          case measure => simp [intOf]; omega
        obtain ⟨j, rfl⟩ : ∃ q, j = q + 1 := ⟨j - 1, by omega⟩
        have q1 := ho.cellAt (j + 1) (by omega)
        have q0 := ho.cellAt j (by omega)
        rw [ints_get (by rw [hyl.out]; omega)] at q0 q1
        have hgl := (ho.lt g rfl).2
        have a0 : (a : Int) < (j : Int) + 1 := by omega
        have a1 : (j : Int) + 1 - 1 = j := by omega
        have a2 : (j : Int) + 1 < n := by omega
        have a3 : ((j : Int) + 1).toNat = j + 1 := by omega
        have a4 : IntKind.i64.wrap (j : Int) = j := IntWalk.i64_in _ (by omega)
        have a5 : j < n := by omega
        have a6 : (0 : Int) ≤ (j : Int) + 1 := by omega
        have hry := Lib.hid (hr.perm hB.out.1.1)
        have b1 := hry.out (j + 1) (by rw [hyl.out]; omega)
        have b0 := hry.out j (by rw [hyl.out]; omega)
        by_cases hc : cf (ix ys (j + 1)) < cf (ix ys j)
        · have hneg : cmpI (cf (ix ys (j + 1))) (cf (ix ys j)) < 0 := cmpI_lt.2 hc
          have hB2 := Lib.hid (hB.out.swap (hr.rng hN) (by omega) hji (by rw [hzl.out]; omega) hc)
          go_wp2_with fail
          refine wp_region_held_drew (S := (fun wz => Below wr.heap.size wr wz ∧ ∀ b o, b < wr.heap.size → wz.cell? ⟨b, o, none⟩ = wr.cell? ⟨b, o, none⟩)) (by kernel_rfl) (old_of (Below.drew (Below.refl _ _))) (fun hHeld => ?_)
          refine wpAnyH_take (i := 0) (oi := ?_) (v := ?_) ?_ (by kernel_rfl) (by kernel_rfl) (by kernel_rfl) ?_ (Or.inl ⟨?_, ?_⟩) (by assumption) ?_
          rotate_left 2
          · (simp only [List.getElem?_toArray, List.getElem?_cons_zero]; rfl)
          · exact fun _ _ _ h => h
          · rfl
          · intro w hSw
            (try dsimp only at hSw)
            go_simp
            try with_reducible rfl
          simp only [put_arr, List.set_cons_zero, List.set_cons_succ]
          refine wpAnyH_take (i := 1) (oi := ?_) (v := ?_) ?_ (by kernel_rfl) (by kernel_rfl) (by kernel_rfl) ?_ (Or.inl ⟨?_, ?_⟩) (by assumption) ?_
          rotate_left 2
          · (simp only [List.getElem?_toArray, List.getElem?_cons_zero, List.getElem?_cons_succ]; rfl)
          · exact fun _ _ _ h => h
          · rfl
          · intro w hSw
            (try dsimp only at hSw)
            go_simp
            try with_reducible rfl
          simp only [put_arr, List.set_cons_zero, List.set_cons_succ]
          refine wpAnyH_take (i := 2) (oi := ?_) (v := ?_) ?_ (by kernel_rfl) (by kernel_rfl) (by kernel_rfl) ?_ (Or.inl ⟨?_, ?_⟩) (by assumption) ?_
          rotate_left 2
          · (simp only [List.getElem?_toArray, List.getElem?_cons_zero, List.getElem?_cons_succ]; rfl)
          · exact fun _ _ _ h => h
          · rfl
          · intro w hSw
            (try dsimp only at hSw)
            go_simp
            try with_reducible rfl
          simp only [put_arr, List.set_cons_zero, List.set_cons_succ]
          refine wpAnyH_take (i := 3) (oi := ?_) (v := ?_) ?_ (by kernel_rfl) (by kernel_rfl) (by kernel_rfl) ?_ (Or.inl ⟨?_, ?_⟩) (by assumption) ?_
          rotate_left 2
          · (simp only [List.getElem?_toArray, List.getElem?_cons_zero, List.getElem?_cons_succ]; rfl)
          · exact fun _ _ _ h => h
          · rfl
          · intro w hSw
            (try dsimp only at hSw)
            go_simp
            try with_reducible rfl
          simp only [put_arr, List.set_cons_zero, List.set_cons_succ]
          refine wpAnyH_take (i := 4) (oi := ?_) (v := ?_) ?_ (by kernel_rfl) (by kernel_rfl) (by kernel_rfl) ?_ (Or.inl ⟨?_, ?_⟩) (by assumption) ?_
          rotate_left 2
          · (simp only [List.getElem?_toArray, List.getElem?_cons_zero, List.getElem?_cons_succ]; rfl)
          · exact fun _ _ _ h => h
          · rfl
          · intro w hSw
            (try dsimp only at hSw)
            go_simp
            try with_reducible rfl
          simp only [put_arr, List.set_cons_zero, List.set_cons_succ]
          refine wpAnyH_take (i := 5) (oi := ?_) (v := ?_) ?_ (by kernel_rfl) (by kernel_rfl) (by kernel_rfl) ?_ (Or.inl ⟨?_, ?_⟩) (by assumption) ?_
          rotate_left 2
          · (simp only [List.getElem?_toArray, List.getElem?_cons_zero, List.getElem?_cons_succ]; rfl)
          · exact fun _ _ _ h => h
          · rfl
          · intro w hSw
            (try dsimp only at hSw)
            go_simp
            try with_reducible rfl
          simp only [put_arr, List.set_cons_zero, List.set_cons_succ]
          refine wpAnyH_take (i := 6) (oi := ?_) (v := ?_) ?_ (by kernel_rfl) (by kernel_rfl) (by kernel_rfl) ?_ (Or.inl ⟨?_, ?_⟩) (by assumption) ?_
          rotate_left 2
          · (simp only [List.getElem?_toArray, List.getElem?_cons_zero, List.getElem?_cons_succ]; rfl)
          · exact fun _ _ _ h => h
          · rfl
          · intro w hSw
            (try dsimp only at hSw)
            go_simp
            try with_reducible rfl
          simp only [put_arr, List.set_cons_zero, List.set_cons_succ]
          refine wpAnyH_take (i := 7) (oi := ?_) (v := ?_) ?_ (by kernel_rfl) (by kernel_rfl) (by kernel_rfl) ?_ (Or.inl ⟨?_, ?_⟩) (by assumption) ?_
          rotate_left 2
          · (simp only [List.getElem?_toArray, List.getElem?_cons_zero, List.getElem?_cons_succ]; rfl)
          · exact fun _ _ _ h => h
          · rfl
          · intro w hSw
            (try dsimp only at hSw)
            go_simp
            try with_reducible rfl
          simp only [put_arr, List.set_cons_zero, List.set_cons_succ]
          refine wpAnyH_take (i := 8) (oi := ?_) (v := ?_) ?_ (by kernel_rfl) (by kernel_rfl) (by kernel_rfl) ?_ (Or.inl ⟨?_, ?_⟩) (by assumption) ?_
          rotate_left 2
          · (simp only [List.getElem?_toArray, List.getElem?_cons_zero, List.getElem?_cons_succ]; rfl)
          · exact fun _ _ _ h => h
          · rfl
          · intro w hSw
            (try dsimp only at hSw)
            go_simp
            try with_reducible rfl
          simp only [put_arr, List.set_cons_zero, List.set_cons_succ]
          refine wpAnyH_take (i := 9) (oi := ?_) (v := ?_) ?_ (by kernel_rfl) (by kernel_rfl) (by kernel_rfl) ?_ (Or.inl ⟨?_, ?_⟩) (by assumption) ?_
          rotate_left 2
          · (simp only [List.getElem?_toArray, List.getElem?_cons_zero, List.getElem?_cons_succ]; rfl)
          · exact fun _ _ _ h => h
          · rfl
          · intro w hSw
            (try dsimp only at hSw)
            go_simp
            try with_reducible rfl
          simp only [put_arr, List.set_cons_zero, List.set_cons_succ]
          refine wpAnyH_take (i := 10) (oi := ?_) (v := ?_) ?_ (by kernel_rfl) (by kernel_rfl) (by kernel_rfl) ?_ (Or.inl ⟨?_, ?_⟩) (by assumption) ?_
          rotate_left 2
          · (simp only [List.getElem?_toArray, List.getElem?_cons_zero, List.getElem?_cons_succ]; rfl)
          · exact fun _ _ _ h => h
          · rfl
          · intro w hSw
            (try dsimp only at hSw)
            go_simp
            try with_reducible rfl
          simp only [put_arr, List.set_cons_zero, List.set_cons_succ]
          refine wpAnyH_take (i := 11) (oi := ?_) (v := ?_) ?_ (by kernel_rfl) (by kernel_rfl) (by kernel_rfl) ?_ (Or.inl ⟨?_, ?_⟩) (by assumption) ?_
          rotate_left 2
          · (simp only [List.getElem?_toArray, List.getElem?_cons_zero, List.getElem?_cons_succ]; rfl)
          · exact fun _ _ _ h => h
          · rfl
          · intro w hSw
            (try dsimp only at hSw)
            go_simp
            try with_reducible rfl
          simp only [put_arr, List.set_cons_zero, List.set_cons_succ]
          refine wpAnyH_take (i := 12) (oi := ?_) (v := ?_) ?_ (by kernel_rfl) (by kernel_rfl) (by kernel_rfl) ?_ (Or.inl ⟨?_, ?_⟩) (by assumption) ?_
          rotate_left 2
          · (simp only [List.getElem?_toArray, List.getElem?_cons_zero, List.getElem?_cons_succ]; rfl)
          · exact fun _ _ _ h => h
          · rfl
          · intro w hSw
            (try dsimp only at hSw)
            go_simp
            try with_reducible rfl
          simp only [put_arr, List.set_cons_zero, List.set_cons_succ]
          refine wpAnyH_take (i := 13) (oi := ?_) (v := ?_) ?_ (by kernel_rfl) (by kernel_rfl) (by kernel_rfl) ?_ (Or.inl ⟨?_, ?_⟩) (by assumption) ?_
          rotate_left 2
          · (simp only [List.getElem?_toArray, List.getElem?_cons_zero, List.getElem?_cons_succ]; rfl)
          · exact fun _ _ _ h => h
          · rfl
          · intro w hSw
            (try dsimp only at hSw)
            go_simp
            try with_reducible rfl
          simp only [put_arr, List.set_cons_zero, List.set_cons_succ]
          refine wpAnyH_ready (rs := [14]) (by kernel_rfl) (by simp) ?_
          refine AllReadyH.cons (o := ?_) ?_ (fun K hK => ?_) AllReadyH.nil
          rotate_left
          · (simp only [List.getElem?_toArray, List.getElem?_cons_zero, List.getElem?_cons_succ]; rfl)
          rw [if_pos (by rfl)]
          go_simp
          (with_reducible refine (hcmp.call _ b1 b0 (come H0 hBb HB hbase hHeld.1)).mono ?_)
          rintro e v9 ⟨rfl, hb9⟩
          have HZ9 := Bl.then (w := wr) hHeld.1 hb9
          go_wp2_with fail
          refine hK.out _ _ (old_of HZ9) (fun hHeld2 => ?_)
          clear hK K hHeld
          have hHeld := hHeld2
          clear hHeld2
          refine wpAnyH_take (i := 15) (oi := ?_) (v := ?_) ?_ (by kernel_rfl) (by kernel_rfl) (by kernel_rfl) ?_ (Or.inl ⟨?_, ?_⟩) (by assumption) ?_
          rotate_left 2
          · (simp only [List.getElem?_toArray, List.getElem?_cons_zero, List.getElem?_cons_succ]; rfl)
          · exact fun _ _ _ h => h
          · rfl
          · intro w hSw
            (try dsimp only at hSw)
            go_simp
            try with_reducible rfl
          simp only [put_arr, List.set_cons_zero, List.set_cons_succ]
          refine wpAnyH_take (i := 16) (oi := ?_) (v := ?_) ?_ (by kernel_rfl) (by kernel_rfl) (by kernel_rfl) ?_ (Or.inl ⟨?_, ?_⟩) (by assumption) ?_
          rotate_left 2
          · (simp only [List.getElem?_toArray, List.getElem?_cons_zero, List.getElem?_cons_succ]; rfl)
          · exact fun _ _ _ h => h
          · rfl
          · intro w hSw
            (try dsimp only at hSw)
            go_simp
            try with_reducible rfl
          simp only [put_arr, List.set_cons_zero, List.set_cons_succ]
          refine wpAnyH_done (by kernel_rfl) ?_ _
          have HB2 := come2 HB hbase HZ9
          have ho2 := own_below ho HZ9
          have p1 := ho2.cellAt (j + 1) (by omega)
          have p0 := ho2.cellAt j (by omega)
          rw [ints_get (by rw [hyl.out]; omega)] at p0 p1
          have hfr := ho2.frozenAt
          have f1 := hfr (j + 1)
          have f2 := hfr j
          have hst := swap_stored ho2 (i := j + 1) (j := j)
          clear q0 q1 ho hHeld hb9 HZ9
          go_wp2_with fail
          go_region
          all_goals
            go_wp2_with fail
            go_roundw
            case rel => exact ⟨j, _, rfl, by omega, by omega, hst.1, hB2, below_grow HB2 hbase hg (by first | exact hst.2 | exact grown_drew hst.2)⟩
            case measure => simp [intOf]
        · have hneg : ¬ cmpI (cf (ix ys (j + 1))) (cf (ix ys j)) < 0 := fun h => hc (cmpI_lt.1 h)
          have hdone := Lib.hid (hB.out.done (hr.rng hN) haj hji (by rw [hzl.out]; omega) (.inr hc))
          go_wp2_with fail
          refine wp_region_held_drew (S := (fun wz => Below wr.heap.size wr wz ∧ ∀ b o, b < wr.heap.size → wz.cell? ⟨b, o, none⟩ = wr.cell? ⟨b, o, none⟩)) (by kernel_rfl) (old_of (Below.drew (Below.refl _ _))) (fun hHeld => ?_)
          refine wpAnyH_take (i := 0) (oi := ?_) (v := ?_) ?_ (by kernel_rfl) (by kernel_rfl) (by kernel_rfl) ?_ (Or.inl ⟨?_, ?_⟩) (by assumption) ?_
          rotate_left 2
          · (simp only [List.getElem?_toArray, List.getElem?_cons_zero]; rfl)
          · exact fun _ _ _ h => h
          · rfl
          · intro w hSw
            (try dsimp only at hSw)
            go_simp
            try with_reducible rfl
          simp only [put_arr, List.set_cons_zero, List.set_cons_succ]
          refine wpAnyH_take (i := 1) (oi := ?_) (v := ?_) ?_ (by kernel_rfl) (by kernel_rfl) (by kernel_rfl) ?_ (Or.inl ⟨?_, ?_⟩) (by assumption) ?_
          rotate_left 2
          · (simp only [List.getElem?_toArray, List.getElem?_cons_zero, List.getElem?_cons_succ]; rfl)
          · exact fun _ _ _ h => h
          · rfl
          · intro w hSw
            (try dsimp only at hSw)
            go_simp
            try with_reducible rfl
          simp only [put_arr, List.set_cons_zero, List.set_cons_succ]
          refine wpAnyH_take (i := 2) (oi := ?_) (v := ?_) ?_ (by kernel_rfl) (by kernel_rfl) (by kernel_rfl) ?_ (Or.inl ⟨?_, ?_⟩) (by assumption) ?_
          rotate_left 2
          · (simp only [List.getElem?_toArray, List.getElem?_cons_zero, List.getElem?_cons_succ]; rfl)
          · exact fun _ _ _ h => h
          · rfl
          · intro w hSw
            (try dsimp only at hSw)
            go_simp
            try with_reducible rfl
          simp only [put_arr, List.set_cons_zero, List.set_cons_succ]
          refine wpAnyH_take (i := 3) (oi := ?_) (v := ?_) ?_ (by kernel_rfl) (by kernel_rfl) (by kernel_rfl) ?_ (Or.inl ⟨?_, ?_⟩) (by assumption) ?_
          rotate_left 2
          · (simp only [List.getElem?_toArray, List.getElem?_cons_zero, List.getElem?_cons_succ]; rfl)
          · exact fun _ _ _ h => h
          · rfl
          · intro w hSw
            (try dsimp only at hSw)
            go_simp
            try with_reducible rfl
          simp only [put_arr, List.set_cons_zero, List.set_cons_succ]
          refine wpAnyH_take (i := 4) (oi := ?_) (v := ?_) ?_ (by kernel_rfl) (by kernel_rfl) (by kernel_rfl) ?_ (Or.inl ⟨?_, ?_⟩) (by assumption) ?_
          rotate_left 2
          · (simp only [List.getElem?_toArray, List.getElem?_cons_zero, List.getElem?_cons_succ]; rfl)
          · exact fun _ _ _ h => h
          · rfl
          · intro w hSw
            (try dsimp only at hSw)
            go_simp
            try with_reducible rfl
          simp only [put_arr, List.set_cons_zero, List.set_cons_succ]
          refine wpAnyH_take (i := 5) (oi := ?_) (v := ?_) ?_ (by kernel_rfl) (by kernel_rfl) (by kernel_rfl) ?_ (Or.inl ⟨?_, ?_⟩) (by assumption) ?_
          rotate_left 2
          · (simp only [List.getElem?_toArray, List.getElem?_cons_zero, List.getElem?_cons_succ]; rfl)
          · exact fun _ _ _ h => h
          · rfl
          · intro w hSw
            (try dsimp only at hSw)
            go_simp
            try with_reducible rfl
          simp only [put_arr, List.set_cons_zero, List.set_cons_succ]
          refine wpAnyH_take (i := 6) (oi := ?_) (v := ?_) ?_ (by kernel_rfl) (by kernel_rfl) (by kernel_rfl) ?_ (Or.inl ⟨?_, ?_⟩) (by assumption) ?_
          rotate_left 2
          · (simp only [List.getElem?_toArray, List.getElem?_cons_zero, List.getElem?_cons_succ]; rfl)
          · exact fun _ _ _ h => h
          · rfl
          · intro w hSw
            (try dsimp only at hSw)
            go_simp
            try with_reducible rfl
          simp only [put_arr, List.set_cons_zero, List.set_cons_succ]
          refine wpAnyH_take (i := 7) (oi := ?_) (v := ?_) ?_ (by kernel_rfl) (by kernel_rfl) (by kernel_rfl) ?_ (Or.inl ⟨?_, ?_⟩) (by assumption) ?_
          rotate_left 2
          · (simp only [List.getElem?_toArray, List.getElem?_cons_zero, List.getElem?_cons_succ]; rfl)
          · exact fun _ _ _ h => h
          · rfl
          · intro w hSw
            (try dsimp only at hSw)
            go_simp
            try with_reducible rfl
          simp only [put_arr, List.set_cons_zero, List.set_cons_succ]
          refine wpAnyH_take (i := 8) (oi := ?_) (v := ?_) ?_ (by kernel_rfl) (by kernel_rfl) (by kernel_rfl) ?_ (Or.inl ⟨?_, ?_⟩) (by assumption) ?_
          rotate_left 2
          · (simp only [List.getElem?_toArray, List.getElem?_cons_zero, List.getElem?_cons_succ]; rfl)
          · exact fun _ _ _ h => h
          · rfl
          · intro w hSw
            (try dsimp only at hSw)
            go_simp
            try with_reducible rfl
          simp only [put_arr, List.set_cons_zero, List.set_cons_succ]
          refine wpAnyH_take (i := 9) (oi := ?_) (v := ?_) ?_ (by kernel_rfl) (by kernel_rfl) (by kernel_rfl) ?_ (Or.inl ⟨?_, ?_⟩) (by assumption) ?_
          rotate_left 2
          · (simp only [List.getElem?_toArray, List.getElem?_cons_zero, List.getElem?_cons_succ]; rfl)
          · exact fun _ _ _ h => h
          · rfl
          · intro w hSw
            (try dsimp only at hSw)
            go_simp
            try with_reducible rfl
          simp only [put_arr, List.set_cons_zero, List.set_cons_succ]
          refine wpAnyH_take (i := 10) (oi := ?_) (v := ?_) ?_ (by kernel_rfl) (by kernel_rfl) (by kernel_rfl) ?_ (Or.inl ⟨?_, ?_⟩) (by assumption) ?_
          rotate_left 2
          · (simp only [List.getElem?_toArray, List.getElem?_cons_zero, List.getElem?_cons_succ]; rfl)
          · exact fun _ _ _ h => h
          · rfl
          · intro w hSw
            (try dsimp only at hSw)
            go_simp
            try with_reducible rfl
          simp only [put_arr, List.set_cons_zero, List.set_cons_succ]
          refine wpAnyH_take (i := 11) (oi := ?_) (v := ?_) ?_ (by kernel_rfl) (by kernel_rfl) (by kernel_rfl) ?_ (Or.inl ⟨?_, ?_⟩) (by assumption) ?_
          rotate_left 2
          · (simp only [List.getElem?_toArray, List.getElem?_cons_zero, List.getElem?_cons_succ]; rfl)
          · exact fun _ _ _ h => h
          · rfl
          · intro w hSw
            (try dsimp only at hSw)
            go_simp
            try with_reducible rfl
          simp only [put_arr, List.set_cons_zero, List.set_cons_succ]
          refine wpAnyH_take (i := 12) (oi := ?_) (v := ?_) ?_ (by kernel_rfl) (by kernel_rfl) (by kernel_rfl) ?_ (Or.inl ⟨?_, ?_⟩) (by assumption) ?_
          rotate_left 2
          · (simp only [List.getElem?_toArray, List.getElem?_cons_zero, List.getElem?_cons_succ]; rfl)
          · exact fun _ _ _ h => h
          · rfl
          · intro w hSw
            (try dsimp only at hSw)
            go_simp
            try with_reducible rfl
          simp only [put_arr, List.set_cons_zero, List.set_cons_succ]
          refine wpAnyH_take (i := 13) (oi := ?_) (v := ?_) ?_ (by kernel_rfl) (by kernel_rfl) (by kernel_rfl) ?_ (Or.inl ⟨?_, ?_⟩) (by assumption) ?_
          rotate_left 2
          · (simp only [List.getElem?_toArray, List.getElem?_cons_zero, List.getElem?_cons_succ]; rfl)
          · exact fun _ _ _ h => h
          · rfl
          · intro w hSw
            (try dsimp only at hSw)
            go_simp
            try with_reducible rfl
          simp only [put_arr, List.set_cons_zero, List.set_cons_succ]
          refine wpAnyH_ready (rs := [14]) (by kernel_rfl) (by simp) ?_
          refine AllReadyH.cons (o := ?_) ?_ (fun K hK => ?_) AllReadyH.nil
          rotate_left
          · (simp only [List.getElem?_toArray, List.getElem?_cons_zero, List.getElem?_cons_succ]; rfl)
          rw [if_pos (by rfl)]
          go_simp
          (with_reducible refine (hcmp.call _ b1 b0 (come H0 hBb HB hbase hHeld.1)).mono ?_)
          rintro e v9 ⟨rfl, hb9⟩
          have HZ9 := Bl.then (w := wr) hHeld.1 hb9
          go_wp2_with fail
          refine hK.out _ _ (old_of HZ9) (fun hHeld2 => ?_)
          clear hK K hHeld
          have hHeld := hHeld2
          clear hHeld2
          refine wpAnyH_take (i := 15) (oi := ?_) (v := ?_) ?_ (by kernel_rfl) (by kernel_rfl) (by kernel_rfl) ?_ (Or.inl ⟨?_, ?_⟩) (by assumption) ?_
          rotate_left 2
          · (simp only [List.getElem?_toArray, List.getElem?_cons_zero, List.getElem?_cons_succ]; rfl)
          · exact fun _ _ _ h => h
          · rfl
          · intro w hSw
            (try dsimp only at hSw)
            go_simp
            try with_reducible rfl
          simp only [put_arr, List.set_cons_zero, List.set_cons_succ]
          refine wpAnyH_take (i := 16) (oi := ?_) (v := ?_) ?_ (by kernel_rfl) (by kernel_rfl) (by kernel_rfl) ?_ (Or.inl ⟨?_, ?_⟩) (by assumption) ?_
          rotate_left 2
          · (simp only [List.getElem?_toArray, List.getElem?_cons_zero, List.getElem?_cons_succ]; rfl)
          · exact fun _ _ _ h => h
          · rfl
          · intro w hSw
            (try dsimp only at hSw)
            go_simp
            try with_reducible rfl
          simp only [put_arr, List.set_cons_zero, List.set_cons_succ]
          refine wpAnyH_done (by kernel_rfl) ?_ _
          go_wp2_with fail
          go_roundw
          case rel => exact ⟨i + 1, ys, by go_num, by omega, .inl (by omega), own_below ho HZ9, hdone, Lib.hid fun e => by omega, come2 HB hbase HZ9⟩
          case measure => simp [intOf]; omega
    · have hf := Lib.hid (hA.out.out hib hlt hA0.out)
      go_wp2_with fail
      go_end0
      exact ⟨rfl, ys, hf.out.1, hf.out.2, ho, HB⟩
end Go.Proofs.Ytlbgognkaolamaa
