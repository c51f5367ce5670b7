/-
  The reference's columns and middles; the condition of a slice argument is that it reads as the given list.
-/
import Derived.Test.YtlbgognkaolamaaEach
namespace Go.Proofs.Ytlbgognkaolamaa
open Go.RowKit
set_option maxHeartbeats 1600000

theorem perm_swap {l : List Int} {i j : Nat} (hi : i < l.length) (hj : j < l.length) : ((l.set i l[j]).set j l[i]).Perm l := by
  have h := Array.swap_perm (xs := l.toArray) (i := i) (j := j) (by simpa using hi) (by simpa using hj)
  simpa [Array.swap, Array.perm_iff_toList_perm] using h
/-- Places a < b < m are in order. -/
def Up (ys : List Int) (m : Nat) : Prop := ∀ a b, a < b → b < m → ix ys a ≤ ix ys b
theorem srt_of {zs ys : List Int} (hp : ys.Perm zs) (hu : Up ys ys.length) : srt zs = ys := by
  have h1 : List.Pairwise (fun a b : Int => decide (a ≤ b) = true) (srt zs) := List.pairwise_mergeSort (fun a b c h1 h2 => by simp at *; omega) (fun a b => by simp; omega) zs
  have h2 : List.Pairwise (fun a b : Int => decide (a ≤ b) = true) ys := by
    rw [List.pairwise_iff_getElem]
    intro i j hi hj hij
    rw [ix_eq hi, ix_eq hj]
    simpa using hu i j hij hj
  exact List.Perm.eq_of_pairwise (fun a b _ _ x y => by simp at x y; omega) h1 h2 ((List.mergeSort_perm zs _).trans hp.symm)
/-- In order but for place k, which is no greater than what lies behind it. -/
def UpBut (ys : List Int) (m k : Nat) : Prop := (∀ a b, a < b → b < m → a ≠ k → b ≠ k → ix ys a ≤ ix ys b) ∧ ∀ b, k < b → b < m → ix ys k ≤ ix ys b
theorem UpBut.start {ys : List Int} {m : Nat} (h : Up ys m) : UpBut ys (m + 1) m := ⟨fun a b hab hb _ hbk => h a b hab (by omega), fun b h1 h2 => by omega⟩
theorem UpBut.stop {ys : List Int} {m k : Nat} (h : UpBut ys m k) (hk : k = 0 ∨ ix ys (k - 1) ≤ ix ys k) : Up ys m := fun a b hab hb => by
  by_cases h1 : a = k
  · subst h1; exact h.2 b hab hb
  by_cases h2 : b = k
  · subst h2
    rcases hk with h3 | h3
    · omega
    by_cases h4 : a = b - 1
    · subst h4; exact h3
    · have := h.1 a (b - 1) (by omega) (by omega) h1 (by omega)
      omega
  exact h.1 a b hab hb h1 h2
theorem UpBut.swap {ys : List Int} {m k : Nat} (h : UpBut ys m (k + 1)) (hk : k + 1 < ys.length) (hlt : ix ys (k + 1) < ix ys k) : UpBut ((ys.set (k + 1) (ix ys k)).set k (ix ys (k + 1))) m k := by
  have e : ∀ j, ix ((ys.set (k + 1) (ix ys k)).set k (ix ys (k + 1))) j = if j = k then ix ys (k + 1) else if j = k + 1 then ix ys k else ix ys j := fun j => by
    rw [ix_set (by rw [List.length_set]; omega), ix_set hk]
  refine ⟨fun a b hab hb ha hbk => ?_, fun b h1 h2 => ?_⟩
  · rw [e, e, if_neg ha, if_neg hbk]
    by_cases h1 : a = k + 1
    · rw [if_pos h1, if_neg (by omega)]
      exact h.1 k b (by omega) hb (by omega) (by omega)
    · rw [if_neg h1]
      by_cases h2 : b = k + 1
      · rw [if_pos h2]
        exact h.1 a k (by omega) (by omega) h1 (by omega)
      · rw [if_neg h2]
        exact h.1 a b hab hb h1 h2
  · rw [e, e, if_pos rfl, if_neg (by omega)]
    by_cases h3 : b = k + 1
    · rw [if_pos h3]; omega
    · rw [if_neg h3]
      exact h.2 b (by omega) h2
theorem l00Own_any (A : Option Addr) (n c : Nat) (zs : List Int) (w : World) (h : Rd w 1 A n (ints zs)) (hn : 0 < n) (hn2 : n ≤ 1048576) :
    Calls Try.prog 91 #[.slice A n c] w (RetSl 2 1 n (ints zs) w) := by
  obtain ⟨b, off, rfl, hb, hc⟩ := h.2 hn
  obtain ⟨i0, hi, hz0, hz1, hz2⟩ := info_parts int_info
  have hl := Lib.hid h.1
  have hcc : Hid (∀ j u, (ints zs)[j]? = some u → (w.alloc (.cells #[] 2)).cell? ((⟨b, off, none⟩ : Addr).add j) = some u) := Lib.hid fun j u hu => by
    rw [Addr.add_lit]
    exact keep_alloc (hc j u hu)
  clear hc h
  go_enter Try.func91, Try.ntmps91
  go_wp2_with (at_builtin; refine wpList_append_own _ rfl _ _ 48 rfl w.heap.size 2 i0 (.int .i64 0) 1 8 Try.underlying48 hi hz0 hz1 hz2 rfl (by decide) _ 0 [] rfl (own_lit (W := w) (cs := #[]) rfl (Nat.le_refl _) (by decide) rfl rfl) ⟨b, off, none⟩ n c (ints zs) rfl hl.out hcc.out (by intro u hu; simp only [ints, List.mem_map] at hu; obtain ⟨z, _, rfl⟩ := hu; rfl) (by unfold maxLen; omega) (by omega) (by simp) ?_; intro v' w' hown' hg' _)
  have hex : ∃ A' c', v' = .slice A' n c' := by
    rcases hown'.2 with ⟨_, h0⟩ | ⟨g, cap, cur, hv, _⟩
    · omega
    · exact ⟨_, _, by simpa using hv⟩
  obtain ⟨A', c', rfl⟩ := hex
  have hB : Below w.heap.size w w' := ((Below.refl _ _).alloc (Nat.le_refl _) _).grown hg' (by simp) (fun k hk => by cases hk; exact Nat.le_refl _)
  clear hcc
  go_wp2_with fail
  go_ret
  refine ⟨A', c', rfl, ?_, hB⟩
  simpa using hown'
theorem l02Column_any (A : Option Addr) (n c : Nat) (xs : List FootD) (k : Nat) (w : World) (h : Rd w 4 A n (feet xs)) (hn : n ≤ 1048576) (hk : k < 4) :
    Calls Try.prog 99 #[.slice A n c, .int .i64 k] w (RetSl 2 1 n (ints (col xs k)) w) := by
  have hlen := Lib.hid h.feet_length
  go_enter Try.func99, Try.ntmps99
  go_wp2_with fail
  go_loopw [5, 6] (fun v i wr => ∃ (m : Nat) (A' : Option Addr) (c' : Nat), m ≤ n ∧ i = .int .i64 m ∧ v = .slice A' m c' ∧ wr.ownsRow w.heap.size 2 1 (.slice A' m c') m (ints (col (xs.take m) k)) ∧ Below w.heap.size w wr) (fun _ i _ => n - (intOf i).toNat)
  case atStart => exact ⟨0, _, _, by omega, rfl, rfl, own_lit rfl (by simp) (by decide) rfl rfl, by go_grown⟩
  case round =>
    obtain ⟨m, A', c', hm, rfl, rfl, hp, HP⟩ := hrel
    by_cases hlm : m < n
    · obtain ⟨b, off, rfl, hbl, q0, q1, q2, q3⟩ := (h.below HP).feet hlm
      go_wp2_with fail
      refine (l02Four_any _ _ _ _ _).mono ?_
      rintro e w3 ⟨A3, c3, rfl, o3, hb3⟩
      have HP3 := Bl.then HP hb3
      have hp3 := own_below hp hb3
      obtain ⟨bm, om, rfl, hbm, hcm⟩ := (Rd.of_own o3).int (k := k) hk
      have hcs := Lib.hid (col_step (k := k) (show m < xs.length by rw [hlen.out]; exact hlm))
      clear o3 q0 q1 q2 q3
      go_wp2_with (at_builtin; refine wpList_app_int _ rfl _ _ rfl _ _ _ _ _ _ rfl hp3 rfl HP3.size (by omega) ?_; intro A2 c2 w2 ho2 hg2)
      go_roundw
      case rel => exact ⟨m + 1, A2, c2, by omega, by go_num, rfl, by rw [hcs.out] at ho2; exact ho2, app_below hp3 HP3 (Nat.le_refl _) HP3.size hg2⟩
      case measure => simp [intOf]; omega
    · obtain rfl : m = n := by omega
      have hcol := Lib.hid (show col (xs.take m) k = col xs k by rw [List.take_of_length_le (by rw [hlen.out]; exact Nat.le_refl _)])
      rw [hcol.out] at hp
      go_wp2_with fail
      go_ret
      exact ⟨_, _, rfl, hp, HP⟩
theorem l02Of_any (A : Option Addr) (c : Nat) (a b d e : Int) (w : World) (h : Rd w 1 A 4 (ints [a, b, d, e])) :
    Calls Try.prog 100 #[.slice A 4 c] w fun e' w' => e' = .returned (.agg #[.int .i64 a, .int .i64 b, .int .i64 d, .int .i64 e]) ∧ Below w.heap.size w w' := by
  obtain ⟨bl, off, rfl, hb, hc⟩ := h.2 (by decide)
  have k0 : w.cell? ⟨bl, off, none⟩ = some (.int .i64 a) := hc 0 _ rfl
  have k1 : w.cell? ⟨bl, off + 1, none⟩ = some (.int .i64 b) := hc 1 _ rfl
  have k2 : w.cell? ⟨bl, off + 2, none⟩ = some (.int .i64 d) := hc 2 _ rfl
  have k3 : w.cell? ⟨bl, off + 3, none⟩ = some (.int .i64 e) := hc 3 _ rfl
  clear hc h
  go_enter Try.func100, Try.ntmps100
  go_wp2_with fail
  go_region
  all_goals
    go_wp2_with fail
    go_returns
    refine ⟨rfl, ?_⟩
    go_grown
set_option maxRecDepth 100000 in
theorem l02Middle_any (A : Option Addr) (n c : Nat) (zs : List Int) (w : World) (h : Rd w 1 A n (ints zs)) (hn : 0 < n) (hn2 : n ≤ 1048576) :
    Calls Try.prog 98 #[.slice A n c] w fun e w' => e = .returned (.int .i64 (vMid (srt zs))) ∧ Below w.heap.size w w' := by
  have hlen := Lib.hid h.len
  go_enter Try.func98, Try.ntmps98
  go_wp2_with fail
  refine (l00Own_any _ _ _ _ _ h hn hn2).mono ?_
  rintro e w1 ⟨A1, c1, rfl, o1, hb1⟩
  obtain ⟨g, rfl, hbg, hlg, -, -⟩ := own_form o1 hn
  clear h
  go_wp2_with fail
  go_loopw [4] (fun i wr => ∃ (m : Nat) (ys : List Int), 1 ≤ m ∧ m ≤ n ∧ i = .int .i64 m ∧ wr.ownsRow w.heap.size 2 1 (.slice (some ⟨g, 0, none⟩) n c1) n (ints ys) ∧ Hid (ys.Perm zs) ∧ Hid (Up ys m) ∧ Below w.heap.size w wr) (fun i _ => n - (intOf i).toNat)
  case atStart => exact ⟨1, zs, by omega, by omega, rfl, o1, Lib.hid (List.Perm.refl _), Lib.hid fun a b h1 h2 => by omega, hb1⟩
  case round =>
    clear o1 hb1
    obtain ⟨m, ys, hm1, hmn, rfl, ho, hpm, hup, HB⟩ := hrel
    have hyl := Lib.hid (own_int_len ho)
    obtain ⟨wo, rfl⟩ : ∃ wo : World, wo = wr := ⟨_, rfl⟩
    by_cases hlt : m < n
    · have hk4 : decide ((m : Int) < n) = true := by simp; omega
      go_wp2_with fail
      go_loopw [5] (fun i wr => ∃ (k : Nat) (vs : List Int), k ≤ m ∧ i = .int .i64 k ∧ wr.ownsRow w.heap.size 2 1 (.slice (some ⟨g, 0, none⟩) n c1) n (ints vs) ∧ Hid (vs.Perm zs) ∧ Hid (UpBut vs (m + 1) k) ∧ Below w.heap.size w wr) (fun i _ => (intOf i).toNat)
      case atStart => exact ⟨m, ys, by omega, rfl, ho, hpm, Lib.hid (UpBut.start hup.out), HB⟩
      case round =>
        clear ho hpm hup HB hyl
        obtain ⟨k, vs, hkm, rfl, ho, hpm, hub, HB⟩ := hrel
        have hvl := Lib.hid (own_int_len ho)
        rcases Nat.eq_zero_or_pos k with rfl | hpos
        · have hdone := Lib.hid (hub.out.stop (.inl rfl))
          go_wp2_with fail
          go_quiet (fail)
          go_wp2_with fail
          go_roundw
          case rel => exact ⟨m + 1, vs, by omega, by omega, by go_num, ho, hpm, hdone, below_drewN HB _⟩
          case measure => simp [intOf]; omega
        obtain ⟨k, rfl⟩ : ∃ j, k = j + 1 := ⟨k - 1, by omega⟩
        have q1 := ho.cellAt (k + 1) (by omega)
        have q0 := ho.cellAt k (by omega)
        rw [ints_get (by rw [hvl.out]; omega)] at q0 q1
        have hfr := ho.frozenAt
        have a0 : (0 : Int) < (k : Int) + 1 := by omega
        have a1 : (k : Int) + 1 - 1 = k := by omega
        have a2 : (k : Int) + 1 < n := by omega
        have a3 : ((k : Int) + 1).toNat = k + 1 := by omega
        have a4 : IntKind.i64.wrap (k : Int) = k := IntWalk.i64_in _ (by omega)
        by_cases hgt : ix vs (k + 1) < ix vs k
        · have hk1 : k + 1 < vs.length := by rw [hvl.out]; omega
          have hub2 := Lib.hid (hub.out.swap hk1 hgt)
          have hp2 := Lib.hid (show ((vs.set (k + 1) (ix vs k)).set k (ix vs (k + 1))).Perm zs from by
            have := perm_swap (l := vs) (i := k + 1) (j := k) hk1 (by omega)
            rw [ix_eq hk1, ix_eq (show k < vs.length by omega)] at this
            exact this.trans hpm.out)
          clear hk1
          go_wp2_with fail
          go_quiet (fail)
          go_wp2_with fail
          go_roundw
          case rel =>
            have h1 := ho.stored (k + 1) (.int .i64 (ix vs k))
            have h2 := h1.1.stored k (.int .i64 (ix vs (k + 1)))
            rw [ints_setAt, ints_setAt] at h2
            exact ⟨k, _, by omega, by go_num, h2.1, hp2, hub2, (((below_drewN HB _).setCell hbg _).setCell hbg _)⟩
          case measure => simp [intOf]
        · have hdone := Lib.hid (hub.out.stop (.inr (by simp; omega)))
          go_wp2_with fail
          go_quiet (fail)
          go_wp2_with fail
          go_roundw
          case rel => exact ⟨m + 1, vs, by omega, by omega, by go_num, ho, hpm, hdone, below_drewN HB _⟩
          case measure => simp [intOf]; omega
    · obtain rfl : m = n := by omega
      have hs := Lib.hid (srt_of hpm.out (by rw [hyl.out]; exact hup.out))
      have q := ho.cellAt ((m - 1) / 2) (by omega)
      rw [ints_get (by rw [hyl.out]; omega)] at q
      have a2 : 0 ≤ (m : Int) - 1 := by omega
      have a3 : ((m : Int) - 1) / 2 < m := by omega
      have a4 : 0 ≤ ((m : Int) - 1) / 2 := by omega
      have a5 : (((m : Int) - 1) / 2).toNat = (m - 1) / 2 := by omega
      go_wp2_with fail
      go_ret
      exact ⟨ret_int (by rw [hs.out, vMid, hyl.out]), HB⟩
end Go.Proofs.Ytlbgognkaolamaa
