/-
  Slices of numbers of the laws: copied, compared, marked, asked for their marks; each for every slice that reads as the given list.
-/
import Derived.Test.YtgaahmcbfognhaaFeet
import Derived.BigQuiet
import Derived.Deep.QuietTactic
namespace Go.Proofs.Ytgaahmcbfognhaa
open Go.RowKit
set_option maxHeartbeats 400000

theorem int_info : (Try.prog.info? 2).map (fun i => (i.zero, i.size, i.bytes)) = some (some (.int .i64 0), 1, 8) := by kernel_rfl

theorem ix_set {ys : List Int} {k j : Nat} {x : Int} (hk : k < ys.length) : ix (ys.set k x) j = if j = k then x else ix ys j := by
  unfold ix
  rw [List.getD_eq_getElem?_getD, List.getD_eq_getElem?_getD, List.getElem?_set]
  by_cases h : j = k
  · subst h; simp [hk]
  · have h' : ¬ k = j := fun e => h e.symm
    simp [h, h']
theorem ints_setAt (zs : List Int) (k : Nat) (x : Int) : (ints zs).set k (.int .i64 x) = ints (zs.set k x) := by simp [ints, List.map_set]
theorem ext_ix {ys zs : List Int} (hl : ys.length = zs.length) (h : ∀ j, j < zs.length → ix ys j = ix zs j) : ys = zs := by
  apply List.ext_getElem hl
  intro j h1 h2
  rw [ix_eq h1, ix_eq h2]
  exact h j h2
/-- The first k elements agree. -/
def Agree (ys zs : List Int) (k : Nat) : Prop := ∀ j, j < k → ix ys j = ix zs j
theorem Agree.step {ys zs : List Int} {k : Nat} (h : Agree ys zs k) (hk : k < ys.length) : Agree (ys.set k (ix zs k)) zs (k + 1) := fun j hj => by
  rw [ix_set hk]
  by_cases e : j = k
  · subst e; simp
  · simp [e]; exact h j (by omega)
/-- The first k elements are the marks from m on. -/
def Marks (ys : List Int) (m : Int) (k : Nat) : Prop := ∀ j, j < k → ix ys j = m + j
theorem Marks.step {ys : List Int} {m : Int} {k : Nat} (h : Marks ys m k) (hk : k < ys.length) : Marks (ys.set k (m + k)) m (k + 1) := fun j hj => by
  rw [ix_set hk]
  by_cases e : j = k
  · subst e; simp
  · simp [e]; exact h j (by omega)

/-- A row of the call's own that holds numbers. -/
theorem own_int_len {w : World} {base : Nat} {E : TypeId} {v : Value} {n : Nat} {zs : List Int} (h : w.ownsRow base E 1 v n (ints zs)) : zs.length = n := by have := h.1; simpa [ints] using this
theorem own_grown_below {w w' : World} {g : Nat} (h : w.grownBy w' (some g)) {B : Nat} (hB : B ≤ g) (hw : B ≤ w.heap.size) : Below B w w' :=
  (Below.refl _ _).grown h hw (fun k hk => by cases hk; exact hB)
theorem own_form {w : World} {base k : Nat} {E : TypeId} {A : Option Addr} {n c : Nat} {xs : List Value} (h : w.ownsRow base E k (.slice A n c) n xs) (hn : 0 < n) :
    ∃ g, A = some ⟨g, 0, none⟩ ∧ base ≤ g ∧ g < w.heap.size ∧ n ≤ c ∧ c ≤ maxLen := by
  rcases h.2 with ⟨hv, h0⟩ | ⟨g, cap, cur, hv, hb, hg, hnc, hcm, _⟩
  · omega
  · simp only [Value.slice.injEq, true_and] at hv
    obtain ⟨rfl, rfl⟩ := hv
    refine ⟨g, rfl, hb, ?_, hnc, hcm⟩
    rcases Nat.lt_or_ge g w.heap.size with hlt | hge
    · exact hlt
    · rw [Array.getElem?_eq_none hge] at hg; cases hg

theorem gtrans {a b c : World} {row : Option Nat} (h : a.grownBy b row) (k : b.grownBy c row) : a.grownBy c row :=
  ⟨k.os.trans h.os, k.tape.trans h.tape, k.output.trans h.output, Nat.le_trans h.size k.size, fun i hi hne => (k.block i (Nat.lt_of_lt_of_le hi h.size) hne).trans (h.block i hi hne)⟩
theorem toInt64S_any (A : Option Addr) (n c : Nat) (zs : List Int) (w : World) (h : Rd w 1 A n (ints zs)) (hn : n ≤ 1048576) :
    Calls Try.prog 8 #[.slice A n c] w (RetSl 2 1 n (ints zs) w) := by
  obtain ⟨i0, hi, hz0, hz1, hz2⟩ := info_parts int_info
  have hlen := Lib.hid h.len
  go_enter Try.func8, Try.ntmps8
  go_wp2_with (at_make; refine wpList_make_full _ rfl _ _ 22 rfl w.heap.size 2 i0 (.int .i64 0) 1 Try.underlying22 hi hz0 hz1 _ _ _ _ n rfl rfl rfl rfl (by rw [hz2]; omega) (by unfold maxLen; omega) (Nat.le_refl _) ?_)
  intro w1 hown hg
  have HO : w1.ownsRow w.heap.size 2 1 (.slice (some ⟨w.heap.size, 0, none⟩) n n) n (ints (List.replicate n 0)) := by
    have e := toList_madeCells_one (.int .i64 0) n
    simpa [ints, e] using hown
  have HB : Below w.heap.size w w1 := (Below.refl _ _).grown hg (Nat.le_refl _) (fun k hk => by cases hk)
  clear hown hg hz0 hz1 hz2 hi
  go_wp2_with fail
  go_loopw [4] (fun i wr => ∃ (k : Nat) (ys : List Int), k ≤ n ∧ i = .int .i64 k ∧ Agree ys zs k ∧ wr.ownsRow w.heap.size 2 1 (.slice (some ⟨w.heap.size, 0, none⟩) n n) n (ints ys) ∧ Below w.heap.size w wr) (fun i _ => n - (intOf i).toNat)
  case atStart => exact ⟨0, _, by omega, rfl, fun j hj => by omega, HO, HB⟩
  case round =>
    obtain ⟨k, ys, hk, rfl, hag, ho, hb⟩ := hrel
    have hyl := Lib.hid (own_int_len ho)
    by_cases hlt : k < n
    · obtain ⟨b, off, rfl, hbl, hcell⟩ := (h.below hb).int hlt
      have hold := ho.cellAt k (by omega)
      rw [ints_get (by rw [hyl.out]; exact hlt)] at hold
      have hfr := ho.frozenAt k
      go_wp2_with fail
      go_roundw
      case rel =>
        have hst := ho.stored k (.int .i64 (ix zs k))
        rw [ints_setAt] at hst
        exact ⟨k + 1, _, by omega, by go_num, hag.step (by rw [hyl.out]; exact hlt), hst.1, hb.setCell (Nat.le_refl _) _⟩
      case measure => simp [intOf]; omega
    · go_wp2_with fail
      go_ret
      have e : ys = zs := ext_ix (by rw [hyl.out, hlen.out]) (fun j hj => hag j (by have := hlen.out; omega))
      subst e
      exact ⟨_, _, rfl, ho, hb⟩
theorem eqInt64S_same (A A' : Option Addr) (n c c' : Nat) (zs : List Int) (w : World) (h : Rd w 1 A n (ints zs)) (h' : Rd w 1 A' n (ints zs)) (hn : n ≤ 9223372036854775807) :
    Calls Try.prog 10 #[.slice A n c, .slice A' n c'] w fun e w' => e = .returned (.bool true) ∧ Below w.heap.size w w' := by
  go_enter Try.func10, Try.ntmps10
  go_wp2_with fail
  go_loopw [5] (fun i wr => ∃ k : Nat, k ≤ n ∧ i = .int .i64 k ∧ Below w.heap.size w wr) (fun i _ => n - (intOf i).toNat)
  case atStart => exact ⟨0, by omega, rfl, Below.refl _ _⟩
  case round =>
    obtain ⟨k, hk, rfl, hb⟩ := hrel
    by_cases hlt : k < n
    · obtain ⟨b, off, rfl, hbl, hcell⟩ := (h.below hb).int hlt
      obtain ⟨b', off', rfl, hbl', hcell'⟩ := (h'.below hb).int hlt
      go_wp2_with fail
      go_quiet (fail)
      go_wp2_with fail
      go_roundw
      case rel => exact ⟨k + 1, by omega, by go_num, below_drewN hb _⟩
      case measure => simp [intOf]; omega
    · go_wp2_with fail
      go_ret
      exact ⟨rfl, hb⟩
theorem markInt64S_any (base : Nat) (A : Option Addr) (n c : Nat) (zs : List Int) (m : Int) (w : World) (h : w.ownsRow base 2 1 (.slice A n c) n (ints zs)) (hn : n ≤ 1048577) (hm : 0 ≤ m ∧ m ≤ 100000000) :
    Calls Try.prog 13 #[.slice A n c, .int .i64 m] w fun e w' => e = .returned (.int .i64 (m + n)) ∧ ∃ ys, Marks ys m n ∧ w'.ownsRow base 2 1 (.slice A n c) n (ints ys) ∧ w.grownBy w' (Value.slice A n c).ownBlock := by
  obtain ⟨hm1, hm2⟩ := hm
  rcases Nat.eq_zero_or_pos n with h0 | h0
  · subst h0
    have hz : zs = [] := List.eq_nil_of_length_eq_zero (own_int_len h)
    subst hz
    go_enter Try.func13, Try.ntmps13
    go_wp2_with fail
    refine wp_loop_rounds 1 ?_
    rw [rounds_succ]
    go_wp2_with fail
    go_ret
    exact ⟨by simp, [], fun j hj => by omega, h, World.grownBy.refl _ _⟩
  obtain ⟨g, rfl, hb, hlt, hnc, hcm⟩ := own_form h h0
  go_enter Try.func13, Try.ntmps13
  go_wp2_with fail
  go_loopw [1, 5] (fun q i wr => ∃ (k : Nat) (ys : List Int), k ≤ n ∧ i = .int .i64 k ∧ q = .int .i64 (m + k) ∧ Marks ys m k ∧ wr.ownsRow base 2 1 (.slice (some ⟨g, 0, none⟩) n c) n (ints ys) ∧ w.grownBy wr (some g)) (fun _ i _ => n - (intOf i).toNat)
  case atStart => exact ⟨0, zs, by omega, rfl, by simp, fun j hj => by omega, h, World.grownBy.refl _ _⟩
  case round =>
    obtain ⟨k, ys, hk, rfl, rfl, hma, ho, hg⟩ := hrel
    have hyl := Lib.hid (own_int_len ho)
    by_cases hlt : k < n
    · have hold := ho.cellAt k (by omega)
      rw [ints_get (by rw [hyl.out]; exact hlt)] at hold
      have hfr := ho.frozenAt k
      go_wp2_with fail
      go_roundw
      case rel =>
        have hst := ho.stored k (.int .i64 (m + k))
        rw [ints_setAt] at hst
        exact ⟨k + 1, _, by omega, by go_num, by go_num, hma.step (by rw [hyl.out]; exact hlt), hst.1, gtrans hg hst.2⟩
      case measure => simp [intOf]; omega
    · obtain rfl : k = n := by omega
      go_wp2_with fail
      go_ret
      exact ⟨rfl, ys, hma, ho, hg⟩
theorem heldInt64S_any (A : Option Addr) (n c : Nat) (ys : List Int) (m : Int) (w : World) (h : Rd w 1 A n (ints ys)) (hma : Marks ys m n) (hn : n ≤ 1048577) (hm : 0 ≤ m ∧ m ≤ 100000000) :
    Calls Try.prog 14 #[.slice A n c, .int .i64 m] w fun e w' => e = .returned (.int .i64 (m + n)) ∧ Below w.heap.size w w' := by
  obtain ⟨hm1, hm2⟩ := hm
  go_enter Try.func14, Try.ntmps14
  go_wp2_with fail
  go_loopw [1, 5] (fun q i wr => ∃ (k : Nat), k ≤ n ∧ i = .int .i64 k ∧ q = .int .i64 (m + k) ∧ Below w.heap.size w wr) (fun _ i _ => n - (intOf i).toNat)
  case atStart => exact ⟨0, by omega, rfl, by simp, Below.refl _ _⟩
  case round =>
    obtain ⟨k, hk, rfl, rfl, HB⟩ := hrel
    by_cases hlt : k < n
    · obtain ⟨b, off, rfl, hbl, hcell⟩ := (h.below HB).int hlt
      rw [hma k hlt] at hcell
      go_wp2_with fail
      go_roundw
      case rel => exact ⟨k + 1, by omega, by go_num, by go_num, HB⟩
      case measure => simp [intOf]; omega
    · obtain rfl : k = n := by omega
      go_wp2_with fail
      go_ret
      exact ⟨rfl, HB⟩
end Go.Proofs.Ytgaahmcbfognhaa
