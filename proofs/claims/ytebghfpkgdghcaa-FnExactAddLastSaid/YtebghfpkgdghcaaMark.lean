/-
  The laws' marks of lasts: a mark is a text for a name; marks are laid and found again; no condition but sizes that fit.
-/
import Derived.Test.YtebghfpkgdghcaaLastW
import Derived.Test.YtebghfpkgdghcaaBlk2
import Derived.Laws.IdiomStrings
import Derived.Deep.RegionHeld3
namespace Go.Proofs.Ytebghfpkgdghcaa
open Go.RowKit
set_option maxHeartbeats 1600000

/-- The decimal text of a number ahead of t. -/
def mtN (q : Nat) (t : ByteArray) : ByteArray := if q = 0 then t else mtN (q / 10) (⟨#[48 + UInt8.ofNat (q % 10)]⟩ ++ t)
  termination_by q
  decreasing_by omega
theorem mtN_step {q : Nat} (h : 0 < q) (t : ByteArray) : mtN q t = mtN (q / 10) (⟨#[48 + UInt8.ofNat (q % 10)]⟩ ++ t) := by
  rw [mtN, if_neg (by omega)]
theorem mtN_zero (t : ByteArray) : mtN 0 t = t := by rw [mtN, if_pos rfl]
def mt (k : Int) : ByteArray := ⟨#[109]⟩ ++ mtN k.toNat ⟨#[]⟩
theorem grow_of_below {w w' : World} (hb : Below w.heap.size w w') (row : Option Nat) : w.grownBy w' row := ⟨hb.os, hb.tape, hb.output, hb.size, fun i hi _ => hb.block i hi⟩
theorem ret_str {a b : ByteArray} (h : a = b) : Ending.returned (.string a) = .returned (.string b) := by rw [h]
set_option maxRecDepth 100000 in
theorem markText_any (m : Int) (w : World) (h1 : 1 ≤ m) (h2 : m ≤ 1000000000000000) :
    Calls Try.prog 22 #[.int .i64 m] w fun e w' => e = .returned (.string (mt m)) ∧ Below w.heap.size w w' := by
  have hm := Lib.hid (show mt m = ⟨#[109]⟩ ++ mtN m.toNat ⟨#[]⟩ from rfl)
  obtain ⟨k, hk⟩ : ∃ k : Nat, m = k := ⟨m.toNat, by omega⟩
  subst hk
  have hkt := Lib.hid (show ((k : Int)).toNat = k from rfl)
  go_enter Try.func22, Try.ntmps22
  go_wp2_with fail
  go_loopw [0, 3] (fun i s wr => ∃ (q : Nat) (t : ByteArray), t.size + q ≤ k ∧ i = .int .i64 q ∧ s = .string t ∧ Hid (mtN q t = mtN k ⟨#[]⟩) ∧ Below w.heap.size w wr) (fun i _ _ => (intOf i).toNat)
  case atStart => exact ⟨k, _, by rw [show (ByteArray.mk #[]).size = 0 from rfl]; omega, rfl, rfl, Lib.hid rfl, Below.refl _ _⟩
  case round =>
    obtain ⟨q, t, hqk, rfl, rfl, hqt, HB⟩ := hrel
    by_cases hlt : 0 < q
    · have hqi : (0 : Int) < (q : Int) := by omega
      have hst := Lib.hid ((mtN_step hlt t).symm.trans hqt.out)
      have hb0 : (0 : Int) ≤ (q : Int) % 10 := by omega
      have hb1 : (q : Int) % 10 < 10 := by omega
      have e8 : ((UInt8.ofNat (48 + (q : Int) % 10).toNat).toNat : Int) = 48 + (q : Int) % 10 := by rw [UInt8.toNat_ofNat_of_lt' (by show _ < 256; omega)]; omega
      have hcell : (wr.alloc (.cells #[.int .u8 (48 + (q : Int) % 10)] 5)).cell? ⟨wr.heap.size, 0, none⟩ = some (.int .u8 ((UInt8.ofNat (48 + (q : Int) % 10).toNat).toNat : Int)) := by
        rw [e8]; exact (Blk.new wr 5 #[.int .u8 (48 + (q : Int) % 10)]).cell 0
      have hcv := run_convert_bytes_back (P := Try.prog) (wr.alloc (.cells #[.int .u8 (48 + (q : Int) % 10)] 5)) 56 9 5 ⟨wr.heap.size, 0, none⟩ 1 [UInt8.ofNat (48 + (q : Int) % 10).toNat] Try.underlying56 Try.underlying5 Try.underlying9 (fun j hj => by
        obtain rfl : j = 0 := by simpa using hj
        simpa [Addr.add] using hcell)
      simp only [List.length_cons, List.length_nil, Nat.zero_add] at hcv
      have HB2 := Bl.alloc HB (.cells #[.int .u8 (48 + (q : Int) % 10)] 5)
      clear hcell e8
      go_wp2_with fail
      go_roundw
      case rel => exact ⟨q / 10, _, by rw [ByteArray.size_append, show (ByteArray.mk #[48 + UInt8.ofNat (q % 10)]).size = 1 from rfl]; omega, by go_num, rfl, hst, HB2⟩
      case measure => simp [intOf]; omega
    · have hz := Lib.hid (show q = 0 by omega)
      have hqi : ¬ (0 : Int) < (q : Int) := by omega
      go_wp2_with fail
      go_ret
      refine ⟨ret_str ?_, HB⟩
      rw [hm.out, hkt.out, ← hqt.out, hz.out, mtN_zero]
/-- The first k elements are the marks from m on. -/
def MarksLast (ys : List LastD) (m : Int) (k : Nat) : Prop := ∀ j, j < k → lastsAt ys j = ⟨mt (m + 6 * (j : Int)), m + 6 * (j : Int) + 1, m + 6 * (j : Int) + 2, m + 6 * (j : Int) + 3, m + 6 * (j : Int) + 4, m + 6 * (j : Int) + 5⟩
theorem MarksLast.step {ys : List LastD} {m : Int} {k : Nat} {x : LastD} (h : MarksLast ys m k) (hk : k < ys.length) (h0 : x.s = mt (m + 6 * (k : Int))) (h1 : x.l = m + 6 * (k : Int) + 1) (h2 : x.b = m + 6 * (k : Int) + 2) (h3 : x.i = m + 6 * (k : Int) + 3) (h4 : x.h = m + 6 * (k : Int) + 4) (h5 : x.p = m + 6 * (k : Int) + 5) : MarksLast (ys.set k x) m (k + 1) := fun j hj => by
  rw [lastsAt_set hk]
  by_cases e : j = k
  · subst e
    rw [if_pos rfl]
    obtain ⟨x0, x1, x2, x3, x4, x5⟩ := x
    simp only at h0 h1 h2 h3 h4 h5
    subst h0 h1 h2 h3 h4 h5
    rfl
  · rw [if_neg e]; exact h j (by omega)
set_option maxRecDepth 100000 in
theorem markLastS_any (base : Nat) (A : Option Addr) (n c : Nat) (xs : List LastD) (m : Int) (w : World) (h : w.ownsRow base 31 6 (.slice A n c) n (lasts xs)) (hn : n ≤ 1048577) (hm : 1 ≤ m ∧ m ≤ 100000000) :
    Calls Try.prog 11 #[.slice A n c, .int .i64 m] w fun e w' => e = .returned (.int .i64 (m + 6 * n)) ∧ ∃ ys, MarksLast ys m n ∧ w'.ownsRow base 31 6 (.slice A n c) n (lasts ys) ∧ w.grownBy w' (Value.slice A n c).ownBlock := by
  obtain ⟨hm1, hm2⟩ := hm
  rcases Nat.eq_zero_or_pos n with h0 | h0
  · subst h0
    have hz : xs = [] := List.eq_nil_of_length_eq_zero (own_lasts_len h)
    subst hz
    go_enter Try.func11, Try.ntmps11
    go_wp2_with fail
    refine wp_loop_rounds 1 ?_
    rw [rounds_succ]
    go_wp2_with fail
    go_ret
    exact ⟨by simp, [], fun j hj => by omega, h, World.grownBy.refl _ _⟩
  obtain ⟨g, rfl, hb, hlt, hnc, hcm⟩ := own_form h h0
  go_enter Try.func11, Try.ntmps11
  go_wp2_with fail
  go_loopw [1, 5] (fun q i wr => ∃ (k : Nat) (ys : List LastD), wr.ownsRow base 31 6 (.slice (some ⟨g, 0, none⟩) n c) n (lasts ys) ∧ k ≤ n ∧ i = .int .i64 k ∧ q = .int .i64 (m + 6 * k) ∧ w.grownBy wr (some g) ∧ MarksLast ys m k) (fun _ i _ => n - (intOf i).toNat)
  case atStart => exact ⟨0, xs, h, by omega, rfl, by simp, World.grownBy.refl _ _, fun j hj => by omega⟩
  case round =>
    obtain ⟨k, ys, ho0, hk, rfl, rfl, hg0, hma⟩ := hrel
    by_cases hlt : k < n
    · go_wp2_with fail
      refine (markText_any _ _ (by omega) (by omega)).mono ?_
      rintro e w2 ⟨rfl, hb2⟩
      have ho := own_below ho0 hb2
      have hg := gtrans hg0 (grow_of_below hb2 (some g))
      have hyl := Lib.hid (own_lasts_len ho)
      have k0 := ho.cellAt (k * 6) (by omega)
      rw [lasts_get0 (by rw [hyl.out]; exact hlt)] at k0
      have k1 := ho.cellAt (k * 6 + 1) (by omega)
      rw [lasts_get1 (by rw [hyl.out]; exact hlt)] at k1
      have k2 := ho.cellAt (k * 6 + 2) (by omega)
      rw [lasts_get2 (by rw [hyl.out]; exact hlt)] at k2
      have k3 := ho.cellAt (k * 6 + 3) (by omega)
      rw [lasts_get3 (by rw [hyl.out]; exact hlt)] at k3
      have k4 := ho.cellAt (k * 6 + 4) (by omega)
      rw [lasts_get4 (by rw [hyl.out]; exact hlt)] at k4
      have k5 := ho.cellAt (k * 6 + 5) (by omega)
      rw [lasts_get5 (by rw [hyl.out]; exact hlt)] at k5
      have hfr := ho.frozenAt
      clear ho0 hg0 hb2
      go_wp2_with fail
      go_roundw
      case rel =>
        have hst := fun x => lasts_stored (k := k) x ho hlt
        refine ⟨k + 1, _, (hst ⟨_, _, _, _, _, _⟩).1, by omega, by go_num, congrArg (Value.int .i64) (by omega), gtrans hg (hst ⟨_, _, _, _, _, _⟩).2, hma.step (by rw [hyl.out]; exact hlt) (by first | rfl | (dsimp only; omega)) (by first | rfl | (dsimp only; omega)) (by first | rfl | (dsimp only; omega)) (by first | rfl | (dsimp only; omega)) (by first | rfl | (dsimp only; omega)) (by first | rfl | (dsimp only; omega))⟩
      case measure => simp [intOf]; omega
    · obtain rfl : k = n := by omega
      go_wp2_with fail
      go_ret
      exact ⟨rfl, ys, hma, ho0, hg0⟩
set_option maxRecDepth 100000 in
theorem heldLastS_any (A : Option Addr) (n c : Nat) (ys : List LastD) (m : Int) (w : World) (h : Rd w 6 A n (lasts ys)) (hma : MarksLast ys m n) (hn : n ≤ 1048577) (hm : 1 ≤ m ∧ m ≤ 100000000) :
    Calls Try.prog 12 #[.slice A n c, .int .i64 m] w fun e w' => e = .returned (.int .i64 (m + 6 * n)) ∧ Below w.heap.size w w' := by
  obtain ⟨hm1, hm2⟩ := hm
  go_enter Try.func12, Try.ntmps12
  go_wp2_with fail
  go_loopw [1, 5] (fun q i wr => ∃ (k : Nat), k ≤ n ∧ i = .int .i64 k ∧ q = .int .i64 (m + 6 * k) ∧ Below w.heap.size w wr) (fun _ i _ => n - (intOf i).toNat)
  case atStart => exact ⟨0, by omega, rfl, by simp, Below.refl _ _⟩
  case round =>
    obtain ⟨k, hk, rfl, rfl, HB⟩ := hrel
    by_cases hlt : k < n
    · obtain ⟨b, off, eA, hbl, h0, h1, h2, h3, h4, h5⟩ := (h.below HB).lasts hlt
      subst eA
      rw [hma k hlt] at h0 h1 h2 h3 h4 h5
      have b1 : 1 ≤ m + 6 * (k : Int) := by omega
      have b2 : m + 6 * (k : Int) ≤ 1000000000000000 := by omega
      go_wp2_with fail
      refine wp_region_held_drew (S := (fun wz => Below wr.heap.size wr wz ∧ ∀ b o, b < wr.heap.size → wz.cell? ⟨b, o, none⟩ = wr.cell? ⟨b, o, none⟩)) (by kernel_rfl) (old_of (Below.drew (Below.refl _ _))) (fun hHeld => ?_)
      refine wpAnyH_take (i := 0) (oi := ?_) (v := ?_) ?_ (by kernel_rfl) (by kernel_rfl) (by kernel_rfl) ?_ (Or.inl ⟨?_, ?_⟩) (by assumption) ?_
      rotate_left 2
      · (simp only [List.getElem?_toArray, List.getElem?_cons_zero]; rfl)
      · exact fun _ _ _ h => h
      · rfl
      · intro w hSw
        (try dsimp only at hSw)
        go_simp
        try with_reducible rfl
      simp only [put_arr, List.set_cons_zero, List.set_cons_succ]
      refine wpAnyH_take (i := 1) (oi := ?_) (v := ?_) ?_ (by kernel_rfl) (by kernel_rfl) (by kernel_rfl) ?_ (Or.inl ⟨?_, ?_⟩) (by assumption) ?_
      rotate_left 2
      · (simp only [List.getElem?_toArray, List.getElem?_cons_zero, List.getElem?_cons_succ]; rfl)
      · exact fun _ _ _ h => h
      · rfl
      · intro w hSw
        (try dsimp only at hSw)
        go_simp
        try with_reducible rfl
      simp only [put_arr, List.set_cons_zero, List.set_cons_succ]
      refine wpAnyH_take (i := 2) (oi := ?_) (v := ?_) ?_ (by kernel_rfl) (by kernel_rfl) (by kernel_rfl) ?_ (Or.inl ⟨?_, ?_⟩) (by assumption) ?_
      rotate_left 2
      · (simp only [List.getElem?_toArray, List.getElem?_cons_zero, List.getElem?_cons_succ]; rfl)
      · exact fun _ _ _ h => h
      · rfl
      · intro w hSw
        (try dsimp only at hSw)
        go_simp
        try with_reducible rfl
      simp only [put_arr, List.set_cons_zero, List.set_cons_succ]
      refine wpAnyH_take (i := 3) (oi := ?_) (v := ?_) ?_ (by kernel_rfl) (by kernel_rfl) (by kernel_rfl) ?_ (Or.inl ⟨?_, ?_⟩) (by assumption) ?_
      rotate_left 2
      · (simp only [List.getElem?_toArray, List.getElem?_cons_zero, List.getElem?_cons_succ]; rfl)
      · exact fun _ _ _ h => h
      · rfl
      · intro w hSw
        (try dsimp only at hSw)
        go_simp
        try with_reducible rfl
      simp only [put_arr, List.set_cons_zero, List.set_cons_succ]
      refine wpAnyH_take (i := 4) (oi := ?_) (v := ?_) ?_ (by kernel_rfl) (by kernel_rfl) (by kernel_rfl) ?_ (Or.inl ⟨?_, ?_⟩) (by assumption) ?_
      rotate_left 2
      · (simp only [List.getElem?_toArray, List.getElem?_cons_zero, List.getElem?_cons_succ]; rfl)
      · exact fun _ _ _ h => h
      · rfl
      · intro w hSw
        (try dsimp only at hSw)
        go_simp
        try with_reducible rfl
      simp only [put_arr, List.set_cons_zero, List.set_cons_succ]
      refine wpAnyH_take (i := 5) (oi := ?_) (v := ?_) ?_ (by kernel_rfl) (by kernel_rfl) (by kernel_rfl) ?_ (Or.inl ⟨?_, ?_⟩) (by assumption) ?_
      rotate_left 2
      · (simp only [List.getElem?_toArray, List.getElem?_cons_zero, List.getElem?_cons_succ]; rfl)
      · exact fun _ _ _ h => h
      · rfl
      · intro w hSw
        (try dsimp only at hSw)
        go_simp
        try with_reducible rfl
      simp only [put_arr, List.set_cons_zero, List.set_cons_succ]
      refine wpAnyH_ready (rs := [6]) (by kernel_rfl) (by simp) ?_
      refine AllReadyH.cons (o := ?_) ?_ (fun K hK => ?_) AllReadyH.nil
      rotate_left
      · (simp only [List.getElem?_toArray, List.getElem?_cons_zero, List.getElem?_cons_succ]; rfl)
      rw [if_pos (by rfl)]
      go_simp
      (with_reducible refine (markText_any _ _ b1 b2).mono ?_)
      rintro e w2 ⟨rfl, hb2⟩
      have HZ := Bl.then (w := wr) hHeld.1 hb2
      go_wp2_with fail
      refine hK.out _ _ (old_of HZ) (fun hHeld2 => ?_)
      clear hK K hHeld
      have hHeld := hHeld2
      clear hHeld2
      refine wpAnyH_take (i := 7) (oi := ?_) (v := ?_) ?_ (by kernel_rfl) (by kernel_rfl) (by kernel_rfl) ?_ (Or.inl ⟨?_, ?_⟩) (by assumption) ?_
      rotate_left 2
      · (simp only [List.getElem?_toArray, List.getElem?_cons_zero, List.getElem?_cons_succ]; rfl)
      · exact fun _ _ _ h => h
      · rfl
      · intro w hSw
        (try dsimp only at hSw)
        go_simp
        try with_reducible rfl
      simp only [put_arr, List.set_cons_zero, List.set_cons_succ]
      refine wpAnyH_done (by kernel_rfl) ?_ _
      have HB2 := Bl.then HB HZ
      go_wp2_with fail
      go_roundw
      case rel => exact ⟨k + 1, by omega, by go_num, congrArg (Value.int .i64) (by omega), HB2⟩
      case measure => simp [intOf]; omega
    · obtain rfl : k = n := by omega
      go_wp2_with fail
      go_ret
      exact ⟨rfl, HB⟩
end Go.Proofs.Ytebghfpkgdghcaa
