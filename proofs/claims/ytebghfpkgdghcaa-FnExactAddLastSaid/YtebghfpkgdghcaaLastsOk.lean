/-
  Which lists of lasts are valid, for the program and for the reference; the condition of a slice argument is that it reads as the given list.
-/
import Derived.Test.YtebghfpkgdghcaaLastW
import Derived.IntWalk
namespace Go.Proofs.Ytebghfpkgdghcaa
open Go.RowKit
set_option maxHeartbeats 1600000

noncomputable def lOk (x : LastD) : Bool := lastOk x.s x.l x.b x.i x.h x.p
def nameLt (x y : LastD) : Bool := Op.bytesLess x.s.toList y.s.toList
noncomputable def stepOk (xs : List LastD) (k : Nat) : Bool := lOk (lastsAt xs k) && (decide (k = 0) || nameLt (lastsAt xs (k - 1)) (lastsAt xs k))
noncomputable def lastsOk (xs : List LastD) : Bool := (List.range xs.length).all (stepOk xs) && decide (xs.length ≤ 30)
def AllL (xs : List LastD) (k : Nat) : Prop := ∀ j, j < k → stepOk xs j = true
theorem AllL.snoc {xs : List LastD} {k : Nat} (h : AllL xs k) (hk : stepOk xs k = true) : AllL xs (k + 1) := fun j hj => by
  by_cases e : j = k
  · subst e; exact hk
  · exact h j (by omega)
theorem AllL.all {xs : List LastD} (h : AllL xs xs.length) : (List.range xs.length).all (stepOk xs) = true := by
  rw [List.all_eq_true]
  intro j hj
  exact h j (List.mem_range.1 hj)
theorem lasts_no {xs : List LastD} {k : Nat} (hk : k < xs.length) (h : stepOk xs k = false) : lastsOk xs = false := by
  have : (List.range xs.length).all (stepOk xs) = false := by
    rw [List.all_eq_false]
    exact ⟨k, List.mem_range.2 hk, by simp [h]⟩
  simp [lastsOk, this]
theorem lastsOk_bd {xs : List LastD} (h : lastsOk xs = true) : xs.length ≤ 30 ∧ ∀ k, k < xs.length → stepOk xs k = true := by
  simp only [lastsOk, Bool.and_eq_true, decide_eq_true_eq, List.all_eq_true, List.mem_range] at h
  exact ⟨h.2, h.1⟩
theorem lOk_bd {xs : List LastD} (h : lastsOk xs = true) {k : Nat} (hk : k < xs.length) : lOk (lastsAt xs k) = true := by
  have := (lastsOk_bd h).2 k hk
  simp only [stepOk, Bool.and_eq_true] at this
  exact this.1
theorem stepOk_1 {xs : List LastD} {k : Nat} (h : lOk (lastsAt xs k) = false) : stepOk xs k = false := by simp [stepOk, h]
theorem stepOk_2 {xs : List LastD} (h : lOk (lastsAt xs 0) = true) : stepOk xs 0 = true := by simp [stepOk, h]
theorem stepOk_3 {xs : List LastD} {k : Nat} {b : Bool} (h : lOk (lastsAt xs k) = true) (hk : 0 < k) (hb : nameLt (lastsAt xs (k - 1)) (lastsAt xs k) = b) : stepOk xs k = b := by
  have : ¬ k = 0 := by omega
  simp [stepOk, h, hb, this]
theorem lastsAt_s {xs : List LastD} (hx : ∀ x ∈ xs, x.s.size ≤ maxLen) (k : Nat) : (lastsAt xs k).s.size ≤ maxLen := by
  rcases Nat.lt_or_ge k xs.length with hk | hk
  · rw [← lasts_eq hk]; exact hx _ (List.getElem_mem hk)
  · have e : lastsAt xs k = LastD.zero := by unfold lastsAt; rw [List.getD_eq_getElem?_getD, List.getElem?_eq_none hk]; rfl
    rw [e]; exact Nat.zero_le _
theorem validLast_is {s : ByteArray} {l b i h p : Int} {v : Bool} {w : World} (hs : s.size ≤ maxLen) (hv : lastOk s l b i h p = v) :
    Calls Try.prog 17 #[.agg #[.string s, .int .i64 l, .int .i64 b, .int .i64 i, .int .i64 h, .int .i64 p]] w fun e w' => e = .returned (.bool v) ∧ Below w.heap.size w w' := by
  subst hv
  exact validLast_any _ _ _ _ _ _ _ hs
theorem l04One_is {s : ByteArray} {l b i h p : Int} {v : Bool} {w : World} (hs : s.size ≤ maxLen) (hv : lastOk s l b i h p = v) :
    Calls Try.prog 14 #[.agg #[.string s, .int .i64 l, .int .i64 b, .int .i64 i, .int .i64 h, .int .i64 p]] w fun e w' => e = .returned (.bool v) ∧ Below w.heap.size w w' := by
  subst hv
  exact l04One_any _ _ _ _ _ _ _ hs
set_option maxRecDepth 100000 in
theorem ValidLasts_any (A : Option Addr) (n c : Nat) (xs : List LastD) (w : World) (h : Rd w 6 A n (lasts xs)) (hn : n ≤ 9223372036854775807) (hx : ∀ x ∈ xs, x.s.size ≤ maxLen) :
    Calls Try.prog 16 #[.slice A n c] w fun e w' => e = .returned (.bool (lastsOk xs)) ∧ Below w.heap.size w w' := by
  have hlen := Lib.hid h.lasts_length
  have hx' := Lib.hid hx
  clear hx
  go_enter Try.func16, Try.ntmps16
  go_wp2_with fail
  go_loopw [7] (fun i wr => ∃ k : Nat, k ≤ n ∧ AllL xs k ∧ i = .int .i64 k ∧ Below w.heap.size w wr) (fun i _ => n - (intOf i).toNat)
  case atStart => exact ⟨0, by omega, fun j h1 => by omega, rfl, Below.refl _ _⟩
  case round =>
    obtain ⟨k, hk, hall, rfl, HB⟩ := hrel
    by_cases hlt : k < n
    · have hkl := Lib.hid (show k < xs.length by rw [hlen.out]; exact hlt)
      have hs := lastsAt_s hx'.out k
      cases h1 : lOk (lastsAt xs k)
      · have h1' : lastOk (lastsAt xs k).s (lastsAt xs k).l (lastsAt xs k).b (lastsAt xs k).i (lastsAt xs k).h (lastsAt xs k).p = false := h1
        have hr := Lib.hid (lasts_no hkl.out (stepOk_1 h1))
        clear h1
        obtain ⟨b, off, rfl, hbl, i0, i1, i2, i3, i4, i5⟩ := (h.below HB).lasts hlt
        go_wp2_with fail
        have HY : Below wr.heap.size wr (wr.alloc (.cells #[.string (lastsAt xs k).s, .int .i64 (lastsAt xs k).l, .int .i64 (lastsAt xs k).b, .int .i64 (lastsAt xs k).i, .int .i64 (lastsAt xs k).h, .int .i64 (lastsAt xs k).p] 31)) := by go_grown
        have BX : Blk (wr.alloc (.cells #[.string (lastsAt xs k).s, .int .i64 (lastsAt xs k).l, .int .i64 (lastsAt xs k).b, .int .i64 (lastsAt xs k).i, .int .i64 (lastsAt xs k).h, .int .i64 (lastsAt xs k).p] 31)) wr.heap.size 31 #[.string (lastsAt xs k).s, .int .i64 (lastsAt xs k).l, .int .i64 (lastsAt xs k).b, .int .i64 (lastsAt xs k).i, .int .i64 (lastsAt xs k).h, .int .i64 (lastsAt xs k).p] := Blk.new _ _ _
        generalize wr.alloc (.cells #[.string (lastsAt xs k).s, .int .i64 (lastsAt xs k).l, .int .i64 (lastsAt xs k).b, .int .i64 (lastsAt xs k).i, .int .i64 (lastsAt xs k).h, .int .i64 (lastsAt xs k).p] 31) = wy at *
        have hsz := BX.lt
        have kx := BX.cell
        clear BX i0 i1 i2 i3 i4 i5
        refine wp_region_held_drew (S := (fun wz => Below wy.heap.size wy wz ∧ ∀ b o, b < wy.heap.size → wz.cell? ⟨b, o, none⟩ = wy.cell? ⟨b, o, none⟩)) (by kernel_rfl) (old_of (Below.drew (Below.refl _ _))) (fun hHeld => ?_)
        refine wpAnyH_take (i := 0) (oi := ?_) (v := ?_) ?_ (by kernel_rfl) (by kernel_rfl) (by kernel_rfl) ?_ (Or.inl ⟨?_, ?_⟩) (by assumption) ?_
        rotate_left 2
        · (simp only [List.getElem?_toArray, List.getElem?_cons_zero]; rfl)
        · exact fun _ _ _ h => h
        · rfl
        · intro w hSw
          (try dsimp only at hSw)
          go_simp
          try with_reducible rfl
        simp only [put_arr, List.set_cons_zero, List.set_cons_succ]
        refine wpAnyH_ready (rs := [1]) (by kernel_rfl) (by simp) ?_
        refine AllReadyH.cons (o := ?_) ?_ (fun K hK => ?_) AllReadyH.nil
        rotate_left
        · (simp only [List.getElem?_toArray, List.getElem?_cons_zero, List.getElem?_cons_succ]; rfl)
        rw [if_pos (by rfl)]
        go_simp
        (with_reducible refine (validLast_is hs h1').mono ?_)
        rintro e w2 ⟨rfl, hb2⟩
        have HZ := Bl.then (w := wy) (And.left (by assumption)) hb2
        go_wp2_with fail
        refine hK.out _ _ (old_of HZ) (fun hHeld2 => ?_)
        clear hK K hHeld
        have hHeld := hHeld2
        clear hHeld2
        refine wpAnyH_take (i := 2) (oi := ?_) (v := ?_) ?_ (by kernel_rfl) (by kernel_rfl) (by kernel_rfl) ?_ (Or.inl ⟨?_, ?_⟩) (by assumption) ?_
        rotate_left 2
        · (simp only [List.getElem?_toArray, List.getElem?_cons_zero, List.getElem?_cons_succ]; rfl)
        · exact fun _ _ _ h => h
        · rfl
        · intro w hSw
          (try dsimp only at hSw)
          go_simp
          try with_reducible rfl
        simp only [put_arr, List.set_cons_zero, List.set_cons_succ]
        refine wpAnyH_take (i := 3) (oi := ?_) (v := ?_) ?_ (by kernel_rfl) (by kernel_rfl) (by kernel_rfl) ?_ (Or.inl ⟨?_, ?_⟩) (by assumption) ?_
        rotate_left 2
        · (simp only [List.getElem?_toArray, List.getElem?_cons_zero, List.getElem?_cons_succ]; rfl)
        · exact fun _ _ _ h => h
        · rfl
        · intro w hSw
          (try dsimp only at hSw)
          go_simp
          try with_reducible rfl
        simp only [put_arr, List.set_cons_zero, List.set_cons_succ]
        refine wpAnyH_take (i := 4) (oi := ?_) ?_ (by kernel_rfl) (by kernel_rfl) (by kernel_rfl) ?_ (Or.inr ⟨?_, rfl⟩) (by assumption) ?_
        rotate_left 1
        · (simp only [List.getElem?_toArray, List.getElem?_cons_zero, List.getElem?_cons_succ]; rfl)
        · exact fun _ _ _ h => h
        · rfl
        simp only [put_arr, List.set_cons_zero, List.set_cons_succ]
        refine wpAnyH_take (i := 5) (oi := ?_) ?_ (by kernel_rfl) (by kernel_rfl) (by kernel_rfl) ?_ (Or.inr ⟨?_, rfl⟩) (by assumption) ?_
        rotate_left 1
        · (simp only [List.getElem?_toArray, List.getElem?_cons_zero, List.getElem?_cons_succ]; rfl)
        · exact fun _ _ _ h => h
        · rfl
        simp only [put_arr, List.set_cons_zero, List.set_cons_succ]
        refine wpAnyH_take (i := 6) (oi := ?_) ?_ (by kernel_rfl) (by kernel_rfl) (by kernel_rfl) ?_ (Or.inr ⟨?_, rfl⟩) (by assumption) ?_
        rotate_left 1
        · (simp only [List.getElem?_toArray, List.getElem?_cons_zero, List.getElem?_cons_succ]; rfl)
        · exact fun _ _ _ h => h
        · rfl
        simp only [put_arr, List.set_cons_zero, List.set_cons_succ]
        refine wpAnyH_take (i := 7) (oi := ?_) ?_ (by kernel_rfl) (by kernel_rfl) (by kernel_rfl) ?_ (Or.inr ⟨?_, rfl⟩) (by assumption) ?_
        rotate_left 1
        · (simp only [List.getElem?_toArray, List.getElem?_cons_zero, List.getElem?_cons_succ]; rfl)
        · exact fun _ _ _ h => h
        · rfl
        simp only [put_arr, List.set_cons_zero, List.set_cons_succ]
        refine wpAnyH_take (i := 8) (oi := ?_) ?_ (by kernel_rfl) (by kernel_rfl) (by kernel_rfl) ?_ (Or.inr ⟨?_, rfl⟩) (by assumption) ?_
        rotate_left 1
        · (simp only [List.getElem?_toArray, List.getElem?_cons_zero, List.getElem?_cons_succ]; rfl)
        · exact fun _ _ _ h => h
        · rfl
        simp only [put_arr, List.set_cons_zero, List.set_cons_succ]
        refine wpAnyH_take (i := 9) (oi := ?_) ?_ (by kernel_rfl) (by kernel_rfl) (by kernel_rfl) ?_ (Or.inr ⟨?_, rfl⟩) (by assumption) ?_
        rotate_left 1
        · (simp only [List.getElem?_toArray, List.getElem?_cons_zero, List.getElem?_cons_succ]; rfl)
        · exact fun _ _ _ h => h
        · rfl
        simp only [put_arr, List.set_cons_zero, List.set_cons_succ]
        refine wpAnyH_take (i := 10) (oi := ?_) ?_ (by kernel_rfl) (by kernel_rfl) (by kernel_rfl) ?_ (Or.inr ⟨?_, rfl⟩) (by assumption) ?_
        rotate_left 1
        · (simp only [List.getElem?_toArray, List.getElem?_cons_zero, List.getElem?_cons_succ]; rfl)
        · exact fun _ _ _ h => h
        · rfl
        simp only [put_arr, List.set_cons_zero, List.set_cons_succ]
        refine wpAnyH_take (i := 11) (oi := ?_) ?_ (by kernel_rfl) (by kernel_rfl) (by kernel_rfl) ?_ (Or.inr ⟨?_, rfl⟩) (by assumption) ?_
        rotate_left 1
        · (simp only [List.getElem?_toArray, List.getElem?_cons_zero, List.getElem?_cons_succ]; rfl)
        · exact fun _ _ _ h => h
        · rfl
        simp only [put_arr, List.set_cons_zero, List.set_cons_succ]
        refine wpAnyH_take (i := 12) (oi := ?_) ?_ (by kernel_rfl) (by kernel_rfl) (by kernel_rfl) ?_ (Or.inr ⟨?_, rfl⟩) (by assumption) ?_
        rotate_left 1
        · (simp only [List.getElem?_toArray, List.getElem?_cons_zero, List.getElem?_cons_succ]; rfl)
        · exact fun _ _ _ h => h
        · rfl
        simp only [put_arr, List.set_cons_zero, List.set_cons_succ]
        refine wpAnyH_take (i := 13) (oi := ?_) ?_ (by kernel_rfl) (by kernel_rfl) (by kernel_rfl) ?_ (Or.inr ⟨?_, rfl⟩) (by assumption) ?_
        rotate_left 1
        · (simp only [List.getElem?_toArray, List.getElem?_cons_zero, List.getElem?_cons_succ]; rfl)
        · exact fun _ _ _ h => h
        · rfl
        simp only [put_arr, List.set_cons_zero, List.set_cons_succ]
        refine wpAnyH_take (i := 14) (oi := ?_) ?_ (by kernel_rfl) (by kernel_rfl) (by kernel_rfl) ?_ (Or.inr ⟨?_, rfl⟩) (by assumption) ?_
        rotate_left 1
        · (simp only [List.getElem?_toArray, List.getElem?_cons_zero, List.getElem?_cons_succ]; rfl)
        · exact fun _ _ _ h => h
        · rfl
        simp only [put_arr, List.set_cons_zero, List.set_cons_succ]
        refine wpAnyH_take (i := 15) (oi := ?_) ?_ (by kernel_rfl) (by kernel_rfl) (by kernel_rfl) ?_ (Or.inr ⟨?_, rfl⟩) (by assumption) ?_
        rotate_left 1
        · (simp only [List.getElem?_toArray, List.getElem?_cons_zero, List.getElem?_cons_succ]; rfl)
        · exact fun _ _ _ h => h
        · rfl
        simp only [put_arr, List.set_cons_zero, List.set_cons_succ]
        refine wpAnyH_take (i := 16) (oi := ?_) ?_ (by kernel_rfl) (by kernel_rfl) (by kernel_rfl) ?_ (Or.inr ⟨?_, rfl⟩) (by assumption) ?_
        rotate_left 1
        · (simp only [List.getElem?_toArray, List.getElem?_cons_zero, List.getElem?_cons_succ]; rfl)
        · exact fun _ _ _ h => h
        · rfl
        simp only [put_arr, List.set_cons_zero, List.set_cons_succ]
        refine wpAnyH_take (i := 17) (oi := ?_) (v := ?_) ?_ (by kernel_rfl) (by kernel_rfl) (by kernel_rfl) ?_ (Or.inl ⟨?_, ?_⟩) (by assumption) ?_
        rotate_left 2
        · (simp only [List.getElem?_toArray, List.getElem?_cons_zero, List.getElem?_cons_succ]; rfl)
        · exact fun _ _ _ h => h
        · rfl
        · intro w hSw
          (try dsimp only at hSw)
          go_simp
          try with_reducible rfl
        simp only [put_arr, List.set_cons_zero, List.set_cons_succ]
        refine wpAnyH_done (by kernel_rfl) ?_ _
        go_wp2_with fail
        go_ret
        exact ⟨ret_bool hr.out.symm, Bl.then HB (Bl.then HY HZ)⟩
      have h1' : lastOk (lastsAt xs k).s (lastsAt xs k).l (lastsAt xs k).b (lastsAt xs k).i (lastsAt xs k).h (lastsAt xs k).p = true := h1
      rcases Nat.eq_zero_or_pos k with rfl | hpos
      · have hr := Lib.hid (stepOk_2 h1)
        clear h1
        obtain ⟨b, off, rfl, hbl, i0, i1, i2, i3, i4, i5⟩ := (h.below HB).lasts hlt
        simp only [Nat.zero_mul, Nat.add_zero] at i0 i1 i2 i3 i4 i5
        go_wp2_with fail
        have HY : Below wr.heap.size wr (wr.alloc (.cells #[.string (lastsAt xs 0).s, .int .i64 (lastsAt xs 0).l, .int .i64 (lastsAt xs 0).b, .int .i64 (lastsAt xs 0).i, .int .i64 (lastsAt xs 0).h, .int .i64 (lastsAt xs 0).p] 31)) := by go_grown
        have BX : Blk (wr.alloc (.cells #[.string (lastsAt xs 0).s, .int .i64 (lastsAt xs 0).l, .int .i64 (lastsAt xs 0).b, .int .i64 (lastsAt xs 0).i, .int .i64 (lastsAt xs 0).h, .int .i64 (lastsAt xs 0).p] 31)) wr.heap.size 31 #[.string (lastsAt xs 0).s, .int .i64 (lastsAt xs 0).l, .int .i64 (lastsAt xs 0).b, .int .i64 (lastsAt xs 0).i, .int .i64 (lastsAt xs 0).h, .int .i64 (lastsAt xs 0).p] := Blk.new _ _ _
        generalize wr.alloc (.cells #[.string (lastsAt xs 0).s, .int .i64 (lastsAt xs 0).l, .int .i64 (lastsAt xs 0).b, .int .i64 (lastsAt xs 0).i, .int .i64 (lastsAt xs 0).h, .int .i64 (lastsAt xs 0).p] 31) = wy at *
        have hsz := BX.lt
        have kx := BX.cell
        clear BX i0 i1 i2 i3 i4 i5
        refine wp_region_held_drew (S := (fun wz => Below wy.heap.size wy wz ∧ ∀ b o, b < wy.heap.size → wz.cell? ⟨b, o, none⟩ = wy.cell? ⟨b, o, none⟩)) (by kernel_rfl) (old_of (Below.drew (Below.refl _ _))) (fun hHeld => ?_)
        refine wpAnyH_take (i := 0) (oi := ?_) (v := ?_) ?_ (by kernel_rfl) (by kernel_rfl) (by kernel_rfl) ?_ (Or.inl ⟨?_, ?_⟩) (by assumption) ?_
        rotate_left 2
        · (simp only [List.getElem?_toArray, List.getElem?_cons_zero]; rfl)
        · exact fun _ _ _ h => h
        · rfl
        · intro w hSw
          (try dsimp only at hSw)
          go_simp
          try with_reducible rfl
        simp only [put_arr, List.set_cons_zero, List.set_cons_succ]
        refine wpAnyH_ready (rs := [1]) (by kernel_rfl) (by simp) ?_
        refine AllReadyH.cons (o := ?_) ?_ (fun K hK => ?_) AllReadyH.nil
        rotate_left
        · (simp only [List.getElem?_toArray, List.getElem?_cons_zero, List.getElem?_cons_succ]; rfl)
        rw [if_pos (by rfl)]
        go_simp
        (with_reducible refine (validLast_is hs h1').mono ?_)
        rintro e w2 ⟨rfl, hb2⟩
        have HZ := Bl.then (w := wy) (And.left (by assumption)) hb2
        go_wp2_with fail
        refine hK.out _ _ (old_of HZ) (fun hHeld2 => ?_)
        clear hK K hHeld
        have hHeld := hHeld2
        clear hHeld2
        refine wpAnyH_take (i := 2) (oi := ?_) (v := ?_) ?_ (by kernel_rfl) (by kernel_rfl) (by kernel_rfl) ?_ (Or.inl ⟨?_, ?_⟩) (by assumption) ?_
        rotate_left 2
        · (simp only [List.getElem?_toArray, List.getElem?_cons_zero, List.getElem?_cons_succ]; rfl)
        · exact fun _ _ _ h => h
        · rfl
        · intro w hSw
          (try dsimp only at hSw)
          go_simp
          try with_reducible rfl
        simp only [put_arr, List.set_cons_zero, List.set_cons_succ]
        refine wpAnyH_take (i := 3) (oi := ?_) (v := ?_) ?_ (by kernel_rfl) (by kernel_rfl) (by kernel_rfl) ?_ (Or.inl ⟨?_, ?_⟩) (by assumption) ?_
        rotate_left 2
        · (simp only [List.getElem?_toArray, List.getElem?_cons_zero, List.getElem?_cons_succ]; rfl)
        · exact fun _ _ _ h => h
        · rfl
        · intro w hSw
          (try dsimp only at hSw)
          go_simp
          try with_reducible rfl
        simp only [put_arr, List.set_cons_zero, List.set_cons_succ]
        refine wpAnyH_take (i := 4) (oi := ?_) (v := ?_) ?_ (by kernel_rfl) (by kernel_rfl) (by kernel_rfl) ?_ (Or.inl ⟨?_, ?_⟩) (by assumption) ?_
        rotate_left 2
        · (simp only [List.getElem?_toArray, List.getElem?_cons_zero, List.getElem?_cons_succ]; rfl)
        · exact fun _ _ _ h => h
        · rfl
        · intro w hSw
          (try dsimp only at hSw)
          go_simp
          try with_reducible rfl
        simp only [put_arr, List.set_cons_zero, List.set_cons_succ]
        refine wpAnyH_take (i := 5) (oi := ?_) (v := ?_) ?_ (by kernel_rfl) (by kernel_rfl) (by kernel_rfl) ?_ (Or.inl ⟨?_, ?_⟩) (by assumption) ?_
        rotate_left 2
        · (simp only [List.getElem?_toArray, List.getElem?_cons_zero, List.getElem?_cons_succ]; rfl)
        · exact fun _ _ _ h => h
        · rfl
        · intro w hSw
          (try dsimp only at hSw)
          go_simp
          try with_reducible rfl
        simp only [put_arr, List.set_cons_zero, List.set_cons_succ]
        refine wpAnyH_take (i := 6) (oi := ?_) (v := ?_) ?_ (by kernel_rfl) (by kernel_rfl) (by kernel_rfl) ?_ (Or.inl ⟨?_, ?_⟩) (by assumption) ?_
        rotate_left 2
        · (simp only [List.getElem?_toArray, List.getElem?_cons_zero, List.getElem?_cons_succ]; rfl)
        · exact fun _ _ _ h => h
        · rfl
        · intro w hSw
          (try dsimp only at hSw)
          go_simp
          try with_reducible rfl
        simp only [put_arr, List.set_cons_zero, List.set_cons_succ]
        refine wpAnyH_take (i := 7) (oi := ?_) ?_ (by kernel_rfl) (by kernel_rfl) (by kernel_rfl) ?_ (Or.inr ⟨?_, rfl⟩) (by assumption) ?_
        rotate_left 1
        · (simp only [List.getElem?_toArray, List.getElem?_cons_zero, List.getElem?_cons_succ]; rfl)
        · exact fun _ _ _ h => h
        · rfl
        simp only [put_arr, List.set_cons_zero, List.set_cons_succ]
        refine wpAnyH_take (i := 8) (oi := ?_) ?_ (by kernel_rfl) (by kernel_rfl) (by kernel_rfl) ?_ (Or.inr ⟨?_, rfl⟩) (by assumption) ?_
        rotate_left 1
        · (simp only [List.getElem?_toArray, List.getElem?_cons_zero, List.getElem?_cons_succ]; rfl)
        · exact fun _ _ _ h => h
        · rfl
        simp only [put_arr, List.set_cons_zero, List.set_cons_succ]
        refine wpAnyH_take (i := 9) (oi := ?_) ?_ (by kernel_rfl) (by kernel_rfl) (by kernel_rfl) ?_ (Or.inr ⟨?_, rfl⟩) (by assumption) ?_
        rotate_left 1
        · (simp only [List.getElem?_toArray, List.getElem?_cons_zero, List.getElem?_cons_succ]; rfl)
        · exact fun _ _ _ h => h
        · rfl
        simp only [put_arr, List.set_cons_zero, List.set_cons_succ]
        refine wpAnyH_take (i := 10) (oi := ?_) ?_ (by kernel_rfl) (by kernel_rfl) (by kernel_rfl) ?_ (Or.inr ⟨?_, rfl⟩) (by assumption) ?_
        rotate_left 1
        · (simp only [List.getElem?_toArray, List.getElem?_cons_zero, List.getElem?_cons_succ]; rfl)
        · exact fun _ _ _ h => h
        · rfl
        simp only [put_arr, List.set_cons_zero, List.set_cons_succ]
        refine wpAnyH_take (i := 11) (oi := ?_) ?_ (by kernel_rfl) (by kernel_rfl) (by kernel_rfl) ?_ (Or.inr ⟨?_, rfl⟩) (by assumption) ?_
        rotate_left 1
        · (simp only [List.getElem?_toArray, List.getElem?_cons_zero, List.getElem?_cons_succ]; rfl)
        · exact fun _ _ _ h => h
        · rfl
        simp only [put_arr, List.set_cons_zero, List.set_cons_succ]
        refine wpAnyH_take (i := 12) (oi := ?_) ?_ (by kernel_rfl) (by kernel_rfl) (by kernel_rfl) ?_ (Or.inr ⟨?_, rfl⟩) (by assumption) ?_
        rotate_left 1
        · (simp only [List.getElem?_toArray, List.getElem?_cons_zero, List.getElem?_cons_succ]; rfl)
        · exact fun _ _ _ h => h
        · rfl
        simp only [put_arr, List.set_cons_zero, List.set_cons_succ]
        refine wpAnyH_take (i := 13) (oi := ?_) ?_ (by kernel_rfl) (by kernel_rfl) (by kernel_rfl) ?_ (Or.inr ⟨?_, rfl⟩) (by assumption) ?_
        rotate_left 1
        · (simp only [List.getElem?_toArray, List.getElem?_cons_zero, List.getElem?_cons_succ]; rfl)
        · exact fun _ _ _ h => h
        · rfl
        simp only [put_arr, List.set_cons_zero, List.set_cons_succ]
        refine wpAnyH_take (i := 14) (oi := ?_) ?_ (by kernel_rfl) (by kernel_rfl) (by kernel_rfl) ?_ (Or.inr ⟨?_, rfl⟩) (by assumption) ?_
        rotate_left 1
        · (simp only [List.getElem?_toArray, List.getElem?_cons_zero, List.getElem?_cons_succ]; rfl)
        · exact fun _ _ _ h => h
        · rfl
        simp only [put_arr, List.set_cons_zero, List.set_cons_succ]
        refine wpAnyH_take (i := 15) (oi := ?_) ?_ (by kernel_rfl) (by kernel_rfl) (by kernel_rfl) ?_ (Or.inr ⟨?_, rfl⟩) (by assumption) ?_
        rotate_left 1
        · (simp only [List.getElem?_toArray, List.getElem?_cons_zero, List.getElem?_cons_succ]; rfl)
        · exact fun _ _ _ h => h
        · rfl
        simp only [put_arr, List.set_cons_zero, List.set_cons_succ]
        refine wpAnyH_take (i := 16) (oi := ?_) (v := ?_) ?_ (by kernel_rfl) (by kernel_rfl) (by kernel_rfl) ?_ (Or.inl ⟨?_, ?_⟩) (by assumption) ?_
        rotate_left 2
        · (simp only [List.getElem?_toArray, List.getElem?_cons_zero, List.getElem?_cons_succ]; rfl)
        · exact fun _ _ _ h => h
        · rfl
        · intro w hSw
          (try dsimp only at hSw)
          go_simp
          try with_reducible rfl
        simp only [put_arr, List.set_cons_zero, List.set_cons_succ]
        refine wpAnyH_take (i := 17) (oi := ?_) (v := ?_) ?_ (by kernel_rfl) (by kernel_rfl) (by kernel_rfl) ?_ (Or.inl ⟨?_, ?_⟩) (by assumption) ?_
        rotate_left 2
        · (simp only [List.getElem?_toArray, List.getElem?_cons_zero, List.getElem?_cons_succ]; rfl)
        · exact fun _ _ _ h => h
        · rfl
        · intro w hSw
          (try dsimp only at hSw)
          go_simp
          try with_reducible rfl
        simp only [put_arr, List.set_cons_zero, List.set_cons_succ]
        refine wpAnyH_done (by kernel_rfl) ?_ _
        go_wp2_with fail
        go_roundw
        case rel => exact ⟨1, by omega, hall.snoc hr.out, by go_num, Bl.then HB (Bl.then HY HZ)⟩
        case measure => simp [intOf]; omega
      obtain ⟨b, off, rfl, hbl, i0, i1, i2, i3, i4, i5⟩ := (h.below HB).lasts hlt
      have hkk := Lib.hid (show (k - 1 : Nat) < n by omega)
      obtain ⟨b2, off2, heq, hbl2, j0, -⟩ := (h.below HB).lasts hkk.out
      simp only [Option.some.injEq, Addr.mk.injEq, and_true] at heq
      obtain ⟨rfl, rfl⟩ := heq
      have a1 : 1 ≤ (k : Int) := by omega
      have a2 : (k : Int) - 1 < n := by omega
      have a0 : 0 ≤ (k : Int) - 1 := by omega
      have a3 : ((k : Int) - 1).toNat = k - 1 := by omega
      have a4 : IntKind.i64.wrap ((k : Int) - 1) = (k : Int) - 1 := IntWalk.i64_in _ (by omega)
      cases hnl : nameLt (lastsAt xs (k - 1)) (lastsAt xs k)
      · have hr := Lib.hid (lasts_no hkl.out (stepOk_3 h1 hpos hnl))
        have hn' : Op.bytesLess (lastsAt xs (k - 1)).s.toList (lastsAt xs k).s.toList = false := hnl
        clear h1 hnl
        go_wp2_with fail
        have HY : Below wr.heap.size wr (wr.alloc (.cells #[.string (lastsAt xs k).s, .int .i64 (lastsAt xs k).l, .int .i64 (lastsAt xs k).b, .int .i64 (lastsAt xs k).i, .int .i64 (lastsAt xs k).h, .int .i64 (lastsAt xs k).p] 31)) := by go_grown
        have BX : Blk (wr.alloc (.cells #[.string (lastsAt xs k).s, .int .i64 (lastsAt xs k).l, .int .i64 (lastsAt xs k).b, .int .i64 (lastsAt xs k).i, .int .i64 (lastsAt xs k).h, .int .i64 (lastsAt xs k).p] 31)) wr.heap.size 31 #[.string (lastsAt xs k).s, .int .i64 (lastsAt xs k).l, .int .i64 (lastsAt xs k).b, .int .i64 (lastsAt xs k).i, .int .i64 (lastsAt xs k).h, .int .i64 (lastsAt xs k).p] := Blk.new _ _ _
        generalize wr.alloc (.cells #[.string (lastsAt xs k).s, .int .i64 (lastsAt xs k).l, .int .i64 (lastsAt xs k).b, .int .i64 (lastsAt xs k).i, .int .i64 (lastsAt xs k).h, .int .i64 (lastsAt xs k).p] 31) = wy at *
        have hsz := BX.lt
        have kx := BX.cell
        have k0 := cell_later HY j0
        have hby := Nat.lt_of_lt_of_le hbl HY.size
        clear BX i0 i1 i2 i3 i4 i5
        refine wp_region_held_drew (S := (fun wz => Below wy.heap.size wy wz ∧ ∀ b o, b < wy.heap.size → wz.cell? ⟨b, o, none⟩ = wy.cell? ⟨b, o, none⟩)) (by kernel_rfl) (old_of (Below.drew (Below.refl _ _))) (fun hHeld => ?_)
        refine wpAnyH_take (i := 0) (oi := ?_) (v := ?_) ?_ (by kernel_rfl) (by kernel_rfl) (by kernel_rfl) ?_ (Or.inl ⟨?_, ?_⟩) (by assumption) ?_
        rotate_left 2
        · (simp only [List.getElem?_toArray, List.getElem?_cons_zero]; rfl)
        · exact fun _ _ _ h => h
        · rfl
        · intro w hSw
          (try dsimp only at hSw)
          go_simp
          try with_reducible rfl
        simp only [put_arr, List.set_cons_zero, List.set_cons_succ]
        refine wpAnyH_ready (rs := [1]) (by kernel_rfl) (by simp) ?_
        refine AllReadyH.cons (o := ?_) ?_ (fun K hK => ?_) AllReadyH.nil
        rotate_left
        · (simp only [List.getElem?_toArray, List.getElem?_cons_zero, List.getElem?_cons_succ]; rfl)
        rw [if_pos (by rfl)]
        go_simp
        (with_reducible refine (validLast_is hs h1').mono ?_)
        rintro e w2 ⟨rfl, hb2⟩
        have HZ := Bl.then (w := wy) (And.left (by assumption)) hb2
        go_wp2_with fail
        refine hK.out _ _ (old_of HZ) (fun hHeld2 => ?_)
        clear hK K hHeld
        have hHeld := hHeld2
        clear hHeld2
        refine wpAnyH_take (i := 2) (oi := ?_) (v := ?_) ?_ (by kernel_rfl) (by kernel_rfl) (by kernel_rfl) ?_ (Or.inl ⟨?_, ?_⟩) (by assumption) ?_
        rotate_left 2
        · (simp only [List.getElem?_toArray, List.getElem?_cons_zero, List.getElem?_cons_succ]; rfl)
        · exact fun _ _ _ h => h
        · rfl
        · intro w hSw
          (try dsimp only at hSw)
          go_simp
          try with_reducible rfl
        simp only [put_arr, List.set_cons_zero, List.set_cons_succ]
        refine wpAnyH_take (i := 3) (oi := ?_) (v := ?_) ?_ (by kernel_rfl) (by kernel_rfl) (by kernel_rfl) ?_ (Or.inl ⟨?_, ?_⟩) (by assumption) ?_
        rotate_left 2
        · (simp only [List.getElem?_toArray, List.getElem?_cons_zero, List.getElem?_cons_succ]; rfl)
        · exact fun _ _ _ h => h
        · rfl
        · intro w hSw
          (try dsimp only at hSw)
          go_simp
          try with_reducible rfl
        simp only [put_arr, List.set_cons_zero, List.set_cons_succ]
        refine wpAnyH_take (i := 4) (oi := ?_) (v := ?_) ?_ (by kernel_rfl) (by kernel_rfl) (by kernel_rfl) ?_ (Or.inl ⟨?_, ?_⟩) (by assumption) ?_
        rotate_left 2
        · (simp only [List.getElem?_toArray, List.getElem?_cons_zero, List.getElem?_cons_succ]; rfl)
        · exact fun _ _ _ h => h
        · rfl
        · intro w hSw
          (try dsimp only at hSw)
          go_simp
          try with_reducible rfl
        simp only [put_arr, List.set_cons_zero, List.set_cons_succ]
        refine wpAnyH_take (i := 5) (oi := ?_) (v := ?_) ?_ (by kernel_rfl) (by kernel_rfl) (by kernel_rfl) ?_ (Or.inl ⟨?_, ?_⟩) (by assumption) ?_
        rotate_left 2
        · (simp only [List.getElem?_toArray, List.getElem?_cons_zero, List.getElem?_cons_succ]; rfl)
        · exact fun _ _ _ h => h
        · rfl
        · intro w hSw
          (try dsimp only at hSw)
          go_simp
          try with_reducible rfl
        simp only [put_arr, List.set_cons_zero, List.set_cons_succ]
        refine wpAnyH_take (i := 6) (oi := ?_) (v := ?_) ?_ (by kernel_rfl) (by kernel_rfl) (by kernel_rfl) ?_ (Or.inl ⟨?_, ?_⟩) (by assumption) ?_
        rotate_left 2
        · (simp only [List.getElem?_toArray, List.getElem?_cons_zero, List.getElem?_cons_succ]; rfl)
        · exact fun _ _ _ h => h
        · rfl
        · intro w hSw
          (try dsimp only at hSw)
          go_simp
          try with_reducible rfl
        simp only [put_arr, List.set_cons_zero, List.set_cons_succ]
        refine wpAnyH_take (i := 7) (oi := ?_) (v := ?_) ?_ (by kernel_rfl) (by kernel_rfl) (by kernel_rfl) ?_ (Or.inl ⟨?_, ?_⟩) (by assumption) ?_
        rotate_left 2
        · (simp only [List.getElem?_toArray, List.getElem?_cons_zero, List.getElem?_cons_succ]; rfl)
        · exact fun _ _ _ h => h
        · rfl
        · intro w hSw
          (try dsimp only at hSw)
          go_simp
          try with_reducible rfl
        simp only [put_arr, List.set_cons_zero, List.set_cons_succ]
        refine wpAnyH_take (i := 8) (oi := ?_) (v := ?_) ?_ (by kernel_rfl) (by kernel_rfl) (by kernel_rfl) ?_ (Or.inl ⟨?_, ?_⟩) (by assumption) ?_
        rotate_left 2
        · (simp only [List.getElem?_toArray, List.getElem?_cons_zero, List.getElem?_cons_succ]; rfl)
        · exact fun _ _ _ h => h
        · rfl
        · intro w hSw
          (try dsimp only at hSw)
          go_simp
          try with_reducible rfl
        simp only [put_arr, List.set_cons_zero, List.set_cons_succ]
        refine wpAnyH_take (i := 9) (oi := ?_) (v := ?_) ?_ (by kernel_rfl) (by kernel_rfl) (by kernel_rfl) ?_ (Or.inl ⟨?_, ?_⟩) (by assumption) ?_
        rotate_left 2
        · (simp only [List.getElem?_toArray, List.getElem?_cons_zero, List.getElem?_cons_succ]; rfl)
        · exact fun _ _ _ h => h
        · rfl
        · intro w hSw
          (try dsimp only at hSw)
          go_simp
          try with_reducible rfl
        simp only [put_arr, List.set_cons_zero, List.set_cons_succ]
        refine wpAnyH_take (i := 10) (oi := ?_) (v := ?_) ?_ (by kernel_rfl) (by kernel_rfl) (by kernel_rfl) ?_ (Or.inl ⟨?_, ?_⟩) (by assumption) ?_
        rotate_left 2
        · (simp only [List.getElem?_toArray, List.getElem?_cons_zero, List.getElem?_cons_succ]; rfl)
        · exact fun _ _ _ h => h
        · rfl
        · intro w hSw
          (try dsimp only at hSw)
          go_simp
          try with_reducible rfl
        simp only [put_arr, List.set_cons_zero, List.set_cons_succ]
        refine wpAnyH_take (i := 11) (oi := ?_) (v := ?_) ?_ (by kernel_rfl) (by kernel_rfl) (by kernel_rfl) ?_ (Or.inl ⟨?_, ?_⟩) (by assumption) ?_
        rotate_left 2
        · (simp only [List.getElem?_toArray, List.getElem?_cons_zero, List.getElem?_cons_succ]; rfl)
        · exact fun _ _ _ h => h
        · rfl
        · intro w hSw
          (try dsimp only at hSw)
          go_simp
          try with_reducible rfl
        simp only [put_arr, List.set_cons_zero, List.set_cons_succ]
        refine wpAnyH_take (i := 12) (oi := ?_) (v := ?_) ?_ (by kernel_rfl) (by kernel_rfl) (by kernel_rfl) ?_ (Or.inl ⟨?_, ?_⟩) (by assumption) ?_
        rotate_left 2
        · (simp only [List.getElem?_toArray, List.getElem?_cons_zero, List.getElem?_cons_succ]; rfl)
        · exact fun _ _ _ h => h
        · rfl
        · intro w hSw
          (try dsimp only at hSw)
          go_simp
          try with_reducible rfl
        simp only [put_arr, List.set_cons_zero, List.set_cons_succ]
        refine wpAnyH_take (i := 13) (oi := ?_) (v := ?_) ?_ (by kernel_rfl) (by kernel_rfl) (by kernel_rfl) ?_ (Or.inl ⟨?_, ?_⟩) (by assumption) ?_
        rotate_left 2
        · (simp only [List.getElem?_toArray, List.getElem?_cons_zero, List.getElem?_cons_succ]; rfl)
        · exact fun _ _ _ h => h
        · rfl
        · intro w hSw
          (try dsimp only at hSw)
          go_simp
          try with_reducible rfl
        simp only [put_arr, List.set_cons_zero, List.set_cons_succ]
        refine wpAnyH_take (i := 14) (oi := ?_) (v := ?_) ?_ (by kernel_rfl) (by kernel_rfl) (by kernel_rfl) ?_ (Or.inl ⟨?_, ?_⟩) (by assumption) ?_
        rotate_left 2
        · (simp only [List.getElem?_toArray, List.getElem?_cons_zero, List.getElem?_cons_succ]; rfl)
        · exact fun _ _ _ h => h
        · rfl
        · intro w hSw
          (try dsimp only at hSw)
          go_simp
          try with_reducible rfl
        simp only [put_arr, List.set_cons_zero, List.set_cons_succ]
        refine wpAnyH_take (i := 15) (oi := ?_) (v := ?_) ?_ (by kernel_rfl) (by kernel_rfl) (by kernel_rfl) ?_ (Or.inl ⟨?_, ?_⟩) (by assumption) ?_
        rotate_left 2
        · (simp only [List.getElem?_toArray, List.getElem?_cons_zero, List.getElem?_cons_succ]; rfl)
        · exact fun _ _ _ h => h
        · rfl
        · intro w hSw
          (try dsimp only at hSw)
          go_simp
          try with_reducible rfl
        simp only [put_arr, List.set_cons_zero, List.set_cons_succ]
        refine wpAnyH_take (i := 16) (oi := ?_) (v := ?_) ?_ (by kernel_rfl) (by kernel_rfl) (by kernel_rfl) ?_ (Or.inl ⟨?_, ?_⟩) (by assumption) ?_
        rotate_left 2
        · (simp only [List.getElem?_toArray, List.getElem?_cons_zero, List.getElem?_cons_succ]; rfl)
        · exact fun _ _ _ h => h
        · rfl
        · intro w hSw
          (try dsimp only at hSw)
          go_simp
          try with_reducible rfl
        simp only [put_arr, List.set_cons_zero, List.set_cons_succ]
        refine wpAnyH_take (i := 17) (oi := ?_) (v := ?_) ?_ (by kernel_rfl) (by kernel_rfl) (by kernel_rfl) ?_ (Or.inl ⟨?_, ?_⟩) (by assumption) ?_
        rotate_left 2
        · (simp only [List.getElem?_toArray, List.getElem?_cons_zero, List.getElem?_cons_succ]; rfl)
        · exact fun _ _ _ h => h
        · rfl
        · intro w hSw
          (try dsimp only at hSw)
          go_simp
          try with_reducible rfl
        simp only [put_arr, List.set_cons_zero, List.set_cons_succ]
        refine wpAnyH_done (by kernel_rfl) ?_ _
        go_wp2_with fail
        go_ret
        exact ⟨ret_bool hr.out.symm, Bl.then HB (Bl.then HY HZ)⟩
      · have hr := Lib.hid (stepOk_3 h1 hpos hnl)
        have hn' : Op.bytesLess (lastsAt xs (k - 1)).s.toList (lastsAt xs k).s.toList = true := hnl
        clear h1 hnl
        go_wp2_with fail
        have HY : Below wr.heap.size wr (wr.alloc (.cells #[.string (lastsAt xs k).s, .int .i64 (lastsAt xs k).l, .int .i64 (lastsAt xs k).b, .int .i64 (lastsAt xs k).i, .int .i64 (lastsAt xs k).h, .int .i64 (lastsAt xs k).p] 31)) := by go_grown
        have BX : Blk (wr.alloc (.cells #[.string (lastsAt xs k).s, .int .i64 (lastsAt xs k).l, .int .i64 (lastsAt xs k).b, .int .i64 (lastsAt xs k).i, .int .i64 (lastsAt xs k).h, .int .i64 (lastsAt xs k).p] 31)) wr.heap.size 31 #[.string (lastsAt xs k).s, .int .i64 (lastsAt xs k).l, .int .i64 (lastsAt xs k).b, .int .i64 (lastsAt xs k).i, .int .i64 (lastsAt xs k).h, .int .i64 (lastsAt xs k).p] := Blk.new _ _ _
        generalize wr.alloc (.cells #[.string (lastsAt xs k).s, .int .i64 (lastsAt xs k).l, .int .i64 (lastsAt xs k).b, .int .i64 (lastsAt xs k).i, .int .i64 (lastsAt xs k).h, .int .i64 (lastsAt xs k).p] 31) = wy at *
        have hsz := BX.lt
        have kx := BX.cell
        have k0 := cell_later HY j0
        have hby := Nat.lt_of_lt_of_le hbl HY.size
        clear BX i0 i1 i2 i3 i4 i5
        refine wp_region_held_drew (S := (fun wz => Below wy.heap.size wy wz ∧ ∀ b o, b < wy.heap.size → wz.cell? ⟨b, o, none⟩ = wy.cell? ⟨b, o, none⟩)) (by kernel_rfl) (old_of (Below.drew (Below.refl _ _))) (fun hHeld => ?_)
        refine wpAnyH_take (i := 0) (oi := ?_) (v := ?_) ?_ (by kernel_rfl) (by kernel_rfl) (by kernel_rfl) ?_ (Or.inl ⟨?_, ?_⟩) (by assumption) ?_
        rotate_left 2
        · (simp only [List.getElem?_toArray, List.getElem?_cons_zero]; rfl)
        · exact fun _ _ _ h => h
        · rfl
        · intro w hSw
          (try dsimp only at hSw)
          go_simp
          try with_reducible rfl
        simp only [put_arr, List.set_cons_zero, List.set_cons_succ]
        refine wpAnyH_ready (rs := [1]) (by kernel_rfl) (by simp) ?_
        refine AllReadyH.cons (o := ?_) ?_ (fun K hK => ?_) AllReadyH.nil
        rotate_left
        · (simp only [List.getElem?_toArray, List.getElem?_cons_zero, List.getElem?_cons_succ]; rfl)
        rw [if_pos (by rfl)]
        go_simp
        (with_reducible refine (validLast_is hs h1').mono ?_)
        rintro e w2 ⟨rfl, hb2⟩
        have HZ := Bl.then (w := wy) (And.left (by assumption)) hb2
        go_wp2_with fail
        refine hK.out _ _ (old_of HZ) (fun hHeld2 => ?_)
        clear hK K hHeld
        have hHeld := hHeld2
        clear hHeld2
        refine wpAnyH_take (i := 2) (oi := ?_) (v := ?_) ?_ (by kernel_rfl) (by kernel_rfl) (by kernel_rfl) ?_ (Or.inl ⟨?_, ?_⟩) (by assumption) ?_
        rotate_left 2
        · (simp only [List.getElem?_toArray, List.getElem?_cons_zero, List.getElem?_cons_succ]; rfl)
        · exact fun _ _ _ h => h
        · rfl
        · intro w hSw
          (try dsimp only at hSw)
          go_simp
          try with_reducible rfl
        simp only [put_arr, List.set_cons_zero, List.set_cons_succ]
        refine wpAnyH_take (i := 3) (oi := ?_) (v := ?_) ?_ (by kernel_rfl) (by kernel_rfl) (by kernel_rfl) ?_ (Or.inl ⟨?_, ?_⟩) (by assumption) ?_
        rotate_left 2
        · (simp only [List.getElem?_toArray, List.getElem?_cons_zero, List.getElem?_cons_succ]; rfl)
        · exact fun _ _ _ h => h
        · rfl
        · intro w hSw
          (try dsimp only at hSw)
          go_simp
          try with_reducible rfl
        simp only [put_arr, List.set_cons_zero, List.set_cons_succ]
        refine wpAnyH_take (i := 4) (oi := ?_) (v := ?_) ?_ (by kernel_rfl) (by kernel_rfl) (by kernel_rfl) ?_ (Or.inl ⟨?_, ?_⟩) (by assumption) ?_
        rotate_left 2
        · (simp only [List.getElem?_toArray, List.getElem?_cons_zero, List.getElem?_cons_succ]; rfl)
        · exact fun _ _ _ h => h
        · rfl
        · intro w hSw
          (try dsimp only at hSw)
          go_simp
          try with_reducible rfl
        simp only [put_arr, List.set_cons_zero, List.set_cons_succ]
        refine wpAnyH_take (i := 5) (oi := ?_) (v := ?_) ?_ (by kernel_rfl) (by kernel_rfl) (by kernel_rfl) ?_ (Or.inl ⟨?_, ?_⟩) (by assumption) ?_
        rotate_left 2
        · (simp only [List.getElem?_toArray, List.getElem?_cons_zero, List.getElem?_cons_succ]; rfl)
        · exact fun _ _ _ h => h
        · rfl
        · intro w hSw
          (try dsimp only at hSw)
          go_simp
          try with_reducible rfl
        simp only [put_arr, List.set_cons_zero, List.set_cons_succ]
        refine wpAnyH_take (i := 6) (oi := ?_) (v := ?_) ?_ (by kernel_rfl) (by kernel_rfl) (by kernel_rfl) ?_ (Or.inl ⟨?_, ?_⟩) (by assumption) ?_
        rotate_left 2
        · (simp only [List.getElem?_toArray, List.getElem?_cons_zero, List.getElem?_cons_succ]; rfl)
        · exact fun _ _ _ h => h
        · rfl
        · intro w hSw
          (try dsimp only at hSw)
          go_simp
          try with_reducible rfl
        simp only [put_arr, List.set_cons_zero, List.set_cons_succ]
        refine wpAnyH_take (i := 7) (oi := ?_) (v := ?_) ?_ (by kernel_rfl) (by kernel_rfl) (by kernel_rfl) ?_ (Or.inl ⟨?_, ?_⟩) (by assumption) ?_
        rotate_left 2
        · (simp only [List.getElem?_toArray, List.getElem?_cons_zero, List.getElem?_cons_succ]; rfl)
        · exact fun _ _ _ h => h
        · rfl
        · intro w hSw
          (try dsimp only at hSw)
          go_simp
          try with_reducible rfl
        simp only [put_arr, List.set_cons_zero, List.set_cons_succ]
        refine wpAnyH_take (i := 8) (oi := ?_) (v := ?_) ?_ (by kernel_rfl) (by kernel_rfl) (by kernel_rfl) ?_ (Or.inl ⟨?_, ?_⟩) (by assumption) ?_
        rotate_left 2
        · (simp only [List.getElem?_toArray, List.getElem?_cons_zero, List.getElem?_cons_succ]; rfl)
        · exact fun _ _ _ h => h
        · rfl
        · intro w hSw
          (try dsimp only at hSw)
          go_simp
          try with_reducible rfl
        simp only [put_arr, List.set_cons_zero, List.set_cons_succ]
        refine wpAnyH_take (i := 9) (oi := ?_) (v := ?_) ?_ (by kernel_rfl) (by kernel_rfl) (by kernel_rfl) ?_ (Or.inl ⟨?_, ?_⟩) (by assumption) ?_
        rotate_left 2
        · (simp only [List.getElem?_toArray, List.getElem?_cons_zero, List.getElem?_cons_succ]; rfl)
        · exact fun _ _ _ h => h
        · rfl
        · intro w hSw
          (try dsimp only at hSw)
          go_simp
          try with_reducible rfl
        simp only [put_arr, List.set_cons_zero, List.set_cons_succ]
        refine wpAnyH_take (i := 10) (oi := ?_) (v := ?_) ?_ (by kernel_rfl) (by kernel_rfl) (by kernel_rfl) ?_ (Or.inl ⟨?_, ?_⟩) (by assumption) ?_
        rotate_left 2
        · (simp only [List.getElem?_toArray, List.getElem?_cons_zero, List.getElem?_cons_succ]; rfl)
        · exact fun _ _ _ h => h
        · rfl
        · intro w hSw
          (try dsimp only at hSw)
          go_simp
          try with_reducible rfl
        simp only [put_arr, List.set_cons_zero, List.set_cons_succ]
        refine wpAnyH_take (i := 11) (oi := ?_) (v := ?_) ?_ (by kernel_rfl) (by kernel_rfl) (by kernel_rfl) ?_ (Or.inl ⟨?_, ?_⟩) (by assumption) ?_
        rotate_left 2
        · (simp only [List.getElem?_toArray, List.getElem?_cons_zero, List.getElem?_cons_succ]; rfl)
        · exact fun _ _ _ h => h
        · rfl
        · intro w hSw
          (try dsimp only at hSw)
          go_simp
          try with_reducible rfl
        simp only [put_arr, List.set_cons_zero, List.set_cons_succ]
        refine wpAnyH_take (i := 12) (oi := ?_) (v := ?_) ?_ (by kernel_rfl) (by kernel_rfl) (by kernel_rfl) ?_ (Or.inl ⟨?_, ?_⟩) (by assumption) ?_
        rotate_left 2
        · (simp only [List.getElem?_toArray, List.getElem?_cons_zero, List.getElem?_cons_succ]; rfl)
        · exact fun _ _ _ h => h
        · rfl
        · intro w hSw
          (try dsimp only at hSw)
          go_simp
          try with_reducible rfl
        simp only [put_arr, List.set_cons_zero, List.set_cons_succ]
        refine wpAnyH_take (i := 13) (oi := ?_) (v := ?_) ?_ (by kernel_rfl) (by kernel_rfl) (by kernel_rfl) ?_ (Or.inl ⟨?_, ?_⟩) (by assumption) ?_
        rotate_left 2
        · (simp only [List.getElem?_toArray, List.getElem?_cons_zero, List.getElem?_cons_succ]; rfl)
        · exact fun _ _ _ h => h
        · rfl
        · intro w hSw
          (try dsimp only at hSw)
          go_simp
          try with_reducible rfl
        simp only [put_arr, List.set_cons_zero, List.set_cons_succ]
        refine wpAnyH_take (i := 14) (oi := ?_) (v := ?_) ?_ (by kernel_rfl) (by kernel_rfl) (by kernel_rfl) ?_ (Or.inl ⟨?_, ?_⟩) (by assumption) ?_
        rotate_left 2
        · (simp only [List.getElem?_toArray, List.getElem?_cons_zero, List.getElem?_cons_succ]; rfl)
        · exact fun _ _ _ h => h
        · rfl
        · intro w hSw
          (try dsimp only at hSw)
          go_simp
          try with_reducible rfl
        simp only [put_arr, List.set_cons_zero, List.set_cons_succ]
        refine wpAnyH_take (i := 15) (oi := ?_) (v := ?_) ?_ (by kernel_rfl) (by kernel_rfl) (by kernel_rfl) ?_ (Or.inl ⟨?_, ?_⟩) (by assumption) ?_
        rotate_left 2
        · (simp only [List.getElem?_toArray, List.getElem?_cons_zero, List.getElem?_cons_succ]; rfl)
        · exact fun _ _ _ h => h
        · rfl
        · intro w hSw
          (try dsimp only at hSw)
          go_simp
          try with_reducible rfl
        simp only [put_arr, List.set_cons_zero, List.set_cons_succ]
        refine wpAnyH_take (i := 16) (oi := ?_) (v := ?_) ?_ (by kernel_rfl) (by kernel_rfl) (by kernel_rfl) ?_ (Or.inl ⟨?_, ?_⟩) (by assumption) ?_
        rotate_left 2
        · (simp only [List.getElem?_toArray, List.getElem?_cons_zero, List.getElem?_cons_succ]; rfl)
        · exact fun _ _ _ h => h
        · rfl
        · intro w hSw
          (try dsimp only at hSw)
          go_simp
          try with_reducible rfl
        simp only [put_arr, List.set_cons_zero, List.set_cons_succ]
        refine wpAnyH_take (i := 17) (oi := ?_) (v := ?_) ?_ (by kernel_rfl) (by kernel_rfl) (by kernel_rfl) ?_ (Or.inl ⟨?_, ?_⟩) (by assumption) ?_
        rotate_left 2
        · (simp only [List.getElem?_toArray, List.getElem?_cons_zero, List.getElem?_cons_succ]; rfl)
        · exact fun _ _ _ h => h
        · rfl
        · intro w hSw
          (try dsimp only at hSw)
          go_simp
          try with_reducible rfl
        simp only [put_arr, List.set_cons_zero, List.set_cons_succ]
        refine wpAnyH_done (by kernel_rfl) ?_ _
        go_wp2_with fail
        go_roundw
        case rel => exact ⟨k + 1, by omega, hall.snoc hr.out, by go_num, Bl.then HB (Bl.then HY HZ)⟩
        case measure => simp [intOf]; omega
    · obtain rfl : k = n := by omega
      have hr := Lib.hid (show lastsOk xs = decide (k ≤ 30) by rw [lastsOk, AllL.all (fun j hj => hall j (by have := hlen.out; omega)), hlen.out]; simp)
      go_wp2_with fail
      go_ret
      exact ⟨ret_bool (by rw [hr.out, Bool.eq_iff_iff]; simp; try omega), HB⟩
set_option maxRecDepth 100000 in
theorem l04Ok_any (A : Option Addr) (n c : Nat) (xs : List LastD) (w : World) (h : Rd w 6 A n (lasts xs)) (hn : n ≤ 9223372036854775807) (hx : ∀ x ∈ xs, x.s.size ≤ maxLen) :
    Calls Try.prog 13 #[.slice A n c] w fun e w' => e = .returned (.bool (lastsOk xs)) ∧ Below w.heap.size w w' := by
  have hlen := Lib.hid h.lasts_length
  have hx' := Lib.hid hx
  clear hx
  go_enter Try.func13, Try.ntmps13
  go_wp2_with fail
  go_loopw [3] (fun i wr => ∃ k : Nat, k ≤ n ∧ AllL xs k ∧ i = .int .i64 k ∧ Below w.heap.size w wr) (fun i _ => n - (intOf i).toNat)
  case atStart => exact ⟨0, by omega, fun j h1 => by omega, rfl, Below.refl _ _⟩
  case round =>
    obtain ⟨k, hk, hall, rfl, HB⟩ := hrel
    by_cases hlt : k < n
    · have hkl := Lib.hid (show k < xs.length by rw [hlen.out]; exact hlt)
      have hs := lastsAt_s hx'.out k
      cases h1 : lOk (lastsAt xs k)
      · have h1' : lastOk (lastsAt xs k).s (lastsAt xs k).l (lastsAt xs k).b (lastsAt xs k).i (lastsAt xs k).h (lastsAt xs k).p = false := h1
        have hr := Lib.hid (lasts_no hkl.out (stepOk_1 h1))
        clear h1
        obtain ⟨b, off, rfl, hbl, i0, i1, i2, i3, i4, i5⟩ := (h.below HB).lasts hlt
        go_wp2_with fail
        refine wp_region_held_drew (S := (fun wz => Below wr.heap.size wr wz ∧ ∀ b o, b < wr.heap.size → wz.cell? ⟨b, o, none⟩ = wr.cell? ⟨b, o, none⟩)) (by kernel_rfl) (old_of (Below.drew (Below.refl _ _))) (fun hHeld => ?_)
        refine wpAnyH_take (i := 0) (oi := ?_) (v := ?_) ?_ (by kernel_rfl) (by kernel_rfl) (by kernel_rfl) ?_ (Or.inl ⟨?_, ?_⟩) (by assumption) ?_
        rotate_left 2
        · (simp only [List.getElem?_toArray, List.getElem?_cons_zero]; rfl)
        · exact fun _ _ _ h => h
        · rfl
        · intro w hSw
          (try dsimp only at hSw)
          go_simp
          try with_reducible rfl
        simp only [put_arr, List.set_cons_zero, List.set_cons_succ]
        refine wpAnyH_take (i := 1) (oi := ?_) (v := ?_) ?_ (by kernel_rfl) (by kernel_rfl) (by kernel_rfl) ?_ (Or.inl ⟨?_, ?_⟩) (by assumption) ?_
        rotate_left 2
        · (simp only [List.getElem?_toArray, List.getElem?_cons_zero, List.getElem?_cons_succ]; rfl)
        · exact fun _ _ _ h => h
        · rfl
        · intro w hSw
          (try dsimp only at hSw)
          go_simp
          try with_reducible rfl
        simp only [put_arr, List.set_cons_zero, List.set_cons_succ]
        refine wpAnyH_take (i := 2) (oi := ?_) (v := ?_) ?_ (by kernel_rfl) (by kernel_rfl) (by kernel_rfl) ?_ (Or.inl ⟨?_, ?_⟩) (by assumption) ?_
        rotate_left 2
        · (simp only [List.getElem?_toArray, List.getElem?_cons_zero, List.getElem?_cons_succ]; rfl)
        · exact fun _ _ _ h => h
        · rfl
        · intro w hSw
          (try dsimp only at hSw)
          go_simp
          try with_reducible rfl
        simp only [put_arr, List.set_cons_zero, List.set_cons_succ]
        refine wpAnyH_take (i := 3) (oi := ?_) (v := ?_) ?_ (by kernel_rfl) (by kernel_rfl) (by kernel_rfl) ?_ (Or.inl ⟨?_, ?_⟩) (by assumption) ?_
        rotate_left 2
        · (simp only [List.getElem?_toArray, List.getElem?_cons_zero, List.getElem?_cons_succ]; rfl)
        · exact fun _ _ _ h => h
        · rfl
        · intro w hSw
          (try dsimp only at hSw)
          go_simp
          try with_reducible rfl
        simp only [put_arr, List.set_cons_zero, List.set_cons_succ]
        refine wpAnyH_ready (rs := [4]) (by kernel_rfl) (by simp) ?_
        refine AllReadyH.cons (o := ?_) ?_ (fun K hK => ?_) AllReadyH.nil
        rotate_left
        · (simp only [List.getElem?_toArray, List.getElem?_cons_zero, List.getElem?_cons_succ]; rfl)
        rw [if_pos (by rfl)]
        go_simp
        (with_reducible refine (l04One_is hs h1').mono ?_)
        rintro e w2 ⟨rfl, hb2⟩
        have HZ := Bl.then (w := wr) (And.left (by assumption)) hb2
        go_wp2_with fail
        refine hK.out _ _ (old_of HZ) (fun hHeld2 => ?_)
        clear hK K hHeld
        have hHeld := hHeld2
        clear hHeld2
        refine wpAnyH_take (i := 5) (oi := ?_) (v := ?_) ?_ (by kernel_rfl) (by kernel_rfl) (by kernel_rfl) ?_ (Or.inl ⟨?_, ?_⟩) (by assumption) ?_
        rotate_left 2
        · (simp only [List.getElem?_toArray, List.getElem?_cons_zero, List.getElem?_cons_succ]; rfl)
        · exact fun _ _ _ h => h
        · rfl
        · intro w hSw
          (try dsimp only at hSw)
          go_simp
          try with_reducible rfl
        simp only [put_arr, List.set_cons_zero, List.set_cons_succ]
        refine wpAnyH_take (i := 6) (oi := ?_) (v := ?_) ?_ (by kernel_rfl) (by kernel_rfl) (by kernel_rfl) ?_ (Or.inl ⟨?_, ?_⟩) (by assumption) ?_
        rotate_left 2
        · (simp only [List.getElem?_toArray, List.getElem?_cons_zero, List.getElem?_cons_succ]; rfl)
        · exact fun _ _ _ h => h
        · rfl
        · intro w hSw
          (try dsimp only at hSw)
          go_simp
          try with_reducible rfl
        simp only [put_arr, List.set_cons_zero, List.set_cons_succ]
        refine wpAnyH_take (i := 7) (oi := ?_) ?_ (by kernel_rfl) (by kernel_rfl) (by kernel_rfl) ?_ (Or.inr ⟨?_, rfl⟩) (by assumption) ?_
        rotate_left 1
        · (simp only [List.getElem?_toArray, List.getElem?_cons_zero, List.getElem?_cons_succ]; rfl)
        · exact fun _ _ _ h => h
        · rfl
        simp only [put_arr, List.set_cons_zero, List.set_cons_succ]
        refine wpAnyH_take (i := 8) (oi := ?_) ?_ (by kernel_rfl) (by kernel_rfl) (by kernel_rfl) ?_ (Or.inr ⟨?_, rfl⟩) (by assumption) ?_
        rotate_left 1
        · (simp only [List.getElem?_toArray, List.getElem?_cons_zero, List.getElem?_cons_succ]; rfl)
        · exact fun _ _ _ h => h
        · rfl
        simp only [put_arr, List.set_cons_zero, List.set_cons_succ]
        refine wpAnyH_take (i := 9) (oi := ?_) ?_ (by kernel_rfl) (by kernel_rfl) (by kernel_rfl) ?_ (Or.inr ⟨?_, rfl⟩) (by assumption) ?_
        rotate_left 1
        · (simp only [List.getElem?_toArray, List.getElem?_cons_zero, List.getElem?_cons_succ]; rfl)
        · exact fun _ _ _ h => h
        · rfl
        simp only [put_arr, List.set_cons_zero, List.set_cons_succ]
        refine wpAnyH_take (i := 10) (oi := ?_) ?_ (by kernel_rfl) (by kernel_rfl) (by kernel_rfl) ?_ (Or.inr ⟨?_, rfl⟩) (by assumption) ?_
        rotate_left 1
        · (simp only [List.getElem?_toArray, List.getElem?_cons_zero, List.getElem?_cons_succ]; rfl)
        · exact fun _ _ _ h => h
        · rfl
        simp only [put_arr, List.set_cons_zero, List.set_cons_succ]
        refine wpAnyH_take (i := 11) (oi := ?_) ?_ (by kernel_rfl) (by kernel_rfl) (by kernel_rfl) ?_ (Or.inr ⟨?_, rfl⟩) (by assumption) ?_
        rotate_left 1
        · (simp only [List.getElem?_toArray, List.getElem?_cons_zero, List.getElem?_cons_succ]; rfl)
        · exact fun _ _ _ h => h
        · rfl
        simp only [put_arr, List.set_cons_zero, List.set_cons_succ]
        refine wpAnyH_take (i := 12) (oi := ?_) ?_ (by kernel_rfl) (by kernel_rfl) (by kernel_rfl) ?_ (Or.inr ⟨?_, rfl⟩) (by assumption) ?_
        rotate_left 1
        · (simp only [List.getElem?_toArray, List.getElem?_cons_zero, List.getElem?_cons_succ]; rfl)
        · exact fun _ _ _ h => h
        · rfl
        simp only [put_arr, List.set_cons_zero, List.set_cons_succ]
        refine wpAnyH_take (i := 13) (oi := ?_) ?_ (by kernel_rfl) (by kernel_rfl) (by kernel_rfl) ?_ (Or.inr ⟨?_, rfl⟩) (by assumption) ?_
        rotate_left 1
        · (simp only [List.getElem?_toArray, List.getElem?_cons_zero, List.getElem?_cons_succ]; rfl)
        · exact fun _ _ _ h => h
        · rfl
        simp only [put_arr, List.set_cons_zero, List.set_cons_succ]
        refine wpAnyH_take (i := 14) (oi := ?_) ?_ (by kernel_rfl) (by kernel_rfl) (by kernel_rfl) ?_ (Or.inr ⟨?_, rfl⟩) (by assumption) ?_
        rotate_left 1
        · (simp only [List.getElem?_toArray, List.getElem?_cons_zero, List.getElem?_cons_succ]; rfl)
        · exact fun _ _ _ h => h
        · rfl
        simp only [put_arr, List.set_cons_zero, List.set_cons_succ]
        refine wpAnyH_take (i := 15) (oi := ?_) ?_ (by kernel_rfl) (by kernel_rfl) (by kernel_rfl) ?_ (Or.inr ⟨?_, rfl⟩) (by assumption) ?_
        rotate_left 1
        · (simp only [List.getElem?_toArray, List.getElem?_cons_zero, List.getElem?_cons_succ]; rfl)
        · exact fun _ _ _ h => h
        · rfl
        simp only [put_arr, List.set_cons_zero, List.set_cons_succ]
        refine wpAnyH_take (i := 16) (oi := ?_) ?_ (by kernel_rfl) (by kernel_rfl) (by kernel_rfl) ?_ (Or.inr ⟨?_, rfl⟩) (by assumption) ?_
        rotate_left 1
        · (simp only [List.getElem?_toArray, List.getElem?_cons_zero, List.getElem?_cons_succ]; rfl)
        · exact fun _ _ _ h => h
        · rfl
        simp only [put_arr, List.set_cons_zero, List.set_cons_succ]
        refine wpAnyH_take (i := 17) (oi := ?_) ?_ (by kernel_rfl) (by kernel_rfl) (by kernel_rfl) ?_ (Or.inr ⟨?_, rfl⟩) (by assumption) ?_
        rotate_left 1
        · (simp only [List.getElem?_toArray, List.getElem?_cons_zero, List.getElem?_cons_succ]; rfl)
        · exact fun _ _ _ h => h
        · rfl
        simp only [put_arr, List.set_cons_zero, List.set_cons_succ]
        refine wpAnyH_take (i := 18) (oi := ?_) ?_ (by kernel_rfl) (by kernel_rfl) (by kernel_rfl) ?_ (Or.inr ⟨?_, rfl⟩) (by assumption) ?_
        rotate_left 1
        · (simp only [List.getElem?_toArray, List.getElem?_cons_zero, List.getElem?_cons_succ]; rfl)
        · exact fun _ _ _ h => h
        · rfl
        simp only [put_arr, List.set_cons_zero, List.set_cons_succ]
        refine wpAnyH_take (i := 19) (oi := ?_) ?_ (by kernel_rfl) (by kernel_rfl) (by kernel_rfl) ?_ (Or.inr ⟨?_, rfl⟩) (by assumption) ?_
        rotate_left 1
        · (simp only [List.getElem?_toArray, List.getElem?_cons_zero, List.getElem?_cons_succ]; rfl)
        · exact fun _ _ _ h => h
        · rfl
        simp only [put_arr, List.set_cons_zero, List.set_cons_succ]
        refine wpAnyH_take (i := 20) (oi := ?_) ?_ (by kernel_rfl) (by kernel_rfl) (by kernel_rfl) ?_ (Or.inr ⟨?_, rfl⟩) (by assumption) ?_
        rotate_left 1
        · (simp only [List.getElem?_toArray, List.getElem?_cons_zero, List.getElem?_cons_succ]; rfl)
        · exact fun _ _ _ h => h
        · rfl
        simp only [put_arr, List.set_cons_zero, List.set_cons_succ]
        refine wpAnyH_take (i := 21) (oi := ?_) ?_ (by kernel_rfl) (by kernel_rfl) (by kernel_rfl) ?_ (Or.inr ⟨?_, rfl⟩) (by assumption) ?_
        rotate_left 1
        · (simp only [List.getElem?_toArray, List.getElem?_cons_zero, List.getElem?_cons_succ]; rfl)
        · exact fun _ _ _ h => h
        · rfl
        simp only [put_arr, List.set_cons_zero, List.set_cons_succ]
        refine wpAnyH_take (i := 22) (oi := ?_) ?_ (by kernel_rfl) (by kernel_rfl) (by kernel_rfl) ?_ (Or.inr ⟨?_, rfl⟩) (by assumption) ?_
        rotate_left 1
        · (simp only [List.getElem?_toArray, List.getElem?_cons_zero, List.getElem?_cons_succ]; rfl)
        · exact fun _ _ _ h => h
        · rfl
        simp only [put_arr, List.set_cons_zero, List.set_cons_succ]
        refine wpAnyH_take (i := 23) (oi := ?_) (v := ?_) ?_ (by kernel_rfl) (by kernel_rfl) (by kernel_rfl) ?_ (Or.inl ⟨?_, ?_⟩) (by assumption) ?_
        rotate_left 2
        · (simp only [List.getElem?_toArray, List.getElem?_cons_zero, List.getElem?_cons_succ]; rfl)
        · exact fun _ _ _ h => h
        · rfl
        · intro w hSw
          (try dsimp only at hSw)
          go_simp
          try with_reducible rfl
        simp only [put_arr, List.set_cons_zero, List.set_cons_succ]
        refine wpAnyH_done (by kernel_rfl) ?_ _
        go_wp2_with fail
        go_ret
        exact ⟨ret_bool hr.out.symm, Bl.then HB HZ⟩
      have h1' : lastOk (lastsAt xs k).s (lastsAt xs k).l (lastsAt xs k).b (lastsAt xs k).i (lastsAt xs k).h (lastsAt xs k).p = true := h1
      rcases Nat.eq_zero_or_pos k with rfl | hpos
      · have hr := Lib.hid (stepOk_2 h1)
        clear h1
        obtain ⟨b, off, rfl, hbl, i0, i1, i2, i3, i4, i5⟩ := (h.below HB).lasts hlt
        simp only [Nat.zero_mul, Nat.add_zero] at i0 i1 i2 i3 i4 i5
        go_wp2_with fail
        refine wp_region_held_drew (S := (fun wz => Below wr.heap.size wr wz ∧ ∀ b o, b < wr.heap.size → wz.cell? ⟨b, o, none⟩ = wr.cell? ⟨b, o, none⟩)) (by kernel_rfl) (old_of (Below.drew (Below.refl _ _))) (fun hHeld => ?_)
        refine wpAnyH_take (i := 0) (oi := ?_) (v := ?_) ?_ (by kernel_rfl) (by kernel_rfl) (by kernel_rfl) ?_ (Or.inl ⟨?_, ?_⟩) (by assumption) ?_
        rotate_left 2
        · (simp only [List.getElem?_toArray, List.getElem?_cons_zero]; rfl)
        · exact fun _ _ _ h => h
        · rfl
        · intro w hSw
          (try dsimp only at hSw)
          go_simp
          try with_reducible rfl
        simp only [put_arr, List.set_cons_zero, List.set_cons_succ]
        refine wpAnyH_take (i := 1) (oi := ?_) (v := ?_) ?_ (by kernel_rfl) (by kernel_rfl) (by kernel_rfl) ?_ (Or.inl ⟨?_, ?_⟩) (by assumption) ?_
        rotate_left 2
        · (simp only [List.getElem?_toArray, List.getElem?_cons_zero, List.getElem?_cons_succ]; rfl)
        · exact fun _ _ _ h => h
        · rfl
        · intro w hSw
          (try dsimp only at hSw)
          go_simp
          try with_reducible rfl
        simp only [put_arr, List.set_cons_zero, List.set_cons_succ]
        refine wpAnyH_take (i := 2) (oi := ?_) (v := ?_) ?_ (by kernel_rfl) (by kernel_rfl) (by kernel_rfl) ?_ (Or.inl ⟨?_, ?_⟩) (by assumption) ?_
        rotate_left 2
        · (simp only [List.getElem?_toArray, List.getElem?_cons_zero, List.getElem?_cons_succ]; rfl)
        · exact fun _ _ _ h => h
        · rfl
        · intro w hSw
          (try dsimp only at hSw)
          go_simp
          try with_reducible rfl
        simp only [put_arr, List.set_cons_zero, List.set_cons_succ]
        refine wpAnyH_take (i := 3) (oi := ?_) (v := ?_) ?_ (by kernel_rfl) (by kernel_rfl) (by kernel_rfl) ?_ (Or.inl ⟨?_, ?_⟩) (by assumption) ?_
        rotate_left 2
        · (simp only [List.getElem?_toArray, List.getElem?_cons_zero, List.getElem?_cons_succ]; rfl)
        · exact fun _ _ _ h => h
        · rfl
        · intro w hSw
          (try dsimp only at hSw)
          go_simp
          try with_reducible rfl
        simp only [put_arr, List.set_cons_zero, List.set_cons_succ]
        refine wpAnyH_ready (rs := [4]) (by kernel_rfl) (by simp) ?_
        refine AllReadyH.cons (o := ?_) ?_ (fun K hK => ?_) AllReadyH.nil
        rotate_left
        · (simp only [List.getElem?_toArray, List.getElem?_cons_zero, List.getElem?_cons_succ]; rfl)
        rw [if_pos (by rfl)]
        go_simp
        (with_reducible refine (l04One_is hs h1').mono ?_)
        rintro e w2 ⟨rfl, hb2⟩
        have HZ := Bl.then (w := wr) (And.left (by assumption)) hb2
        go_wp2_with fail
        refine hK.out _ _ (old_of HZ) (fun hHeld2 => ?_)
        clear hK K hHeld
        have hHeld := hHeld2
        clear hHeld2
        refine wpAnyH_take (i := 5) (oi := ?_) (v := ?_) ?_ (by kernel_rfl) (by kernel_rfl) (by kernel_rfl) ?_ (Or.inl ⟨?_, ?_⟩) (by assumption) ?_
        rotate_left 2
        · (simp only [List.getElem?_toArray, List.getElem?_cons_zero, List.getElem?_cons_succ]; rfl)
        · exact fun _ _ _ h => h
        · rfl
        · intro w hSw
          (try dsimp only at hSw)
          go_simp
          try with_reducible rfl
        simp only [put_arr, List.set_cons_zero, List.set_cons_succ]
        refine wpAnyH_take (i := 6) (oi := ?_) (v := ?_) ?_ (by kernel_rfl) (by kernel_rfl) (by kernel_rfl) ?_ (Or.inl ⟨?_, ?_⟩) (by assumption) ?_
        rotate_left 2
        · (simp only [List.getElem?_toArray, List.getElem?_cons_zero, List.getElem?_cons_succ]; rfl)
        · exact fun _ _ _ h => h
        · rfl
        · intro w hSw
          (try dsimp only at hSw)
          go_simp
          try with_reducible rfl
        simp only [put_arr, List.set_cons_zero, List.set_cons_succ]
        refine wpAnyH_take (i := 7) (oi := ?_) (v := ?_) ?_ (by kernel_rfl) (by kernel_rfl) (by kernel_rfl) ?_ (Or.inl ⟨?_, ?_⟩) (by assumption) ?_
        rotate_left 2
        · (simp only [List.getElem?_toArray, List.getElem?_cons_zero, List.getElem?_cons_succ]; rfl)
        · exact fun _ _ _ h => h
        · rfl
        · intro w hSw
          (try dsimp only at hSw)
          go_simp
          try with_reducible rfl
        simp only [put_arr, List.set_cons_zero, List.set_cons_succ]
        refine wpAnyH_take (i := 8) (oi := ?_) (v := ?_) ?_ (by kernel_rfl) (by kernel_rfl) (by kernel_rfl) ?_ (Or.inl ⟨?_, ?_⟩) (by assumption) ?_
        rotate_left 2
        · (simp only [List.getElem?_toArray, List.getElem?_cons_zero, List.getElem?_cons_succ]; rfl)
        · exact fun _ _ _ h => h
        · rfl
        · intro w hSw
          (try dsimp only at hSw)
          go_simp
          try with_reducible rfl
        simp only [put_arr, List.set_cons_zero, List.set_cons_succ]
        refine wpAnyH_take (i := 9) (oi := ?_) (v := ?_) ?_ (by kernel_rfl) (by kernel_rfl) (by kernel_rfl) ?_ (Or.inl ⟨?_, ?_⟩) (by assumption) ?_
        rotate_left 2
        · (simp only [List.getElem?_toArray, List.getElem?_cons_zero, List.getElem?_cons_succ]; rfl)
        · exact fun _ _ _ h => h
        · rfl
        · intro w hSw
          (try dsimp only at hSw)
          go_simp
          try with_reducible rfl
        simp only [put_arr, List.set_cons_zero, List.set_cons_succ]
        refine wpAnyH_take (i := 10) (oi := ?_) ?_ (by kernel_rfl) (by kernel_rfl) (by kernel_rfl) ?_ (Or.inr ⟨?_, rfl⟩) (by assumption) ?_
        rotate_left 1
        · (simp only [List.getElem?_toArray, List.getElem?_cons_zero, List.getElem?_cons_succ]; rfl)
        · exact fun _ _ _ h => h
        · rfl
        simp only [put_arr, List.set_cons_zero, List.set_cons_succ]
        refine wpAnyH_take (i := 11) (oi := ?_) ?_ (by kernel_rfl) (by kernel_rfl) (by kernel_rfl) ?_ (Or.inr ⟨?_, rfl⟩) (by assumption) ?_
        rotate_left 1
        · (simp only [List.getElem?_toArray, List.getElem?_cons_zero, List.getElem?_cons_succ]; rfl)
        · exact fun _ _ _ h => h
        · rfl
        simp only [put_arr, List.set_cons_zero, List.set_cons_succ]
        refine wpAnyH_take (i := 12) (oi := ?_) ?_ (by kernel_rfl) (by kernel_rfl) (by kernel_rfl) ?_ (Or.inr ⟨?_, rfl⟩) (by assumption) ?_
        rotate_left 1
        · (simp only [List.getElem?_toArray, List.getElem?_cons_zero, List.getElem?_cons_succ]; rfl)
        · exact fun _ _ _ h => h
        · rfl
        simp only [put_arr, List.set_cons_zero, List.set_cons_succ]
        refine wpAnyH_take (i := 13) (oi := ?_) ?_ (by kernel_rfl) (by kernel_rfl) (by kernel_rfl) ?_ (Or.inr ⟨?_, rfl⟩) (by assumption) ?_
        rotate_left 1
        · (simp only [List.getElem?_toArray, List.getElem?_cons_zero, List.getElem?_cons_succ]; rfl)
        · exact fun _ _ _ h => h
        · rfl
        simp only [put_arr, List.set_cons_zero, List.set_cons_succ]
        refine wpAnyH_take (i := 14) (oi := ?_) ?_ (by kernel_rfl) (by kernel_rfl) (by kernel_rfl) ?_ (Or.inr ⟨?_, rfl⟩) (by assumption) ?_
        rotate_left 1
        · (simp only [List.getElem?_toArray, List.getElem?_cons_zero, List.getElem?_cons_succ]; rfl)
        · exact fun _ _ _ h => h
        · rfl
        simp only [put_arr, List.set_cons_zero, List.set_cons_succ]
        refine wpAnyH_take (i := 15) (oi := ?_) ?_ (by kernel_rfl) (by kernel_rfl) (by kernel_rfl) ?_ (Or.inr ⟨?_, rfl⟩) (by assumption) ?_
        rotate_left 1
        · (simp only [List.getElem?_toArray, List.getElem?_cons_zero, List.getElem?_cons_succ]; rfl)
        · exact fun _ _ _ h => h
        · rfl
        simp only [put_arr, List.set_cons_zero, List.set_cons_succ]
        refine wpAnyH_take (i := 16) (oi := ?_) ?_ (by kernel_rfl) (by kernel_rfl) (by kernel_rfl) ?_ (Or.inr ⟨?_, rfl⟩) (by assumption) ?_
        rotate_left 1
        · (simp only [List.getElem?_toArray, List.getElem?_cons_zero, List.getElem?_cons_succ]; rfl)
        · exact fun _ _ _ h => h
        · rfl
        simp only [put_arr, List.set_cons_zero, List.set_cons_succ]
        refine wpAnyH_take (i := 17) (oi := ?_) ?_ (by kernel_rfl) (by kernel_rfl) (by kernel_rfl) ?_ (Or.inr ⟨?_, rfl⟩) (by assumption) ?_
        rotate_left 1
        · (simp only [List.getElem?_toArray, List.getElem?_cons_zero, List.getElem?_cons_succ]; rfl)
        · exact fun _ _ _ h => h
        · rfl
        simp only [put_arr, List.set_cons_zero, List.set_cons_succ]
        refine wpAnyH_take (i := 18) (oi := ?_) ?_ (by kernel_rfl) (by kernel_rfl) (by kernel_rfl) ?_ (Or.inr ⟨?_, rfl⟩) (by assumption) ?_
        rotate_left 1
        · (simp only [List.getElem?_toArray, List.getElem?_cons_zero, List.getElem?_cons_succ]; rfl)
        · exact fun _ _ _ h => h
        · rfl
        simp only [put_arr, List.set_cons_zero, List.set_cons_succ]
        refine wpAnyH_take (i := 19) (oi := ?_) ?_ (by kernel_rfl) (by kernel_rfl) (by kernel_rfl) ?_ (Or.inr ⟨?_, rfl⟩) (by assumption) ?_
        rotate_left 1
        · (simp only [List.getElem?_toArray, List.getElem?_cons_zero, List.getElem?_cons_succ]; rfl)
        · exact fun _ _ _ h => h
        · rfl
        simp only [put_arr, List.set_cons_zero, List.set_cons_succ]
        refine wpAnyH_take (i := 20) (oi := ?_) ?_ (by kernel_rfl) (by kernel_rfl) (by kernel_rfl) ?_ (Or.inr ⟨?_, rfl⟩) (by assumption) ?_
        rotate_left 1
        · (simp only [List.getElem?_toArray, List.getElem?_cons_zero, List.getElem?_cons_succ]; rfl)
        · exact fun _ _ _ h => h
        · rfl
        simp only [put_arr, List.set_cons_zero, List.set_cons_succ]
        refine wpAnyH_take (i := 21) (oi := ?_) ?_ (by kernel_rfl) (by kernel_rfl) (by kernel_rfl) ?_ (Or.inr ⟨?_, rfl⟩) (by assumption) ?_
        rotate_left 1
        · (simp only [List.getElem?_toArray, List.getElem?_cons_zero, List.getElem?_cons_succ]; rfl)
        · exact fun _ _ _ h => h
        · rfl
        simp only [put_arr, List.set_cons_zero, List.set_cons_succ]
        refine wpAnyH_take (i := 22) (oi := ?_) (v := ?_) ?_ (by kernel_rfl) (by kernel_rfl) (by kernel_rfl) ?_ (Or.inl ⟨?_, ?_⟩) (by assumption) ?_
        rotate_left 2
        · (simp only [List.getElem?_toArray, List.getElem?_cons_zero, List.getElem?_cons_succ]; rfl)
        · exact fun _ _ _ h => h
        · rfl
        · intro w hSw
          (try dsimp only at hSw)
          go_simp
          try with_reducible rfl
        simp only [put_arr, List.set_cons_zero, List.set_cons_succ]
        refine wpAnyH_take (i := 23) (oi := ?_) (v := ?_) ?_ (by kernel_rfl) (by kernel_rfl) (by kernel_rfl) ?_ (Or.inl ⟨?_, ?_⟩) (by assumption) ?_
        rotate_left 2
        · (simp only [List.getElem?_toArray, List.getElem?_cons_zero, List.getElem?_cons_succ]; rfl)
        · exact fun _ _ _ h => h
        · rfl
        · intro w hSw
          (try dsimp only at hSw)
          go_simp
          try with_reducible rfl
        simp only [put_arr, List.set_cons_zero, List.set_cons_succ]
        refine wpAnyH_done (by kernel_rfl) ?_ _
        go_wp2_with fail
        go_roundw
        case rel => exact ⟨1, by omega, hall.snoc hr.out, by go_num, Bl.then HB HZ⟩
        case measure => simp [intOf]; omega
      obtain ⟨b, off, rfl, hbl, i0, i1, i2, i3, i4, i5⟩ := (h.below HB).lasts hlt
      have hkk := Lib.hid (show (k - 1 : Nat) < n by omega)
      obtain ⟨b2, off2, heq, hbl2, j0, -⟩ := (h.below HB).lasts hkk.out
      simp only [Option.some.injEq, Addr.mk.injEq, and_true] at heq
      obtain ⟨rfl, rfl⟩ := heq
      have a1 : 1 ≤ (k : Int) := by omega
      have a2 : (k : Int) - 1 < n := by omega
      have a0 : 0 ≤ (k : Int) - 1 := by omega
      have a3 : ((k : Int) - 1).toNat = k - 1 := by omega
      have a4 : IntKind.i64.wrap ((k : Int) - 1) = (k : Int) - 1 := IntWalk.i64_in _ (by omega)
      cases hnl : nameLt (lastsAt xs (k - 1)) (lastsAt xs k)
      · have hr := Lib.hid (lasts_no hkl.out (stepOk_3 h1 hpos hnl))
        have hn' : Op.bytesLess (lastsAt xs (k - 1)).s.toList (lastsAt xs k).s.toList = false := hnl
        clear h1 hnl
        go_wp2_with fail
        refine wp_region_held_drew (S := (fun wz => Below wr.heap.size wr wz ∧ ∀ b o, b < wr.heap.size → wz.cell? ⟨b, o, none⟩ = wr.cell? ⟨b, o, none⟩)) (by kernel_rfl) (old_of (Below.drew (Below.refl _ _))) (fun hHeld => ?_)
        refine wpAnyH_take (i := 0) (oi := ?_) (v := ?_) ?_ (by kernel_rfl) (by kernel_rfl) (by kernel_rfl) ?_ (Or.inl ⟨?_, ?_⟩) (by assumption) ?_
        rotate_left 2
        · (simp only [List.getElem?_toArray, List.getElem?_cons_zero]; rfl)
        · exact fun _ _ _ h => h
        · rfl
        · intro w hSw
          (try dsimp only at hSw)
          go_simp
          try with_reducible rfl
        simp only [put_arr, List.set_cons_zero, List.set_cons_succ]
        refine wpAnyH_take (i := 1) (oi := ?_) (v := ?_) ?_ (by kernel_rfl) (by kernel_rfl) (by kernel_rfl) ?_ (Or.inl ⟨?_, ?_⟩) (by assumption) ?_
        rotate_left 2
        · (simp only [List.getElem?_toArray, List.getElem?_cons_zero, List.getElem?_cons_succ]; rfl)
        · exact fun _ _ _ h => h
        · rfl
        · intro w hSw
          (try dsimp only at hSw)
          go_simp
          try with_reducible rfl
        simp only [put_arr, List.set_cons_zero, List.set_cons_succ]
        refine wpAnyH_take (i := 2) (oi := ?_) (v := ?_) ?_ (by kernel_rfl) (by kernel_rfl) (by kernel_rfl) ?_ (Or.inl ⟨?_, ?_⟩) (by assumption) ?_
        rotate_left 2
        · (simp only [List.getElem?_toArray, List.getElem?_cons_zero, List.getElem?_cons_succ]; rfl)
        · exact fun _ _ _ h => h
        · rfl
        · intro w hSw
          (try dsimp only at hSw)
          go_simp
          try with_reducible rfl
        simp only [put_arr, List.set_cons_zero, List.set_cons_succ]
        refine wpAnyH_take (i := 3) (oi := ?_) (v := ?_) ?_ (by kernel_rfl) (by kernel_rfl) (by kernel_rfl) ?_ (Or.inl ⟨?_, ?_⟩) (by assumption) ?_
        rotate_left 2
        · (simp only [List.getElem?_toArray, List.getElem?_cons_zero, List.getElem?_cons_succ]; rfl)
        · exact fun _ _ _ h => h
        · rfl
        · intro w hSw
          (try dsimp only at hSw)
          go_simp
          try with_reducible rfl
        simp only [put_arr, List.set_cons_zero, List.set_cons_succ]
        refine wpAnyH_ready (rs := [4]) (by kernel_rfl) (by simp) ?_
        refine AllReadyH.cons (o := ?_) ?_ (fun K hK => ?_) AllReadyH.nil
        rotate_left
        · (simp only [List.getElem?_toArray, List.getElem?_cons_zero, List.getElem?_cons_succ]; rfl)
        rw [if_pos (by rfl)]
        go_simp
        (with_reducible refine (l04One_is hs h1').mono ?_)
        rintro e w2 ⟨rfl, hb2⟩
        have HZ := Bl.then (w := wr) (And.left (by assumption)) hb2
        go_wp2_with fail
        refine hK.out _ _ (old_of HZ) (fun hHeld2 => ?_)
        clear hK K hHeld
        have hHeld := hHeld2
        clear hHeld2
        refine wpAnyH_take (i := 5) (oi := ?_) (v := ?_) ?_ (by kernel_rfl) (by kernel_rfl) (by kernel_rfl) ?_ (Or.inl ⟨?_, ?_⟩) (by assumption) ?_
        rotate_left 2
        · (simp only [List.getElem?_toArray, List.getElem?_cons_zero, List.getElem?_cons_succ]; rfl)
        · exact fun _ _ _ h => h
        · rfl
        · intro w hSw
          (try dsimp only at hSw)
          go_simp
          try with_reducible rfl
        simp only [put_arr, List.set_cons_zero, List.set_cons_succ]
        refine wpAnyH_take (i := 6) (oi := ?_) (v := ?_) ?_ (by kernel_rfl) (by kernel_rfl) (by kernel_rfl) ?_ (Or.inl ⟨?_, ?_⟩) (by assumption) ?_
        rotate_left 2
        · (simp only [List.getElem?_toArray, List.getElem?_cons_zero, List.getElem?_cons_succ]; rfl)
        · exact fun _ _ _ h => h
        · rfl
        · intro w hSw
          (try dsimp only at hSw)
          go_simp
          try with_reducible rfl
        simp only [put_arr, List.set_cons_zero, List.set_cons_succ]
        refine wpAnyH_take (i := 7) (oi := ?_) (v := ?_) ?_ (by kernel_rfl) (by kernel_rfl) (by kernel_rfl) ?_ (Or.inl ⟨?_, ?_⟩) (by assumption) ?_
        rotate_left 2
        · (simp only [List.getElem?_toArray, List.getElem?_cons_zero, List.getElem?_cons_succ]; rfl)
        · exact fun _ _ _ h => h
        · rfl
        · intro w hSw
          (try dsimp only at hSw)
          go_simp
          try with_reducible rfl
        simp only [put_arr, List.set_cons_zero, List.set_cons_succ]
        refine wpAnyH_take (i := 8) (oi := ?_) (v := ?_) ?_ (by kernel_rfl) (by kernel_rfl) (by kernel_rfl) ?_ (Or.inl ⟨?_, ?_⟩) (by assumption) ?_
        rotate_left 2
        · (simp only [List.getElem?_toArray, List.getElem?_cons_zero, List.getElem?_cons_succ]; rfl)
        · exact fun _ _ _ h => h
        · rfl
        · intro w hSw
          (try dsimp only at hSw)
          go_simp
          try with_reducible rfl
        simp only [put_arr, List.set_cons_zero, List.set_cons_succ]
        refine wpAnyH_take (i := 9) (oi := ?_) (v := ?_) ?_ (by kernel_rfl) (by kernel_rfl) (by kernel_rfl) ?_ (Or.inl ⟨?_, ?_⟩) (by assumption) ?_
        rotate_left 2
        · (simp only [List.getElem?_toArray, List.getElem?_cons_zero, List.getElem?_cons_succ]; rfl)
        · exact fun _ _ _ h => h
        · rfl
        · intro w hSw
          (try dsimp only at hSw)
          go_simp
          try with_reducible rfl
        simp only [put_arr, List.set_cons_zero, List.set_cons_succ]
        refine wpAnyH_take (i := 10) (oi := ?_) (v := ?_) ?_ (by kernel_rfl) (by kernel_rfl) (by kernel_rfl) ?_ (Or.inl ⟨?_, ?_⟩) (by assumption) ?_
        rotate_left 2
        · (simp only [List.getElem?_toArray, List.getElem?_cons_zero, List.getElem?_cons_succ]; rfl)
        · exact fun _ _ _ h => h
        · rfl
        · intro w hSw
          (try dsimp only at hSw)
          go_simp
          try with_reducible rfl
        simp only [put_arr, List.set_cons_zero, List.set_cons_succ]
        refine wpAnyH_take (i := 11) (oi := ?_) (v := ?_) ?_ (by kernel_rfl) (by kernel_rfl) (by kernel_rfl) ?_ (Or.inl ⟨?_, ?_⟩) (by assumption) ?_
        rotate_left 2
        · (simp only [List.getElem?_toArray, List.getElem?_cons_zero, List.getElem?_cons_succ]; rfl)
        · exact fun _ _ _ h => h
        · rfl
        · intro w hSw
          (try dsimp only at hSw)
          go_simp
          try with_reducible rfl
        simp only [put_arr, List.set_cons_zero, List.set_cons_succ]
        refine wpAnyH_take (i := 12) (oi := ?_) (v := ?_) ?_ (by kernel_rfl) (by kernel_rfl) (by kernel_rfl) ?_ (Or.inl ⟨?_, ?_⟩) (by assumption) ?_
        rotate_left 2
        · (simp only [List.getElem?_toArray, List.getElem?_cons_zero, List.getElem?_cons_succ]; rfl)
        · exact fun _ _ _ h => h
        · rfl
        · intro w hSw
          (try dsimp only at hSw)
          go_simp
          try with_reducible rfl
        simp only [put_arr, List.set_cons_zero, List.set_cons_succ]
        refine wpAnyH_take (i := 13) (oi := ?_) (v := ?_) ?_ (by kernel_rfl) (by kernel_rfl) (by kernel_rfl) ?_ (Or.inl ⟨?_, ?_⟩) (by assumption) ?_
        rotate_left 2
        · (simp only [List.getElem?_toArray, List.getElem?_cons_zero, List.getElem?_cons_succ]; rfl)
        · exact fun _ _ _ h => h
        · rfl
        · intro w hSw
          (try dsimp only at hSw)
          go_simp
          try with_reducible rfl
        simp only [put_arr, List.set_cons_zero, List.set_cons_succ]
        refine wpAnyH_take (i := 14) (oi := ?_) (v := ?_) ?_ (by kernel_rfl) (by kernel_rfl) (by kernel_rfl) ?_ (Or.inl ⟨?_, ?_⟩) (by assumption) ?_
        rotate_left 2
        · (simp only [List.getElem?_toArray, List.getElem?_cons_zero, List.getElem?_cons_succ]; rfl)
        · exact fun _ _ _ h => h
        · rfl
        · intro w hSw
          (try dsimp only at hSw)
          go_simp
          try with_reducible rfl
        simp only [put_arr, List.set_cons_zero, List.set_cons_succ]
        refine wpAnyH_take (i := 15) (oi := ?_) (v := ?_) ?_ (by kernel_rfl) (by kernel_rfl) (by kernel_rfl) ?_ (Or.inl ⟨?_, ?_⟩) (by assumption) ?_
        rotate_left 2
        · (simp only [List.getElem?_toArray, List.getElem?_cons_zero, List.getElem?_cons_succ]; rfl)
        · exact fun _ _ _ h => h
        · rfl
        · intro w hSw
          (try dsimp only at hSw)
          go_simp
          try with_reducible rfl
        simp only [put_arr, List.set_cons_zero, List.set_cons_succ]
        refine wpAnyH_take (i := 16) (oi := ?_) (v := ?_) ?_ (by kernel_rfl) (by kernel_rfl) (by kernel_rfl) ?_ (Or.inl ⟨?_, ?_⟩) (by assumption) ?_
        rotate_left 2
        · (simp only [List.getElem?_toArray, List.getElem?_cons_zero, List.getElem?_cons_succ]; rfl)
        · exact fun _ _ _ h => h
        · rfl
        · intro w hSw
          (try dsimp only at hSw)
          go_simp
          try with_reducible rfl
        simp only [put_arr, List.set_cons_zero, List.set_cons_succ]
        refine wpAnyH_take (i := 17) (oi := ?_) (v := ?_) ?_ (by kernel_rfl) (by kernel_rfl) (by kernel_rfl) ?_ (Or.inl ⟨?_, ?_⟩) (by assumption) ?_
        rotate_left 2
        · (simp only [List.getElem?_toArray, List.getElem?_cons_zero, List.getElem?_cons_succ]; rfl)
        · exact fun _ _ _ h => h
        · rfl
        · intro w hSw
          (try dsimp only at hSw)
          go_simp
          try with_reducible rfl
        simp only [put_arr, List.set_cons_zero, List.set_cons_succ]
        refine wpAnyH_take (i := 18) (oi := ?_) (v := ?_) ?_ (by kernel_rfl) (by kernel_rfl) (by kernel_rfl) ?_ (Or.inl ⟨?_, ?_⟩) (by assumption) ?_
        rotate_left 2
        · (simp only [List.getElem?_toArray, List.getElem?_cons_zero, List.getElem?_cons_succ]; rfl)
        · exact fun _ _ _ h => h
        · rfl
        · intro w hSw
          (try dsimp only at hSw)
          go_simp
          try with_reducible rfl
        simp only [put_arr, List.set_cons_zero, List.set_cons_succ]
        refine wpAnyH_take (i := 19) (oi := ?_) (v := ?_) ?_ (by kernel_rfl) (by kernel_rfl) (by kernel_rfl) ?_ (Or.inl ⟨?_, ?_⟩) (by assumption) ?_
        rotate_left 2
        · (simp only [List.getElem?_toArray, List.getElem?_cons_zero, List.getElem?_cons_succ]; rfl)
        · exact fun _ _ _ h => h
        · rfl
        · intro w hSw
          (try dsimp only at hSw)
          go_simp
          try with_reducible rfl
        simp only [put_arr, List.set_cons_zero, List.set_cons_succ]
        refine wpAnyH_take (i := 20) (oi := ?_) (v := ?_) ?_ (by kernel_rfl) (by kernel_rfl) (by kernel_rfl) ?_ (Or.inl ⟨?_, ?_⟩) (by assumption) ?_
        rotate_left 2
        · (simp only [List.getElem?_toArray, List.getElem?_cons_zero, List.getElem?_cons_succ]; rfl)
        · exact fun _ _ _ h => h
        · rfl
        · intro w hSw
          (try dsimp only at hSw)
          go_simp
          try with_reducible rfl
        simp only [put_arr, List.set_cons_zero, List.set_cons_succ]
        refine wpAnyH_take (i := 21) (oi := ?_) (v := ?_) ?_ (by kernel_rfl) (by kernel_rfl) (by kernel_rfl) ?_ (Or.inl ⟨?_, ?_⟩) (by assumption) ?_
        rotate_left 2
        · (simp only [List.getElem?_toArray, List.getElem?_cons_zero, List.getElem?_cons_succ]; rfl)
        · exact fun _ _ _ h => h
        · rfl
        · intro w hSw
          (try dsimp only at hSw)
          go_simp
          try with_reducible rfl
        simp only [put_arr, List.set_cons_zero, List.set_cons_succ]
        refine wpAnyH_take (i := 22) (oi := ?_) (v := ?_) ?_ (by kernel_rfl) (by kernel_rfl) (by kernel_rfl) ?_ (Or.inl ⟨?_, ?_⟩) (by assumption) ?_
        rotate_left 2
        · (simp only [List.getElem?_toArray, List.getElem?_cons_zero, List.getElem?_cons_succ]; rfl)
        · exact fun _ _ _ h => h
        · rfl
        · intro w hSw
          (try dsimp only at hSw)
          go_simp
          try with_reducible rfl
        simp only [put_arr, List.set_cons_zero, List.set_cons_succ]
        refine wpAnyH_take (i := 23) (oi := ?_) (v := ?_) ?_ (by kernel_rfl) (by kernel_rfl) (by kernel_rfl) ?_ (Or.inl ⟨?_, ?_⟩) (by assumption) ?_
        rotate_left 2
        · (simp only [List.getElem?_toArray, List.getElem?_cons_zero, List.getElem?_cons_succ]; rfl)
        · exact fun _ _ _ h => h
        · rfl
        · intro w hSw
          (try dsimp only at hSw)
          go_simp
          try with_reducible rfl
        simp only [put_arr, List.set_cons_zero, List.set_cons_succ]
        refine wpAnyH_done (by kernel_rfl) ?_ _
        go_wp2_with fail
        go_ret
        exact ⟨ret_bool hr.out.symm, Bl.then HB HZ⟩
      · have hr := Lib.hid (stepOk_3 h1 hpos hnl)
        have hn' : Op.bytesLess (lastsAt xs (k - 1)).s.toList (lastsAt xs k).s.toList = true := hnl
        clear h1 hnl
        go_wp2_with fail
        refine wp_region_held_drew (S := (fun wz => Below wr.heap.size wr wz ∧ ∀ b o, b < wr.heap.size → wz.cell? ⟨b, o, none⟩ = wr.cell? ⟨b, o, none⟩)) (by kernel_rfl) (old_of (Below.drew (Below.refl _ _))) (fun hHeld => ?_)
        refine wpAnyH_take (i := 0) (oi := ?_) (v := ?_) ?_ (by kernel_rfl) (by kernel_rfl) (by kernel_rfl) ?_ (Or.inl ⟨?_, ?_⟩) (by assumption) ?_
        rotate_left 2
        · (simp only [List.getElem?_toArray, List.getElem?_cons_zero]; rfl)
        · exact fun _ _ _ h => h
        · rfl
        · intro w hSw
          (try dsimp only at hSw)
          go_simp
          try with_reducible rfl
        simp only [put_arr, List.set_cons_zero, List.set_cons_succ]
        refine wpAnyH_take (i := 1) (oi := ?_) (v := ?_) ?_ (by kernel_rfl) (by kernel_rfl) (by kernel_rfl) ?_ (Or.inl ⟨?_, ?_⟩) (by assumption) ?_
        rotate_left 2
        · (simp only [List.getElem?_toArray, List.getElem?_cons_zero, List.getElem?_cons_succ]; rfl)
        · exact fun _ _ _ h => h
        · rfl
        · intro w hSw
          (try dsimp only at hSw)
          go_simp
          try with_reducible rfl
        simp only [put_arr, List.set_cons_zero, List.set_cons_succ]
        refine wpAnyH_take (i := 2) (oi := ?_) (v := ?_) ?_ (by kernel_rfl) (by kernel_rfl) (by kernel_rfl) ?_ (Or.inl ⟨?_, ?_⟩) (by assumption) ?_
        rotate_left 2
        · (simp only [List.getElem?_toArray, List.getElem?_cons_zero, List.getElem?_cons_succ]; rfl)
        · exact fun _ _ _ h => h
        · rfl
        · intro w hSw
          (try dsimp only at hSw)
          go_simp
          try with_reducible rfl
        simp only [put_arr, List.set_cons_zero, List.set_cons_succ]
        refine wpAnyH_take (i := 3) (oi := ?_) (v := ?_) ?_ (by kernel_rfl) (by kernel_rfl) (by kernel_rfl) ?_ (Or.inl ⟨?_, ?_⟩) (by assumption) ?_
        rotate_left 2
        · (simp only [List.getElem?_toArray, List.getElem?_cons_zero, List.getElem?_cons_succ]; rfl)
        · exact fun _ _ _ h => h
        · rfl
        · intro w hSw
          (try dsimp only at hSw)
          go_simp
          try with_reducible rfl
        simp only [put_arr, List.set_cons_zero, List.set_cons_succ]
        refine wpAnyH_ready (rs := [4]) (by kernel_rfl) (by simp) ?_
        refine AllReadyH.cons (o := ?_) ?_ (fun K hK => ?_) AllReadyH.nil
        rotate_left
        · (simp only [List.getElem?_toArray, List.getElem?_cons_zero, List.getElem?_cons_succ]; rfl)
        rw [if_pos (by rfl)]
        go_simp
        (with_reducible refine (l04One_is hs h1').mono ?_)
        rintro e w2 ⟨rfl, hb2⟩
        have HZ := Bl.then (w := wr) (And.left (by assumption)) hb2
        go_wp2_with fail
        refine hK.out _ _ (old_of HZ) (fun hHeld2 => ?_)
        clear hK K hHeld
        have hHeld := hHeld2
        clear hHeld2
        refine wpAnyH_take (i := 5) (oi := ?_) (v := ?_) ?_ (by kernel_rfl) (by kernel_rfl) (by kernel_rfl) ?_ (Or.inl ⟨?_, ?_⟩) (by assumption) ?_
        rotate_left 2
        · (simp only [List.getElem?_toArray, List.getElem?_cons_zero, List.getElem?_cons_succ]; rfl)
        · exact fun _ _ _ h => h
        · rfl
        · intro w hSw
          (try dsimp only at hSw)
          go_simp
          try with_reducible rfl
        simp only [put_arr, List.set_cons_zero, List.set_cons_succ]
        refine wpAnyH_take (i := 6) (oi := ?_) (v := ?_) ?_ (by kernel_rfl) (by kernel_rfl) (by kernel_rfl) ?_ (Or.inl ⟨?_, ?_⟩) (by assumption) ?_
        rotate_left 2
        · (simp only [List.getElem?_toArray, List.getElem?_cons_zero, List.getElem?_cons_succ]; rfl)
        · exact fun _ _ _ h => h
        · rfl
        · intro w hSw
          (try dsimp only at hSw)
          go_simp
          try with_reducible rfl
        simp only [put_arr, List.set_cons_zero, List.set_cons_succ]
        refine wpAnyH_take (i := 7) (oi := ?_) (v := ?_) ?_ (by kernel_rfl) (by kernel_rfl) (by kernel_rfl) ?_ (Or.inl ⟨?_, ?_⟩) (by assumption) ?_
        rotate_left 2
        · (simp only [List.getElem?_toArray, List.getElem?_cons_zero, List.getElem?_cons_succ]; rfl)
        · exact fun _ _ _ h => h
        · rfl
        · intro w hSw
          (try dsimp only at hSw)
          go_simp
          try with_reducible rfl
        simp only [put_arr, List.set_cons_zero, List.set_cons_succ]
        refine wpAnyH_take (i := 8) (oi := ?_) (v := ?_) ?_ (by kernel_rfl) (by kernel_rfl) (by kernel_rfl) ?_ (Or.inl ⟨?_, ?_⟩) (by assumption) ?_
        rotate_left 2
        · (simp only [List.getElem?_toArray, List.getElem?_cons_zero, List.getElem?_cons_succ]; rfl)
        · exact fun _ _ _ h => h
        · rfl
        · intro w hSw
          (try dsimp only at hSw)
          go_simp
          try with_reducible rfl
        simp only [put_arr, List.set_cons_zero, List.set_cons_succ]
        refine wpAnyH_take (i := 9) (oi := ?_) (v := ?_) ?_ (by kernel_rfl) (by kernel_rfl) (by kernel_rfl) ?_ (Or.inl ⟨?_, ?_⟩) (by assumption) ?_
        rotate_left 2
        · (simp only [List.getElem?_toArray, List.getElem?_cons_zero, List.getElem?_cons_succ]; rfl)
        · exact fun _ _ _ h => h
        · rfl
        · intro w hSw
          (try dsimp only at hSw)
          go_simp
          try with_reducible rfl
        simp only [put_arr, List.set_cons_zero, List.set_cons_succ]
        refine wpAnyH_take (i := 10) (oi := ?_) (v := ?_) ?_ (by kernel_rfl) (by kernel_rfl) (by kernel_rfl) ?_ (Or.inl ⟨?_, ?_⟩) (by assumption) ?_
        rotate_left 2
        · (simp only [List.getElem?_toArray, List.getElem?_cons_zero, List.getElem?_cons_succ]; rfl)
        · exact fun _ _ _ h => h
        · rfl
        · intro w hSw
          (try dsimp only at hSw)
          go_simp
          try with_reducible rfl
        simp only [put_arr, List.set_cons_zero, List.set_cons_succ]
        refine wpAnyH_take (i := 11) (oi := ?_) (v := ?_) ?_ (by kernel_rfl) (by kernel_rfl) (by kernel_rfl) ?_ (Or.inl ⟨?_, ?_⟩) (by assumption) ?_
        rotate_left 2
        · (simp only [List.getElem?_toArray, List.getElem?_cons_zero, List.getElem?_cons_succ]; rfl)
        · exact fun _ _ _ h => h
        · rfl
        · intro w hSw
          (try dsimp only at hSw)
          go_simp
          try with_reducible rfl
        simp only [put_arr, List.set_cons_zero, List.set_cons_succ]
        refine wpAnyH_take (i := 12) (oi := ?_) (v := ?_) ?_ (by kernel_rfl) (by kernel_rfl) (by kernel_rfl) ?_ (Or.inl ⟨?_, ?_⟩) (by assumption) ?_
        rotate_left 2
        · (simp only [List.getElem?_toArray, List.getElem?_cons_zero, List.getElem?_cons_succ]; rfl)
        · exact fun _ _ _ h => h
        · rfl
        · intro w hSw
          (try dsimp only at hSw)
          go_simp
          try with_reducible rfl
        simp only [put_arr, List.set_cons_zero, List.set_cons_succ]
        refine wpAnyH_take (i := 13) (oi := ?_) (v := ?_) ?_ (by kernel_rfl) (by kernel_rfl) (by kernel_rfl) ?_ (Or.inl ⟨?_, ?_⟩) (by assumption) ?_
        rotate_left 2
        · (simp only [List.getElem?_toArray, List.getElem?_cons_zero, List.getElem?_cons_succ]; rfl)
        · exact fun _ _ _ h => h
        · rfl
        · intro w hSw
          (try dsimp only at hSw)
          go_simp
          try with_reducible rfl
        simp only [put_arr, List.set_cons_zero, List.set_cons_succ]
        refine wpAnyH_take (i := 14) (oi := ?_) (v := ?_) ?_ (by kernel_rfl) (by kernel_rfl) (by kernel_rfl) ?_ (Or.inl ⟨?_, ?_⟩) (by assumption) ?_
        rotate_left 2
        · (simp only [List.getElem?_toArray, List.getElem?_cons_zero, List.getElem?_cons_succ]; rfl)
        · exact fun _ _ _ h => h
        · rfl
        · intro w hSw
          (try dsimp only at hSw)
          go_simp
          try with_reducible rfl
        simp only [put_arr, List.set_cons_zero, List.set_cons_succ]
        refine wpAnyH_take (i := 15) (oi := ?_) (v := ?_) ?_ (by kernel_rfl) (by kernel_rfl) (by kernel_rfl) ?_ (Or.inl ⟨?_, ?_⟩) (by assumption) ?_
        rotate_left 2
        · (simp only [List.getElem?_toArray, List.getElem?_cons_zero, List.getElem?_cons_succ]; rfl)
        · exact fun _ _ _ h => h
        · rfl
        · intro w hSw
          (try dsimp only at hSw)
          go_simp
          try with_reducible rfl
        simp only [put_arr, List.set_cons_zero, List.set_cons_succ]
        refine wpAnyH_take (i := 16) (oi := ?_) (v := ?_) ?_ (by kernel_rfl) (by kernel_rfl) (by kernel_rfl) ?_ (Or.inl ⟨?_, ?_⟩) (by assumption) ?_
        rotate_left 2
        · (simp only [List.getElem?_toArray, List.getElem?_cons_zero, List.getElem?_cons_succ]; rfl)
        · exact fun _ _ _ h => h
        · rfl
        · intro w hSw
          (try dsimp only at hSw)
          go_simp
          try with_reducible rfl
        simp only [put_arr, List.set_cons_zero, List.set_cons_succ]
        refine wpAnyH_take (i := 17) (oi := ?_) (v := ?_) ?_ (by kernel_rfl) (by kernel_rfl) (by kernel_rfl) ?_ (Or.inl ⟨?_, ?_⟩) (by assumption) ?_
        rotate_left 2
        · (simp only [List.getElem?_toArray, List.getElem?_cons_zero, List.getElem?_cons_succ]; rfl)
        · exact fun _ _ _ h => h
        · rfl
        · intro w hSw
          (try dsimp only at hSw)
          go_simp
          try with_reducible rfl
        simp only [put_arr, List.set_cons_zero, List.set_cons_succ]
        refine wpAnyH_take (i := 18) (oi := ?_) (v := ?_) ?_ (by kernel_rfl) (by kernel_rfl) (by kernel_rfl) ?_ (Or.inl ⟨?_, ?_⟩) (by assumption) ?_
        rotate_left 2
        · (simp only [List.getElem?_toArray, List.getElem?_cons_zero, List.getElem?_cons_succ]; rfl)
        · exact fun _ _ _ h => h
        · rfl
        · intro w hSw
          (try dsimp only at hSw)
          go_simp
          try with_reducible rfl
        simp only [put_arr, List.set_cons_zero, List.set_cons_succ]
        refine wpAnyH_take (i := 19) (oi := ?_) (v := ?_) ?_ (by kernel_rfl) (by kernel_rfl) (by kernel_rfl) ?_ (Or.inl ⟨?_, ?_⟩) (by assumption) ?_
        rotate_left 2
        · (simp only [List.getElem?_toArray, List.getElem?_cons_zero, List.getElem?_cons_succ]; rfl)
        · exact fun _ _ _ h => h
        · rfl
        · intro w hSw
          (try dsimp only at hSw)
          go_simp
          try with_reducible rfl
        simp only [put_arr, List.set_cons_zero, List.set_cons_succ]
        refine wpAnyH_take (i := 20) (oi := ?_) (v := ?_) ?_ (by kernel_rfl) (by kernel_rfl) (by kernel_rfl) ?_ (Or.inl ⟨?_, ?_⟩) (by assumption) ?_
        rotate_left 2
        · (simp only [List.getElem?_toArray, List.getElem?_cons_zero, List.getElem?_cons_succ]; rfl)
        · exact fun _ _ _ h => h
        · rfl
        · intro w hSw
          (try dsimp only at hSw)
          go_simp
          try with_reducible rfl
        simp only [put_arr, List.set_cons_zero, List.set_cons_succ]
        refine wpAnyH_take (i := 21) (oi := ?_) (v := ?_) ?_ (by kernel_rfl) (by kernel_rfl) (by kernel_rfl) ?_ (Or.inl ⟨?_, ?_⟩) (by assumption) ?_
        rotate_left 2
        · (simp only [List.getElem?_toArray, List.getElem?_cons_zero, List.getElem?_cons_succ]; rfl)
        · exact fun _ _ _ h => h
        · rfl
        · intro w hSw
          (try dsimp only at hSw)
          go_simp
          try with_reducible rfl
        simp only [put_arr, List.set_cons_zero, List.set_cons_succ]
        refine wpAnyH_take (i := 22) (oi := ?_) (v := ?_) ?_ (by kernel_rfl) (by kernel_rfl) (by kernel_rfl) ?_ (Or.inl ⟨?_, ?_⟩) (by assumption) ?_
        rotate_left 2
        · (simp only [List.getElem?_toArray, List.getElem?_cons_zero, List.getElem?_cons_succ]; rfl)
        · exact fun _ _ _ h => h
        · rfl
        · intro w hSw
          (try dsimp only at hSw)
          go_simp
          try with_reducible rfl
        simp only [put_arr, List.set_cons_zero, List.set_cons_succ]
        refine wpAnyH_take (i := 23) (oi := ?_) (v := ?_) ?_ (by kernel_rfl) (by kernel_rfl) (by kernel_rfl) ?_ (Or.inl ⟨?_, ?_⟩) (by assumption) ?_
        rotate_left 2
        · (simp only [List.getElem?_toArray, List.getElem?_cons_zero, List.getElem?_cons_succ]; rfl)
        · exact fun _ _ _ h => h
        · rfl
        · intro w hSw
          (try dsimp only at hSw)
          go_simp
          try with_reducible rfl
        simp only [put_arr, List.set_cons_zero, List.set_cons_succ]
        refine wpAnyH_done (by kernel_rfl) ?_ _
        go_wp2_with fail
        go_roundw
        case rel => exact ⟨k + 1, by omega, hall.snoc hr.out, by go_num, Bl.then HB HZ⟩
        case measure => simp [intOf]; omega
    · obtain rfl : k = n := by omega
      have hr := Lib.hid (show lastsOk xs = decide (k ≤ 30) by rw [lastsOk, AllL.all (fun j hj => hall j (by have := hlen.out; omega)), hlen.out]; simp)
      go_wp2_with fail
      go_ret
      exact ⟨ret_bool (by rw [hr.out, Bool.eq_iff_iff]; simp; try omega), HB⟩
end Go.Proofs.Ytebghfpkgdghcaa
