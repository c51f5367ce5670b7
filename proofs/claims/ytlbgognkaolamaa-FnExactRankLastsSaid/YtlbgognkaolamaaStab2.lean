/-
  The merging of two sorted parts of a row by the library (symMerge); the condition is what the comparison says.
-/
import Derived.Test.YtlbgognkaolamaaStab
namespace Go.Proofs.Ytlbgognkaolamaa
open Go.RowKit
set_option maxHeartbeats 3200000

set_option maxRecDepth 100000 in
/-- One element on the left. -/
theorem symLeft_any (a m b : Nat) (base g n c : Nat) (zs : List Int) (pl pf pq : Nat) (cf : Int → Int) (N : Int) (B : Nat) (w0 w : World) (ho : w.ownsRow base 2 1 (.slice (some ⟨g, 0, none⟩) n c) n (ints zs)) (hg : base ≤ g) (hbase : base ≤ w.heap.size) (hBb : B ≤ base) (H0 : Below B w0 w) (hcmp : CmpAt B w0 pl pf pq cf N) (hN : N ≤ 64) (hr : RngN N zs) (hn : n ≤ 64) (ht : Two cf zs a m b) (ham : a < m) (hmb : m < b) (hbn : b ≤ n) (hm1 : m = a + 1) :
    Calls Try.prog 139 #[.slice (some ⟨g, 0, none⟩) n c, .int .i64 a, .int .i64 m, .int .i64 b, .func (.func 93) #[] #[.pointer (some ⟨pl, 0, none⟩), .pointer (some ⟨pf, 0, none⟩), .pointer (some ⟨pq, 0, none⟩)]] w fun e w' => e = .returned (.tuple #[]) ∧ ∃ zs', SortedOn (keyOf cf) zs' a b ∧ Wn zs zs' a b ∧ w'.ownsRow base 2 1 (.slice (some ⟨g, 0, none⟩) n c) n (ints zs') ∧ Below base w w' := by
  have hzl := Lib.hid (own_int_len ho)
  have ht' := Lib.hid ht
  have hrr := Lib.hid (hr.rng hN)
  have hbz := Lib.hid (show b ≤ zs.length by rw [own_int_len ho]; exact hbn)
  have t0 : ((m : Int) - (a : Int) == 1) = true := by rw [beq_iff_eq]; omega
  have hmi : m ≤ a + 1 := by omega
  have hmh := Lib.hid hm1
  clear ht hm1
  go_enter Try.func139, Try.ntmps139
  go_wp2_with fail
  clear t0
  go_loopw [10, 11] (fun p q wr => ∃ i j : Nat, p = .int .i64 i ∧ q = .int .i64 j ∧ m ≤ i ∧ i ≤ j ∧ j ≤ b ∧ wr.ownsRow base 2 1 (.slice (some ⟨g, 0, none⟩) n c) n (ints zs) ∧ Hid (SrchL cf zs a m b i j) ∧ Below base w wr) (fun p q _ => (intOf q).toNat - (intOf p).toNat)
  case atStart => exact ⟨m, b, rfl, rfl, by omega, by omega, by omega, ho, Lib.hid (SrchL.zero cf zs a m b), Below.refl _ _⟩
  case round =>
    clear ho
    obtain ⟨i, j, rfl, rfl, hm_i, hij, hjb, ho, hS, HB⟩ := hrel
    by_cases hlt : i < j
    · have q1 := ho.cellAt ((i + j) / 2) (by omega)
      have q0 := ho.cellAt a (by omega)
      rw [ints_get (by rw [hzl.out]; omega)] at q0 q1
      have hgl := (ho.lt g rfl).2
      have b1 := hr ((i + j) / 2) (by rw [hzl.out]; omega)
      have b0 := hr a (by rw [hzl.out]; omega)
      have a1 : (i + j) / 2 < n := by omega
      have a8 : (0 : Int) ≤ ((i : Int) + (j : Int)) / 2 := by omega
      have a9 : (((i : Int) + (j : Int)) / 2).toNat = (i + j) / 2 := by omega
      have a10 : ((i : Int) + (j : Int)) / 2 < (n : Int) := by omega
      have a2 : a < n := by omega
      have e1 := Lib.hid (show ((i : Int) + (j : Int)) / 2 = (((i + j) / 2 : Nat) : Int) by omega)
      have e2 := Lib.hid (show ((i : Int) + (j : Int)) / 2 + 1 = (((i + j) / 2 + 1 : Nat) : Int) by omega)
      by_cases hc : cf (ix zs ((i + j) / 2)) < cf (ix zs a)
      · have hneg : cmpI (cf (ix zs ((i + j) / 2))) (cf (ix zs a)) < 0 := cmpI_lt.2 hc
        have hS2 := Lib.hid (hS.out.up ht'.out hrr.out hbz.out ham (k := (i + j) / 2) (by omega) (by omega) hc)
        go_wp2_with fail
        refine wp_region_held_drew (S := (fun wz => Below wr.heap.size wr wz ∧ ∀ b o, b < wr.heap.size → wz.cell? ⟨b, o, none⟩ = wr.cell? ⟨b, o, none⟩)) (by kernel_rfl) (old_of (Below.drew (Below.refl _ _))) (fun hHeld => ?_)
        refine wpAnyH_take (i := 0) (oi := ?_) (v := ?_) ?_ (by kernel_rfl) (by kernel_rfl) (by kernel_rfl) ?_ (Or.inl ⟨?_, ?_⟩) (by assumption) ?_
        rotate_left 2
        · (simp only [List.getElem?_toArray, List.getElem?_cons_zero]; rfl)
        · exact fun _ _ _ h => h
        · rfl
        · intro w hSw
          (try dsimp only at hSw)
          go_simp
          try with_reducible rfl
        simp only [put_arr, List.set_cons_zero, List.set_cons_succ]
        refine wpAnyH_take (i := 1) (oi := ?_) (v := ?_) ?_ (by kernel_rfl) (by kernel_rfl) (by kernel_rfl) ?_ (Or.inl ⟨?_, ?_⟩) (by assumption) ?_
        rotate_left 2
        · (simp only [List.getElem?_toArray, List.getElem?_cons_zero, List.getElem?_cons_succ]; rfl)
        · exact fun _ _ _ h => h
        · rfl
        · intro w hSw
          (try dsimp only at hSw)
          go_simp
          try with_reducible rfl
        simp only [put_arr, List.set_cons_zero, List.set_cons_succ]
        refine wpAnyH_take (i := 2) (oi := ?_) (v := ?_) ?_ (by kernel_rfl) (by kernel_rfl) (by kernel_rfl) ?_ (Or.inl ⟨?_, ?_⟩) (by assumption) ?_
        rotate_left 2
        · (simp only [List.getElem?_toArray, List.getElem?_cons_zero, List.getElem?_cons_succ]; rfl)
        · exact fun _ _ _ h => h
        · rfl
        · intro w hSw
          (try dsimp only at hSw)
          go_simp
          try with_reducible rfl
        simp only [put_arr, List.set_cons_zero, List.set_cons_succ]
        refine wpAnyH_take (i := 3) (oi := ?_) (v := ?_) ?_ (by kernel_rfl) (by kernel_rfl) (by kernel_rfl) ?_ (Or.inl ⟨?_, ?_⟩) (by assumption) ?_
        rotate_left 2
        · (simp only [List.getElem?_toArray, List.getElem?_cons_zero, List.getElem?_cons_succ]; rfl)
        · exact fun _ _ _ h => h
        · rfl
        · intro w hSw
          (try dsimp only at hSw)
          go_simp
          try with_reducible rfl
        simp only [put_arr, List.set_cons_zero, List.set_cons_succ]
        refine wpAnyH_take (i := 4) (oi := ?_) (v := ?_) ?_ (by kernel_rfl) (by kernel_rfl) (by kernel_rfl) ?_ (Or.inl ⟨?_, ?_⟩) (by assumption) ?_
        rotate_left 2
        · (simp only [List.getElem?_toArray, List.getElem?_cons_zero, List.getElem?_cons_succ]; rfl)
        · exact fun _ _ _ h => h
        · rfl
        · intro w hSw
          (try dsimp only at hSw)
          go_simp
          try with_reducible rfl
        simp only [put_arr, List.set_cons_zero, List.set_cons_succ]
        refine wpAnyH_take (i := 5) (oi := ?_) (v := ?_) ?_ (by kernel_rfl) (by kernel_rfl) (by kernel_rfl) ?_ (Or.inl ⟨?_, ?_⟩) (by assumption) ?_
        rotate_left 2
        · (simp only [List.getElem?_toArray, List.getElem?_cons_zero, List.getElem?_cons_succ]; rfl)
        · exact fun _ _ _ h => h
        · rfl
        · intro w hSw
          (try dsimp only at hSw)
          go_simp
          try with_reducible rfl
        simp only [put_arr, List.set_cons_zero, List.set_cons_succ]
        refine wpAnyH_take (i := 6) (oi := ?_) (v := ?_) ?_ (by kernel_rfl) (by kernel_rfl) (by kernel_rfl) ?_ (Or.inl ⟨?_, ?_⟩) (by assumption) ?_
        rotate_left 2
        · (simp only [List.getElem?_toArray, List.getElem?_cons_zero, List.getElem?_cons_succ]; rfl)
        · exact fun _ _ _ h => h
        · rfl
        · intro w hSw
          (try dsimp only at hSw)
          go_simp
          try with_reducible rfl
        simp only [put_arr, List.set_cons_zero, List.set_cons_succ]
        refine wpAnyH_take (i := 7) (oi := ?_) (v := ?_) ?_ (by kernel_rfl) (by kernel_rfl) (by kernel_rfl) ?_ (Or.inl ⟨?_, ?_⟩) (by assumption) ?_
        rotate_left 2
        · (simp only [List.getElem?_toArray, List.getElem?_cons_zero, List.getElem?_cons_succ]; rfl)
        · exact fun _ _ _ h => h
        · rfl
        · intro w hSw
          (try dsimp only at hSw)
          go_simp
          try with_reducible rfl
        simp only [put_arr, List.set_cons_zero, List.set_cons_succ]
        refine wpAnyH_take (i := 8) (oi := ?_) (v := ?_) ?_ (by kernel_rfl) (by kernel_rfl) (by kernel_rfl) ?_ (Or.inl ⟨?_, ?_⟩) (by assumption) ?_
        rotate_left 2
        · (simp only [List.getElem?_toArray, List.getElem?_cons_zero, List.getElem?_cons_succ]; rfl)
        · exact fun _ _ _ h => h
        · rfl
        · intro w hSw
          (try dsimp only at hSw)
          go_simp
          try with_reducible rfl
        simp only [put_arr, List.set_cons_zero, List.set_cons_succ]
        refine wpAnyH_ready (rs := [9]) (by kernel_rfl) (by simp) ?_
        refine AllReadyH.cons (o := ?_) ?_ (fun K hK => ?_) AllReadyH.nil
        rotate_left
        · (simp only [List.getElem?_toArray, List.getElem?_cons_zero, List.getElem?_cons_succ]; rfl)
        rw [if_pos (by rfl)]
        go_simp
        (with_reducible refine (hcmp.call _ b1 b0 (come H0 hBb HB hbase hHeld.1)).mono ?_)
        rintro e v9 ⟨rfl, hb9⟩
        have HZ9 := Bl.then (w := wr) hHeld.1 hb9
        go_wp2_with fail
        refine hK.out _ _ (old_of HZ9) (fun hHeld2 => ?_)
        clear hK K hHeld
        have hHeld := hHeld2
        clear hHeld2
        refine wpAnyH_take (i := 10) (oi := ?_) (v := ?_) ?_ (by kernel_rfl) (by kernel_rfl) (by kernel_rfl) ?_ (Or.inl ⟨?_, ?_⟩) (by assumption) ?_
        rotate_left 2
        · (simp only [List.getElem?_toArray, List.getElem?_cons_zero, List.getElem?_cons_succ]; rfl)
        · exact fun _ _ _ h => h
        · rfl
        · intro w hSw
          (try dsimp only at hSw)
          go_simp
          try with_reducible rfl
        simp only [put_arr, List.set_cons_zero, List.set_cons_succ]
        refine wpAnyH_done (by kernel_rfl) ?_ _
        go_wp2_with fail
        go_roundw
        case rel => exact ⟨(i + j) / 2 + 1, j, congrArg _ e2.out, rfl, by omega, by omega, hjb, own_below ho HZ9, hS2, come2 HB hbase HZ9⟩
        case measure => simp [intOf]; omega
      · have hneg : ¬ cmpI (cf (ix zs ((i + j) / 2))) (cf (ix zs a)) < 0 := fun h => hc (cmpI_lt.1 h)
        have hS2 := Lib.hid (hS.out.down ht'.out hrr.out hbz.out ham (k := (i + j) / 2) (by omega) (by omega) hc)
        go_wp2_with fail
        refine wp_region_held_drew (S := (fun wz => Below wr.heap.size wr wz ∧ ∀ b o, b < wr.heap.size → wz.cell? ⟨b, o, none⟩ = wr.cell? ⟨b, o, none⟩)) (by kernel_rfl) (old_of (Below.drew (Below.refl _ _))) (fun hHeld => ?_)
        refine wpAnyH_take (i := 0) (oi := ?_) (v := ?_) ?_ (by kernel_rfl) (by kernel_rfl) (by kernel_rfl) ?_ (Or.inl ⟨?_, ?_⟩) (by assumption) ?_
        rotate_left 2
        · (simp only [List.getElem?_toArray, List.getElem?_cons_zero]; rfl)
        · exact fun _ _ _ h => h
        · rfl
        · intro w hSw
          (try dsimp only at hSw)
          go_simp
          try with_reducible rfl
        simp only [put_arr, List.set_cons_zero, List.set_cons_succ]
        refine wpAnyH_take (i := 1) (oi := ?_) (v := ?_) ?_ (by kernel_rfl) (by kernel_rfl) (by kernel_rfl) ?_ (Or.inl ⟨?_, ?_⟩) (by assumption) ?_
        rotate_left 2
        · (simp only [List.getElem?_toArray, List.getElem?_cons_zero, List.getElem?_cons_succ]; rfl)
        · exact fun _ _ _ h => h
        · rfl
        · intro w hSw
          (try dsimp only at hSw)
          go_simp
          try with_reducible rfl
        simp only [put_arr, List.set_cons_zero, List.set_cons_succ]
        refine wpAnyH_take (i := 2) (oi := ?_) (v := ?_) ?_ (by kernel_rfl) (by kernel_rfl) (by kernel_rfl) ?_ (Or.inl ⟨?_, ?_⟩) (by assumption) ?_
        rotate_left 2
        · (simp only [List.getElem?_toArray, List.getElem?_cons_zero, List.getElem?_cons_succ]; rfl)
        · exact fun _ _ _ h => h
        · rfl
        · intro w hSw
          (try dsimp only at hSw)
          go_simp
          try with_reducible rfl
        simp only [put_arr, List.set_cons_zero, List.set_cons_succ]
        refine wpAnyH_take (i := 3) (oi := ?_) (v := ?_) ?_ (by kernel_rfl) (by kernel_rfl) (by kernel_rfl) ?_ (Or.inl ⟨?_, ?_⟩) (by assumption) ?_
        rotate_left 2
        · (simp only [List.getElem?_toArray, List.getElem?_cons_zero, List.getElem?_cons_succ]; rfl)
        · exact fun _ _ _ h => h
        · rfl
        · intro w hSw
          (try dsimp only at hSw)
          go_simp
          try with_reducible rfl
        simp only [put_arr, List.set_cons_zero, List.set_cons_succ]
        refine wpAnyH_take (i := 4) (oi := ?_) (v := ?_) ?_ (by kernel_rfl) (by kernel_rfl) (by kernel_rfl) ?_ (Or.inl ⟨?_, ?_⟩) (by assumption) ?_
        rotate_left 2
        · (simp only [List.getElem?_toArray, List.getElem?_cons_zero, List.getElem?_cons_succ]; rfl)
        · exact fun _ _ _ h => h
        · rfl
        · intro w hSw
          (try dsimp only at hSw)
          go_simp
          try with_reducible rfl
        simp only [put_arr, List.set_cons_zero, List.set_cons_succ]
        refine wpAnyH_take (i := 5) (oi := ?_) (v := ?_) ?_ (by kernel_rfl) (by kernel_rfl) (by kernel_rfl) ?_ (Or.inl ⟨?_, ?_⟩) (by assumption) ?_
        rotate_left 2
        · (simp only [List.getElem?_toArray, List.getElem?_cons_zero, List.getElem?_cons_succ]; rfl)
        · exact fun _ _ _ h => h
        · rfl
        · intro w hSw
          (try dsimp only at hSw)
          go_simp
          try with_reducible rfl
        simp only [put_arr, List.set_cons_zero, List.set_cons_succ]
        refine wpAnyH_take (i := 6) (oi := ?_) (v := ?_) ?_ (by kernel_rfl) (by kernel_rfl) (by kernel_rfl) ?_ (Or.inl ⟨?_, ?_⟩) (by assumption) ?_
        rotate_left 2
        · (simp only [List.getElem?_toArray, List.getElem?_cons_zero, List.getElem?_cons_succ]; rfl)
        · exact fun _ _ _ h => h
        · rfl
        · intro w hSw
          (try dsimp only at hSw)
          go_simp
          try with_reducible rfl
        simp only [put_arr, List.set_cons_zero, List.set_cons_succ]
        refine wpAnyH_take (i := 7) (oi := ?_) (v := ?_) ?_ (by kernel_rfl) (by kernel_rfl) (by kernel_rfl) ?_ (Or.inl ⟨?_, ?_⟩) (by assumption) ?_
        rotate_left 2
        · (simp only [List.getElem?_toArray, List.getElem?_cons_zero, List.getElem?_cons_succ]; rfl)
        · exact fun _ _ _ h => h
        · rfl
        · intro w hSw
          (try dsimp only at hSw)
          go_simp
          try with_reducible rfl
        simp only [put_arr, List.set_cons_zero, List.set_cons_succ]
        refine wpAnyH_take (i := 8) (oi := ?_) (v := ?_) ?_ (by kernel_rfl) (by kernel_rfl) (by kernel_rfl) ?_ (Or.inl ⟨?_, ?_⟩) (by assumption) ?_
        rotate_left 2
        · (simp only [List.getElem?_toArray, List.getElem?_cons_zero, List.getElem?_cons_succ]; rfl)
        · exact fun _ _ _ h => h
        · rfl
        · intro w hSw
          (try dsimp only at hSw)
          go_simp
          try with_reducible rfl
        simp only [put_arr, List.set_cons_zero, List.set_cons_succ]
        refine wpAnyH_ready (rs := [9]) (by kernel_rfl) (by simp) ?_
        refine AllReadyH.cons (o := ?_) ?_ (fun K hK => ?_) AllReadyH.nil
        rotate_left
        · (simp only [List.getElem?_toArray, List.getElem?_cons_zero, List.getElem?_cons_succ]; rfl)
        rw [if_pos (by rfl)]
        go_simp
        (with_reducible refine (hcmp.call _ b1 b0 (come H0 hBb HB hbase hHeld.1)).mono ?_)
        rintro e v9 ⟨rfl, hb9⟩
        have HZ9 := Bl.then (w := wr) hHeld.1 hb9
        go_wp2_with fail
        refine hK.out _ _ (old_of HZ9) (fun hHeld2 => ?_)
        clear hK K hHeld
        have hHeld := hHeld2
        clear hHeld2
        refine wpAnyH_take (i := 10) (oi := ?_) (v := ?_) ?_ (by kernel_rfl) (by kernel_rfl) (by kernel_rfl) ?_ (Or.inl ⟨?_, ?_⟩) (by assumption) ?_
        rotate_left 2
        · (simp only [List.getElem?_toArray, List.getElem?_cons_zero, List.getElem?_cons_succ]; rfl)
        · exact fun _ _ _ h => h
        · rfl
        · intro w hSw
          (try dsimp only at hSw)
          go_simp
          try with_reducible rfl
        simp only [put_arr, List.set_cons_zero, List.set_cons_succ]
        refine wpAnyH_done (by kernel_rfl) ?_ _
        go_wp2_with fail
        go_roundw
        case rel => exact ⟨i, (i + j) / 2, rfl, congrArg _ e1.out, by omega, by omega, by omega, own_below ho HZ9, hS2, come2 HB hbase HZ9⟩
        case measure => simp [intOf]; omega
    · obtain rfl : j = i := by omega
      obtain ⟨wo, rfl⟩ : ∃ wo : World, wo = wr := ⟨_, rfl⟩
      have hR0 := Lib.hid (show Rotated zs zs a m (a + 1) by rw [hmh.out]; exact Rotated.refl_right zs a (a + 1))
      go_wp2_with fail
      go_loopw [13] (fun p wr => ∃ (k : Nat) (ys : List Int), p = .int .i64 k ∧ a ≤ k ∧ k + 1 ≤ j ∧ wr.ownsRow base 2 1 (.slice (some ⟨g, 0, none⟩) n c) n (ints ys) ∧ Hid (Rotated zs ys a m (k + 1)) ∧ Below base w wr) (fun p _ => j - (intOf p).toNat)
      case atStart => exact ⟨a, zs, rfl, by omega, by omega, ho, hR0, HB⟩
      case round =>
        clear ho HB hR0
        obtain ⟨k, ys, rfl, hak, hki, ho, hR, HB⟩ := hrel
        have hyl := Lib.hid (own_int_len ho)
        by_cases hlk : k + 1 < j
        · have q1 := ho.cellAt (k + 1) (by omega)
          have q0 := ho.cellAt k (by omega)
          rw [ints_get (by rw [hyl.out]; omega)] at q0 q1
          have hfr := ho.frozenAt
          have f1 := hfr (k + 1)
          have f2 := hfr k
          have hst := swap_stored ho (i := k) (j := k + 1) 
          have hR2 := Lib.hid (show Rotated zs (swapL ys k (k + 1)) a m (k + 2) by rw [hmh.out]; exact (hmh.out ▸ hR.out).up hak (by rw [hzl.out]; omega))
          have a0 : (k : Int) < (j : Int) - 1 := by omega
          have a1 : k < n := by omega
          have a2 : (k : Int) + 1 < n := by omega
          have a3 : ((k : Int) + 1).toNat = k + 1 := by omega
          go_wp2_with fail
          go_region
          all_goals
            go_wp2_with fail
            go_roundw
            case rel => exact ⟨k + 1, _, by go_num, by omega, by omega, hst.1, hR2, below_grow HB hbase hg (by first | exact hst.2 | exact grown_drew hst.2)⟩
            case measure => simp [intOf] <;> omega
        · obtain rfl : j = k + 1 := by omega
          have a0 : ¬ (k : Int) < ((k + 1 : Nat) : Int) - 1 := by omega
          have hf := Lib.hid (insL_done ht'.out hmh.out hm_i hjb hS.out hR.out)
          go_wp2_with fail
          refine bodyPost_ret (results_none rfl _ _ _) rfl ?_
          exact ⟨rfl, ys, hf.out.1, hf.out.2, ho, HB⟩
set_option maxRecDepth 100000 in
/-- One element on the right. -/
theorem symRight_any (a m b : Nat) (base g n c : Nat) (zs : List Int) (pl pf pq : Nat) (cf : Int → Int) (N : Int) (B : Nat) (w0 w : World) (ho : w.ownsRow base 2 1 (.slice (some ⟨g, 0, none⟩) n c) n (ints zs)) (hg : base ≤ g) (hbase : base ≤ w.heap.size) (hBb : B ≤ base) (H0 : Below B w0 w) (hcmp : CmpAt B w0 pl pf pq cf N) (hN : N ≤ 64) (hr : RngN N zs) (hn : n ≤ 64) (ht : Two cf zs a m b) (ham : a < m) (hmb : m < b) (hbn : b ≤ n) (hm1 : m ≠ a + 1) (hb1 : b = m + 1) :
    Calls Try.prog 139 #[.slice (some ⟨g, 0, none⟩) n c, .int .i64 a, .int .i64 m, .int .i64 b, .func (.func 93) #[] #[.pointer (some ⟨pl, 0, none⟩), .pointer (some ⟨pf, 0, none⟩), .pointer (some ⟨pq, 0, none⟩)]] w fun e w' => e = .returned (.tuple #[]) ∧ ∃ zs', SortedOn (keyOf cf) zs' a b ∧ Wn zs zs' a b ∧ w'.ownsRow base 2 1 (.slice (some ⟨g, 0, none⟩) n c) n (ints zs') ∧ Below base w w' := by
  have hzl := Lib.hid (own_int_len ho)
  have ht' := Lib.hid ht
  have hrr := Lib.hid (hr.rng hN)
  have hbz := Lib.hid (show b ≤ zs.length by rw [own_int_len ho]; exact hbn)
  have t0 : ((m : Int) - (a : Int) == 1) = false := by rw [beq_eq_false_iff_ne]; omega
  have t1 : ((b : Int) - (m : Int) == 1) = true := by rw [beq_iff_eq]; omega
  have hbi : b ≤ m + 1 := by omega
  have hbh := Lib.hid hb1
  clear ht hb1
  go_enter Try.func139, Try.ntmps139
  go_wp2_with fail
  clear t0 t1
  go_loopw [14, 15] (fun p q wr => ∃ i j : Nat, p = .int .i64 i ∧ q = .int .i64 j ∧ a ≤ i ∧ i ≤ j ∧ j ≤ m ∧ wr.ownsRow base 2 1 (.slice (some ⟨g, 0, none⟩) n c) n (ints zs) ∧ Hid (SrchR cf zs a m i j) ∧ Below base w wr) (fun p q _ => (intOf q).toNat - (intOf p).toNat)
  case atStart => exact ⟨a, m, rfl, rfl, by omega, by omega, by omega, ho, Lib.hid (SrchR.zero cf zs a m), Below.refl _ _⟩
  case round =>
    clear ho
    obtain ⟨i, j, rfl, rfl, hai, hij, hjm, ho, hS, HB⟩ := hrel
    by_cases hlt : i < j
    · have q1 := ho.cellAt m (by omega)
      have q0 := ho.cellAt ((i + j) / 2) (by omega)
      rw [ints_get (by rw [hzl.out]; omega)] at q0 q1
      have hgl := (ho.lt g rfl).2
      have b1 := hr m (by rw [hzl.out]; omega)
      have b0 := hr ((i + j) / 2) (by rw [hzl.out]; omega)
      have a1 : (i + j) / 2 < n := by omega
      have a8 : (0 : Int) ≤ ((i : Int) + (j : Int)) / 2 := by omega
      have a9 : (((i : Int) + (j : Int)) / 2).toNat = (i + j) / 2 := by omega
      have a10 : ((i : Int) + (j : Int)) / 2 < (n : Int) := by omega
      have a2 : m < n := by omega
      have e1 := Lib.hid (show ((i : Int) + (j : Int)) / 2 = (((i + j) / 2 : Nat) : Int) by omega)
      have e2 := Lib.hid (show ((i : Int) + (j : Int)) / 2 + 1 = (((i + j) / 2 + 1 : Nat) : Int) by omega)
      by_cases hc : cf (ix zs m) < cf (ix zs ((i + j) / 2))
      · have hneg : cmpI (cf (ix zs m)) (cf (ix zs ((i + j) / 2))) < 0 := cmpI_lt.2 hc
        have hS2 := Lib.hid (hS.out.down ht'.out hrr.out hbz.out hmb (k := (i + j) / 2) (by omega) (by omega) hc)
        go_wp2_with fail
        refine wp_region_held_drew (S := (fun wz => Below wr.heap.size wr wz ∧ ∀ b o, b < wr.heap.size → wz.cell? ⟨b, o, none⟩ = wr.cell? ⟨b, o, none⟩)) (by kernel_rfl) (old_of (Below.drew (Below.refl _ _))) (fun hHeld => ?_)
        refine wpAnyH_take (i := 0) (oi := ?_) (v := ?_) ?_ (by kernel_rfl) (by kernel_rfl) (by kernel_rfl) ?_ (Or.inl ⟨?_, ?_⟩) (by assumption) ?_
        rotate_left 2
        · (simp only [List.getElem?_toArray, List.getElem?_cons_zero]; rfl)
        · exact fun _ _ _ h => h
        · rfl
        · intro w hSw
          (try dsimp only at hSw)
          go_simp
          try with_reducible rfl
        simp only [put_arr, List.set_cons_zero, List.set_cons_succ]
        refine wpAnyH_take (i := 1) (oi := ?_) (v := ?_) ?_ (by kernel_rfl) (by kernel_rfl) (by kernel_rfl) ?_ (Or.inl ⟨?_, ?_⟩) (by assumption) ?_
        rotate_left 2
        · (simp only [List.getElem?_toArray, List.getElem?_cons_zero, List.getElem?_cons_succ]; rfl)
        · exact fun _ _ _ h => h
        · rfl
        · intro w hSw
          (try dsimp only at hSw)
          go_simp
          try with_reducible rfl
        simp only [put_arr, List.set_cons_zero, List.set_cons_succ]
        refine wpAnyH_take (i := 2) (oi := ?_) (v := ?_) ?_ (by kernel_rfl) (by kernel_rfl) (by kernel_rfl) ?_ (Or.inl ⟨?_, ?_⟩) (by assumption) ?_
        rotate_left 2
        · (simp only [List.getElem?_toArray, List.getElem?_cons_zero, List.getElem?_cons_succ]; rfl)
        · exact fun _ _ _ h => h
        · rfl
        · intro w hSw
          (try dsimp only at hSw)
          go_simp
          try with_reducible rfl
        simp only [put_arr, List.set_cons_zero, List.set_cons_succ]
        refine wpAnyH_take (i := 3) (oi := ?_) (v := ?_) ?_ (by kernel_rfl) (by kernel_rfl) (by kernel_rfl) ?_ (Or.inl ⟨?_, ?_⟩) (by assumption) ?_
        rotate_left 2
        · (simp only [List.getElem?_toArray, List.getElem?_cons_zero, List.getElem?_cons_succ]; rfl)
        · exact fun _ _ _ h => h
        · rfl
        · intro w hSw
          (try dsimp only at hSw)
          go_simp
          try with_reducible rfl
        simp only [put_arr, List.set_cons_zero, List.set_cons_succ]
        refine wpAnyH_take (i := 4) (oi := ?_) (v := ?_) ?_ (by kernel_rfl) (by kernel_rfl) (by kernel_rfl) ?_ (Or.inl ⟨?_, ?_⟩) (by assumption) ?_
        rotate_left 2
        · (simp only [List.getElem?_toArray, List.getElem?_cons_zero, List.getElem?_cons_succ]; rfl)
        · exact fun _ _ _ h => h
        · rfl
        · intro w hSw
          (try dsimp only at hSw)
          go_simp
          try with_reducible rfl
        simp only [put_arr, List.set_cons_zero, List.set_cons_succ]
        refine wpAnyH_take (i := 5) (oi := ?_) (v := ?_) ?_ (by kernel_rfl) (by kernel_rfl) (by kernel_rfl) ?_ (Or.inl ⟨?_, ?_⟩) (by assumption) ?_
        rotate_left 2
        · (simp only [List.getElem?_toArray, List.getElem?_cons_zero, List.getElem?_cons_succ]; rfl)
        · exact fun _ _ _ h => h
        · rfl
        · intro w hSw
          (try dsimp only at hSw)
          go_simp
          try with_reducible rfl
        simp only [put_arr, List.set_cons_zero, List.set_cons_succ]
        refine wpAnyH_take (i := 6) (oi := ?_) (v := ?_) ?_ (by kernel_rfl) (by kernel_rfl) (by kernel_rfl) ?_ (Or.inl ⟨?_, ?_⟩) (by assumption) ?_
        rotate_left 2
        · (simp only [List.getElem?_toArray, List.getElem?_cons_zero, List.getElem?_cons_succ]; rfl)
        · exact fun _ _ _ h => h
        · rfl
        · intro w hSw
          (try dsimp only at hSw)
          go_simp
          try with_reducible rfl
        simp only [put_arr, List.set_cons_zero, List.set_cons_succ]
        refine wpAnyH_take (i := 7) (oi := ?_) (v := ?_) ?_ (by kernel_rfl) (by kernel_rfl) (by kernel_rfl) ?_ (Or.inl ⟨?_, ?_⟩) (by assumption) ?_
        rotate_left 2
        · (simp only [List.getElem?_toArray, List.getElem?_cons_zero, List.getElem?_cons_succ]; rfl)
        · exact fun _ _ _ h => h
        · rfl
        · intro w hSw
          (try dsimp only at hSw)
          go_simp
          try with_reducible rfl
        simp only [put_arr, List.set_cons_zero, List.set_cons_succ]
        refine wpAnyH_take (i := 8) (oi := ?_) (v := ?_) ?_ (by kernel_rfl) (by kernel_rfl) (by kernel_rfl) ?_ (Or.inl ⟨?_, ?_⟩) (by assumption) ?_
        rotate_left 2
        · (simp only [List.getElem?_toArray, List.getElem?_cons_zero, List.getElem?_cons_succ]; rfl)
        · exact fun _ _ _ h => h
        · rfl
        · intro w hSw
          (try dsimp only at hSw)
          go_simp
          try with_reducible rfl
        simp only [put_arr, List.set_cons_zero, List.set_cons_succ]
        refine wpAnyH_ready (rs := [9]) (by kernel_rfl) (by simp) ?_
        refine AllReadyH.cons (o := ?_) ?_ (fun K hK => ?_) AllReadyH.nil
        rotate_left
        · (simp only [List.getElem?_toArray, List.getElem?_cons_zero, List.getElem?_cons_succ]; rfl)
        rw [if_pos (by rfl)]
        go_simp
        (with_reducible refine (hcmp.call _ b1 b0 (come H0 hBb HB hbase hHeld.1)).mono ?_)
        rintro e v9 ⟨rfl, hb9⟩
        have HZ9 := Bl.then (w := wr) hHeld.1 hb9
        go_wp2_with fail
        refine hK.out _ _ (old_of HZ9) (fun hHeld2 => ?_)
        clear hK K hHeld
        have hHeld := hHeld2
        clear hHeld2
        refine wpAnyH_take (i := 10) (oi := ?_) (v := ?_) ?_ (by kernel_rfl) (by kernel_rfl) (by kernel_rfl) ?_ (Or.inl ⟨?_, ?_⟩) (by assumption) ?_
        rotate_left 2
        · (simp only [List.getElem?_toArray, List.getElem?_cons_zero, List.getElem?_cons_succ]; rfl)
        · exact fun _ _ _ h => h
        · rfl
        · intro w hSw
          (try dsimp only at hSw)
          go_simp
          try with_reducible rfl
        simp only [put_arr, List.set_cons_zero, List.set_cons_succ]
        refine wpAnyH_take (i := 11) (oi := ?_) (v := ?_) ?_ (by kernel_rfl) (by kernel_rfl) (by kernel_rfl) ?_ (Or.inl ⟨?_, ?_⟩) (by assumption) ?_
        rotate_left 2
        · (simp only [List.getElem?_toArray, List.getElem?_cons_zero, List.getElem?_cons_succ]; rfl)
        · exact fun _ _ _ h => h
        · rfl
        · intro w hSw
          (try dsimp only at hSw)
          go_simp
          try with_reducible rfl
        simp only [put_arr, List.set_cons_zero, List.set_cons_succ]
        refine wpAnyH_done (by kernel_rfl) ?_ _
        go_wp2_with fail
        go_roundw
        case rel => exact ⟨i, (i + j) / 2, rfl, congrArg _ e1.out, by omega, by omega, by omega, own_below ho HZ9, hS2, come2 HB hbase HZ9⟩
        case measure => simp [intOf]; omega
      · have hneg : ¬ cmpI (cf (ix zs m)) (cf (ix zs ((i + j) / 2))) < 0 := fun h => hc (cmpI_lt.1 h)
        have hdec : decide (cmpI (cf (ix zs m)) (cf (ix zs ((i + j) / 2))) < 0) = false := decide_eq_false hneg
        have hS2 := Lib.hid (hS.out.up ht'.out hrr.out hbz.out hmb (k := (i + j) / 2) (by omega) (by omega) hc)
        go_wp2_with fail
        refine wp_region_held_drew (S := (fun wz => Below wr.heap.size wr wz ∧ ∀ b o, b < wr.heap.size → wz.cell? ⟨b, o, none⟩ = wr.cell? ⟨b, o, none⟩)) (by kernel_rfl) (old_of (Below.drew (Below.refl _ _))) (fun hHeld => ?_)
        refine wpAnyH_take (i := 0) (oi := ?_) (v := ?_) ?_ (by kernel_rfl) (by kernel_rfl) (by kernel_rfl) ?_ (Or.inl ⟨?_, ?_⟩) (by assumption) ?_
        rotate_left 2
        · (simp only [List.getElem?_toArray, List.getElem?_cons_zero]; rfl)
        · exact fun _ _ _ h => h
        · rfl
        · intro w hSw
          (try dsimp only at hSw)
          go_simp
          try with_reducible rfl
        simp only [put_arr, List.set_cons_zero, List.set_cons_succ]
        refine wpAnyH_take (i := 1) (oi := ?_) (v := ?_) ?_ (by kernel_rfl) (by kernel_rfl) (by kernel_rfl) ?_ (Or.inl ⟨?_, ?_⟩) (by assumption) ?_
        rotate_left 2
        · (simp only [List.getElem?_toArray, List.getElem?_cons_zero, List.getElem?_cons_succ]; rfl)
        · exact fun _ _ _ h => h
        · rfl
        · intro w hSw
          (try dsimp only at hSw)
          go_simp
          try with_reducible rfl
        simp only [put_arr, List.set_cons_zero, List.set_cons_succ]
        refine wpAnyH_take (i := 2) (oi := ?_) (v := ?_) ?_ (by kernel_rfl) (by kernel_rfl) (by kernel_rfl) ?_ (Or.inl ⟨?_, ?_⟩) (by assumption) ?_
        rotate_left 2
        · (simp only [List.getElem?_toArray, List.getElem?_cons_zero, List.getElem?_cons_succ]; rfl)
        · exact fun _ _ _ h => h
        · rfl
        · intro w hSw
          (try dsimp only at hSw)
          go_simp
          try with_reducible rfl
        simp only [put_arr, List.set_cons_zero, List.set_cons_succ]
        refine wpAnyH_take (i := 3) (oi := ?_) (v := ?_) ?_ (by kernel_rfl) (by kernel_rfl) (by kernel_rfl) ?_ (Or.inl ⟨?_, ?_⟩) (by assumption) ?_
        rotate_left 2
        · (simp only [List.getElem?_toArray, List.getElem?_cons_zero, List.getElem?_cons_succ]; rfl)
        · exact fun _ _ _ h => h
        · rfl
        · intro w hSw
          (try dsimp only at hSw)
          go_simp
          try with_reducible rfl
        simp only [put_arr, List.set_cons_zero, List.set_cons_succ]
        refine wpAnyH_take (i := 4) (oi := ?_) (v := ?_) ?_ (by kernel_rfl) (by kernel_rfl) (by kernel_rfl) ?_ (Or.inl ⟨?_, ?_⟩) (by assumption) ?_
        rotate_left 2
        · (simp only [List.getElem?_toArray, List.getElem?_cons_zero, List.getElem?_cons_succ]; rfl)
        · exact fun _ _ _ h => h
        · rfl
        · intro w hSw
          (try dsimp only at hSw)
          go_simp
          try with_reducible rfl
        simp only [put_arr, List.set_cons_zero, List.set_cons_succ]
        refine wpAnyH_take (i := 5) (oi := ?_) (v := ?_) ?_ (by kernel_rfl) (by kernel_rfl) (by kernel_rfl) ?_ (Or.inl ⟨?_, ?_⟩) (by assumption) ?_
        rotate_left 2
        · (simp only [List.getElem?_toArray, List.getElem?_cons_zero, List.getElem?_cons_succ]; rfl)
        · exact fun _ _ _ h => h
        · rfl
        · intro w hSw
          (try dsimp only at hSw)
          go_simp
          try with_reducible rfl
        simp only [put_arr, List.set_cons_zero, List.set_cons_succ]
        refine wpAnyH_take (i := 6) (oi := ?_) (v := ?_) ?_ (by kernel_rfl) (by kernel_rfl) (by kernel_rfl) ?_ (Or.inl ⟨?_, ?_⟩) (by assumption) ?_
        rotate_left 2
        · (simp only [List.getElem?_toArray, List.getElem?_cons_zero, List.getElem?_cons_succ]; rfl)
        · exact fun _ _ _ h => h
        · rfl
        · intro w hSw
          (try dsimp only at hSw)
          go_simp
          try with_reducible rfl
        simp only [put_arr, List.set_cons_zero, List.set_cons_succ]
        refine wpAnyH_take (i := 7) (oi := ?_) (v := ?_) ?_ (by kernel_rfl) (by kernel_rfl) (by kernel_rfl) ?_ (Or.inl ⟨?_, ?_⟩) (by assumption) ?_
        rotate_left 2
        · (simp only [List.getElem?_toArray, List.getElem?_cons_zero, List.getElem?_cons_succ]; rfl)
        · exact fun _ _ _ h => h
        · rfl
        · intro w hSw
          (try dsimp only at hSw)
          go_simp
          try with_reducible rfl
        simp only [put_arr, List.set_cons_zero, List.set_cons_succ]
        refine wpAnyH_take (i := 8) (oi := ?_) (v := ?_) ?_ (by kernel_rfl) (by kernel_rfl) (by kernel_rfl) ?_ (Or.inl ⟨?_, ?_⟩) (by assumption) ?_
        rotate_left 2
        · (simp only [List.getElem?_toArray, List.getElem?_cons_zero, List.getElem?_cons_succ]; rfl)
        · exact fun _ _ _ h => h
        · rfl
        · intro w hSw
          (try dsimp only at hSw)
          go_simp
          try with_reducible rfl
        simp only [put_arr, List.set_cons_zero, List.set_cons_succ]
        refine wpAnyH_ready (rs := [9]) (by kernel_rfl) (by simp) ?_
        refine AllReadyH.cons (o := ?_) ?_ (fun K hK => ?_) AllReadyH.nil
        rotate_left
        · (simp only [List.getElem?_toArray, List.getElem?_cons_zero, List.getElem?_cons_succ]; rfl)
        rw [if_pos (by rfl)]
        go_simp
        (with_reducible refine (hcmp.call _ b1 b0 (come H0 hBb HB hbase hHeld.1)).mono ?_)
        rintro e v9 ⟨rfl, hb9⟩
        have HZ9 := Bl.then (w := wr) hHeld.1 hb9
        go_wp2_with fail
        refine hK.out _ _ (old_of HZ9) (fun hHeld2 => ?_)
        clear hK K hHeld
        have hHeld := hHeld2
        clear hHeld2
        refine wpAnyH_take (i := 10) (oi := ?_) (v := ?_) ?_ (by kernel_rfl) (by kernel_rfl) (by kernel_rfl) ?_ (Or.inl ⟨?_, ?_⟩) (by assumption) ?_
        rotate_left 2
        · (simp only [List.getElem?_toArray, List.getElem?_cons_zero, List.getElem?_cons_succ]; rfl)
        · exact fun _ _ _ h => h
        · rfl
        · intro w hSw
          (try dsimp only at hSw)
          go_simp
          try with_reducible rfl
        simp only [put_arr, List.set_cons_zero, List.set_cons_succ]
        refine wpAnyH_take (i := 11) (oi := ?_) (v := ?_) ?_ (by kernel_rfl) (by kernel_rfl) (by kernel_rfl) ?_ (Or.inl ⟨?_, ?_⟩) (by assumption) ?_
        rotate_left 2
        · (simp only [List.getElem?_toArray, List.getElem?_cons_zero, List.getElem?_cons_succ]; rfl)
        · exact fun _ _ _ h => h
        · rfl
        · intro w hSw
          (try dsimp only at hSw)
          go_simp
          try with_reducible rfl
        simp only [put_arr, List.set_cons_zero, List.set_cons_succ]
        refine wpAnyH_done (by kernel_rfl) ?_ _
        go_wp2_with fail
        go_roundw
        case rel => exact ⟨(i + j) / 2 + 1, j, congrArg _ e2.out, rfl, by omega, by omega, hjm, own_below ho HZ9, hS2, come2 HB hbase HZ9⟩
        case measure => simp [intOf]; omega
    · obtain rfl : j = i := by omega
      obtain ⟨wo, rfl⟩ : ∃ wo : World, wo = wr := ⟨_, rfl⟩
      have hR0 := Lib.hid (show Rotated zs zs m m b from Rotated.refl_left zs (by omega))
      go_wp2_with fail
      go_loopw [17] (fun p wr => ∃ (k : Nat) (ys : List Int), p = .int .i64 k ∧ j ≤ k ∧ k ≤ m ∧ wr.ownsRow base 2 1 (.slice (some ⟨g, 0, none⟩) n c) n (ints ys) ∧ Hid (Rotated zs ys k m b) ∧ Below base w wr) (fun p _ => (intOf p).toNat)
      case atStart => exact ⟨m, zs, rfl, by omega, by omega, ho, hR0, HB⟩
      case round =>
        clear ho HB hR0
        obtain ⟨k, ys, rfl, hjk, hkm, ho, hR, HB⟩ := hrel
        have hyl := Lib.hid (own_int_len ho)
        by_cases hlk : j < k
        · obtain ⟨k, rfl⟩ : ∃ q, k = q + 1 := ⟨k - 1, by omega⟩
          have q1 := ho.cellAt (k + 1) (by omega)
          have q0 := ho.cellAt k (by omega)
          rw [ints_get (by rw [hyl.out]; omega)] at q0 q1
          have hfr := ho.frozenAt
          have f1 := hfr (k + 1)
          have f2 := hfr k
          have hst := swap_stored ho (i := k + 1) (j := k) 
          have hR2 := Lib.hid (show Rotated zs (swapL ys (k + 1) k) k m b by
            have h9 := (show Rotated zs ys (k + 1) m (m + 1) from hbh.out ▸ hR.out).down (by omega) (by omega) (by rw [hzl.out]; omega)
            rw [hbh.out]; exact h9)
          have a0 : (j : Int) < (k : Int) + 1 := by omega
          have a1 : (k : Int) + 1 - 1 = k := by omega
          have a2 : (k : Int) + 1 < n := by omega
          have a3 : ((k : Int) + 1).toNat = k + 1 := by omega
          have a4 : IntKind.i64.wrap (k : Int) = k := IntWalk.i64_in _ (by omega)
          have a5 : k < n := by omega
          go_wp2_with fail
          go_region
          all_goals
            go_wp2_with fail
            go_roundw
            case rel => exact ⟨k, _, rfl, by omega, by omega, hst.1, hR2, below_grow HB hbase hg (by first | exact hst.2 | exact grown_drew hst.2)⟩
            case measure => simp [intOf] <;> omega
        · obtain rfl : k = j := by omega
          have hf := Lib.hid (insR_done ht'.out hbh.out hai hjm hS.out hR.out)
          go_wp2_with fail
          refine bodyPost_ret (results_none rfl _ _ _) rfl ?_
          exact ⟨rfl, ys, hf.out.1, hf.out.2, ho, HB⟩
end Go.Proofs.Ytlbgognkaolamaa
