/-
  The merging of two sorted parts, the whole of the library's stable sort; the condition is what the comparison says.
-/
import Derived.Test.YtlbgognkaolamaaStab2
namespace Go.Proofs.Ytlbgognkaolamaa
open Go.RowKit
set_option maxHeartbeats 6400000
set_option linter.unusedVariables false

set_option maxRecDepth 100000 in
/-- Both parts longer than one. -/
theorem symDeep_any (a m b : Nat) (base g n c : Nat) (zs : List Int) (pl pf pq : Nat) (cf : Int → Int) (N : Int) (B : Nat) (w0 w : World) (ho : w.ownsRow base 2 1 (.slice (some ⟨g, 0, none⟩) n c) n (ints zs)) (hg : base ≤ g) (hbase : base ≤ w.heap.size) (hBb : B ≤ base) (H0 : Below B w0 w) (hcmp : CmpAt B w0 pl pf pq cf N) (hN : N ≤ 64) (hr : RngN N zs) (hn : n ≤ 64) (ht : Two cf zs a m b) (ham : a < m) (hmb : m < b) (hbn : b ≤ n) (hm1 : m ≠ a + 1) (hb1 : b ≠ m + 1) (ih : ∀ (a' m' b' : Nat) (LA LM LB : Int) (ys : List Int) (w9 : World), LA = a' → LM = m' → LB = b' → b' - a' < b - a → a' < m' → m' < b' → b' ≤ n → w9.ownsRow base 2 1 (.slice (some ⟨g, 0, none⟩) n c) n (ints ys) → Below B w0 w9 → base ≤ w9.heap.size → RngN N ys → Two cf ys a' m' b' →
    Calls Try.prog 139 #[.slice (some ⟨g, 0, none⟩) n c, .int .i64 LA, .int .i64 LM, .int .i64 LB, .func (.func 93) #[] #[.pointer (some ⟨pl, 0, none⟩), .pointer (some ⟨pf, 0, none⟩), .pointer (some ⟨pq, 0, none⟩)]] w9 fun e w' => e = .returned (.tuple #[]) ∧ ∃ zs', SortedOn (keyOf cf) zs' a' b' ∧ Wn ys zs' a' b' ∧ w'.ownsRow base 2 1 (.slice (some ⟨g, 0, none⟩) n c) n (ints zs') ∧ Below base w9 w') :
    Calls Try.prog 139 #[.slice (some ⟨g, 0, none⟩) n c, .int .i64 a, .int .i64 m, .int .i64 b, .func (.func 93) #[] #[.pointer (some ⟨pl, 0, none⟩), .pointer (some ⟨pf, 0, none⟩), .pointer (some ⟨pq, 0, none⟩)]] w fun e w' => e = .returned (.tuple #[]) ∧ ∃ zs', SortedOn (keyOf cf) zs' a b ∧ Wn zs zs' a b ∧ w'.ownsRow base 2 1 (.slice (some ⟨g, 0, none⟩) n c) n (ints zs') ∧ Below base w w' := by
  have hzl := Lib.hid (own_int_len ho)
  have ht' := Lib.hid ht
  have hrr := Lib.hid (hr.rng hN)
  have hbz := Lib.hid (show b ≤ zs.length by rw [own_int_len ho]; exact hbn)
  have ih' := Lib.hid ih
  have t0 : ((m : Int) - (a : Int) == 1) = false := by rw [beq_eq_false_iff_ne]; omega
  have t1 : ((b : Int) - (m : Int) == 1) = false := by rw [beq_eq_false_iff_ne]; omega
  clear ht ih
  by_cases hmid : (a + b) / 2 < m
  · obtain ⟨s0, hs0⟩ : ∃ s0 : Nat, s0 = (a + b) / 2 + m - b := ⟨_, rfl⟩
    obtain ⟨r0, hr0⟩ : ∃ r0 : Nat, r0 = (a + b) / 2 := ⟨_, rfl⟩
    have e0 := Lib.hid (show ((a : Int) + (b : Int)) / 2 + (m : Int) - (b : Int) = ((s0 : Nat) : Int) by omega)
    have e1 := Lib.hid (show ((a : Int) + (b : Int)) / 2 = ((r0 : Nat) : Int) by omega)
    have f0 : s0 ≤ r0 := by omega
    have f1 : a ≤ s0 := by omega
    have f2 : r0 ≤ m := by omega
    have f3 : r0 ≤ (a + b) / 2 := by omega
    have f4 : (a + b) / 2 + m - b ≤ s0 := by omega
    have hs0i := Lib.hid (show s0 = if (a + b) / 2 < m then (a + b) / 2 + m - b else a by rw [if_pos hmid]; exact hs0)
    have hr0i := Lib.hid (show r0 = if (a + b) / 2 < m then (a + b) / 2 else m by rw [if_pos hmid]; exact hr0)
    clear hs0 hr0
    have hmI : ((a : Int) + (b : Int)) / 2 < (m : Int) := by omega
    go_enter Try.func139, Try.ntmps139
    go_wp2_with fail
    clear t0 t1
    go_loopw [20, 21] (fun p q wr => ∃ s r : Nat, p = .int .i64 s ∧ q = .int .i64 r ∧ s0 ≤ s ∧ s ≤ r ∧ r ≤ r0 ∧ wr.ownsRow base 2 1 (.slice (some ⟨g, 0, none⟩) n c) n (ints zs) ∧ Hid (Srch cf zs ((a + b) / 2 + m - 1) s0 r0 s r) ∧ Below base w wr) (fun p q _ => (intOf q).toNat - (intOf p).toNat)
    case atStart => exact ⟨s0, r0, congrArg _ e0.out, congrArg _ e1.out, by omega, f0, by omega, ho, Lib.hid (Srch.zero cf zs ((a + b) / 2 + m - 1) s0 r0), Below.refl _ _⟩
    case round =>
      clear ho
      obtain ⟨s, r, rfl, rfl, h1, h2, h3, ho, hS, HB⟩ := hrel
      by_cases hlt : s < r
      · have q1 := ho.cellAt ((a + b) / 2 + m - 1 - (s + r) / 2) (by omega)
        have q0 := ho.cellAt ((s + r) / 2) (by omega)
        rw [ints_get (by rw [hzl.out]; omega)] at q0 q1
        have hgl := (ho.lt g rfl).2
        have b1 := hr ((a + b) / 2 + m - 1 - (s + r) / 2) (by rw [hzl.out]; omega)
        have b0 := hr ((s + r) / 2) (by rw [hzl.out]; omega)
        have a1 : (s + r) / 2 < n := by omega
        have a8 : (0 : Int) ≤ ((s : Int) + (r : Int)) / 2 := by omega
        have a9 : (((s : Int) + (r : Int)) / 2).toNat = (s + r) / 2 := by omega
        have a10 : ((s : Int) + (r : Int)) / 2 < (n : Int) := by omega
        have a2 : ((a + b) / 2 + m - 1 - (s + r) / 2) < n := by omega
        have a3 : ((((a : Int) + (b : Int)) / 2 + (m : Int) - 1) - ((s : Int) + (r : Int)) / 2).toNat = ((a + b) / 2 + m - 1 - (s + r) / 2) := by omega
        have a4 : (0 : Int) ≤ (((a : Int) + (b : Int)) / 2 + (m : Int) - 1) - ((s : Int) + (r : Int)) / 2 := by omega
        have a5 : (((a : Int) + (b : Int)) / 2 + (m : Int) - 1) - ((s : Int) + (r : Int)) / 2 < (n : Int) := by omega
        have a6 : ((s : Int) + (r : Int)) / 2 ≤ ((a : Int) + (b : Int)) / 2 + (m : Int) - 1 := by omega
        have a7 : IntKind.i64.wrap ((((a : Int) + (b : Int)) / 2 + (m : Int) - 1) - ((s : Int) + (r : Int)) / 2) = (((a : Int) + (b : Int)) / 2 + (m : Int) - 1) - ((s : Int) + (r : Int)) / 2 := IntWalk.i64_in _ (by omega)
        have e3 := Lib.hid (show ((s : Int) + (r : Int)) / 2 = (((s + r) / 2 : Nat) : Int) by omega)
        have e4 := Lib.hid (show ((s : Int) + (r : Int)) / 2 + 1 = (((s + r) / 2 + 1 : Nat) : Int) by omega)
        have hbi := Lib.hid (below_iff (p := (a + b) / 2 + m - 1) (k := (s + r) / 2) ht'.out hrr.out hbz.out (by omega) (by omega) (by omega) (by omega))
        by_cases hc : cf (ix zs ((a + b) / 2 + m - 1 - (s + r) / 2)) < cf (ix zs ((s + r) / 2))
        · have hneg : cmpI (cf (ix zs ((a + b) / 2 + m - 1 - (s + r) / 2))) (cf (ix zs ((s + r) / 2))) < 0 := cmpI_lt.2 hc
          have hS2 := Lib.hid (hS.out.down (k := (s + r) / 2) ht'.out (by omega) f2 (by omega) (by omega) (hbi.out.1 hc))
          go_wp2_with fail
          refine wp_region_held_drew (S := (fun wz => Below wr.heap.size wr wz ∧ ∀ b o, b < wr.heap.size → wz.cell? ⟨b, o, none⟩ = wr.cell? ⟨b, o, none⟩)) (by kernel_rfl) (old_of (Below.drew (Below.refl _ _))) (fun hHeld => ?_)
          refine wpAnyH_take (i := 0) (oi := ?_) (v := ?_) ?_ (by kernel_rfl) (by kernel_rfl) (by kernel_rfl) ?_ (Or.inl ⟨?_, ?_⟩) (by assumption) ?_
          rotate_left 2
          · (simp only [List.getElem?_toArray, List.getElem?_cons_zero]; rfl)
          · exact fun _ _ _ h => h
          · rfl
          · intro w hSw
            (try dsimp only at hSw)
            go_simp
            try with_reducible rfl
          simp only [put_arr, List.set_cons_zero, List.set_cons_succ]
          refine wpAnyH_take (i := 1) (oi := ?_) (v := ?_) ?_ (by kernel_rfl) (by kernel_rfl) (by kernel_rfl) ?_ (Or.inl ⟨?_, ?_⟩) (by assumption) ?_
          rotate_left 2
          · (simp only [List.getElem?_toArray, List.getElem?_cons_zero, List.getElem?_cons_succ]; rfl)
          · exact fun _ _ _ h => h
          · rfl
          · intro w hSw
            (try dsimp only at hSw)
            go_simp
            try with_reducible rfl
          simp only [put_arr, List.set_cons_zero, List.set_cons_succ]
          refine wpAnyH_take (i := 2) (oi := ?_) (v := ?_) ?_ (by kernel_rfl) (by kernel_rfl) (by kernel_rfl) ?_ (Or.inl ⟨?_, ?_⟩) (by assumption) ?_
          rotate_left 2
          · (simp only [List.getElem?_toArray, List.getElem?_cons_zero, List.getElem?_cons_succ]; rfl)
          · exact fun _ _ _ h => h
          · rfl
          · intro w hSw
            (try dsimp only at hSw)
            go_simp
            try with_reducible rfl
          simp only [put_arr, List.set_cons_zero, List.set_cons_succ]
          refine wpAnyH_take (i := 3) (oi := ?_) (v := ?_) ?_ (by kernel_rfl) (by kernel_rfl) (by kernel_rfl) ?_ (Or.inl ⟨?_, ?_⟩) (by assumption) ?_
          rotate_left 2
          · (simp only [List.getElem?_toArray, List.getElem?_cons_zero, List.getElem?_cons_succ]; rfl)
          · exact fun _ _ _ h => h
          · rfl
          · intro w hSw
            (try dsimp only at hSw)
            go_simp
            try with_reducible rfl
          simp only [put_arr, List.set_cons_zero, List.set_cons_succ]
          refine wpAnyH_take (i := 4) (oi := ?_) (v := ?_) ?_ (by kernel_rfl) (by kernel_rfl) (by kernel_rfl) ?_ (Or.inl ⟨?_, ?_⟩) (by assumption) ?_
          rotate_left 2
          · (simp only [List.getElem?_toArray, List.getElem?_cons_zero, List.getElem?_cons_succ]; rfl)
          · exact fun _ _ _ h => h
          · rfl
          · intro w hSw
            (try dsimp only at hSw)
            go_simp
            try with_reducible rfl
          simp only [put_arr, List.set_cons_zero, List.set_cons_succ]
          refine wpAnyH_take (i := 5) (oi := ?_) (v := ?_) ?_ (by kernel_rfl) (by kernel_rfl) (by kernel_rfl) ?_ (Or.inl ⟨?_, ?_⟩) (by assumption) ?_
          rotate_left 2
          · (simp only [List.getElem?_toArray, List.getElem?_cons_zero, List.getElem?_cons_succ]; rfl)
          · exact fun _ _ _ h => h
          · rfl
          · intro w hSw
            (try dsimp only at hSw)
            go_simp
            try with_reducible rfl
          simp only [put_arr, List.set_cons_zero, List.set_cons_succ]
          refine wpAnyH_take (i := 6) (oi := ?_) (v := ?_) ?_ (by kernel_rfl) (by kernel_rfl) (by kernel_rfl) ?_ (Or.inl ⟨?_, ?_⟩) (by assumption) ?_
          rotate_left 2
          · (simp only [List.getElem?_toArray, List.getElem?_cons_zero, List.getElem?_cons_succ]; rfl)
          · exact fun _ _ _ h => h
          · rfl
          · intro w hSw
            (try dsimp only at hSw)
            go_simp
            try with_reducible rfl
          simp only [put_arr, List.set_cons_zero, List.set_cons_succ]
          refine wpAnyH_take (i := 7) (oi := ?_) (v := ?_) ?_ (by kernel_rfl) (by kernel_rfl) (by kernel_rfl) ?_ (Or.inl ⟨?_, ?_⟩) (by assumption) ?_
          rotate_left 2
          · (simp only [List.getElem?_toArray, List.getElem?_cons_zero, List.getElem?_cons_succ]; rfl)
          · exact fun _ _ _ h => h
          · rfl
          · intro w hSw
            (try dsimp only at hSw)
            go_simp
            try with_reducible rfl
          simp only [put_arr, List.set_cons_zero, List.set_cons_succ]
          refine wpAnyH_take (i := 8) (oi := ?_) (v := ?_) ?_ (by kernel_rfl) (by kernel_rfl) (by kernel_rfl) ?_ (Or.inl ⟨?_, ?_⟩) (by assumption) ?_
          rotate_left 2
          · (simp only [List.getElem?_toArray, List.getElem?_cons_zero, List.getElem?_cons_succ]; rfl)
          · exact fun _ _ _ h => h
          · rfl
          · intro w hSw
            (try dsimp only at hSw)
            go_simp
            try with_reducible rfl
          simp only [put_arr, List.set_cons_zero, List.set_cons_succ]
          refine wpAnyH_take (i := 9) (oi := ?_) (v := ?_) ?_ (by kernel_rfl) (by kernel_rfl) (by kernel_rfl) ?_ (Or.inl ⟨?_, ?_⟩) (by assumption) ?_
          rotate_left 2
          · (simp only [List.getElem?_toArray, List.getElem?_cons_zero, List.getElem?_cons_succ]; rfl)
          · exact fun _ _ _ h => h
          · rfl
          · intro w hSw
            (try dsimp only at hSw)
            go_simp
            try with_reducible rfl
          simp only [put_arr, List.set_cons_zero, List.set_cons_succ]
          refine wpAnyH_take (i := 10) (oi := ?_) (v := ?_) ?_ (by kernel_rfl) (by kernel_rfl) (by kernel_rfl) ?_ (Or.inl ⟨?_, ?_⟩) (by assumption) ?_
          rotate_left 2
          · (simp only [List.getElem?_toArray, List.getElem?_cons_zero, List.getElem?_cons_succ]; rfl)
          · exact fun _ _ _ h => h
          · rfl
          · intro w hSw
            (try dsimp only at hSw)
            go_simp
            try with_reducible rfl
          simp only [put_arr, List.set_cons_zero, List.set_cons_succ]
          refine wpAnyH_ready (rs := [11]) (by kernel_rfl) (by simp) ?_
          refine AllReadyH.cons (o := ?_) ?_ (fun K hK => ?_) AllReadyH.nil
          rotate_left
          · (simp only [List.getElem?_toArray, List.getElem?_cons_zero, List.getElem?_cons_succ]; rfl)
          rw [if_pos (by rfl)]
          go_simp
          (with_reducible refine (hcmp.call _ b1 b0 (come H0 hBb HB hbase hHeld.1)).mono ?_)
          rintro e v9 ⟨rfl, hb9⟩
          have HZ9 := Bl.then (w := wr) hHeld.1 hb9
          go_wp2_with fail
          refine hK.out _ _ (old_of HZ9) (fun hHeld2 => ?_)
          clear hK K hHeld
          have hHeld := hHeld2
          clear hHeld2
          refine wpAnyH_take (i := 12) (oi := ?_) (v := ?_) ?_ (by kernel_rfl) (by kernel_rfl) (by kernel_rfl) ?_ (Or.inl ⟨?_, ?_⟩) (by assumption) ?_
          rotate_left 2
          · (simp only [List.getElem?_toArray, List.getElem?_cons_zero, List.getElem?_cons_succ]; rfl)
          · exact fun _ _ _ h => h
          · rfl
          · intro w hSw
            (try dsimp only at hSw)
            go_simp
            try with_reducible rfl
          simp only [put_arr, List.set_cons_zero, List.set_cons_succ]
          refine wpAnyH_take (i := 13) (oi := ?_) (v := ?_) ?_ (by kernel_rfl) (by kernel_rfl) (by kernel_rfl) ?_ (Or.inl ⟨?_, ?_⟩) (by assumption) ?_
          rotate_left 2
          · (simp only [List.getElem?_toArray, List.getElem?_cons_zero, List.getElem?_cons_succ]; rfl)
          · exact fun _ _ _ h => h
          · rfl
          · intro w hSw
            (try dsimp only at hSw)
            go_simp
            try with_reducible rfl
          simp only [put_arr, List.set_cons_zero, List.set_cons_succ]
          refine wpAnyH_done (by kernel_rfl) ?_ _
          go_wp2_with fail
          go_roundw
          case rel => exact ⟨s, (s + r) / 2, rfl, congrArg _ e3.out, by omega, by omega, by omega, own_below ho HZ9, hS2, come2 HB hbase HZ9⟩
          case measure => simp [intOf]; omega
        · have hneg : ¬ cmpI (cf (ix zs ((a + b) / 2 + m - 1 - (s + r) / 2))) (cf (ix zs ((s + r) / 2))) < 0 := fun h => hc (cmpI_lt.1 h)
          have hdec : decide (cmpI (cf (ix zs ((a + b) / 2 + m - 1 - (s + r) / 2))) (cf (ix zs ((s + r) / 2))) < 0) = false := decide_eq_false hneg
          have hS2 := Lib.hid (hS.out.up (k := (s + r) / 2) ht'.out f1 (by omega) (by omega) (by omega) (fun h => hc (hbi.out.2 h)))
          go_wp2_with fail
          refine wp_region_held_drew (S := (fun wz => Below wr.heap.size wr wz ∧ ∀ b o, b < wr.heap.size → wz.cell? ⟨b, o, none⟩ = wr.cell? ⟨b, o, none⟩)) (by kernel_rfl) (old_of (Below.drew (Below.refl _ _))) (fun hHeld => ?_)
          refine wpAnyH_take (i := 0) (oi := ?_) (v := ?_) ?_ (by kernel_rfl) (by kernel_rfl) (by kernel_rfl) ?_ (Or.inl ⟨?_, ?_⟩) (by assumption) ?_
          rotate_left 2
          · (simp only [List.getElem?_toArray, List.getElem?_cons_zero]; rfl)
          · exact fun _ _ _ h => h
          · rfl
          · intro w hSw
            (try dsimp only at hSw)
            go_simp
            try with_reducible rfl
          simp only [put_arr, List.set_cons_zero, List.set_cons_succ]
          refine wpAnyH_take (i := 1) (oi := ?_) (v := ?_) ?_ (by kernel_rfl) (by kernel_rfl) (by kernel_rfl) ?_ (Or.inl ⟨?_, ?_⟩) (by assumption) ?_
          rotate_left 2
          · (simp only [List.getElem?_toArray, List.getElem?_cons_zero, List.getElem?_cons_succ]; rfl)
          · exact fun _ _ _ h => h
          · rfl
          · intro w hSw
            (try dsimp only at hSw)
            go_simp
            try with_reducible rfl
          simp only [put_arr, List.set_cons_zero, List.set_cons_succ]
          refine wpAnyH_take (i := 2) (oi := ?_) (v := ?_) ?_ (by kernel_rfl) (by kernel_rfl) (by kernel_rfl) ?_ (Or.inl ⟨?_, ?_⟩) (by assumption) ?_
          rotate_left 2
          · (simp only [List.getElem?_toArray, List.getElem?_cons_zero, List.getElem?_cons_succ]; rfl)
          · exact fun _ _ _ h => h
          · rfl
          · intro w hSw
            (try dsimp only at hSw)
            go_simp
            try with_reducible rfl
          simp only [put_arr, List.set_cons_zero, List.set_cons_succ]
          refine wpAnyH_take (i := 3) (oi := ?_) (v := ?_) ?_ (by kernel_rfl) (by kernel_rfl) (by kernel_rfl) ?_ (Or.inl ⟨?_, ?_⟩) (by assumption) ?_
          rotate_left 2
          · (simp only [List.getElem?_toArray, List.getElem?_cons_zero, List.getElem?_cons_succ]; rfl)
          · exact fun _ _ _ h => h
          · rfl
          · intro w hSw
            (try dsimp only at hSw)
            go_simp
            try with_reducible rfl
          simp only [put_arr, List.set_cons_zero, List.set_cons_succ]
          refine wpAnyH_take (i := 4) (oi := ?_) (v := ?_) ?_ (by kernel_rfl) (by kernel_rfl) (by kernel_rfl) ?_ (Or.inl ⟨?_, ?_⟩) (by assumption) ?_
          rotate_left 2
          · (simp only [List.getElem?_toArray, List.getElem?_cons_zero, List.getElem?_cons_succ]; rfl)
          · exact fun _ _ _ h => h
          · rfl
          · intro w hSw
            (try dsimp only at hSw)
            go_simp
            try with_reducible rfl
          simp only [put_arr, List.set_cons_zero, List.set_cons_succ]
          refine wpAnyH_take (i := 5) (oi := ?_) (v := ?_) ?_ (by kernel_rfl) (by kernel_rfl) (by kernel_rfl) ?_ (Or.inl ⟨?_, ?_⟩) (by assumption) ?_
          rotate_left 2
          · (simp only [List.getElem?_toArray, List.getElem?_cons_zero, List.getElem?_cons_succ]; rfl)
          · exact fun _ _ _ h => h
          · rfl
          · intro w hSw
            (try dsimp only at hSw)
            go_simp
            try with_reducible rfl
          simp only [put_arr, List.set_cons_zero, List.set_cons_succ]
          refine wpAnyH_take (i := 6) (oi := ?_) (v := ?_) ?_ (by kernel_rfl) (by kernel_rfl) (by kernel_rfl) ?_ (Or.inl ⟨?_, ?_⟩) (by assumption) ?_
          rotate_left 2
          · (simp only [List.getElem?_toArray, List.getElem?_cons_zero, List.getElem?_cons_succ]; rfl)
          · exact fun _ _ _ h => h
          · rfl
          · intro w hSw
            (try dsimp only at hSw)
            go_simp
            try with_reducible rfl
          simp only [put_arr, List.set_cons_zero, List.set_cons_succ]
          refine wpAnyH_take (i := 7) (oi := ?_) (v := ?_) ?_ (by kernel_rfl) (by kernel_rfl) (by kernel_rfl) ?_ (Or.inl ⟨?_, ?_⟩) (by assumption) ?_
          rotate_left 2
          · (simp only [List.getElem?_toArray, List.getElem?_cons_zero, List.getElem?_cons_succ]; rfl)
          · exact fun _ _ _ h => h
          · rfl
          · intro w hSw
            (try dsimp only at hSw)
            go_simp
            try with_reducible rfl
          simp only [put_arr, List.set_cons_zero, List.set_cons_succ]
          refine wpAnyH_take (i := 8) (oi := ?_) (v := ?_) ?_ (by kernel_rfl) (by kernel_rfl) (by kernel_rfl) ?_ (Or.inl ⟨?_, ?_⟩) (by assumption) ?_
          rotate_left 2
          · (simp only [List.getElem?_toArray, List.getElem?_cons_zero, List.getElem?_cons_succ]; rfl)
          · exact fun _ _ _ h => h
          · rfl
          · intro w hSw
            (try dsimp only at hSw)
            go_simp
            try with_reducible rfl
          simp only [put_arr, List.set_cons_zero, List.set_cons_succ]
          refine wpAnyH_take (i := 9) (oi := ?_) (v := ?_) ?_ (by kernel_rfl) (by kernel_rfl) (by kernel_rfl) ?_ (Or.inl ⟨?_, ?_⟩) (by assumption) ?_
          rotate_left 2
          · (simp only [List.getElem?_toArray, List.getElem?_cons_zero, List.getElem?_cons_succ]; rfl)
          · exact fun _ _ _ h => h
          · rfl
          · intro w hSw
            (try dsimp only at hSw)
            go_simp
            try with_reducible rfl
          simp only [put_arr, List.set_cons_zero, List.set_cons_succ]
          refine wpAnyH_take (i := 10) (oi := ?_) (v := ?_) ?_ (by kernel_rfl) (by kernel_rfl) (by kernel_rfl) ?_ (Or.inl ⟨?_, ?_⟩) (by assumption) ?_
          rotate_left 2
          · (simp only [List.getElem?_toArray, List.getElem?_cons_zero, List.getElem?_cons_succ]; rfl)
          · exact fun _ _ _ h => h
          · rfl
          · intro w hSw
            (try dsimp only at hSw)
            go_simp
            try with_reducible rfl
          simp only [put_arr, List.set_cons_zero, List.set_cons_succ]
          refine wpAnyH_ready (rs := [11]) (by kernel_rfl) (by simp) ?_
          refine AllReadyH.cons (o := ?_) ?_ (fun K hK => ?_) AllReadyH.nil
          rotate_left
          · (simp only [List.getElem?_toArray, List.getElem?_cons_zero, List.getElem?_cons_succ]; rfl)
          rw [if_pos (by rfl)]
          go_simp
          (with_reducible refine (hcmp.call _ b1 b0 (come H0 hBb HB hbase hHeld.1)).mono ?_)
          rintro e v9 ⟨rfl, hb9⟩
          have HZ9 := Bl.then (w := wr) hHeld.1 hb9
          go_wp2_with fail
          refine hK.out _ _ (old_of HZ9) (fun hHeld2 => ?_)
          clear hK K hHeld
          have hHeld := hHeld2
          clear hHeld2
          refine wpAnyH_take (i := 12) (oi := ?_) (v := ?_) ?_ (by kernel_rfl) (by kernel_rfl) (by kernel_rfl) ?_ (Or.inl ⟨?_, ?_⟩) (by assumption) ?_
          rotate_left 2
          · (simp only [List.getElem?_toArray, List.getElem?_cons_zero, List.getElem?_cons_succ]; rfl)
          · exact fun _ _ _ h => h
          · rfl
          · intro w hSw
            (try dsimp only at hSw)
            go_simp
            try with_reducible rfl
          simp only [put_arr, List.set_cons_zero, List.set_cons_succ]
          refine wpAnyH_take (i := 13) (oi := ?_) (v := ?_) ?_ (by kernel_rfl) (by kernel_rfl) (by kernel_rfl) ?_ (Or.inl ⟨?_, ?_⟩) (by assumption) ?_
          rotate_left 2
          · (simp only [List.getElem?_toArray, List.getElem?_cons_zero, List.getElem?_cons_succ]; rfl)
          · exact fun _ _ _ h => h
          · rfl
          · intro w hSw
            (try dsimp only at hSw)
            go_simp
            try with_reducible rfl
          simp only [put_arr, List.set_cons_zero, List.set_cons_succ]
          refine wpAnyH_done (by kernel_rfl) ?_ _
          go_wp2_with fail
          go_roundw
          case rel => exact ⟨(s + r) / 2 + 1, r, congrArg _ e4.out, rfl, by omega, by omega, by omega, own_below ho HZ9, hS2, come2 HB hbase HZ9⟩
          case measure => simp [intOf]; omega
      · obtain rfl : r = s := by omega
        have hrb := Lib.hid hr
        clear e0 e1
        by_cases c1 : r < m
        · by_cases c2 : r < (a + b) / 2
          · by_cases c3 : a < r
            · by_cases c4 : (a + b) / 2 + m - r < b
              · go_wp2_with fail
                refine (rotate_at (a := r) (m := m) (b := (a + b) / 2 + m - r) _ _ ho rfl rfl (by omega) (by omega) (by omega) (by omega) hn).mono ?_
                rintro e w2 ⟨rfl, zs1, hR0, ho1, hg2⟩
                have HB1 := below_grow HB hbase hg hg2
                have hR := Lib.hid hR0
                clear hR0 hg2
                have hmh := Lib.hid (merge_halves ht'.out hrr.out hbz.out ham hmb rfl hs0i.out hr0i.out h1 h3 hS.out hR.out)
                have hr1 := Lib.hid (hr.perm hR.out.1)
                go_wp2_with fail
                refine (ih'.out a r ((a + b) / 2) _ _ _ zs1 _ rfl rfl (by omega) (by omega) (by omega) (by omega) (by omega) ho1 (H0.trans (HB1.mono hBb)) (Nat.le_trans hbase HB1.size) hr1.out hmh.out.2.1).mono ?_
                rintro e w3 ⟨rfl, z1, hs1, hw1, ho2, hb3⟩
                have HB2 := HB1.trans hb3
                have hs1h := Lib.hid hs1
                have hw1h := Lib.hid hw1
                clear hs1 hw1
                have hT2 := Lib.hid (hmh.out.2.2.1.same (by omega) (by omega) (fun k k1 k2 => hw1h.out.2.1 k (by omega)))
                have hr2 := Lib.hid (hr1.out.perm hw1h.out.1)
                go_wp2_with fail
                refine (ih'.out ((a + b) / 2) ((a + b) / 2 + m - r) b _ _ _ z1 _ (by omega) (by omega) rfl (by omega) (by omega) (by omega) (by omega) ho2 (H0.trans (HB2.mono hBb)) (Nat.le_trans hbase HB2.size) hr2.out hT2.out).mono ?_
                rintro e w4 ⟨rfl, z2, hs2, hw2, ho3, hb4⟩
                have HB3 := HB2.trans hb4
                have hs2h := Lib.hid hs2
                have hw2h := Lib.hid hw2
                clear hs2 hw2
                have hfin := Lib.hid (merge_done (by omega) (by omega) hw1h.out hs1h.out hw2h.out hs2h.out hmh.out.2.2.2)
                have hwn := Lib.hid (((hR.out.wn (by omega) (by omega)).wide (a' := a) (b' := b) (by omega) (by omega)).trans hfin.out.2)
                go_wp2_with fail
                go_end0
                exact ⟨rfl, z2, hfin.out.1, hwn.out, ho3, HB3⟩
              · go_wp2_with fail
                refine (rotate_at (a := r) (m := m) (b := (a + b) / 2 + m - r) _ _ ho rfl rfl (by omega) (by omega) (by omega) (by omega) hn).mono ?_
                rintro e w2 ⟨rfl, zs1, hR0, ho1, hg2⟩
                have HB1 := below_grow HB hbase hg hg2
                have hR := Lib.hid hR0
                clear hR0 hg2
                have hmh := Lib.hid (merge_halves ht'.out hrr.out hbz.out ham hmb rfl hs0i.out hr0i.out h1 h3 hS.out hR.out)
                have hr1 := Lib.hid (hr.perm hR.out.1)
                go_wp2_with fail
                refine (ih'.out a r ((a + b) / 2) _ _ _ zs1 _ rfl rfl (by omega) (by omega) (by omega) (by omega) (by omega) ho1 (H0.trans (HB1.mono hBb)) (Nat.le_trans hbase HB1.size) hr1.out hmh.out.2.1).mono ?_
                rintro e w3 ⟨rfl, z1, hs1, hw1, ho2, hb3⟩
                have HB2 := HB1.trans hb3
                have hs1h := Lib.hid hs1
                have hw1h := Lib.hid hw1
                clear hs1 hw1
                have hT2 := Lib.hid (hmh.out.2.2.1.same (by omega) (by omega) (fun k k1 k2 => hw1h.out.2.1 k (by omega)))
                have hr2 := Lib.hid (hr1.out.perm hw1h.out.1)
                obtain ⟨z2, hz3⟩ : ∃ z2, z2 = z1 := ⟨_, rfl⟩
                have hs2h := Lib.hid (show SortedOn (keyOf cf) z2 ((a + b) / 2) b by rw [hz3]; exact two_one hT2.out (by omega))
                have hw2h := Lib.hid (show Wn z1 z2 ((a + b) / 2) b by rw [hz3]; exact Wn.refl _ _ _)
                have ho3 := ho2
                rw [← hz3] at ho3
                have HB3 := HB2
                clear hz3
                have hfin := Lib.hid (merge_done (by omega) (by omega) hw1h.out hs1h.out hw2h.out hs2h.out hmh.out.2.2.2)
                have hwn := Lib.hid (((hR.out.wn (by omega) (by omega)).wide (a' := a) (b' := b) (by omega) (by omega)).trans hfin.out.2)
                go_wp2_with fail
                go_end0
                exact ⟨rfl, z2, hfin.out.1, hwn.out, ho3, HB3⟩
            · by_cases c4 : (a + b) / 2 + m - r < b
              · exfalso; omega
              · go_wp2_with fail
                refine (rotate_at (a := r) (m := m) (b := (a + b) / 2 + m - r) _ _ ho rfl rfl (by omega) (by omega) (by omega) (by omega) hn).mono ?_
                rintro e w2 ⟨rfl, zs1, hR0, ho1, hg2⟩
                have HB1 := below_grow HB hbase hg hg2
                have hR := Lib.hid hR0
                clear hR0 hg2
                have hmh := Lib.hid (merge_halves ht'.out hrr.out hbz.out ham hmb rfl hs0i.out hr0i.out h1 h3 hS.out hR.out)
                have hr1 := Lib.hid (hr.perm hR.out.1)
                obtain ⟨z1, hz2⟩ : ∃ z1, z1 = zs1 := ⟨_, rfl⟩
                have hs1h := Lib.hid (show SortedOn (keyOf cf) z1 a ((a + b) / 2) by rw [hz2]; exact two_one hmh.out.2.1 (by omega))
                have hw1h := Lib.hid (show Wn zs1 z1 a ((a + b) / 2) by rw [hz2]; exact Wn.refl _ _ _)
                have ho2 := ho1
                rw [← hz2] at ho2
                have HB2 := HB1
                clear hz2
                have hT2 := Lib.hid (hmh.out.2.2.1.same (by omega) (by omega) (fun k k1 k2 => hw1h.out.2.1 k (by omega)))
                have hr2 := Lib.hid (hr1.out.perm hw1h.out.1)
                obtain ⟨z2, hz3⟩ : ∃ z2, z2 = z1 := ⟨_, rfl⟩
                have hs2h := Lib.hid (show SortedOn (keyOf cf) z2 ((a + b) / 2) b by rw [hz3]; exact two_one hT2.out (by omega))
                have hw2h := Lib.hid (show Wn z1 z2 ((a + b) / 2) b by rw [hz3]; exact Wn.refl _ _ _)
                have ho3 := ho2
                rw [← hz3] at ho3
                have HB3 := HB2
                clear hz3
                have hfin := Lib.hid (merge_done (by omega) (by omega) hw1h.out hs1h.out hw2h.out hs2h.out hmh.out.2.2.2)
                have hwn := Lib.hid (((hR.out.wn (by omega) (by omega)).wide (a' := a) (b' := b) (by omega) (by omega)).trans hfin.out.2)
                go_wp2_with fail
                go_end0
                exact ⟨rfl, z2, hfin.out.1, hwn.out, ho3, HB3⟩
          · go_wp2_with fail
            obtain ⟨zs1, hz1⟩ : ∃ zs1, zs1 = zs := ⟨_, rfl⟩
            have hR := Lib.hid (show Rotated zs zs1 r m ((a + b) / 2 + m - r) by rw [hz1]; rw [show (a + b) / 2 + m - r = m by omega]; exact Rotated.refl_right _ _ _)
            have ho1 := ho
            rw [← hz1] at ho1
            have HB1 := HB
            clear hz1
            have hmh := Lib.hid (merge_halves ht'.out hrr.out hbz.out ham hmb rfl hs0i.out hr0i.out h1 h3 hS.out hR.out)
            have hr1 := Lib.hid (hr.perm hR.out.1)
            obtain ⟨z1, hz2⟩ : ∃ z1, z1 = zs1 := ⟨_, rfl⟩
            have hs1h := Lib.hid (show SortedOn (keyOf cf) z1 a ((a + b) / 2) by rw [hz2]; exact two_one hmh.out.2.1 (by omega))
            have hw1h := Lib.hid (show Wn zs1 z1 a ((a + b) / 2) by rw [hz2]; exact Wn.refl _ _ _)
            have ho2 := ho1
            rw [← hz2] at ho2
            have HB2 := HB1
            clear hz2
            have hT2 := Lib.hid (hmh.out.2.2.1.same (by omega) (by omega) (fun k k1 k2 => hw1h.out.2.1 k (by omega)))
            have hr2 := Lib.hid (hr1.out.perm hw1h.out.1)
            refine (ih'.out ((a + b) / 2) ((a + b) / 2 + m - r) b _ _ _ z1 _ (by omega) (by omega) rfl (by omega) (by omega) (by omega) (by omega) ho2 (H0.trans (HB2.mono hBb)) (Nat.le_trans hbase HB2.size) hr2.out hT2.out).mono ?_
            rintro e w4 ⟨rfl, z2, hs2, hw2, ho3, hb4⟩
            have HB3 := HB2.trans hb4
            have hs2h := Lib.hid hs2
            have hw2h := Lib.hid hw2
            clear hs2 hw2
            have hfin := Lib.hid (merge_done (by omega) (by omega) hw1h.out hs1h.out hw2h.out hs2h.out hmh.out.2.2.2)
            have hwn := Lib.hid (((hR.out.wn (by omega) (by omega)).wide (a' := a) (b' := b) (by omega) (by omega)).trans hfin.out.2)
            go_wp2_with fail
            go_end0
            exact ⟨rfl, z2, hfin.out.1, hwn.out, ho3, HB3⟩
        · exfalso; omega
  · obtain ⟨s0, hs0⟩ : ∃ s0 : Nat, s0 = a := ⟨_, rfl⟩
    obtain ⟨r0, hr0⟩ : ∃ r0 : Nat, r0 = m := ⟨_, rfl⟩
    have e0 := Lib.hid (show (a : Int) = ((s0 : Nat) : Int) by omega)
    have e1 := Lib.hid (show (m : Int) = ((r0 : Nat) : Int) by omega)
    have f0 : s0 ≤ r0 := by omega
    have f1 : a ≤ s0 := by omega
    have f2 : r0 ≤ m := by omega
    have f3 : r0 ≤ (a + b) / 2 := by omega
    have f4 : (a + b) / 2 + m - b ≤ s0 := by omega
    have hs0i := Lib.hid (show s0 = if (a + b) / 2 < m then (a + b) / 2 + m - b else a by rw [if_neg hmid]; exact hs0)
    have hr0i := Lib.hid (show r0 = if (a + b) / 2 < m then (a + b) / 2 else m by rw [if_neg hmid]; exact hr0)
    clear hs0 hr0
    have hmI : ¬ ((a : Int) + (b : Int)) / 2 < (m : Int) := by omega
    go_enter Try.func139, Try.ntmps139
    go_wp2_with fail
    clear t0 t1
    go_loopw [20, 21] (fun p q wr => ∃ s r : Nat, p = .int .i64 s ∧ q = .int .i64 r ∧ s0 ≤ s ∧ s ≤ r ∧ r ≤ r0 ∧ wr.ownsRow base 2 1 (.slice (some ⟨g, 0, none⟩) n c) n (ints zs) ∧ Hid (Srch cf zs ((a + b) / 2 + m - 1) s0 r0 s r) ∧ Below base w wr) (fun p q _ => (intOf q).toNat - (intOf p).toNat)
    case atStart => exact ⟨s0, r0, congrArg _ e0.out, congrArg _ e1.out, by omega, f0, by omega, ho, Lib.hid (Srch.zero cf zs ((a + b) / 2 + m - 1) s0 r0), Below.refl _ _⟩
    case round =>
      clear ho
      obtain ⟨s, r, rfl, rfl, h1, h2, h3, ho, hS, HB⟩ := hrel
      by_cases hlt : s < r
      · have q1 := ho.cellAt ((a + b) / 2 + m - 1 - (s + r) / 2) (by omega)
        have q0 := ho.cellAt ((s + r) / 2) (by omega)
        rw [ints_get (by rw [hzl.out]; omega)] at q0 q1
        have hgl := (ho.lt g rfl).2
        have b1 := hr ((a + b) / 2 + m - 1 - (s + r) / 2) (by rw [hzl.out]; omega)
        have b0 := hr ((s + r) / 2) (by rw [hzl.out]; omega)
        have a1 : (s + r) / 2 < n := by omega
        have a8 : (0 : Int) ≤ ((s : Int) + (r : Int)) / 2 := by omega
        have a9 : (((s : Int) + (r : Int)) / 2).toNat = (s + r) / 2 := by omega
        have a10 : ((s : Int) + (r : Int)) / 2 < (n : Int) := by omega
        have a2 : ((a + b) / 2 + m - 1 - (s + r) / 2) < n := by omega
        have a3 : ((((a : Int) + (b : Int)) / 2 + (m : Int) - 1) - ((s : Int) + (r : Int)) / 2).toNat = ((a + b) / 2 + m - 1 - (s + r) / 2) := by omega
        have a4 : (0 : Int) ≤ (((a : Int) + (b : Int)) / 2 + (m : Int) - 1) - ((s : Int) + (r : Int)) / 2 := by omega
        have a5 : (((a : Int) + (b : Int)) / 2 + (m : Int) - 1) - ((s : Int) + (r : Int)) / 2 < (n : Int) := by omega
        have a6 : ((s : Int) + (r : Int)) / 2 ≤ ((a : Int) + (b : Int)) / 2 + (m : Int) - 1 := by omega
        have a7 : IntKind.i64.wrap ((((a : Int) + (b : Int)) / 2 + (m : Int) - 1) - ((s : Int) + (r : Int)) / 2) = (((a : Int) + (b : Int)) / 2 + (m : Int) - 1) - ((s : Int) + (r : Int)) / 2 := IntWalk.i64_in _ (by omega)
        have e3 := Lib.hid (show ((s : Int) + (r : Int)) / 2 = (((s + r) / 2 : Nat) : Int) by omega)
        have e4 := Lib.hid (show ((s : Int) + (r : Int)) / 2 + 1 = (((s + r) / 2 + 1 : Nat) : Int) by omega)
        have hbi := Lib.hid (below_iff (p := (a + b) / 2 + m - 1) (k := (s + r) / 2) ht'.out hrr.out hbz.out (by omega) (by omega) (by omega) (by omega))
        by_cases hc : cf (ix zs ((a + b) / 2 + m - 1 - (s + r) / 2)) < cf (ix zs ((s + r) / 2))
        · have hneg : cmpI (cf (ix zs ((a + b) / 2 + m - 1 - (s + r) / 2))) (cf (ix zs ((s + r) / 2))) < 0 := cmpI_lt.2 hc
          have hS2 := Lib.hid (hS.out.down (k := (s + r) / 2) ht'.out (by omega) f2 (by omega) (by omega) (hbi.out.1 hc))
          go_wp2_with fail
          refine wp_region_held_drew (S := (fun wz => Below wr.heap.size wr wz ∧ ∀ b o, b < wr.heap.size → wz.cell? ⟨b, o, none⟩ = wr.cell? ⟨b, o, none⟩)) (by kernel_rfl) (old_of (Below.drew (Below.refl _ _))) (fun hHeld => ?_)
          refine wpAnyH_take (i := 0) (oi := ?_) (v := ?_) ?_ (by kernel_rfl) (by kernel_rfl) (by kernel_rfl) ?_ (Or.inl ⟨?_, ?_⟩) (by assumption) ?_
          rotate_left 2
          · (simp only [List.getElem?_toArray, List.getElem?_cons_zero]; rfl)
          · exact fun _ _ _ h => h
          · rfl
          · intro w hSw
            (try dsimp only at hSw)
            go_simp
            try with_reducible rfl
          simp only [put_arr, List.set_cons_zero, List.set_cons_succ]
          refine wpAnyH_take (i := 1) (oi := ?_) (v := ?_) ?_ (by kernel_rfl) (by kernel_rfl) (by kernel_rfl) ?_ (Or.inl ⟨?_, ?_⟩) (by assumption) ?_
          rotate_left 2
          · (simp only [List.getElem?_toArray, List.getElem?_cons_zero, List.getElem?_cons_succ]; rfl)
          · exact fun _ _ _ h => h
          · rfl
          · intro w hSw
            (try dsimp only at hSw)
            go_simp
            try with_reducible rfl
          simp only [put_arr, List.set_cons_zero, List.set_cons_succ]
          refine wpAnyH_take (i := 2) (oi := ?_) (v := ?_) ?_ (by kernel_rfl) (by kernel_rfl) (by kernel_rfl) ?_ (Or.inl ⟨?_, ?_⟩) (by assumption) ?_
          rotate_left 2
          · (simp only [List.getElem?_toArray, List.getElem?_cons_zero, List.getElem?_cons_succ]; rfl)
          · exact fun _ _ _ h => h
          · rfl
          · intro w hSw
            (try dsimp only at hSw)
            go_simp
            try with_reducible rfl
          simp only [put_arr, List.set_cons_zero, List.set_cons_succ]
          refine wpAnyH_take (i := 3) (oi := ?_) (v := ?_) ?_ (by kernel_rfl) (by kernel_rfl) (by kernel_rfl) ?_ (Or.inl ⟨?_, ?_⟩) (by assumption) ?_
          rotate_left 2
          · (simp only [List.getElem?_toArray, List.getElem?_cons_zero, List.getElem?_cons_succ]; rfl)
          · exact fun _ _ _ h => h
          · rfl
          · intro w hSw
            (try dsimp only at hSw)
            go_simp
            try with_reducible rfl
          simp only [put_arr, List.set_cons_zero, List.set_cons_succ]
          refine wpAnyH_take (i := 4) (oi := ?_) (v := ?_) ?_ (by kernel_rfl) (by kernel_rfl) (by kernel_rfl) ?_ (Or.inl ⟨?_, ?_⟩) (by assumption) ?_
          rotate_left 2
          · (simp only [List.getElem?_toArray, List.getElem?_cons_zero, List.getElem?_cons_succ]; rfl)
          · exact fun _ _ _ h => h
          · rfl
          · intro w hSw
            (try dsimp only at hSw)
            go_simp
            try with_reducible rfl
          simp only [put_arr, List.set_cons_zero, List.set_cons_succ]
          refine wpAnyH_take (i := 5) (oi := ?_) (v := ?_) ?_ (by kernel_rfl) (by kernel_rfl) (by kernel_rfl) ?_ (Or.inl ⟨?_, ?_⟩) (by assumption) ?_
          rotate_left 2
          · (simp only [List.getElem?_toArray, List.getElem?_cons_zero, List.getElem?_cons_succ]; rfl)
          · exact fun _ _ _ h => h
          · rfl
          · intro w hSw
            (try dsimp only at hSw)
            go_simp
            try with_reducible rfl
          simp only [put_arr, List.set_cons_zero, List.set_cons_succ]
          refine wpAnyH_take (i := 6) (oi := ?_) (v := ?_) ?_ (by kernel_rfl) (by kernel_rfl) (by kernel_rfl) ?_ (Or.inl ⟨?_, ?_⟩) (by assumption) ?_
          rotate_left 2
          · (simp only [List.getElem?_toArray, List.getElem?_cons_zero, List.getElem?_cons_succ]; rfl)
          · exact fun _ _ _ h => h
          · rfl
          · intro w hSw
            (try dsimp only at hSw)
            go_simp
            try with_reducible rfl
          simp only [put_arr, List.set_cons_zero, List.set_cons_succ]
          refine wpAnyH_take (i := 7) (oi := ?_) (v := ?_) ?_ (by kernel_rfl) (by kernel_rfl) (by kernel_rfl) ?_ (Or.inl ⟨?_, ?_⟩) (by assumption) ?_
          rotate_left 2
          · (simp only [List.getElem?_toArray, List.getElem?_cons_zero, List.getElem?_cons_succ]; rfl)
          · exact fun _ _ _ h => h
          · rfl
          · intro w hSw
            (try dsimp only at hSw)
            go_simp
            try with_reducible rfl
          simp only [put_arr, List.set_cons_zero, List.set_cons_succ]
          refine wpAnyH_take (i := 8) (oi := ?_) (v := ?_) ?_ (by kernel_rfl) (by kernel_rfl) (by kernel_rfl) ?_ (Or.inl ⟨?_, ?_⟩) (by assumption) ?_
          rotate_left 2
          · (simp only [List.getElem?_toArray, List.getElem?_cons_zero, List.getElem?_cons_succ]; rfl)
          · exact fun _ _ _ h => h
          · rfl
          · intro w hSw
            (try dsimp only at hSw)
            go_simp
            try with_reducible rfl
          simp only [put_arr, List.set_cons_zero, List.set_cons_succ]
          refine wpAnyH_take (i := 9) (oi := ?_) (v := ?_) ?_ (by kernel_rfl) (by kernel_rfl) (by kernel_rfl) ?_ (Or.inl ⟨?_, ?_⟩) (by assumption) ?_
          rotate_left 2
          · (simp only [List.getElem?_toArray, List.getElem?_cons_zero, List.getElem?_cons_succ]; rfl)
          · exact fun _ _ _ h => h
          · rfl
          · intro w hSw
            (try dsimp only at hSw)
            go_simp
            try with_reducible rfl
          simp only [put_arr, List.set_cons_zero, List.set_cons_succ]
          refine wpAnyH_take (i := 10) (oi := ?_) (v := ?_) ?_ (by kernel_rfl) (by kernel_rfl) (by kernel_rfl) ?_ (Or.inl ⟨?_, ?_⟩) (by assumption) ?_
          rotate_left 2
          · (simp only [List.getElem?_toArray, List.getElem?_cons_zero, List.getElem?_cons_succ]; rfl)
          · exact fun _ _ _ h => h
          · rfl
          · intro w hSw
            (try dsimp only at hSw)
            go_simp
            try with_reducible rfl
          simp only [put_arr, List.set_cons_zero, List.set_cons_succ]
          refine wpAnyH_ready (rs := [11]) (by kernel_rfl) (by simp) ?_
          refine AllReadyH.cons (o := ?_) ?_ (fun K hK => ?_) AllReadyH.nil
          rotate_left
          · (simp only [List.getElem?_toArray, List.getElem?_cons_zero, List.getElem?_cons_succ]; rfl)
          rw [if_pos (by rfl)]
          go_simp
          (with_reducible refine (hcmp.call _ b1 b0 (come H0 hBb HB hbase hHeld.1)).mono ?_)
          rintro e v9 ⟨rfl, hb9⟩
          have HZ9 := Bl.then (w := wr) hHeld.1 hb9
          go_wp2_with fail
          refine hK.out _ _ (old_of HZ9) (fun hHeld2 => ?_)
          clear hK K hHeld
          have hHeld := hHeld2
          clear hHeld2
          refine wpAnyH_take (i := 12) (oi := ?_) (v := ?_) ?_ (by kernel_rfl) (by kernel_rfl) (by kernel_rfl) ?_ (Or.inl ⟨?_, ?_⟩) (by assumption) ?_
          rotate_left 2
          · (simp only [List.getElem?_toArray, List.getElem?_cons_zero, List.getElem?_cons_succ]; rfl)
          · exact fun _ _ _ h => h
          · rfl
          · intro w hSw
            (try dsimp only at hSw)
            go_simp
            try with_reducible rfl
          simp only [put_arr, List.set_cons_zero, List.set_cons_succ]
          refine wpAnyH_take (i := 13) (oi := ?_) (v := ?_) ?_ (by kernel_rfl) (by kernel_rfl) (by kernel_rfl) ?_ (Or.inl ⟨?_, ?_⟩) (by assumption) ?_
          rotate_left 2
          · (simp only [List.getElem?_toArray, List.getElem?_cons_zero, List.getElem?_cons_succ]; rfl)
          · exact fun _ _ _ h => h
          · rfl
          · intro w hSw
            (try dsimp only at hSw)
            go_simp
            try with_reducible rfl
          simp only [put_arr, List.set_cons_zero, List.set_cons_succ]
          refine wpAnyH_done (by kernel_rfl) ?_ _
          go_wp2_with fail
          go_roundw
          case rel => exact ⟨s, (s + r) / 2, rfl, congrArg _ e3.out, by omega, by omega, by omega, own_below ho HZ9, hS2, come2 HB hbase HZ9⟩
          case measure => simp [intOf]; omega
        · have hneg : ¬ cmpI (cf (ix zs ((a + b) / 2 + m - 1 - (s + r) / 2))) (cf (ix zs ((s + r) / 2))) < 0 := fun h => hc (cmpI_lt.1 h)
          have hdec : decide (cmpI (cf (ix zs ((a + b) / 2 + m - 1 - (s + r) / 2))) (cf (ix zs ((s + r) / 2))) < 0) = false := decide_eq_false hneg
          have hS2 := Lib.hid (hS.out.up (k := (s + r) / 2) ht'.out f1 (by omega) (by omega) (by omega) (fun h => hc (hbi.out.2 h)))
          go_wp2_with fail
          refine wp_region_held_drew (S := (fun wz => Below wr.heap.size wr wz ∧ ∀ b o, b < wr.heap.size → wz.cell? ⟨b, o, none⟩ = wr.cell? ⟨b, o, none⟩)) (by kernel_rfl) (old_of (Below.drew (Below.refl _ _))) (fun hHeld => ?_)
          refine wpAnyH_take (i := 0) (oi := ?_) (v := ?_) ?_ (by kernel_rfl) (by kernel_rfl) (by kernel_rfl) ?_ (Or.inl ⟨?_, ?_⟩) (by assumption) ?_
          rotate_left 2
          · (simp only [List.getElem?_toArray, List.getElem?_cons_zero]; rfl)
          · exact fun _ _ _ h => h
          · rfl
          · intro w hSw
            (try dsimp only at hSw)
            go_simp
            try with_reducible rfl
          simp only [put_arr, List.set_cons_zero, List.set_cons_succ]
          refine wpAnyH_take (i := 1) (oi := ?_) (v := ?_) ?_ (by kernel_rfl) (by kernel_rfl) (by kernel_rfl) ?_ (Or.inl ⟨?_, ?_⟩) (by assumption) ?_
          rotate_left 2
          · (simp only [List.getElem?_toArray, List.getElem?_cons_zero, List.getElem?_cons_succ]; rfl)
          · exact fun _ _ _ h => h
          · rfl
          · intro w hSw
            (try dsimp only at hSw)
            go_simp
            try with_reducible rfl
          simp only [put_arr, List.set_cons_zero, List.set_cons_succ]
          refine wpAnyH_take (i := 2) (oi := ?_) (v := ?_) ?_ (by kernel_rfl) (by kernel_rfl) (by kernel_rfl) ?_ (Or.inl ⟨?_, ?_⟩) (by assumption) ?_
          rotate_left 2
          · (simp only [List.getElem?_toArray, List.getElem?_cons_zero, List.getElem?_cons_succ]; rfl)
          · exact fun _ _ _ h => h
          · rfl
          · intro w hSw
            (try dsimp only at hSw)
            go_simp
            try with_reducible rfl
          simp only [put_arr, List.set_cons_zero, List.set_cons_succ]
          refine wpAnyH_take (i := 3) (oi := ?_) (v := ?_) ?_ (by kernel_rfl) (by kernel_rfl) (by kernel_rfl) ?_ (Or.inl ⟨?_, ?_⟩) (by assumption) ?_
          rotate_left 2
          · (simp only [List.getElem?_toArray, List.getElem?_cons_zero, List.getElem?_cons_succ]; rfl)
          · exact fun _ _ _ h => h
          · rfl
          · intro w hSw
            (try dsimp only at hSw)
            go_simp
            try with_reducible rfl
          simp only [put_arr, List.set_cons_zero, List.set_cons_succ]
          refine wpAnyH_take (i := 4) (oi := ?_) (v := ?_) ?_ (by kernel_rfl) (by kernel_rfl) (by kernel_rfl) ?_ (Or.inl ⟨?_, ?_⟩) (by assumption) ?_
          rotate_left 2
          · (simp only [List.getElem?_toArray, List.getElem?_cons_zero, List.getElem?_cons_succ]; rfl)
          · exact fun _ _ _ h => h
          · rfl
          · intro w hSw
            (try dsimp only at hSw)
            go_simp
            try with_reducible rfl
          simp only [put_arr, List.set_cons_zero, List.set_cons_succ]
          refine wpAnyH_take (i := 5) (oi := ?_) (v := ?_) ?_ (by kernel_rfl) (by kernel_rfl) (by kernel_rfl) ?_ (Or.inl ⟨?_, ?_⟩) (by assumption) ?_
          rotate_left 2
          · (simp only [List.getElem?_toArray, List.getElem?_cons_zero, List.getElem?_cons_succ]; rfl)
          · exact fun _ _ _ h => h
          · rfl
          · intro w hSw
            (try dsimp only at hSw)
            go_simp
            try with_reducible rfl
          simp only [put_arr, List.set_cons_zero, List.set_cons_succ]
          refine wpAnyH_take (i := 6) (oi := ?_) (v := ?_) ?_ (by kernel_rfl) (by kernel_rfl) (by kernel_rfl) ?_ (Or.inl ⟨?_, ?_⟩) (by assumption) ?_
          rotate_left 2
          · (simp only [List.getElem?_toArray, List.getElem?_cons_zero, List.getElem?_cons_succ]; rfl)
          · exact fun _ _ _ h => h
          · rfl
          · intro w hSw
            (try dsimp only at hSw)
            go_simp
            try with_reducible rfl
          simp only [put_arr, List.set_cons_zero, List.set_cons_succ]
          refine wpAnyH_take (i := 7) (oi := ?_) (v := ?_) ?_ (by kernel_rfl) (by kernel_rfl) (by kernel_rfl) ?_ (Or.inl ⟨?_, ?_⟩) (by assumption) ?_
          rotate_left 2
          · (simp only [List.getElem?_toArray, List.getElem?_cons_zero, List.getElem?_cons_succ]; rfl)
          · exact fun _ _ _ h => h
          · rfl
          · intro w hSw
            (try dsimp only at hSw)
            go_simp
            try with_reducible rfl
          simp only [put_arr, List.set_cons_zero, List.set_cons_succ]
          refine wpAnyH_take (i := 8) (oi := ?_) (v := ?_) ?_ (by kernel_rfl) (by kernel_rfl) (by kernel_rfl) ?_ (Or.inl ⟨?_, ?_⟩) (by assumption) ?_
          rotate_left 2
          · (simp only [List.getElem?_toArray, List.getElem?_cons_zero, List.getElem?_cons_succ]; rfl)
          · exact fun _ _ _ h => h
          · rfl
          · intro w hSw
            (try dsimp only at hSw)
            go_simp
            try with_reducible rfl
          simp only [put_arr, List.set_cons_zero, List.set_cons_succ]
          refine wpAnyH_take (i := 9) (oi := ?_) (v := ?_) ?_ (by kernel_rfl) (by kernel_rfl) (by kernel_rfl) ?_ (Or.inl ⟨?_, ?_⟩) (by assumption) ?_
          rotate_left 2
          · (simp only [List.getElem?_toArray, List.getElem?_cons_zero, List.getElem?_cons_succ]; rfl)
          · exact fun _ _ _ h => h
          · rfl
          · intro w hSw
            (try dsimp only at hSw)
            go_simp
            try with_reducible rfl
          simp only [put_arr, List.set_cons_zero, List.set_cons_succ]
          refine wpAnyH_take (i := 10) (oi := ?_) (v := ?_) ?_ (by kernel_rfl) (by kernel_rfl) (by kernel_rfl) ?_ (Or.inl ⟨?_, ?_⟩) (by assumption) ?_
          rotate_left 2
          · (simp only [List.getElem?_toArray, List.getElem?_cons_zero, List.getElem?_cons_succ]; rfl)
          · exact fun _ _ _ h => h
          · rfl
          · intro w hSw
            (try dsimp only at hSw)
            go_simp
            try with_reducible rfl
          simp only [put_arr, List.set_cons_zero, List.set_cons_succ]
          refine wpAnyH_ready (rs := [11]) (by kernel_rfl) (by simp) ?_
          refine AllReadyH.cons (o := ?_) ?_ (fun K hK => ?_) AllReadyH.nil
          rotate_left
          · (simp only [List.getElem?_toArray, List.getElem?_cons_zero, List.getElem?_cons_succ]; rfl)
          rw [if_pos (by rfl)]
          go_simp
          (with_reducible refine (hcmp.call _ b1 b0 (come H0 hBb HB hbase hHeld.1)).mono ?_)
          rintro e v9 ⟨rfl, hb9⟩
          have HZ9 := Bl.then (w := wr) hHeld.1 hb9
          go_wp2_with fail
          refine hK.out _ _ (old_of HZ9) (fun hHeld2 => ?_)
          clear hK K hHeld
          have hHeld := hHeld2
          clear hHeld2
          refine wpAnyH_take (i := 12) (oi := ?_) (v := ?_) ?_ (by kernel_rfl) (by kernel_rfl) (by kernel_rfl) ?_ (Or.inl ⟨?_, ?_⟩) (by assumption) ?_
          rotate_left 2
          · (simp only [List.getElem?_toArray, List.getElem?_cons_zero, List.getElem?_cons_succ]; rfl)
          · exact fun _ _ _ h => h
          · rfl
          · intro w hSw
            (try dsimp only at hSw)
            go_simp
            try with_reducible rfl
          simp only [put_arr, List.set_cons_zero, List.set_cons_succ]
          refine wpAnyH_take (i := 13) (oi := ?_) (v := ?_) ?_ (by kernel_rfl) (by kernel_rfl) (by kernel_rfl) ?_ (Or.inl ⟨?_, ?_⟩) (by assumption) ?_
          rotate_left 2
          · (simp only [List.getElem?_toArray, List.getElem?_cons_zero, List.getElem?_cons_succ]; rfl)
          · exact fun _ _ _ h => h
          · rfl
          · intro w hSw
            (try dsimp only at hSw)
            go_simp
            try with_reducible rfl
          simp only [put_arr, List.set_cons_zero, List.set_cons_succ]
          refine wpAnyH_done (by kernel_rfl) ?_ _
          go_wp2_with fail
          go_roundw
          case rel => exact ⟨(s + r) / 2 + 1, r, congrArg _ e4.out, rfl, by omega, by omega, by omega, own_below ho HZ9, hS2, come2 HB hbase HZ9⟩
          case measure => simp [intOf]; omega
      · obtain rfl : r = s := by omega
        have hrb := Lib.hid hr
        clear e0 e1
        by_cases c1 : r < m
        · by_cases c2 : r < (a + b) / 2
          · by_cases c3 : a < r
            · by_cases c4 : (a + b) / 2 + m - r < b
              · go_wp2_with fail
                refine (rotate_at (a := r) (m := m) (b := (a + b) / 2 + m - r) _ _ ho rfl rfl (by omega) (by omega) (by omega) (by omega) hn).mono ?_
                rintro e w2 ⟨rfl, zs1, hR0, ho1, hg2⟩
                have HB1 := below_grow HB hbase hg hg2
                have hR := Lib.hid hR0
                clear hR0 hg2
                have hmh := Lib.hid (merge_halves ht'.out hrr.out hbz.out ham hmb rfl hs0i.out hr0i.out h1 h3 hS.out hR.out)
                have hr1 := Lib.hid (hr.perm hR.out.1)
                go_wp2_with fail
                refine (ih'.out a r ((a + b) / 2) _ _ _ zs1 _ rfl rfl (by omega) (by omega) (by omega) (by omega) (by omega) ho1 (H0.trans (HB1.mono hBb)) (Nat.le_trans hbase HB1.size) hr1.out hmh.out.2.1).mono ?_
                rintro e w3 ⟨rfl, z1, hs1, hw1, ho2, hb3⟩
                have HB2 := HB1.trans hb3
                have hs1h := Lib.hid hs1
                have hw1h := Lib.hid hw1
                clear hs1 hw1
                have hT2 := Lib.hid (hmh.out.2.2.1.same (by omega) (by omega) (fun k k1 k2 => hw1h.out.2.1 k (by omega)))
                have hr2 := Lib.hid (hr1.out.perm hw1h.out.1)
                go_wp2_with fail
                refine (ih'.out ((a + b) / 2) ((a + b) / 2 + m - r) b _ _ _ z1 _ (by omega) (by omega) rfl (by omega) (by omega) (by omega) (by omega) ho2 (H0.trans (HB2.mono hBb)) (Nat.le_trans hbase HB2.size) hr2.out hT2.out).mono ?_
                rintro e w4 ⟨rfl, z2, hs2, hw2, ho3, hb4⟩
                have HB3 := HB2.trans hb4
                have hs2h := Lib.hid hs2
                have hw2h := Lib.hid hw2
                clear hs2 hw2
                have hfin := Lib.hid (merge_done (by omega) (by omega) hw1h.out hs1h.out hw2h.out hs2h.out hmh.out.2.2.2)
                have hwn := Lib.hid (((hR.out.wn (by omega) (by omega)).wide (a' := a) (b' := b) (by omega) (by omega)).trans hfin.out.2)
                go_wp2_with fail
                go_end0
                exact ⟨rfl, z2, hfin.out.1, hwn.out, ho3, HB3⟩
              · exfalso; omega
            · by_cases c4 : (a + b) / 2 + m - r < b
              · go_wp2_with fail
                refine (rotate_at (a := r) (m := m) (b := (a + b) / 2 + m - r) _ _ ho rfl rfl (by omega) (by omega) (by omega) (by omega) hn).mono ?_
                rintro e w2 ⟨rfl, zs1, hR0, ho1, hg2⟩
                have HB1 := below_grow HB hbase hg hg2
                have hR := Lib.hid hR0
                clear hR0 hg2
                have hmh := Lib.hid (merge_halves ht'.out hrr.out hbz.out ham hmb rfl hs0i.out hr0i.out h1 h3 hS.out hR.out)
                have hr1 := Lib.hid (hr.perm hR.out.1)
                obtain ⟨z1, hz2⟩ : ∃ z1, z1 = zs1 := ⟨_, rfl⟩
                have hs1h := Lib.hid (show SortedOn (keyOf cf) z1 a ((a + b) / 2) by rw [hz2]; exact two_one hmh.out.2.1 (by omega))
                have hw1h := Lib.hid (show Wn zs1 z1 a ((a + b) / 2) by rw [hz2]; exact Wn.refl _ _ _)
                have ho2 := ho1
                rw [← hz2] at ho2
                have HB2 := HB1
                clear hz2
                have hT2 := Lib.hid (hmh.out.2.2.1.same (by omega) (by omega) (fun k k1 k2 => hw1h.out.2.1 k (by omega)))
                have hr2 := Lib.hid (hr1.out.perm hw1h.out.1)
                go_wp2_with fail
                refine (ih'.out ((a + b) / 2) ((a + b) / 2 + m - r) b _ _ _ z1 _ (by omega) (by omega) rfl (by omega) (by omega) (by omega) (by omega) ho2 (H0.trans (HB2.mono hBb)) (Nat.le_trans hbase HB2.size) hr2.out hT2.out).mono ?_
                rintro e w4 ⟨rfl, z2, hs2, hw2, ho3, hb4⟩
                have HB3 := HB2.trans hb4
                have hs2h := Lib.hid hs2
                have hw2h := Lib.hid hw2
                clear hs2 hw2
                have hfin := Lib.hid (merge_done (by omega) (by omega) hw1h.out hs1h.out hw2h.out hs2h.out hmh.out.2.2.2)
                have hwn := Lib.hid (((hR.out.wn (by omega) (by omega)).wide (a' := a) (b' := b) (by omega) (by omega)).trans hfin.out.2)
                go_wp2_with fail
                go_end0
                exact ⟨rfl, z2, hfin.out.1, hwn.out, ho3, HB3⟩
              · go_wp2_with fail
                refine (rotate_at (a := r) (m := m) (b := (a + b) / 2 + m - r) _ _ ho rfl rfl (by omega) (by omega) (by omega) (by omega) hn).mono ?_
                rintro e w2 ⟨rfl, zs1, hR0, ho1, hg2⟩
                have HB1 := below_grow HB hbase hg hg2
                have hR := Lib.hid hR0
                clear hR0 hg2
                have hmh := Lib.hid (merge_halves ht'.out hrr.out hbz.out ham hmb rfl hs0i.out hr0i.out h1 h3 hS.out hR.out)
                have hr1 := Lib.hid (hr.perm hR.out.1)
                obtain ⟨z1, hz2⟩ : ∃ z1, z1 = zs1 := ⟨_, rfl⟩
                have hs1h := Lib.hid (show SortedOn (keyOf cf) z1 a ((a + b) / 2) by rw [hz2]; exact two_one hmh.out.2.1 (by omega))
                have hw1h := Lib.hid (show Wn zs1 z1 a ((a + b) / 2) by rw [hz2]; exact Wn.refl _ _ _)
                have ho2 := ho1
                rw [← hz2] at ho2
                have HB2 := HB1
                clear hz2
                have hT2 := Lib.hid (hmh.out.2.2.1.same (by omega) (by omega) (fun k k1 k2 => hw1h.out.2.1 k (by omega)))
                have hr2 := Lib.hid (hr1.out.perm hw1h.out.1)
                obtain ⟨z2, hz3⟩ : ∃ z2, z2 = z1 := ⟨_, rfl⟩
                have hs2h := Lib.hid (show SortedOn (keyOf cf) z2 ((a + b) / 2) b by rw [hz3]; exact two_one hT2.out (by omega))
                have hw2h := Lib.hid (show Wn z1 z2 ((a + b) / 2) b by rw [hz3]; exact Wn.refl _ _ _)
                have ho3 := ho2
                rw [← hz3] at ho3
                have HB3 := HB2
                clear hz3
                have hfin := Lib.hid (merge_done (by omega) (by omega) hw1h.out hs1h.out hw2h.out hs2h.out hmh.out.2.2.2)
                have hwn := Lib.hid (((hR.out.wn (by omega) (by omega)).wide (a' := a) (b' := b) (by omega) (by omega)).trans hfin.out.2)
                go_wp2_with fail
                go_end0
                exact ⟨rfl, z2, hfin.out.1, hwn.out, ho3, HB3⟩
          · exfalso; omega
        · by_cases c3 : r < (a + b) / 2
          · go_wp2_with fail
            obtain ⟨zs1, hz1⟩ : ∃ zs1, zs1 = zs := ⟨_, rfl⟩
            have hR := Lib.hid (show Rotated zs zs1 r m ((a + b) / 2 + m - r) by rw [hz1]; rw [show r = m by omega]; exact Rotated.refl_left _ (by omega))
            have ho1 := ho
            rw [← hz1] at ho1
            have HB1 := HB
            clear hz1
            have hmh := Lib.hid (merge_halves ht'.out hrr.out hbz.out ham hmb rfl hs0i.out hr0i.out h1 h3 hS.out hR.out)
            have hr1 := Lib.hid (hr.perm hR.out.1)
            refine (ih'.out a r ((a + b) / 2) _ _ _ zs1 _ rfl rfl (by omega) (by omega) (by omega) (by omega) (by omega) ho1 (H0.trans (HB1.mono hBb)) (Nat.le_trans hbase HB1.size) hr1.out hmh.out.2.1).mono ?_
            rintro e w3 ⟨rfl, z1, hs1, hw1, ho2, hb3⟩
            have HB2 := HB1.trans hb3
            have hs1h := Lib.hid hs1
            have hw1h := Lib.hid hw1
            clear hs1 hw1
            have hT2 := Lib.hid (hmh.out.2.2.1.same (by omega) (by omega) (fun k k1 k2 => hw1h.out.2.1 k (by omega)))
            have hr2 := Lib.hid (hr1.out.perm hw1h.out.1)
            obtain ⟨z2, hz3⟩ : ∃ z2, z2 = z1 := ⟨_, rfl⟩
            have hs2h := Lib.hid (show SortedOn (keyOf cf) z2 ((a + b) / 2) b by rw [hz3]; exact two_one hT2.out (by omega))
            have hw2h := Lib.hid (show Wn z1 z2 ((a + b) / 2) b by rw [hz3]; exact Wn.refl _ _ _)
            have ho3 := ho2
            rw [← hz3] at ho3
            have HB3 := HB2
            clear hz3
            have hfin := Lib.hid (merge_done (by omega) (by omega) hw1h.out hs1h.out hw2h.out hs2h.out hmh.out.2.2.2)
            have hwn := Lib.hid (((hR.out.wn (by omega) (by omega)).wide (a' := a) (b' := b) (by omega) (by omega)).trans hfin.out.2)
            go_wp2_with fail
            go_end0
            exact ⟨rfl, z2, hfin.out.1, hwn.out, ho3, HB3⟩
          · go_wp2_with fail
            obtain ⟨zs1, hz1⟩ : ∃ zs1, zs1 = zs := ⟨_, rfl⟩
            have hR := Lib.hid (show Rotated zs zs1 r m ((a + b) / 2 + m - r) by rw [hz1]; rw [show r = m by omega]; exact Rotated.refl_left _ (by omega))
            have ho1 := ho
            rw [← hz1] at ho1
            have HB1 := HB
            clear hz1
            have hmh := Lib.hid (merge_halves ht'.out hrr.out hbz.out ham hmb rfl hs0i.out hr0i.out h1 h3 hS.out hR.out)
            have hr1 := Lib.hid (hr.perm hR.out.1)
            obtain ⟨z1, hz2⟩ : ∃ z1, z1 = zs1 := ⟨_, rfl⟩
            have hs1h := Lib.hid (show SortedOn (keyOf cf) z1 a ((a + b) / 2) by rw [hz2]; exact two_one hmh.out.2.1 (by omega))
            have hw1h := Lib.hid (show Wn zs1 z1 a ((a + b) / 2) by rw [hz2]; exact Wn.refl _ _ _)
            have ho2 := ho1
            rw [← hz2] at ho2
            have HB2 := HB1
            clear hz2
            have hT2 := Lib.hid (hmh.out.2.2.1.same (by omega) (by omega) (fun k k1 k2 => hw1h.out.2.1 k (by omega)))
            have hr2 := Lib.hid (hr1.out.perm hw1h.out.1)
            obtain ⟨z2, hz3⟩ : ∃ z2, z2 = z1 := ⟨_, rfl⟩
            have hs2h := Lib.hid (show SortedOn (keyOf cf) z2 ((a + b) / 2) b by rw [hz3]; exact two_one hT2.out (by omega))
            have hw2h := Lib.hid (show Wn z1 z2 ((a + b) / 2) b by rw [hz3]; exact Wn.refl _ _ _)
            have ho3 := ho2
            rw [← hz3] at ho3
            have HB3 := HB2
            clear hz3
            have hfin := Lib.hid (merge_done (by omega) (by omega) hw1h.out hs1h.out hw2h.out hs2h.out hmh.out.2.2.2)
            have hwn := Lib.hid (((hR.out.wn (by omega) (by omega)).wide (a' := a) (b' := b) (by omega) (by omega)).trans hfin.out.2)
            go_wp2_with fail
            go_end0
            exact ⟨rfl, z2, hfin.out.1, hwn.out, ho3, HB3⟩
/-- The merging, by the length of what is merged. -/
theorem sym_all (L : Nat) : ∀ (a m b : Nat) (base g n c : Nat) (zs : List Int) (pl pf pq : Nat) (cf : Int → Int) (N : Int) (B : Nat) (w0 w : World) (ho : w.ownsRow base 2 1 (.slice (some ⟨g, 0, none⟩) n c) n (ints zs)) (hg : base ≤ g) (hbase : base ≤ w.heap.size) (hBb : B ≤ base) (H0 : Below B w0 w) (hcmp : CmpAt B w0 pl pf pq cf N) (hN : N ≤ 64) (hr : RngN N zs) (hn : n ≤ 64) (ht : Two cf zs a m b) (ham : a < m) (hmb : m < b) (hbn : b ≤ n), b - a ≤ L → Calls Try.prog 139 #[.slice (some ⟨g, 0, none⟩) n c, .int .i64 a, .int .i64 m, .int .i64 b, .func (.func 93) #[] #[.pointer (some ⟨pl, 0, none⟩), .pointer (some ⟨pf, 0, none⟩), .pointer (some ⟨pq, 0, none⟩)]] w fun e w' => e = .returned (.tuple #[]) ∧ ∃ zs', SortedOn (keyOf cf) zs' a b ∧ Wn zs zs' a b ∧ w'.ownsRow base 2 1 (.slice (some ⟨g, 0, none⟩) n c) n (ints zs') ∧ Below base w w' := by
  induction L with
  | zero =>
    intro a m b base g n c zs pl pf pq cf N B w0 w ho hg hbase hBb H0 hcmp hN hr hn ht ham hmb hbn hL
    omega
  | succ L ih =>
    intro a m b base g n c zs pl pf pq cf N B w0 w ho hg hbase hBb H0 hcmp hN hr hn ht ham hmb hbn hL
    by_cases h1 : m = a + 1
    · exact symLeft_any a m b base g n c zs pl pf pq cf N B w0 w ho hg hbase hBb H0 hcmp hN hr hn ht ham hmb hbn h1
    by_cases h2 : b = m + 1
    · exact symRight_any a m b base g n c zs pl pf pq cf N B w0 w ho hg hbase hBb H0 hcmp hN hr hn ht ham hmb hbn h1 h2
    refine symDeep_any a m b base g n c zs pl pf pq cf N B w0 w ho hg hbase hBb H0 hcmp hN hr hn ht ham hmb hbn h1 h2 ?_
    intro a' m' b' LA LM LB ys w9 e1 e2 e3 hlt h3 h4 h5 ho9 H9 hb9 hr9 ht9
    subst e1 e2 e3
    exact ih a' m' b' base g n c ys pl pf pq cf N B w0 w9 ho9 hg hb9 hBb H9 hcmp hN hr9 hn ht9 h3 h4 h5 (by omega)
theorem insSort_at {a b : Nat} {LA LB : Int} (base g n c : Nat) (zs : List Int) (pl pf pq : Nat) (cf : Int → Int) (N : Int) (B : Nat) (w0 w : World) (ho : w.ownsRow base 2 1 (.slice (some ⟨g, 0, none⟩) n c) n (ints zs)) (hg : base ≤ g) (hbase : base ≤ w.heap.size) (hBb : B ≤ base) (H0 : Below B w0 w) (hcmp : CmpAt B w0 pl pf pq cf N) (hN : N ≤ 64) (hr : RngN N zs) (hn : n ≤ 64) (e1 : LA = a) (e2 : LB = b) (han : a ≤ n) (hbn : b ≤ n) (hi : Inc zs a b) :
    Calls Try.prog 138 #[.slice (some ⟨g, 0, none⟩) n c, .int .i64 LA, .int .i64 LB, .func (.func 93) #[] #[.pointer (some ⟨pl, 0, none⟩), .pointer (some ⟨pf, 0, none⟩), .pointer (some ⟨pq, 0, none⟩)]] w fun e w' => e = .returned (.tuple #[]) ∧ ∃ zs', SortedOn (keyOf cf) zs' a b ∧ Wn zs zs' a b ∧ w'.ownsRow base 2 1 (.slice (some ⟨g, 0, none⟩) n c) n (ints zs') ∧ Below base w w' := by
  subst e1 e2
  exact insSort_any a b base g n c zs pl pf pq cf N B w0 w ho hg hbase hBb H0 hcmp hN hr hn han hbn hi
theorem Inc.sub {zs : List Int} {a b a' b' : Nat} (h : Inc zs a b) (h1 : a ≤ a') (h2 : b' ≤ b) : Inc zs a' b' := fun i j i1 i2 i3 => h i j (by omega) i2 (by omega)
theorem Inc.same {zs zs' : List Int} {a b : Nat} (h : Inc zs a b) (e : ∀ k, a ≤ k → k < b → ix zs' k = ix zs k) : Inc zs' a b := fun i j i1 i2 i3 => by
  rw [e i i1 (by omega), e j (by omega) i3]; exact h i j i1 i2 i3
theorem two_of {cf : Int → Int} {zs z1 z2 : List Int} {n : Nat} (hi : Inc zs 0 n) (s1 : SortedOn (keyOf cf) z1 0 20) (w1 : Wn zs z1 0 20) (s2 : SortedOn (keyOf cf) z2 20 n) (w2 : Wn z1 z2 20 n) : Two cf z2 0 20 n := by
  refine ⟨s1.same fun k k1 k2 => w2.2.1 k (by omega), s2, fun i j i1 i2 i3 i4 => ?_⟩
  rw [w2.2.1 i (by omega)]
  obtain ⟨p, p1, p2, p3⟩ := w1.2.2 i i1 i2
  obtain ⟨q, q1, q2, q3⟩ := w2.2.2 j i3 i4
  rw [p3, q3, w1.2.1 q (by omega)]
  exact hi p q p1 (by omega) q2
set_option maxRecDepth 100000 in
theorem stable_any (base g n c : Nat) (zs : List Int) (pl pf pq : Nat) (cf : Int → Int) (N : Int) (B : Nat) (w0 w : World) (ho : w.ownsRow base 2 1 (.slice (some ⟨g, 0, none⟩) n c) n (ints zs)) (hg : base ≤ g) (hbase : base ≤ w.heap.size) (hBb : B ≤ base) (H0 : Below B w0 w) (hcmp : CmpAt B w0 pl pf pq cf N) (hN : N ≤ 64) (hr : RngN N zs) (hn : n ≤ 64) (hi : Inc zs 0 n) (hn30 : n ≤ 30) :
    Calls Try.prog 126 #[.slice (some ⟨g, 0, none⟩) n c, .int .i64 n, .func (.func 93) #[] #[.pointer (some ⟨pl, 0, none⟩), .pointer (some ⟨pf, 0, none⟩), .pointer (some ⟨pq, 0, none⟩)]] w fun e w' => e = .returned (.tuple #[]) ∧ ∃ zs', SortedOn (keyOf cf) zs' 0 n ∧ zs'.Perm zs ∧ w'.ownsRow base 2 1 (.slice (some ⟨g, 0, none⟩) n c) n (ints zs') ∧ Below base w w' := by
  have hi' := Lib.hid hi
  clear hi
  by_cases h20 : n < 20
  · go_enter Try.func126, Try.ntmps126
    go_wp2_with fail
    refine wp_loop_rounds 1 ?_
    rw [rounds_succ]
    go_wp2_with fail
    refine (insSort_at (a := 0) (b := n) base g n c zs pl pf pq cf N B w0 _ ho hg hbase hBb H0 hcmp hN hr hn rfl rfl (Nat.zero_le _) (Nat.le_refl _) hi'.out).mono ?_
    rintro e w2 ⟨rfl, z1, hs1, hw1, ho1, hb1⟩
    have hs1h := Lib.hid hs1
    have hw1h := Lib.hid hw1
    clear hs1 hw1
    go_wp2_with fail
    refine wp_loop_rounds 1 ?_
    rw [rounds_succ]
    go_wp2_with fail
    go_end0
    exact ⟨rfl, z1, hs1h.out, hw1h.out.1, ho1, hb1⟩
  go_enter Try.func126, Try.ntmps126
  go_wp2_with fail
  refine wp_loop_rounds 2 ?_
  rw [rounds_succ]
  go_wp2_with fail
  refine (insSort_at (a := 0) (b := 20) base g n c zs pl pf pq cf N B w0 _ ho hg hbase hBb H0 hcmp hN hr hn rfl rfl (Nat.zero_le _) (by omega) (hi'.out.sub (Nat.le_refl _) (by omega))).mono ?_
  rintro e w2 ⟨rfl, z1, hs1, hw1, ho1, hb1⟩
  have hs1h := Lib.hid hs1
  have hw1h := Lib.hid hw1
  have hr1 := Lib.hid (hr.perm hw1.1)
  clear hs1 hw1
  go_wp2_with fail
  rw [rounds_succ]
  go_wp2_with fail
  refine (insSort_at (a := 20) (b := n) base g n c z1 pl pf pq cf N B w0 _ ho1 hg (Nat.le_trans hbase hb1.size) hBb (H0.trans (hb1.mono hBb)) hcmp hN hr1.out hn rfl rfl (by omega) (Nat.le_refl _) ((hi'.out.sub (a' := 20) (b' := n) (by omega) (Nat.le_refl _)).same fun k k1 k2 => hw1h.out.2.1 k (by omega))).mono ?_
  rintro e w3 ⟨rfl, z2, hs2, hw2, ho2, hb2⟩
  have hs2h := Lib.hid hs2
  have hw2h := Lib.hid hw2
  have hr2 := Lib.hid (hr1.out.perm hw2.1)
  have hT := Lib.hid (two_of hi'.out hs1h.out hw1h.out hs2 hw2)
  clear hs2 hw2
  have hb12 := hb1.trans hb2
  by_cases h21 : n = 20
  · have h20b : ¬ (20 : Int) < (n : Int) := by omega
    have hfin := Lib.hid (show SortedOn (keyOf cf) z2 0 n by rw [h21]; exact hT.out.1)
    have hpm := Lib.hid (hw2h.out.1.trans hw1h.out.1)
    go_wp2_with fail
    refine wp_loop_rounds 1 ?_
    rw [rounds_succ]
    go_wp2_with fail
    go_end0
    exact ⟨rfl, z2, hfin.out, hpm.out, ho2, hb12⟩
  have h20b : (20 : Int) < (n : Int) := by omega
  go_wp2_with fail
  refine wp_loop_rounds 2 ?_
  rw [rounds_succ]
  go_wp2_with fail
  refine wp_loop_rounds 1 ?_
  rw [rounds_succ]
  go_wp2_with fail
  refine (sym_all (n - 0) 0 20 n base g n c z2 pl pf pq cf N B w0 _ ho2 hg (Nat.le_trans hbase hb12.size) hBb (H0.trans (hb12.mono hBb)) hcmp hN hr2.out hn hT.out (by omega) (by omega) (Nat.le_refl _) (Nat.le_refl _)).mono ?_
  rintro e w4 ⟨rfl, z3, hs3, hw3, ho3, hb3⟩
  have hs3h := Lib.hid hs3
  have hpm := Lib.hid (hw3.1.trans (hw2h.out.1.trans hw1h.out.1))
  clear hs3 hw3
  go_wp2_with fail
  rw [rounds_succ]
  go_wp2_with fail
  go_end0
  exact ⟨rfl, z3, hs3h.out, hpm.out, ho3, hb12.trans hb3⟩
theorem SortStable_any (base g n c : Nat) (zs : List Int) (pl pf pq : Nat) (cf : Int → Int) (N : Int) (B : Nat) (w0 w : World) (ho : w.ownsRow base 2 1 (.slice (some ⟨g, 0, none⟩) n c) n (ints zs)) (hg : base ≤ g) (hbase : base ≤ w.heap.size) (hBb : B ≤ base) (H0 : Below B w0 w) (hcmp : CmpAt B w0 pl pf pq cf N) (hN : N ≤ 64) (hr : RngN N zs) (hn : n ≤ 64) (hi : Inc zs 0 n) (hn30 : n ≤ 30) :
    Calls Try.prog 92 #[.slice (some ⟨g, 0, none⟩) n c, .func (.func 93) #[] #[.pointer (some ⟨pl, 0, none⟩), .pointer (some ⟨pf, 0, none⟩), .pointer (some ⟨pq, 0, none⟩)]] w fun e w' => e = .returned (.tuple #[]) ∧ ∃ zs', SortedOn (keyOf cf) zs' 0 n ∧ zs'.Perm zs ∧ w'.ownsRow base 2 1 (.slice (some ⟨g, 0, none⟩) n c) n (ints zs') ∧ Below base w w' := by
  go_enter Try.func92, Try.ntmps92
  go_wp2_with fail
  refine (stable_any base g n c zs pl pf pq cf N B w0 _ ho hg hbase hBb H0 hcmp hN hr hn hi hn30).mono ?_
  rintro e w2 ⟨rfl, z1, hs1, hw1, ho1, hb1⟩
  have hs1h := Lib.hid hs1
  clear hs1
  go_wp2_with fail
  go_end0
  exact ⟨rfl, z1, hs1h.out, hw1, ho1, hb1⟩
end Go.Proofs.Ytlbgognkaolamaa
