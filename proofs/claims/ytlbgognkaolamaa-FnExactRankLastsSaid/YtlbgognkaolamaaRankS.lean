/-
  RankLasts of the reference; names are any strings that Go can hold, slices read as the given lists.
-/
import Derived.Test.YtlbgognkaolamaaRankP
namespace Go.Proofs.Ytlbgognkaolamaa
open Go.RowKit
set_option maxHeartbeats 3200000
set_option linter.unusedVariables false
section
variable {ops : Array Oper} {rest : List Oper} {o : Oper} {a : Act} {Q : Exit → Act → World → Prop}
/-- 'append(out, xs...)': a whole slice of numbers, which may be empty. -/
theorem wpList_cat_int (W : World) (hg : o.guard = none) (s x' : Operand) (ho : o.op = .call { callee := .builtin .append, args := #[s, x'], argTypes := #[48, 48] })
    (base : Nat) (A : Addr) (n c : Nat) (xs : List Int) (hs : a.eval s = .slice (some A) n c) (hown : W.ownsRow base 2 1 (.slice (some A) n c) n (ints xs))
    (b off m c2 : Nat) (ys : List Int) (hx : a.eval x' = .slice (some ⟨b, off, none⟩) m c2) (hl : ys.length = m) (hR : ∀ j u, (ints ys)[j]? = some u → W.cell? ⟨b, off + j, none⟩ = some u) (hbase : base ≤ W.heap.size) (hn : n + m ≤ 1048577)
    (h : ∀ g' c' w', base ≤ g' → g' < w'.heap.size → w'.ownsRow base 2 1 (.slice (some ⟨g', 0, none⟩) (n + m) c') (n + m) (ints (xs ++ ys)) → W.grownBy w' (Value.slice (some A) n c).ownBlock → wpList Try.prog ops Q rest (a.put o.dst (.slice (some ⟨g', 0, none⟩) (n + m) c')) w') :
    wpList Try.prog ops Q (o :: rest) a W := by
  obtain ⟨i0, hi, hz0, hz1, hz2⟩ := info_parts int_info
  refine wpList_append_own _ hg s x' 48 ho base 2 i0 _ 1 8 Try.underlying48 hi hz0 hz1 hz2 rfl (by decide) _ _ _ hs hown ⟨b, off, none⟩ m c2 (ints ys) hx (by simp [ints, hl]) ?_ ?_ ?_ ?_ hbase ?_
  · intro j u hu
    rw [Addr.add_lit]
    exact hR j u hu
  · intro u hu
    simp only [ints, List.mem_map] at hu
    obtain ⟨z, _, rfl⟩ := hu
    rfl
  · unfold maxLen; omega
  · omega
  · intro v' w' hown' hg' hnn
    rcases hown'.2 with ⟨h0, _⟩ | ⟨g, cap, cur, hv, hb, hgg, _⟩
    · exact absurd (hnn.1 h0).1 (by simp)
    · rw [hv] at hown' ⊢
      refine h g cap w' hb ?_ ?_ hg'
      · rcases Nat.lt_or_ge g w'.heap.size with hlt | hge
        · exact hlt
        · rw [Array.getElem?_eq_none hge] at hgg; cases hgg
      · rw [ints_append]; exact hown'
end
theorem own_take {w : World} {base g n c : Nat} {os : List Int} (h : w.ownsRow base 2 1 (.slice (some ⟨g, 0, none⟩) n c) n (ints os)) (k : Nat) : ∀ j u, (ints (os.take k))[j]? = some u → w.cell? ⟨g, 0 + j, none⟩ = some u := fun j u hu => by
  have e : ints (os.take k) = (ints os).take k := by simp [ints, List.map_take]
  rw [e, List.getElem?_take] at hu
  by_cases hj : j < k
  · rw [if_pos hj] at hu
    have hl := own_int_len h
    have hjl : j < n := by
      rcases Nat.lt_or_ge j (ints os).length with h1 | h1
      · rw [← hl]; simpa [ints] using h1
      · rw [List.getElem?_eq_none h1] at hu; cases hu
    rw [Nat.zero_add, h.cellAt j (by omega)]; exact hu
  · rw [if_neg hj] at hu; cases hu
theorem own_drop {w : World} {base g n c : Nat} {os : List Int} (h : w.ownsRow base 2 1 (.slice (some ⟨g, 0, none⟩) n c) n (ints os)) (k : Nat) : ∀ j u, (ints (os.drop k))[j]? = some u → w.cell? ⟨g, k + j, none⟩ = some u := fun j u hu => by
  have e : ints (os.drop k) = (ints os).drop k := by simp [ints, List.map_drop]
  rw [e, List.getElem?_drop] at hu
  have hl := own_int_len h
  have hjl : k + j < n := by
    rcases Nat.lt_or_ge (k + j) (ints os).length with h1 | h1
    · rw [← hl]; simpa [ints] using h1
    · rw [List.getElem?_eq_none h1] at hu; cases hu
  rw [h.cellAt (k + j) (by omega)]; exact hu
theorem own_drop_if {w : World} {base g n c : Nat} {os : List Int} (h : w.ownsRow base 2 1 (.slice (some ⟨g, 0, none⟩) n c) n (ints os)) (k c' : Nat) (hc : n ≤ c') : ∀ j u, (ints (os.drop k))[j]? = some u → w.cell? ⟨g, (if c' = k then 0 else k) + j, none⟩ = some u := fun j u hu => by
  by_cases e : c' = k
  · have hl := own_int_len h
    rw [List.drop_of_length_le (by omega)] at hu
    simp [ints] at hu
  · rw [if_neg e]
    exact own_drop h k j u hu
theorem cut_at (g k c' : Nat) : (if c' = k then some ⟨g, 0, none⟩ else some ⟨g, k, none⟩ : Option Addr) = some ⟨g, if c' = k then 0 else k, none⟩ := by split <;> rfl
/-- A copy of a part of a row, which may be empty. -/
theorem l00Own_at (b off n c : Nat) (zs : List Int) (w : World) (hl : zs.length = n) (hb : b < w.heap.size) (hc : ∀ j u, (ints zs)[j]? = some u → w.cell? ⟨b, off + j, none⟩ = some u) (hn2 : n ≤ 1048576) :
    Calls Try.prog 91 #[.slice (some ⟨b, off, none⟩) n c] w fun e w' => ∃ g' c', e = .returned (.slice (some ⟨g', 0, none⟩) n c') ∧ w.heap.size ≤ g' ∧ w'.ownsRow w.heap.size 2 1 (.slice (some ⟨g', 0, none⟩) n c') n (ints zs) ∧ Below w.heap.size w w' := by
  have hl' := Lib.hid hl
  have hcc : Hid (∀ j u, (ints zs)[j]? = some u → (w.alloc (.cells #[] 2)).cell? ⟨b, off + j, none⟩ = some u) := Lib.hid fun j u hu => keep_alloc (hc j u hu)
  clear hc hl
  go_enter Try.func91, Try.ntmps91
  go_wp2_with (at_builtin; refine wpList_cat_int _ rfl _ _ rfl w.heap.size _ 0 _ [] rfl (own_lit (W := w) (cs := #[]) rfl (Nat.le_refl _) (by decide) rfl rfl) b off n c zs rfl hl'.out hcc.out (by simp) (by omega) ?_; intro g' c' w' hbg hgl hown' hg')
  have hB : Below w.heap.size w w' := ((Below.refl _ _).alloc (Nat.le_refl _) _).grown hg' (by simp) (fun k hk => by cases hk; exact Nat.le_refl _)
  clear hcc
  have e0 : 0 + n = n := Nat.zero_add n
  simp only [Nat.zero_add, List.nil_append] at hown' ⊢
  go_wp2_with fail
  go_ret
  exact ⟨g', c', rfl, hbg, hown', hB⟩
set_option maxRecDepth 100000 in
theorem sRankLasts_any (A : Option Addr) (n c : Nat) (xs : List LastD) (f : FootD) (q0 q1 q2 : Int) (Af : Option Addr) (nf cf : Nat) (zf : List Int) (w : World) (hX : Rd w 6 A n (lasts xs)) (hn : n ≤ 1048576) (hx : ∀ x ∈ xs, x.s.size ≤ maxLen) (h0 : Rd w 1 Af nf (ints zf)) (hnf : nf ≤ 1048576) :
    Calls Try.prog 51 #[.slice A n c, .agg #[.int .i64 f.l, .int .i64 f.b, .int .i64 f.i, .int .i64 f.h], .agg #[.int .i64 q0, .int .i64 q1, .int .i64 q2, .slice Af nf cf]] w (RetInts (rkR q0 q1 q2 zf xs f) w) := by
  have hxl := Lib.hid hX.lasts_length
  cases k1 : lsOk q0 q1 q2 zf xs f
  · have hr := Lib.hid (show rkR q0 q1 q2 zf xs f = ([], 1) by simp [rkR, k1])
    go_enter Try.func51, Try.ntmps51
    go_wp2_with fail
    refine (l04Code_any _ _ _ _ f _ _ _ _ _ _ _ _ _ ((hX.alloc _).alloc _) hn hx (Blk.new1 w _ 53 #[.int .i64 q0, .int .i64 q1, .int .i64 q2, .slice Af nf cf]) ((h0.alloc _).alloc _) hnf).mono ?_
    rintro e w1 ⟨rfl, H1⟩
    have BF := ((Blk.new w 25 #[.int .i64 f.l, .int .i64 f.b, .int .i64 f.i, .int .i64 f.h]).alloc (.cells #[.int .i64 q0, .int .i64 q1, .int .i64 q2, .slice Af nf cf] 53)).below H1
    have BQ := (Blk.new1 w _ 53 #[.int .i64 q0, .int .i64 q1, .int .i64 q2, .slice Af nf cf]).below H1
    have HW : Below w.heap.size w w1 := Bl.then (by go_grown) H1
    clear H1
    have cF0 : w1.cell? ⟨w.heap.size, 0, none⟩ = some (.int .i64 f.l) := BF.cell 0
    have cF1 : w1.cell? ⟨w.heap.size, 1, none⟩ = some (.int .i64 f.b) := BF.cell 1
    have cF2 : w1.cell? ⟨w.heap.size, 2, none⟩ = some (.int .i64 f.i) := BF.cell 2
    have cF3 : w1.cell? ⟨w.heap.size, 3, none⟩ = some (.int .i64 f.h) := BF.cell 3
    have lF := BF.lt
    have cQ0 : w1.cell? ⟨w.heap.size + 1, 0, none⟩ = some (.int .i64 q0) := BQ.cell 0
    have cQ1 : w1.cell? ⟨w.heap.size + 1, 1, none⟩ = some (.int .i64 q1) := BQ.cell 1
    have cQ2 : w1.cell? ⟨w.heap.size + 1, 2, none⟩ = some (.int .i64 q2) := BQ.cell 2
    have cQ3 : w1.cell? ⟨w.heap.size + 1, 3, none⟩ = some (.slice Af nf cf) := BQ.cell 3
    have lQ := BQ.lt
    go_wp2_with fail
    go_ret2
    exact RetInts.nil hr.out HW
  have hr := Lib.hid (show rkR q0 q1 q2 zf xs f = (rankBy (rkF q0 zf xs f) (accL (alwI q0 q1 q2 xs [f]) xs.length), 0) by simp [rkR, k1])
  have k2 := lsOk_bd k1
  have k9 := Lib.hid (lastsOk_bd k2.1)
  have kx := Lib.hid (fun (k : Nat) (hk : k < xs.length) => lOk_bd k2.1 hk)
  have kf := Lib.hid k2.2.1
  have kq := Lib.hid k2.2.2
  have hal := Lib.hid (accL_len (alwI_len q0 q1 q2 xs [f]))
  have hinc := Lib.hid (alw_inc q0 q1 q2 xs f)
  have hmx0 := Lib.hid (alw_mx q0 q1 q2 xs f)
  clear k2
  go_enter Try.func51, Try.ntmps51
  go_wp2_with fail
  refine (l04Code_any _ _ _ _ f _ _ _ _ _ _ _ _ _ ((hX.alloc _).alloc _) hn hx (Blk.new1 w _ 53 #[.int .i64 q0, .int .i64 q1, .int .i64 q2, .slice Af nf cf]) ((h0.alloc _).alloc _) hnf).mono ?_
  rintro e w1 ⟨rfl, H1⟩
  have BF := ((Blk.new w 25 #[.int .i64 f.l, .int .i64 f.b, .int .i64 f.i, .int .i64 f.h]).alloc (.cells #[.int .i64 q0, .int .i64 q1, .int .i64 q2, .slice Af nf cf] 53)).below H1
  have BQ := (Blk.new1 w _ 53 #[.int .i64 q0, .int .i64 q1, .int .i64 q2, .slice Af nf cf]).below H1
  have HW : Below w.heap.size w w1 := Bl.then (by go_grown) H1
  clear H1
  have cF0 : w1.cell? ⟨w.heap.size, 0, none⟩ = some (.int .i64 f.l) := BF.cell 0
  have cF1 : w1.cell? ⟨w.heap.size, 1, none⟩ = some (.int .i64 f.b) := BF.cell 1
  have cF2 : w1.cell? ⟨w.heap.size, 2, none⟩ = some (.int .i64 f.i) := BF.cell 2
  have cF3 : w1.cell? ⟨w.heap.size, 3, none⟩ = some (.int .i64 f.h) := BF.cell 3
  have lF := BF.lt
  have cQ0 : w1.cell? ⟨w.heap.size + 1, 0, none⟩ = some (.int .i64 q0) := BQ.cell 0
  have cQ1 : w1.cell? ⟨w.heap.size + 1, 1, none⟩ = some (.int .i64 q1) := BQ.cell 1
  have cQ2 : w1.cell? ⟨w.heap.size + 1, 2, none⟩ = some (.int .i64 q2) := BQ.cell 2
  have cQ3 : w1.cell? ⟨w.heap.size + 1, 3, none⟩ = some (.slice Af nf cf) := BQ.cell 3
  have lQ := BQ.lt
  clear cF0 cF1 cF2 cF3 lF cQ0 cQ1 cQ2 cQ3 lQ
  have RX := hX.below HW
  have RQ := h0.below HW
  go_wp2_with fail
  have oo := own_lit (W := w1) (cs := #[]) (e := 2) (size := 1) (n := 0) (xs := ints []) rfl (Nat.le_refl w1.heap.size) (by decide) rfl rfl
  have HM := Bl.alloc (Below.refl w1.heap.size w1) (.cells #[] 2)
  go_loopw [8, 9] (fun v i wr => ∃ (m g q c' : Nat) (os : List Int), m ≤ n ∧ i = .int .i64 m ∧ v = .slice (some ⟨g, 0, none⟩) q c' ∧ q ≤ m ∧ Hid (RkInv (rkF q0 zf xs f) (accL (alwI q0 q1 q2 xs [f]) m) os) ∧ wr.ownsRow w1.heap.size 2 1 (.slice (some ⟨g, 0, none⟩) q c') q (ints os) ∧ Below w1.heap.size w1 wr) (fun _ i _ => n - (intOf i).toNat)
  case atStart => exact ⟨0, _, _, _, [], by omega, rfl, rfl, by omega, Lib.hid (RkInv.nil _), oo, HM⟩
  case round =>
    clear oo HM
    obtain ⟨m, g, q, c', os, hmn, rfl, rfl, hqm, hinv, ho, HP⟩ := hrel
    have hol := Lib.hid (own_int_len ho)
    by_cases hlm : m < n
    · have hxk := Lib.hid (show lastOk (lastsAt xs m).s (lastsAt xs m).l (lastsAt xs m).b (lastsAt xs m).i (lastsAt xs m).h (lastsAt xs m).p = true from kx.out m (by rw [hxl.out]; exact hlm))
      have kfo := Lib.hid (show footOk f.l f.b f.i f.h = true from kf.out)
      obtain ⟨b, off, eA, hbl, i0, i1, i2, i3, i4, i5⟩ := (RX.below HP).lasts hlm
      subst eA
      have BQr := BQ.below HP
      have BFr := BF.below HP
      have RQr := RQ.below HP
      have kF := BFr.cell
      have lF := BFr.lt
      have hm9 := costR_sign (q0 := q0) (q1 := q1) (q2 := q2) (zf := zf) (x := lastsAt xs m) (f := f) kq.out
      have hq30 : q ≤ 30 := by have := k9.out.1; rw [hxl.out] at this; omega
      cases hmx : mX q0 q1 q2 (lastsAt xs m) f
      · have hg0 := Lib.hid (accL_skip (g := alwI q0 q1 q2 xs [f]) (k := m) (by rw [alw_one, if_neg (by rw [hmx]; decide)]))
        have hng : costR (lastsAt xs m).l (lastsAt xs m).b (lastsAt xs m).i (lastsAt xs m).h f.l f.b f.i f.h q0 q1 q2 zf < 0 := by rw [hmx] at hm9; simpa using hm9
        clear hm9 hmx
        go_wp2_with fail
        refine wp_region_held_drew (S := (fun wz => Below wr.heap.size wr wz ∧ ∀ b o, b < wr.heap.size → wz.cell? ⟨b, o, none⟩ = wr.cell? ⟨b, o, none⟩)) (by kernel_rfl) (old_of (Below.drew (Below.refl _ _))) (fun hHeld => ?_)
        refine wpAnyH_take (i := 0) (oi := ?_) (v := ?_) ?_ (by kernel_rfl) (by kernel_rfl) (by kernel_rfl) ?_ (Or.inl ⟨?_, ?_⟩) (by assumption) ?_
        rotate_left 2
        · (simp only [List.getElem?_toArray, List.getElem?_cons_zero]; rfl)
        · exact fun _ _ _ h => h
        · rfl
        · intro w hSw
          (try dsimp only at hSw)
          go_simp
          try with_reducible rfl
        simp only [put_arr, List.set_cons_zero, List.set_cons_succ]
        refine wpAnyH_take (i := 1) (oi := ?_) (v := ?_) ?_ (by kernel_rfl) (by kernel_rfl) (by kernel_rfl) ?_ (Or.inl ⟨?_, ?_⟩) (by assumption) ?_
        rotate_left 2
        · (simp only [List.getElem?_toArray, List.getElem?_cons_zero, List.getElem?_cons_succ]; rfl)
        · exact fun _ _ _ h => h
        · rfl
        · intro w hSw
          (try dsimp only at hSw)
          go_simp
          try with_reducible rfl
        simp only [put_arr, List.set_cons_zero, List.set_cons_succ]
        refine wpAnyH_take (i := 2) (oi := ?_) (v := ?_) ?_ (by kernel_rfl) (by kernel_rfl) (by kernel_rfl) ?_ (Or.inl ⟨?_, ?_⟩) (by assumption) ?_
        rotate_left 2
        · (simp only [List.getElem?_toArray, List.getElem?_cons_zero, List.getElem?_cons_succ]; rfl)
        · exact fun _ _ _ h => h
        · rfl
        · intro w hSw
          (try dsimp only at hSw)
          go_simp
          try with_reducible rfl
        simp only [put_arr, List.set_cons_zero, List.set_cons_succ]
        refine wpAnyH_take (i := 3) (oi := ?_) (v := ?_) ?_ (by kernel_rfl) (by kernel_rfl) (by kernel_rfl) ?_ (Or.inl ⟨?_, ?_⟩) (by assumption) ?_
        rotate_left 2
        · (simp only [List.getElem?_toArray, List.getElem?_cons_zero, List.getElem?_cons_succ]; rfl)
        · exact fun _ _ _ h => h
        · rfl
        · intro w hSw
          (try dsimp only at hSw)
          go_simp
          try with_reducible rfl
        simp only [put_arr, List.set_cons_zero, List.set_cons_succ]
        refine wpAnyH_take (i := 4) (oi := ?_) (v := ?_) ?_ (by kernel_rfl) (by kernel_rfl) (by kernel_rfl) ?_ (Or.inl ⟨?_, ?_⟩) (by assumption) ?_
        rotate_left 2
        · (simp only [List.getElem?_toArray, List.getElem?_cons_zero, List.getElem?_cons_succ]; rfl)
        · exact fun _ _ _ h => h
        · rfl
        · intro w hSw
          (try dsimp only at hSw)
          go_simp
          try with_reducible rfl
        simp only [put_arr, List.set_cons_zero, List.set_cons_succ]
        refine wpAnyH_ready (rs := [5]) (by kernel_rfl) (by simp) ?_
        refine AllReadyH.cons (o := ?_) ?_ (fun K hK => ?_) AllReadyH.nil
        rotate_left
        · (simp only [List.getElem?_toArray, List.getElem?_cons_zero, List.getElem?_cons_succ]; rfl)
        rw [if_pos (by rfl)]
        go_simp
        (with_reducible refine (l04Cost_any _ _ _ _ _ _ _ _ _ _ _ _ _ _ _ _ _ _ _ (BQr.below hHeld.1) (RQr.below hHeld.1) hxk.out kfo.out kq.out).mono ?_)
        rintro e w2 ⟨rfl, hb2⟩
        have HZ := Bl.then (w := wr) hHeld.1 hb2
        go_wp2_with fail
        refine hK.out _ _ (old_of HZ) (fun hHeld2 => ?_)
        clear hK K hHeld
        have hHeld := hHeld2
        clear hHeld2
        refine wpAnyH_take (i := 6) (oi := ?_) (v := ?_) ?_ (by kernel_rfl) (by kernel_rfl) (by kernel_rfl) ?_ (Or.inl ⟨?_, ?_⟩) (by assumption) ?_
        rotate_left 2
        · (simp only [List.getElem?_toArray, List.getElem?_cons_zero, List.getElem?_cons_succ]; rfl)
        · exact fun _ _ _ h => h
        · rfl
        · intro w hSw
          (try dsimp only at hSw)
          go_simp
          try with_reducible rfl
        simp only [put_arr, List.set_cons_zero, List.set_cons_succ]
        refine wpAnyH_done (by kernel_rfl) ?_ _
        go_wp2_with fail
        go_roundw
        case rel => exact ⟨m + 1, g, q, c', os, by omega, by go_num, rfl, by omega, by rw [← hg0.out]; exact hinv, own_below ho HZ, Bl.then HP HZ⟩
        case measure => simp [intOf] <;> omega
      · have hg0 := Lib.hid (accL_add (g := alwI q0 q1 q2 xs [f]) (k := m) (x := (m : Int)) (by rw [alw_one, if_pos hmx]))
        have hps : 0 ≤ costR (lastsAt xs m).l (lastsAt xs m).b (lastsAt xs m).i (lastsAt xs m).h f.l f.b f.i f.h q0 q1 q2 zf := by rw [hmx] at hm9; simpa using hm9
        have hcm := Lib.hid (show costR (lastsAt xs m).l (lastsAt xs m).b (lastsAt xs m).i (lastsAt xs m).h f.l f.b f.i f.h q0 q1 q2 zf = (rkF q0 zf xs f) (m : Int) from costR_cX hmx)
        clear hm9 hmx
        go_wp2_with fail
        refine wp_region_held_drew (S := (fun wz => Below wr.heap.size wr wz ∧ ∀ b o, b < wr.heap.size → wz.cell? ⟨b, o, none⟩ = wr.cell? ⟨b, o, none⟩)) (by kernel_rfl) (old_of (Below.drew (Below.refl _ _))) (fun hHeld => ?_)
        refine wpAnyH_take (i := 0) (oi := ?_) (v := ?_) ?_ (by kernel_rfl) (by kernel_rfl) (by kernel_rfl) ?_ (Or.inl ⟨?_, ?_⟩) (by assumption) ?_
        rotate_left 2
        · (simp only [List.getElem?_toArray, List.getElem?_cons_zero]; rfl)
        · exact fun _ _ _ h => h
        · rfl
        · intro w hSw
          (try dsimp only at hSw)
          go_simp
          try with_reducible rfl
        simp only [put_arr, List.set_cons_zero, List.set_cons_succ]
        refine wpAnyH_take (i := 1) (oi := ?_) (v := ?_) ?_ (by kernel_rfl) (by kernel_rfl) (by kernel_rfl) ?_ (Or.inl ⟨?_, ?_⟩) (by assumption) ?_
        rotate_left 2
        · (simp only [List.getElem?_toArray, List.getElem?_cons_zero, List.getElem?_cons_succ]; rfl)
        · exact fun _ _ _ h => h
        · rfl
        · intro w hSw
          (try dsimp only at hSw)
          go_simp
          try with_reducible rfl
        simp only [put_arr, List.set_cons_zero, List.set_cons_succ]
        refine wpAnyH_take (i := 2) (oi := ?_) (v := ?_) ?_ (by kernel_rfl) (by kernel_rfl) (by kernel_rfl) ?_ (Or.inl ⟨?_, ?_⟩) (by assumption) ?_
        rotate_left 2
        · (simp only [List.getElem?_toArray, List.getElem?_cons_zero, List.getElem?_cons_succ]; rfl)
        · exact fun _ _ _ h => h
        · rfl
        · intro w hSw
          (try dsimp only at hSw)
          go_simp
          try with_reducible rfl
        simp only [put_arr, List.set_cons_zero, List.set_cons_succ]
        refine wpAnyH_take (i := 3) (oi := ?_) (v := ?_) ?_ (by kernel_rfl) (by kernel_rfl) (by kernel_rfl) ?_ (Or.inl ⟨?_, ?_⟩) (by assumption) ?_
        rotate_left 2
        · (simp only [List.getElem?_toArray, List.getElem?_cons_zero, List.getElem?_cons_succ]; rfl)
        · exact fun _ _ _ h => h
        · rfl
        · intro w hSw
          (try dsimp only at hSw)
          go_simp
          try with_reducible rfl
        simp only [put_arr, List.set_cons_zero, List.set_cons_succ]
        refine wpAnyH_take (i := 4) (oi := ?_) (v := ?_) ?_ (by kernel_rfl) (by kernel_rfl) (by kernel_rfl) ?_ (Or.inl ⟨?_, ?_⟩) (by assumption) ?_
        rotate_left 2
        · (simp only [List.getElem?_toArray, List.getElem?_cons_zero, List.getElem?_cons_succ]; rfl)
        · exact fun _ _ _ h => h
        · rfl
        · intro w hSw
          (try dsimp only at hSw)
          go_simp
          try with_reducible rfl
        simp only [put_arr, List.set_cons_zero, List.set_cons_succ]
        refine wpAnyH_ready (rs := [5]) (by kernel_rfl) (by simp) ?_
        refine AllReadyH.cons (o := ?_) ?_ (fun K hK => ?_) AllReadyH.nil
        rotate_left
        · (simp only [List.getElem?_toArray, List.getElem?_cons_zero, List.getElem?_cons_succ]; rfl)
        rw [if_pos (by rfl)]
        go_simp
        (with_reducible refine (l04Cost_any _ _ _ _ _ _ _ _ _ _ _ _ _ _ _ _ _ _ _ (BQr.below hHeld.1) (RQr.below hHeld.1) hxk.out kfo.out kq.out).mono ?_)
        rintro e w2 ⟨rfl, hb2⟩
        have HZ := Bl.then (w := wr) hHeld.1 hb2
        go_wp2_with fail
        refine hK.out _ _ (old_of HZ) (fun hHeld2 => ?_)
        clear hK K hHeld
        have hHeld := hHeld2
        clear hHeld2
        refine wpAnyH_take (i := 6) (oi := ?_) (v := ?_) ?_ (by kernel_rfl) (by kernel_rfl) (by kernel_rfl) ?_ (Or.inl ⟨?_, ?_⟩) (by assumption) ?_
        rotate_left 2
        · (simp only [List.getElem?_toArray, List.getElem?_cons_zero, List.getElem?_cons_succ]; rfl)
        · exact fun _ _ _ h => h
        · rfl
        · intro w hSw
          (try dsimp only at hSw)
          go_simp
          try with_reducible rfl
        simp only [put_arr, List.set_cons_zero, List.set_cons_succ]
        refine wpAnyH_done (by kernel_rfl) ?_ _
        have HP3 := Bl.then HP HZ
        have ho3 := own_below ho HZ
        clear i0 i1 i2 i3 i4 i5 kF lF BQr BFr RQr HP ho hHeld hb2 hbl
        go_wp2_with fail
        clear hps
        obtain ⟨wo, rfl⟩ : ∃ wo : World, wo = wr := ⟨_, rfl⟩
        go_loopw [11] (fun s wr => ∃ kk : Nat, s = .int .i64 kk ∧ kk ≤ q ∧ Hid (Above (rkF q0 zf xs f) os m kk) ∧ Below w2.heap.size w2 wr) (fun s _ => (intOf s).toNat)
        case atStart => exact ⟨q, rfl, Nat.le_refl _, Lib.hid (by rw [← hol.out]; exact Above.none _ _ _), Below.refl _ _⟩
        case round =>
          obtain ⟨kk, rfl, hkq, hab, HPi⟩ := hrel
          have hob := hol.out
          by_cases hk0 : kk = 0
          · subst hk0
            go_wp2_with fail
            refine wp_region_held_drew (S := (fun wz => Below wr.heap.size wr wz ∧ ∀ b o, b < wr.heap.size → wz.cell? ⟨b, o, none⟩ = wr.cell? ⟨b, o, none⟩)) (by kernel_rfl) (old_of (Below.drew (Below.refl _ _))) (fun hHeld => ?_)
            refine wpAnyH_take (i := 0) (oi := ?_) (v := ?_) ?_ (by kernel_rfl) (by kernel_rfl) (by kernel_rfl) ?_ (Or.inl ⟨?_, ?_⟩) (by assumption) ?_
            rotate_left 2
            · (simp only [List.getElem?_toArray, List.getElem?_cons_zero]; rfl)
            · exact fun _ _ _ h => h
            · rfl
            · intro w hSw
              (try dsimp only at hSw)
              go_simp
              try with_reducible rfl
            simp only [put_arr, List.set_cons_zero, List.set_cons_succ]
            refine wpAnyH_take (i := 1) (oi := ?_) (v := ?_) ?_ (by kernel_rfl) (by kernel_rfl) (by kernel_rfl) ?_ (Or.inl ⟨?_, ?_⟩) (by assumption) ?_
            rotate_left 2
            · (simp only [List.getElem?_toArray, List.getElem?_cons_zero, List.getElem?_cons_succ]; rfl)
            · exact fun _ _ _ h => h
            · rfl
            · intro w hSw
              (try dsimp only at hSw)
              go_simp
              try with_reducible rfl
            simp only [put_arr, List.set_cons_zero, List.set_cons_succ]
            refine wpAnyH_take (i := 2) (oi := ?_) (v := ?_) ?_ (by kernel_rfl) (by kernel_rfl) (by kernel_rfl) ?_ (Or.inl ⟨?_, ?_⟩) (by assumption) ?_
            rotate_left 2
            · (simp only [List.getElem?_toArray, List.getElem?_cons_zero, List.getElem?_cons_succ]; rfl)
            · exact fun _ _ _ h => h
            · rfl
            · intro w hSw
              (try dsimp only at hSw)
              go_simp
              try with_reducible rfl
            simp only [put_arr, List.set_cons_zero, List.set_cons_succ]
            refine wpAnyH_take (i := 3) (oi := ?_) ?_ (by kernel_rfl) (by kernel_rfl) (by kernel_rfl) ?_ (Or.inr ⟨?_, rfl⟩) (by assumption) ?_
            rotate_left 1
            · (simp only [List.getElem?_toArray, List.getElem?_cons_zero, List.getElem?_cons_succ]; rfl)
            · exact fun _ _ _ h => h
            · rfl
            simp only [put_arr, List.set_cons_zero, List.set_cons_succ]
            refine wpAnyH_take (i := 4) (oi := ?_) ?_ (by kernel_rfl) (by kernel_rfl) (by kernel_rfl) ?_ (Or.inr ⟨?_, rfl⟩) (by assumption) ?_
            rotate_left 1
            · (simp only [List.getElem?_toArray, List.getElem?_cons_zero, List.getElem?_cons_succ]; rfl)
            · exact fun _ _ _ h => h
            · rfl
            simp only [put_arr, List.set_cons_zero, List.set_cons_succ]
            refine wpAnyH_take (i := 5) (oi := ?_) ?_ (by kernel_rfl) (by kernel_rfl) (by kernel_rfl) ?_ (Or.inr ⟨?_, rfl⟩) (by assumption) ?_
            rotate_left 1
            · (simp only [List.getElem?_toArray, List.getElem?_cons_zero, List.getElem?_cons_succ]; rfl)
            · exact fun _ _ _ h => h
            · rfl
            simp only [put_arr, List.set_cons_zero, List.set_cons_succ]
            refine wpAnyH_take (i := 6) (oi := ?_) ?_ (by kernel_rfl) (by kernel_rfl) (by kernel_rfl) ?_ (Or.inr ⟨?_, rfl⟩) (by assumption) ?_
            rotate_left 1
            · (simp only [List.getElem?_toArray, List.getElem?_cons_zero, List.getElem?_cons_succ]; rfl)
            · exact fun _ _ _ h => h
            · rfl
            simp only [put_arr, List.set_cons_zero, List.set_cons_succ]
            refine wpAnyH_take (i := 7) (oi := ?_) ?_ (by kernel_rfl) (by kernel_rfl) (by kernel_rfl) ?_ (Or.inr ⟨?_, rfl⟩) (by assumption) ?_
            rotate_left 1
            · (simp only [List.getElem?_toArray, List.getElem?_cons_zero, List.getElem?_cons_succ]; rfl)
            · exact fun _ _ _ h => h
            · rfl
            simp only [put_arr, List.set_cons_zero, List.set_cons_succ]
            refine wpAnyH_take (i := 8) (oi := ?_) ?_ (by kernel_rfl) (by kernel_rfl) (by kernel_rfl) ?_ (Or.inr ⟨?_, rfl⟩) (by assumption) ?_
            rotate_left 1
            · (simp only [List.getElem?_toArray, List.getElem?_cons_zero, List.getElem?_cons_succ]; rfl)
            · exact fun _ _ _ h => h
            · rfl
            simp only [put_arr, List.set_cons_zero, List.set_cons_succ]
            refine wpAnyH_take (i := 9) (oi := ?_) ?_ (by kernel_rfl) (by kernel_rfl) (by kernel_rfl) ?_ (Or.inr ⟨?_, rfl⟩) (by assumption) ?_
            rotate_left 1
            · (simp only [List.getElem?_toArray, List.getElem?_cons_zero, List.getElem?_cons_succ]; rfl)
            · exact fun _ _ _ h => h
            · rfl
            simp only [put_arr, List.set_cons_zero, List.set_cons_succ]
            refine wpAnyH_take (i := 10) (oi := ?_) ?_ (by kernel_rfl) (by kernel_rfl) (by kernel_rfl) ?_ (Or.inr ⟨?_, rfl⟩) (by assumption) ?_
            rotate_left 1
            · (simp only [List.getElem?_toArray, List.getElem?_cons_zero, List.getElem?_cons_succ]; rfl)
            · exact fun _ _ _ h => h
            · rfl
            simp only [put_arr, List.set_cons_zero, List.set_cons_succ]
            refine wpAnyH_take (i := 11) (oi := ?_) ?_ (by kernel_rfl) (by kernel_rfl) (by kernel_rfl) ?_ (Or.inr ⟨?_, rfl⟩) (by assumption) ?_
            rotate_left 1
            · (simp only [List.getElem?_toArray, List.getElem?_cons_zero, List.getElem?_cons_succ]; rfl)
            · exact fun _ _ _ h => h
            · rfl
            simp only [put_arr, List.set_cons_zero, List.set_cons_succ]
            refine wpAnyH_take (i := 12) (oi := ?_) ?_ (by kernel_rfl) (by kernel_rfl) (by kernel_rfl) ?_ (Or.inr ⟨?_, rfl⟩) (by assumption) ?_
            rotate_left 1
            · (simp only [List.getElem?_toArray, List.getElem?_cons_zero, List.getElem?_cons_succ]; rfl)
            · exact fun _ _ _ h => h
            · rfl
            simp only [put_arr, List.set_cons_zero, List.set_cons_succ]
            refine wpAnyH_take (i := 13) (oi := ?_) ?_ (by kernel_rfl) (by kernel_rfl) (by kernel_rfl) ?_ (Or.inr ⟨?_, rfl⟩) (by assumption) ?_
            rotate_left 1
            · (simp only [List.getElem?_toArray, List.getElem?_cons_zero, List.getElem?_cons_succ]; rfl)
            · exact fun _ _ _ h => h
            · rfl
            simp only [put_arr, List.set_cons_zero, List.set_cons_succ]
            refine wpAnyH_take (i := 14) (oi := ?_) ?_ (by kernel_rfl) (by kernel_rfl) (by kernel_rfl) ?_ (Or.inr ⟨?_, rfl⟩) (by assumption) ?_
            rotate_left 1
            · (simp only [List.getElem?_toArray, List.getElem?_cons_zero, List.getElem?_cons_succ]; rfl)
            · exact fun _ _ _ h => h
            · rfl
            simp only [put_arr, List.set_cons_zero, List.set_cons_succ]
            refine wpAnyH_take (i := 15) (oi := ?_) (v := ?_) ?_ (by kernel_rfl) (by kernel_rfl) (by kernel_rfl) ?_ (Or.inl ⟨?_, ?_⟩) (by assumption) ?_
            rotate_left 2
            · (simp only [List.getElem?_toArray, List.getElem?_cons_zero, List.getElem?_cons_succ]; rfl)
            · exact fun _ _ _ h => h
            · rfl
            · intro w hSw
              (try dsimp only at hSw)
              go_simp
              try with_reducible rfl
            simp only [put_arr, List.set_cons_zero, List.set_cons_succ]
            refine wpAnyH_done (by kernel_rfl) ?_ _
            go_wp2_with fail
            have hob2 := hol.out
            have HPz := Bl.then HP3 (Bl.then HPi hHeld.1)
            have oz := own_below (own_below ho3 HPi) hHeld.1
            have hinv2 := Lib.hid (hinv.out.put (hinc.out m).2 (by have := k9.out.1; rw [hxl.out] at this; omega) (by omega) hab.out (.inl rfl))
            have hgx := (oz.lt g rfl).2
            clear hinv hab
            go_wp2_with fail
            refine (l00Own_at _ 0 _ _ (os.take 0) _ (by rw [List.length_take]; omega) hgx (own_take oz 0) (by omega)).mono ?_
            rintro e w4 ⟨g4, c4, rfl, hg4, o4, hb4⟩
            have HP4 := Bl.then HPz hb4
            have o4' := ownsRow_le' o4 HPz.size
            have oz4 := own_below oz hb4
            have tok1 : True := trivial
            go_wp2_with (first | (at_builtin; have _t := tok1; go_loud (refine wpList_app_int _ rfl _ _ rfl _ _ _ _ _ _ rfl o4' rfl HP4.size (by omega) ?_; intro A5 c5 w5 o5 hg5; obtain ⟨g5, eA5, hb5, hl5, hc5, hm5⟩ := own_form o5 (by omega); subst eA5; have HP5 := app_below o4' HP4 (Nat.le_refl _) HP4.size hg5; have oz5 := keep_own oz4 hg5 (fun k k' h1 h2 => by simp only [Value.ownBlock, Option.some.injEq] at h1 h2; omega); clear tok1 hb5 hl5 hc5 hm5)) | (at_builtin; go_loud (refine wpList_cat_int _ rfl _ _ rfl w1.heap.size ⟨g5, 0, none⟩ _ _ _ rfl o5 g 0 (q - 0) (c' - 0) (os.drop 0) rfl (by rw [List.length_drop]; omega) (own_drop oz5 0) HP5.size (by omega) ?_; intro gN cN wN hbN hlN oN hgN)))
            have HPN := app_below o5 HP5 (Nat.le_refl _) HP5.size hgN
            go_roundw
            case rel => exact ⟨m + 1, gN, 0 + 1 + (q - 0), cN, insAt os 0 m, by omega, by go_num, rfl, by omega, by rw [← hg0.out]; exact hinv2, oN, HPN⟩
            case measure => simp [intOf] <;> omega
          obtain ⟨j, rfl⟩ : ∃ q', kk = q' + 1 := ⟨kk - 1, by omega⟩
          have oi := own_below ho3 HPi
          have z0 := oi.cellAt j (by omega)
          rw [ints_get (by omega)] at z0
          have hgl := (oi.lt g rfl).2
          obtain ⟨gx, ex, _, _, hqc, _⟩ := own_form oi (by omega)
          clear ex
          have hro := (hinc.out m).2.perm hinv.out.1 j (by omega)
          have hmp := hmx0.out m (ix os j) (hinv.out.1.mem_iff.1 (by rw [← ix_eq (by omega)]; exact List.getElem_mem _))
          obtain ⟨p, hp⟩ : ∃ p : Nat, ix os j = (p : Int) := ⟨(ix os j).toNat, by omega⟩
          have hpm : p < n := by omega
          rw [hp] at hmp z0
          have hcp := Lib.hid (show costR (lastsAt xs p).l (lastsAt xs p).b (lastsAt xs p).i (lastsAt xs p).h f.l f.b f.i f.h q0 q1 q2 zf = (rkF q0 zf xs f) (p : Int) from costR_cX hmp)
          have hxp := Lib.hid (show lastOk (lastsAt xs p).s (lastsAt xs p).l (lastsAt xs p).b (lastsAt xs p).i (lastsAt xs p).h (lastsAt xs p).p = true from kx.out p (by rw [hxl.out]; exact hpm))
          have hpp := Lib.hid hp
          have HPx := Bl.then HP3 HPi
          obtain ⟨b2, off2, eA2, hbl2, i0, i1, i2, i3, i4, i5⟩ := (RX.below HPx).lasts hpm
          simp only [Option.some.injEq, Addr.mk.injEq, and_true] at eA2
          obtain ⟨rfl, rfl⟩ := eA2
          have BQr := BQ.below HPx
          have BFr := BF.below HPx
          have RQr := RQ.below HPx
          have kF := BFr.cell
          have lF := BFr.lt
          clear hob hp hro hmp HPx
          have a0 : (0 : Int) < (j : Int) + 1 := by omega
          have a1 : (j : Int) + 1 - 1 = j := by omega
          have a3 : ((j : Int) + 1).toNat = j + 1 := by omega
          have a4 : IntKind.i64.wrap (j : Int) = j := IntWalk.i64_in _ (by omega)
          have a5 : j < q := by omega
          have a6 : (0 : Int) ≤ (j : Int) + 1 := by omega
          have a7 : j + 1 ≤ c' := by omega
          have a8 : j + 1 ≤ q := by omega
          have a9 : (j : Int) + 1 ≤ q := by omega
          have a10 : (j : Int) + 1 ≤ c' := by omega
          by_cases hc : costR (lastsAt xs m).l (lastsAt xs m).b (lastsAt xs m).i (lastsAt xs m).h f.l f.b f.i f.h q0 q1 q2 zf < costR (lastsAt xs p).l (lastsAt xs p).b (lastsAt xs p).i (lastsAt xs p).h f.l f.b f.i f.h q0 q1 q2 zf
          · have hup := Lib.hid (hab.out.step (by rw [hpp.out, ← hcm.out, ← hcp.out]; exact hc))
            go_wp2_with fail
            refine wp_region_held_drew (S := (fun wz => Below wr.heap.size wr wz ∧ ∀ b o, b < wr.heap.size → wz.cell? ⟨b, o, none⟩ = wr.cell? ⟨b, o, none⟩)) (by kernel_rfl) (old_of (Below.drew (Below.refl _ _))) (fun hHeld => ?_)
            refine wpAnyH_take (i := 0) (oi := ?_) (v := ?_) ?_ (by kernel_rfl) (by kernel_rfl) (by kernel_rfl) ?_ (Or.inl ⟨?_, ?_⟩) (by assumption) ?_
            rotate_left 2
            · (simp only [List.getElem?_toArray, List.getElem?_cons_zero]; rfl)
            · exact fun _ _ _ h => h
            · rfl
            · intro w hSw
              (try dsimp only at hSw)
              go_simp
              try with_reducible rfl
            simp only [put_arr, List.set_cons_zero, List.set_cons_succ]
            refine wpAnyH_take (i := 1) (oi := ?_) (v := ?_) ?_ (by kernel_rfl) (by kernel_rfl) (by kernel_rfl) ?_ (Or.inl ⟨?_, ?_⟩) (by assumption) ?_
            rotate_left 2
            · (simp only [List.getElem?_toArray, List.getElem?_cons_zero, List.getElem?_cons_succ]; rfl)
            · exact fun _ _ _ h => h
            · rfl
            · intro w hSw
              (try dsimp only at hSw)
              go_simp
              try with_reducible rfl
            simp only [put_arr, List.set_cons_zero, List.set_cons_succ]
            refine wpAnyH_take (i := 2) (oi := ?_) (v := ?_) ?_ (by kernel_rfl) (by kernel_rfl) (by kernel_rfl) ?_ (Or.inl ⟨?_, ?_⟩) (by assumption) ?_
            rotate_left 2
            · (simp only [List.getElem?_toArray, List.getElem?_cons_zero, List.getElem?_cons_succ]; rfl)
            · exact fun _ _ _ h => h
            · rfl
            · intro w hSw
              (try dsimp only at hSw)
              go_simp
              try with_reducible rfl
            simp only [put_arr, List.set_cons_zero, List.set_cons_succ]
            refine wpAnyH_take (i := 3) (oi := ?_) (v := ?_) ?_ (by kernel_rfl) (by kernel_rfl) (by kernel_rfl) ?_ (Or.inl ⟨?_, ?_⟩) (by assumption) ?_
            rotate_left 2
            · (simp only [List.getElem?_toArray, List.getElem?_cons_zero, List.getElem?_cons_succ]; rfl)
            · exact fun _ _ _ h => h
            · rfl
            · intro w hSw
              (try dsimp only at hSw)
              go_simp
              try with_reducible rfl
            simp only [put_arr, List.set_cons_zero, List.set_cons_succ]
            refine wpAnyH_take (i := 4) (oi := ?_) (v := ?_) ?_ (by kernel_rfl) (by kernel_rfl) (by kernel_rfl) ?_ (Or.inl ⟨?_, ?_⟩) (by assumption) ?_
            rotate_left 2
            · (simp only [List.getElem?_toArray, List.getElem?_cons_zero, List.getElem?_cons_succ]; rfl)
            · exact fun _ _ _ h => h
            · rfl
            · intro w hSw
              (try dsimp only at hSw)
              go_simp
              try with_reducible rfl
            simp only [put_arr, List.set_cons_zero, List.set_cons_succ]
            refine wpAnyH_take (i := 5) (oi := ?_) (v := ?_) ?_ (by kernel_rfl) (by kernel_rfl) (by kernel_rfl) ?_ (Or.inl ⟨?_, ?_⟩) (by assumption) ?_
            rotate_left 2
            · (simp only [List.getElem?_toArray, List.getElem?_cons_zero, List.getElem?_cons_succ]; rfl)
            · exact fun _ _ _ h => h
            · rfl
            · intro w hSw
              (try dsimp only at hSw)
              go_simp
              try with_reducible rfl
            simp only [put_arr, List.set_cons_zero, List.set_cons_succ]
            refine wpAnyH_take (i := 6) (oi := ?_) (v := ?_) ?_ (by kernel_rfl) (by kernel_rfl) (by kernel_rfl) ?_ (Or.inl ⟨?_, ?_⟩) (by assumption) ?_
            rotate_left 2
            · (simp only [List.getElem?_toArray, List.getElem?_cons_zero, List.getElem?_cons_succ]; rfl)
            · exact fun _ _ _ h => h
            · rfl
            · intro w hSw
              (try dsimp only at hSw)
              go_simp
              try with_reducible rfl
            simp only [put_arr, List.set_cons_zero, List.set_cons_succ]
            refine wpAnyH_take (i := 7) (oi := ?_) (v := ?_) ?_ (by kernel_rfl) (by kernel_rfl) (by kernel_rfl) ?_ (Or.inl ⟨?_, ?_⟩) (by assumption) ?_
            rotate_left 2
            · (simp only [List.getElem?_toArray, List.getElem?_cons_zero, List.getElem?_cons_succ]; rfl)
            · exact fun _ _ _ h => h
            · rfl
            · intro w hSw
              (try dsimp only at hSw)
              go_simp
              try with_reducible rfl
            simp only [put_arr, List.set_cons_zero, List.set_cons_succ]
            refine wpAnyH_take (i := 8) (oi := ?_) (v := ?_) ?_ (by kernel_rfl) (by kernel_rfl) (by kernel_rfl) ?_ (Or.inl ⟨?_, ?_⟩) (by assumption) ?_
            rotate_left 2
            · (simp only [List.getElem?_toArray, List.getElem?_cons_zero, List.getElem?_cons_succ]; rfl)
            · exact fun _ _ _ h => h
            · rfl
            · intro w hSw
              (try dsimp only at hSw)
              go_simp
              try with_reducible rfl
            simp only [put_arr, List.set_cons_zero, List.set_cons_succ]
            refine wpAnyH_take (i := 9) (oi := ?_) (v := ?_) ?_ (by kernel_rfl) (by kernel_rfl) (by kernel_rfl) ?_ (Or.inl ⟨?_, ?_⟩) (by assumption) ?_
            rotate_left 2
            · (simp only [List.getElem?_toArray, List.getElem?_cons_zero, List.getElem?_cons_succ]; rfl)
            · exact fun _ _ _ h => h
            · rfl
            · intro w hSw
              (try dsimp only at hSw)
              go_simp
              try with_reducible rfl
            simp only [put_arr, List.set_cons_zero, List.set_cons_succ]
            refine wpAnyH_take (i := 10) (oi := ?_) (v := ?_) ?_ (by kernel_rfl) (by kernel_rfl) (by kernel_rfl) ?_ (Or.inl ⟨?_, ?_⟩) (by assumption) ?_
            rotate_left 2
            · (simp only [List.getElem?_toArray, List.getElem?_cons_zero, List.getElem?_cons_succ]; rfl)
            · exact fun _ _ _ h => h
            · rfl
            · intro w hSw
              (try dsimp only at hSw)
              go_simp
              try with_reducible rfl
            simp only [put_arr, List.set_cons_zero, List.set_cons_succ]
            refine wpAnyH_take (i := 11) (oi := ?_) (v := ?_) ?_ (by kernel_rfl) (by kernel_rfl) (by kernel_rfl) ?_ (Or.inl ⟨?_, ?_⟩) (by assumption) ?_
            rotate_left 2
            · (simp only [List.getElem?_toArray, List.getElem?_cons_zero, List.getElem?_cons_succ]; rfl)
            · exact fun _ _ _ h => h
            · rfl
            · intro w hSw
              (try dsimp only at hSw)
              go_simp
              try with_reducible rfl
            simp only [put_arr, List.set_cons_zero, List.set_cons_succ]
            refine wpAnyH_take (i := 13) (oi := ?_) (v := ?_) ?_ (by kernel_rfl) (by kernel_rfl) (by kernel_rfl) ?_ (Or.inl ⟨?_, ?_⟩) (by assumption) ?_
            rotate_left 2
            · (simp only [List.getElem?_toArray, List.getElem?_cons_zero, List.getElem?_cons_succ]; rfl)
            · exact fun _ _ _ h => h
            · rfl
            · intro w hSw
              (try dsimp only at hSw)
              go_simp
              try with_reducible rfl
            simp only [put_arr, List.set_cons_zero, List.set_cons_succ]
            refine wpAnyH_ready (rs := [12]) (by kernel_rfl) (by simp) ?_
            refine AllReadyH.cons (o := ?_) ?_ (fun K hK => ?_) AllReadyH.nil
            rotate_left
            · (simp only [List.getElem?_toArray, List.getElem?_cons_zero, List.getElem?_cons_succ]; rfl)
            rw [if_pos (by rfl)]
            go_simp
            (with_reducible refine (l04Cost_any _ _ _ _ _ _ _ _ _ _ _ _ _ _ _ _ _ _ _ (BQr.below hHeld.1) (RQr.below hHeld.1) hxp.out kfo.out kq.out).mono ?_)
            rintro e v9 ⟨rfl, hb9⟩
            have HZ9 := Bl.then (w := wr) hHeld.1 hb9
            go_wp2_with fail
            refine hK.out _ _ (old_of HZ9) (fun hHeld2 => ?_)
            clear hK K hHeld
            have hHeld := hHeld2
            clear hHeld2
            refine wpAnyH_take (i := 14) (oi := ?_) (v := ?_) ?_ (by kernel_rfl) (by kernel_rfl) (by kernel_rfl) ?_ (Or.inl ⟨?_, ?_⟩) (by assumption) ?_
            rotate_left 2
            · (simp only [List.getElem?_toArray, List.getElem?_cons_zero, List.getElem?_cons_succ]; rfl)
            · exact fun _ _ _ h => h
            · rfl
            · intro w hSw
              (try dsimp only at hSw)
              go_simp
              try with_reducible rfl
            simp only [put_arr, List.set_cons_zero, List.set_cons_succ]
            refine wpAnyH_take (i := 15) (oi := ?_) (v := ?_) ?_ (by kernel_rfl) (by kernel_rfl) (by kernel_rfl) ?_ (Or.inl ⟨?_, ?_⟩) (by assumption) ?_
            rotate_left 2
            · (simp only [List.getElem?_toArray, List.getElem?_cons_zero, List.getElem?_cons_succ]; rfl)
            · exact fun _ _ _ h => h
            · rfl
            · intro w hSw
              (try dsimp only at hSw)
              go_simp
              try with_reducible rfl
            simp only [put_arr, List.set_cons_zero, List.set_cons_succ]
            refine wpAnyH_done (by kernel_rfl) ?_ _
            go_wp2_with fail
            go_roundw
            case rel => exact ⟨j, by go_num, by omega, hup, Bl.then HPi HZ9⟩
            case measure => simp [intOf] <;> omega
          · have hdec : decide (costR (lastsAt xs m).l (lastsAt xs m).b (lastsAt xs m).i (lastsAt xs m).h f.l f.b f.i f.h q0 q1 q2 zf < costR (lastsAt xs p).l (lastsAt xs p).b (lastsAt xs p).i (lastsAt xs p).h f.l f.b f.i f.h q0 q1 q2 zf) = false := decide_eq_false hc
            have hbx := Lib.hid (show j + 1 = 0 ∨ (rkF q0 zf xs f) (ix os (j + 1 - 1)) ≤ (rkF q0 zf xs f) (m : Int) from .inr (by rw [show j + 1 - 1 = j from rfl, hpp.out, ← hcm.out, ← hcp.out]; exact Int.not_lt.1 hc))
            go_wp2_with fail
            refine wp_region_held_drew (S := (fun wz => Below wr.heap.size wr wz ∧ ∀ b o, b < wr.heap.size → wz.cell? ⟨b, o, none⟩ = wr.cell? ⟨b, o, none⟩)) (by kernel_rfl) (old_of (Below.drew (Below.refl _ _))) (fun hHeld => ?_)
            refine wpAnyH_take (i := 0) (oi := ?_) (v := ?_) ?_ (by kernel_rfl) (by kernel_rfl) (by kernel_rfl) ?_ (Or.inl ⟨?_, ?_⟩) (by assumption) ?_
            rotate_left 2
            · (simp only [List.getElem?_toArray, List.getElem?_cons_zero]; rfl)
            · exact fun _ _ _ h => h
            · rfl
            · intro w hSw
              (try dsimp only at hSw)
              go_simp
              try with_reducible rfl
            simp only [put_arr, List.set_cons_zero, List.set_cons_succ]
            refine wpAnyH_take (i := 1) (oi := ?_) (v := ?_) ?_ (by kernel_rfl) (by kernel_rfl) (by kernel_rfl) ?_ (Or.inl ⟨?_, ?_⟩) (by assumption) ?_
            rotate_left 2
            · (simp only [List.getElem?_toArray, List.getElem?_cons_zero, List.getElem?_cons_succ]; rfl)
            · exact fun _ _ _ h => h
            · rfl
            · intro w hSw
              (try dsimp only at hSw)
              go_simp
              try with_reducible rfl
            simp only [put_arr, List.set_cons_zero, List.set_cons_succ]
            refine wpAnyH_take (i := 2) (oi := ?_) (v := ?_) ?_ (by kernel_rfl) (by kernel_rfl) (by kernel_rfl) ?_ (Or.inl ⟨?_, ?_⟩) (by assumption) ?_
            rotate_left 2
            · (simp only [List.getElem?_toArray, List.getElem?_cons_zero, List.getElem?_cons_succ]; rfl)
            · exact fun _ _ _ h => h
            · rfl
            · intro w hSw
              (try dsimp only at hSw)
              go_simp
              try with_reducible rfl
            simp only [put_arr, List.set_cons_zero, List.set_cons_succ]
            refine wpAnyH_take (i := 3) (oi := ?_) (v := ?_) ?_ (by kernel_rfl) (by kernel_rfl) (by kernel_rfl) ?_ (Or.inl ⟨?_, ?_⟩) (by assumption) ?_
            rotate_left 2
            · (simp only [List.getElem?_toArray, List.getElem?_cons_zero, List.getElem?_cons_succ]; rfl)
            · exact fun _ _ _ h => h
            · rfl
            · intro w hSw
              (try dsimp only at hSw)
              go_simp
              try with_reducible rfl
            simp only [put_arr, List.set_cons_zero, List.set_cons_succ]
            refine wpAnyH_take (i := 4) (oi := ?_) (v := ?_) ?_ (by kernel_rfl) (by kernel_rfl) (by kernel_rfl) ?_ (Or.inl ⟨?_, ?_⟩) (by assumption) ?_
            rotate_left 2
            · (simp only [List.getElem?_toArray, List.getElem?_cons_zero, List.getElem?_cons_succ]; rfl)
            · exact fun _ _ _ h => h
            · rfl
            · intro w hSw
              (try dsimp only at hSw)
              go_simp
              try with_reducible rfl
            simp only [put_arr, List.set_cons_zero, List.set_cons_succ]
            refine wpAnyH_take (i := 5) (oi := ?_) (v := ?_) ?_ (by kernel_rfl) (by kernel_rfl) (by kernel_rfl) ?_ (Or.inl ⟨?_, ?_⟩) (by assumption) ?_
            rotate_left 2
            · (simp only [List.getElem?_toArray, List.getElem?_cons_zero, List.getElem?_cons_succ]; rfl)
            · exact fun _ _ _ h => h
            · rfl
            · intro w hSw
              (try dsimp only at hSw)
              go_simp
              try with_reducible rfl
            simp only [put_arr, List.set_cons_zero, List.set_cons_succ]
            refine wpAnyH_take (i := 6) (oi := ?_) (v := ?_) ?_ (by kernel_rfl) (by kernel_rfl) (by kernel_rfl) ?_ (Or.inl ⟨?_, ?_⟩) (by assumption) ?_
            rotate_left 2
            · (simp only [List.getElem?_toArray, List.getElem?_cons_zero, List.getElem?_cons_succ]; rfl)
            · exact fun _ _ _ h => h
            · rfl
            · intro w hSw
              (try dsimp only at hSw)
              go_simp
              try with_reducible rfl
            simp only [put_arr, List.set_cons_zero, List.set_cons_succ]
            refine wpAnyH_take (i := 7) (oi := ?_) (v := ?_) ?_ (by kernel_rfl) (by kernel_rfl) (by kernel_rfl) ?_ (Or.inl ⟨?_, ?_⟩) (by assumption) ?_
            rotate_left 2
            · (simp only [List.getElem?_toArray, List.getElem?_cons_zero, List.getElem?_cons_succ]; rfl)
            · exact fun _ _ _ h => h
            · rfl
            · intro w hSw
              (try dsimp only at hSw)
              go_simp
              try with_reducible rfl
            simp only [put_arr, List.set_cons_zero, List.set_cons_succ]
            refine wpAnyH_take (i := 8) (oi := ?_) (v := ?_) ?_ (by kernel_rfl) (by kernel_rfl) (by kernel_rfl) ?_ (Or.inl ⟨?_, ?_⟩) (by assumption) ?_
            rotate_left 2
            · (simp only [List.getElem?_toArray, List.getElem?_cons_zero, List.getElem?_cons_succ]; rfl)
            · exact fun _ _ _ h => h
            · rfl
            · intro w hSw
              (try dsimp only at hSw)
              go_simp
              try with_reducible rfl
            simp only [put_arr, List.set_cons_zero, List.set_cons_succ]
            refine wpAnyH_take (i := 9) (oi := ?_) (v := ?_) ?_ (by kernel_rfl) (by kernel_rfl) (by kernel_rfl) ?_ (Or.inl ⟨?_, ?_⟩) (by assumption) ?_
            rotate_left 2
            · (simp only [List.getElem?_toArray, List.getElem?_cons_zero, List.getElem?_cons_succ]; rfl)
            · exact fun _ _ _ h => h
            · rfl
            · intro w hSw
              (try dsimp only at hSw)
              go_simp
              try with_reducible rfl
            simp only [put_arr, List.set_cons_zero, List.set_cons_succ]
            refine wpAnyH_take (i := 10) (oi := ?_) (v := ?_) ?_ (by kernel_rfl) (by kernel_rfl) (by kernel_rfl) ?_ (Or.inl ⟨?_, ?_⟩) (by assumption) ?_
            rotate_left 2
            · (simp only [List.getElem?_toArray, List.getElem?_cons_zero, List.getElem?_cons_succ]; rfl)
            · exact fun _ _ _ h => h
            · rfl
            · intro w hSw
              (try dsimp only at hSw)
              go_simp
              try with_reducible rfl
            simp only [put_arr, List.set_cons_zero, List.set_cons_succ]
            refine wpAnyH_take (i := 11) (oi := ?_) (v := ?_) ?_ (by kernel_rfl) (by kernel_rfl) (by kernel_rfl) ?_ (Or.inl ⟨?_, ?_⟩) (by assumption) ?_
            rotate_left 2
            · (simp only [List.getElem?_toArray, List.getElem?_cons_zero, List.getElem?_cons_succ]; rfl)
            · exact fun _ _ _ h => h
            · rfl
            · intro w hSw
              (try dsimp only at hSw)
              go_simp
              try with_reducible rfl
            simp only [put_arr, List.set_cons_zero, List.set_cons_succ]
            refine wpAnyH_take (i := 13) (oi := ?_) (v := ?_) ?_ (by kernel_rfl) (by kernel_rfl) (by kernel_rfl) ?_ (Or.inl ⟨?_, ?_⟩) (by assumption) ?_
            rotate_left 2
            · (simp only [List.getElem?_toArray, List.getElem?_cons_zero, List.getElem?_cons_succ]; rfl)
            · exact fun _ _ _ h => h
            · rfl
            · intro w hSw
              (try dsimp only at hSw)
              go_simp
              try with_reducible rfl
            simp only [put_arr, List.set_cons_zero, List.set_cons_succ]
            refine wpAnyH_ready (rs := [12]) (by kernel_rfl) (by simp) ?_
            refine AllReadyH.cons (o := ?_) ?_ (fun K hK => ?_) AllReadyH.nil
            rotate_left
            · (simp only [List.getElem?_toArray, List.getElem?_cons_zero, List.getElem?_cons_succ]; rfl)
            rw [if_pos (by rfl)]
            go_simp
            (with_reducible refine (l04Cost_any _ _ _ _ _ _ _ _ _ _ _ _ _ _ _ _ _ _ _ (BQr.below hHeld.1) (RQr.below hHeld.1) hxp.out kfo.out kq.out).mono ?_)
            rintro e v9 ⟨rfl, hb9⟩
            have HZ9 := Bl.then (w := wr) hHeld.1 hb9
            go_wp2_with fail
            refine hK.out _ _ (old_of HZ9) (fun hHeld2 => ?_)
            clear hK K hHeld
            have hHeld := hHeld2
            clear hHeld2
            refine wpAnyH_take (i := 14) (oi := ?_) (v := ?_) ?_ (by kernel_rfl) (by kernel_rfl) (by kernel_rfl) ?_ (Or.inl ⟨?_, ?_⟩) (by assumption) ?_
            rotate_left 2
            · (simp only [List.getElem?_toArray, List.getElem?_cons_zero, List.getElem?_cons_succ]; rfl)
            · exact fun _ _ _ h => h
            · rfl
            · intro w hSw
              (try dsimp only at hSw)
              go_simp
              try with_reducible rfl
            simp only [put_arr, List.set_cons_zero, List.set_cons_succ]
            refine wpAnyH_take (i := 15) (oi := ?_) (v := ?_) ?_ (by kernel_rfl) (by kernel_rfl) (by kernel_rfl) ?_ (Or.inl ⟨?_, ?_⟩) (by assumption) ?_
            rotate_left 2
            · (simp only [List.getElem?_toArray, List.getElem?_cons_zero, List.getElem?_cons_succ]; rfl)
            · exact fun _ _ _ h => h
            · rfl
            · intro w hSw
              (try dsimp only at hSw)
              go_simp
              try with_reducible rfl
            simp only [put_arr, List.set_cons_zero, List.set_cons_succ]
            refine wpAnyH_done (by kernel_rfl) ?_ _
            have hob2 := hol.out
            have HPz := Bl.then HP3 (Bl.then HPi HZ9)
            have oz := own_below (own_below ho3 HPi) HZ9
            have hinv2 := Lib.hid (hinv.out.put (hinc.out m).2 (by have := k9.out.1; rw [hxl.out] at this; omega) (by omega) hab.out hbx.out)
            have hgx := (oz.lt g rfl).2
            clear hinv hab
            go_wp2_with fail
            refine (l00Own_at _ 0 _ _ (os.take (j + 1)) _ (by rw [List.length_take]; omega) hgx (own_take oz (j + 1)) (by omega)).mono ?_
            rintro e w4 ⟨g4, c4, rfl, hg4, o4, hb4⟩
            have HP4 := Bl.then HPz hb4
            have o4' := ownsRow_le' o4 HPz.size
            have oz4 := own_below oz hb4
            have tok1 : True := trivial
            go_wp2_with (first | (at_builtin; have _t := tok1; go_loud (refine wpList_app_int _ rfl _ _ rfl _ _ _ _ _ _ rfl o4' rfl HP4.size (by omega) ?_; intro A5 c5 w5 o5 hg5; obtain ⟨g5, eA5, hb5, hl5, hc5, hm5⟩ := own_form o5 (by omega); subst eA5; have HP5 := app_below o4' HP4 (Nat.le_refl _) HP4.size hg5; have oz5 := keep_own oz4 hg5 (fun k k' h1 h2 => by simp only [Value.ownBlock, Option.some.injEq] at h1 h2; omega); clear tok1 hb5 hl5 hc5 hm5)) | (at_builtin; go_loud (refine wpList_cat_int _ rfl _ _ rfl w1.heap.size ⟨g5, 0, none⟩ _ _ _ rfl o5 g (if c' = (j + 1) then 0 else (j + 1)) (q - (j + 1)) (c' - (j + 1)) (os.drop (j + 1)) (by rw [← cut_at]; rfl) (by rw [List.length_drop]; omega) (own_drop_if oz5 (j + 1) c' hqc) HP5.size (by omega) ?_; intro gN cN wN hbN hlN oN hgN)))
            have HPN := app_below o5 HP5 (Nat.le_refl _) HP5.size hgN
            go_roundw
            case rel => exact ⟨m + 1, gN, (j + 1) + 1 + (q - (j + 1)), cN, insAt os (j + 1) m, by omega, by go_num, rfl, by omega, by rw [← hg0.out]; exact hinv2, oN, HPN⟩
            case measure => simp [intOf] <;> omega
    · obtain rfl : m = n := by omega
      have hrk := Lib.hid (hinv.out.rank ((hinc.out m).2.rng (by have := k9.out.1; rw [hxl.out] at this; omega)))
      rw [hrk.out] at ho
      go_wp2_with fail
      go_ret2
      refine RetInts.mk hr.out (ownsRow_le' ?_ HW.size) (Bl.then HW HP)
      rw [hxl.out]
      exact ho
end Go.Proofs.Ytlbgognkaolamaa
