/-
  ReadFoot and ReadGrade of the program and of the reference. The conditions: texts of at most 2^20 bytes; what reading texts leans on lies as the library lays it.
-/
import Derived.Test.YtijbaapecehamaaDoorReadN
import Derived.RegionTactic
namespace Go.Proofs.YtijbaapecehamaaDoor
open Go.RowKit Go.PlainAid
set_option maxHeartbeats 3200000
set_option linter.unusedVariables false

theorem glu_tail (c : UInt8) : ∀ (t : List (List UInt8)) (p : List UInt8), gluL c (p :: t) = p ++ Lib.joinTail [c] t
  | [], p => by simp [gluL, Lib.joinTail]
  | q :: r, p => by
    show p ++ c :: gluL c (q :: r) = _
    rw [glu_tail c r q]
    simp [Lib.joinTail]
theorem good_join {K : Nat} {l : List UInt8} (h : Good K l) : joinT (numsOf l) = toBA l := by
  have e : (numsOf l).map Lib.itoa = splitL 47 l := by
    unfold numsOf
    rw [List.map_map]
    conv => rhs; rw [← List.map_id (splitL 47 l)]
    apply List.map_congr_left
    intro p hp
    exact (h.2 p hp).1
  unfold joinT toBA
  rw [e]
  congr 2
  cases hs : splitL 47 l with
  | nil => exact absurd hs (splitL_ne _ _)
  | cons p r =>
    rw [Lib.join_cons, ← glu_tail 47 r p, ← hs, gluL_split]
theorem good_len {K : Nat} {l : List UInt8} (h : Good K l) : (numsOf l).length = K := by unfold numsOf; rw [List.length_map]; exact h.1
theorem good_ne {K : Nat} {l : List UInt8} (h : Good K l) (hK : 2 ≤ K) : l ≠ [] := fun e => by
  have := h.1
  rw [e] at this
  simp [splitL] at this
  omega
theorem good_i64 {K : Nat} {l : List UInt8} (h : Good K l) : AllI (numsOf l) := fun z hz => by
  obtain ⟨p, hp, rfl⟩ := List.mem_map.1 hz
  have := (h.2 p hp).2
  omega
theorem list4 {xs : List Int} (h : xs.length = 4) : xs = [ix xs 0, ix xs 1, ix xs 2, ix xs 3] := by
  match xs, h with
  | [a, b, c, d], _ => rfl
theorem list5 {xs : List Int} (h : xs.length = 5) : xs = [ix xs 0, ix xs 1, ix xs 2, ix xs 3, ix xs 4] := by
  match xs, h with
  | [a, b, c, d, f], _ => rfl
def rv (b : Bool) (l : List UInt8) (k : Nat) : Int := if b = true then ix (numsOf l) k else 0
noncomputable def rdFoot (l : List UInt8) : Bool := @decide (Good 4 l ∧ footOk (ix (numsOf l) 0) (ix (numsOf l) 1) (ix (numsOf l) 2) (ix (numsOf l) 3) = true) (Classical.propDecidable _)
theorem rdFoot_yes {l : List UInt8} (h : Good 4 l) (hk : footOk (ix (numsOf l) 0) (ix (numsOf l) 1) (ix (numsOf l) 2) (ix (numsOf l) 3) = true) : rdFoot l = true := @decide_eq_true _ (Classical.propDecidable _) ⟨h, hk⟩
theorem rdFoot_no {l : List UInt8} (h : ¬ (Good 4 l ∧ footOk (ix (numsOf l) 0) (ix (numsOf l) 1) (ix (numsOf l) 2) (ix (numsOf l) 3) = true)) : rdFoot l = false := @decide_eq_false _ (Classical.propDecidable _) h
theorem rfootOf_any (A : Option Addr) (c0 : Nat) (a b c d : Int) (w : World) (h : Rd w 1 A 4 (ints [a, b, c, d])) :
    Calls Tryd.prog 56 #[.slice A 4 c0] w fun e' w' => e' = .returned (.agg #[.int .i64 a, .int .i64 b, .int .i64 c, .int .i64 d]) ∧ Below w.heap.size w w' := by
  obtain ⟨bl, off, rfl, hb, hc⟩ := h.2 (by decide)
  have k0 : w.cell? ⟨bl, off, none⟩ = some (.int .i64 a) := hc 0 _ rfl
  have k1 : w.cell? ⟨bl, off + 1, none⟩ = some (.int .i64 b) := hc 1 _ rfl
  have k2 : w.cell? ⟨bl, off + 2, none⟩ = some (.int .i64 c) := hc 2 _ rfl
  have k3 : w.cell? ⟨bl, off + 3, none⟩ = some (.int .i64 d) := hc 3 _ rfl
  clear hc h
  go_enter Tryd.func56, Tryd.ntmps56
  go_wp2_with fail
  go_region
  all_goals
    go_wp2_with fail
    go_returns
    refine ⟨rfl, ?_⟩
    go_grown
theorem rl02Of_any (A : Option Addr) (c0 : Nat) (a b c d : Int) (w : World) (h : Rd w 1 A 4 (ints [a, b, c, d])) :
    Calls Tryd.prog 54 #[.slice A 4 c0] w fun e' w' => e' = .returned (.agg #[.int .i64 a, .int .i64 b, .int .i64 c, .int .i64 d]) ∧ Below w.heap.size w w' := by
  obtain ⟨bl, off, rfl, hb, hc⟩ := h.2 (by decide)
  have k0 : w.cell? ⟨bl, off, none⟩ = some (.int .i64 a) := hc 0 _ rfl
  have k1 : w.cell? ⟨bl, off + 1, none⟩ = some (.int .i64 b) := hc 1 _ rfl
  have k2 : w.cell? ⟨bl, off + 2, none⟩ = some (.int .i64 c) := hc 2 _ rfl
  have k3 : w.cell? ⟨bl, off + 3, none⟩ = some (.int .i64 d) := hc 3 _ rfl
  clear hc h
  go_enter Tryd.func54, Tryd.ntmps54
  go_wp2_with fail
  go_region
  all_goals
    go_wp2_with fail
    go_returns
    refine ⟨rfl, ?_⟩
    go_grown
set_option maxRecDepth 100000 in
theorem ReadFoot_any (s : ByteArray) (hs : s.size ≤ 1048576) (w : World) (hp : SpAt w) :
    Calls Tryd.prog 18 #[.string s] w fun e w' => e = .returned (.tuple #[.agg #[.int .i64 (rv (rdFoot s.data.toList) s.data.toList 0), .int .i64 (rv (rdFoot s.data.toList) s.data.toList 1), .int .i64 (rv (rdFoot s.data.toList) s.data.toList 2), .int .i64 (rv (rdFoot s.data.toList) s.data.toList 3)], .bool (rdFoot s.data.toList)]) ∧ Below w.heap.size w w' := by
  go_enter Tryd.func18, Tryd.ntmps18
  go_wp2_with fail
  refine (readNumbers_any s 4 (by omega) hs _ (hp.below (Bl.alloc (Below.refl _ _) _))).mono ?_
  rintro e w1 ⟨H1, hcase⟩
  have BZ := (Blk.new w 25 #[.int .i64 0, .int .i64 0, .int .i64 0, .int .i64 0]).below H1
  have HW : Below w.heap.size w w1 := Bl.then (by go_grown) H1
  clear H1
  have z0 : w1.cell? ⟨w.heap.size, 0, none⟩ = some (.int .i64 0) := BZ.cell 0
  have z1 : w1.cell? ⟨w.heap.size, 1, none⟩ = some (.int .i64 0) := BZ.cell 1
  have z2 : w1.cell? ⟨w.heap.size, 2, none⟩ = some (.int .i64 0) := BZ.cell 2
  have z3 : w1.cell? ⟨w.heap.size, 3, none⟩ = some (.int .i64 0) := BZ.cell 3
  have fz := BZ.frozen
  have lz := BZ.lt
  rcases hcase with ⟨hg, A, c, rfl, hR⟩ | ⟨hng, rfl⟩
  · have hl := Lib.hid (list4 (good_len hg))
    rw [hl.out] at hR
    have hj := Lib.hid (good_join hg)
    have hgood := Lib.hid hg
    clear hg
    generalize hm0 : ix (numsOf s.data.toList) 0 = m0 at *
    generalize hm1 : ix (numsOf s.data.toList) 1 = m1 at *
    generalize hm2 : ix (numsOf s.data.toList) 2 = m2 at *
    generalize hm3 : ix (numsOf s.data.toList) 3 = m3 at *
    have hl2 := Lib.hid (show [m0, m1, m2, m3] = numsOf s.data.toList by rw [hl.out])
    clear hl
    cases hok : footOk m0 m1 m2 m3
    · have hq2 : ((footTx m0 m1 m2 m3).toList == s.toList) = false := by
        rw [eq_ba]
        apply decide_eq_false
        rw [footTx, hok]
        exact fun e => good_ne hgood.out (by omega) e.symm
      have hno := Lib.hid (show rdFoot s.data.toList = false from rdFoot_no fun h => by have h2 := h.2; rw [hm0, hm1, hm2, hm3, hok] at h2; cases h2)
      go_wp2_with fail
      refine (rfootOf_any _ _ _ _ _ _ _ hR).mono ?_
      rintro e w2 ⟨rfl, hb2⟩
      replace hR := hR.below hb2
      clear z0 z1 z2 z3 fz lz
      replace BZ := BZ.below hb2
      replace HW := Bl.then HW hb2
      have z0 : w2.cell? ⟨w.heap.size, 0, none⟩ = some (.int .i64 0) := BZ.cell 0
      have z1 : w2.cell? ⟨w.heap.size, 1, none⟩ = some (.int .i64 0) := BZ.cell 1
      have z2 : w2.cell? ⟨w.heap.size, 2, none⟩ = some (.int .i64 0) := BZ.cell 2
      have z3 : w2.cell? ⟨w.heap.size, 3, none⟩ = some (.int .i64 0) := BZ.cell 3
      have fz := BZ.frozen
      have lz := BZ.lt
      go_wp2_with fail
      refine (FootText_any _ _ _ _ _ ((hp.below HW).pow)).mono ?_
      rintro e w3 ⟨rfl, hb3⟩
      replace hR := hR.below hb3
      clear z0 z1 z2 z3 fz lz
      replace BZ := BZ.below hb3
      replace HW := Bl.then HW hb3
      have z0 : w3.cell? ⟨w.heap.size, 0, none⟩ = some (.int .i64 0) := BZ.cell 0
      have z1 : w3.cell? ⟨w.heap.size, 1, none⟩ = some (.int .i64 0) := BZ.cell 1
      have z2 : w3.cell? ⟨w.heap.size, 2, none⟩ = some (.int .i64 0) := BZ.cell 2
      have z3 : w3.cell? ⟨w.heap.size, 3, none⟩ = some (.int .i64 0) := BZ.cell 3
      have fz := BZ.frozen
      have lz := BZ.lt
      go_wp2_with fail
      refine bodyPost_ret (v := .tuple #[.agg #[.int .i64 0, .int .i64 0, .int .i64 0, .int .i64 0], .bool false]) (by simp [results, Tryd.results18, go_sem, z0, z1, z2, z3]) rfl ?_
      exact ⟨by rw [hno.out]; rfl, ((((HW.setCell (Nat.le_refl _) _).setCell (Nat.le_refl _) _).setCell (Nat.le_refl _) _).setCell (Nat.le_refl _) _)⟩
    · have hq2 : ((footTx m0 m1 m2 m3).toList == s.toList) = true := by
        rw [eq_ba]
        apply decide_eq_true
        rw [footTx, hok]
        show (joinT [m0, m1, m2, m3]).data.toList = _
        rw [hl2.out, hj.out, toBA_list]
      have hyes := Lib.hid (show rdFoot s.data.toList = true from rdFoot_yes hgood.out (by rw [hm0, hm1, hm2, hm3]; exact hok))
      go_wp2_with fail
      refine (rfootOf_any _ _ _ _ _ _ _ hR).mono ?_
      rintro e w2 ⟨rfl, hb2⟩
      replace hR := hR.below hb2
      clear z0 z1 z2 z3 fz lz
      replace BZ := BZ.below hb2
      replace HW := Bl.then HW hb2
      have z0 : w2.cell? ⟨w.heap.size, 0, none⟩ = some (.int .i64 0) := BZ.cell 0
      have z1 : w2.cell? ⟨w.heap.size, 1, none⟩ = some (.int .i64 0) := BZ.cell 1
      have z2 : w2.cell? ⟨w.heap.size, 2, none⟩ = some (.int .i64 0) := BZ.cell 2
      have z3 : w2.cell? ⟨w.heap.size, 3, none⟩ = some (.int .i64 0) := BZ.cell 3
      have fz := BZ.frozen
      have lz := BZ.lt
      go_wp2_with fail
      refine (FootText_any _ _ _ _ _ ((hp.below HW).pow)).mono ?_
      rintro e w3 ⟨rfl, hb3⟩
      replace hR := hR.below hb3
      clear z0 z1 z2 z3 fz lz
      replace BZ := BZ.below hb3
      replace HW := Bl.then HW hb3
      have z0 : w3.cell? ⟨w.heap.size, 0, none⟩ = some (.int .i64 0) := BZ.cell 0
      have z1 : w3.cell? ⟨w.heap.size, 1, none⟩ = some (.int .i64 0) := BZ.cell 1
      have z2 : w3.cell? ⟨w.heap.size, 2, none⟩ = some (.int .i64 0) := BZ.cell 2
      have z3 : w3.cell? ⟨w.heap.size, 3, none⟩ = some (.int .i64 0) := BZ.cell 3
      have fz := BZ.frozen
      have lz := BZ.lt
      go_wp2_with fail
      refine (rfootOf_any _ _ _ _ _ _ _ hR).mono ?_
      rintro e w4 ⟨rfl, hb4⟩
      clear z0 z1 z2 z3 fz lz
      replace BZ := BZ.below hb4
      replace HW := Bl.then HW hb4
      have z0 : w4.cell? ⟨w.heap.size, 0, none⟩ = some (.int .i64 0) := BZ.cell 0
      have z1 : w4.cell? ⟨w.heap.size, 1, none⟩ = some (.int .i64 0) := BZ.cell 1
      have z2 : w4.cell? ⟨w.heap.size, 2, none⟩ = some (.int .i64 0) := BZ.cell 2
      have z3 : w4.cell? ⟨w.heap.size, 3, none⟩ = some (.int .i64 0) := BZ.cell 3
      have fz := BZ.frozen
      have lz := BZ.lt
      go_wp2_with fail
      refine bodyPost_ret (v := .tuple #[.agg #[.int .i64 m0, .int .i64 m1, .int .i64 m2, .int .i64 m3], .bool true]) (by simp [results, Tryd.results18, go_sem, z0, z1, z2, z3]) rfl ?_
      exact ⟨by rw [hyes.out]; simp only [rv, if_true, hm0, hm1, hm2, hm3], ((((HW.setCell (Nat.le_refl _) _).setCell (Nat.le_refl _) _).setCell (Nat.le_refl _) _).setCell (Nat.le_refl _) _)⟩
  · have hno := Lib.hid (show rdFoot s.data.toList = false from rdFoot_no fun h => hng h.1)
    clear hng
    go_wp2_with fail
    refine bodyPost_ret (v := .tuple #[.agg #[.int .i64 0, .int .i64 0, .int .i64 0, .int .i64 0], .bool false]) (by simp [results, Tryd.results18, go_sem, z0, z1, z2, z3]) rfl ?_
    exact ⟨by rw [hno.out]; rfl, ((((HW.setCell (Nat.le_refl _) _).setCell (Nat.le_refl _) _).setCell (Nat.le_refl _) _).setCell (Nat.le_refl _) _)⟩
set_option maxRecDepth 100000 in
theorem sReadFoot_any (s : ByteArray) (hs : s.size ≤ 1048576) (w : World) :
    Calls Tryd.prog 17 #[.string s] w fun e w' => e = .returned (.tuple #[.agg #[.int .i64 (rv (rdFoot s.data.toList) s.data.toList 0), .int .i64 (rv (rdFoot s.data.toList) s.data.toList 1), .int .i64 (rv (rdFoot s.data.toList) s.data.toList 2), .int .i64 (rv (rdFoot s.data.toList) s.data.toList 3)], .bool (rdFoot s.data.toList)]) ∧ Below w.heap.size w w' := by
  have hsl := Lib.hid (size_list s)
  go_enter Tryd.func17, Tryd.ntmps17
  go_wp2_with fail
  refine (l01Split_at s 47 47 (by decide) hs _).mono ?_
  rintro e w1 ⟨g, cc, rfl, ho1, H1⟩
  have BZ := (Blk.new w 25 #[.int .i64 0, .int .i64 0, .int .i64 0, .int .i64 0]).below H1
  have HW : Below w.heap.size w w1 := Bl.then (by go_grown) H1
  clear H1
  have z0 : w1.cell? ⟨w.heap.size, 0, none⟩ = some (.int .i64 0) := BZ.cell 0
  have z1 : w1.cell? ⟨w.heap.size, 1, none⟩ = some (.int .i64 0) := BZ.cell 1
  have z2 : w1.cell? ⟨w.heap.size, 2, none⟩ = some (.int .i64 0) := BZ.cell 2
  have z3 : w1.cell? ⟨w.heap.size, 3, none⟩ = some (.int .i64 0) := BZ.cell 3
  have fz := BZ.frozen
  have lz := BZ.lt
  have hR := Rd.of_own ho1
  clear ho1
  have hpl := Lib.hid (fun (k : Nat) (hk : k < (splitL 47 s.data.toList).length) => (show ((splitL 47 s.data.toList)[k]'hk).length ≤ 1048576 from by
    have := part_len (c := 47) (l := s.data.toList) (p := (splitL 47 s.data.toList)[k]'hk) (List.getElem_mem _)
    rw [hsl.out] at this; omega))
  have hlen : (splitL 47 s.data.toList).length = 4 ∨ ¬ ((splitL 47 s.data.toList).length = 4) := by omega
  rcases hlen with hlen | hlen
  rotate_left
  · have hno := Lib.hid (show rdFoot s.data.toList = false from rdFoot_no fun h => hlen h.1.1)
    have hl2 : ¬ (((splitL 47 s.data.toList).length : Int) = 4) := by omega
    go_wp2_with fail
    refine bodyPost_ret (v := .tuple #[.agg #[.int .i64 0, .int .i64 0, .int .i64 0, .int .i64 0], .bool false]) (by simp [results, Tryd.results17, go_sem, z0, z1, z2, z3]) rfl ?_
    exact ⟨by rw [hno.out]; rfl, ((((HW.setCell (Nat.le_refl _) _).setCell (Nat.le_refl _) _).setCell (Nat.le_refl _) _).setCell (Nat.le_refl _) _)⟩
  have hlen' := Lib.hid hlen
  rw [hlen] at hR ⊢
  clear hlen
  have HO := own_lit (W := w1) (cs := #[]) (e := 2) (size := 1) (n := 0) (xs := ints []) rfl (Nat.le_refl w1.heap.size) (by decide) rfl rfl
  have HB : Below w1.heap.size w1 (w1.alloc (.cells #[] 2)) := Bl.alloc (Below.refl _ _) _
  go_wp2_with fail
  go_loopw [5, 6] (fun o i wr => ∃ (A : Option Addr) (c k : Nat), k ≤ 4 ∧ o = .slice A k c ∧ i = .int .i64 k ∧ Hid (∀ (j : Nat) (hj : j < (splitL 47 s.data.toList).length), j < k → IsNum (splitL 47 s.data.toList)[j] (nval (splitL 47 s.data.toList)[j])) ∧ wr.ownsRow w1.heap.size 2 1 (.slice A k c) k (ints ((numsOf s.data.toList).take k)) ∧ Below w1.heap.size w1 wr) (fun _ i _ => 4 - (intOf i).toNat)
  case atStart => exact ⟨_, _, 0, by omega, rfl, rfl, Lib.hid (fun j hj h0 => by omega), by rw [List.take_zero]; exact HO, HB⟩
  case round =>
    obtain ⟨A, c, k, hk, rfl, rfl, hgd, ho, hb⟩ := hrel
    by_cases hlt : k < 4
    · have hkl : k < (splitL 47 s.data.toList).length := by have := hlen'.out; omega
      obtain ⟨b, off, eA, hbl, hcells⟩ := (hR.below hb).at_ (by omega)
      simp only [Option.some.injEq, Addr.mk.injEq, and_true] at eA
      obtain ⟨e1, e2⟩ := eA
      subst e2; subst e1
      have hcell := hcells k (.string ⟨((splitL 47 s.data.toList)[k]'hkl).toArray⟩) (by simp [partVs, strVs, toBA, hkl])
      rw [Nat.zero_add] at hcell
      clear hcells
      have hrd := fun (W : World) => l01Number_l ((splitL 47 s.data.toList)[k]'hkl) (hpl.out k hkl) W
      generalize hP : (splitL 47 s.data.toList)[k]'hkl = P at *
      have hP' := Lib.hid hP
      clear hP
      rcases numR_cases P with ⟨v, hn, hv⟩ | ⟨hn, hv⟩
      · have hnx := Lib.hid (show ∀ (j : Nat) (hj : j < (splitL 47 s.data.toList).length), j < k + 1 → IsNum (splitL 47 s.data.toList)[j] (nval (splitL 47 s.data.toList)[j]) from fun j hj h => by
          by_cases e : j = k
          · subst e; rw [hP'.out, hn.val]; exact hn
          · exact hgd.out j hj (by omega))
        have htk := Lib.hid (show (numsOf s.data.toList).take k ++ [v] = (numsOf s.data.toList).take (k + 1) by
          unfold numsOf
          have hkm : k < ((splitL 47 s.data.toList).map nval).length := by rw [List.length_map]; exact hkl
          rw [← List.take_append_getElem hkm, List.getElem_map, hP'.out, hn.val])
        rw [hv] at hrd
        clear hn hv
        go_wp2_with fail
        refine (hrd _).mono ?_
        rintro e w5 ⟨rfl, hb5⟩
        have ho5 := own_below ho hb5
        have HB5 := Bl.then hb hb5
        go_wp2_with (at_builtin; refine wpList_app_int w5 rfl _ _ rfl w1.heap.size A k c _ v rfl ho5 rfl HB5.size (by omega) ?_; intro A6 c6 w6 ho6 hg6)
        go_roundw
        case rel =>
          rw [htk.out] at ho6
          exact ⟨A6, c6, k + 1, by omega, rfl, by go_num, hnx, ho6, app_below ho5 HB5 (Nat.le_refl _) HB5.size hg6⟩
        case measure => simp [intOf]; omega
      · have hng := Lib.hid (show ¬ Good 4 s.data.toList from fun hg => hn _ (hg.2 P (by rw [← hP'.out]; exact List.getElem_mem _)))
        have hno := Lib.hid (show rdFoot s.data.toList = false from rdFoot_no fun h => hng.out h.1)
        rw [hv] at hrd
        clear hn hv
        go_wp2_with fail
        refine (hrd _).mono ?_
        rintro e w5 ⟨rfl, hb5⟩
        have HB5 := Bl.then hb hb5
        clear z0 z1 z2 z3 fz lz
        replace BZ := BZ.below HB5
        replace HW := Bl.then HW HB5
        have z0 : w5.cell? ⟨w.heap.size, 0, none⟩ = some (.int .i64 0) := BZ.cell 0
        have z1 : w5.cell? ⟨w.heap.size, 1, none⟩ = some (.int .i64 0) := BZ.cell 1
        have z2 : w5.cell? ⟨w.heap.size, 2, none⟩ = some (.int .i64 0) := BZ.cell 2
        have z3 : w5.cell? ⟨w.heap.size, 3, none⟩ = some (.int .i64 0) := BZ.cell 3
        have fz := BZ.frozen
        have lz := BZ.lt
        go_wp2_with fail
        refine bodyPost_ret (v := .tuple #[.agg #[.int .i64 0, .int .i64 0, .int .i64 0, .int .i64 0], .bool false]) (by simp [results, Tryd.results17, go_sem, z0, z1, z2, z3]) rfl ?_
        exact ⟨by rw [hno.out]; rfl, ((((HW.setCell (Nat.le_refl _) _).setCell (Nat.le_refl _) _).setCell (Nat.le_refl _) _).setCell (Nat.le_refl _) _)⟩
    · obtain rfl : k = 4 := by omega
      have hg := show Good 4 s.data.toList from ⟨hlen'.out, fun p hp => by
        obtain ⟨j, hj, rfl⟩ := List.getElem_of_mem hp
        exact hgd.out j hj (by rw [← hlen'.out]; exact hj)⟩
      rw [List.take_of_length_le (by rw [good_len hg]; exact Nat.le_refl _)] at ho
      have hR2 := Rd.of_own ho
      clear ho hR
      clear z0 z1 z2 z3 fz lz
      replace BZ := BZ.below hb
      replace HW := Bl.then HW hb
      have z0 := BZ.cell 0
      have z1 := BZ.cell 1
      have z2 := BZ.cell 2
      have z3 := BZ.cell 3
      have fz := BZ.frozen
      have lz := BZ.lt
      have hl := Lib.hid (list4 (good_len hg))
      rw [hl.out] at hR2
      have hgood := Lib.hid hg
      clear hg
      generalize hm0 : ix (numsOf s.data.toList) 0 = m0 at *
      generalize hm1 : ix (numsOf s.data.toList) 1 = m1 at *
      generalize hm2 : ix (numsOf s.data.toList) 2 = m2 at *
      generalize hm3 : ix (numsOf s.data.toList) 3 = m3 at *
      cases hok : footOk m0 m1 m2 m3
      · have hno := Lib.hid (show rdFoot s.data.toList = false from rdFoot_no fun h => by have h2 := h.2; rw [hm0, hm1, hm2, hm3, hok] at h2; cases h2)
        go_wp2_with fail
        refine (rl02Of_any _ _ _ _ _ _ _ hR2).mono ?_
        rintro e w6 ⟨rfl, hb6⟩
        replace hR2 := hR2.below hb6
        clear z0 z1 z2 z3 fz lz
        replace BZ := BZ.below hb6
        replace HW := Bl.then HW hb6
        have z0 : w6.cell? ⟨w.heap.size, 0, none⟩ = some (.int .i64 0) := BZ.cell 0
        have z1 : w6.cell? ⟨w.heap.size, 1, none⟩ = some (.int .i64 0) := BZ.cell 1
        have z2 : w6.cell? ⟨w.heap.size, 2, none⟩ = some (.int .i64 0) := BZ.cell 2
        have z3 : w6.cell? ⟨w.heap.size, 3, none⟩ = some (.int .i64 0) := BZ.cell 3
        have fz := BZ.frozen
        have lz := BZ.lt
        go_wp2_with fail
        refine (l02Foot_any _ _ _ _ _).mono ?_
        rintro e w7 ⟨rfl, hb7⟩
        replace hR2 := hR2.below hb7
        clear z0 z1 z2 z3 fz lz
        replace BZ := BZ.below hb7
        replace HW := Bl.then HW hb7
        have z0 : w7.cell? ⟨w.heap.size, 0, none⟩ = some (.int .i64 0) := BZ.cell 0
        have z1 : w7.cell? ⟨w.heap.size, 1, none⟩ = some (.int .i64 0) := BZ.cell 1
        have z2 : w7.cell? ⟨w.heap.size, 2, none⟩ = some (.int .i64 0) := BZ.cell 2
        have z3 : w7.cell? ⟨w.heap.size, 3, none⟩ = some (.int .i64 0) := BZ.cell 3
        have fz := BZ.frozen
        have lz := BZ.lt
        go_wp2_with fail
        refine bodyPost_ret (v := .tuple #[.agg #[.int .i64 0, .int .i64 0, .int .i64 0, .int .i64 0], .bool false]) (by simp [results, Tryd.results17, go_sem, z0, z1, z2, z3]) rfl ?_
        exact ⟨by rw [hno.out]; rfl, ((((HW.setCell (Nat.le_refl _) _).setCell (Nat.le_refl _) _).setCell (Nat.le_refl _) _).setCell (Nat.le_refl _) _)⟩
      · have hyes := Lib.hid (show rdFoot s.data.toList = true from rdFoot_yes hgood.out (by rw [hm0, hm1, hm2, hm3]; exact hok))
        go_wp2_with fail
        refine (rl02Of_any _ _ _ _ _ _ _ hR2).mono ?_
        rintro e w6 ⟨rfl, hb6⟩
        replace hR2 := hR2.below hb6
        clear z0 z1 z2 z3 fz lz
        replace BZ := BZ.below hb6
        replace HW := Bl.then HW hb6
        have z0 : w6.cell? ⟨w.heap.size, 0, none⟩ = some (.int .i64 0) := BZ.cell 0
        have z1 : w6.cell? ⟨w.heap.size, 1, none⟩ = some (.int .i64 0) := BZ.cell 1
        have z2 : w6.cell? ⟨w.heap.size, 2, none⟩ = some (.int .i64 0) := BZ.cell 2
        have z3 : w6.cell? ⟨w.heap.size, 3, none⟩ = some (.int .i64 0) := BZ.cell 3
        have fz := BZ.frozen
        have lz := BZ.lt
        go_wp2_with fail
        refine (l02Foot_any _ _ _ _ _).mono ?_
        rintro e w7 ⟨rfl, hb7⟩
        replace hR2 := hR2.below hb7
        clear z0 z1 z2 z3 fz lz
        replace BZ := BZ.below hb7
        replace HW := Bl.then HW hb7
        have z0 : w7.cell? ⟨w.heap.size, 0, none⟩ = some (.int .i64 0) := BZ.cell 0
        have z1 : w7.cell? ⟨w.heap.size, 1, none⟩ = some (.int .i64 0) := BZ.cell 1
        have z2 : w7.cell? ⟨w.heap.size, 2, none⟩ = some (.int .i64 0) := BZ.cell 2
        have z3 : w7.cell? ⟨w.heap.size, 3, none⟩ = some (.int .i64 0) := BZ.cell 3
        have fz := BZ.frozen
        have lz := BZ.lt
        go_wp2_with fail
        refine (rl02Of_any _ _ _ _ _ _ _ hR2).mono ?_
        rintro e w8 ⟨rfl, hb8⟩
        clear z0 z1 z2 z3 fz lz
        replace BZ := BZ.below hb8
        replace HW := Bl.then HW hb8
        have z0 : w8.cell? ⟨w.heap.size, 0, none⟩ = some (.int .i64 0) := BZ.cell 0
        have z1 : w8.cell? ⟨w.heap.size, 1, none⟩ = some (.int .i64 0) := BZ.cell 1
        have z2 : w8.cell? ⟨w.heap.size, 2, none⟩ = some (.int .i64 0) := BZ.cell 2
        have z3 : w8.cell? ⟨w.heap.size, 3, none⟩ = some (.int .i64 0) := BZ.cell 3
        have fz := BZ.frozen
        have lz := BZ.lt
        go_wp2_with fail
        refine bodyPost_ret (v := .tuple #[.agg #[.int .i64 m0, .int .i64 m1, .int .i64 m2, .int .i64 m3], .bool true]) (by simp [results, Tryd.results17, go_sem, z0, z1, z2, z3]) rfl ?_
        exact ⟨by rw [hyes.out]; simp only [rv, if_true, hm0, hm1, hm2, hm3], ((((HW.setCell (Nat.le_refl _) _).setCell (Nat.le_refl _) _).setCell (Nat.le_refl _) _).setCell (Nat.le_refl _) _)⟩
noncomputable def rdGrade (l : List UInt8) : Bool := @decide (Good 5 l ∧ gradeOk (ix (numsOf l) 0) (ix (numsOf l) 1) (ix (numsOf l) 2) (ix (numsOf l) 3) (ix (numsOf l) 4) = true) (Classical.propDecidable _)
theorem rdGrade_yes {l : List UInt8} (h : Good 5 l) (hk : gradeOk (ix (numsOf l) 0) (ix (numsOf l) 1) (ix (numsOf l) 2) (ix (numsOf l) 3) (ix (numsOf l) 4) = true) : rdGrade l = true := @decide_eq_true _ (Classical.propDecidable _) ⟨h, hk⟩
theorem rdGrade_no {l : List UInt8} (h : ¬ (Good 5 l ∧ gradeOk (ix (numsOf l) 0) (ix (numsOf l) 1) (ix (numsOf l) 2) (ix (numsOf l) 3) (ix (numsOf l) 4) = true)) : rdGrade l = false := @decide_eq_false _ (Classical.propDecidable _) h
theorem rgradeOf_any (A : Option Addr) (c0 : Nat) (a b c d f : Int) (w : World) (h : Rd w 1 A 5 (ints [a, b, c, d, f])) :
    Calls Tryd.prog 81 #[.slice A 5 c0] w fun e' w' => e' = .returned (.agg #[.int .i64 a, .int .i64 b, .int .i64 c, .int .i64 d, .int .i64 f]) ∧ Below w.heap.size w w' := by
  obtain ⟨bl, off, rfl, hb, hc⟩ := h.2 (by decide)
  have k0 : w.cell? ⟨bl, off, none⟩ = some (.int .i64 a) := hc 0 _ rfl
  have k1 : w.cell? ⟨bl, off + 1, none⟩ = some (.int .i64 b) := hc 1 _ rfl
  have k2 : w.cell? ⟨bl, off + 2, none⟩ = some (.int .i64 c) := hc 2 _ rfl
  have k3 : w.cell? ⟨bl, off + 3, none⟩ = some (.int .i64 d) := hc 3 _ rfl
  have k4 : w.cell? ⟨bl, off + 4, none⟩ = some (.int .i64 f) := hc 4 _ rfl
  clear hc h
  go_enter Tryd.func81, Tryd.ntmps81
  go_wp2_with fail
  go_region
  all_goals
    go_wp2_with fail
    go_returns
    refine ⟨rfl, ?_⟩
    go_grown
set_option maxRecDepth 100000 in
theorem ReadGrade_any (s : ByteArray) (hs : s.size ≤ 1048576) (w : World) (hp : SpAt w) :
    Calls Tryd.prog 44 #[.string s] w fun e w' => e = .returned (.tuple #[.agg #[.int .i64 (rv (rdGrade s.data.toList) s.data.toList 0), .int .i64 (rv (rdGrade s.data.toList) s.data.toList 1), .int .i64 (rv (rdGrade s.data.toList) s.data.toList 2), .int .i64 (rv (rdGrade s.data.toList) s.data.toList 3), .int .i64 (rv (rdGrade s.data.toList) s.data.toList 4)], .bool (rdGrade s.data.toList)]) ∧ Below w.heap.size w w' := by
  go_enter Tryd.func44, Tryd.ntmps44
  go_wp2_with fail
  refine (readNumbers_any s 5 (by omega) hs _ (hp.below (Bl.alloc (Below.refl _ _) _))).mono ?_
  rintro e w1 ⟨H1, hcase⟩
  have BZ := (Blk.new w 41 #[.int .i64 0, .int .i64 0, .int .i64 0, .int .i64 0, .int .i64 0]).below H1
  have HW : Below w.heap.size w w1 := Bl.then (by go_grown) H1
  clear H1
  have z0 : w1.cell? ⟨w.heap.size, 0, none⟩ = some (.int .i64 0) := BZ.cell 0
  have z1 : w1.cell? ⟨w.heap.size, 1, none⟩ = some (.int .i64 0) := BZ.cell 1
  have z2 : w1.cell? ⟨w.heap.size, 2, none⟩ = some (.int .i64 0) := BZ.cell 2
  have z3 : w1.cell? ⟨w.heap.size, 3, none⟩ = some (.int .i64 0) := BZ.cell 3
  have z4 : w1.cell? ⟨w.heap.size, 4, none⟩ = some (.int .i64 0) := BZ.cell 4
  have fz := BZ.frozen
  have lz := BZ.lt
  rcases hcase with ⟨hg, A, c, rfl, hR⟩ | ⟨hng, rfl⟩
  · have hl := Lib.hid (list5 (good_len hg))
    rw [hl.out] at hR
    have hj := Lib.hid (good_join hg)
    have hgood := Lib.hid hg
    clear hg
    generalize hm0 : ix (numsOf s.data.toList) 0 = m0 at *
    generalize hm1 : ix (numsOf s.data.toList) 1 = m1 at *
    generalize hm2 : ix (numsOf s.data.toList) 2 = m2 at *
    generalize hm3 : ix (numsOf s.data.toList) 3 = m3 at *
    generalize hm4 : ix (numsOf s.data.toList) 4 = m4 at *
    have hl2 := Lib.hid (show [m0, m1, m2, m3, m4] = numsOf s.data.toList by rw [hl.out])
    clear hl
    cases hok : gradeOk m0 m1 m2 m3 m4
    · have hq2 : ((gradeTx m0 m1 m2 m3 m4).toList == s.toList) = false := by
        rw [eq_ba]
        apply decide_eq_false
        rw [gradeTx, hok]
        exact fun e => good_ne hgood.out (by omega) e.symm
      have hno := Lib.hid (show rdGrade s.data.toList = false from rdGrade_no fun h => by have h2 := h.2; rw [hm0, hm1, hm2, hm3, hm4, hok] at h2; cases h2)
      go_wp2_with fail
      refine (rgradeOf_any _ _ _ _ _ _ _ _ hR).mono ?_
      rintro e w2 ⟨rfl, hb2⟩
      replace hR := hR.below hb2
      clear z0 z1 z2 z3 z4 fz lz
      replace BZ := BZ.below hb2
      replace HW := Bl.then HW hb2
      have z0 : w2.cell? ⟨w.heap.size, 0, none⟩ = some (.int .i64 0) := BZ.cell 0
      have z1 : w2.cell? ⟨w.heap.size, 1, none⟩ = some (.int .i64 0) := BZ.cell 1
      have z2 : w2.cell? ⟨w.heap.size, 2, none⟩ = some (.int .i64 0) := BZ.cell 2
      have z3 : w2.cell? ⟨w.heap.size, 3, none⟩ = some (.int .i64 0) := BZ.cell 3
      have z4 : w2.cell? ⟨w.heap.size, 4, none⟩ = some (.int .i64 0) := BZ.cell 4
      have fz := BZ.frozen
      have lz := BZ.lt
      go_wp2_with fail
      refine (GradeText_any _ _ _ _ _ _ ((hp.below HW).pow)).mono ?_
      rintro e w3 ⟨rfl, hb3⟩
      replace hR := hR.below hb3
      clear z0 z1 z2 z3 z4 fz lz
      replace BZ := BZ.below hb3
      replace HW := Bl.then HW hb3
      have z0 : w3.cell? ⟨w.heap.size, 0, none⟩ = some (.int .i64 0) := BZ.cell 0
      have z1 : w3.cell? ⟨w.heap.size, 1, none⟩ = some (.int .i64 0) := BZ.cell 1
      have z2 : w3.cell? ⟨w.heap.size, 2, none⟩ = some (.int .i64 0) := BZ.cell 2
      have z3 : w3.cell? ⟨w.heap.size, 3, none⟩ = some (.int .i64 0) := BZ.cell 3
      have z4 : w3.cell? ⟨w.heap.size, 4, none⟩ = some (.int .i64 0) := BZ.cell 4
      have fz := BZ.frozen
      have lz := BZ.lt
      go_wp2_with fail
      refine bodyPost_ret (v := .tuple #[.agg #[.int .i64 0, .int .i64 0, .int .i64 0, .int .i64 0, .int .i64 0], .bool false]) (by simp [results, Tryd.results44, go_sem, z0, z1, z2, z3, z4]) rfl ?_
      exact ⟨by rw [hno.out]; rfl, (((((HW.setCell (Nat.le_refl _) _).setCell (Nat.le_refl _) _).setCell (Nat.le_refl _) _).setCell (Nat.le_refl _) _).setCell (Nat.le_refl _) _)⟩
    · have hq2 : ((gradeTx m0 m1 m2 m3 m4).toList == s.toList) = true := by
        rw [eq_ba]
        apply decide_eq_true
        rw [gradeTx, hok]
        show (joinT [m0, m1, m2, m3, m4]).data.toList = _
        rw [hl2.out, hj.out, toBA_list]
      have hyes := Lib.hid (show rdGrade s.data.toList = true from rdGrade_yes hgood.out (by rw [hm0, hm1, hm2, hm3, hm4]; exact hok))
      go_wp2_with fail
      refine (rgradeOf_any _ _ _ _ _ _ _ _ hR).mono ?_
      rintro e w2 ⟨rfl, hb2⟩
      replace hR := hR.below hb2
      clear z0 z1 z2 z3 z4 fz lz
      replace BZ := BZ.below hb2
      replace HW := Bl.then HW hb2
      have z0 : w2.cell? ⟨w.heap.size, 0, none⟩ = some (.int .i64 0) := BZ.cell 0
      have z1 : w2.cell? ⟨w.heap.size, 1, none⟩ = some (.int .i64 0) := BZ.cell 1
      have z2 : w2.cell? ⟨w.heap.size, 2, none⟩ = some (.int .i64 0) := BZ.cell 2
      have z3 : w2.cell? ⟨w.heap.size, 3, none⟩ = some (.int .i64 0) := BZ.cell 3
      have z4 : w2.cell? ⟨w.heap.size, 4, none⟩ = some (.int .i64 0) := BZ.cell 4
      have fz := BZ.frozen
      have lz := BZ.lt
      go_wp2_with fail
      refine (GradeText_any _ _ _ _ _ _ ((hp.below HW).pow)).mono ?_
      rintro e w3 ⟨rfl, hb3⟩
      replace hR := hR.below hb3
      clear z0 z1 z2 z3 z4 fz lz
      replace BZ := BZ.below hb3
      replace HW := Bl.then HW hb3
      have z0 : w3.cell? ⟨w.heap.size, 0, none⟩ = some (.int .i64 0) := BZ.cell 0
      have z1 : w3.cell? ⟨w.heap.size, 1, none⟩ = some (.int .i64 0) := BZ.cell 1
      have z2 : w3.cell? ⟨w.heap.size, 2, none⟩ = some (.int .i64 0) := BZ.cell 2
      have z3 : w3.cell? ⟨w.heap.size, 3, none⟩ = some (.int .i64 0) := BZ.cell 3
      have z4 : w3.cell? ⟨w.heap.size, 4, none⟩ = some (.int .i64 0) := BZ.cell 4
      have fz := BZ.frozen
      have lz := BZ.lt
      go_wp2_with fail
      refine (rgradeOf_any _ _ _ _ _ _ _ _ hR).mono ?_
      rintro e w4 ⟨rfl, hb4⟩
      clear z0 z1 z2 z3 z4 fz lz
      replace BZ := BZ.below hb4
      replace HW := Bl.then HW hb4
      have z0 : w4.cell? ⟨w.heap.size, 0, none⟩ = some (.int .i64 0) := BZ.cell 0
      have z1 : w4.cell? ⟨w.heap.size, 1, none⟩ = some (.int .i64 0) := BZ.cell 1
      have z2 : w4.cell? ⟨w.heap.size, 2, none⟩ = some (.int .i64 0) := BZ.cell 2
      have z3 : w4.cell? ⟨w.heap.size, 3, none⟩ = some (.int .i64 0) := BZ.cell 3
      have z4 : w4.cell? ⟨w.heap.size, 4, none⟩ = some (.int .i64 0) := BZ.cell 4
      have fz := BZ.frozen
      have lz := BZ.lt
      go_wp2_with fail
      refine bodyPost_ret (v := .tuple #[.agg #[.int .i64 m0, .int .i64 m1, .int .i64 m2, .int .i64 m3, .int .i64 m4], .bool true]) (by simp [results, Tryd.results44, go_sem, z0, z1, z2, z3, z4]) rfl ?_
      exact ⟨by rw [hyes.out]; simp only [rv, if_true, hm0, hm1, hm2, hm3, hm4], (((((HW.setCell (Nat.le_refl _) _).setCell (Nat.le_refl _) _).setCell (Nat.le_refl _) _).setCell (Nat.le_refl _) _).setCell (Nat.le_refl _) _)⟩
  · have hno := Lib.hid (show rdGrade s.data.toList = false from rdGrade_no fun h => hng h.1)
    clear hng
    go_wp2_with fail
    refine bodyPost_ret (v := .tuple #[.agg #[.int .i64 0, .int .i64 0, .int .i64 0, .int .i64 0, .int .i64 0], .bool false]) (by simp [results, Tryd.results44, go_sem, z0, z1, z2, z3, z4]) rfl ?_
    exact ⟨by rw [hno.out]; rfl, (((((HW.setCell (Nat.le_refl _) _).setCell (Nat.le_refl _) _).setCell (Nat.le_refl _) _).setCell (Nat.le_refl _) _).setCell (Nat.le_refl _) _)⟩
set_option maxRecDepth 100000 in
theorem sReadGrade_any (s : ByteArray) (hs : s.size ≤ 1048576) (w : World) :
    Calls Tryd.prog 43 #[.string s] w fun e w' => e = .returned (.tuple #[.agg #[.int .i64 (rv (rdGrade s.data.toList) s.data.toList 0), .int .i64 (rv (rdGrade s.data.toList) s.data.toList 1), .int .i64 (rv (rdGrade s.data.toList) s.data.toList 2), .int .i64 (rv (rdGrade s.data.toList) s.data.toList 3), .int .i64 (rv (rdGrade s.data.toList) s.data.toList 4)], .bool (rdGrade s.data.toList)]) ∧ Below w.heap.size w w' := by
  have hsl := Lib.hid (size_list s)
  go_enter Tryd.func43, Tryd.ntmps43
  go_wp2_with fail
  refine (l01Split_at s 47 47 (by decide) hs _).mono ?_
  rintro e w1 ⟨g, cc, rfl, ho1, H1⟩
  have BZ := (Blk.new w 41 #[.int .i64 0, .int .i64 0, .int .i64 0, .int .i64 0, .int .i64 0]).below H1
  have HW : Below w.heap.size w w1 := Bl.then (by go_grown) H1
  clear H1
  have z0 : w1.cell? ⟨w.heap.size, 0, none⟩ = some (.int .i64 0) := BZ.cell 0
  have z1 : w1.cell? ⟨w.heap.size, 1, none⟩ = some (.int .i64 0) := BZ.cell 1
  have z2 : w1.cell? ⟨w.heap.size, 2, none⟩ = some (.int .i64 0) := BZ.cell 2
  have z3 : w1.cell? ⟨w.heap.size, 3, none⟩ = some (.int .i64 0) := BZ.cell 3
  have z4 : w1.cell? ⟨w.heap.size, 4, none⟩ = some (.int .i64 0) := BZ.cell 4
  have fz := BZ.frozen
  have lz := BZ.lt
  have hR := Rd.of_own ho1
  clear ho1
  have hpl := Lib.hid (fun (k : Nat) (hk : k < (splitL 47 s.data.toList).length) => (show ((splitL 47 s.data.toList)[k]'hk).length ≤ 1048576 from by
    have := part_len (c := 47) (l := s.data.toList) (p := (splitL 47 s.data.toList)[k]'hk) (List.getElem_mem _)
    rw [hsl.out] at this; omega))
  have hlen : (splitL 47 s.data.toList).length = 5 ∨ ¬ ((splitL 47 s.data.toList).length = 5) := by omega
  rcases hlen with hlen | hlen
  rotate_left
  · have hno := Lib.hid (show rdGrade s.data.toList = false from rdGrade_no fun h => hlen h.1.1)
    have hl2 : ¬ (((splitL 47 s.data.toList).length : Int) = 5) := by omega
    go_wp2_with fail
    refine bodyPost_ret (v := .tuple #[.agg #[.int .i64 0, .int .i64 0, .int .i64 0, .int .i64 0, .int .i64 0], .bool false]) (by simp [results, Tryd.results43, go_sem, z0, z1, z2, z3, z4]) rfl ?_
    exact ⟨by rw [hno.out]; rfl, (((((HW.setCell (Nat.le_refl _) _).setCell (Nat.le_refl _) _).setCell (Nat.le_refl _) _).setCell (Nat.le_refl _) _).setCell (Nat.le_refl _) _)⟩
  have hlen' := Lib.hid hlen
  rw [hlen] at hR ⊢
  clear hlen
  have HO := own_lit (W := w1) (cs := #[]) (e := 2) (size := 1) (n := 0) (xs := ints []) rfl (Nat.le_refl w1.heap.size) (by decide) rfl rfl
  have HB : Below w1.heap.size w1 (w1.alloc (.cells #[] 2)) := Bl.alloc (Below.refl _ _) _
  go_wp2_with fail
  go_loopw [5, 6] (fun o i wr => ∃ (A : Option Addr) (c k : Nat), k ≤ 5 ∧ o = .slice A k c ∧ i = .int .i64 k ∧ Hid (∀ (j : Nat) (hj : j < (splitL 47 s.data.toList).length), j < k → IsNum (splitL 47 s.data.toList)[j] (nval (splitL 47 s.data.toList)[j])) ∧ wr.ownsRow w1.heap.size 2 1 (.slice A k c) k (ints ((numsOf s.data.toList).take k)) ∧ Below w1.heap.size w1 wr) (fun _ i _ => 5 - (intOf i).toNat)
  case atStart => exact ⟨_, _, 0, by omega, rfl, rfl, Lib.hid (fun j hj h0 => by omega), by rw [List.take_zero]; exact HO, HB⟩
  case round =>
    obtain ⟨A, c, k, hk, rfl, rfl, hgd, ho, hb⟩ := hrel
    by_cases hlt : k < 5
    · have hkl : k < (splitL 47 s.data.toList).length := by have := hlen'.out; omega
      obtain ⟨b, off, eA, hbl, hcells⟩ := (hR.below hb).at_ (by omega)
      simp only [Option.some.injEq, Addr.mk.injEq, and_true] at eA
      obtain ⟨e1, e2⟩ := eA
      subst e2; subst e1
      have hcell := hcells k (.string ⟨((splitL 47 s.data.toList)[k]'hkl).toArray⟩) (by simp [partVs, strVs, toBA, hkl])
      rw [Nat.zero_add] at hcell
      clear hcells
      have hrd := fun (W : World) => l01Number_l ((splitL 47 s.data.toList)[k]'hkl) (hpl.out k hkl) W
      generalize hP : (splitL 47 s.data.toList)[k]'hkl = P at *
      have hP' := Lib.hid hP
      clear hP
      rcases numR_cases P with ⟨v, hn, hv⟩ | ⟨hn, hv⟩
      · have hnx := Lib.hid (show ∀ (j : Nat) (hj : j < (splitL 47 s.data.toList).length), j < k + 1 → IsNum (splitL 47 s.data.toList)[j] (nval (splitL 47 s.data.toList)[j]) from fun j hj h => by
          by_cases e : j = k
          · subst e; rw [hP'.out, hn.val]; exact hn
          · exact hgd.out j hj (by omega))
        have htk := Lib.hid (show (numsOf s.data.toList).take k ++ [v] = (numsOf s.data.toList).take (k + 1) by
          unfold numsOf
          have hkm : k < ((splitL 47 s.data.toList).map nval).length := by rw [List.length_map]; exact hkl
          rw [← List.take_append_getElem hkm, List.getElem_map, hP'.out, hn.val])
        rw [hv] at hrd
        clear hn hv
        go_wp2_with fail
        refine (hrd _).mono ?_
        rintro e w5 ⟨rfl, hb5⟩
        have ho5 := own_below ho hb5
        have HB5 := Bl.then hb hb5
        go_wp2_with (at_builtin; refine wpList_app_int w5 rfl _ _ rfl w1.heap.size A k c _ v rfl ho5 rfl HB5.size (by omega) ?_; intro A6 c6 w6 ho6 hg6)
        go_roundw
        case rel =>
          rw [htk.out] at ho6
          exact ⟨A6, c6, k + 1, by omega, rfl, by go_num, hnx, ho6, app_below ho5 HB5 (Nat.le_refl _) HB5.size hg6⟩
        case measure => simp [intOf]; omega
      · have hng := Lib.hid (show ¬ Good 5 s.data.toList from fun hg => hn _ (hg.2 P (by rw [← hP'.out]; exact List.getElem_mem _)))
        have hno := Lib.hid (show rdGrade s.data.toList = false from rdGrade_no fun h => hng.out h.1)
        rw [hv] at hrd
        clear hn hv
        go_wp2_with fail
        refine (hrd _).mono ?_
        rintro e w5 ⟨rfl, hb5⟩
        have HB5 := Bl.then hb hb5
        clear z0 z1 z2 z3 z4 fz lz
        replace BZ := BZ.below HB5
        replace HW := Bl.then HW HB5
        have z0 : w5.cell? ⟨w.heap.size, 0, none⟩ = some (.int .i64 0) := BZ.cell 0
        have z1 : w5.cell? ⟨w.heap.size, 1, none⟩ = some (.int .i64 0) := BZ.cell 1
        have z2 : w5.cell? ⟨w.heap.size, 2, none⟩ = some (.int .i64 0) := BZ.cell 2
        have z3 : w5.cell? ⟨w.heap.size, 3, none⟩ = some (.int .i64 0) := BZ.cell 3
        have z4 : w5.cell? ⟨w.heap.size, 4, none⟩ = some (.int .i64 0) := BZ.cell 4
        have fz := BZ.frozen
        have lz := BZ.lt
        go_wp2_with fail
        refine bodyPost_ret (v := .tuple #[.agg #[.int .i64 0, .int .i64 0, .int .i64 0, .int .i64 0, .int .i64 0], .bool false]) (by simp [results, Tryd.results43, go_sem, z0, z1, z2, z3, z4]) rfl ?_
        exact ⟨by rw [hno.out]; rfl, (((((HW.setCell (Nat.le_refl _) _).setCell (Nat.le_refl _) _).setCell (Nat.le_refl _) _).setCell (Nat.le_refl _) _).setCell (Nat.le_refl _) _)⟩
    · obtain rfl : k = 5 := by omega
      have hg := show Good 5 s.data.toList from ⟨hlen'.out, fun p hp => by
        obtain ⟨j, hj, rfl⟩ := List.getElem_of_mem hp
        exact hgd.out j hj (by rw [← hlen'.out]; exact hj)⟩
      rw [List.take_of_length_le (by rw [good_len hg]; exact Nat.le_refl _)] at ho
      have hR2 := Rd.of_own ho
      clear ho hR
      clear z0 z1 z2 z3 z4 fz lz
      replace BZ := BZ.below hb
      replace HW := Bl.then HW hb
      have z0 := BZ.cell 0
      have z1 := BZ.cell 1
      have z2 := BZ.cell 2
      have z3 := BZ.cell 3
      have z4 := BZ.cell 4
      have fz := BZ.frozen
      have lz := BZ.lt
      have hl := Lib.hid (list5 (good_len hg))
      rw [hl.out] at hR2
      have hgood := Lib.hid hg
      clear hg
      generalize hm0 : ix (numsOf s.data.toList) 0 = m0 at *
      generalize hm1 : ix (numsOf s.data.toList) 1 = m1 at *
      generalize hm2 : ix (numsOf s.data.toList) 2 = m2 at *
      generalize hm3 : ix (numsOf s.data.toList) 3 = m3 at *
      generalize hm4 : ix (numsOf s.data.toList) 4 = m4 at *
      cases hok : gradeOk m0 m1 m2 m3 m4
      · have hno := Lib.hid (show rdGrade s.data.toList = false from rdGrade_no fun h => by have h2 := h.2; rw [hm0, hm1, hm2, hm3, hm4, hok] at h2; cases h2)
        obtain ⟨bl, off, rfl, hbl, hcl⟩ := hR2.2 (by decide)
        have k0 := hcl 0 _ rfl
        have k1 := hcl 1 _ rfl
        have k2 := hcl 2 _ rfl
        have k3 := hcl 3 _ rfl
        have k4 := hcl 4 _ rfl
        simp only [Nat.add_zero] at k0
        clear hcl hR2
        go_wp2_with fail
        go_region
        all_goals
          go_wp2_with fail
          refine (l05Ok_any _ _ _ _ _ _).mono ?_
          rintro e w7 ⟨rfl, hb7⟩
          clear z0 z1 z2 z3 z4 fz lz
          have BG := Blk.below (w := (wr.alloc (.cells #[.int .i64 m0, .int .i64 m1, .int .i64 m2, .int .i64 m3, .int .i64 m4] 41)).drew) (Blk.new wr 41 #[.int .i64 m0, .int .i64 m1, .int .i64 m2, .int .i64 m3, .int .i64 m4]) hb7
          replace BZ := Blk.below (w := (wr.alloc (.cells #[.int .i64 m0, .int .i64 m1, .int .i64 m2, .int .i64 m3, .int .i64 m4] 41)).drew) (BZ.alloc (.cells #[.int .i64 m0, .int .i64 m1, .int .i64 m2, .int .i64 m3, .int .i64 m4] 41)) hb7
          replace HW : Below w.heap.size w w7 := Bl.then (w1 := (wr.alloc (.cells #[.int .i64 m0, .int .i64 m1, .int .i64 m2, .int .i64 m3, .int .i64 m4] 41)).drew) ((Bl.alloc HW (.cells #[.int .i64 m0, .int .i64 m1, .int .i64 m2, .int .i64 m3, .int .i64 m4] 41)).drew) hb7
          have z0 : w7.cell? ⟨w.heap.size, 0, none⟩ = some (.int .i64 0) := BZ.cell 0
          have z1 : w7.cell? ⟨w.heap.size, 1, none⟩ = some (.int .i64 0) := BZ.cell 1
          have z2 : w7.cell? ⟨w.heap.size, 2, none⟩ = some (.int .i64 0) := BZ.cell 2
          have z3 : w7.cell? ⟨w.heap.size, 3, none⟩ = some (.int .i64 0) := BZ.cell 3
          have z4 : w7.cell? ⟨w.heap.size, 4, none⟩ = some (.int .i64 0) := BZ.cell 4
          have fz := BZ.frozen
          have lz := BZ.lt
          have g0 := BG.cell 0
          have g1 := BG.cell 1
          have g2 := BG.cell 2
          have g3 := BG.cell 3
          have g4 := BG.cell 4
          go_wp2_with fail
          refine bodyPost_ret (v := .tuple #[.agg #[.int .i64 0, .int .i64 0, .int .i64 0, .int .i64 0, .int .i64 0], .bool false]) (by simp [results, Tryd.results43, go_sem, z0, z1, z2, z3, z4]) rfl ?_
          exact ⟨by rw [hno.out]; rfl, (((((HW.setCell (Nat.le_refl _) _).setCell (Nat.le_refl _) _).setCell (Nat.le_refl _) _).setCell (Nat.le_refl _) _).setCell (Nat.le_refl _) _)⟩
      · have hyes := Lib.hid (show rdGrade s.data.toList = true from rdGrade_yes hgood.out (by rw [hm0, hm1, hm2, hm3, hm4]; exact hok))
        obtain ⟨bl, off, rfl, hbl, hcl⟩ := hR2.2 (by decide)
        have k0 := hcl 0 _ rfl
        have k1 := hcl 1 _ rfl
        have k2 := hcl 2 _ rfl
        have k3 := hcl 3 _ rfl
        have k4 := hcl 4 _ rfl
        simp only [Nat.add_zero] at k0
        clear hcl hR2
        go_wp2_with fail
        go_region
        all_goals
          go_wp2_with fail
          refine (l05Ok_any _ _ _ _ _ _).mono ?_
          rintro e w7 ⟨rfl, hb7⟩
          clear z0 z1 z2 z3 z4 fz lz
          have BG := Blk.below (w := (wr.alloc (.cells #[.int .i64 m0, .int .i64 m1, .int .i64 m2, .int .i64 m3, .int .i64 m4] 41)).drew) (Blk.new wr 41 #[.int .i64 m0, .int .i64 m1, .int .i64 m2, .int .i64 m3, .int .i64 m4]) hb7
          replace BZ := Blk.below (w := (wr.alloc (.cells #[.int .i64 m0, .int .i64 m1, .int .i64 m2, .int .i64 m3, .int .i64 m4] 41)).drew) (BZ.alloc (.cells #[.int .i64 m0, .int .i64 m1, .int .i64 m2, .int .i64 m3, .int .i64 m4] 41)) hb7
          replace HW : Below w.heap.size w w7 := Bl.then (w1 := (wr.alloc (.cells #[.int .i64 m0, .int .i64 m1, .int .i64 m2, .int .i64 m3, .int .i64 m4] 41)).drew) ((Bl.alloc HW (.cells #[.int .i64 m0, .int .i64 m1, .int .i64 m2, .int .i64 m3, .int .i64 m4] 41)).drew) hb7
          have z0 : w7.cell? ⟨w.heap.size, 0, none⟩ = some (.int .i64 0) := BZ.cell 0
          have z1 : w7.cell? ⟨w.heap.size, 1, none⟩ = some (.int .i64 0) := BZ.cell 1
          have z2 : w7.cell? ⟨w.heap.size, 2, none⟩ = some (.int .i64 0) := BZ.cell 2
          have z3 : w7.cell? ⟨w.heap.size, 3, none⟩ = some (.int .i64 0) := BZ.cell 3
          have z4 : w7.cell? ⟨w.heap.size, 4, none⟩ = some (.int .i64 0) := BZ.cell 4
          have fz := BZ.frozen
          have lz := BZ.lt
          have g0 := BG.cell 0
          have g1 := BG.cell 1
          have g2 := BG.cell 2
          have g3 := BG.cell 3
          have g4 := BG.cell 4
          go_wp2_with fail
          refine bodyPost_ret (v := .tuple #[.agg #[.int .i64 m0, .int .i64 m1, .int .i64 m2, .int .i64 m3, .int .i64 m4], .bool true]) (by simp [results, Tryd.results43, go_sem, z0, z1, z2, z3, z4]) rfl ?_
          exact ⟨by rw [hyes.out]; simp only [rv, if_true, hm0, hm1, hm2, hm3, hm4], (((((HW.setCell (Nat.le_refl _) _).setCell (Nat.le_refl _) _).setCell (Nat.le_refl _) _).setCell (Nat.le_refl _) _).setCell (Nat.le_refl _) _)⟩
end Go.Proofs.YtijbaapecehamaaDoor
