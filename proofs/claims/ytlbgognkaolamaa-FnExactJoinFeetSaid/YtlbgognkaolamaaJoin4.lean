/-
  JoinFeet of the reference; the condition of a slice argument is that it reads as the given list.
-/
import Derived.Test.YtlbgognkaolamaaJoin3
import Derived.Deep.RegionHeld3
namespace Go.Proofs.Ytlbgognkaolamaa
open Go.RowKit
set_option maxHeartbeats 1600000

theorem near_far {xs : List FootD} {y : FootD} {most : Int} {m : Nat} (hm : m < xs.length) (h : farB (four (feetAt xs m)) (four y) most = true) : nearL (xs.take m) y most = nearL (xs.take (m + 1)) y most := by
  rw [take_snoc hm]; unfold nearL; rw [List.filter_append]; simp [isNear, h]
theorem near_add {xs : List FootD} {y : FootD} {most : Int} {m : Nat} (hm : m < xs.length) (h : farB (four (feetAt xs m)) (four y) most = false) : nearL (xs.take m) y most ++ [feetAt xs m] = nearL (xs.take (m + 1)) y most := by
  rw [take_snoc hm]; unfold nearL; rw [List.filter_append]; simp [isNear, h]
set_option maxRecDepth 100000 in
theorem sJoinFeet_any (A : Option Addr) (n c : Nat) (xs : List FootD) (most : Int) (w : World) (h : Rd w 4 A n (feet xs)) (hn : n ≤ 1048576) :
    Calls Try.prog 14 #[.slice A n c, .int .i64 most] w fun e w' => e = .returned (.tuple #[.agg #[.int .i64 (fNum (joinC xs most) (eachOf vMid (joinL xs most)).l), .int .i64 (fNum (joinC xs most) (eachOf vMid (joinL xs most)).b), .int .i64 (fNum (joinC xs most) (eachOf vMid (joinL xs most)).i), .int .i64 (fNum (joinC xs most) (eachOf vMid (joinL xs most)).h)], .int .i64 (joinC xs most)]) ∧ Below w.heap.size w w' := by
  have hlen := Lib.hid h.feet_length
  by_cases h0 : feetC xs most ≠ 0
  · have k1 : (feetC xs most != 0) = true := by simpa using h0
    have hr := Lib.hid (retF (joinC xs most) (feetC xs most) (eachOf vMid (joinL xs most)).l (eachOf vMid (joinL xs most)).b (eachOf vMid (joinL xs most)).i (eachOf vMid (joinL xs most)).h (by unfold joinC; rw [if_pos h0]) h0)
    clear h0
    go_enter Try.func14, Try.ntmps14
    go_wp2_with fail
    refine (l02Code_any _ _ _ _ _ _ (h.alloc _) hn).mono ?_
    rintro e w1 ⟨rfl, H1⟩
    have BZ := (Blk.new w 25 #[.int .i64 0, .int .i64 0, .int .i64 0, .int .i64 0]).below H1
    have HW : Below w.heap.size w w1 := Bl.then (by go_grown) H1
    clear H1
    have cZ0 : w1.cell? ⟨w.heap.size, 0, none⟩ = some (.int .i64 0) := BZ.cell 0
    have cZ1 : w1.cell? ⟨w.heap.size, 1, none⟩ = some (.int .i64 0) := BZ.cell 1
    have cZ2 : w1.cell? ⟨w.heap.size, 2, none⟩ = some (.int .i64 0) := BZ.cell 2
    have cZ3 : w1.cell? ⟨w.heap.size, 3, none⟩ = some (.int .i64 0) := BZ.cell 3
    have fZ := BZ.frozen
    have lZ := BZ.lt
    go_wp2_with fail
    refine bodyPost_ret (v := .tuple #[.agg #[.int .i64 0, .int .i64 0, .int .i64 0, .int .i64 0], .int .i64 (feetC xs most)]) (by simp [results, Try.results14, go_sem, cZ0, cZ1, cZ2, cZ3]) rfl ?_
    exact ⟨hr.out, (Below.setCell (Below.setCell (Below.setCell (Below.setCell HW (by simp; try omega) _) (by simp; try omega) _) (by simp; try omega) _) (by simp; try omega) _)⟩
  have k1 : (feetC xs most != 0) = false := by simpa using h0
  obtain ⟨f1, f2, f3⟩ := feetC_ok (xs := xs) (most := most) (by simpa using h0)
  have hJ := Lib.hid (show joinC xs most = if (joinL xs most).length = 0 then 9 else 0 by unfold joinC; rw [if_neg h0])
  have hm9 := Lib.hid (mid_ok f3 f1)
  have hj9 := Lib.hid (joinL_ok (most := most) f3)
  rw [hlen.out] at f1 f2
  have f3' := Lib.hid f3
  clear h0 f3
  go_enter Try.func14, Try.ntmps14
  go_wp2_with fail
  refine (l02Code_any _ _ _ _ _ _ (h.alloc _) hn).mono ?_
  rintro e w1 ⟨rfl, H1⟩
  have BZ := (Blk.new w 25 #[.int .i64 0, .int .i64 0, .int .i64 0, .int .i64 0]).below H1
  have HW : Below w.heap.size w w1 := Bl.then (by go_grown) H1
  clear H1
  have cZ0 : w1.cell? ⟨w.heap.size, 0, none⟩ = some (.int .i64 0) := BZ.cell 0
  have cZ1 : w1.cell? ⟨w.heap.size, 1, none⟩ = some (.int .i64 0) := BZ.cell 1
  have cZ2 : w1.cell? ⟨w.heap.size, 2, none⟩ = some (.int .i64 0) := BZ.cell 2
  have cZ3 : w1.cell? ⟨w.heap.size, 3, none⟩ = some (.int .i64 0) := BZ.cell 3
  have fZ := BZ.frozen
  have lZ := BZ.lt
  clear cZ0 cZ1 cZ2 cZ3 fZ lZ
  have R1 := h.below HW
  go_wp2_with fail
  have oo := own_lit (W := w1) (cs := #[]) (e := 25) (size := 4) (n := 0) (xs := feet (nearL (xs.take 0) (eachOf vMid xs) most)) rfl (Nat.le_refl w1.heap.size) (by decide) rfl rfl
  have HM := Bl.alloc (Below.refl w1.heap.size w1) (.cells #[] 25)
  go_loopw [7, 8] (fun v i wr => ∃ (m : Nat) (A' : Option Addr) (q c' : Nat), m ≤ n ∧ i = .int .i64 m ∧ v = .slice A' q c' ∧ q ≤ m ∧ wr.ownsRow w1.heap.size 25 4 (.slice A' q c') q (feet (nearL (xs.take m) (eachOf vMid xs) most)) ∧ Below w1.heap.size w1 wr) (fun _ i _ => n - (intOf i).toNat)
  case atStart => exact ⟨0, _, _, _, by omega, rfl, rfl, by omega, oo, HM⟩
  case round =>
    clear oo HM
    obtain ⟨m, A', q, c', hmn, rfl, rfl, hqm, ho, HP⟩ := hrel
    by_cases hlm : m < n
    · have hml : m < xs.length := by rw [hlen.out]; exact hlm
      have hak' := Lib.hid (show footOk (feetAt xs m).l (feetAt xs m).b (feetAt xs m).i (feetAt xs m).h = true from at_ok f3'.out hml)
      have hmk' := Lib.hid (show footOk (eachOf vMid xs).l (eachOf vMid xs).b (eachOf vMid xs).i (eachOf vMid xs).h = true from hm9.out)
      obtain ⟨b, off, rfl, hbl, h0, h1, h2, h3⟩ := (R1.below HP).feet hlm
      have RW := (R1.below HP)
      cases hfi : farB (four (feetAt xs m)) (four (eachOf vMid xs)) most
      · have hg0 := Lib.hid (near_add hml hfi)
        have hfi' : farB [(feetAt xs m).l, (feetAt xs m).b, (feetAt xs m).i, (feetAt xs m).h] [(eachOf vMid xs).l, (eachOf vMid xs).b, (eachOf vMid xs).i, (eachOf vMid xs).h] most = false := hfi
        clear hfi hml
        go_wp2_with fail
        go_region_held3 (fun wz => Below wr.heap.size wr wz ∧ ∀ b o, b < wr.heap.size → wz.cell? ⟨b, o, none⟩ = wr.cell? ⟨b, o, none⟩) ((refine old_of ?_; with_reducible first | assumption | exact Below.drew (Below.refl _ _) | exact Below.drew (by assumption))) (first | (go_at_call 55; (with_reducible refine (l02Mid_any _ _ _ _ _ (RW.below (And.left (by assumption))) f1 f2 f3'.out).mono ?_); rintro e w2 ⟨rfl, hb2⟩; have HZ1 := Bl.then (w := wr) (And.left (by assumption)) hb2) | (go_at_call 54; (with_reducible refine (l02Far_any _ _ _ _ _ _ _ _ _ _ hak'.out hmk'.out).mono ?_); rintro e w3 ⟨rfl, hb3⟩; have HZ2 := Bl.then (w := wr) HZ1 hb3))
        have HP3 := Bl.then HP HZ2
        have ho3 := own_below ho HZ2
        clear HZ2 HZ1
        go_wp2_with (at_builtin; refine wpList_app_feet _ rfl _ _ rfl _ _ _ _ _ (feetAt xs m) rfl ho3 rfl HP3.size (by omega) ?_; intro A2 c2 w4 ho4 hg4)
        go_roundw
        case rel => exact ⟨m + 1, A2, q + 1, c2, by omega, by go_num, rfl, by omega, by rw [hg0.out] at ho4; exact ho4, app_below ho3 HP3 (Nat.le_refl _) HP3.size hg4⟩
        case measure => simp [intOf]; omega
      · have hg0 := Lib.hid (near_far hml hfi)
        have hfi' : farB [(feetAt xs m).l, (feetAt xs m).b, (feetAt xs m).i, (feetAt xs m).h] [(eachOf vMid xs).l, (eachOf vMid xs).b, (eachOf vMid xs).i, (eachOf vMid xs).h] most = true := hfi
        clear hfi hml
        go_wp2_with fail
        go_region_held3 (fun wz => Below wr.heap.size wr wz ∧ ∀ b o, b < wr.heap.size → wz.cell? ⟨b, o, none⟩ = wr.cell? ⟨b, o, none⟩) ((refine old_of ?_; with_reducible first | assumption | exact Below.drew (Below.refl _ _) | exact Below.drew (by assumption))) (first | (go_at_call 55; (with_reducible refine (l02Mid_any _ _ _ _ _ (RW.below (And.left (by assumption))) f1 f2 f3'.out).mono ?_); rintro e w2 ⟨rfl, hb2⟩; have HZ1 := Bl.then (w := wr) (And.left (by assumption)) hb2) | (go_at_call 54; (with_reducible refine (l02Far_any _ _ _ _ _ _ _ _ _ _ hak'.out hmk'.out).mono ?_); rintro e w3 ⟨rfl, hb3⟩; have HZ2 := Bl.then (w := wr) HZ1 hb3))
        go_wp2_with fail
        go_roundw
        case rel => exact ⟨m + 1, A', q, c', by omega, by go_num, rfl, by omega, by rw [hg0.out] at ho; exact own_below ho HZ2, Bl.then HP HZ2⟩
        case measure => simp [intOf]; omega
    · obtain rfl : m = n := by omega
      have hL := Lib.hid (show nearL (xs.take m) (eachOf vMid xs) most = joinL xs most by rw [← hlen.out, List.take_length]; rfl)
      have R4 := Rd.of_own ho
      rw [hL.out] at R4
      have hql := Lib.hid R4.feet_length
      obtain ⟨u1, u2⟩ := hj9.out
      rw [hlen.out, hql.out] at u2
      have u1' := Lib.hid u1
      replace BZ := BZ.below HP
      replace HW := Bl.then HW HP
      clear u1 ho HP
      have cZ0 : wr.cell? ⟨w.heap.size, 0, none⟩ = some (.int .i64 0) := BZ.cell 0
      have cZ1 : wr.cell? ⟨w.heap.size, 1, none⟩ = some (.int .i64 0) := BZ.cell 1
      have cZ2 : wr.cell? ⟨w.heap.size, 2, none⟩ = some (.int .i64 0) := BZ.cell 2
      have cZ3 : wr.cell? ⟨w.heap.size, 3, none⟩ = some (.int .i64 0) := BZ.cell 3
      have fZ := BZ.frozen
      have lZ := BZ.lt
      by_cases hz : q = 0
      · have hr := Lib.hid (show joinC xs most = 9 by rw [hJ.out, if_pos (by rw [hql.out]; exact hz)])
        have hz2 : ((q : Int) == 0) = true := by rw [beq_iff_eq]; omega
        clear hz
        go_wp2_with fail
        refine bodyPost_ret (v := .tuple #[.agg #[.int .i64 0, .int .i64 0, .int .i64 0, .int .i64 0], .int .i64 9]) (by simp [results, Try.results14, go_sem, cZ0, cZ1, cZ2, cZ3]) rfl ?_
        exact ⟨retF _ _ _ _ _ _ hr.out (by decide), (Below.setCell (Below.setCell (Below.setCell (Below.setCell HW (by simp; try omega) _) (by simp; try omega) _) (by simp; try omega) _) (by simp; try omega) _)⟩
      have hr := Lib.hid (show joinC xs most = 0 by rw [hJ.out, if_neg (by rw [hql.out]; exact hz)])
      have hz1 : 1 ≤ q := by omega
      have hz2 : ((q : Int) == 0) = false := by rw [beq_eq_false_iff_ne]; omega
      go_wp2_with fail
      refine (l02Mid_any _ _ _ _ _ R4 hz1 (by omega) u1'.out).mono ?_
      rintro e w32 ⟨rfl, hb32⟩
      clear cZ0 cZ1 cZ2 cZ3 fZ lZ
      replace BZ := BZ.below hb32
      replace HW := Bl.then HW hb32
      have cZ0 : w32.cell? ⟨w.heap.size, 0, none⟩ = some (.int .i64 0) := BZ.cell 0
      have cZ1 : w32.cell? ⟨w.heap.size, 1, none⟩ = some (.int .i64 0) := BZ.cell 1
      have cZ2 : w32.cell? ⟨w.heap.size, 2, none⟩ = some (.int .i64 0) := BZ.cell 2
      have cZ3 : w32.cell? ⟨w.heap.size, 3, none⟩ = some (.int .i64 0) := BZ.cell 3
      have fZ := BZ.frozen
      have lZ := BZ.lt
      go_wp2_with fail
      refine bodyPost_ret (v := .tuple #[.agg #[.int .i64 (eachOf vMid (joinL xs most)).l, .int .i64 (eachOf vMid (joinL xs most)).b, .int .i64 (eachOf vMid (joinL xs most)).i, .int .i64 (eachOf vMid (joinL xs most)).h], .int .i64 0]) (by simp [results, Try.results14, go_sem, cZ0, cZ1, cZ2, cZ3]) rfl ?_
      exact ⟨retF0 _ _ _ _ _ hr.out, (Below.setCell (Below.setCell (Below.setCell (Below.setCell HW (by simp; try omega) _) (by simp; try omega) _) (by simp; try omega) _) (by simp; try omega) _)⟩
end Go.Proofs.Ytlbgognkaolamaa
