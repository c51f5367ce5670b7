/-
  JoinFeet of the program; the condition of a slice argument is that it reads as the given list.
-/
import Derived.Test.YtlbgognkaolamaaJoin2
namespace Go.Proofs.Ytlbgognkaolamaa
open Go.RowKit
set_option maxHeartbeats 1600000

def joinL (xs : List FootD) (most : Int) : List FootD := nearL xs (eachOf vMid xs) most
def joinC (xs : List FootD) (most : Int) : Int := if feetC xs most ≠ 0 then feetC xs most else if (joinL xs most).length = 0 then 9 else 0
theorem joinL_ok {xs : List FootD} {most : Int} (h : xs.all fOk = true) : (joinL xs most).all fOk = true ∧ (joinL xs most).length ≤ xs.length := by
  refine ⟨List.all_eq_true.2 fun x hx => List.all_eq_true.1 h x ?_, List.length_filter_le _ _⟩
  exact (List.mem_filter.1 hx).1
set_option maxRecDepth 100000 in
theorem JoinFeet_any (A : Option Addr) (n c : Nat) (xs : List FootD) (most : Int) (w : World) (h : Rd w 4 A n (feet xs)) (hn : n ≤ 1048576) :
    Calls Try.prog 16 #[.slice A n c, .int .i64 most] w fun e w' => e = .returned (.tuple #[.agg #[.int .i64 (fNum (joinC xs most) (eachOf vMid (joinL xs most)).l), .int .i64 (fNum (joinC xs most) (eachOf vMid (joinL xs most)).b), .int .i64 (fNum (joinC xs most) (eachOf vMid (joinL xs most)).i), .int .i64 (fNum (joinC xs most) (eachOf vMid (joinL xs most)).h)], .int .i64 (joinC xs most)]) ∧ Below w.heap.size w w' := by
  have hlen := Lib.hid h.feet_length
  by_cases h0 : feetC xs most ≠ 0
  · have k1 : (feetC xs most != 0) = true := by simpa using h0
    have hr := Lib.hid (retF (joinC xs most) (feetC xs most) (eachOf vMid (joinL xs most)).l (eachOf vMid (joinL xs most)).b (eachOf vMid (joinL xs most)).i (eachOf vMid (joinL xs most)).h (by unfold joinC; rw [if_pos h0]) h0)
    clear h0
    go_enter Try.func16, Try.ntmps16
    go_wp2_with fail
    refine (feetCode_any _ _ _ _ _ _ ((h.alloc _).alloc _) hn).mono ?_
    rintro e w1 ⟨rfl, H1⟩
    have BK := ((Blk.new w 2 #[.int .i64 most]).alloc (.cells #[.int .i64 0, .int .i64 0, .int .i64 0, .int .i64 0] 25)).below H1
    have BZ := (Blk.new1 w _ 25 #[.int .i64 0, .int .i64 0, .int .i64 0, .int .i64 0]).below H1
    have HW : Below w.heap.size w w1 := Bl.then (by go_grown) H1
    clear H1
    have cK0 : w1.cell? ⟨w.heap.size, 0, none⟩ = some (.int .i64 most) := BK.cell 0
    have lK := BK.lt
    have cZ0 : w1.cell? ⟨w.heap.size + 1, 0, none⟩ = some (.int .i64 0) := BZ.cell 0
    have cZ1 : w1.cell? ⟨w.heap.size + 1, 1, none⟩ = some (.int .i64 0) := BZ.cell 1
    have cZ2 : w1.cell? ⟨w.heap.size + 1, 2, none⟩ = some (.int .i64 0) := BZ.cell 2
    have cZ3 : w1.cell? ⟨w.heap.size + 1, 3, none⟩ = some (.int .i64 0) := BZ.cell 3
    have fZ := BZ.frozen
    have lZ := BZ.lt
    go_wp2_with fail
    refine bodyPost_ret (v := .tuple #[.agg #[.int .i64 0, .int .i64 0, .int .i64 0, .int .i64 0], .int .i64 (feetC xs most)]) (by simp [results, Try.results16, go_sem, cZ0, cZ1, cZ2, cZ3]) rfl ?_
    exact ⟨hr.out, (Below.setCell (Below.setCell (Below.setCell (Below.setCell HW (by simp; try omega) _) (by simp; try omega) _) (by simp; try omega) _) (by simp; try omega) _)⟩
  have k1 : (feetC xs most != 0) = false := by simpa using h0
  obtain ⟨f1, f2, f3⟩ := feetC_ok (xs := xs) (most := most) (by simpa using h0)
  have hJ := Lib.hid (show joinC xs most = if (joinL xs most).length = 0 then 9 else 0 by unfold joinC; rw [if_neg h0])
  have hm9 := Lib.hid (mid_ok f3 f1)
  have hj9 := Lib.hid (joinL_ok (most := most) f3)
  rw [hlen.out] at f1 f2
  have f3' := Lib.hid f3
  clear h0 f3
  go_enter Try.func16, Try.ntmps16
  go_wp2_with fail
  refine (feetCode_any _ _ _ _ _ _ ((h.alloc _).alloc _) hn).mono ?_
  rintro e w1 ⟨rfl, H1⟩
  have BK := ((Blk.new w 2 #[.int .i64 most]).alloc (.cells #[.int .i64 0, .int .i64 0, .int .i64 0, .int .i64 0] 25)).below H1
  have BZ := (Blk.new1 w _ 25 #[.int .i64 0, .int .i64 0, .int .i64 0, .int .i64 0]).below H1
  have HW : Below w.heap.size w w1 := Bl.then (by go_grown) H1
  clear H1
  have cK0 : w1.cell? ⟨w.heap.size, 0, none⟩ = some (.int .i64 most) := BK.cell 0
  have lK := BK.lt
  have cZ0 : w1.cell? ⟨w.heap.size + 1, 0, none⟩ = some (.int .i64 0) := BZ.cell 0
  have cZ1 : w1.cell? ⟨w.heap.size + 1, 1, none⟩ = some (.int .i64 0) := BZ.cell 1
  have cZ2 : w1.cell? ⟨w.heap.size + 1, 2, none⟩ = some (.int .i64 0) := BZ.cell 2
  have cZ3 : w1.cell? ⟨w.heap.size + 1, 3, none⟩ = some (.int .i64 0) := BZ.cell 3
  have fZ := BZ.frozen
  have lZ := BZ.lt
  go_wp2_with fail
  refine (middleFoot_any _ _ _ _ _ (h.below HW) f1 f2 f3'.out).mono ?_
  rintro e w2 ⟨rfl, hb2⟩
  clear cK0 lK cZ0 cZ1 cZ2 cZ3 fZ lZ
  replace BK := BK.below hb2
  replace BZ := BZ.below hb2
  replace HW := Bl.then HW hb2
  have cK0 : w2.cell? ⟨w.heap.size, 0, none⟩ = some (.int .i64 most) := BK.cell 0
  have lK := BK.lt
  have cZ0 : w2.cell? ⟨w.heap.size + 1, 0, none⟩ = some (.int .i64 0) := BZ.cell 0
  have cZ1 : w2.cell? ⟨w.heap.size + 1, 1, none⟩ = some (.int .i64 0) := BZ.cell 1
  have cZ2 : w2.cell? ⟨w.heap.size + 1, 2, none⟩ = some (.int .i64 0) := BZ.cell 2
  have cZ3 : w2.cell? ⟨w.heap.size + 1, 3, none⟩ = some (.int .i64 0) := BZ.cell 3
  have fZ := BZ.frozen
  have lZ := BZ.lt
  have HQ := HW
  go_wp2_with fail
  clear cK0 lK cZ0 cZ1 cZ2 cZ3 fZ lZ
  replace BK := BK.alloc (.cells #[.int .i64 (eachOf vMid xs).l, .int .i64 (eachOf vMid xs).b, .int .i64 (eachOf vMid xs).i, .int .i64 (eachOf vMid xs).h] 25)
  replace BZ := BZ.alloc (.cells #[.int .i64 (eachOf vMid xs).l, .int .i64 (eachOf vMid xs).b, .int .i64 (eachOf vMid xs).i, .int .i64 (eachOf vMid xs).h] 25)
  have BM := Blk.new w2 25 #[.int .i64 (eachOf vMid xs).l, .int .i64 (eachOf vMid xs).b, .int .i64 (eachOf vMid xs).i, .int .i64 (eachOf vMid xs).h]
  replace HW := Bl.alloc HW (.cells #[.int .i64 (eachOf vMid xs).l, .int .i64 (eachOf vMid xs).b, .int .i64 (eachOf vMid xs).i, .int .i64 (eachOf vMid xs).h] 25)
  refine (Clone_feet _ _ _ _ _ (h.below HW) f1 f2).mono ?_
  rintro e w3 ⟨A3, c3, rfl, o3, hb3⟩
  have hbk : w.heap.size < (w2.alloc (.cells #[.int .i64 (eachOf vMid xs).l, .int .i64 (eachOf vMid xs).b, .int .i64 (eachOf vMid xs).i, .int .i64 (eachOf vMid xs).h] 25)).heap.size := by have := BK.lt; omega
  have hbm : w2.heap.size < (w2.alloc (.cells #[.int .i64 (eachOf vMid xs).l, .int .i64 (eachOf vMid xs).b, .int .i64 (eachOf vMid xs).i, .int .i64 (eachOf vMid xs).h] 25)).heap.size := BM.lt
  have hbz : w.heap.size + 1 < (w2.alloc (.cells #[.int .i64 (eachOf vMid xs).l, .int .i64 (eachOf vMid xs).b, .int .i64 (eachOf vMid xs).i, .int .i64 (eachOf vMid xs).h] 25)).heap.size := BZ.lt
  replace BK := BK.below hb3
  replace BZ := BZ.below hb3
  replace BM := BM.below hb3
  replace HW := Bl.then HW hb3
  have cK0 : w3.cell? ⟨w.heap.size, 0, none⟩ = some (.int .i64 most) := BK.cell 0
  have lK := BK.lt
  have cZ0 : w3.cell? ⟨w.heap.size + 1, 0, none⟩ = some (.int .i64 0) := BZ.cell 0
  have cZ1 : w3.cell? ⟨w.heap.size + 1, 1, none⟩ = some (.int .i64 0) := BZ.cell 1
  have cZ2 : w3.cell? ⟨w.heap.size + 1, 2, none⟩ = some (.int .i64 0) := BZ.cell 2
  have cZ3 : w3.cell? ⟨w.heap.size + 1, 3, none⟩ = some (.int .i64 0) := BZ.cell 3
  have fZ := BZ.frozen
  have lZ := BZ.lt
  have cM0 : w3.cell? ⟨w2.heap.size, 0, none⟩ = some (.int .i64 (eachOf vMid xs).l) := BM.cell 0
  have cM1 : w3.cell? ⟨w2.heap.size, 1, none⟩ = some (.int .i64 (eachOf vMid xs).b) := BM.cell 1
  have cM2 : w3.cell? ⟨w2.heap.size, 2, none⟩ = some (.int .i64 (eachOf vMid xs).i) := BM.cell 2
  have cM3 : w3.cell? ⟨w2.heap.size, 3, none⟩ = some (.int .i64 (eachOf vMid xs).h) := BM.cell 3
  have lM := BM.lt
  obtain ⟨g, hA, hbg, hgl, hnc, hcm⟩ := own_form o3 f1
  subst hA
  go_wp2_with fail
  refine (DeleteFunc_far _ _ _ _ _ (eachOf vMid xs) most w2.heap.size w.heap.size w3 o3 f2 f1 hnc hcm hbg hb3.size ⟨BM, BK⟩ hbm hbk f3'.out hm9.out).mono ?_
  rintro e w4 ⟨c4, rfl, R4, hb4⟩
  clear cK0 lK cZ0 cZ1 cZ2 cZ3 fZ lZ cM0 cM1 cM2 cM3 lM
  replace BZ := BZ.belowB hbz hb4
  replace HW := Below.trans HW (hb4.mono (by omega))
  clear BK BM o3 hb3 hb4 hnc hcm hbg hgl
  have hL : nearL xs (eachOf vMid xs) most = joinL xs most := rfl
  rw [hL] at R4
  simp only [hL]
  clear hL
  obtain ⟨u1, u2⟩ := hj9.out
  rw [hlen.out] at u2
  have u1' := Lib.hid u1
  clear u1
  have cZ0 : w4.cell? ⟨w.heap.size + 1, 0, none⟩ = some (.int .i64 0) := BZ.cell 0
  have cZ1 : w4.cell? ⟨w.heap.size + 1, 1, none⟩ = some (.int .i64 0) := BZ.cell 1
  have cZ2 : w4.cell? ⟨w.heap.size + 1, 2, none⟩ = some (.int .i64 0) := BZ.cell 2
  have cZ3 : w4.cell? ⟨w.heap.size + 1, 3, none⟩ = some (.int .i64 0) := BZ.cell 3
  have fZ := BZ.frozen
  have lZ := BZ.lt
  by_cases hz : (joinL xs most).length = 0
  · have hr := Lib.hid (show joinC xs most = 9 by rw [hJ.out, if_pos hz])
    go_wp2_with fail
    refine bodyPost_ret (v := .tuple #[.agg #[.int .i64 0, .int .i64 0, .int .i64 0, .int .i64 0], .int .i64 9]) (by simp [results, Try.results16, go_sem, cZ0, cZ1, cZ2, cZ3]) rfl ?_
    exact ⟨retF _ _ _ _ _ _ hr.out (by decide), (Below.setCell (Below.setCell (Below.setCell (Below.setCell HW (by simp; try omega) _) (by simp; try omega) _) (by simp; try omega) _) (by simp; try omega) _)⟩
  have hr := Lib.hid (show joinC xs most = 0 by rw [hJ.out, if_neg hz])
  have hz1 : 1 ≤ (joinL xs most).length := by omega
  have hz2 : (((joinL xs most).length : Int) == 0) = false := by rw [beq_eq_false_iff_ne]; omega
  go_wp2_with fail
  refine (middleFoot_any _ _ _ _ _ R4 hz1 (by omega) u1'.out).mono ?_
  rintro e w32 ⟨rfl, hb32⟩
  clear cZ0 cZ1 cZ2 cZ3 fZ lZ
  replace BZ := BZ.below hb32
  replace HW := Bl.then HW hb32
  have cZ0 : w32.cell? ⟨w.heap.size + 1, 0, none⟩ = some (.int .i64 0) := BZ.cell 0
  have cZ1 : w32.cell? ⟨w.heap.size + 1, 1, none⟩ = some (.int .i64 0) := BZ.cell 1
  have cZ2 : w32.cell? ⟨w.heap.size + 1, 2, none⟩ = some (.int .i64 0) := BZ.cell 2
  have cZ3 : w32.cell? ⟨w.heap.size + 1, 3, none⟩ = some (.int .i64 0) := BZ.cell 3
  have fZ := BZ.frozen
  have lZ := BZ.lt
  go_wp2_with fail
  refine bodyPost_ret (v := .tuple #[.agg #[.int .i64 (eachOf vMid (joinL xs most)).l, .int .i64 (eachOf vMid (joinL xs most)).b, .int .i64 (eachOf vMid (joinL xs most)).i, .int .i64 (eachOf vMid (joinL xs most)).h], .int .i64 0]) (by simp [results, Try.results16, go_sem, cZ0, cZ1, cZ2, cZ3]) rfl ?_
  exact ⟨retF0 _ _ _ _ _ hr.out, (Below.setCell (Below.setCell (Below.setCell (Below.setCell HW (by simp; try omega) _) (by simp; try omega) _) (by simp; try omega) _) (by simp; try omega) _)⟩
end Go.Proofs.Ytlbgognkaolamaa
