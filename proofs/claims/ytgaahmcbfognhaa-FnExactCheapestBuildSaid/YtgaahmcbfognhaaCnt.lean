/-
  CountBuilds of the program and of the reference; the condition of a slice argument is that it reads as the given list.
-/
import Derived.Test.YtgaahmcbfognhaaCntP
import Derived.Test.YtgaahmcbfognhaaBlk2
import Derived.Test.YtgaahmcbfognhaaApp
import Derived.StillTailTactics
import Derived.IntWalk
import Derived.RegionTactic
namespace Go.Proofs.Ytgaahmcbfognhaa
open Go.RowKit
set_option maxHeartbeats 3200000
set_option linter.unusedVariables false

/-- The code of layers and a sum. -/
noncomputable def lcode (zs : List Int) (sum : Int) : Int := if layersOk zs = false then 1 else if inR sum 0 1000 = false then 2 else 0
theorem isBuild_any (n : Int) (w : World) :
    Calls Try.prog 26 #[.int .i64 n] w fun e w' => e = .returned (.bool (inR n 0 1000)) ∧ w = w' := by
  go_enter Try.func26, Try.ntmps26
  go_wp2_with (go_at_call 33; refine (within_any _ _ _ _).mono ?_; rintro e w' ⟨rfl, rfl⟩)
  go_ret
  exact ⟨rfl, rfl⟩
theorem layersCode_any (A : Option Addr) (n c : Nat) (zs : List Int) (sum : Int) (w : World) (h : Rd w 1 A n (ints zs)) (hn : n ≤ 9223372036854775807) :
    Calls Try.prog 21 #[.slice A n c, .int .i64 sum] w fun e w' => e = .returned (.int .i64 (lcode zs sum)) ∧ Below w.heap.size w w' := by
  cases h1 : layersOk zs
  · have hr := Lib.hid (show lcode zs sum = 1 by rw [lcode, h1]; rfl)
    go_enter Try.func21, Try.ntmps21
    go_wp2_with fail
    refine (ValidLayers_any _ _ _ _ _ h hn).mono ?_
    rintro e w1 ⟨rfl, hb1⟩
    go_wp2_with fail
    go_ret
    exact ⟨ret_int hr.out.symm, hb1⟩
  cases h2 : inR sum 0 1000
  · have hr := Lib.hid (show lcode zs sum = 2 by rw [lcode, h1, h2]; rfl)
    go_enter Try.func21, Try.ntmps21
    go_wp2_with fail
    refine (ValidLayers_any _ _ _ _ _ h hn).mono ?_
    rintro e w1 ⟨rfl, hb1⟩
    go_wp2_with fail
    refine (isBuild_any _ _).mono ?_
    rintro e w2 ⟨rfl, rfl⟩
    go_wp2_with fail
    go_ret
    exact ⟨ret_int hr.out.symm, hb1⟩
  · have hr := Lib.hid (show lcode zs sum = 0 by rw [lcode, h1, h2]; rfl)
    go_enter Try.func21, Try.ntmps21
    go_wp2_with fail
    refine (ValidLayers_any _ _ _ _ _ h hn).mono ?_
    rintro e w1 ⟨rfl, hb1⟩
    go_wp2_with fail
    refine (isBuild_any _ _).mono ?_
    rintro e w2 ⟨rfl, rfl⟩
    go_wp2_with fail
    go_ret
    exact ⟨ret_int hr.out.symm, hb1⟩
theorem l06Code_any (A : Option Addr) (n c : Nat) (zs : List Int) (sum : Int) (w : World) (h : Rd w 1 A n (ints zs)) (hn : n ≤ 9223372036854775807) :
    Calls Try.prog 19 #[.slice A n c, .int .i64 sum] w fun e w' => e = .returned (.int .i64 (lcode zs sum)) ∧ Below w.heap.size w w' := by
  cases h1 : layersOk zs
  · have hr := Lib.hid (show lcode zs sum = 1 by rw [lcode, h1]; rfl)
    go_enter Try.func19, Try.ntmps19
    go_wp2_with fail
    refine (l06Ok_any _ _ _ _ _ h hn).mono ?_
    rintro e w1 ⟨rfl, hb1⟩
    go_wp2_with fail
    go_ret
    exact ⟨ret_int hr.out.symm, hb1⟩
  cases h2 : inR sum 0 1000
  · have hr := Lib.hid (show lcode zs sum = 2 by rw [lcode, h1, h2]; rfl)
    go_enter Try.func19, Try.ntmps19
    go_wp2_with fail
    refine (l06Ok_any _ _ _ _ _ h hn).mono ?_
    rintro e w1 ⟨rfl, hb1⟩
    go_wp2_with fail
    refine (l00In_any _ _ _ _).mono ?_
    rintro e w2 ⟨rfl, rfl⟩
    go_wp2_with fail
    go_ret
    exact ⟨ret_int hr.out.symm, hb1⟩
  · have hr := Lib.hid (show lcode zs sum = 0 by rw [lcode, h1, h2]; rfl)
    go_enter Try.func19, Try.ntmps19
    go_wp2_with fail
    refine (l06Ok_any _ _ _ _ _ h hn).mono ?_
    rintro e w1 ⟨rfl, hb1⟩
    go_wp2_with fail
    refine (l00In_any _ _ _ _).mono ?_
    rintro e w2 ⟨rfl, rfl⟩
    go_wp2_with fail
    go_ret
    exact ⟨ret_int hr.out.symm, hb1⟩
theorem l00Min_cap (x : Nat) (w : World) :
    Calls Try.prog 20 #[.int .i64 1000000000001, .int .i64 x] w fun e w' => e = .returned (.int .i64 (capM x : Nat)) ∧ w = w' := by
  by_cases h : (1000000000001 : Int) < x
  · have hr := Lib.hid (show ((capM x : Nat) : Int) = 1000000000001 by unfold capM; rw [if_pos (by omega)]; rfl)
    go_enter Try.func20, Try.ntmps20
    go_wp2_with fail
    go_ret
    exact ⟨ret_int hr.out.symm, rfl⟩
  · have hr := Lib.hid (show ((capM x : Nat) : Int) = x by unfold capM; split <;> omega)
    go_enter Try.func20, Try.ntmps20
    go_wp2_with fail
    go_ret
    exact ⟨ret_int hr.out.symm, rfl⟩
theorem cnt_zero (g : Nat → Nat) (hg0 : g 0 = 0) (hg1 : g 1 = 1) (zs ys : List Int) (S : Nat) (hy : ys = (List.replicate (S + 1) 0).set 0 1) : ∀ m, m < ys.length → ix ys m = ((g (cntW zs 0 m) : Nat) : Int) := fun m hm => by
  subst hy
  rw [List.length_set, List.length_replicate] at hm
  rw [ix_set (by rw [List.length_replicate]; omega)]
  by_cases e : m = 0
  · subst e; rw [if_pos rfl]; show (1 : Int) = ((g 1 : Nat) : Int); rw [hg1]; rfl
  · rw [if_neg e]
    have : cntW zs 0 m = 0 := if_neg e
    rw [this, hg0]
    unfold ix
    rw [List.getD_eq_getElem?_getD, List.getElem?_replicate]
    split <;> rfl
theorem cnt_bd {zs : List Int} (h : RiseTo zs 1 200 zs.length) (h8 : zs.length ≤ 8) {i n : Nat} (hi : i ≤ zs.length) (hn : n ≤ 1000) : cntW zs i n ≤ 25402533063711804 := Nat.le_trans (cntW_bd h i hi n hn) (Bnd_le (by omega))
theorem capM_le (n : Nat) : capM n ≤ 1000000000001 := by unfold capM; split <;> omega
theorem capM_gt (n : Nat) : (1000000000000 < capM n) ↔ 1000000000000 < n := by unfold capM; split <;> omega
theorem capM_id {n : Nat} (h : ¬ 1000000000000 < n) : capM n = n := by unfold capM; rw [if_neg (by omega)]
set_option maxRecDepth 100000 in
theorem CountBuilds_any (A : Option Addr) (n c : Nat) (zs : List Int) (sum : Int) (w : World) (h : Rd w 1 A n (ints zs)) (hn : n ≤ 1048576) :
    Calls Try.prog 9 #[.slice A n c, .int .i64 sum] w fun e w' => e = .returned (.tuple #[.int .i64 (countR zs sum).1, .int .i64 (countR zs sum).2]) ∧ Below w.heap.size w w' := by
  have hlen := Lib.hid h.len
  have hco := fun (W : World) (h : Rd W 1 A n (ints zs)) => layersCode_any A n c zs sum W h (by omega)
  cases h1 : layersOk zs
  · have hr := Lib.hid (show countR zs sum = (0, 1) by rw [countR, h1]; rfl)
    have hc : lcode zs sum = 1 := by rw [lcode, h1]; rfl
    rw [hc] at hco
    go_enter Try.func9, Try.ntmps9
    go_wp2_with fail
    refine (hco _ h).mono ?_
    rintro e w1 ⟨rfl, hb1⟩
    go_wp2_with fail
    go_ret2
    exact ⟨ret_pair hr.out, hb1⟩
  cases h2 : inR sum 0 1000
  · have hr := Lib.hid (show countR zs sum = (0, 2) by rw [countR, h1, h2]; rfl)
    have hc : lcode zs sum = 2 := by rw [lcode, h1, h2]; rfl
    rw [hc] at hco
    go_enter Try.func9, Try.ntmps9
    go_wp2_with fail
    refine (hco _ h).mono ?_
    rintro e w1 ⟨rfl, hb1⟩
    go_wp2_with fail
    go_ret2
    exact ⟨ret_pair hr.out, hb1⟩
  have hc : lcode zs sum = 0 := by rw [lcode, h1, h2]; rfl
  rw [hc] at hco
  obtain ⟨s0, s1⟩ := inR_true.1 h2
  obtain ⟨S, rfl⟩ : ∃ S : Nat, sum = S := ⟨sum.toNat, by omega⟩
  have hS : S ≤ 1000 := by omega
  obtain ⟨k1, k8, hri⟩ := layersOk_bd h1
  have hcr : countR zs (S : Int) = if 1000000000000 < cntW zs zs.length S then (0, 5) else (((cntW zs zs.length S : Nat) : Int), 0) := by
    rw [countR, h1, h2, Int.toNat_natCast]; rfl
  have hri' := Lib.hid hri
  have hcr' := Lib.hid hcr
  have k8' := Lib.hid k8
  have hn8 : n ≤ 8 := by have := hlen.out; omega
  obtain ⟨i0, hi, hz0, hz1, hz2⟩ := info_parts int_info
  have hw0 : IntKind.i64.wrap ((S : Int) + 1) = (S : Int) + 1 := IntWalk.i64_in _ (by omega)
  have hS0 : (0 : Int) ≤ (S : Int) + 1 := by omega
  clear hri hcr k1 k8 h1 h2 hc
  go_enter Try.func9, Try.ntmps9
  go_wp2_with fail
  refine (hco _ h).mono ?_
  rintro e w1 ⟨rfl, hb1⟩
  replace h := h.below hb1
  go_wp2_with (at_make; refine wpList_make_full _ rfl _ _ 22 rfl w1.heap.size 2 i0 (.int .i64 0) 1 Try.underlying22 hi hz0 hz1 _ _ _ _ (S + 1) rfl rfl rfl rfl (by rw [hz2]; omega) (by unfold maxLen; omega) (Nat.le_refl _) ?_)
  intro w2 hown hg
  have HO : w2.ownsRow w1.heap.size 2 1 (.slice (some ⟨w1.heap.size, 0, none⟩) (S + 1) (S + 1)) (S + 1) (ints (List.replicate (S + 1) 0)) := by
    have e := toList_madeCells_one (.int .i64 0) (S + 1)
    simpa [ints, e] using hown
  have HB : Below w1.heap.size w1 w2 := (Below.refl _ _).grown hg (Nat.le_refl _) (fun k hk => by cases hk)
  clear hown hg hz0 hz1 hz2 hi hco
  have c0 : w2.cell? ⟨w1.heap.size, 0, none⟩ = some (.int .i64 0) := by have := HO.cellAt 0 (by omega); simpa [ints] using this
  have f0 := HO.frozenAt 0
  have hst0 := HO.stored 0 (.int .i64 1)
  rw [ints_setAt] at hst0
  have HB0 : Below w1.heap.size w1 (w2.setCell ⟨w1.heap.size, 0, none⟩ (.int .i64 1)) := HB.setCell (Nat.le_refl _) _
  have hz := Lib.hid (cnt_zero id rfl rfl zs _ S rfl)
  generalize hY : (List.replicate (S + 1) (0 : Int)).set 0 1 = Y at *
  have hYl := Lib.hid (show Y.length = S + 1 by rw [← hY]; simp)
  clear hY
  have hS1 : (0 : Int) < (S : Int) + 1 := by omega
  go_wp2_with fail
  go_loopw [24] (fun i wr => ∃ (k : Nat) (ys : List Int), k ≤ n ∧ i = .int .i64 k ∧ Hid (ys.length = S + 1) ∧ Hid (∀ m, m < ys.length → ix ys m = ((id (cntW zs k m) : Nat) : Int)) ∧ wr.ownsRow w1.heap.size 2 1 (.slice (some ⟨w1.heap.size, 0, none⟩) (S + 1) (S + 1)) (S + 1) (ints ys) ∧ Below w1.heap.size w1 wr) (fun i _ => n - (intOf i).toNat)
  case atStart => exact ⟨0, Y, by omega, rfl, hYl, hz, hst0.1, HB0⟩
  case round =>
    clear c0 f0 hst0 HB0 hz hYl HO HB
    obtain ⟨k, ys, hk, rfl, hyl, hys, ho, hb⟩ := hrel
    by_cases hlt : k < n
    · obtain ⟨b, off, rfl, hbl, hcell⟩ := (h.below hb).int hlt
      have hge := rise_ge hri'.out k (by have := hlen.out; omega)
      have hle := (inR_true.1 (hri'.out.1 k (by have := hlen.out; omega))).2
      obtain ⟨l, hl⟩ : ∃ l : Nat, ix zs k = l := ⟨(ix zs k).toNat, by omega⟩
      have hlN := Lib.hid (show (ix zs k).toNat = l by omega)
      rw [hl] at hcell hge hle
      have hl1 : 1 ≤ l := by omega
      have hl200 : l ≤ 200 := by omega
      have hmid := Lib.hid (Mid.enter hys.out)
      rw [hlN.out] at hmid
      have hkn := Lib.hid (show k + 1 ≤ zs.length by have := hlen.out; omega)
      have hl' := Lib.hid hl
      clear hys hge hle hl
      go_wp2_with fail
      go_loopw [10] (fun i wr => ∃ (j : Nat) (ys : List Int), l ≤ j ∧ j ≤ 1201 ∧ i = .int .i64 j ∧ Hid (ys.length = S + 1) ∧ Hid (Mid id zs ys k j) ∧ wr.ownsRow w1.heap.size 2 1 (.slice (some ⟨w1.heap.size, 0, none⟩) (S + 1) (S + 1)) (S + 1) (ints ys) ∧ Below w1.heap.size w1 wr) (fun i _ => 1201 - (intOf i).toNat)
      case atStart => exact ⟨l, ys, Nat.le_refl _, by omega, rfl, hyl, hmid, ho, hb⟩
      case round =>
        clear hyl hmid ho
        obtain ⟨j, ys, hlj, hj, rfl, hyl, hmi, ho, hbq⟩ := hrel
        by_cases hjS : j ≤ S
        · obtain ⟨v1, v2, v3⟩ := hmi.out.vals (by rw [hlN.out]; exact hl1) (by rw [hlN.out]; exact hlj) (by rw [hyl.out]; omega)
          rw [hlN.out] at v2 v3
          have hbd := cnt_bd hri'.out k8'.out (i := k + 1) (n := j) hkn.out (by omega)
          have g1 := ho.cellAt j (by omega)
          rw [ints_get (by rw [hyl.out]; omega), v1] at g1
          have g2 := ho.cellAt (j - l) (by omega)
          rw [ints_get (by rw [hyl.out]; omega), v2] at g2
          simp only [id] at g1 g2
          have hws : IntKind.i64.wrap (((cntW zs k j : Nat) : Int) + ((cntW zs (k + 1) (j - l) : Nat) : Int)) = ((cntW zs k j : Nat) : Int) + ((cntW zs (k + 1) (j - l) : Nat) : Int) := IntWalk.i64_in _ (by omega)
          have hnx := Lib.hid (hmi.out.step (x := (((cntW zs k j : Nat) : Int) + ((cntW zs (k + 1) (j - l) : Nat) : Int))) (by rw [hyl.out]; omega) (by rw [v3]; rfl))
          have hfr := ho.frozenAt j
          have e1 : IntKind.i64.wrap ((j : Int) - l) = (j : Int) - l := IntWalk.i64_in _ (by omega)
          have e2 : (l : Int) ≤ j := by omega
          have e3 : ((j : Int) - l).toNat = j - l := by omega
          have e4 : (j : Int) < (S : Int) + 1 := by omega
          have e5 : (j : Int) - l < (S : Int) + 1 := by omega
          have e6 : (0 : Int) ≤ (j : Int) - l := by omega
          have hst := ho.stored j (.int .i64 (((cntW zs k j : Nat) : Int) + ((cntW zs (k + 1) (j - l) : Nat) : Int)))
          rw [ints_setAt] at hst
          clear v1 v2 v3 hbd
          go_wp2_with fail
          go_region
          all_goals
            go_wp2_with fail
            go_roundw
            case rel => exact ⟨j + 1, _, by omega, by omega, by go_num, Lib.hid (by rw [List.length_set]; exact hyl.out), hnx, hst.1, (hbq.grown hst.2 hbq.size (by rintro q hq; cases hq; exact Nat.le_refl _)).drew⟩
            case measure => simp [intOf]; omega
        · have hlv := Lib.hid (hmi.out.leave (by rw [hyl.out]; omega))
          go_wp2_with fail
          go_roundw
          case rel => exact ⟨k + 1, ys, by omega, by go_num, hyl, hlv, ho, hbq⟩
          case measure => simp [intOf]; omega
    · obtain rfl : k = n := by omega
      have hv := hys.out S (by rw [hyl.out]; omega)
      have hkl : k = zs.length := hlen.out.symm
      have g1 := ho.cellAt S (by omega)
      rw [ints_get (by rw [hyl.out]; omega), hv, hkl] at g1
      by_cases hbig : 1000000000000 < cntW zs zs.length S
      · have hr := Lib.hid (show countR zs (S : Int) = (0, 5) by rw [hcr'.out, if_pos hbig])
        have hbI : (1000000000000 : Int) < ((id (cntW zs zs.length S) : Nat) : Int) := by simp only [id]; omega
        clear hys hv hkl hbig
        simp only [id] at g1 hbI hr
        go_wp2_with fail
        go_ret2
        exact ⟨ret_pair hr.out, Bl.then hb1 hb⟩
      · have hr := Lib.hid (show countR zs (S : Int) = (((id (cntW zs zs.length S) : Nat) : Int), 0) by rw [hcr'.out, if_neg hbig]; rfl)
        have hbI : ¬ ((1000000000000 : Int) < ((id (cntW zs zs.length S) : Nat) : Int)) := by simp only [id]; omega
        clear hys hv hkl hbig
        simp only [id] at g1 hbI hr
        go_wp2_with fail
        go_ret2
        exact ⟨ret_pair hr.out, Bl.then hb1 hb⟩
set_option maxRecDepth 100000 in
theorem sCountBuilds_any (A : Option Addr) (n c : Nat) (zs : List Int) (sum : Int) (w : World) (h : Rd w 1 A n (ints zs)) (hn : n ≤ 1048576) :
    Calls Try.prog 7 #[.slice A n c, .int .i64 sum] w fun e w' => e = .returned (.tuple #[.int .i64 (countR zs sum).1, .int .i64 (countR zs sum).2]) ∧ Below w.heap.size w w' := by
  have hlen := Lib.hid h.len
  have hco := fun (W : World) (h : Rd W 1 A n (ints zs)) => l06Code_any A n c zs sum W h (by omega)
  cases h1 : layersOk zs
  · have hr := Lib.hid (show countR zs sum = (0, 1) by rw [countR, h1]; rfl)
    have hc : lcode zs sum = 1 := by rw [lcode, h1]; rfl
    rw [hc] at hco
    go_enter Try.func7, Try.ntmps7
    go_wp2_with fail
    refine (hco _ h).mono ?_
    rintro e w1 ⟨rfl, hb1⟩
    go_wp2_with fail
    go_ret2
    exact ⟨ret_pair hr.out, hb1⟩
  cases h2 : inR sum 0 1000
  · have hr := Lib.hid (show countR zs sum = (0, 2) by rw [countR, h1, h2]; rfl)
    have hc : lcode zs sum = 2 := by rw [lcode, h1, h2]; rfl
    rw [hc] at hco
    go_enter Try.func7, Try.ntmps7
    go_wp2_with fail
    refine (hco _ h).mono ?_
    rintro e w1 ⟨rfl, hb1⟩
    go_wp2_with fail
    go_ret2
    exact ⟨ret_pair hr.out, hb1⟩
  have hc : lcode zs sum = 0 := by rw [lcode, h1, h2]; rfl
  rw [hc] at hco
  obtain ⟨s0, s1⟩ := inR_true.1 h2
  obtain ⟨S, rfl⟩ : ∃ S : Nat, sum = S := ⟨sum.toNat, by omega⟩
  have hS : S ≤ 1000 := by omega
  obtain ⟨k1, k8, hri⟩ := layersOk_bd h1
  have hcr : countR zs (S : Int) = if 1000000000000 < cntW zs zs.length S then (0, 5) else (((cntW zs zs.length S : Nat) : Int), 0) := by
    rw [countR, h1, h2, Int.toNat_natCast]; rfl
  have hri' := Lib.hid hri
  have hcr' := Lib.hid hcr
  have k8' := Lib.hid k8
  have hn8 : n ≤ 8 := by have := hlen.out; omega
  obtain ⟨i0, hi, hz0, hz1, hz2⟩ := info_parts int_info
  have hw0 : IntKind.i64.wrap ((S : Int) + 1) = (S : Int) + 1 := IntWalk.i64_in _ (by omega)
  have hS0 : (0 : Int) ≤ (S : Int) + 1 := by omega
  clear hri hcr k1 k8 h1 h2 hc
  go_enter Try.func7, Try.ntmps7
  go_wp2_with fail
  refine (hco _ h).mono ?_
  rintro e w1 ⟨rfl, hb1⟩
  replace h := h.below hb1
  go_wp2_with (at_make; refine wpList_make_full _ rfl _ _ 22 rfl w1.heap.size 2 i0 (.int .i64 0) 1 Try.underlying22 hi hz0 hz1 _ _ _ _ (S + 1) rfl rfl rfl rfl (by rw [hz2]; omega) (by unfold maxLen; omega) (Nat.le_refl _) ?_)
  intro w2 hown hg
  have HO : w2.ownsRow w1.heap.size 2 1 (.slice (some ⟨w1.heap.size, 0, none⟩) (S + 1) (S + 1)) (S + 1) (ints (List.replicate (S + 1) 0)) := by
    have e := toList_madeCells_one (.int .i64 0) (S + 1)
    simpa [ints, e] using hown
  have HB : Below w1.heap.size w1 w2 := (Below.refl _ _).grown hg (Nat.le_refl _) (fun k hk => by cases hk)
  clear hown hg hz0 hz1 hz2 hi hco
  have c0 : w2.cell? ⟨w1.heap.size, 0, none⟩ = some (.int .i64 0) := by have := HO.cellAt 0 (by omega); simpa [ints] using this
  have f0 := HO.frozenAt 0
  have hst0 := HO.stored 0 (.int .i64 1)
  rw [ints_setAt] at hst0
  have HB0 : Below w1.heap.size w1 (w2.setCell ⟨w1.heap.size, 0, none⟩ (.int .i64 1)) := HB.setCell (Nat.le_refl _) _
  have hz := Lib.hid (cnt_zero capM rfl rfl zs _ S rfl)
  generalize hY : (List.replicate (S + 1) (0 : Int)).set 0 1 = Y at *
  have hYl := Lib.hid (show Y.length = S + 1 by rw [← hY]; simp)
  clear hY
  have hS1 : (0 : Int) < (S : Int) + 1 := by omega
  go_wp2_with fail
  go_loopw [8] (fun i wr => ∃ (k : Nat) (ys : List Int), k ≤ n ∧ i = .int .i64 k ∧ Hid (ys.length = S + 1) ∧ Hid (∀ m, m < ys.length → ix ys m = ((capM (cntW zs k m) : Nat) : Int)) ∧ wr.ownsRow w1.heap.size 2 1 (.slice (some ⟨w1.heap.size, 0, none⟩) (S + 1) (S + 1)) (S + 1) (ints ys) ∧ Below w1.heap.size w1 wr) (fun i _ => n - (intOf i).toNat)
  case atStart => exact ⟨0, Y, by omega, rfl, hYl, hz, hst0.1, HB0⟩
  case round =>
    clear c0 f0 hst0 HB0 hz hYl HO HB
    obtain ⟨k, ys, hk, rfl, hyl, hys, ho, hb⟩ := hrel
    by_cases hlt : k < n
    · obtain ⟨b, off, rfl, hbl, hcell⟩ := (h.below hb).int hlt
      have hge := rise_ge hri'.out k (by have := hlen.out; omega)
      have hle := (inR_true.1 (hri'.out.1 k (by have := hlen.out; omega))).2
      obtain ⟨l, hl⟩ : ∃ l : Nat, ix zs k = l := ⟨(ix zs k).toNat, by omega⟩
      have hlN := Lib.hid (show (ix zs k).toNat = l by omega)
      rw [hl] at hcell hge hle
      have hl1 : 1 ≤ l := by omega
      have hl200 : l ≤ 200 := by omega
      have hmid := Lib.hid (Mid.enter hys.out)
      rw [hlN.out] at hmid
      have hkn := Lib.hid (show k + 1 ≤ zs.length by have := hlen.out; omega)
      have hl' := Lib.hid hl
      clear hys hge hle hl
      go_wp2_with fail
      go_loopw [9] (fun i wr => ∃ (j : Nat) (ys : List Int), l ≤ j ∧ j ≤ 1201 ∧ i = .int .i64 j ∧ Hid (ys.length = S + 1) ∧ Hid (Mid capM zs ys k j) ∧ wr.ownsRow w1.heap.size 2 1 (.slice (some ⟨w1.heap.size, 0, none⟩) (S + 1) (S + 1)) (S + 1) (ints ys) ∧ Below w1.heap.size w1 wr) (fun i _ => 1201 - (intOf i).toNat)
      case atStart => exact ⟨l, ys, Nat.le_refl _, by omega, rfl, hyl, hmid, ho, hb⟩
      case round =>
        clear hyl hmid ho
        obtain ⟨j, ys, hlj, hj, rfl, hyl, hmi, ho, hbq⟩ := hrel
        by_cases hjS : j ≤ S
        · obtain ⟨v1, v2, v3⟩ := hmi.out.vals (by rw [hlN.out]; exact hl1) (by rw [hlN.out]; exact hlj) (by rw [hyl.out]; omega)
          rw [hlN.out] at v2 v3
          have hbd := cnt_bd hri'.out k8'.out (i := k + 1) (n := j) hkn.out (by omega)
          have g1 := ho.cellAt j (by omega)
          rw [ints_get (by rw [hyl.out]; omega), v1] at g1
          have g2 := ho.cellAt (j - l) (by omega)
          rw [ints_get (by rw [hyl.out]; omega), v2] at g2
          obtain ⟨b', off', eA, hbl', hcell'⟩ := (h.below hbq).int hlt
          simp only [Option.some.injEq, Addr.mk.injEq, and_true] at eA
          obtain ⟨rfl, rfl⟩ := eA
          rw [hl'.out] at hcell'
          have hsum : ((capM (cntW zs k j) : Nat) : Int) + ((capM (cntW zs (k + 1) (j - l)) : Nat) : Int) = ((capM (cntW zs k j) + capM (cntW zs (k + 1) (j - l)) : Nat) : Int) := by omega
          have hc1 := capM_le (cntW zs k j)
          have hc2 := capM_le (cntW zs (k + 1) (j - l))
          have hws : IntKind.i64.wrap (((capM (cntW zs k j) : Nat) : Int) + ((capM (cntW zs (k + 1) (j - l)) : Nat) : Int)) = ((capM (cntW zs k j) : Nat) : Int) + ((capM (cntW zs (k + 1) (j - l)) : Nat) : Int) := IntWalk.i64_in _ (by omega)
          have hmin := fun (W : World) => l00Min_cap (capM (cntW zs k j) + capM (cntW zs (k + 1) (j - l))) W
          rw [capM_add, ← v3, ← hsum] at hmin
          clear hsum hc1 hc2
          have hnx := Lib.hid (hmi.out.step (x := ((capM (cntW zs (k + 1) j) : Nat) : Int)) (by rw [hyl.out]; omega) (by rfl))
          have hfr := ho.frozenAt j
          have e1 : IntKind.i64.wrap ((j : Int) - l) = (j : Int) - l := IntWalk.i64_in _ (by omega)
          have e2 : (l : Int) ≤ j := by omega
          have e3 : ((j : Int) - l).toNat = j - l := by omega
          have e4 : (j : Int) < (S : Int) + 1 := by omega
          have e5 : (j : Int) - l < (S : Int) + 1 := by omega
          have e6 : (0 : Int) ≤ (j : Int) - l := by omega
          have hst := ho.stored j (.int .i64 ((capM (cntW zs (k + 1) j) : Nat) : Int))
          rw [ints_setAt] at hst
          clear v1 v2 v3 hbd
          go_wp2_with fail
          go_still_tail 18, (by kernel_rfl)
          still_call ((hmin _).mono fun _ _ h => ⟨h.1, h.2.symm⟩)
          repeat still_step
          refine wpStill_nil ?_
          change wpList _ _ _ _ _ wr.drew
          all_goals
            go_wp2_with fail
            go_roundw
            case rel => exact ⟨j + 1, _, by omega, by omega, by go_num, Lib.hid (by rw [List.length_set]; exact hyl.out), hnx, hst.1, (hbq.grown hst.2 hbq.size (by rintro q hq; cases hq; exact Nat.le_refl _)).drew⟩
            case measure => simp [intOf]; omega
        · have hlv := Lib.hid (hmi.out.leave (by rw [hyl.out]; omega))
          go_wp2_with fail
          go_roundw
          case rel => exact ⟨k + 1, ys, by omega, by go_num, hyl, hlv, ho, hbq⟩
          case measure => simp [intOf]; omega
    · obtain rfl : k = n := by omega
      have hv := hys.out S (by rw [hyl.out]; omega)
      have hkl : k = zs.length := hlen.out.symm
      have g1 := ho.cellAt S (by omega)
      rw [ints_get (by rw [hyl.out]; omega), hv, hkl] at g1
      by_cases hbig : 1000000000000 < cntW zs zs.length S
      · have hr := Lib.hid (show countR zs (S : Int) = (0, 5) by rw [hcr'.out, if_pos hbig])
        have hbI : (1000000000000 : Int) < ((capM (cntW zs zs.length S) : Nat) : Int) := by have := (capM_gt _).2 hbig; omega
        clear hys hv hkl hbig
        go_wp2_with fail
        go_ret2
        exact ⟨ret_pair hr.out, Bl.then hb1 hb⟩
      · have hr := Lib.hid (show countR zs (S : Int) = (((capM (cntW zs zs.length S) : Nat) : Int), 0) by rw [hcr'.out, if_neg hbig]; rw [capM_id hbig])
        have hbI : ¬ ((1000000000000 : Int) < ((capM (cntW zs zs.length S) : Nat) : Int)) := by rw [capM_id hbig]; omega
        clear hys hv hkl hbig
        go_wp2_with fail
        go_ret2
        exact ⟨ret_pair hr.out, Bl.then hb1 hb⟩
end Go.Proofs.Ytgaahmcbfognhaa
