/-
  slices.Sort on a row of the call's own; eachMeasure of the program at its three closures; the condition of a slice argument is that it reads as the given list.
-/
import Derived.Test.YtlbgognkaolamaaLay
import Derived.Test.YtlbgognkaolamaaFeetOk
import Derived.Test.YtlbgognkaolamaaUpd
import Derived.Lib.OwnBridge
import Derived.Sort.OwnSortedInts
import Derived.RegionTactic
namespace Go.Proofs.Ytlbgognkaolamaa
open Go.RowKit
set_option maxHeartbeats 1600000

/-- The numbers in ascending order. -/
def srt (zs : List Int) : List Int := zs.mergeSort fun x y => decide (x ≤ y)
theorem srt_len (zs : List Int) : (srt zs).length = zs.length := List.length_mergeSort _
theorem srt_mem {zs : List Int} {x : Int} : x ∈ srt zs ↔ x ∈ zs := List.mem_mergeSort
theorem srt_in {zs : List Int} {lo hi : Int} (h : AllIn zs zs.length lo hi) : AllIn (srt zs) (srt zs).length lo hi := fun j hj => by
  rw [← ix_eq hj]
  obtain ⟨i, hi', e⟩ := List.getElem_of_mem (srt_mem.1 (List.getElem_mem hj))
  rw [← e, ix_eq hi']
  exact h i hi'
theorem grown_grow (w : World) (os : Array Obj) : w.grownBy (Sort.grow w os) none := ⟨rfl, rfl, rfl, by simp, fun k hk _ => Sort.heap_grow_old w os hk⟩
theorem Sort64_any (base : Nat) (A : Option Addr) (n c : Nat) (zs : List Int) (w : World) (h : w.ownsRow base 2 1 (.slice A n c) n (ints zs)) (hn : 0 < n) (hn2 : n ≤ 1048576) :
    Calls Try.prog 130 #[.slice A n c] w fun e w' => e = .returned (.tuple #[]) ∧ w'.ownsRow base 2 1 (.slice A n c) n (ints (srt zs)) ∧ w.grownBy w' (Value.slice A n c).ownBlock := by
  obtain ⟨g, rfl, hb, hlt, hnc, hcm⟩ := own_form h hn
  have hlen := own_int_len h
  obtain ⟨g', cap', hv, _, _, _, _, _, hH⟩ := Lib.holds_of_ownsRow (enc := Value.int .i64) h (by simp)
  simp only [Value.slice.injEq, Option.some.injEq, Addr.mk.injEq, and_true, true_and] at hv
  obtain ⟨rfl, rfl⟩ := hv
  have hs := AnyM.slices_Sort_int sort64 g 0 c zs w hH hlt (by omega)
  rw [hlen] at hs
  refine Calls.mono hs ?_
  rintro e w' ⟨rfl, q, os, rfl⟩
  have h1 := Lib.ownsRow_putRow (q := q) (k := n) (ys := srt zs) h (by rw [srt_len, hlen]) (Nat.le_refl _)
  rw [List.take_of_length_le (by rw [srt_len, hlen]; exact Nat.le_refl _)] at h1
  exact ⟨rfl, h1.kept (grown_grow _ _) (.inr (by simp [Value.ownBlock])), grownBy_sortedI _⟩
/-- A measure by its number. -/
def fld (k : Nat) (x : FootD) : Int := ix [x.l, x.b, x.i, x.h] k
def col (xs : List FootD) (k : Nat) : List Int := xs.map (fld k)
theorem col_len (xs : List FootD) (k : Nat) : (col xs k).length = xs.length := List.length_map _
theorem col_step {xs : List FootD} {m k : Nat} (h : m < xs.length) : col (xs.take m) k ++ [ix [(feetAt xs m).l, (feetAt xs m).b, (feetAt xs m).i, (feetAt xs m).h] k] = col (xs.take (m + 1)) k := by
  unfold col
  rw [List.take_succ_eq_append_getElem h, List.map_append, feet_eq h]
  rfl
theorem fld_in {x : FootD} (h : fOk x = true) {k : Nat} (hk : k < 4) : inR (fld k x) 500 5000 = true := by
  simp only [fOk, footOk, Bool.and_eq_true] at h
  match k, hk with
  | 0, _ => exact h.1.1.1
  | 1, _ => exact h.1.1.2
  | 2, _ => exact h.1.2
  | 3, _ => exact h.2
theorem col_in {xs : List FootD} (h : xs.all fOk = true) {k : Nat} (hk : k < 4) : AllIn (col xs k) (col xs k).length 500 5000 := fun j hj => by
  rw [← ix_eq hj]
  simp only [col, List.getElem_map]
  exact fld_in (List.all_eq_true.1 h _ (List.getElem_mem _)) hk
/-- The foot whose measures follow from those of all feet in ascending order. -/
def eachOf (v : List Int → Int) (xs : List FootD) : FootD := ⟨v (srt (col xs 0)), v (srt (col xs 1)), v (srt (col xs 2)), v (srt (col xs 3))⟩
def efn (v : List Int → Int) (xs : List FootD) (j : Nat) (_ : Int) : Int := v (srt (col xs j))
theorem upd_each (v : List Int → Int) (xs : List FootD) : upd (efn v xs) [0, 0, 0, 0] 4 = [(eachOf v xs).l, (eachOf v xs).b, (eachOf v xs).i, (eachOf v xs).h] := by
  simp [upd, efn, eachOf]
def vMid (zs : List Int) : Int := ix zs ((zs.length - 1) / 2)
def vTop (zs : List Int) : Int := ix zs 1
def vSpan (zs : List Int) : Int := ix zs (zs.length - 1) - ix zs 0
theorem footOf_any (A : Option Addr) (c : Nat) (a b d e : Int) (w : World) (h : Rd w 1 A 4 (ints [a, b, d, e])) :
    Calls Try.prog 131 #[.slice A 4 c] w fun e' w' => e' = .returned (.agg #[.int .i64 a, .int .i64 b, .int .i64 d, .int .i64 e]) ∧ Below w.heap.size w w' := by
  obtain ⟨bl, off, rfl, hb, hc⟩ := h.2 (by decide)
  have k0 : w.cell? ⟨bl, off, none⟩ = some (.int .i64 a) := hc 0 _ rfl
  have k1 : w.cell? ⟨bl, off + 1, none⟩ = some (.int .i64 b) := hc 1 _ rfl
  have k2 : w.cell? ⟨bl, off + 2, none⟩ = some (.int .i64 d) := hc 2 _ rfl
  have k3 : w.cell? ⟨bl, off + 3, none⟩ = some (.int .i64 e) := hc 3 _ rfl
  clear hc h
  go_enter Try.func131, Try.ntmps131
  go_wp2_with fail
  go_region
  all_goals
    go_wp2_with fail
    go_returns
    refine ⟨rfl, ?_⟩
    go_grown
theorem vMid_any (A : Option Addr) (n c : Nat) (zs : List Int) (w : World) (h : Rd w 1 A n (ints zs)) (hn : 1 ≤ n) (hn2 : n ≤ 1048576) (_ : AllIn zs zs.length 500 5000) :
    Calls Try.prog 103 #[.slice A n c] w fun e w' => e = .returned (.int .i64 (vMid zs)) ∧ Below w.heap.size w w' := by
  have hlen := Lib.hid h.len
  obtain ⟨b, off, rfl, hb, hcell⟩ := h.int (k := (n - 1) / 2) (by omega)
  have a1 : 1 ≤ (n : Int) := by omega
  have a2 : 0 ≤ (n : Int) - 1 := by omega
  have a3 : ((n : Int) - 1) / 2 < n := by omega
  have a4 : 0 ≤ ((n : Int) - 1) / 2 := by omega
  have a5 : (((n : Int) - 1) / 2).toNat = (n - 1) / 2 := by omega
  go_enter Try.func103, Try.ntmps103
  go_wp2_with fail
  go_ret
  exact ⟨ret_int (by rw [vMid, hlen.out]), Below.refl _ _⟩
set_option maxRecDepth 100000 in
theorem eachMeasure_vMid (A : Option Addr) (n c : Nat) (xs : List FootD) (w : World) (h : Rd w 4 A n (feet xs)) (hn : 1 ≤ n) (hn2 : n ≤ 30) (hx : xs.all fOk = true) :
    Calls Try.prog 102 #[.slice A n c, .func (.func 103) #[] #[]] w fun e w' => e = .returned (.agg #[.int .i64 (eachOf vMid xs).l, .int .i64 (eachOf vMid xs).b, .int .i64 (eachOf vMid xs).i, .int .i64 (eachOf vMid xs).h]) ∧ Below w.heap.size w w' := by
  have hlen := Lib.hid h.feet_length
  have hu := Lib.hid (upd_each vMid xs)
  have hx' := Lib.hid hx
  clear hx
  obtain ⟨i0, hi, hz0, hz1, hz2⟩ := info_parts int_info
  go_enter Try.func102, Try.ntmps102
  have HZ : Below w.heap.size w (w.alloc (.cells #[.int .i64 0, .int .i64 0, .int .i64 0, .int .i64 0] 25)) := by go_grown
  have B0 : Blk (w.alloc (.cells #[.int .i64 0, .int .i64 0, .int .i64 0, .int .i64 0] 25)) w.heap.size 25 #[.int .i64 0, .int .i64 0, .int .i64 0, .int .i64 0] := Blk.new _ _ _
  have hz := h.alloc (.cells #[.int .i64 0, .int .i64 0, .int .i64 0, .int .i64 0] 25)
  go_wp2_with (at_make; refine wpList_make_full _ rfl _ _ 48 rfl (w.heap.size + 1) 2 i0 (.int .i64 0) 1 Try.underlying48 hi hz0 hz1 _ _ _ _ 4 rfl rfl rfl rfl (by rw [hz2]; decide) (by decide) (by simp) ?_)
  have hsz := Lib.hid (show (w.alloc (.cells #[.int .i64 0, .int .i64 0, .int .i64 0, .int .i64 0] 25)).heap.size = w.heap.size + 1 by simp)
  generalize w.alloc (.cells #[.int .i64 0, .int .i64 0, .int .i64 0, .int .i64 0] 25) = Wz at *
  intro w1 hown hg
  have HO : w1.ownsRow (w.heap.size + 1) 2 1 (.slice (some ⟨w.heap.size + 1, 0, none⟩) 4 4) 4 (ints [0, 0, 0, 0]) := by
    rw [toList_madeCells_one] at hown
    exact hown
  have HB : Below Wz.heap.size Wz w1 := (Below.refl _ _).grown hg (Nat.le_refl _) (fun k hk => by cases hk)
  clear hown hg hz0 hz1 hz2 hi
  go_wp2_with fail
  go_loopw [13] (fun i wr => ∃ k : Nat, k ≤ 4 ∧ i = .int .i64 k ∧ wr.ownsRow (w.heap.size + 1) 2 1 (.slice (some ⟨w.heap.size + 1, 0, none⟩) 4 4) 4 (ints (upd (efn vMid xs) [0, 0, 0, 0] k)) ∧ Below Wz.heap.size Wz wr) (fun i _ => 4 - (intOf i).toNat)
  case atStart => exact ⟨0, by omega, rfl, by rw [upd_zero]; exact HO, HB⟩
  case round =>
    clear HO HB
    obtain ⟨k, hk, rfl, ho, HB⟩ := hrel
    obtain ⟨wo, rfl⟩ : ∃ wo : World, wo = wr := ⟨_, rfl⟩
    by_cases hlt : k < 4
    · have hk4 : decide ((k : Int) < 4) = true := by simp; omega
      go_wp2_with fail
      go_loopw [7, 19] (fun v i wr => ∃ (m : Nat) (A' : Option Addr) (c' : Nat), m ≤ n ∧ i = .int .i64 m ∧ v = .slice A' m c' ∧ wr.ownsRow wo.heap.size 2 1 (.slice A' m c') m (ints (col (xs.take m) k)) ∧ Below wo.heap.size wo wr) (fun _ i _ => n - (intOf i).toNat)
      case atStart => exact ⟨0, _, _, by omega, rfl, rfl, own_lit rfl (by simp) (by decide) rfl rfl, by go_grown⟩
      case round =>
        obtain ⟨m, A', c', hm, rfl, rfl, hp, HP⟩ := hrel
        have hgo := hz.below (Bl.then HB HP)
        by_cases hlm : m < n
        · obtain ⟨b, off, rfl, hbl, q0, q1, q2, q3⟩ := hgo.feet hlm
          go_wp2_with fail
          refine (measures_any _ _ _ _ _).mono ?_
          rintro e w3 ⟨A3, c3, rfl, o3, hb3⟩
          have HP3 := Bl.then (Bl.alloc HP (.cells #[.int .i64 (feetAt xs m).l, .int .i64 (feetAt xs m).b, .int .i64 (feetAt xs m).i, .int .i64 (feetAt xs m).h] 25)) hb3
          have hp3 := own_below (hp.alloc (.cells #[.int .i64 (feetAt xs m).l, .int .i64 (feetAt xs m).b, .int .i64 (feetAt xs m).i, .int .i64 (feetAt xs m).h] 25)) hb3
          obtain ⟨bm, om, rfl, hbm, hcm⟩ := (Rd.of_own o3).int (k := k) (by omega)
          have hcs := Lib.hid (col_step (k := k) (show m < xs.length by rw [hlen.out]; exact hlm))
          clear o3 q0 q1 q2 q3
          go_wp2_with (at_builtin; refine wpList_app_int _ rfl _ _ rfl _ _ _ _ _ _ rfl hp3 rfl HP3.size (by omega) ?_; intro A2 c2 w2 ho2 hg2)
          go_roundw
          case rel => exact ⟨m + 1, A2, c2, by omega, by go_num, rfl, by rw [hcs.out] at ho2; exact ho2, app_below hp3 HP3 (Nat.le_refl _) HP3.size hg2⟩
          case measure => simp [intOf]; omega
        · obtain rfl : m = n := by omega
          have hcol := Lib.hid (show col (xs.take m) k = col xs k by rw [List.take_of_length_le (by rw [hlen.out]; exact Nat.le_refl _)])
          rw [hcol.out] at hp
          clear hlm
          go_wp2_with fail
          refine (Sort64_any _ _ _ _ _ _ hp (by omega) (by omega)).mono ?_
          rintro e w4 ⟨rfl, h4, hg4⟩
          have HP4 : Below wo.heap.size wo w4 := app_below hp HP (Nat.le_refl _) HP.size hg4
          have hal := srt_in (col_in hx'.out (k := k) hlt)
          go_wp2_with fail
          refine (vMid_any _ _ _ _ _ (Rd.of_own h4) (by omega) (by omega) hal).mono ?_
          rintro e w5 ⟨rfl, hb5⟩
          have HP5 := Bl.then HP4 hb5
          have ho5 := own_below ho HP5
          have HB5 := Bl.then HB HP5
          have hup := Lib.hid (upd_step (g := efn vMid xs) (zs := [0, 0, 0, 0]) (k := k) (x := vMid (srt (col xs k))) hlt rfl)
          have k1 := ho5.cellAt k (by omega)
          rw [ints_get (by rw [upd_len]; exact hlt)] at k1
          have hfr := ho5.frozenAt k
          clear hp h4 hal
          go_wp2_with fail
          go_roundw
          case rel =>
            have hst := ho5.stored k (.int .i64 (vMid (srt (col xs k))))
            rw [ints_setAt, hup.out] at hst
            exact ⟨k + 1, by omega, by go_num, hst.1, HB5.grown hst.2 HB5.size (by rintro q hq; cases hq; exact Nat.le_of_eq hsz.out)⟩
          case measure => simp [intOf]; omega
    · obtain rfl : k = 4 := by omega
      rw [hu.out] at ho
      go_wp2_with fail
      refine (footOf_any _ _ _ _ _ _ _ (Rd.of_own ho)).mono ?_
      rintro e w6 ⟨rfl, hb6⟩
      have HB6 := Bl.then HB hb6
      have B6 := B0.below HB6
      have d0 : w6.cell? ⟨w.heap.size, 0, none⟩ = some (.int .i64 0) := B6.cell 0
      have d1 : w6.cell? ⟨w.heap.size, 1, none⟩ = some (.int .i64 0) := B6.cell 1
      have d2 : w6.cell? ⟨w.heap.size, 2, none⟩ = some (.int .i64 0) := B6.cell 2
      have d3 : w6.cell? ⟨w.heap.size, 3, none⟩ = some (.int .i64 0) := B6.cell 3
      have fz := B6.frozen
      have HW := Bl.then HZ HB6
      go_wp2_with fail
      refine bodyPost_ret (v := .agg #[.int .i64 (eachOf vMid xs).l, .int .i64 (eachOf vMid xs).b, .int .i64 (eachOf vMid xs).i, .int .i64 (eachOf vMid xs).h]) (by simp [results, Try.results102, go_sem, d0, d1, d2, d3]) rfl ?_
      exact ⟨rfl, ((((HW.setCell (Nat.le_refl _) _).setCell (Nat.le_refl _) _).setCell (Nat.le_refl _) _).setCell (Nat.le_refl _) _)⟩
end Go.Proofs.Ytlbgognkaolamaa
