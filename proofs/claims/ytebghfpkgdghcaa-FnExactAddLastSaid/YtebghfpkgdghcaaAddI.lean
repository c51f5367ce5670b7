/-
  AddLast of the program. Names are any strings that Go can hold; the slice is one of the caller's own rows.
-/
import Derived.Test.YtebghfpkgdghcaaAddP
import Derived.Test.YtebghfpkgdghcaaInsA
import Derived.Test.YtebghfpkgdghcaaCloneL
import Derived.Deep.RegionWith
import Derived.Deep.DeepCutAuto
namespace Go.Proofs.Ytebghfpkgdghcaa
open Go.RowKit
set_option maxHeartbeats 3200000
set_option linter.unusedVariables false

theorem cut_le (xs : List LastD) (t : ByteArray) : cutAt xs t ≤ xs.length := by
  unfold cutAt firstOf
  cases h : (List.range xs.length).find? (fun k => !before xs t k) with
  | none => exact Nat.le_refl _
  | some k => have := List.mem_range.1 (List.mem_of_find?_eq_some h); exact Nat.le_of_lt this
theorem ownG_lt {w : World} {base k n c g : Nat} {E : TypeId} {xs : List Value} (h : w.ownsRow base E k (.slice (some ⟨g, 0, none⟩) n c) n xs) : g < w.heap.size := by
  rcases own_cases h with ⟨h1, _, _⟩ | ⟨g', h1, _, h2, _⟩
  · cases h1
  · cases h1; exact h2
set_option maxRecDepth 100000 in
theorem AddLast_any (lo : Nat) (A : Option Addr) (n c : Nat) (xs : List LastD) (x : LastD) (w : World) (hO : w.ownsRow lo 31 6 (.slice A n c) n (lasts xs)) (hx : ∀ y ∈ xs, y.s.size ≤ maxLen) (hn : n ≤ 1048576) (hs : x.s.size ≤ maxLen) :
    Calls Try.prog 9 #[.slice A n c, .agg #[.string x.s, .int .i64 x.l, .int .i64 x.b, .int .i64 x.i, .int .i64 x.h, .int .i64 x.p]] w (RetLs (addR xs x) w) := by
  have hX := Rd.of_own hO
  have hxl := Lib.hid hX.lasts_length
  have h1L : lOk x = lastOk x.s x.l x.b x.i x.h x.p := rfl
  cases h1 : lastsOk xs
  · have hr := Lib.hid (show addR xs x = ([], 1) by simp [addR, h1])
    clear h1L
    go_enter Try.func9, Try.ntmps9
    go_wp2_with fail
    refine (ValidLasts_any _ _ _ _ _ (hX.alloc _) (by omega) hx).mono ?_
    rintro e w1 ⟨rfl, H1⟩
    have BX := (Blk.new w 31 #[.string x.s, .int .i64 x.l, .int .i64 x.b, .int .i64 x.i, .int .i64 x.h, .int .i64 x.p]).below H1
    have HW : Below w.heap.size w w1 := Bl.then (by go_grown) H1
    clear H1
    have cX0 : w1.cell? ⟨w.heap.size, 0, none⟩ = some (.string x.s) := BX.cell 0
    have cX1 : w1.cell? ⟨w.heap.size, 1, none⟩ = some (.int .i64 x.l) := BX.cell 1
    have cX2 : w1.cell? ⟨w.heap.size, 2, none⟩ = some (.int .i64 x.b) := BX.cell 2
    have cX3 : w1.cell? ⟨w.heap.size, 3, none⟩ = some (.int .i64 x.i) := BX.cell 3
    have cX4 : w1.cell? ⟨w.heap.size, 4, none⟩ = some (.int .i64 x.h) := BX.cell 4
    have cX5 : w1.cell? ⟨w.heap.size, 5, none⟩ = some (.int .i64 x.p) := BX.cell 5
    have lX := BX.lt
    go_wp2_with fail
    go_ret2
    exact RetLs.nil hr.out HW
  cases h2 : lastOk x.s x.l x.b x.i x.h x.p
  · have hr := Lib.hid (show addR xs x = ([], 2) by simp [addR, h1, h1L, h2])
    clear h1L
    go_enter Try.func9, Try.ntmps9
    go_wp2_with fail
    refine (ValidLasts_any _ _ _ _ _ (hX.alloc _) (by omega) hx).mono ?_
    rintro e w1 ⟨rfl, H1⟩
    have BX := (Blk.new w 31 #[.string x.s, .int .i64 x.l, .int .i64 x.b, .int .i64 x.i, .int .i64 x.h, .int .i64 x.p]).below H1
    have HW : Below w.heap.size w w1 := Bl.then (by go_grown) H1
    clear H1
    have cX0 : w1.cell? ⟨w.heap.size, 0, none⟩ = some (.string x.s) := BX.cell 0
    have cX1 : w1.cell? ⟨w.heap.size, 1, none⟩ = some (.int .i64 x.l) := BX.cell 1
    have cX2 : w1.cell? ⟨w.heap.size, 2, none⟩ = some (.int .i64 x.b) := BX.cell 2
    have cX3 : w1.cell? ⟨w.heap.size, 3, none⟩ = some (.int .i64 x.i) := BX.cell 3
    have cX4 : w1.cell? ⟨w.heap.size, 4, none⟩ = some (.int .i64 x.h) := BX.cell 4
    have cX5 : w1.cell? ⟨w.heap.size, 5, none⟩ = some (.int .i64 x.p) := BX.cell 5
    have lX := BX.lt
    go_wp2_with fail
    refine (validLast_is hs h2).mono ?_
    rintro e w2 ⟨rfl, hb2⟩
    clear cX0 cX1 cX2 cX3 cX4 cX5 lX
    replace BX := BX.below hb2
    replace HW := Bl.then HW hb2
    have cX0 : w2.cell? ⟨w.heap.size, 0, none⟩ = some (.string x.s) := BX.cell 0
    have cX1 : w2.cell? ⟨w.heap.size, 1, none⟩ = some (.int .i64 x.l) := BX.cell 1
    have cX2 : w2.cell? ⟨w.heap.size, 2, none⟩ = some (.int .i64 x.b) := BX.cell 2
    have cX3 : w2.cell? ⟨w.heap.size, 3, none⟩ = some (.int .i64 x.i) := BX.cell 3
    have cX4 : w2.cell? ⟨w.heap.size, 4, none⟩ = some (.int .i64 x.h) := BX.cell 4
    have cX5 : w2.cell? ⟨w.heap.size, 5, none⟩ = some (.int .i64 x.p) := BX.cell 5
    have lX := BX.lt
    go_wp2_with fail
    go_ret2
    exact RetLs.nil hr.out HW
  have hrih := Lib.hid (rising_of h1)
  cases h3 : knownAt xs x.s
  rotate_left
  · have hr := Lib.hid (show addR xs x = ([], 4) by simp [addR, h1, h1L, h2, h3])
    clear h1L
    go_enter Try.func9, Try.ntmps9
    go_wp2_with fail
    refine (ValidLasts_any _ _ _ _ _ (hX.alloc _) (by omega) hx).mono ?_
    rintro e w1 ⟨rfl, H1⟩
    have BX := (Blk.new w 31 #[.string x.s, .int .i64 x.l, .int .i64 x.b, .int .i64 x.i, .int .i64 x.h, .int .i64 x.p]).below H1
    have HW : Below w.heap.size w w1 := Bl.then (by go_grown) H1
    clear H1
    have cX0 : w1.cell? ⟨w.heap.size, 0, none⟩ = some (.string x.s) := BX.cell 0
    have cX1 : w1.cell? ⟨w.heap.size, 1, none⟩ = some (.int .i64 x.l) := BX.cell 1
    have cX2 : w1.cell? ⟨w.heap.size, 2, none⟩ = some (.int .i64 x.b) := BX.cell 2
    have cX3 : w1.cell? ⟨w.heap.size, 3, none⟩ = some (.int .i64 x.i) := BX.cell 3
    have cX4 : w1.cell? ⟨w.heap.size, 4, none⟩ = some (.int .i64 x.h) := BX.cell 4
    have cX5 : w1.cell? ⟨w.heap.size, 5, none⟩ = some (.int .i64 x.p) := BX.cell 5
    have lX := BX.lt
    go_wp2_with fail
    refine (validLast_is hs h2).mono ?_
    rintro e w2 ⟨rfl, hb2⟩
    clear cX0 cX1 cX2 cX3 cX4 cX5 lX
    replace BX := BX.below hb2
    replace HW := Bl.then HW hb2
    have cX0 : w2.cell? ⟨w.heap.size, 0, none⟩ = some (.string x.s) := BX.cell 0
    have cX1 : w2.cell? ⟨w.heap.size, 1, none⟩ = some (.int .i64 x.l) := BX.cell 1
    have cX2 : w2.cell? ⟨w.heap.size, 2, none⟩ = some (.int .i64 x.b) := BX.cell 2
    have cX3 : w2.cell? ⟨w.heap.size, 3, none⟩ = some (.int .i64 x.i) := BX.cell 3
    have cX4 : w2.cell? ⟨w.heap.size, 4, none⟩ = some (.int .i64 x.h) := BX.cell 4
    have cX5 : w2.cell? ⟨w.heap.size, 5, none⟩ = some (.int .i64 x.p) := BX.cell 5
    have lX := BX.lt
    go_wp2_with fail
    refine (lastPlace_any _ _ _ _ _ _ (hX.below HW) hn hrih.out).mono ?_
    rintro e w3 ⟨rfl, hb3⟩
    clear cX0 cX1 cX2 cX3 cX4 cX5 lX
    replace BX := BX.below hb3
    replace HW := Bl.then HW hb3
    have cX0 : w3.cell? ⟨w.heap.size, 0, none⟩ = some (.string x.s) := BX.cell 0
    have cX1 : w3.cell? ⟨w.heap.size, 1, none⟩ = some (.int .i64 x.l) := BX.cell 1
    have cX2 : w3.cell? ⟨w.heap.size, 2, none⟩ = some (.int .i64 x.b) := BX.cell 2
    have cX3 : w3.cell? ⟨w.heap.size, 3, none⟩ = some (.int .i64 x.i) := BX.cell 3
    have cX4 : w3.cell? ⟨w.heap.size, 4, none⟩ = some (.int .i64 x.h) := BX.cell 4
    have cX5 : w3.cell? ⟨w.heap.size, 5, none⟩ = some (.int .i64 x.p) := BX.cell 5
    have lX := BX.lt
    go_wp2_with fail
    go_ret2
    exact RetLs.nil hr.out HW
  by_cases h4 : 30 ≤ xs.length
  · have hr := Lib.hid (show addR xs x = ([], 5) by simp [addR, h1, h1L, h2, h3, h4])
    have h30 : n = 30 := by have := (lastsOk_bd h1).1; have := hxl.out; omega
    subst h30
    clear h1L
    go_enter Try.func9, Try.ntmps9
    go_wp2_with fail
    refine (ValidLasts_any _ _ _ _ _ (hX.alloc _) (by omega) hx).mono ?_
    rintro e w1 ⟨rfl, H1⟩
    have BX := (Blk.new w 31 #[.string x.s, .int .i64 x.l, .int .i64 x.b, .int .i64 x.i, .int .i64 x.h, .int .i64 x.p]).below H1
    have HW : Below w.heap.size w w1 := Bl.then (by go_grown) H1
    clear H1
    have cX0 : w1.cell? ⟨w.heap.size, 0, none⟩ = some (.string x.s) := BX.cell 0
    have cX1 : w1.cell? ⟨w.heap.size, 1, none⟩ = some (.int .i64 x.l) := BX.cell 1
    have cX2 : w1.cell? ⟨w.heap.size, 2, none⟩ = some (.int .i64 x.b) := BX.cell 2
    have cX3 : w1.cell? ⟨w.heap.size, 3, none⟩ = some (.int .i64 x.i) := BX.cell 3
    have cX4 : w1.cell? ⟨w.heap.size, 4, none⟩ = some (.int .i64 x.h) := BX.cell 4
    have cX5 : w1.cell? ⟨w.heap.size, 5, none⟩ = some (.int .i64 x.p) := BX.cell 5
    have lX := BX.lt
    go_wp2_with fail
    refine (validLast_is hs h2).mono ?_
    rintro e w2 ⟨rfl, hb2⟩
    clear cX0 cX1 cX2 cX3 cX4 cX5 lX
    replace BX := BX.below hb2
    replace HW := Bl.then HW hb2
    have cX0 : w2.cell? ⟨w.heap.size, 0, none⟩ = some (.string x.s) := BX.cell 0
    have cX1 : w2.cell? ⟨w.heap.size, 1, none⟩ = some (.int .i64 x.l) := BX.cell 1
    have cX2 : w2.cell? ⟨w.heap.size, 2, none⟩ = some (.int .i64 x.b) := BX.cell 2
    have cX3 : w2.cell? ⟨w.heap.size, 3, none⟩ = some (.int .i64 x.i) := BX.cell 3
    have cX4 : w2.cell? ⟨w.heap.size, 4, none⟩ = some (.int .i64 x.h) := BX.cell 4
    have cX5 : w2.cell? ⟨w.heap.size, 5, none⟩ = some (.int .i64 x.p) := BX.cell 5
    have lX := BX.lt
    go_wp2_with fail
    refine (lastPlace_any _ _ _ _ _ _ (hX.below HW) hn hrih.out).mono ?_
    rintro e w3 ⟨rfl, hb3⟩
    clear cX0 cX1 cX2 cX3 cX4 cX5 lX
    replace BX := BX.below hb3
    replace HW := Bl.then HW hb3
    have cX0 : w3.cell? ⟨w.heap.size, 0, none⟩ = some (.string x.s) := BX.cell 0
    have cX1 : w3.cell? ⟨w.heap.size, 1, none⟩ = some (.int .i64 x.l) := BX.cell 1
    have cX2 : w3.cell? ⟨w.heap.size, 2, none⟩ = some (.int .i64 x.b) := BX.cell 2
    have cX3 : w3.cell? ⟨w.heap.size, 3, none⟩ = some (.int .i64 x.i) := BX.cell 3
    have cX4 : w3.cell? ⟨w.heap.size, 4, none⟩ = some (.int .i64 x.h) := BX.cell 4
    have cX5 : w3.cell? ⟨w.heap.size, 5, none⟩ = some (.int .i64 x.p) := BX.cell 5
    have lX := BX.lt
    go_wp2_with fail
    go_ret2
    exact RetLs.nil hr.out HW
  have hr := Lib.hid (show addR xs x = (insL xs (cutAt xs x.s) x, 0) by simp [addR, h1, h1L, h2, h3, h4])
  have h30 : n < 30 := by have := hxl.out; omega
  have h30' : ¬ ((n : Int) = 30) := by omega
  have h30'' : ¬ (n = 30) := by omega
  have hcut : cutAt xs x.s ≤ n := by have := cut_le xs x.s; have := hxl.out; omega
  clear h1L h4
  go_enter Try.func9, Try.ntmps9
  go_wp2_with fail
  refine (ValidLasts_any _ _ _ _ _ (hX.alloc _) (by omega) hx).mono ?_
  rintro e w1 ⟨rfl, H1⟩
  have BX := (Blk.new w 31 #[.string x.s, .int .i64 x.l, .int .i64 x.b, .int .i64 x.i, .int .i64 x.h, .int .i64 x.p]).below H1
  have HW : Below w.heap.size w w1 := Bl.then (by go_grown) H1
  clear H1
  have cX0 : w1.cell? ⟨w.heap.size, 0, none⟩ = some (.string x.s) := BX.cell 0
  have cX1 : w1.cell? ⟨w.heap.size, 1, none⟩ = some (.int .i64 x.l) := BX.cell 1
  have cX2 : w1.cell? ⟨w.heap.size, 2, none⟩ = some (.int .i64 x.b) := BX.cell 2
  have cX3 : w1.cell? ⟨w.heap.size, 3, none⟩ = some (.int .i64 x.i) := BX.cell 3
  have cX4 : w1.cell? ⟨w.heap.size, 4, none⟩ = some (.int .i64 x.h) := BX.cell 4
  have cX5 : w1.cell? ⟨w.heap.size, 5, none⟩ = some (.int .i64 x.p) := BX.cell 5
  have lX := BX.lt
  go_wp2_with fail
  refine (validLast_is hs h2).mono ?_
  rintro e w2 ⟨rfl, hb2⟩
  clear cX0 cX1 cX2 cX3 cX4 cX5 lX
  replace BX := BX.below hb2
  replace HW := Bl.then HW hb2
  have cX0 : w2.cell? ⟨w.heap.size, 0, none⟩ = some (.string x.s) := BX.cell 0
  have cX1 : w2.cell? ⟨w.heap.size, 1, none⟩ = some (.int .i64 x.l) := BX.cell 1
  have cX2 : w2.cell? ⟨w.heap.size, 2, none⟩ = some (.int .i64 x.b) := BX.cell 2
  have cX3 : w2.cell? ⟨w.heap.size, 3, none⟩ = some (.int .i64 x.i) := BX.cell 3
  have cX4 : w2.cell? ⟨w.heap.size, 4, none⟩ = some (.int .i64 x.h) := BX.cell 4
  have cX5 : w2.cell? ⟨w.heap.size, 5, none⟩ = some (.int .i64 x.p) := BX.cell 5
  have lX := BX.lt
  go_wp2_with fail
  refine (lastPlace_any _ _ _ _ _ _ (hX.below HW) hn hrih.out).mono ?_
  rintro e w3 ⟨rfl, hb3⟩
  clear cX0 cX1 cX2 cX3 cX4 cX5 lX
  replace BX := BX.below hb3
  replace HW := Bl.then HW hb3
  have cX0 : w3.cell? ⟨w.heap.size, 0, none⟩ = some (.string x.s) := BX.cell 0
  have cX1 : w3.cell? ⟨w.heap.size, 1, none⟩ = some (.int .i64 x.l) := BX.cell 1
  have cX2 : w3.cell? ⟨w.heap.size, 2, none⟩ = some (.int .i64 x.b) := BX.cell 2
  have cX3 : w3.cell? ⟨w.heap.size, 3, none⟩ = some (.int .i64 x.i) := BX.cell 3
  have cX4 : w3.cell? ⟨w.heap.size, 4, none⟩ = some (.int .i64 x.h) := BX.cell 4
  have cX5 : w3.cell? ⟨w.heap.size, 5, none⟩ = some (.int .i64 x.p) := BX.cell 5
  have lX := BX.lt
  go_upto_region 10 with fail
  have hW := own_below hO HW
  generalize cutAt xs x.s = i at *
  generalize w3 = wr at *
  rcases own_cases hO with ⟨rfl, rfl, rfl⟩ | ⟨b, rfl, hlo, hgl, hnc⟩
  · obtain rfl : xs = [] := List.eq_nil_of_length_eq_zero hxl.out
    obtain rfl : i = 0 := by omega
    go_region_with (first
      | (go_at_call 20; refine (Clone_none _).mono ?_; rintro e wc ⟨rfl, rfl⟩)
      | (go_at_call 19; go_loud (refine (Insert_nil wr.heap.size _ x _ ?_ ?_).mono ?_; simp; exact Blk.new wr 31 #[.string x.s, .int .i64 x.l, .int .i64 x.b, .int .i64 x.i, .int .i64 x.h, .int .i64 x.p]; rintro e w8 ⟨g8, c8, rfl, o8, hb8⟩)))
    all_goals
      have HP8 : Below wr.heap.size wr w8 := (((Below.refl wr.heap.size wr).alloc (Nat.le_refl _) _).drew).trans hb8
      go_wp2_with fail
      go_ret2
      exact RetLs.mk (n := 1) (zs := [x]) (by rw [hr.out]; rfl) rfl (ownsRow_le' o8 HW.size) (Bl.then HW HP8)
  · have hO1 : wr.drew.ownsRow lo 31 6 (.slice (some ⟨b, 0, none⟩) n c) n (lasts xs) := hW
    have hO2 : (wr.alloc (.cells #[.string x.s, .int .i64 x.l, .int .i64 x.b, .int .i64 x.i, .int .i64 x.h, .int .i64 x.p] 31)).drew.ownsRow lo 31 6 (.slice (some ⟨b, 0, none⟩) n c) n (lasts xs) := hW.alloc (.cells #[.string x.s, .int .i64 x.l, .int .i64 x.b, .int .i64 x.i, .int .i64 x.h, .int .i64 x.p] 31)
    have hn30 : n ≤ 30 := by omega
    go_region_with (first
      | (go_at_call 20
         go_loud (refine (Clone_lasts lo b n c xs _ (by assumption) hn30).mono ?_
                  rintro e wc ⟨gc, cc, rfl, hgc, oc, hbc⟩
                  have xc : ∀ k, wc.cell? ⟨w.heap.size, k, none⟩ = (#[.string x.s, .int .i64 x.l, .int .i64 x.b, .int .i64 x.i, .int .i64 x.h, .int .i64 x.p] : Array Value)[k]? := by first | exact (Blk.below (w := wr.drew) BX hbc).cell | exact (Blk.below (w := (wr.alloc (.cells #[.string x.s, .int .i64 x.l, .int .i64 x.b, .int .i64 x.i, .int .i64 x.h, .int .i64 x.p] 31)).drew) (BX.alloc _) hbc).cell))
      | (go_at_call 19
         go_loud (first
           | (with_reducible refine (Insert_any wr.heap.size gc n cc i wc.heap.size xs x _ ?_ ?_ ?_ ?_ hn30 hcut).mono ?_
              · exact oc.alloc (.cells #[.string x.s, .int .i64 x.l, .int .i64 x.b, .int .i64 x.i, .int .i64 x.h, .int .i64 x.p] 31)
              · exact Nat.le_trans hbc.size (by simp)
              · exact Blk.new wc 31 #[.string x.s, .int .i64 x.l, .int .i64 x.b, .int .i64 x.i, .int .i64 x.h, .int .i64 x.p]
              · exact fun e => absurd (ownG_lt oc) (by omega)
              rintro e w8 ⟨g8, c8, rfl, o8, hb8⟩
              have HP8 : Below wr.heap.size wr w8 := ((Below.refl wr.heap.size wr).drew.trans (Below.alloc hbc hbc.size (.cells #[.string x.s, .int .i64 x.l, .int .i64 x.b, .int .i64 x.i, .int .i64 x.h, .int .i64 x.p] 31))).trans hb8)
           | (refine (Insert_any wr.heap.size gc n cc i wr.heap.size xs x _ ?_ ?_ ?_ ?_ hn30 hcut).mono ?_
              · exact ownsRow_le' oc (by simp)
              · exact Nat.le_trans (by simp) hbc.size
              · exact (Blk.new wr 31 #[.string x.s, .int .i64 x.l, .int .i64 x.b, .int .i64 x.i, .int .i64 x.h, .int .i64 x.p]).drew.below hbc
              · simp at hgc; omega
              rintro e w8 ⟨g8, c8, rfl, o8, hb8⟩
              have HP8 : Below wr.heap.size wr w8 := (((Below.refl wr.heap.size wr).alloc (Nat.le_refl _) _).drew.trans (hbc.mono (by simp))).trans hb8))))
    all_goals
      go_wp2_with fail
      go_ret2
      exact RetLs.mk (by rw [hr.out]) (by rw [insL_len]; have := hxl.out; omega) (ownsRow_le' o8 HW.size) (Bl.then HW HP8)
end Go.Proofs.Ytebghfpkgdghcaa
