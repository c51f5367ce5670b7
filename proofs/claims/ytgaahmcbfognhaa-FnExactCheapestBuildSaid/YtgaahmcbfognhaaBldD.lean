/-
  CheapestBuild of the program; the condition of a slice argument is that it reads as the given list.
-/
import Derived.Test.YtgaahmcbfognhaaBldC
import Derived.Deep.RegionHeld3
import Derived.PlainAid
import Derived.Lib.OwnBridge
namespace Go.Proofs.Ytgaahmcbfognhaa
open Go.RowKit
set_option maxHeartbeats 3200000
set_option linter.unusedVariables false

theorem outB_okA {ps : List Int} : (outB ps 0 1000 = false → okA ps ps.length = true) ∧ (outB ps 0 1000 = true → okA ps ps.length = false) := by
  constructor
  · intro h
    refine okA_of fun j hj => ?_
    unfold outB at h
    rw [List.any_eq_false] at h
    have := h _ (List.getElem_mem hj)
    rw [ix_eq hj] at this
    simpa using this
  · intro h
    unfold outB at h
    rw [List.any_eq_true] at h
    obtain ⟨x, hx, h2⟩ := h
    obtain ⟨j, hj, rfl⟩ := List.getElem_of_mem hx
    rw [← Bool.not_eq_true]
    intro h3
    have h4 := okA_at h3 j hj
    rw [ix_eq hj, h4] at h2
    cases h2
theorem Clone_ints (A : Option Addr) (n c B : Nat) (zs : List Int) (w : World) (h : w.ownsRow B 2 1 (.slice A n c) n (ints zs)) (hn : n ≤ 1000) :
    Calls Try.prog 28 #[.slice A n c] w fun e w' => ∃ A' c', e = .returned (.slice A' n c') ∧ w'.ownsRow w.heap.size 2 1 (.slice A' n c') n (ints zs) ∧ Below w.heap.size w w' := by
  rcases h.2 with ⟨hv, h0⟩ | ⟨gy, cap, cur, hv, _⟩
  · obtain ⟨rfl, rfl, rfl⟩ : A = none ∧ n = 0 ∧ c = 0 := by simpa using hv
    have hys : zs = [] := List.eq_nil_of_length_eq_zero (own_int_len h)
    subst hys
    have hnil := fun (w : World) => Lib.run_eql_slice_nil (P := Try.prog) w 22 _ none 0 0 0 0 Try.underlying22
    go_enter Try.func28, Try.ntmps28
    go_wp2_with fail
    go_ret
    exact ⟨none, 0, rfl, World.ownsRow_nil _ _ _ _, Below.refl _ _⟩
  · obtain ⟨rfl, rfl⟩ : A = some ⟨gy, 0, none⟩ ∧ c = cap := by simpa using hv
    have HO := own_lit (W := w) (cs := #[]) (e := 2) (size := 1) (n := 0) (xs := ints []) rfl (Nat.le_refl w.heap.size) (by decide) rfl rfl
    have HB : Below w.heap.size w (w.alloc (.cells #[] 2)) := Bl.alloc (Below.refl _ _) _
    have hX := h.alloc (.cells #[] 2)
    have hnil := fun (w : World) => Lib.run_eql_slice_nil (P := Try.prog) w 22 _ (some ⟨gy, 0, none⟩) n c 0 0 Try.underlying22
    go_enter Try.func28, Try.ntmps28
    go_wp2_with (at_builtin; refine wpList_cat_ints _ rfl _ _ rfl w.heap.size w.heap.size 0 0 [] rfl HO _ n c zs rfl B hX HB.size (by omega) ?_; intro g6 c6 w6 ho6 hg6)
    go_ret
    have hb6 := app_below HO HB (Nat.le_refl _) HB.size hg6
    rw [Nat.zero_add] at ho6
    exact ⟨some ⟨g6, 0, none⟩, c6, rfl, ho6, hb6⟩
set_option maxRecDepth 100000 in
theorem CheapestBuild_any (A B : Option Addr) (n c np c2 : Nat) (zs ps : List Int) (sum : Int) (w : World) (h : Rd w 1 A n (ints zs)) (h2 : Rd w 1 B np (ints ps)) (hn : n ≤ 1048576) (hnp : np ≤ 1048576) :
    Calls Try.prog 16 #[.slice A n c, .slice B np c2, .int .i64 sum] w (RetB (cbR zs ps sum) w) := by
  have hlen := Lib.hid h.len
  have hlp := Lib.hid h2.len
  have hV := fun (W : World) (h : Rd W 1 A n (ints zs)) => ValidLayers_any A n c zs W h (by omega)
  have hO := fun (W : World) (h : Rd W 1 B np (ints ps)) => outside_any B np c2 ps 0 1000 W h (by omega)
  have hI := fun (W : World) => isBuild_any sum W
  cases h1 : layersOk zs
  · have hr := Lib.hid (show cbR zs ps sum = ([], 0, 1) by
      have e : lcode zs sum = 1 := by rw [lcode, h1]; rfl
      rw [cb_bad (by rw [e]; decide), e])
    rw [h1] at hV
    go_enter Try.func16, Try.ntmps16
    go_wp2_with fail
    refine (hV _ h).mono ?_
    rintro e w1 ⟨rfl, hb1⟩
    go_wp2_with fail
    go_ret3
    exact RetB.nil hr.out hb1
  rw [h1] at hV
  cases h3 : inR sum 0 1000
  · have hr := Lib.hid (show cbR zs ps sum = ([], 0, 2) by
      have e : lcode zs sum = 2 := by rw [lcode, h1, h3]; rfl
      rw [cb_bad (by rw [e]; decide), e])
    rw [h3] at hI
    go_enter Try.func16, Try.ntmps16
    go_wp2_with fail
    refine (hV _ h).mono ?_
    rintro e w1 ⟨rfl, hb1⟩
    go_wp2_with fail
    refine (hI _).mono ?_
    rintro e w2 ⟨rfl, rfl⟩
    go_wp2_with fail
    go_ret3
    exact RetB.nil hr.out hb1
  rw [h3] at hI
  have hl0 := Lib.hid (show lcode zs sum = 0 by rw [lcode, h1, h3]; rfl)
  by_cases hl : n = np
  rotate_left
  · have hr := Lib.hid (show cbR zs ps sum = ([], 0, 2) from cb_two hl0.out (by rw [okPr, hlen.out, hlp.out, decide_eq_false hl]; rfl))
    have hl2 : ((n : Int) == (np : Int)) = false := by rw [beq_eq_false_iff_ne]; omega
    have hl2' : ((np : Int) == (n : Int)) = false := by rw [beq_eq_false_iff_ne]; omega
    have hl3 : ¬ ((n : Int) = (np : Int)) := by omega
    have hl4 : ¬ ((np : Int) = (n : Int)) := by omega
    go_enter Try.func16, Try.ntmps16
    go_wp2_with fail
    refine (hV _ h).mono ?_
    rintro e w1 ⟨rfl, hb1⟩
    go_wp2_with fail
    refine (hI _).mono ?_
    rintro e w2 ⟨rfl, rfl⟩
    go_wp2_with fail
    go_ret3
    exact RetB.nil hr.out hb1
  subst hl
  cases h4 : outB ps 0 1000
  rotate_left
  · have hr := Lib.hid (show cbR zs ps sum = ([], 0, 2) from cb_two hl0.out (by rw [okPr, outB_okA.2 h4]; simp))
    rw [h4] at hO
    go_enter Try.func16, Try.ntmps16
    go_wp2_with fail
    refine (hV _ h).mono ?_
    rintro e w1 ⟨rfl, hb1⟩
    go_wp2_with fail
    refine (hI _).mono ?_
    rintro e w2 ⟨rfl, rfl⟩
    go_wp2_with fail
    refine (hO _ (h2.below hb1)).mono ?_
    rintro e w3 ⟨rfl, hb3⟩
    go_wp2_with fail
    go_ret3
    exact RetB.nil hr.out (Bl.then hb1 hb3)
  rw [h4] at hO
  have hop := Lib.hid (show okPr zs ps = true by rw [okPr, outB_okA.1 h4, hlen.out, hlp.out, decide_eq_true rfl]; rfl)
  obtain ⟨s0, s1⟩ := inR_true.1 h3
  obtain ⟨S, rfl⟩ : ∃ S : Nat, sum = S := ⟨sum.toNat, by omega⟩
  have hS : S ≤ 1000 := by omega
  have H := Lib.hid (bldH_of h1 hop.out)
  have hr := Lib.hid (cb_ok hl0.out hop.out)
  clear s0 s1 h1 h3 h4
  go_enter Try.func16, Try.ntmps16
  go_wp2_with fail
  refine (hV _ h).mono ?_
  rintro e w1 ⟨rfl, hb1⟩
  go_wp2_with fail
  refine (hI _).mono ?_
  rintro e w2 ⟨rfl, rfl⟩
  go_wp2_with fail
  refine (hO _ (h2.below hb1)).mono ?_
  rintro e w3 ⟨rfl, hb3⟩
  have HB3 := Bl.then hb1 hb3
  clear hb1 hb3 hV hI hO
  go_wp2_with fail
  refine (builds_any A B n c c2 zs ps S _ (h.below HB3) (h2.below HB3) H.out hS).mono ?_
  rintro e w4 ⟨es, rfl, ho, hE, hb4⟩
  have HB4 := Bl.then HB3 hb4
  have hesl := Lib.hid (own_blds_len ho)
  have hES := Lib.hid (hE S (Nat.le_refl _))
  have hg2 : w.heap.size ≤ w3.heap.size := HB3.size
  generalize w3.heap.size = gB at *
  have r0 := ho.cellAt (S * 3) (by omega)
  rw [blds_get0 (by rw [hesl.out]; omega)] at r0
  have r1 := ho.cellAt (S * 3 + 1) (by omega)
  rw [blds_get1 (by rw [hesl.out]; omega)] at r1
  have r2 := ho.cellAt (S * 3 + 2) (by omega)
  rw [blds_get2 (by rw [hesl.out]; omega)] at r2
  have hlg := (ho.lt gB rfl).2
  generalize bAt es S = em at *
  obtain ⟨ep, eA, en, ec, ek⟩ := em
  simp only at r0 r1 r2
  have hek : ek = decide (0 ≤ tT zs ps S) := hES.out.1
  have hS1 : (S : Int) < (S : Int) + 1 := by omega
  have hS2 : S < S + 1 := by omega
  clear hE h h2 ho hb4 HB3
  by_cases hT : 0 ≤ tT zs ps S
  rotate_left
  · have hk9 : ek = false := by rw [hek]; exact decide_eq_false hT
    subst hk9
    have hr3 := Lib.hid (show cbR zs ps (S : Int) = ([], 0, 3) by rw [hr.out, if_pos (by omega)])
    have HBX := Bl.alloc HB4 (.cells #[.int .i64 ep, .slice eA en ec, .bool false] 40)
    clear hT hek hES
    go_wp2_with fail
    go_ret3
    exact RetB.nil hr3.out HBX
  have hk9 : ek = true := by rw [hek]; exact decide_eq_true hT
  subst hk9
  obtain ⟨hep, hen, hor⟩ := hES.out.2 hT
  simp only at hep hen hor
  have hr3 := Lib.hid (show cbR zs ps (S : Int) = (gG zs ps S, ep, 0) by rw [hr.out, if_neg (by omega), hep])
  have hen' : en ≤ 1000 := by have := (gG_bd H.out S hS hT).1; omega
  have BX := Blk.new w4 40 #[.int .i64 ep, .slice eA en ec, .bool true]
  have HBX := Bl.alloc HB4 (.cells #[.int .i64 ep, .slice eA en ec, .bool true] 40)
  have hoX := hor.alloc (.cells #[.int .i64 ep, .slice eA en ec, .bool true] 40)
  clear hT hek hES hep hen hor HB4
  go_upto_region 8 with fail
  clear r0 r1 r2 hlg
  generalize w4.alloc (.cells #[.int .i64 ep, .slice eA en ec, .bool true] 40) = w5 at *
  generalize w4.heap.size = gr at *
  have r0 : w5.cell? ⟨gr, 0, none⟩ = some (.int .i64 ep) := BX.cell 0
  have r1 : w5.cell? ⟨gr, 1, none⟩ = some (.slice eA en ec) := BX.cell 1
  have lr := BX.lt
  refine wp_region_held_drew (S := (fun wz => Below w5.heap.size w5 wz ∧ wz.cell? ⟨gr, 0, none⟩ = some (.int .i64 ep) ∧ wz.cell? ⟨gr, 1, none⟩ = some (.slice eA en ec))) (by kernel_rfl) ⟨Below.drew (Below.refl _ _), r0, r1⟩ (fun hHeld => ?_)
  refine wpAnyH_take (i := 0) (oi := ?_) (v := ?_) ?_ (by kernel_rfl) (by kernel_rfl) (by kernel_rfl) ?_ (Or.inl ⟨?_, ?_⟩) (by assumption) ?_
  rotate_left 2
  · (simp only [List.getElem?_toArray, List.getElem?_cons_zero]; rfl)
  · exact fun _ _ _ h => h
  · rfl
  · intro w hSw
    (try dsimp only at hSw)
    go_simp
    try with_reducible rfl
  simp only [put_arr, List.set_cons_zero, List.set_cons_succ]
  refine wpAnyH_take (i := 1) (oi := ?_) (v := ?_) ?_ (by kernel_rfl) (by kernel_rfl) (by kernel_rfl) ?_ (Or.inl ⟨?_, ?_⟩) (by assumption) ?_
  rotate_left 2
  · (simp only [List.getElem?_toArray, List.getElem?_cons_zero, List.getElem?_cons_succ]; rfl)
  · exact fun _ _ _ h => h
  · rfl
  · intro w hSw
    (try dsimp only at hSw)
    go_simp
    try with_reducible rfl
  simp only [put_arr, List.set_cons_zero, List.set_cons_succ]
  refine wpAnyH_take (i := 3) (oi := ?_) (v := ?_) ?_ (by kernel_rfl) (by kernel_rfl) (by kernel_rfl) ?_ (Or.inl ⟨?_, ?_⟩) (by assumption) ?_
  rotate_left 2
  · (simp only [List.getElem?_toArray, List.getElem?_cons_zero, List.getElem?_cons_succ]; rfl)
  · exact fun _ _ _ h => h
  · rfl
  · intro w hSw
    (try dsimp only at hSw)
    go_simp
    try with_reducible rfl
  simp only [put_arr, List.set_cons_zero, List.set_cons_succ]
  refine wpAnyH_take (i := 4) (oi := ?_) (v := ?_) ?_ (by kernel_rfl) (by kernel_rfl) (by kernel_rfl) ?_ (Or.inl ⟨?_, ?_⟩) (by assumption) ?_
  rotate_left 2
  · (simp only [List.getElem?_toArray, List.getElem?_cons_zero, List.getElem?_cons_succ]; rfl)
  · exact fun _ _ _ h => h
  · rfl
  · intro w hSw
    (try dsimp only at hSw)
    go_simp
    try with_reducible rfl
  simp only [put_arr, List.set_cons_zero, List.set_cons_succ]
  refine wpAnyH_ready (rs := [2]) (by kernel_rfl) (by simp) ?_
  refine AllReadyH.cons (o := ?_) ?_ (fun K hK => ?_) AllReadyH.nil
  rotate_left
  · (simp only [List.getElem?_toArray, List.getElem?_cons_zero, List.getElem?_cons_succ]; rfl)
  rw [if_pos (by rfl)]
  go_simp
  refine Calls.mono (Clone_ints eA en ec (gB + 1) (gG zs ps S) _ (own_below hoX hHeld.1) hen') ?_
  rintro e w8 ⟨A8, c8, rfl, o8, hb8⟩
  have HZ := Bl.then (w := w5) hHeld.1 hb8
  have o8 := ownsRow_le' o8 (Below.size (w := w5) hHeld.1)
  go_wp2_with fail
  refine hK.out _ _ (⟨HZ, (HZ.cell (p := ⟨gr, 0, none⟩) lr).trans r0, (HZ.cell (p := ⟨gr, 1, none⟩) lr).trans r1⟩) (fun hHeld2 => ?_)
  clear hK K hHeld
  have hHeld := hHeld2
  clear hHeld2
  refine wpAnyH_take (i := 5) (oi := ?_) (v := ?_) ?_ (by kernel_rfl) (by kernel_rfl) (by kernel_rfl) ?_ (Or.inl ⟨?_, ?_⟩) (by assumption) ?_
  rotate_left 2
  · (simp only [List.getElem?_toArray, List.getElem?_cons_zero, List.getElem?_cons_succ]; rfl)
  · exact fun _ _ _ h => h
  · rfl
  · intro w hSw
    (try dsimp only at hSw)
    go_simp
    try with_reducible rfl
  simp only [put_arr, List.set_cons_zero, List.set_cons_succ]
  refine wpAnyH_take (i := 6) (oi := ?_) (v := ?_) ?_ (by kernel_rfl) (by kernel_rfl) (by kernel_rfl) ?_ (Or.inl ⟨?_, ?_⟩) (by assumption) ?_
  rotate_left 2
  · (simp only [List.getElem?_toArray, List.getElem?_cons_zero, List.getElem?_cons_succ]; rfl)
  · exact fun _ _ _ h => h
  · rfl
  · intro w hSw
    (try dsimp only at hSw)
    go_simp
    try with_reducible rfl
  simp only [put_arr, List.set_cons_zero, List.set_cons_succ]
  refine wpAnyH_take (i := 7) (oi := ?_) (v := ?_) ?_ (by kernel_rfl) (by kernel_rfl) (by kernel_rfl) ?_ (Or.inl ⟨?_, ?_⟩) (by assumption) ?_
  rotate_left 2
  · (simp only [List.getElem?_toArray, List.getElem?_cons_zero, List.getElem?_cons_succ]; rfl)
  · exact fun _ _ _ h => h
  · rfl
  · intro w hSw
    (try dsimp only at hSw)
    go_simp
    try with_reducible rfl
  simp only [put_arr, List.set_cons_zero, List.set_cons_succ]
  refine wpAnyH_done (by kernel_rfl) ?_ _
  go_wp2_with fail
  go_ret3
  exact RetB.mk hr3.out (ownsRow_le' o8 HBX.size) (Bl.then HBX (And.left (by assumption)))
end Go.Proofs.Ytgaahmcbfognhaa
