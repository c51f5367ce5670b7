/-
  UnreachedSums and FewestLayers of the program; the condition of a slice argument is that it reads as the given list.
-/
import Derived.Test.YtgaahmcbfognhaaBldU
import Derived.Deep.DeepCutAuto
namespace Go.Proofs.Ytgaahmcbfognhaa
open Go.RowKit
set_option maxHeartbeats 1600000
set_option linter.unusedVariables false

set_option maxRecDepth 100000 in
theorem UnreachedSums_any (A : Option Addr) (n c : Nat) (zs : List Int) (sum : Int) (w0 : World) (h : Rd w0 1 A n (ints zs)) (hn : n ≤ 1048576) :
    Calls Try.prog 12 #[.slice A n c, .int .i64 sum] w0 (RetInts (unR zs sum) w0) := by
  have hlen := Lib.hid h.len
  have hco := fun (W : World) (h : Rd W 1 A n (ints zs)) => layersCode_any A n c zs sum W h (by omega)
  have hr := Lib.hid (show ∀ x, lcode zs sum = x → x ≠ 0 → unR zs sum = ([], x) from fun x h1 h2 => by subst h1; exact if_neg h2)
  generalize hcd : lcode zs sum = cd at hco
  by_cases hc0 : cd = 0
  rotate_left
  · have hr2 := Lib.hid (hr.out cd hcd hc0)
    clear hcd hr
    go_enter Try.func12, Try.ntmps12
    go_wp2_with fail
    refine (hco _ h).mono ?_
    rintro e w1 ⟨rfl, hb1⟩
    go_wp2_with fail
    go_ret2
    exact RetInts.nil hr2.out hb1
  subst hc0
  obtain ⟨hok, hs0, hs1⟩ := lcode_zero hcd
  obtain ⟨S, rfl⟩ : ∃ S : Nat, sum = S := ⟨sum.toNat, by omega⟩
  have hS : S ≤ 1000 := by omega
  have H := Lib.hid (bldH_rep hok)
  have hn8 : n ≤ 8 := by have := (layersOk_bd hok).2.1; have := hlen.out; omega
  have hrs := Lib.hid (show unR zs (S : Int) = (unA zs (S + 1), 0) by unfold unR; rw [if_pos hcd, Int.toNat_natCast])
  clear hr hcd hok hs0 hs1
  go_enter Try.func12, Try.ntmps12
  go_wp2_with fail
  refine (hco _ h).mono ?_
  rintro e w1 ⟨rfl, hb1⟩
  replace h := h.below hb1
  have HO := own_lit (W := w1) (cs := #[]) (e := 2) (size := 1) (n := 0) (xs := ints (unA zs 0)) rfl (Nat.le_refl w1.heap.size) (by decide) rfl rfl
  have HB1 : Below w1.heap.size w1 (w1.alloc (.cells #[] 2)) := Bl.alloc (Below.refl _ _) _
  go_upto_region 5 with fail
  have hwm : w1.heap.size < (w1.alloc (.cells #[] 2)).heap.size := by simp
  generalize w1.alloc (.cells #[] 2) = wm at *
  obtain ⟨i0, hi, hz0, hz1, hz2⟩ := info_parts int_info
  go_wp2_with (at_make; refine wpList_make_full _ rfl _ _ 22 rfl wm.heap.size 2 i0 (.int .i64 0) 1 Try.underlying22 hi hz0 hz1 _ _ _ _ n rfl rfl rfl rfl (by rw [hz2]; omega) (by unfold maxLen; omega) (Nat.le_refl _) ?_)
  intro w2 hown hg
  have HZ : w2.ownsRow wm.heap.size 2 1 (.slice (some ⟨wm.heap.size, 0, none⟩) n n) n (ints (List.replicate zs.length 0)) := by
    have e := toList_madeCells_one (.int .i64 0) n
    rw [hlen.out]
    simpa [ints, e] using hown
  have HB2 : Below wm.heap.size wm w2 := (Below.refl _ _).grown hg (Nat.le_refl _) (fun k hk => by cases hk)
  clear hown hg hz0 hz1 hz2 hi
  go_wp2_with fail
  refine (builds_any A _ n c _ zs (List.replicate zs.length 0) S _ (((h.below HB1).below HB2)) (Rd.of_own HZ) H.out hS).mono ?_
  rintro e w3 ⟨es, rfl, ho, hE, hb3⟩
  have HB3 := Bl.then HB2 hb3
  have HO3 := own_below HO HB3
  have HW3 := Bl.then HB1 HB3
  have hap : Apart (.slice (some ⟨w1.heap.size, 0, none⟩) 0 0) (.slice (some ⟨w2.heap.size, 0, none⟩) (S + 1) (S + 1)) := fun g g' h1 h2 e9 => by
    cases h1; cases h2
    have h3 := HB2.size
    have h5 : w1.heap.size = w2.heap.size := e9
    omega
  have hesl := Lib.hid (own_blds_len ho)
  have hfl := Lib.hid (show ∀ m, m ≤ S → (bAt es m).k = decide (0 ≤ tT zs (zZ zs) m) from fun m hm => (hE m hm).1)
  have hg2 : w2.heap.size < w3.heap.size := (ho.lt w2.heap.size rfl).2
  generalize w2.heap.size = gB at *
  clear HO HB1 HZ HB2 hb3 HB3 hE hco h
  go_wp2_with fail
  go_loopw [7, 24] (fun o p wr => ∃ (k q : Nat) (A' : Option Addr) (c' : Nat), k ≤ S + 1 ∧ q ≤ k ∧ o = .slice A' q c' ∧ p = .int .i64 k ∧ wr.ownsRow w1.heap.size 2 1 (.slice A' q c') q (ints (unA zs k)) ∧ wr.ownsRow gB 40 3 (.slice (some ⟨gB, 0, none⟩) (S + 1) (S + 1)) (S + 1) (blds es) ∧ Apart (.slice A' q c') (.slice (some ⟨gB, 0, none⟩) (S + 1) (S + 1)) ∧ Below w1.heap.size w1 wr) (fun _ p _ => S + 1 - (intOf p).toNat)
  case atStart => exact ⟨0, 0, _, _, by omega, by omega, rfl, rfl, HO3, ho, hap, HW3⟩
  case round =>
    clear HO3 ho hap HW3
    obtain ⟨k, q, A', c', hk, hq, rfl, rfl, ho, hoe, hap, hb⟩ := hrel
    by_cases hlt : k ≤ S
    · have r0 := hoe.cellAt (k * 3) (by omega)
      rw [blds_get0 (by rw [hesl.out]; omega)] at r0
      have r1 := hoe.cellAt (k * 3 + 1) (by omega)
      rw [blds_get1 (by rw [hesl.out]; omega)] at r1
      have r2 := hoe.cellAt (k * 3 + 2) (by omega)
      rw [blds_get2 (by rw [hesl.out]; omega), hfl.out k hlt] at r2
      have hltk := (hoe.lt gB rfl).2
      have hkI : (k : Int) < (S : Int) + 1 := by omega
      have hk1 : k < S + 1 := by omega
      generalize (bAt es k).p = ep at r0
      generalize (bAt es k).A = eA at r1
      generalize (bAt es k).n = en at r1
      generalize (bAt es k).c = ec at r1
      have HBX := Bl.alloc hb (.cells #[.int .i64 ep, .slice eA en ec, .bool (decide (0 ≤ tT zs (zZ zs) k))] 40)
      by_cases hT : tT zs (zZ zs) k < 0
      · have hnx := Lib.hid (unA_yes hT)
        have hkf : decide (0 ≤ tT zs (zZ zs) k) = false := decide_eq_false (by omega)
        rw [hkf] at r2 HBX
        have hoX := ho.alloc (.cells #[.int .i64 ep, .slice eA en ec, .bool false] 40)
        have hoeX := hoe.alloc (.cells #[.int .i64 ep, .slice eA en ec, .bool false] 40)
        go_upto_region 9 with fail
        generalize (wr.alloc (.cells #[.int .i64 ep, .slice eA en ec, .bool false] 40)) = w5 at *
        clear r0 r1 r2
        go_wp2_with (at_builtin; refine wpList_app_int_at w5 rfl _ _ rfl w1.heap.size A' q c' _ (k : Int) rfl hoX rfl HBX.size (by omega) ?_; intro A6 c6 w6 ho6 hg6 hat6)
        go_roundw
        case rel =>
          rw [← hnx.out] at ho6
          exact ⟨k + 1, q + 1, A6, c6, by omega, by omega, rfl, by go_num, ho6, keep_apart hoeX hg6 hap.symm, hap.step hat6 (fun k9 h9 => by have := (hoeX.lt k9 h9).2; omega), app_below hoX HBX (Nat.le_refl _) HBX.size hg6⟩
        case measure => first | (simp [intOf]; done) | (simp [intOf]; omega)
      · have hnx := Lib.hid (unA_no hT)
        have hkf : decide (0 ≤ tT zs (zZ zs) k) = true := decide_eq_true (by omega)
        rw [hkf] at r2 HBX
        go_wp2_with fail
        go_roundw
        case rel =>
          rw [← hnx.out] at ho
          exact ⟨k + 1, q, A', c', by omega, by omega, rfl, by go_num, ho.alloc _, hoe.alloc _, hap, HBX⟩
        case measure => first | (simp [intOf]; done) | (simp [intOf]; omega)
    · obtain rfl : k = S + 1 := by omega
      go_wp2_with fail
      go_ret2
      exact RetInts.mk hrs.out (ownsRow_le' ho hb1.size) (Bl.then hb1 hb)
set_option maxRecDepth 100000 in
theorem firstWithin_one (A : Option Addr) (n c : Nat) (zs : List Int) (S : Nat) (w1 : World) (h : Rd w1 1 A n (ints zs)) (H0 : BldH zs (List.replicate zs.length 0)) (hS : S ≤ 1000) :
    Calls Try.prog 30 #[.slice A n c, .int .i64 S, .int .i64 S] w1 fun e w' => Below w1.heap.size w1 w' ∧ ((tT zs (zZ zs) S < 0 ∧ ∃ A' c', e = .returned (.tuple #[.slice A' 0 c', .bool false])) ∨ (0 ≤ tT zs (zZ zs) S ∧ ∃ (A' : Option Addr) (c' q : Nat), e = .returned (.tuple #[.slice A' q c', .bool true]) ∧ w'.ownsRow w1.heap.size 2 1 (.slice A' q c') q (ints (gG zs (zZ zs) S)))) := by
  have hlen := Lib.hid h.len
  have H := Lib.hid H0
  have hn8 : n ≤ 8 := by have := H0.l.2; have := hlen.out; omega
  clear H0
  have HB1 : Below w1.heap.size w1 (w1.alloc (.cells #[] 2)) := Bl.alloc (Below.refl _ _) _
  go_enter Try.func30, Try.ntmps30
  go_upto_region 2 with fail
  have hwm : w1.heap.size < (w1.alloc (.cells #[] 2)).heap.size := by simp
  generalize w1.alloc (.cells #[] 2) = wm at *
  obtain ⟨i0, hi, hz0, hz1, hz2⟩ := info_parts int_info
  go_wp2_with (at_make; refine wpList_make_full _ rfl _ _ 22 rfl wm.heap.size 2 i0 (.int .i64 0) 1 Try.underlying22 hi hz0 hz1 _ _ _ _ n rfl rfl rfl rfl (by rw [hz2]; omega) (by unfold maxLen; omega) (Nat.le_refl _) ?_)
  intro w2 hown hg
  have HZ : w2.ownsRow wm.heap.size 2 1 (.slice (some ⟨wm.heap.size, 0, none⟩) n n) n (ints (List.replicate zs.length 0)) := by
    have e := toList_madeCells_one (.int .i64 0) n
    rw [hlen.out]
    simpa [ints, e] using hown
  have HB2 : Below wm.heap.size wm w2 := (Below.refl _ _).grown hg (Nat.le_refl _) (fun k hk => by cases hk)
  clear hown hg hz0 hz1 hz2 hi
  go_wp2_with fail
  refine (builds_any A _ n c _ zs (List.replicate zs.length 0) S _ (((h.below HB1).below HB2)) (Rd.of_own HZ) H.out hS).mono ?_
  rintro e w3 ⟨es, rfl, ho, hE, hb3⟩
  have HB3 := Bl.then HB2 hb3
  have HW3 := Bl.then HB1 HB3
  have hesl := Lib.hid (own_blds_len ho)
  have hES := Lib.hid (hE S (Nat.le_refl _))
  have hg2 : w1.heap.size ≤ w2.heap.size := Nat.le_trans HB1.size HB2.size
  generalize w2.heap.size = gB at *
  have r0 := ho.cellAt (S * 3) (by omega)
  rw [blds_get0 (by rw [hesl.out]; omega)] at r0
  have r1 := ho.cellAt (S * 3 + 1) (by omega)
  rw [blds_get1 (by rw [hesl.out]; omega)] at r1
  have r2 := ho.cellAt (S * 3 + 2) (by omega)
  rw [blds_get2 (by rw [hesl.out]; omega)] at r2
  have hlg := (ho.lt gB rfl).2
  generalize bAt es S = em at *
  obtain ⟨ep, eA, en, ec, ek⟩ := em
  simp only at r0 r1 r2
  have hek : ek = decide (0 ≤ tT zs (zZ zs) S) := hES.out.1
  have hS1 : (S : Int) ≤ (S : Int) + 1 := by omega
  have hS2 : S ≤ S + 1 := by omega
  have hS3 : S + 1 - S = 1 := by omega
  clear HB1 HZ HB2 hb3 HB3 hE h ho
  by_cases hT : 0 ≤ tT zs (zZ zs) S
  · have hk9 : ek = true := by rw [hek]; exact decide_eq_true hT
    subst hk9
    have HBX := Bl.alloc HW3 (.cells #[.int .i64 ep, .slice eA en ec, .bool true] 40)
    have hor := Lib.hid (own_below (hES.out.2 hT).2.2 ((Below.refl w3.heap.size w3).alloc (Nat.le_refl _) (.cells #[.int .i64 ep, .slice eA en ec, .bool true] 40)))
    have hT' := Lib.hid hT
    clear hT hek hES
    go_wp2_with fail
    go_loopw [8, 9, 22] (fun o f p wr => (p = .int .i64 0 ∧ o = .slice (some ⟨w1.heap.size, 0, none⟩) 0 0 ∧ f = .bool false ∧ wr = w3) ∨ (p = .int .i64 1 ∧ o = .slice eA en ec ∧ f = .bool true ∧ wr = w3.alloc (.cells #[.int .i64 ep, .slice eA en ec, .bool true] 40))) (fun _ _ p _ => 1 - (intOf p).toNat)
    case atStart => exact .inl ⟨rfl, rfl, rfl, rfl⟩
    case round =>
      rcases hrel with ⟨rfl, rfl, rfl, hw⟩ | ⟨rfl, rfl, rfl, hw⟩
      · subst wr
        go_wp2_with fail
        go_roundw
        case rel => first | exact .inr ⟨rfl, rfl, rfl, rfl⟩ | (right; simp) | simp
        case measure => first | (simp [intOf]; done) | (simp [intOf]; omega)
      · subst wr
        go_wp2_with fail
        go_ret2
        exact ⟨HBX, .inr ⟨hT'.out, eA, ec, en, rfl, ownsRow_le' hor.out (by omega)⟩⟩
  · have hk9 : ek = false := by rw [hek]; exact decide_eq_false hT
    subst hk9
    have HBX := Bl.alloc HW3 (.cells #[.int .i64 ep, .slice eA en ec, .bool false] 40)
    have hT' := Lib.hid (Int.not_le.1 hT)
    clear hT hek hES
    go_wp2_with fail
    go_loopw [8, 9, 22] (fun o f p wr => (p = .int .i64 0 ∧ o = .slice (some ⟨w1.heap.size, 0, none⟩) 0 0 ∧ f = .bool false ∧ wr = w3) ∨ (p = .int .i64 1 ∧ o = .slice (some ⟨w1.heap.size, 0, none⟩) 0 0 ∧ f = .bool false ∧ wr = w3.alloc (.cells #[.int .i64 ep, .slice eA en ec, .bool false] 40))) (fun _ _ p _ => 1 - (intOf p).toNat)
    case atStart => exact .inl ⟨rfl, rfl, rfl, rfl⟩
    case round =>
      rcases hrel with ⟨rfl, rfl, rfl, hw⟩ | ⟨rfl, rfl, rfl, hw⟩
      · subst wr
        go_wp2_with fail
        go_roundw
        case rel => first | exact .inr ⟨rfl, rfl, rfl, rfl⟩ | (right; simp) | simp
        case measure => first | (simp [intOf]; done) | (simp [intOf]; omega)
      · subst wr
        go_wp2_with fail
        go_ret2
        exact ⟨HBX, .inl ⟨hT'.out, _, _, rfl⟩⟩
set_option maxRecDepth 100000 in
theorem FewestLayers_any (A : Option Addr) (n c : Nat) (zs : List Int) (sum : Int) (w0 : World) (h : Rd w0 1 A n (ints zs)) (hn : n ≤ 1048576) :
    Calls Try.prog 18 #[.slice A n c, .int .i64 sum] w0 (RetInts (fewR zs sum) w0) := by
  have hlen := Lib.hid h.len
  have hco := fun (W : World) (h : Rd W 1 A n (ints zs)) => layersCode_any A n c zs sum W h (by omega)
  have hr := Lib.hid (show ∀ x, lcode zs sum = x → x ≠ 0 → fewR zs sum = ([], x) from fun x h1 h2 => by subst h1; exact if_neg h2)
  generalize hcd : lcode zs sum = cd at hco
  by_cases hc0 : cd = 0
  rotate_left
  · have hr2 := Lib.hid (hr.out cd hcd hc0)
    clear hcd hr
    go_enter Try.func18, Try.ntmps18
    go_wp2_with fail
    refine (hco _ h).mono ?_
    rintro e w1 ⟨rfl, hb1⟩
    go_wp2_with fail
    go_ret2
    exact RetInts.nil hr2.out hb1
  subst hc0
  obtain ⟨hok, hs0, hs1⟩ := lcode_zero hcd
  obtain ⟨S, rfl⟩ : ∃ S : Nat, sum = S := ⟨sum.toNat, by omega⟩
  have hS : S ≤ 1000 := by omega
  have H := Lib.hid (bldH_rep hok)
  have hn8 : n ≤ 8 := by have := (layersOk_bd hok).2.1; have := hlen.out; omega
  have hrs := Lib.hid (show fewR zs (S : Int) = if tT zs (zZ zs) S < 0 then ([], 3) else (gG zs (zZ zs) S, 0) by unfold fewR; rw [if_pos hcd, Int.toNat_natCast])
  clear hr hcd hok hs0 hs1
  go_enter Try.func18, Try.ntmps18
  go_wp2_with fail
  refine (hco _ h).mono ?_
  rintro e w1 ⟨rfl, hb1⟩
  replace h := h.below hb1
  go_wp2_with fail
  refine (firstWithin_one A n c zs S _ h H.out hS).mono ?_
  rintro e w2 ⟨hb2, ⟨hT, A2, c2, rfl⟩ | ⟨hT, A2, c2, q2, rfl, o2⟩⟩
  · have hr3 := Lib.hid (show fewR zs (S : Int) = ([], 3) by rw [hrs.out, if_pos hT])
    clear hT hco h
    go_wp2_with fail
    go_ret2
    exact RetInts.nil hr3.out (Bl.then hb1 hb2)
  · have hr3 := Lib.hid (show fewR zs (S : Int) = (gG zs (zZ zs) S, 0) by rw [hrs.out, if_neg (by omega)])
    clear hT hco h
    go_wp2_with fail
    go_ret2
    exact RetInts.mk hr3.out (ownsRow_le' o2 hb1.size) (Bl.then hb1 hb2)
theorem unR_len (zs : List Int) (sum : Int) : (unR zs sum).1.length ≤ 1048577 := by
  unfold unR
  split
  · rename_i h
    have h1 := lcode_zero h
    have h2 := unA_len zs (sum.toNat + 1)
    show (unA zs (sum.toNat + 1)).length ≤ 1048577
    omega
  · exact Nat.zero_le _
theorem fewR_len (zs : List Int) (sum : Int) : (fewR zs sum).1.length ≤ 1048577 := by
  unfold fewR
  split
  · rename_i h
    have h1 := lcode_zero h
    split
    · exact Nat.zero_le _
    · rename_i h3
      have h2 := (gG_bd (bldH_rep h1.1) sum.toNat (by omega) (Int.not_lt.1 h3)).1
      show (gG zs (zZ zs) sum.toNat).length ≤ 1048577
      have h4 : (gG zs (zZ zs) sum.toNat).length ≤ sum.toNat := h2
      omega
  · exact Nat.zero_le _
end Go.Proofs.Ytgaahmcbfognhaa
