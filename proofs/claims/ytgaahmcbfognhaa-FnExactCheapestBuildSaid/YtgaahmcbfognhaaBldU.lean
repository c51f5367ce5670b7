/-
  UnreachedSums and FewestLayers of the program and of the reference; the condition of a slice argument is that it reads as the given list.
-/
import Derived.Test.YtgaahmcbfognhaaBldW
import Derived.Test.YtgaahmcbfognhaaBldF
import Derived.Test.YtgaahmcbfognhaaApp2
namespace Go.Proofs.Ytgaahmcbfognhaa
open Go.RowKit
set_option maxHeartbeats 3200000
set_option linter.unusedVariables false

def zZ (zs : List Int) : List Int := List.replicate zs.length 0
/-- The sums below k that no build has. -/
def unA (zs : List Int) : Nat → List Int
  | 0 => []
  | k + 1 => unA zs k ++ (if tT zs (zZ zs) k < 0 then [(k : Int)] else [])
theorem unA_yes {zs : List Int} {k : Nat} (h : tT zs (zZ zs) k < 0) : unA zs (k + 1) = unA zs k ++ [(k : Int)] := by rw [unA, if_pos h]
theorem unA_no {zs : List Int} {k : Nat} (h : ¬ tT zs (zZ zs) k < 0) : unA zs (k + 1) = unA zs k := by rw [unA, if_neg h, List.append_nil]
theorem unA_len (zs : List Int) : ∀ k, (unA zs k).length ≤ k
  | 0 => Nat.le_refl _
  | k + 1 => by
    have := unA_len zs k
    rw [unA, List.length_append]
    split
    · simp; omega
    · simp; omega
noncomputable def unR (zs : List Int) (sum : Int) : List Int × Int := if lcode zs sum = 0 then (unA zs (sum.toNat + 1), 0) else ([], lcode zs sum)
noncomputable def fewR (zs : List Int) (sum : Int) : List Int × Int := if lcode zs sum = 0 then (if tT zs (zZ zs) sum.toNat < 0 then ([], 3) else (gG zs (zZ zs) sum.toNat, 0)) else ([], lcode zs sum)
theorem lcode_zero {zs : List Int} {sum : Int} (h : lcode zs sum = 0) : layersOk zs = true ∧ 0 ≤ sum ∧ sum ≤ 1000 := by
  unfold lcode at h
  cases h1 : layersOk zs
  · rw [h1, if_pos rfl] at h; cases h
  · cases h2 : inR sum 0 1000
    · rw [h1, h2] at h; cases h
    · exact ⟨rfl, inR_true.1 h2⟩
theorem RetInts.gen {r : List Int × Int} {w w' : World} {A : Option Addr} {n c : Nat} {zs : List Int} {code : Int} (h : r = (zs, code)) (ho : w'.ownsRow w.heap.size 2 1 (.slice A n c) n (ints zs)) (hb : Below w.heap.size w w') :
    RetInts r w (.returned (.tuple #[.slice A n c, .int .i64 code])) w' := RetInts.mk h ho hb
set_option maxRecDepth 100000 in
theorem sUnreachedSums_any (A : Option Addr) (n c : Nat) (zs : List Int) (sum : Int) (w0 : World) (h : Rd w0 1 A n (ints zs)) (hn : n ≤ 1048576) :
    Calls Try.prog 11 #[.slice A n c, .int .i64 sum] w0 (RetInts (unR zs sum) w0) := by
  have hlen := Lib.hid h.len
  have hco := fun (W : World) (h : Rd W 1 A n (ints zs)) => l06Code_any A n c zs sum W h (by omega)
  have hr := Lib.hid (show ∀ x, lcode zs sum = x → x ≠ 0 → unR zs sum = ([], x) from fun x h1 h2 => by subst h1; exact if_neg h2)
  generalize hcd : lcode zs sum = cd at hco
  by_cases hc0 : cd = 0
  rotate_left
  · have hr2 := Lib.hid (hr.out cd hcd hc0)
    clear hcd hr
    go_enter Try.func11, Try.ntmps11
    go_wp2_with fail
    refine (hco _ h).mono ?_
    rintro e w1 ⟨rfl, hb1⟩
    go_wp2_with fail
    go_ret2
    exact RetInts.nil hr2.out hb1
  subst hc0
  obtain ⟨hok, hs0, hs1⟩ := lcode_zero hcd
  obtain ⟨S, rfl⟩ : ∃ S : Nat, sum = S := ⟨sum.toNat, by omega⟩
  have hS : S ≤ 1000 := by omega
  have H := Lib.hid (bldH_rep hok)
  have hn8 : n ≤ 8 := by have := (layersOk_bd hok).2.1; have := hlen.out; omega
  have hrs := Lib.hid (show unR zs (S : Int) = (unA zs (S + 1), 0) by unfold unR; rw [if_pos hcd, Int.toNat_natCast])
  clear hr hcd hok hs0 hs1
  go_enter Try.func11, Try.ntmps11
  go_wp2_with fail
  refine (hco _ h).mono ?_
  rintro e w1 ⟨rfl, hb1⟩
  replace h := h.below hb1
  go_wp2_with fail
  refine (l06Few_any A n c zs S _ h H.out hS).mono ?_
  rintro e w2 ⟨AF, cF, rfl, oF, hb2⟩
  have RF := Rd.of_own oF
  have hbW := Bl.then hb1 hb2
  clear oF hco h
  have HO := own_lit (W := w2) (cs := #[]) (e := 2) (size := 1) (n := 0) (xs := ints (unA zs 0)) rfl (Nat.le_refl w2.heap.size) (by decide) rfl rfl
  have HB : Below w2.heap.size w2 (w2.alloc (.cells #[] 2)) := Bl.alloc (Below.refl _ _) _
  go_wp2_with fail
  go_loopw [8, 9] (fun o p wr => ∃ (k q : Nat) (A' : Option Addr) (c' : Nat), k ≤ S + 1 ∧ q ≤ k ∧ o = .slice A' q c' ∧ p = .int .i64 k ∧ wr.ownsRow w2.heap.size 2 1 (.slice A' q c') q (ints (unA zs k)) ∧ Below w2.heap.size w2 wr) (fun _ p _ => S + 1 - (intOf p).toNat)
  case atStart => exact ⟨0, 0, _, _, by omega, by omega, rfl, rfl, HO, HB⟩
  case round =>
    clear HO HB
    obtain ⟨k, q, A', c', hk, hq, rfl, rfl, ho, hb⟩ := hrel
    by_cases hlt : k ≤ S
    · obtain ⟨b2, off2, eA2, hbl2, hc2⟩ := (RF.below hb).int (show k < S + 1 by omega)
      subst eA2
      rw [tabL_at zs (List.replicate zs.length 0) hlt] at hc2
      have hkI : (k : Int) ≤ (S : Int) := by omega
      have hkI2 : (k : Int) < (S : Int) + 1 := by omega
      by_cases hT : tT zs (zZ zs) k < 0
      · have hnx := Lib.hid (unA_yes hT)
        change wr.cell? _ = some (.int .i64 (tT zs (zZ zs) k)) at hc2
        generalize tT zs (zZ zs) k = t at *
        go_wp2_with (at_builtin; refine wpList_app_int wr rfl _ _ rfl w2.heap.size A' q c' _ (k : Int) rfl ho rfl hb.size (by omega) ?_; intro A6 c6 w6 ho6 hg6)
        go_roundw
        case rel =>
          rw [← hnx.out] at ho6
          exact ⟨k + 1, q + 1, A6, c6, by omega, by omega, rfl, by go_num, ho6, app_below ho hb (Nat.le_refl _) hb.size hg6⟩
        case measure => first | (simp [intOf]; done) | (simp [intOf]; omega)
      · have hnx := Lib.hid (unA_no hT)
        change wr.cell? _ = some (.int .i64 (tT zs (zZ zs) k)) at hc2
        generalize tT zs (zZ zs) k = t at *
        go_wp2_with fail
        go_roundw
        case rel =>
          rw [← hnx.out] at ho
          exact ⟨k + 1, q, A', c', by omega, by omega, rfl, by go_num, ho, hb⟩
        case measure => first | (simp [intOf]; done) | (simp [intOf]; omega)
    · obtain rfl : k = S + 1 := by omega
      go_wp2_with fail
      go_ret2
      exact RetInts.mk hrs.out (ownsRow_le' ho hbW.size) (Bl.then hbW hb)
set_option maxRecDepth 100000 in
theorem sFewestLayers_any (A : Option Addr) (n c : Nat) (zs : List Int) (sum : Int) (w0 : World) (h : Rd w0 1 A n (ints zs)) (hn : n ≤ 1048576) :
    Calls Try.prog 17 #[.slice A n c, .int .i64 sum] w0 (RetInts (fewR zs sum) w0) := by
  have hlen := Lib.hid h.len
  have hco := fun (W : World) (h : Rd W 1 A n (ints zs)) => l06Code_any A n c zs sum W h (by omega)
  have hr := Lib.hid (show ∀ x, lcode zs sum = x → x ≠ 0 → fewR zs sum = ([], x) from fun x h1 h2 => by subst h1; exact if_neg h2)
  generalize hcd : lcode zs sum = cd at hco
  by_cases hc0 : cd = 0
  rotate_left
  · have hr2 := Lib.hid (hr.out cd hcd hc0)
    clear hcd hr
    go_enter Try.func17, Try.ntmps17
    go_wp2_with fail
    refine (hco _ h).mono ?_
    rintro e w1 ⟨rfl, hb1⟩
    go_wp2_with fail
    go_ret2
    exact RetInts.nil hr2.out hb1
  subst hc0
  obtain ⟨hok, hs0, hs1⟩ := lcode_zero hcd
  obtain ⟨S, rfl⟩ : ∃ S : Nat, sum = S := ⟨sum.toNat, by omega⟩
  have hS : S ≤ 1000 := by omega
  have H := Lib.hid (bldH_rep hok)
  have hn8 : n ≤ 8 := by have := (layersOk_bd hok).2.1; have := hlen.out; omega
  have hrs := Lib.hid (show fewR zs (S : Int) = if tT zs (zZ zs) S < 0 then ([], 3) else (gG zs (zZ zs) S, 0) by unfold fewR; rw [if_pos hcd, Int.toNat_natCast])
  clear hr hcd hok hs0 hs1
  go_enter Try.func17, Try.ntmps17
  go_wp2_with fail
  refine (hco _ h).mono ?_
  rintro e w1 ⟨rfl, hb1⟩
  replace h := h.below hb1
  go_wp2_with fail
  refine (l06Few_any A n c zs S _ h H.out hS).mono ?_
  rintro e w2 ⟨AF, cF, rfl, oF, hb2⟩
  have RF := Rd.of_own oF
  have hbW := Bl.then hb1 hb2
  replace h := h.below hb2
  clear oF hco
  obtain ⟨b2, off2, eA2, hbl2, hc2⟩ := RF.int (show S < S + 1 by omega)
  subst eA2
  rw [tabL_at zs (List.replicate zs.length 0) (Nat.le_refl S)] at hc2
  change w2.cell? _ = some (.int .i64 (tT zs (zZ zs) S)) at hc2
  have hkI2 : (S : Int) < (S : Int) + 1 := by omega
  by_cases hT : tT zs (zZ zs) S < 0
  · have hr3 := Lib.hid (show fewR zs (S : Int) = ([], 3) by rw [hrs.out, if_pos hT])
    generalize tT zs (zZ zs) S = t at *
    go_wp2_with fail
    go_ret2
    exact RetInts.nil hr3.out hbW
  · have hr3 := Lib.hid (show fewR zs (S : Int) = (gG zs (zZ zs) S, 0) by rw [hrs.out, if_neg hT])
    have hF := fun (W : World) (h : Rd W 1 A n (ints zs)) (hF : Rd W 1 (some ⟨b2, off2, none⟩) (S + 1) (ints (tabL zs (List.replicate zs.length 0) S))) => l06First_any A _ n c cF zs S W h hF H.out hS (by exact Int.not_lt.1 hT)
    generalize tT zs (zZ zs) S = t at *
    go_wp2_with fail
    refine (hF _ h RF).mono ?_
    rintro e w3 ⟨A3, c3, q3, rfl, o3, hb3⟩
    go_wp2_with fail
    go_ret2
    exact RetInts.mk hr3.out (ownsRow_le' o3 hbW.size) (Bl.then hbW hb3)
end Go.Proofs.Ytgaahmcbfognhaa
