/-
  FarFeet of the program and of the reference; the condition of a slice argument is that it reads as the given list.
-/
import Derived.Test.YtlbgognkaolamaaSpread
import Derived.Deep.RegionHeld3
namespace Go.Proofs.Ytlbgognkaolamaa
open Go.RowKit
set_option maxHeartbeats 1600000

/-- A row of another element type is another block. -/
theorem own_ne_blk {w : World} {base k n g : Nat} {e t : TypeId} {v : Value} {xs : List Value} {cs : Array Value} (ho : w.ownsRow base e k v n xs) (hb : Blk w g t cs) (ht : e ≠ t) : ∀ q, v.ownBlock = some q → g ≠ q := by
  rintro q hq rfl
  rcases ho.2 with ⟨rfl, _⟩ | ⟨g', cap, cur, rfl, _, hg, _⟩
  · cases hq
  · cases hq
    rw [hb] at hg
    cases hg
    exact ht rfl
theorem Blk.grown {w w' : World} {g : Nat} {t : TypeId} {cs : Array Value} {row : Option Nat} (h : Blk w g t cs) (hg : w.grownBy w' row) (hne : ∀ q, row = some q → g ≠ q) : Blk w' g t cs :=
  (hg.block g h.lt (fun e => hne g e.symm rfl)).trans h
/-- Is a measure further away than it may be? -/
def farAt (us vs : List Int) (most : Int) (k : Nat) : Bool := decide (most < szI (ix us k - ix vs k))
def farB (us vs : List Int) (most : Int) : Bool := (List.range 4).any (farAt us vs most)
def NearTo (us vs : List Int) (most : Int) (k : Nat) : Prop := ∀ j, j < k → farAt us vs most j = false
theorem NearTo.snoc {us vs : List Int} {most : Int} {k : Nat} (h : NearTo us vs most k) (hk : farAt us vs most k = false) : NearTo us vs most (k + 1) := fun j hj => by
  by_cases e : j = k
  · subst e; exact hk
  · exact h j (by omega)
theorem far_yes {us vs : List Int} {most : Int} {k : Nat} (hk : k < 4) (h : farAt us vs most k = true) : farB us vs most = true := by
  unfold farB
  rw [List.any_eq_true]
  exact ⟨k, List.mem_range.2 hk, h⟩
theorem far_no {us vs : List Int} {most : Int} (h : NearTo us vs most 4) : farB us vs most = false := by
  unfold farB
  rw [List.any_eq_false]
  intro k hk
  rw [h k (List.mem_range.1 hk)]
  simp
theorem foot_in {a b c d : Int} (h : footOk a b c d = true) {k : Nat} (hk : k < 4) : 500 ≤ ix [a, b, c, d] k ∧ ix [a, b, c, d] k ≤ 5000 := by
  simp only [footOk, Bool.and_eq_true] at h
  match k, hk with
  | 0, _ => exact inR_true.1 h.1.1.1
  | 1, _ => exact inR_true.1 h.1.1.2
  | 2, _ => exact inR_true.1 h.1.2
  | 3, _ => exact inR_true.1 h.2
set_option maxRecDepth 100000 in
theorem isFar_any (a b c d e f g h : Int) (most : Int) (w : World) (k1 : footOk a b c d = true) (k2 : footOk e f g h = true) :
    Calls Try.prog 61 #[.agg #[.int .i64 a, .int .i64 b, .int .i64 c, .int .i64 d], .agg #[.int .i64 e, .int .i64 f, .int .i64 g, .int .i64 h], .int .i64 most] w fun e' w' => e' = .returned (.bool (farB [a, b, c, d] [e, f, g, h] most)) ∧ Below w.heap.size w w' := by
  have p1 := Lib.hid (fun (k : Nat) (hk : k < 4) => foot_in k1 hk)
  have p2 := Lib.hid (fun (k : Nat) (hk : k < 4) => foot_in k2 hk)
  clear k1 k2
  go_enter Try.func61, Try.ntmps61
  go_wp2_with fail
  refine (measures_any _ _ _ _ _).mono ?_
  rintro e1 w1 ⟨A1, c1, rfl, o1, hb1⟩
  obtain ⟨hc, hf⟩ := bcell hb1
  go_wp2_with fail
  refine (measures_any _ _ _ _ _).mono ?_
  rintro e1 w2 ⟨A2, c2, rfl, o2, hb2⟩
  have r1 := (Rd.of_own o1).below hb2
  have r2 := Rd.of_own o2
  have HW : Below w.heap.size w w2 := Bl.then (by go_grown) (Bl.then hb1 hb2)
  clear hc hf hb1 hb2 o1 o2
  generalize hus0 : [a, b, c, d] = us at *
  generalize hvs0 : [e, f, g, h] = vs at *
  have hus := Lib.hid hus0
  have hvs := Lib.hid hvs0
  clear hus0 hvs0
  go_wp2_with fail
  go_loop [15] (fun i => ∃ k : Nat, k ≤ 4 ∧ i = .int .i64 k ∧ Hid (NearTo us vs most k)) (fun i => 4 - (intOf i).toNat)
  case atStart => exact ⟨0, by omega, rfl, Lib.hid fun j hj => by omega⟩
  case round =>
    obtain ⟨k, hk, rfl, hno⟩ := hrel
    by_cases hlt : k < 4
    · obtain ⟨b1, off1, rfl, hg1, e1⟩ := r2.int (k := k) hlt
      obtain ⟨b2, off2, rfl, hg2, e2⟩ := r1.int (k := k) hlt
      obtain ⟨i1, i2⟩ := p1.out k hlt
      obtain ⟨i3, i4⟩ := p2.out k hlt
      cases hfa : farAt us vs most k
      · have hd : ¬ most < szI (ix us k - ix vs k) := by simpa [farAt] using hfa
        have hn2 := Lib.hid (hno.out.snoc hfa)
        clear hfa
        go_wp2_with (go_at_call 106; refine (apart_any _ _ _ (by unfold Mid; omega) (by unfold Mid; omega)).mono ?_; rintro ez wz ⟨rfl, rfl⟩)
        go_round
        case rel => exact ⟨k + 1, by omega, by go_num, hn2⟩
        case measure => simp [intOf]; omega
      · have hd : most < szI (ix us k - ix vs k) := by simpa [farAt] using hfa
        have hr := Lib.hid (show farB [a, b, c, d] [e, f, g, h] most = true by rw [hus.out, hvs.out]; exact far_yes hlt hfa)
        clear hfa
        go_wp2_with (go_at_call 106; refine (apart_any _ _ _ (by unfold Mid; omega) (by unfold Mid; omega)).mono ?_; rintro ez wz ⟨rfl, rfl⟩)
        go_ret
        exact ⟨ret_bool hr.out.symm, HW⟩
    · obtain rfl : k = 4 := by omega
      have hr := Lib.hid (show farB [a, b, c, d] [e, f, g, h] most = false by rw [hus.out, hvs.out]; exact far_no hno.out)
      go_wp2_with fail
      go_ret
      exact ⟨ret_bool hr.out.symm, HW⟩
set_option maxRecDepth 100000 in
theorem l02Far_any (a b c d e f g h : Int) (most : Int) (w : World) (k1 : footOk a b c d = true) (k2 : footOk e f g h = true) :
    Calls Try.prog 54 #[.agg #[.int .i64 a, .int .i64 b, .int .i64 c, .int .i64 d], .agg #[.int .i64 e, .int .i64 f, .int .i64 g, .int .i64 h], .int .i64 most] w fun e' w' => e' = .returned (.bool (farB [a, b, c, d] [e, f, g, h] most)) ∧ Below w.heap.size w w' := by
  have p1 := Lib.hid (fun (k : Nat) (hk : k < 4) => foot_in k1 hk)
  have p2 := Lib.hid (fun (k : Nat) (hk : k < 4) => foot_in k2 hk)
  clear k1 k2
  go_enter Try.func54, Try.ntmps54
  go_wp2_with fail
  refine (l02Four_any _ _ _ _ _).mono ?_
  rintro e1 w1 ⟨A1, c1, rfl, o1, hb1⟩
  obtain ⟨hc, hf⟩ := bcell hb1
  go_wp2_with fail
  refine (l02Four_any _ _ _ _ _).mono ?_
  rintro e1 w2 ⟨A2, c2, rfl, o2, hb2⟩
  have r1 := (Rd.of_own o1).below hb2
  have r2 := Rd.of_own o2
  have HW : Below w.heap.size w w2 := Bl.then (by go_grown) (Bl.then hb1 hb2)
  clear hc hf hb1 hb2 o1 o2
  generalize hus0 : [a, b, c, d] = us at *
  generalize hvs0 : [e, f, g, h] = vs at *
  have hus := Lib.hid hus0
  have hvs := Lib.hid hvs0
  clear hus0 hvs0
  go_wp2_with fail
  go_loopw [9] (fun i wr => ∃ k : Nat, k ≤ 4 ∧ i = .int .i64 k ∧ Hid (NearTo us vs most k) ∧ Below w2.heap.size w2 wr) (fun i _ => 4 - (intOf i).toNat)
  case atStart => exact ⟨0, by omega, rfl, Lib.hid fun j hj => by omega, Below.refl _ _⟩
  case round =>
    obtain ⟨k, hk, rfl, hno, HB⟩ := hrel
    by_cases hlt : k < 4
    · obtain ⟨b1, off1, rfl, hg1, e1⟩ := (r1.below HB).int (k := k) hlt
      obtain ⟨b2, off2, rfl, hg2, e2⟩ := (r2.below HB).int (k := k) hlt
      obtain ⟨i1, i2⟩ := p1.out k hlt
      obtain ⟨i3, i4⟩ := p2.out k hlt
      have f1 : (0 : Int) ≤ (k : Int) := by omega
      have f2 : (k : Int) < 4 := by omega
      have f3 : IntKind.i64.wrap (ix us k - ix vs k) = ix us k - ix vs k := IntWalk.i64_in _ (by omega)
      have hm : Mid (ix us k - ix vs k) := by unfold Mid; omega
      cases hfa : farAt us vs most k
      · have hd : ¬ most < szI (ix us k - ix vs k) := by simpa [farAt] using hfa
        have hn2 := Lib.hid (hno.out.snoc hfa)
        clear hfa
        go_wp2_with fail
        go_region_held3 (fun wz => Below w2.heap.size w2 wz ∧ wz.cell? ⟨b1, off1 + k, none⟩ = some (.int .i64 (ix us k)) ∧ wz.cell? ⟨b2, off2 + k, none⟩ = some (.int .i64 (ix vs k))) (((repeat' apply And.intro) <;> first | assumption | exact keep_drew (by assumption) | exact Below.drew (by assumption))) ((go_at_call 97; refine (l02Size_any _ _ (by first | exact hm | (rw [f3]; exact hm))).mono ?_; rintro ez wy ⟨rfl, rfl⟩))
        clear HB e1 e2
        rename_i HB9
        obtain ⟨HB, -, -⟩ := HB9
        go_wp2_with fail
        go_roundw
        case rel => exact ⟨k + 1, by omega, by go_num, hn2, HB⟩
        case measure => simp [intOf]; omega
      · have hd : most < szI (ix us k - ix vs k) := by simpa [farAt] using hfa
        have hr := Lib.hid (show farB [a, b, c, d] [e, f, g, h] most = true by rw [hus.out, hvs.out]; exact far_yes hlt hfa)
        clear hfa
        go_wp2_with fail
        go_region_held3 (fun wz => Below w2.heap.size w2 wz ∧ wz.cell? ⟨b1, off1 + k, none⟩ = some (.int .i64 (ix us k)) ∧ wz.cell? ⟨b2, off2 + k, none⟩ = some (.int .i64 (ix vs k))) (((repeat' apply And.intro) <;> first | assumption | exact keep_drew (by assumption) | exact Below.drew (by assumption))) ((go_at_call 97; refine (l02Size_any _ _ (by first | exact hm | (rw [f3]; exact hm))).mono ?_; rintro ez wy ⟨rfl, rfl⟩))
        clear HB e1 e2
        rename_i HB9
        obtain ⟨HB, -, -⟩ := HB9
        go_wp2_with fail
        go_ret
        exact ⟨ret_bool hr.out.symm, Bl.then HW HB⟩
    · obtain rfl : k = 4 := by omega
      have hr := Lib.hid (show farB [a, b, c, d] [e, f, g, h] most = false by rw [hus.out, hvs.out]; exact far_no hno.out)
      go_wp2_with fail
      go_ret
      exact ⟨ret_bool hr.out.symm, Bl.then HW HB⟩
/-- Is a foot far from the middle? -/
def four (x : FootD) : List Int := [x.l, x.b, x.i, x.h]
def farI (xs : List FootD) (most : Int) (m : Nat) : Bool := farB (four (feetAt xs m)) (four (eachOf vMid xs)) most
def farG (xs : List FootD) (most : Int) (m : Nat) : List Int := if farI xs most m = true then [(m : Int)] else []
def farR (xs : List FootD) (most : Int) : List Int × Int := if feetC xs most ≠ 0 then ([], feetC xs most) else (accL (farG xs most) xs.length, 0)
theorem farG_len (xs : List FootD) (most : Int) (k : Nat) : (farG xs most k).length ≤ 1 := by unfold farG; split <;> simp
theorem farR_len (xs : List FootD) (most : Int) : (farR xs most).1.length ≤ 1048577 := by
  unfold farR
  by_cases h : feetC xs most ≠ 0
  · rw [if_pos h]; simp
  · rw [if_neg h]
    have h1 := feetC_ok (xs := xs) (most := most) (by simpa using h)
    have h2 := accL_len (farG_len xs most) xs.length
    show (accL _ _).length ≤ _
    omega
theorem srt_ok {zs : List Int} (h : AllIn zs zs.length 500 5000) (hn : 1 ≤ zs.length) : inR (vMid (srt zs)) 500 5000 = true := by
  unfold vMid
  exact srt_in h _ (by rw [srt_len]; omega)
theorem mid_ok {xs : List FootD} (h : xs.all fOk = true) (hn : 1 ≤ xs.length) : fOk (eachOf vMid xs) = true := by
  simp only [fOk, footOk, eachOf, Bool.and_eq_true]
  exact ⟨⟨⟨srt_ok (col_in h (by decide)) (by rw [col_len]; exact hn), srt_ok (col_in h (by decide)) (by rw [col_len]; exact hn)⟩, srt_ok (col_in h (by decide)) (by rw [col_len]; exact hn)⟩, srt_ok (col_in h (by decide)) (by rw [col_len]; exact hn)⟩
theorem at_ok {xs : List FootD} (h : xs.all fOk = true) {m : Nat} (hm : m < xs.length) : fOk (feetAt xs m) = true := by
  rw [← feet_eq hm]
  exact List.all_eq_true.1 h _ (List.getElem_mem hm)
end Go.Proofs.Ytlbgognkaolamaa
