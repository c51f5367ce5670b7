/-
  CheapestBuild of the reference; the condition of a slice argument is that it reads as the given list.
-/
import Derived.Test.YtgaahmcbfognhaaBldV
import Derived.RegionTactic
namespace Go.Proofs.Ytgaahmcbfognhaa
open Go.RowKit
set_option maxHeartbeats 3200000
set_option linter.unusedVariables false

/-- The first k prices lie within their bounds. -/
def okA (ps : List Int) : Nat → Bool
  | 0 => true
  | k + 1 => okA ps k && inR (ix ps k) 0 1000
theorem okA_at {ps : List Int} : ∀ {k : Nat}, okA ps k = true → ∀ j, j < k → inR (ix ps j) 0 1000 = true
  | 0, _, j, hj => by omega
  | k + 1, h, j, hj => by
    rw [okA, Bool.and_eq_true] at h
    by_cases e : j = k
    · subst e; exact h.2
    · exact okA_at h.1 j (by omega)
theorem okA_of {ps : List Int} : ∀ {k : Nat}, (∀ j, j < k → inR (ix ps j) 0 1000 = true) → okA ps k = true
  | 0, _ => rfl
  | k + 1, h => by rw [okA, Bool.and_eq_true]; exact ⟨okA_of fun j hj => h j (by omega), h k (by omega)⟩
def okPr (zs ps : List Int) : Bool := decide (zs.length = ps.length) && okA ps ps.length
noncomputable def cbCode (zs ps : List Int) (sum : Int) : Int := if lcode zs sum = 0 ∧ okPr zs ps = false then 2 else lcode zs sum
noncomputable def cbR (zs ps : List Int) (sum : Int) : List Int × Int × Int := if cbCode zs ps sum = 0 then (if tT zs ps sum.toNat < 0 then ([], 0, 3) else (gG zs ps sum.toNat, tT zs ps sum.toNat / 2000, 0)) else ([], 0, cbCode zs ps sum)
theorem cb_bad {zs ps : List Int} {sum : Int} (h : lcode zs sum ≠ 0) : cbR zs ps sum = ([], 0, lcode zs sum) := by
  have e : cbCode zs ps sum = lcode zs sum := if_neg fun h2 => h h2.1
  unfold cbR; rw [e, if_neg h]
theorem cb_two {zs ps : List Int} {sum : Int} (h : lcode zs sum = 0) (h2 : okPr zs ps = false) : cbR zs ps sum = ([], 0, 2) := by
  have e : cbCode zs ps sum = 2 := if_pos ⟨h, h2⟩
  unfold cbR; rw [e, if_neg (by decide)]
theorem cb_ok {zs ps : List Int} {S : Nat} (h : lcode zs (S : Int) = 0) (h2 : okPr zs ps = true) : cbR zs ps (S : Int) = if tT zs ps S < 0 then ([], 0, 3) else (gG zs ps S, tT zs ps S / 2000, 0) := by
  have e : cbCode zs ps (S : Int) = 0 := by rw [cbCode, if_neg (by rw [h2]; simp), h]
  unfold cbR; rw [if_pos e, Int.toNat_natCast]
theorem bldH_of {zs ps : List Int} (h : layersOk zs = true) (h2 : okPr zs ps = true) : BldH zs ps := by
  obtain ⟨h1, h8, hr⟩ := layersOk_bd h
  rw [okPr, Bool.and_eq_true, decide_eq_true_eq] at h2
  exact ⟨fun i hi => inR_true.1 (hr.1 i hi), fun i hi => inR_true.1 (okA_at h2.2 i (by omega)), ⟨h1, h8⟩⟩
def RetB (r : List Int × Int × Int) (w : World) (e : Ending) (w' : World) : Prop :=
  ∃ A c, e = .returned (.tuple #[.slice A r.1.length c, .int .i64 r.2.1, .int .i64 r.2.2]) ∧ w'.ownsRow w.heap.size 2 1 (.slice A r.1.length c) r.1.length (ints r.1) ∧ Below w.heap.size w w'
theorem RetB.mk {r : List Int × Int × Int} {w w' : World} {A : Option Addr} {n c : Nat} {zs : List Int} {p code : Int} (h : r = (zs, p, code)) (ho : w'.ownsRow w.heap.size 2 1 (.slice A n c) n (ints zs)) (hb : Below w.heap.size w w') :
    RetB r w (.returned (.tuple #[.slice A n c, .int .i64 p, .int .i64 code])) w' := by
  subst h
  have hl := own_int_len ho
  subst hl
  exact ⟨A, c, rfl, ho, hb⟩
theorem RetB.nil {r : List Int × Int × Int} {w w' : World} {p code : Int} (h : r = ([], p, code)) (hb : Below w.heap.size w w') :
    RetB r w (.returned (.tuple #[.slice none 0 0, .int .i64 p, .int .i64 code])) w' := RetB.mk h (World.ownsRow_nil _ _ _ _) hb
theorem cbR_len (zs ps : List Int) (sum : Int) : (cbR zs ps sum).1.length ≤ 1048577 := by
  by_cases h : lcode zs sum = 0
  · cases h2 : okPr zs ps
    · rw [cb_two h h2]; exact Nat.zero_le _
    · have h1 := lcode_zero h
      obtain ⟨S, rfl⟩ : ∃ S : Nat, sum = S := ⟨sum.toNat, by omega⟩
      rw [cb_ok h h2]
      split
      · exact Nat.zero_le _
      · rename_i h3
        have h4 := (gG_bd (bldH_of h1.1 h2) S (by omega) (Int.not_lt.1 h3)).1
        show (gG zs ps S).length ≤ 1048577
        omega
  · rw [cb_bad h]; exact Nat.zero_le _
set_option maxRecDepth 100000 in
theorem sCheapestBuild_any (A B : Option Addr) (n c np c2 : Nat) (zs ps : List Int) (sum : Int) (w : World) (h : Rd w 1 A n (ints zs)) (h2 : Rd w 1 B np (ints ps)) (hn : n ≤ 1048576) (hnp : np ≤ 1048576) :
    Calls Try.prog 15 #[.slice A n c, .slice B np c2, .int .i64 sum] w (RetB (cbR zs ps sum) w) := by
  have hlen := Lib.hid h.len
  have hlp := Lib.hid h2.len
  have hco := fun (W : World) (h : Rd W 1 A n (ints zs)) => l06Code_any A n c zs sum W h (by omega)
  generalize hcd : lcode zs sum = cd at hco
  by_cases hl : n = np
  rotate_left
  · have hl2 : ((n : Int) == (np : Int)) = false := by rw [beq_eq_false_iff_ne]; omega
    have hl2' : ((np : Int) == (n : Int)) = false := by rw [beq_eq_false_iff_ne]; omega
    have hl3 : ¬ ((n : Int) = (np : Int)) := by omega
    have hop := Lib.hid (show okPr zs ps = false by rw [okPr, hlen.out, hlp.out, decide_eq_false hl]; rfl)
    by_cases hc0 : cd = 0
    · have hr := Lib.hid (show cbR zs ps sum = ([], 0, 2) from cb_two (by rw [hcd]; exact hc0) hop.out)
      subst hc0
      clear hcd
      go_enter Try.func15, Try.ntmps15
      go_wp2_with fail
      refine (hco _ h).mono ?_
      rintro e w1 ⟨rfl, hb1⟩
      replace h := h.below hb1
      replace h2 := h2.below hb1
      clear hco
      go_wp2_with fail
      go_loopw [10, 11] (fun f p wr => ∃ (k : Nat), k ≤ np ∧ p = .int .i64 k ∧ f = .bool false ∧ Below w1.heap.size w1 wr) (fun _ p _ => np - (intOf p).toNat)
      case atStart => first | exact ⟨0, by omega, rfl, rfl, Below.refl _ _⟩ | exact ⟨0, by omega, rfl, by rw [hl2'], Below.refl _ _⟩ | exact ⟨0, by omega, rfl, rfl⟩ | exact ⟨0, by omega, rfl, by rw [hl2']⟩
      case round =>
      obtain ⟨k, hk, rfl, rfl, hbw⟩ := hrel
      by_cases hlt0 : k < np
      · go_wp2_with fail
        go_roundw
        case rel => exact ⟨k + 1, by omega, by go_num, rfl, hbw⟩
        case measure => first | (simp [intOf]; done) | (simp [intOf]; omega)
      have hkN : k = np := by omega
      clear hlt0
      subst k
      go_wp2_with fail
      go_ret3
      exact RetB.nil hr.out (Bl.then hb1 hbw)
    · have hr := Lib.hid (show cbR zs ps sum = ([], 0, cd) by rw [← hcd]; exact cb_bad (by rw [hcd]; exact hc0))
      have hc2 : (cd == 0) = false := beq_eq_false_iff_ne.2 hc0
      clear hcd
      go_enter Try.func15, Try.ntmps15
      go_wp2_with fail
      refine (hco _ h).mono ?_
      rintro e w1 ⟨rfl, hb1⟩
      replace h := h.below hb1
      replace h2 := h2.below hb1
      clear hco
      go_wp2_with fail
      go_loopw [10, 11] (fun f p wr => ∃ (k : Nat), k ≤ np ∧ p = .int .i64 k ∧ f = .bool false ∧ Below w1.heap.size w1 wr) (fun _ p _ => np - (intOf p).toNat)
      case atStart => first | exact ⟨0, by omega, rfl, rfl, Below.refl _ _⟩ | exact ⟨0, by omega, rfl, by rw [hl2'], Below.refl _ _⟩ | exact ⟨0, by omega, rfl, rfl⟩ | exact ⟨0, by omega, rfl, by rw [hl2']⟩
      case round =>
      obtain ⟨k, hk, rfl, rfl, hbw⟩ := hrel
      by_cases hlt0 : k < np
      · go_wp2_with fail
        go_roundw
        case rel => exact ⟨k + 1, by omega, by go_num, rfl, hbw⟩
        case measure => first | (simp [intOf]; done) | (simp [intOf]; omega)
      have hkN : k = np := by omega
      clear hlt0
      subst k
      go_wp2_with fail
      go_ret3
      exact RetB.nil hr.out (Bl.then hb1 hbw)
  subst hl
  by_cases hc0 : cd = 0
  rotate_left
  · have hr := Lib.hid (show cbR zs ps sum = ([], 0, cd) by rw [← hcd]; exact cb_bad (by rw [hcd]; exact hc0))
    have hc2 : (cd == 0) = false := beq_eq_false_iff_ne.2 hc0
    clear hcd
    go_enter Try.func15, Try.ntmps15
    go_wp2_with fail
    refine (hco _ h).mono ?_
    rintro e w1 ⟨rfl, hb1⟩
    replace h := h.below hb1
    replace h2 := h2.below hb1
    clear hco
    go_wp2_with fail
    go_loopw [10, 11] (fun f p wr => ∃ (k : Nat), k ≤ n ∧ p = .int .i64 k ∧ f = .bool (okA ps k) ∧ Below w1.heap.size w1 wr) (fun _ p _ => n - (intOf p).toNat)
    case atStart => first | exact ⟨0, by omega, rfl, rfl, Below.refl _ _⟩ | exact ⟨0, by omega, rfl, by rw [hl2'], Below.refl _ _⟩ | exact ⟨0, by omega, rfl, rfl⟩ | exact ⟨0, by omega, rfl, by rw [hl2']⟩
    case round =>
    obtain ⟨k, hk, rfl, rfl, hbw⟩ := hrel
    by_cases hlt0 : k < n
    · obtain ⟨b9, off9, eA9, hbl9, hc9⟩ := (h2.below hbw).int hlt0
      subst eA9
      cases hoA : okA ps k
      · have hnx := Lib.hid (show okA ps (k + 1) = false by rw [okA, hoA]; rfl)
        clear hoA
        go_wp2_with fail
        go_roundw
        case rel => exact ⟨k + 1, by omega, by go_num, by rw [hnx.out], hbw⟩
        case measure => first | (simp [intOf]; done) | (simp [intOf]; omega)
      · have hnx := Lib.hid (show okA ps (k + 1) = inR (ix ps k) 0 1000 by rw [okA, hoA]; rfl)
        clear hoA
        go_wp2_with fail
        refine (l00In_any _ _ _ _).mono ?_
        rintro e w2 ⟨rfl, rfl⟩
        go_wp2_with fail
        go_roundw
        case rel => exact ⟨k + 1, by omega, by go_num, by rw [hnx.out], hbw⟩
        case measure => first | (simp [intOf]; done) | (simp [intOf]; omega)
    have hkN : k = n := by omega
    clear hlt0
    subst k
    cases hoA : okA ps n
    · go_wp2_with fail
      go_ret3
      exact RetB.nil hr.out (Bl.then hb1 hbw)
    · go_wp2_with fail
      go_ret3
      exact RetB.nil hr.out (Bl.then hb1 hbw)
  subst hc0
  obtain ⟨hok, hs0, hs1⟩ := lcode_zero hcd
  obtain ⟨S, rfl⟩ : ∃ S : Nat, sum = S := ⟨sum.toNat, by omega⟩
  have hS : S ≤ 1000 := by omega
  have hn8 : n ≤ 8 := by have := (layersOk_bd hok).2.1; have := hlen.out; omega
  have hokd := Lib.hid (show okPr zs ps = okA ps n by rw [okPr, hlen.out, hlp.out, decide_eq_true rfl]; rfl)
  have hcd' := Lib.hid hcd
  have hok' := Lib.hid hok
  clear hcd hok hs0 hs1
  go_enter Try.func15, Try.ntmps15
  go_wp2_with fail
  refine (hco _ h).mono ?_
  rintro e w1 ⟨rfl, hb1⟩
  replace h := h.below hb1
  replace h2 := h2.below hb1
  clear hco
  go_wp2_with fail
  go_loopw [10, 11] (fun f p wr => ∃ (k : Nat), k ≤ n ∧ p = .int .i64 k ∧ f = .bool (okA ps k) ∧ Below w1.heap.size w1 wr) (fun _ p _ => n - (intOf p).toNat)
  case atStart => first | exact ⟨0, by omega, rfl, rfl, Below.refl _ _⟩ | exact ⟨0, by omega, rfl, by rw [hl2'], Below.refl _ _⟩ | exact ⟨0, by omega, rfl, rfl⟩ | exact ⟨0, by omega, rfl, by rw [hl2']⟩
  case round =>
  obtain ⟨k, hk, rfl, rfl, hbw⟩ := hrel
  by_cases hlt0 : k < n
  · obtain ⟨b9, off9, eA9, hbl9, hc9⟩ := (h2.below hbw).int hlt0
    subst eA9
    cases hoA : okA ps k
    · have hnx := Lib.hid (show okA ps (k + 1) = false by rw [okA, hoA]; rfl)
      clear hoA
      go_wp2_with fail
      go_roundw
      case rel => exact ⟨k + 1, by omega, by go_num, by rw [hnx.out], hbw⟩
      case measure => first | (simp [intOf]; done) | (simp [intOf]; omega)
    · have hnx := Lib.hid (show okA ps (k + 1) = inR (ix ps k) 0 1000 by rw [okA, hoA]; rfl)
      clear hoA
      go_wp2_with fail
      refine (l00In_any _ _ _ _).mono ?_
      rintro e w2 ⟨rfl, rfl⟩
      go_wp2_with fail
      go_roundw
      case rel => exact ⟨k + 1, by omega, by go_num, by rw [hnx.out], hbw⟩
      case measure => first | (simp [intOf]; done) | (simp [intOf]; omega)
  have hkN : k = n := by omega
  clear hlt0
  subst k
  cases hoA : okA ps n
  · have hr := Lib.hid (show cbR zs ps (S : Int) = ([], 0, 2) from cb_two hcd'.out (by rw [hokd.out, hoA]))
    clear hoA
    go_wp2_with fail
    go_ret3
    exact RetB.nil hr.out (Bl.then hb1 hbw)
  have hopr := Lib.hid (show okPr zs ps = true by rw [hokd.out, hoA])
  have H' := Lib.hid (bldH_of hok'.out hopr.out)
  have hr := Lib.hid (cb_ok hcd'.out hopr.out)
  clear hoA
  obtain ⟨w0, hw0⟩ : ∃ w0, w0 = wr := ⟨_, rfl⟩
  subst hw0
  have hbA := Bl.then hb1 hbw
  replace h := h.below hbw
  replace h2 := h2.below hbw
  have HO := own_lit (W := w0) (cs := #[.int .i64 0]) (e := 2) (size := 1) (n := 1) (xs := ints (tabL zs ps 0)) rfl (Nat.le_refl w0.heap.size) (by decide) rfl rfl
  have HB : Below w0.heap.size w0 (w0.alloc (.cells #[.int .i64 0] 2)) := Bl.alloc (Below.refl _ _) _
  clear hbw hb1
  go_wp2_with fail
  go_loopw [12, 13] (fun o p wr => ∃ (m s : Nat) (A' : Option Addr) (c' : Nat), s = m + 1 ∧ m ≤ S ∧ o = .slice A' s c' ∧ p = .int .i64 s ∧ wr.ownsRow w0.heap.size 2 1 (.slice A' s c') s (ints (tabL zs ps m)) ∧ Below w0.heap.size w0 wr) (fun _ p _ => S + 1 - (intOf p).toNat)
  case atStart => exact ⟨0, 1, _, _, rfl, by omega, rfl, rfl, HO, HB⟩
  case round =>
    clear HO HB
    obtain ⟨m, s, A', c', hs, hm, rfl, rfl, ho, hb⟩ := hrel
    have htl := Lib.hid (own_int_len ho)
    by_cases hsS : s ≤ S
    · obtain ⟨W1, hW1⟩ : ∃ W1, W1 = wr := ⟨_, rfl⟩
      subst hW1
      have hltI : (s : Int) ≤ (S : Int) := by omega
      have hs' := Lib.hid hs
      have hsm : m < s := by omega
      clear hs
      go_wp2_with fail
      go_loopw [14, 15] (fun v p wr => ∃ (j : Nat), j ≤ n ∧ p = .int .i64 j ∧ v = .int .i64 (asc (ix (tabL zs ps m)) zs ps s j) ∧ Below W1.heap.size W1 wr) (fun _ p _ => n - (intOf p).toNat)
      case atStart => first | exact ⟨0, by omega, rfl, rfl, Below.refl _ _⟩ | exact ⟨0, by omega, rfl, rfl⟩
      case round =>
        obtain ⟨j, hj, rfl, rfl, HI⟩ := hrel
        have hoI := own_below ho HI
        by_cases hjn : j < n
        · have hjz : j < zs.length := by have := hlen.out; omega
          have hZ := H'.out.z j hjz
          have hP := H'.out.p j hjz
          obtain ⟨b1, off1, eA1, hbl1, hc1⟩ := ((h.below hb).below HI).int hjn
          subst eA1
          obtain ⟨b3, off3, eA3, hbl3, hc3⟩ := ((h2.below hb).below HI).int hjn
          subst eA3
          obtain ⟨l, hl⟩ : ∃ l : Nat, ix zs j = l := ⟨(ix zs j).toNat, by omega⟩
          have hlN := Lib.hid (show (ix zs j).toNat = l by omega)
          rw [hl] at hc1 hZ
          have hl' := Lib.hid hl
          have hab := Lib.hid (asc_best (t := ix (tabL zs ps m)) H'.out s j (by omega))
          have ht := Lib.hid (fun (a : Int) (h : a = asc (ix (tabL zs ps m)) zs ps s j) => h)
          clear hl
          by_cases hle : l ≤ s
          rotate_left
          · have hgt : (s : Int) < (l : Int) := by omega
            have hng : ¬ ((l : Int) ≤ (s : Int)) := by omega
            have hnx := Lib.hid (asc_skip (ps := ps) (show ¬ cOk (ix (tabL zs ps m)) zs s j from fun hk => by have := hk.1; rw [hl'.out] at this; omega))
            generalize asc (ix (tabL zs ps m)) zs ps s j = a at *
            go_wp2_with fail
            go_roundw
            case rel => exact ⟨j + 1, by omega, by go_num, by rw [hnx.out], HI⟩
            case measure => first | (simp [intOf]; done) | (simp [intOf]; omega)
          obtain ⟨d, hd⟩ : ∃ d, s = d + l := ⟨s - l, by omega⟩
          have hdN := Lib.hid (show s - (ix zs j).toNat = d by rw [hlN.out]; omega)
          have hdm : d ≤ m := by have := hs'.out; omega
          have hlI : (l : Int) ≤ (s : Int) := by omega
          have hng : ¬ ((s : Int) < (l : Int)) := by omega
          have e1 : IntKind.i64.wrap ((s : Int) - (l : Int)) = (d : Int) := by rw [IntWalk.i64_in _ (by omega)]; omega
          obtain ⟨b2, off2, eA2, hbl2, hc2⟩ := (Rd.of_own hoI).int (show d < s by omega)
          subst eA2
          have hdI0 : (0 : Int) ≤ (d : Int) := by omega
          have hdI : (d : Int) < (s : Int) := by omega
          have htd := Lib.hid (tabL_at zs ps hdm)
          have hbd := Lib.hid (gG_bd H'.out d (by omega))
          rw [← htd.out] at hbd
          have hcs : cst (ix (tabL zs ps m)) zs ps s j = ix (tabL zs ps m) d + 2000 * ix ps j + 1 := by unfold cst; rw [hdN.out]
          have hkt := Lib.hid (show cOk (ix (tabL zs ps m)) zs s j ↔ 0 ≤ ix (tabL zs ps m) d from ⟨fun hk => by have := hk.2; rw [hdN.out] at this; exact this, fun h0 => ⟨by rw [hl'.out]; omega, by rw [hdN.out]; exact h0⟩⟩)
          have hsk := Lib.hid (fun h => asc_skip (ps := ps) (t := ix (tabL zs ps m)) (zs := zs) (n := s) (j := j) h)
          have htk := Lib.hid (fun h1 h2 => asc_take (ps := ps) (t := ix (tabL zs ps m)) (zs := zs) (n := s) (j := j) h1 h2)
          have hkp := Lib.hid (fun h => asc_keep (ps := ps) (t := ix (tabL zs ps m)) (zs := zs) (n := s) (j := j) h)
          rw [hcs] at htk hkp
          clear hd hcs
          generalize asc (ix (tabL zs ps m)) zs ps s j = a at *
          generalize ix ps j = pk at *
          generalize ix (tabL zs ps m) d = t at *
          by_cases h0 : 0 ≤ t
          rotate_left
          · have hlt0 : t < 0 := by omega
            have hnx := Lib.hid (hsk.out (fun hk => h0 (hkt.out.1 hk)))
            go_wp2_with fail
            go_roundw
            case rel => exact ⟨j + 1, by omega, by go_num, by rw [hnx.out], HI⟩
            case measure => first | (simp [intOf]; done) | (simp [intOf]; omega)
          have hbd2 := (hbd.out h0).2.2
          have hn0 : ¬ t < 0 := by omega
          have hdb : d ≤ 1000 := by omega
          have e2 : IntKind.i64.wrap (2000 * pk) = 2000 * pk := IntWalk.i64_in _ (by omega)
          have e3 : IntKind.i64.wrap (t + 2000 * pk) = t + 2000 * pk := IntWalk.i64_in _ (by omega)
          have e4 : IntKind.i64.wrap (t + 2000 * pk + 1) = t + 2000 * pk + 1 := IntWalk.i64_in _ (by omega)
          by_cases ha : a < 0
          · have hnx := Lib.hid (htk.out (hkt.out.2 h0) (.inl ha))
            go_wp2_with fail
            go_region
            go_wp2_with fail
            go_roundw
            case rel => exact ⟨j + 1, by omega, by go_num, by rw [hnx.out], HI.drew⟩
            case measure => first | (simp [intOf]; done) | (simp [intOf]; omega)
          by_cases hc : t + 2000 * pk + 1 < a
          · have hnx := Lib.hid (htk.out (hkt.out.2 h0) (.inr hc))
            go_wp2_with fail
            go_region
            go_wp2_with fail
            go_roundw
            case rel => exact ⟨j + 1, by omega, by go_num, by rw [hnx.out], HI.drew⟩
            case measure => first | (simp [intOf]; done) | (simp [intOf]; omega)
          · have hnx := Lib.hid (hkp.out (by omega))
            go_wp2_with fail
            go_region
            go_wp2_with fail
            go_roundw
            case rel => exact ⟨j + 1, by omega, by go_num, by rw [hnx.out], HI.drew⟩
            case measure => first | (simp [intOf]; done) | (simp [intOf]; omega)
        · obtain rfl : j = n := by omega
          have hx := Lib.hid (show tabL zs ps m ++ [asc (ix (tabL zs ps m)) zs ps s j] = tabL zs ps s by rw [hs'.out, tabL, hlen.out])
          generalize asc (ix (tabL zs ps m)) zs ps s j = a at *
          have hbI := Below.trans hb (HI.mono hb.size)
          go_wp2_with (at_builtin; refine wpList_app_int wr rfl _ _ rfl w0.heap.size A' s c' _ a rfl hoI rfl hbI.size (by omega) ?_; intro A6 c6 w6 ho6 hg6)
          go_roundw
          case rel =>
            rw [hx.out] at ho6
            exact ⟨s, s + 1, A6, c6, rfl, hsS, rfl, by go_num, ho6, app_below hoI hbI (Nat.le_refl _) hbI.size hg6⟩
          case measure => first | (simp [intOf]; done) | (simp [intOf]; omega)
    · obtain rfl : m = S := by omega
      subst hs
      have hltI : ¬ (((m + 1 : Nat) : Int) ≤ (m : Int)) := by omega
      obtain ⟨w9, hw9⟩ : ∃ w9, w9 = wr := ⟨_, rfl⟩
      subst hw9
      have hF := Rd.of_own ho
      have hbB := Bl.then hbA hb
      replace h := h.below hb
      replace h2 := h2.below hb
      clear hb ho hbA
      obtain ⟨b2, off2, eA2, hbl2, hc2⟩ := hF.int (show m < m + 1 by omega)
      subst eA2
      rw [tabL_at zs ps (Nat.le_refl m)] at hc2
      have hm1 : (m : Int) < (m : Int) + 1 := by omega
      have hwn : IntKind.i64.wrap ((n : Int) - 1) = (n : Int) - 1 := IntWalk.i64_in _ (by omega)
      by_cases hT : tT zs ps m < 0
      · have hr3 := Lib.hid (show cbR zs ps (m : Int) = ([], 0, 3) by rw [hr.out, if_pos hT])
        go_wp2_with fail
        go_ret3
        exact RetB.nil hr3.out hbB
      have hr3 := Lib.hid (show cbR zs ps (m : Int) = (gG zs ps m, tT zs ps m / 2000, 0) by rw [hr.out, if_neg hT])
      have hTS := Lib.hid (Int.not_lt.1 hT)
      have hbdm := (gG_bd H'.out m hS hTS.out).2.2
      have hc2' := Lib.hid hc2
      have hT0 : ¬ (tT zs ps m < 0) := hT
      have HO := own_lit (W := w9) (cs := #[]) (e := 2) (size := 1) (n := 0) (xs := ints []) rfl (Nat.le_refl w9.heap.size) (by decide) rfl rfl
      have HB : Below w9.heap.size w9 (w9.alloc (.cells #[] 2)) := Bl.alloc (Below.refl _ _) _
      have hFr := Lib.hid (fun (W : World) (hb : Below w9.heap.size w9 W) => (hb.cell (p := ⟨b2, off2 + m, none⟩) hbl2).trans hc2)
      go_wp2_with fail
      clear hc2
      go_loopw [17, 18] (fun o v wr => ∃ (r q : Nat) (A' : Option Addr) (c' : Nat) (ac : List Int), r ≤ m ∧ q + r ≤ m ∧ v = .int .i64 r ∧ o = .slice A' q c' ∧ Hid (ac ++ gG zs ps r = gG zs ps m) ∧ Hid (0 ≤ tT zs ps r) ∧ wr.ownsRow w9.heap.size 2 1 (.slice A' q c') q (ints ac) ∧ Below w9.heap.size w9 wr) (fun _ v _ => (intOf v).toNat)
      case atStart => exact ⟨m, 0, _, _, [], by omega, by omega, rfl, rfl, Lib.hid rfl, hTS, HO, HB⟩
      case round =>
        clear HO HB
        obtain ⟨r, q, A', c', ac, hr, hqr, rfl, rfl, hac, hTr, ho, hb⟩ := hrel
        by_cases hr0 : 0 < r
        · obtain ⟨W1, hW1⟩ : ∃ W1, W1 = wr := ⟨_, rfl⟩
          subst hW1
          have hrI : (0 : Int) < (r : Int) := by omega
          have hps := Lib.hid (pick_spec H'.out hr0 hTr.out)
          go_wp2_with fail
          go_loopw [17, 18, 19] (fun o v p wr => ∃ (kk : Nat), kk ≤ n ∧ p = .int .i64 ((kk : Int) - 1) ∧ v = .int .i64 r ∧ o = .slice A' q c' ∧ Hid (∀ j, kk ≤ j → j < zs.length → hitB zs ps r j = false) ∧ Below W1.heap.size W1 wr) (fun _ _ p _ => (intOf p + 1).toNat)
          case atStart => first | exact ⟨n, Nat.le_refl _, by first | rfl | go_num, rfl, rfl, Lib.hid fun j h1 h2 => by have := hlen.out; omega, Below.refl _ _⟩ | exact ⟨n, Nat.le_refl _, by first | rfl | go_num, rfl, rfl, Lib.hid fun j h1 h2 => by have := hlen.out; omega⟩
          case round =>
            obtain ⟨kk, hkn, rfl, rfl, rfl, hno, HI⟩ := hrel
            have hoI := own_below ho HI
            rcases Nat.eq_zero_or_pos kk with rfl | hkk
            · exact absurd (hno.out _ (Nat.zero_le _) hps.out.1) (by rw [hps.out.2.1]; decide)
            obtain ⟨k, rfl⟩ : ∃ k, kk = k + 1 := ⟨kk - 1, by omega⟩
            have e0 : ((k + 1 : Nat) : Int) - 1 = (k : Int) := by omega
            rw [e0]
            have hkz : k < zs.length := by have := hlen.out; omega
            have hkn1 : k < n := by omega
            have hZ := H'.out.z k hkz
            have hP := H'.out.p k hkz
            have HIw := Below.trans hb (HI.mono hb.size)
            obtain ⟨b1, off1, eA1, hbl1, hc1⟩ := (h.below HIw).int hkn1
            subst eA1
            obtain ⟨b3, off3, eA3, hbl3, hc3⟩ := (h2.below HIw).int hkn1
            subst eA3
            obtain ⟨l, hl⟩ : ∃ l : Nat, ix zs k = l := ⟨(ix zs k).toNat, by omega⟩
            have hlN := Lib.hid (show (ix zs k).toNat = l by omega)
            rw [hl] at hc1 hZ
            have hl' := Lib.hid hl
            have hkz' := Lib.hid hkz
            have hwk : IntKind.i64.wrap ((k : Int) - 1) = (k : Int) - 1 := IntWalk.i64_in _ (by omega)
            have hstep := Lib.hid (fun (hf : hitB zs ps r k = false) => (show ∀ j, k ≤ j → j < zs.length → hitB zs ps r j = false from fun j h1 h2 => by
              by_cases e : j = k
              · subst e; exact hf
              · exact hno.out j (by omega) h2))
            clear hl hkz
            by_cases hle : l ≤ r
            rotate_left
            · have hd1 : decide ((l : Int) ≤ (r : Int)) = false := decide_eq_false (by omega)
              have hng : ¬ ((l : Int) ≤ (r : Int)) := by omega
              have hnx := Lib.hid (hstep.out (by rw [← Bool.not_eq_true, hitB_iff]; intro hh; have := hh.1.1; rw [hl'.out] at this; omega))
              go_wp2_with fail
              go_quiet (fail)
              go_wp2_with fail
              go_roundw
              case rel => exact ⟨k, by omega, by first | rfl | go_num, rfl, rfl, hnx, below_drewN HI _⟩
              case measure => first | (simp [intOf]; done) | (simp [intOf]; omega)
            obtain ⟨d, hd⟩ : ∃ d, r = d + l := ⟨r - l, by omega⟩
            have hdN := Lib.hid (show r - (ix zs k).toNat = d by rw [hlN.out]; omega)
            have hlI : (l : Int) ≤ (r : Int) := by omega
            have e1 : IntKind.i64.wrap ((r : Int) - (l : Int)) = (d : Int) := by rw [IntWalk.i64_in _ (by omega)]; omega
            have hdI0 : (0 : Int) ≤ (d : Int) := by omega
            have hdI : (d : Int) < ((m + 1 : Nat) : Int) := by omega
            have hrS : (r : Int) < ((m + 1 : Nat) : Int) := by omega
            have hrI0 : (0 : Int) ≤ (r : Int) := by omega
            obtain ⟨b2, off2, eA2, hbl2, hc2⟩ := (hF.below HIw).int (show d < m + 1 by omega)
            obtain ⟨b4, off4, eA4, hbl4, hc4⟩ := (hF.below HIw).int (show r < m + 1 by omega)
            simp only [Option.some.injEq, Addr.mk.injEq, and_true] at eA2
            obtain ⟨rfl, rfl⟩ := eA2
            simp only [Option.some.injEq, Addr.mk.injEq, and_true] at eA4
            obtain ⟨rfl, rfl⟩ := eA4
            rw [tabL_at zs ps (show d ≤ m by omega)] at hc2
            rw [tabL_at zs ps (show r ≤ m by omega)] at hc4
            have hbd := Lib.hid (gG_bd H'.out d (by omega))
            have hcs : cst (tT zs ps) zs ps r k = tT zs ps d + 2000 * ix ps k + 1 := by unfold cst; rw [hdN.out]
            have hit := Lib.hid (show hitB zs ps r k = true ↔ 0 ≤ tT zs ps d ∧ tT zs ps d + 2000 * ix ps k + 1 = tT zs ps r by
              rw [hitB_iff, hcs]
              exact ⟨fun hh => ⟨by have := hh.1.2; rw [hdN.out] at this; exact this, hh.2⟩, fun hh => ⟨⟨by rw [hl'.out]; exact hlI, by rw [hdN.out]; exact hh.1⟩, hh.2⟩⟩)
            have hgs := Lib.hid (gG_step H'.out hr0 hTr.out)
            have hTd := Lib.hid (fun (h : 0 ≤ tT zs ps d) => h)
            clear hcs
            generalize ix ps k = pk at *
            generalize hT1 : tT zs ps d = t1 at hc2 hbd hit hTd
            generalize hT2 : tT zs ps r = t2 at hc4 hit
            have hT1' := Lib.hid hT1
            have hd' := Lib.hid hd
            clear hT1 hT2 hd
            by_cases h0 : 0 ≤ t1
            rotate_left
            · have hd1 : decide (0 ≤ t1) = false := decide_eq_false h0
              have hnx := Lib.hid (hstep.out (by rw [← Bool.not_eq_true, hit.out]; exact fun hh => h0 hh.1))
              go_wp2_with fail
              go_quiet (fail)
              go_wp2_with fail
              go_roundw
              case rel => exact ⟨k, by omega, by first | rfl | go_num, rfl, rfl, hnx, below_drewN HI _⟩
              case measure => first | (simp [intOf]; done) | (simp [intOf]; omega)
            have hbd2 := (hbd.out h0).2.2
            have e2 : IntKind.i64.wrap (2000 * pk) = 2000 * pk := IntWalk.i64_in _ (by omega)
            have e3 : IntKind.i64.wrap (t1 + 2000 * pk) = t1 + 2000 * pk := IntWalk.i64_in _ (by omega)
            have e4 : IntKind.i64.wrap (t1 + 2000 * pk + 1) = t1 + 2000 * pk + 1 := IntWalk.i64_in _ (by omega)
            by_cases hc : t1 + 2000 * pk + 1 = t2
            rotate_left
            · have hq1 : (t1 + 2000 * pk + 1 == t2) = false := beq_eq_false_iff_ne.2 hc
              have hnx := Lib.hid (hstep.out (by rw [← Bool.not_eq_true, hit.out]; exact fun hh => hc hh.2))
              go_wp2_with fail
              go_quiet (fail)
              go_wp2_with fail
              go_roundw
              case rel => exact ⟨k, by omega, by first | rfl | go_num, rfl, rfl, hnx, below_drewN HI _⟩
              case measure => first | (simp [intOf]; done) | (simp [intOf]; omega)
            have hpk := Lib.hid (show pickI zs ps r = k from lastIx_eq (hit.out.2 ⟨h0, hc⟩) hkz'.out (fun j h1 h2 => hno.out j (by omega) h2))
            have hgr := Lib.hid (show gG zs ps r = (l : Int) :: gG zs ps d by have := hgs.out; rw [hpk.out, hdN.out, hl'.out] at this; exact this)
            have hnac := Lib.hid (show (ac ++ [(l : Int)]) ++ gG zs ps d = gG zs ps m by rw [← hac.out, hgr.out, List.append_assoc]; rfl)
            have hTd2 := Lib.hid (show 0 ≤ tT zs ps d by rw [hT1'.out]; exact h0)
            subst hc
            go_wp2_with fail
            go_quiet (fail)
            obtain ⟨w5, hw5, hb5, ho5⟩ : ∃ w5, w5 = wr.drewN nq ∧ Below w9.heap.size w9 w5 ∧ w5.ownsRow w9.heap.size 2 1 (.slice A' q c') q (ints ac) := ⟨_, rfl, below_drewN HIw _, own_below hoI (below_drewN (Below.refl wr.heap.size wr) _)⟩
            rw [← hw5]
            clear hw5
            go_wp2_with (at_builtin; refine wpList_app_int w5 rfl _ _ rfl w9.heap.size A' q c' _ (l : Int) rfl ho5 rfl hb5.size (by omega) ?_; intro A6 c6 w6 ho6 hg6)
            go_roundw
            case rel => exact ⟨d, q + 1, A6, c6, _, by have := hd'.out; omega, by have := hd'.out; omega, by first | rfl | go_num, rfl, hnac, hTd2, ho6, app_below ho5 hb5 (Nat.le_refl _) hb5.size hg6⟩
            case measure =>
              have := hd'.out
              first | (simp [intOf]; done) | (simp [intOf]; omega)
        · obtain rfl : r = 0 := by omega
          have hrI : ¬ ((0 : Int) < ((0 : Nat) : Int)) := by decide
          have hfin := Lib.hid (show ac = gG zs ps m by rw [← hac.out, gG_zero, List.append_nil])
          rw [hfin.out] at ho
          have hcm := hFr.out wr hb
          have hdv : (tT zs ps m).tdiv 2000 = tT zs ps m / 2000 := Int.tdiv_eq_ediv_of_nonneg hTS.out
          have hdw : IntKind.i64.wrap (tT zs ps m / 2000) = tT zs ps m / 2000 := IntWalk.i64_in _ (by have := hTS.out; omega)
          go_wp2_with fail
          go_region
          go_wp2_with fail
          go_ret3
          exact RetB.mk hr3.out (ownsRow_le' ho hbB.size) (Bl.then hbB hb.drew)
end Go.Proofs.Ytgaahmcbfognhaa
