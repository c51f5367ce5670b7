/-
  The reference's table of least counts of layers, and the first build with a sum. The conditions: layers are read as the given list, within their bounds; the sum is 1000 at most.
-/
import Derived.Test.YtgaahmcbfognhaaBldP
import Derived.Test.YtgaahmcbfognhaaCnt
import Derived.BigQuiet
import Derived.Deep.QuietTactic
namespace Go.Proofs.Ytgaahmcbfognhaa
open Go.RowKit
set_option maxHeartbeats 3200000
set_option linter.unusedVariables false

theorem ix_rep {n j : Nat} (h : j < n) : ix (List.replicate n 0) j = 0 := by
  unfold ix
  rw [List.getD_eq_getElem?_getD, List.getElem?_replicate, if_pos h]; rfl
theorem bldH_rep {zs : List Int} (h : layersOk zs = true) : BldH zs (List.replicate zs.length 0) := by
  obtain ⟨h1, h8, hr⟩ := layersOk_bd h
  exact ⟨fun i hi => inR_true.1 (hr.1 i hi), fun i hi => by rw [ix_rep hi]; decide, ⟨h1, h8⟩⟩
set_option maxRecDepth 100000 in
theorem l06Few_any (A : Option Addr) (n c : Nat) (zs : List Int) (S : Nat) (w0 : World) (h : Rd w0 1 A n (ints zs)) (H : BldH zs (List.replicate zs.length 0)) (hS : S ≤ 1000) :
    Calls Try.prog 22 #[.slice A n c, .int .i64 S] w0 (RetSl 2 1 (S + 1) (ints (tabL zs (List.replicate zs.length 0) S)) w0) := by
  have hlen := Lib.hid h.len
  have H' := Lib.hid H
  have hn8 : n ≤ 8 := by have := H.l.2; have := hlen.out; omega
  have HO := own_lit (W := w0) (cs := #[.int .i64 0]) (e := 2) (size := 1) (n := 1) (xs := ints (tabL zs (List.replicate zs.length 0) 0)) rfl (Nat.le_refl w0.heap.size) (by decide) rfl rfl
  have HB : Below w0.heap.size w0 (w0.alloc (.cells #[.int .i64 0] 2)) := Bl.alloc (Below.refl _ _) _
  clear H
  go_enter Try.func22, Try.ntmps22
  go_wp2_with fail
  go_loopw [5, 6] (fun o p wr => ∃ (m s : Nat) (A' : Option Addr) (c' : Nat), s = m + 1 ∧ m ≤ S ∧ o = .slice A' s c' ∧ p = .int .i64 s ∧ wr.ownsRow w0.heap.size 2 1 (.slice A' s c') s (ints (tabL zs (List.replicate zs.length 0) m)) ∧ Below w0.heap.size w0 wr) (fun _ p _ => S + 1 - (intOf p).toNat)
  case atStart => exact ⟨0, 1, _, _, rfl, by omega, rfl, rfl, HO, HB⟩
  case round =>
    clear HO HB
    obtain ⟨m, s, A', c', hs, hm, rfl, rfl, ho, hb⟩ := hrel
    have htl := Lib.hid (own_int_len ho)
    by_cases hlt : s ≤ S
    · obtain ⟨W1, hW1⟩ : ∃ W1, W1 = wr := ⟨_, rfl⟩
      subst hW1
      have hltI : (s : Int) ≤ (S : Int) := by omega
      have hs' := Lib.hid hs
      have hsm : m < s := by omega
      clear hs
      go_wp2_with fail
      go_loopw [7, 8] (fun v p wr => ∃ (j : Nat), j ≤ n ∧ p = .int .i64 j ∧ v = .int .i64 (asc (ix (tabL zs (List.replicate zs.length 0) m)) zs (List.replicate zs.length 0) s j) ∧ Below W1.heap.size W1 wr) (fun _ p _ => n - (intOf p).toNat)
      case atStart => first | exact ⟨0, by omega, rfl, rfl, Below.refl _ _⟩ | exact ⟨0, by omega, rfl, rfl⟩
      case round =>
        obtain ⟨j, hj, rfl, rfl, HI⟩ := hrel
        have hoI := own_below ho HI
        by_cases hjn : j < n
        · have hjz : j < zs.length := by have := hlen.out; omega
          have hZ := H'.out.z j hjz
          have hP := H'.out.p j hjz
          obtain ⟨b1, off1, eA1, hbl1, hc1⟩ := ((h.below hb).below HI).int hjn
          subst eA1
          obtain ⟨l, hl⟩ : ∃ l : Nat, ix zs j = l := ⟨(ix zs j).toNat, by omega⟩
          have hlN := Lib.hid (show (ix zs j).toNat = l by omega)
          rw [hl] at hc1 hZ
          have hl' := Lib.hid hl
          have hab := Lib.hid (asc_best (t := ix (tabL zs (List.replicate zs.length 0) m)) H'.out s j (by omega))
          have ht := Lib.hid (fun (a : Int) (h : a = asc (ix (tabL zs (List.replicate zs.length 0) m)) zs (List.replicate zs.length 0) s j) => h)
          clear hl
          by_cases hle : l ≤ s
          rotate_left
          · have hgt : (s : Int) < (l : Int) := by omega
            have hng : ¬ ((l : Int) ≤ (s : Int)) := by omega
            have hnx := Lib.hid (asc_skip (ps := (List.replicate zs.length 0)) (show ¬ cOk (ix (tabL zs (List.replicate zs.length 0) m)) zs s j from fun hk => by have := hk.1; rw [hl'.out] at this; omega))
            generalize asc (ix (tabL zs (List.replicate zs.length 0) m)) zs (List.replicate zs.length 0) s j = a at *
            go_wp2_with fail
            go_roundw
            case rel => exact ⟨j + 1, by omega, by go_num, by rw [hnx.out], HI⟩
            case measure => first | (simp [intOf]; done) | (simp [intOf]; omega)
          obtain ⟨d, hd⟩ : ∃ d, s = d + l := ⟨s - l, by omega⟩
          have hdN := Lib.hid (show s - (ix zs j).toNat = d by rw [hlN.out]; omega)
          have hdm : d ≤ m := by have := hs'.out; omega
          have hlI : (l : Int) ≤ (s : Int) := by omega
          have hng : ¬ ((s : Int) < (l : Int)) := by omega
          have e1 : IntKind.i64.wrap ((s : Int) - (l : Int)) = (d : Int) := by rw [IntWalk.i64_in _ (by omega)]; omega
          obtain ⟨b2, off2, eA2, hbl2, hc2⟩ := (Rd.of_own hoI).int (show d < s by omega)
          subst eA2
          have hdI0 : (0 : Int) ≤ (d : Int) := by omega
          have hdI : (d : Int) < (s : Int) := by omega
          have htd := Lib.hid (tabL_at zs (List.replicate zs.length 0) hdm)
          have hbd := Lib.hid (gG_bd H'.out d (by omega))
          rw [← htd.out] at hbd
          have hcs : cst (ix (tabL zs (List.replicate zs.length 0) m)) zs (List.replicate zs.length 0) s j = ix (tabL zs (List.replicate zs.length 0) m) d + 1 := by unfold cst; rw [hdN.out]; rw [ix_rep hjz, Int.mul_zero, Int.add_zero]
          have hkt := Lib.hid (show cOk (ix (tabL zs (List.replicate zs.length 0) m)) zs s j ↔ 0 ≤ ix (tabL zs (List.replicate zs.length 0) m) d from ⟨fun hk => by have := hk.2; rw [hdN.out] at this; exact this, fun h0 => ⟨by rw [hl'.out]; omega, by rw [hdN.out]; exact h0⟩⟩)
          have hsk := Lib.hid (fun h => asc_skip (ps := (List.replicate zs.length 0)) (t := ix (tabL zs (List.replicate zs.length 0) m)) (zs := zs) (n := s) (j := j) h)
          have htk := Lib.hid (fun h1 h2 => asc_take (ps := (List.replicate zs.length 0)) (t := ix (tabL zs (List.replicate zs.length 0) m)) (zs := zs) (n := s) (j := j) h1 h2)
          have hkp := Lib.hid (fun h => asc_keep (ps := (List.replicate zs.length 0)) (t := ix (tabL zs (List.replicate zs.length 0) m)) (zs := zs) (n := s) (j := j) h)
          rw [hcs] at htk hkp
          clear hd hcs
          generalize asc (ix (tabL zs (List.replicate zs.length 0) m)) zs (List.replicate zs.length 0) s j = a at *
          generalize ix (tabL zs (List.replicate zs.length 0) m) d = t at *
          by_cases h0 : 0 ≤ t
          rotate_left
          · have hlt0 : t < 0 := by omega
            have hnx := Lib.hid (hsk.out (fun hk => h0 (hkt.out.1 hk)))
            go_wp2_with fail
            go_roundw
            case rel => exact ⟨j + 1, by omega, by go_num, by rw [hnx.out], HI⟩
            case measure => first | (simp [intOf]; done) | (simp [intOf]; omega)
          have hbd2 := (hbd.out h0).2.2
          have hn0 : ¬ t < 0 := by omega
          have hdb : d ≤ 1000 := by omega
          have e2 : IntKind.i64.wrap (t + 1) = t + 1 := IntWalk.i64_in _ (by omega)
          by_cases ha : a < 0
          · have hnx := Lib.hid (htk.out (hkt.out.2 h0) (.inl ha))
            go_wp2_with fail
            go_roundw
            case rel => exact ⟨j + 1, by omega, by go_num, by rw [hnx.out], HI⟩
            case measure => first | (simp [intOf]; done) | (simp [intOf]; omega)
          by_cases hc : t + 1 < a
          · have hnx := Lib.hid (htk.out (hkt.out.2 h0) (.inr hc))
            go_wp2_with fail
            go_roundw
            case rel => exact ⟨j + 1, by omega, by go_num, by rw [hnx.out], HI⟩
            case measure => first | (simp [intOf]; done) | (simp [intOf]; omega)
          · have hnx := Lib.hid (hkp.out (by omega))
            go_wp2_with fail
            go_roundw
            case rel => exact ⟨j + 1, by omega, by go_num, by rw [hnx.out], HI⟩
            case measure => first | (simp [intOf]; done) | (simp [intOf]; omega)
        · obtain rfl : j = n := by omega
          have hx := Lib.hid (show tabL zs (List.replicate zs.length 0) m ++ [asc (ix (tabL zs (List.replicate zs.length 0) m)) zs (List.replicate zs.length 0) s j] = tabL zs (List.replicate zs.length 0) s by rw [hs'.out, tabL, hlen.out])
          generalize asc (ix (tabL zs (List.replicate zs.length 0) m)) zs (List.replicate zs.length 0) s j = a at *
          have hbI := Below.trans hb (HI.mono hb.size)
          go_wp2_with (at_builtin; refine wpList_app_int wr rfl _ _ rfl w0.heap.size A' s c' _ a rfl hoI rfl hbI.size (by omega) ?_; intro A6 c6 w6 ho6 hg6)
          go_roundw
          case rel =>
            rw [hx.out] at ho6
            exact ⟨s, s + 1, A6, c6, rfl, hlt, rfl, by go_num, ho6, app_below hoI hbI (Nat.le_refl _) hbI.size hg6⟩
          case measure => first | (simp [intOf]; done) | (simp [intOf]; omega)
    · obtain rfl : m = S := by omega
      subst hs
      have hltI : ¬ (((m + 1 : Nat) : Int) ≤ (m : Int)) := by omega
      go_wp2_with fail
      go_ret
      exact ⟨_, _, rfl, ho, hb⟩
set_option maxRecDepth 100000 in
theorem l06First_any (A AF : Option Addr) (n c cF : Nat) (zs : List Int) (S : Nat) (w0 : World) (h : Rd w0 1 A n (ints zs)) (hF : Rd w0 1 AF (S + 1) (ints (tabL zs (List.replicate zs.length 0) S))) (H : BldH zs (List.replicate zs.length 0)) (hS : S ≤ 1000) (hTS0 : 0 ≤ tT zs (List.replicate zs.length 0) S) :
    Calls Try.prog 29 #[.slice A n c, .slice AF (S + 1) cF, .int .i64 S] w0 fun e w' => ∃ (A' : Option Addr) (c' q : Nat), e = .returned (.slice A' q c') ∧ w'.ownsRow w0.heap.size 2 1 (.slice A' q c') q (ints (gG zs (List.replicate zs.length 0) S)) ∧ Below w0.heap.size w0 w' := by
  have hlen := Lib.hid h.len
  have H' := Lib.hid H
  have hTS := Lib.hid hTS0
  have hn8 : n ≤ 8 := by have := H.l.2; have := hlen.out; omega
  have hwn : IntKind.i64.wrap ((n : Int) - 1) = (n : Int) - 1 := IntWalk.i64_in _ (by omega)
  have HO := own_lit (W := w0) (cs := #[]) (e := 2) (size := 1) (n := 0) (xs := ints []) rfl (Nat.le_refl w0.heap.size) (by decide) rfl rfl
  have HB : Below w0.heap.size w0 (w0.alloc (.cells #[] 2)) := Bl.alloc (Below.refl _ _) _
  clear H hTS0
  go_enter Try.func29, Try.ntmps29
  go_wp2_with fail
  go_loopw [2, 7] (fun v o wr => ∃ (r q : Nat) (A' : Option Addr) (c' : Nat) (ac : List Int), r ≤ S ∧ q + r ≤ S ∧ v = .int .i64 r ∧ o = .slice A' q c' ∧ Hid (ac ++ gG zs (List.replicate zs.length 0) r = gG zs (List.replicate zs.length 0) S) ∧ Hid (0 ≤ tT zs (List.replicate zs.length 0) r) ∧ wr.ownsRow w0.heap.size 2 1 (.slice A' q c') q (ints ac) ∧ Below w0.heap.size w0 wr) (fun v _ _ => (intOf v).toNat)
  case atStart => exact ⟨S, 0, _, _, [], by omega, by omega, rfl, rfl, Lib.hid rfl, hTS, HO, HB⟩
  case round =>
    clear HO HB
    obtain ⟨r, q, A', c', ac, hr, hqr, rfl, rfl, hac, hTr, ho, hb⟩ := hrel
    by_cases hr0 : 0 < r
    · obtain ⟨W1, hW1⟩ : ∃ W1, W1 = wr := ⟨_, rfl⟩
      subst hW1
      have hrI : (0 : Int) < (r : Int) := by omega
      have hps := Lib.hid (pick_spec H'.out hr0 hTr.out)
      go_wp2_with fail
      go_loopw [2, 7, 8] (fun v o p wr => ∃ (kk : Nat), kk ≤ n ∧ p = .int .i64 ((kk : Int) - 1) ∧ v = .int .i64 r ∧ o = .slice A' q c' ∧ Hid (∀ j, kk ≤ j → j < zs.length → hitB zs (List.replicate zs.length 0) r j = false) ∧ Below W1.heap.size W1 wr) (fun _ _ p _ => (intOf p + 1).toNat)
      case atStart => first | exact ⟨n, Nat.le_refl _, by first | rfl | go_num, rfl, rfl, Lib.hid fun j h1 h2 => by have := hlen.out; omega, Below.refl _ _⟩ | exact ⟨n, Nat.le_refl _, by first | rfl | go_num, rfl, rfl, Lib.hid fun j h1 h2 => by have := hlen.out; omega⟩
      case round =>
        obtain ⟨kk, hkn, rfl, rfl, rfl, hno, HI⟩ := hrel
        have hoI := own_below ho HI
        rcases Nat.eq_zero_or_pos kk with rfl | hkk
        · exact absurd (hno.out _ (Nat.zero_le _) hps.out.1) (by rw [hps.out.2.1]; decide)
        obtain ⟨k, rfl⟩ : ∃ k, kk = k + 1 := ⟨kk - 1, by omega⟩
        have e0 : ((k + 1 : Nat) : Int) - 1 = (k : Int) := by omega
        rw [e0]
        have hkz : k < zs.length := by have := hlen.out; omega
        have hkn1 : k < n := by omega
        have hZ := H'.out.z k hkz
        have hP := H'.out.p k hkz
        have HIw := Below.trans hb (HI.mono hb.size)
        obtain ⟨b1, off1, eA1, hbl1, hc1⟩ := (h.below HIw).int hkn1
        subst eA1
        obtain ⟨l, hl⟩ : ∃ l : Nat, ix zs k = l := ⟨(ix zs k).toNat, by omega⟩
        have hlN := Lib.hid (show (ix zs k).toNat = l by omega)
        rw [hl] at hc1 hZ
        have hl' := Lib.hid hl
        have hkz' := Lib.hid hkz
        have hwk : IntKind.i64.wrap ((k : Int) - 1) = (k : Int) - 1 := IntWalk.i64_in _ (by omega)
        have hstep := Lib.hid (fun (hf : hitB zs (List.replicate zs.length 0) r k = false) => (show ∀ j, k ≤ j → j < zs.length → hitB zs (List.replicate zs.length 0) r j = false from fun j h1 h2 => by
          by_cases e : j = k
          · subst e; exact hf
          · exact hno.out j (by omega) h2))
        clear hl hkz
        by_cases hle : l ≤ r
        rotate_left
        · have hd1 : decide ((l : Int) ≤ (r : Int)) = false := decide_eq_false (by omega)
          have hng : ¬ ((l : Int) ≤ (r : Int)) := by omega
          have hnx := Lib.hid (hstep.out (by rw [← Bool.not_eq_true, hitB_iff]; intro hh; have := hh.1.1; rw [hl'.out] at this; omega))
          go_wp2_with fail
          go_quiet (fail)
          go_wp2_with fail
          go_roundw
          case rel => exact ⟨k, by omega, by first | rfl | go_num, rfl, rfl, hnx, below_drewN HI _⟩
          case measure => first | (simp [intOf]; done) | (simp [intOf]; omega)
        obtain ⟨d, hd⟩ : ∃ d, r = d + l := ⟨r - l, by omega⟩
        have hdN := Lib.hid (show r - (ix zs k).toNat = d by rw [hlN.out]; omega)
        have hlI : (l : Int) ≤ (r : Int) := by omega
        have e1 : IntKind.i64.wrap ((r : Int) - (l : Int)) = (d : Int) := by rw [IntWalk.i64_in _ (by omega)]; omega
        have hdI0 : (0 : Int) ≤ (d : Int) := by omega
        have hdI : (d : Int) < ((S + 1 : Nat) : Int) := by omega
        have hrS : (r : Int) < ((S + 1 : Nat) : Int) := by omega
        have hrI0 : (0 : Int) ≤ (r : Int) := by omega
        obtain ⟨b2, off2, eA2, hbl2, hc2⟩ := (hF.below HIw).int (show d < S + 1 by omega)
        obtain ⟨b4, off4, eA4, hbl4, hc4⟩ := (hF.below HIw).int (show r < S + 1 by omega)
        subst eA2
        simp only [Option.some.injEq, Addr.mk.injEq, and_true] at eA4
        obtain ⟨rfl, rfl⟩ := eA4
        rw [tabL_at zs (List.replicate zs.length 0) (show d ≤ S by omega)] at hc2
        rw [tabL_at zs (List.replicate zs.length 0) (show r ≤ S by omega)] at hc4
        have hbd := Lib.hid (gG_bd H'.out d (by omega))
        have hcs : cst (tT zs (List.replicate zs.length 0)) zs (List.replicate zs.length 0) r k = tT zs (List.replicate zs.length 0) d + 1 := by unfold cst; rw [hdN.out]; rw [ix_rep hkz'.out, Int.mul_zero, Int.add_zero]
        have hit := Lib.hid (show hitB zs (List.replicate zs.length 0) r k = true ↔ 0 ≤ tT zs (List.replicate zs.length 0) d ∧ tT zs (List.replicate zs.length 0) d + 1 = tT zs (List.replicate zs.length 0) r by
          rw [hitB_iff, hcs]
          exact ⟨fun hh => ⟨by have := hh.1.2; rw [hdN.out] at this; exact this, hh.2⟩, fun hh => ⟨⟨by rw [hl'.out]; exact hlI, by rw [hdN.out]; exact hh.1⟩, hh.2⟩⟩)
        have hgs := Lib.hid (gG_step H'.out hr0 hTr.out)
        have hTd := Lib.hid (fun (h : 0 ≤ tT zs (List.replicate zs.length 0) d) => h)
        clear hcs
        generalize hT1 : tT zs (List.replicate zs.length 0) d = t1 at hc2 hbd hit hTd
        generalize hT2 : tT zs (List.replicate zs.length 0) r = t2 at hc4 hit
        have hT1' := Lib.hid hT1
        have hd' := Lib.hid hd
        clear hT1 hT2 hd
        by_cases h0 : 0 ≤ t1
        rotate_left
        · have hd1 : decide (0 ≤ t1) = false := decide_eq_false h0
          have hnx := Lib.hid (hstep.out (by rw [← Bool.not_eq_true, hit.out]; exact fun hh => h0 hh.1))
          go_wp2_with fail
          go_quiet (fail)
          go_wp2_with fail
          go_roundw
          case rel => exact ⟨k, by omega, by first | rfl | go_num, rfl, rfl, hnx, below_drewN HI _⟩
          case measure => first | (simp [intOf]; done) | (simp [intOf]; omega)
        have hbd2 := (hbd.out h0).2.2
        have e2 : IntKind.i64.wrap (t1 + 1) = t1 + 1 := IntWalk.i64_in _ (by omega)
        by_cases hc : t1 + 1 = t2
        rotate_left
        · have hq1 : (t1 + 1 == t2) = false := beq_eq_false_iff_ne.2 hc
          have hnx := Lib.hid (hstep.out (by rw [← Bool.not_eq_true, hit.out]; exact fun hh => hc hh.2))
          go_wp2_with fail
          go_quiet (fail)
          go_wp2_with fail
          go_roundw
          case rel => exact ⟨k, by omega, by first | rfl | go_num, rfl, rfl, hnx, below_drewN HI _⟩
          case measure => first | (simp [intOf]; done) | (simp [intOf]; omega)
        have hpk := Lib.hid (show pickI zs (List.replicate zs.length 0) r = k from lastIx_eq (hit.out.2 ⟨h0, hc⟩) hkz'.out (fun j h1 h2 => hno.out j (by omega) h2))
        have hgr := Lib.hid (show gG zs (List.replicate zs.length 0) r = (l : Int) :: gG zs (List.replicate zs.length 0) d by have := hgs.out; rw [hpk.out, hdN.out, hl'.out] at this; exact this)
        have hnac := Lib.hid (show (ac ++ [(l : Int)]) ++ gG zs (List.replicate zs.length 0) d = gG zs (List.replicate zs.length 0) S by rw [← hac.out, hgr.out, List.append_assoc]; rfl)
        have hTd2 := Lib.hid (show 0 ≤ tT zs (List.replicate zs.length 0) d by rw [hT1'.out]; exact h0)
        subst hc
        go_wp2_with fail
        go_quiet (fail)
        obtain ⟨w5, hw5, hb5, ho5⟩ : ∃ w5, w5 = wr.drewN nq ∧ Below w0.heap.size w0 w5 ∧ w5.ownsRow w0.heap.size 2 1 (.slice A' q c') q (ints ac) := ⟨_, rfl, below_drewN HIw _, own_below hoI (below_drewN (Below.refl wr.heap.size wr) _)⟩
        rw [← hw5]
        clear hw5
        go_wp2_with (at_builtin; refine wpList_app_int w5 rfl _ _ rfl w0.heap.size A' q c' _ (l : Int) rfl ho5 rfl hb5.size (by omega) ?_; intro A6 c6 w6 ho6 hg6)
        go_roundw
        case rel => exact ⟨d, q + 1, A6, c6, _, by have := hd'.out; omega, by have := hd'.out; omega, by first | rfl | go_num, rfl, hnac, hTd2, ho6, app_below ho5 hb5 (Nat.le_refl _) hb5.size hg6⟩
        case measure =>
          have := hd'.out
          first | (simp [intOf]; done) | (simp [intOf]; omega)
    · obtain rfl : r = 0 := by omega
      have hrI : ¬ ((0 : Int) < ((0 : Nat) : Int)) := by decide
      have hfin := Lib.hid (show ac = gG zs (List.replicate zs.length 0) S by rw [← hac.out, gG_zero, List.append_nil])
      rw [hfin.out] at ho
      go_wp2_with fail
      go_ret
      exact ⟨A', c', q, rfl, ho, hb⟩
end Go.Proofs.Ytgaahmcbfognhaa
