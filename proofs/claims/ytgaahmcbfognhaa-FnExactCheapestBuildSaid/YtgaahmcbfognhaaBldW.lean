/-
  The program's table of cheapest builds. The conditions: layers and prices are read as the given lists, each within its bounds; the sum is 1000 at most.
-/
import Derived.Test.YtgaahmcbfognhaaBldL
import Derived.Deep.RegionHeld3
import Derived.BigQuiet
import Derived.Deep.QuietTactic
namespace Go.Proofs.Ytgaahmcbfognhaa
open Go.RowKit
set_option maxHeartbeats 3200000
set_option linter.unusedVariables false

theorem grown_setCell (w : World) (g k : Nat) (v : Value) : w.grownBy (w.setCell ⟨g, k, none⟩ v) (some g) :=
  ⟨rfl, rfl, rfl, by simp, fun i _ hi => heap_setCell_other w ⟨g, k, none⟩ i v (fun e => hi (by simp [e]))⟩
theorem own_past {w w' : World} {g k n c : Nat} {E : TypeId} {A : Option Addr} {xs : List Value} (h : w.ownsRow (g + 1) E k (.slice A n c) n xs) (hg : w.grownBy w' (some g)) : w'.ownsRow (g + 1) E k (.slice A n c) n xs :=
  keep_own h hg fun a b h1 h2 => by
    have := (h.lt a h1).1
    cases h2
    omega
/-- An entry of the table. -/
def EntOk (w : World) (g : Nat) (zs ps : List Int) (m : Nat) (e : BldD) : Prop :=
  e.k = decide (0 ≤ tT zs ps m) ∧ (0 ≤ tT zs ps m → e.p = tT zs ps m / 2000 ∧ e.n = (gG zs ps m).length ∧ w.ownsRow (g + 1) 2 1 (.slice e.A e.n e.c) e.n (ints (gG zs ps m)))
theorem EntOk.below {w w' : World} {g m : Nat} {zs ps : List Int} {e : BldD} (h : EntOk w g zs ps m e) (hb : Below w.heap.size w w') : EntOk w' g zs ps m e :=
  ⟨h.1, fun h0 => ⟨(h.2 h0).1, (h.2 h0).2.1, own_below (h.2 h0).2.2 hb⟩⟩
theorem EntOk.grown {w w' : World} {g m : Nat} {zs ps : List Int} {e : BldD} (h : EntOk w g zs ps m e) (hg : w.grownBy w' (some g)) : EntOk w' g zs ps m e :=
  ⟨h.1, fun h0 => ⟨(h.2 h0).1, (h.2 h0).2.1, own_past (h.2 h0).2.2 hg⟩⟩
/-- The best build so far of s: cost b, last layer i. -/
def BestW (w : World) (gb : Nat) (zs ps : List Int) (s : Nat) (b : Int) (i : Nat) (e : BldD) : Prop :=
  e.k = decide (0 ≤ b) ∧ (0 ≤ b → e.p = b / 2000 ∧ e.n = (gG zs ps (s - (ix zs i).toNat)).length + 1 ∧ w.ownsRow (gb + 1) 2 1 (.slice e.A e.n e.c) e.n (ints (ix zs i :: gG zs ps (s - (ix zs i).toNat))))
theorem BestW.below {w w' : World} {gb s i : Nat} {b : Int} {zs ps : List Int} {e : BldD} (h : BestW w gb zs ps s b i e) (hb : Below w.heap.size w w') : BestW w' gb zs ps s b i e :=
  ⟨h.1, fun h0 => ⟨(h.2 h0).1, (h.2 h0).2.1, own_below (h.2 h0).2.2 hb⟩⟩
theorem BestW.ent {w : World} {gb g s i : Nat} {b : Int} {zs ps : List Int} {e : BldD} (H : BldH zs ps) (hs : 0 < s) (hd : DSt zs ps s 0 b i) (hg : g ≤ gb) (h : BestW w gb zs ps s b i e) : EntOk w g zs ps s e := by
  obtain ⟨h1, h2⟩ := hd.done H hs
  rw [h1] at h h2
  refine ⟨h.1, fun h0 => ?_⟩
  obtain ⟨k1, k2, k3⟩ := h.2 h0
  rw [h2 h0]
  exact ⟨k1, by rw [List.length_cons]; exact k2, ownsRow_le' k3 (by omega)⟩
set_option maxRecDepth 100000 in
theorem builds_any (A B : Option Addr) (n c c2 : Nat) (zs ps : List Int) (S : Nat) (w : World) (h : Rd w 1 A n (ints zs)) (h2 : Rd w 1 B n (ints ps)) (H : BldH zs ps) (hS : S ≤ 1000) :
    Calls Try.prog 23 #[.slice A n c, .slice B n c2, .int .i64 S] w fun e w' => ∃ es, e = .returned (.slice (some ⟨w.heap.size, 0, none⟩) (S + 1) (S + 1)) ∧ w'.ownsRow w.heap.size 40 3 (.slice (some ⟨w.heap.size, 0, none⟩) (S + 1) (S + 1)) (S + 1) (blds es) ∧ (∀ m, m ≤ S → EntOk w' w.heap.size zs ps m (bAt es m)) ∧ Below w.heap.size w w' := by
  obtain ⟨i0, hi, hz0, hz1, hz2⟩ := info_parts blds_info
  have hlen := Lib.hid h.len
  have H' := Lib.hid H
  have hn8 : n ≤ 8 := by have := H.l.2; have := hlen.out; omega
  have hw0 : IntKind.i64.wrap ((S : Int) + 1) = ((S + 1 : Nat) : Int) := by rw [IntWalk.i64_in _ (by omega)]; omega
  have hS0 : (0 : Int) ≤ ((S + 1 : Nat) : Int) := by omega
  have hwn : IntKind.i64.wrap ((n : Int) - 1) = (n : Int) - 1 := IntWalk.i64_in _ (by omega)
  clear H
  go_enter Try.func23, Try.ntmps23
  go_wp2_with (at_make; refine wpList_make_full _ rfl _ _ 37 rfl w.heap.size 40 i0 _ 3 Try.underlying37 hi hz0 hz1 _ _ _ _ (S + 1) rfl rfl rfl rfl (by rw [hz2]; omega) (by unfold maxLen; omega) (Nat.le_refl _) ?_)
  intro w1 hown hg
  have HO : w1.ownsRow w.heap.size 40 3 (.slice (some ⟨w.heap.size, 0, none⟩) (S + 1) (S + 1)) (S + 1) (blds (List.replicate (S + 1) BldD.zero)) := by
    have e := blds_zeros (S + 1)
    rw [e] at hown
    exact hown
  have HB : Below w.heap.size w w1 := (Below.refl _ _).grown hg (Nat.le_refl _) (fun k hk => by cases hk)
  clear hown hg hz0 hz1 hz2 hi
  have k2 : w1.cell? ⟨w.heap.size, 2, none⟩ = some (.bool false) := by have := HO.cellAt 2 (by omega); rw [List.replicate_succ] at this; exact this
  have f2 := HO.frozenAt 2
  have hst := HO.stored 2 (.bool true)
  have hset : (blds (List.replicate (S + 1) BldD.zero)).set 2 (.bool true) = blds ((List.replicate (S + 1) BldD.zero).set 0 ⟨0, none, 0, 0, true⟩) := by rw [List.replicate_succ]; rfl
  rw [hset] at hst
  have hE0 := Lib.hid (show ∀ m, m < 1 → EntOk (w1.setCell ⟨w.heap.size, 2, none⟩ (.bool true)) w.heap.size zs ps m (bAt ((List.replicate (S + 1) BldD.zero).set 0 ⟨0, none, 0, 0, true⟩) m) from fun m hm => by
    obtain rfl : m = 0 := by omega
    rw [bAt_set (by simp), if_pos rfl]
    refine ⟨by rw [tT_zero]; rfl, fun _ => ⟨by rw [tT_zero]; rfl, rfl, ?_⟩⟩
    exact World.ownsRow_nil _ _ _ _)
  have HB0 : Below w.heap.size w (w1.setCell ⟨w.heap.size, 2, none⟩ (.bool true)) := HB.setCell (Nat.le_refl _) _
  generalize (List.replicate (S + 1) BldD.zero).set 0 ⟨0, none, 0, 0, true⟩ = es0 at *
  clear hset
  go_wp2_with fail
  go_loopw [8] (fun p wr => ∃ (s : Nat) (es : List BldD), 1 ≤ s ∧ s ≤ S + 1 ∧ p = .int .i64 s ∧ wr.ownsRow w.heap.size 40 3 (.slice (some ⟨w.heap.size, 0, none⟩) (S + 1) (S + 1)) (S + 1) (blds es) ∧ Hid (∀ m, m < s → EntOk wr w.heap.size zs ps m (bAt es m)) ∧ Below w.heap.size w wr) (fun p _ => S + 1 - (intOf p).toNat)
  case atStart => exact ⟨1, es0, by omega, by omega, rfl, hst.1, hE0, HB0⟩
  case round =>
    clear k2 f2 hst hE0 HB0 HO HB
    obtain ⟨s, es, hs1, hsS, rfl, ho, hE, hb⟩ := hrel
    have hesl := Lib.hid (own_blds_len ho)
    by_cases hlt : s ≤ S
    · obtain ⟨W1, hW1⟩ : ∃ W1, W1 = wr := ⟨_, rfl⟩
      subst hW1
      have hgW : w.heap.size < W1.heap.size := by have := ho.lt w.heap.size rfl; omega
      have BG0 := Blk.new W1 40 #[.int .i64 0, .slice none 0 0, .bool false]
      have HI0 := Bl.alloc (Below.refl W1.heap.size W1) (.cells #[.int .i64 0, .slice none 0 0, .bool false] 40)
      have hltI : (s : Int) ≤ (S : Int) := by omega
      go_wp2_with fail
      go_loopw [10] (fun p wr => ∃ (kk : Nat) (b : Int) (i : Nat) (e : BldD), kk ≤ n ∧ p = .int .i64 ((kk : Int) - 1) ∧ Hid (DSt zs ps s kk b i) ∧ Blk wr W1.heap.size 40 #[.int .i64 e.p, .slice e.A e.n e.c, .bool e.k] ∧ Hid (BestW wr W1.heap.size zs ps s b i e) ∧ Below W1.heap.size W1 wr) (fun p _ => (intOf p + 1).toNat)
      case atStart => exact ⟨n, -1, 0, BldD.zero, Nat.le_refl _, by first | rfl | go_num, Lib.hid (by rw [← hlen.out]; exact DSt.start _ _ _), BG0, Lib.hid ⟨rfl, fun h0 => absurd h0 (by decide)⟩, HI0⟩
      case round =>
        clear BG0 HI0
        obtain ⟨kk, b, i, ⟨bp, bA, bn, bc, bk⟩, hkn, rfl, hD, BG, hBW, HI⟩ := hrel
        simp only at BG
        have hoI := own_below ho HI
        have g0 := BG.cell 0
        have g1 := BG.cell 1
        have g2 := BG.cell 2
        have fzg := BG.frozen
        have ltg := BG.lt
        rcases Nat.eq_zero_or_pos kk with rfl | hkk
        · have e0 : ((0 : Nat) : Int) - 1 = -1 := rfl
          rw [e0]
          have o0 := hoI.cellAt (s * 3) (by omega)
          rw [blds_get0 (by rw [hesl.out]; omega)] at o0
          have o1 := hoI.cellAt (s * 3 + 1) (by omega)
          rw [blds_get1 (by rw [hesl.out]; omega)] at o1
          have o2 := hoI.cellAt (s * 3 + 2) (by omega)
          rw [blds_get2 (by rw [hesl.out]; omega)] at o2
          have ofr := hoI.frozenAt
          have hsI : (s : Int) < (S : Int) + 1 := by omega
          have hsI0 : (0 : Int) ≤ (s : Int) := by omega
          have hst := blds_stored (k := s) ⟨bp, bA, bn, bc, bk⟩ hoI (by omega)
          have hEs := Lib.hid (hBW.out.ent H'.out (by omega) hD.out (Nat.le_of_lt hgW))
          go_wp2_with fail
          go_roundw
          case rel =>
            refine ⟨s + 1, es.set s ⟨bp, bA, bn, bc, bk⟩, by omega, by omega, by go_num, hst.1, Lib.hid fun m hm => ?_, (hb.trans (HI.mono (Nat.le_of_lt hgW))).grown hst.2 (Nat.le_trans (Nat.le_of_lt hgW) HI.size) (by rintro q hq; cases hq; exact Nat.le_refl _)⟩
            rw [bAt_set (by rw [hesl.out]; omega)]
            by_cases em : m = s
            · subst em; rw [if_pos rfl]; exact hEs.out.grown hst.2
            · rw [if_neg em]; exact ((hE.out m (by omega)).below HI).grown hst.2
          case measure => first | (simp [intOf]; done) | (simp [intOf]; omega)
        · obtain ⟨k, rfl⟩ : ∃ k, kk = k + 1 := ⟨kk - 1, by omega⟩
          have e0 : ((k + 1 : Nat) : Int) - 1 = (k : Int) := by omega
          rw [e0]
          have hkz : k < zs.length := by have := hlen.out; omega
          have hZ := H'.out.z k hkz
          have hP := H'.out.p k hkz
          have HIw : Below w.heap.size w wr := hb.trans (HI.mono (Nat.le_of_lt hgW))
          obtain ⟨b1, off1, eA1, hbl1, hc1⟩ := (h.below HIw).int (show k < n by omega)
          have lt0 := Lib.hid (show b1 < w.heap.size from by
            obtain ⟨b3, off3, e3, hb3, _⟩ := h.int (show k < n by omega)
            rw [eA1] at e3; cases e3; exact hb3)
          subst eA1
          obtain ⟨b2, off2, eA2, hbl2, hc2⟩ := (h2.below HIw).int (show k < n by omega)
          subst eA2
          obtain ⟨l, hl⟩ : ∃ l : Nat, ix zs k = l := ⟨(ix zs k).toNat, by omega⟩
          have hlt' := Lib.hid (show (ix zs k).toNat = l by omega)
          rw [hl] at hc1 hZ
          have hl' := Lib.hid hl
          have hkz' := Lib.hid hkz
          have hkn1 : k < n := by omega
          have hwk : IntKind.i64.wrap ((k : Int) - 1) = (k : Int) - 1 := IntWalk.i64_in _ (by omega)
          clear hl hkz
          by_cases hle : l ≤ s
          rotate_left
          · have hgt : (s : Int) < (l : Int) := by omega
            have hnx := Lib.hid (hD.out.skip (fun hk => by have := hk.1; rw [hl'.out] at this; omega))
            go_wp2_with fail
            go_roundw
            case rel => exact ⟨k, b, i, ⟨bp, bA, bn, bc, bk⟩, by omega, by first | rfl | go_num, hnx, BG, hBW, HI⟩
            case measure => first | (simp [intOf]; done) | (simp [intOf]; omega)
          obtain ⟨m, hm⟩ : ∃ m, s = m + l := ⟨s - l, by omega⟩
          have hsm := Lib.hid (show s - (ix zs k).toNat = m by rw [hlt'.out]; omega)
          have hms : m < s := by omega
          have hng : ¬ ((s : Int) < (l : Int)) := by omega
          have e1 : IntKind.i64.wrap ((s : Int) - (l : Int)) = (m : Int) := by rw [IntWalk.i64_in _ (by omega)]; omega
          have r0 := hoI.cellAt (m * 3) (by omega)
          rw [blds_get0 (by rw [hesl.out]; omega)] at r0
          have r1 := hoI.cellAt (m * 3 + 1) (by omega)
          rw [blds_get1 (by rw [hesl.out]; omega)] at r1
          have r2 := hoI.cellAt (m * 3 + 2) (by omega)
          rw [blds_get2 (by rw [hesl.out]; omega)] at r2
          have hmS : (m : Int) < (S : Int) + 1 := by omega
          have hm0 : (0 : Int) ≤ (m : Int) := by omega
          have hEm := Lib.hid ((hE.out m hms).below HI)
          clear hm
          by_cases hT : 0 ≤ tT zs ps m
          rotate_left
          · have hek : (bAt es m).k = false := by rw [hEm.out.1]; exact decide_eq_false hT
            rw [hek] at r2
            have hnx := Lib.hid (hD.out.skip (fun hk => by have := hk.2; rw [hsm.out] at this; exact hT this))
            clear hT hek
            go_wp2_with fail
            go_roundw
            case rel => exact ⟨k, b, i, ⟨bp, bA, bn, bc, bk⟩, by omega, by first | rfl | go_num, hnx, BG, hBW, HI⟩
            case measure => first | (simp [intOf]; done) | (simp [intOf]; omega)
          have hek : (bAt es m).k = true := by rw [hEm.out.1]; exact decide_eq_true hT
          obtain ⟨hep, hen, hor⟩ := hEm.out.2 hT
          have hok := Lib.hid (show cOk (tT zs ps) zs s k from ⟨by rw [hl'.out]; omega, by rw [hsm.out]; exact hT⟩)
          have hsp := Lib.hid (cst_split H'.out hkz'.out (by omega) hok.out)
          rw [hsm.out] at hsp
          rw [hek] at r2
          generalize bAt es m = em at *
          obtain ⟨ep, eA, en, ec, ek⟩ := em
          simp only at r0 r1 r2 hep hen hor
          clear hek
          generalize hpk : ix ps k = pk at *
          generalize hcs : cst (tT zs ps) zs ps s k = cs at *
          have hb1 : ep + pk = cs / 2000 := by rw [hep]; exact hsp.out.1.symm
          have hb2 : (en : Int) + 1 = cs % 2000 := by have := hsp.out.2.1; rw [← hen] at this; omega
          have hb3 : 0 ≤ cs := hsp.out.2.2.1
          have hb4 : en < 1000 := by have := hsp.out.2.2.2.1; omega
          have hb5 : 0 ≤ ep := by have := hsp.out.2.2.2.2.1; omega
          have hb6 : ep ≤ 2000000 := by have := hsp.out.2.2.2.2.2; omega
          have hcs' := Lib.hid hcs
          have hen' := Lib.hid hen
          obtain ⟨q, hq⟩ : ∃ q, ep + pk = q := ⟨_, rfl⟩
          have e5 : IntKind.i64.wrap (ep + pk) = q := by rw [IntWalk.i64_in _ (by omega)]; exact hq
          have e6 : IntKind.i64.wrap ((en : Int) + 1) = (en : Int) + 1 := IntWalk.i64_in _ (by omega)
          rw [hq] at hb1
          have hb1' := Lib.hid hb1
          have hb2' := Lib.hid hb2
          have hb3' := Lib.hid hb3
          clear hT hep hen hq hpk hcs hb1 hb2 hb3 hEm hsp
          go_wp2_with fail
          go_region
          have BR := Blk.drew (Blk.new wr 40 #[.int .i64 ep, .slice eA en ec, .bool true])
          have HS5 : Below wr.heap.size wr (wr.alloc (.cells #[.int .i64 ep, .slice eA en ec, .bool true] 40)).drew := ((Below.refl wr.heap.size wr).alloc (Nat.le_refl _) _).drew
          have BG5 := BG.below HS5
          have HI5 := Bl.then HI HS5
          have hor5 := own_below hor HS5
          have hBW5 := Lib.hid (hBW.out.below HS5)
          have hc5 := (HS5.cell (p := ⟨b1, off1 + k, none⟩) hbl1).trans hc1
          have hlt5 : W1.heap.size < wr.heap.size := ltg
          have hbg1 : b1 ≠ W1.heap.size := by have h9 := lt0.out; omega
          clear g0 g1 g2 fzg ltg r0 r1 r2 hc1 hc2 hbl1 hbl2 hor hBW BG hoI HI HIw
          generalize (wr.alloc (.cells #[.int .i64 ep, .slice eA en ec, .bool true] 40)).drew = w5 at *
          generalize wr.heap.size = gr at *
          have g0 := BG5.cell 0
          have g1 := BG5.cell 1
          have g2 := BG5.cell 2
          have fzg := BG5.frozen
          have ltg := BG5.lt
          have r0 := BR.cell 0
          have r1 := BR.cell 1
          have r2 := BR.cell 2
          have fzr := BR.frozen
          have ltr := BR.lt
          by_cases hb0 : 0 ≤ b
          rotate_left
          · have hbk : bk = false := by rw [show bk = decide (0 ≤ b) from hBW5.out.1]; exact decide_eq_false hb0
            subst hbk
            have hnx := Lib.hid (hD.out.take hkz'.out hok.out (by rw [hcs'.out]; exact hb3'.out) (.inl (by omega)))
            clear hb0
            go_wp2_with fail
            refine wp_region_held_drew (S := (fun wz => wz.cell? ⟨b1, off1 + k, none⟩ = some (.int .i64 (l : Int)) ∧ wz.cell? ⟨gr, 1, none⟩ = some (.slice eA en ec))) (by kernel_rfl) ⟨hc5, r1⟩ (fun hHeld => ?_)
            refine wpAnyH_take (i := 0) (oi := ?_) (v := ?_) ?_ (by kernel_rfl) (by kernel_rfl) (by kernel_rfl) ?_ (Or.inl ⟨?_, ?_⟩) (by assumption) ?_
            rotate_left 2
            · (simp only [List.getElem?_toArray, List.getElem?_cons_zero]; rfl)
            · exact fun _ _ _ h => h
            · rfl
            · intro w hSw
              (try dsimp only at hSw)
              go_simp
              try with_reducible rfl
            simp only [put_arr, List.set_cons_zero, List.set_cons_succ]
            refine wpAnyH_take (i := 1) (oi := ?_) (v := ?_) ?_ (by kernel_rfl) (by kernel_rfl) (by kernel_rfl) ?_ (Or.inl ⟨?_, ?_⟩) (by assumption) ?_
            rotate_left 2
            · (simp only [List.getElem?_toArray, List.getElem?_cons_zero, List.getElem?_cons_succ]; rfl)
            · exact fun _ _ _ h => h
            · rfl
            · intro w hSw
              (try dsimp only at hSw)
              go_simp
              try with_reducible rfl
            simp only [put_arr, List.set_cons_zero, List.set_cons_succ]
            refine wpAnyH_take (i := 2) (oi := ?_) (v := ?_) ?_ (by kernel_rfl) (by kernel_rfl) (by kernel_rfl) ?_ (Or.inl ⟨?_, ?_⟩) (by assumption) ?_
            rotate_left 2
            · (simp only [List.getElem?_toArray, List.getElem?_cons_zero, List.getElem?_cons_succ]; rfl)
            · exact fun _ _ _ h => h
            · rfl
            · intro w hSw
              (try dsimp only at hSw)
              go_simp
              try with_reducible rfl
            simp only [put_arr, List.set_cons_zero, List.set_cons_succ]
            refine wpAnyH_take (i := 3) (oi := ?_) (v := ?_) ?_ (by kernel_rfl) (by kernel_rfl) (by kernel_rfl) ?_ (Or.inl ⟨?_, ?_⟩) (by assumption) ?_
            rotate_left 2
            · (simp only [List.getElem?_toArray, List.getElem?_cons_zero, List.getElem?_cons_succ]; rfl)
            · exact fun _ _ _ h => h
            · rfl
            · intro w hSw
              (try dsimp only at hSw)
              go_simp
              try with_reducible rfl
            simp only [put_arr, List.set_cons_zero, List.set_cons_succ]
            refine wpAnyH_take (i := 4) (oi := ?_) (v := ?_) ?_ (by kernel_rfl) (by kernel_rfl) (by kernel_rfl) ?_ (Or.inl ⟨?_, ?_⟩) (by assumption) ?_
            rotate_left 2
            · (simp only [List.getElem?_toArray, List.getElem?_cons_zero, List.getElem?_cons_succ]; rfl)
            · exact fun _ _ _ h => h
            · rfl
            · intro w hSw
              (try dsimp only at hSw)
              go_simp
              try with_reducible rfl
            simp only [put_arr, List.set_cons_zero, List.set_cons_succ]
            refine wpAnyH_take (i := 6) (oi := ?_) (v := ?_) ?_ (by kernel_rfl) (by kernel_rfl) (by kernel_rfl) ?_ (Or.inl ⟨?_, ?_⟩) (by assumption) ?_
            rotate_left 2
            · (simp only [List.getElem?_toArray, List.getElem?_cons_zero, List.getElem?_cons_succ]; rfl)
            · exact fun _ _ _ h => h
            · rfl
            · intro w hSw
              (try dsimp only at hSw)
              go_simp
              try with_reducible rfl
            simp only [put_arr, List.set_cons_zero, List.set_cons_succ]
            refine wpAnyH_take (i := 7) (oi := ?_) (v := ?_) ?_ (by kernel_rfl) (by kernel_rfl) (by kernel_rfl) ?_ (Or.inl ⟨?_, ?_⟩) (by assumption) ?_
            rotate_left 2
            · (simp only [List.getElem?_toArray, List.getElem?_cons_zero, List.getElem?_cons_succ]; rfl)
            · exact fun _ _ _ h => h
            · rfl
            · intro w hSw
              (try dsimp only at hSw)
              go_simp
              try with_reducible rfl
            simp only [put_arr, List.set_cons_zero, List.set_cons_succ]
            refine wpAnyH_ready (rs := [5]) (by kernel_rfl) (by simp) ?_
            refine AllReadyH.cons (o := ?_) ?_ (fun K hK => ?_) AllReadyH.nil
            rotate_left
            · (simp only [List.getElem?_toArray, List.getElem?_cons_zero, List.getElem?_cons_succ]; rfl)
            rw [if_pos (by rfl)]
            go_simp
            refine hK.out _ _ (⟨keep_alloc hHeld.1, keep_alloc hHeld.2⟩) (fun hHeld2 => ?_)
            clear hK K hHeld
            have hHeld := hHeld2
            clear hHeld2
            refine wpAnyH_ready (rs := [8]) (by kernel_rfl) (by simp) ?_
            refine AllReadyH.cons (o := ?_) ?_ (fun K hK => ?_) AllReadyH.nil
            rotate_left
            · (simp only [List.getElem?_toArray, List.getElem?_cons_zero, List.getElem?_cons_succ]; rfl)
            rw [if_pos (by rfl)]
            go_simp
            refine hK.out _ _ (⟨keep_alloc hHeld.1, keep_alloc hHeld.2⟩) (fun hHeld2 => ?_)
            clear hK K hHeld
            have hHeld := hHeld2
            clear hHeld2
            refine wpAnyH_ready (rs := [9]) (by kernel_rfl) (by simp) ?_
            refine AllReadyH.cons (o := ?_) ?_ (fun K hK => ?_) AllReadyH.nil
            rotate_left
            · (simp only [List.getElem?_toArray, List.getElem?_cons_zero, List.getElem?_cons_succ]; rfl)
            rw [if_pos (by rfl)]
            go_simp
            refine Calls.mono (Concat_two w5.heap.size (w5.heap.size + 1) (l : Int) eA en ec (w.heap.size + 1) (gG zs ps m) _ ?_ ?_ (by omega) ?_) ?_
            · exact (Blk.new w5 2 #[.int .i64 (l : Int)]).alloc _
            · exact (hor5.alloc _).alloc _
            · exact Blk.new1 w5 _ _ _
            rintro e w8 ⟨gc, cc, rfl, o8, hb8⟩
            have HS8 := Bl.then (w := w5) ((((Below.refl w5.heap.size w5).drew).alloc (Nat.le_refl _) _).alloc (by simp) _) hb8
            have BG8 := BG5.below HS8
            have HI8 := Bl.then HI5 HS8
            have G0 := BG8.cell 0
            have G1 := BG8.cell 1
            have G2 := BG8.cell 2
            have FZ8 := BG8.frozen
            have LT8 := BG8.lt
            go_wp2_with fail
            refine hK.out _ _ (⟨(hb8.cell (p := ⟨b1, off1 + k, none⟩) (block_lt_of_cell hHeld.1)).trans hHeld.1, (hb8.cell (p := ⟨gr, 1, none⟩) (block_lt_of_cell hHeld.2)).trans hHeld.2⟩) (fun hHeld2 => ?_)
            clear hK K hHeld
            have hHeld := hHeld2
            clear hHeld2
            refine wpAnyH_take (i := 10) (oi := ?_) (v := ?_) ?_ (by kernel_rfl) (by kernel_rfl) (by kernel_rfl) ?_ (Or.inl ⟨?_, ?_⟩) (by assumption) ?_
            rotate_left 2
            · (simp only [List.getElem?_toArray, List.getElem?_cons_zero, List.getElem?_cons_succ]; rfl)
            · exact fun _ _ _ h => h
            · rfl
            · intro w hSw
              (try dsimp only at hSw)
              go_simp
              try with_reducible rfl
            simp only [put_arr, List.set_cons_zero, List.set_cons_succ]
            refine wpAnyH_ready (rs := [11]) (by kernel_rfl) (by simp) ?_
            refine AllReadyH.cons (o := ?_) ?_ (fun K hK => ?_) AllReadyH.nil
            rotate_left
            · (simp only [List.getElem?_toArray, List.getElem?_cons_zero, List.getElem?_cons_succ]; rfl)
            rw [if_pos (by rfl)]
            go_simp
            refine hK.out _ _ (⟨by rw [World.cell?_setCell_far _ ⟨W1.heap.size, 2, none⟩ ⟨b1, off1 + k, none⟩ _ (Ne.symm hbg1), World.cell?_setCell_far _ ⟨W1.heap.size, 1, none⟩ ⟨b1, off1 + k, none⟩ _ (Ne.symm hbg1), World.cell?_setCell_far _ ⟨W1.heap.size, 0, none⟩ ⟨b1, off1 + k, none⟩ _ (Ne.symm hbg1)]; exact hHeld.1, by rw [World.cell?_setCell_far _ ⟨W1.heap.size, 2, none⟩ ⟨gr, 1, none⟩ _ (Nat.ne_of_lt hlt5), World.cell?_setCell_far _ ⟨W1.heap.size, 1, none⟩ ⟨gr, 1, none⟩ _ (Nat.ne_of_lt hlt5), World.cell?_setCell_far _ ⟨W1.heap.size, 0, none⟩ ⟨gr, 1, none⟩ _ (Nat.ne_of_lt hlt5)]; exact hHeld.2⟩) (fun hHeld2 => ?_)
            clear hK K hHeld
            have hHeld := hHeld2
            clear hHeld2
            refine wpAnyH_done (by kernel_rfl) ?_ _
            go_wp2_with fail
            go_roundw
            case rel =>
              refine ⟨k, cs, k, ⟨_, some ⟨gc, 0, none⟩, en + 1, cc, true⟩, by omega, by first | rfl | go_num, by rw [hcs'.out] at hnx; exact hnx, ((BG8.set 0 _).set 1 _).set 2 _, Lib.hid ⟨(decide_eq_true hb3'.out).symm, fun _ => ⟨hb1'.out, ?_, ?_⟩⟩, ((HI8.setCell (Nat.le_refl _) _).setCell (Nat.le_refl _) _).setCell (Nat.le_refl _) _⟩
              · rw [hsm.out, ← hen'.out]
              · rw [hsm.out, hl'.out]
                exact own_past (own_past (own_past (ownsRow_le' o8 (by simp; omega)) (grown_setCell _ _ _ _)) (grown_setCell _ _ _ _)) (grown_setCell _ _ _ _)
            case measure => first | (simp [intOf]; done) | (simp [intOf]; omega)
          have hbk : bk = true := by rw [show bk = decide (0 ≤ b) from hBW5.out.1]; exact decide_eq_true hb0
          subst hbk
          have hbp : bp = b / 2000 := (hBW5.out.2 hb0).1
          have hbn : (bn : Int) = b % 2000 := by
            rcases hD.out.pos with h9 | ⟨_, h10, h11, h12⟩
            · omega
            · have h13 := (cst_split H'.out h10 (by omega) h11).2.1
              rw [h12] at h13
              have h14 : bn = _ := (hBW5.out.2 hb0).2.1
              rw [h13, h14]
          by_cases h1 : q < bp
          · have hnx := Lib.hid (hD.out.take hkz'.out hok.out (by rw [hcs'.out]; exact hb3'.out) (.inr (by rw [hcs'.out]; have := hb1'.out; omega)))
            clear hb0 hbp hbn
            go_wp2_with fail
            refine wp_region_held_drew (S := (fun wz => wz.cell? ⟨b1, off1 + k, none⟩ = some (.int .i64 (l : Int)) ∧ wz.cell? ⟨gr, 1, none⟩ = some (.slice eA en ec))) (by kernel_rfl) ⟨hc5, r1⟩ (fun hHeld => ?_)
            refine wpAnyH_take (i := 0) (oi := ?_) (v := ?_) ?_ (by kernel_rfl) (by kernel_rfl) (by kernel_rfl) ?_ (Or.inl ⟨?_, ?_⟩) (by assumption) ?_
            rotate_left 2
            · (simp only [List.getElem?_toArray, List.getElem?_cons_zero]; rfl)
            · exact fun _ _ _ h => h
            · rfl
            · intro w hSw
              (try dsimp only at hSw)
              go_simp
              try with_reducible rfl
            simp only [put_arr, List.set_cons_zero, List.set_cons_succ]
            refine wpAnyH_take (i := 1) (oi := ?_) (v := ?_) ?_ (by kernel_rfl) (by kernel_rfl) (by kernel_rfl) ?_ (Or.inl ⟨?_, ?_⟩) (by assumption) ?_
            rotate_left 2
            · (simp only [List.getElem?_toArray, List.getElem?_cons_zero, List.getElem?_cons_succ]; rfl)
            · exact fun _ _ _ h => h
            · rfl
            · intro w hSw
              (try dsimp only at hSw)
              go_simp
              try with_reducible rfl
            simp only [put_arr, List.set_cons_zero, List.set_cons_succ]
            refine wpAnyH_take (i := 2) (oi := ?_) (v := ?_) ?_ (by kernel_rfl) (by kernel_rfl) (by kernel_rfl) ?_ (Or.inl ⟨?_, ?_⟩) (by assumption) ?_
            rotate_left 2
            · (simp only [List.getElem?_toArray, List.getElem?_cons_zero, List.getElem?_cons_succ]; rfl)
            · exact fun _ _ _ h => h
            · rfl
            · intro w hSw
              (try dsimp only at hSw)
              go_simp
              try with_reducible rfl
            simp only [put_arr, List.set_cons_zero, List.set_cons_succ]
            refine wpAnyH_take (i := 3) (oi := ?_) (v := ?_) ?_ (by kernel_rfl) (by kernel_rfl) (by kernel_rfl) ?_ (Or.inl ⟨?_, ?_⟩) (by assumption) ?_
            rotate_left 2
            · (simp only [List.getElem?_toArray, List.getElem?_cons_zero, List.getElem?_cons_succ]; rfl)
            · exact fun _ _ _ h => h
            · rfl
            · intro w hSw
              (try dsimp only at hSw)
              go_simp
              try with_reducible rfl
            simp only [put_arr, List.set_cons_zero, List.set_cons_succ]
            refine wpAnyH_take (i := 4) (oi := ?_) (v := ?_) ?_ (by kernel_rfl) (by kernel_rfl) (by kernel_rfl) ?_ (Or.inl ⟨?_, ?_⟩) (by assumption) ?_
            rotate_left 2
            · (simp only [List.getElem?_toArray, List.getElem?_cons_zero, List.getElem?_cons_succ]; rfl)
            · exact fun _ _ _ h => h
            · rfl
            · intro w hSw
              (try dsimp only at hSw)
              go_simp
              try with_reducible rfl
            simp only [put_arr, List.set_cons_zero, List.set_cons_succ]
            refine wpAnyH_take (i := 6) (oi := ?_) (v := ?_) ?_ (by kernel_rfl) (by kernel_rfl) (by kernel_rfl) ?_ (Or.inl ⟨?_, ?_⟩) (by assumption) ?_
            rotate_left 2
            · (simp only [List.getElem?_toArray, List.getElem?_cons_zero, List.getElem?_cons_succ]; rfl)
            · exact fun _ _ _ h => h
            · rfl
            · intro w hSw
              (try dsimp only at hSw)
              go_simp
              try with_reducible rfl
            simp only [put_arr, List.set_cons_zero, List.set_cons_succ]
            refine wpAnyH_take (i := 7) (oi := ?_) (v := ?_) ?_ (by kernel_rfl) (by kernel_rfl) (by kernel_rfl) ?_ (Or.inl ⟨?_, ?_⟩) (by assumption) ?_
            rotate_left 2
            · (simp only [List.getElem?_toArray, List.getElem?_cons_zero, List.getElem?_cons_succ]; rfl)
            · exact fun _ _ _ h => h
            · rfl
            · intro w hSw
              (try dsimp only at hSw)
              go_simp
              try with_reducible rfl
            simp only [put_arr, List.set_cons_zero, List.set_cons_succ]
            refine wpAnyH_ready (rs := [5]) (by kernel_rfl) (by simp) ?_
            refine AllReadyH.cons (o := ?_) ?_ (fun K hK => ?_) AllReadyH.nil
            rotate_left
            · (simp only [List.getElem?_toArray, List.getElem?_cons_zero, List.getElem?_cons_succ]; rfl)
            rw [if_pos (by rfl)]
            go_simp
            refine hK.out _ _ (⟨keep_alloc hHeld.1, keep_alloc hHeld.2⟩) (fun hHeld2 => ?_)
            clear hK K hHeld
            have hHeld := hHeld2
            clear hHeld2
            refine wpAnyH_ready (rs := [8]) (by kernel_rfl) (by simp) ?_
            refine AllReadyH.cons (o := ?_) ?_ (fun K hK => ?_) AllReadyH.nil
            rotate_left
            · (simp only [List.getElem?_toArray, List.getElem?_cons_zero, List.getElem?_cons_succ]; rfl)
            rw [if_pos (by rfl)]
            go_simp
            refine hK.out _ _ (⟨keep_alloc hHeld.1, keep_alloc hHeld.2⟩) (fun hHeld2 => ?_)
            clear hK K hHeld
            have hHeld := hHeld2
            clear hHeld2
            refine wpAnyH_ready (rs := [9]) (by kernel_rfl) (by simp) ?_
            refine AllReadyH.cons (o := ?_) ?_ (fun K hK => ?_) AllReadyH.nil
            rotate_left
            · (simp only [List.getElem?_toArray, List.getElem?_cons_zero, List.getElem?_cons_succ]; rfl)
            rw [if_pos (by rfl)]
            go_simp
            refine Calls.mono (Concat_two w5.heap.size (w5.heap.size + 1) (l : Int) eA en ec (w.heap.size + 1) (gG zs ps m) _ ?_ ?_ (by omega) ?_) ?_
            · exact (Blk.new w5 2 #[.int .i64 (l : Int)]).alloc _
            · exact (hor5.alloc _).alloc _
            · exact Blk.new1 w5 _ _ _
            rintro e w8 ⟨gc, cc, rfl, o8, hb8⟩
            have HS8 := Bl.then (w := w5) ((((Below.refl w5.heap.size w5).drew).alloc (Nat.le_refl _) _).alloc (by simp) _) hb8
            have BG8 := BG5.below HS8
            have HI8 := Bl.then HI5 HS8
            have G0 := BG8.cell 0
            have G1 := BG8.cell 1
            have G2 := BG8.cell 2
            have FZ8 := BG8.frozen
            have LT8 := BG8.lt
            go_wp2_with fail
            refine hK.out _ _ (⟨(hb8.cell (p := ⟨b1, off1 + k, none⟩) (block_lt_of_cell hHeld.1)).trans hHeld.1, (hb8.cell (p := ⟨gr, 1, none⟩) (block_lt_of_cell hHeld.2)).trans hHeld.2⟩) (fun hHeld2 => ?_)
            clear hK K hHeld
            have hHeld := hHeld2
            clear hHeld2
            refine wpAnyH_take (i := 10) (oi := ?_) (v := ?_) ?_ (by kernel_rfl) (by kernel_rfl) (by kernel_rfl) ?_ (Or.inl ⟨?_, ?_⟩) (by assumption) ?_
            rotate_left 2
            · (simp only [List.getElem?_toArray, List.getElem?_cons_zero, List.getElem?_cons_succ]; rfl)
            · exact fun _ _ _ h => h
            · rfl
            · intro w hSw
              (try dsimp only at hSw)
              go_simp
              try with_reducible rfl
            simp only [put_arr, List.set_cons_zero, List.set_cons_succ]
            refine wpAnyH_ready (rs := [11]) (by kernel_rfl) (by simp) ?_
            refine AllReadyH.cons (o := ?_) ?_ (fun K hK => ?_) AllReadyH.nil
            rotate_left
            · (simp only [List.getElem?_toArray, List.getElem?_cons_zero, List.getElem?_cons_succ]; rfl)
            rw [if_pos (by rfl)]
            go_simp
            refine hK.out _ _ (⟨by rw [World.cell?_setCell_far _ ⟨W1.heap.size, 2, none⟩ ⟨b1, off1 + k, none⟩ _ (Ne.symm hbg1), World.cell?_setCell_far _ ⟨W1.heap.size, 1, none⟩ ⟨b1, off1 + k, none⟩ _ (Ne.symm hbg1), World.cell?_setCell_far _ ⟨W1.heap.size, 0, none⟩ ⟨b1, off1 + k, none⟩ _ (Ne.symm hbg1)]; exact hHeld.1, by rw [World.cell?_setCell_far _ ⟨W1.heap.size, 2, none⟩ ⟨gr, 1, none⟩ _ (Nat.ne_of_lt hlt5), World.cell?_setCell_far _ ⟨W1.heap.size, 1, none⟩ ⟨gr, 1, none⟩ _ (Nat.ne_of_lt hlt5), World.cell?_setCell_far _ ⟨W1.heap.size, 0, none⟩ ⟨gr, 1, none⟩ _ (Nat.ne_of_lt hlt5)]; exact hHeld.2⟩) (fun hHeld2 => ?_)
            clear hK K hHeld
            have hHeld := hHeld2
            clear hHeld2
            refine wpAnyH_done (by kernel_rfl) ?_ _
            go_wp2_with fail
            go_roundw
            case rel =>
              refine ⟨k, cs, k, ⟨_, some ⟨gc, 0, none⟩, en + 1, cc, true⟩, by omega, by first | rfl | go_num, by rw [hcs'.out] at hnx; exact hnx, ((BG8.set 0 _).set 1 _).set 2 _, Lib.hid ⟨(decide_eq_true hb3'.out).symm, fun _ => ⟨hb1'.out, ?_, ?_⟩⟩, ((HI8.setCell (Nat.le_refl _) _).setCell (Nat.le_refl _) _).setCell (Nat.le_refl _) _⟩
              · rw [hsm.out, ← hen'.out]
              · rw [hsm.out, hl'.out]
                exact own_past (own_past (own_past (ownsRow_le' o8 (by simp; omega)) (grown_setCell _ _ _ _)) (grown_setCell _ _ _ _)) (grown_setCell _ _ _ _)
            case measure => first | (simp [intOf]; done) | (simp [intOf]; omega)
          by_cases h2 : q = bp
          · by_cases h3 : (en : Int) + 1 < (bn : Int)
            · have hnx := Lib.hid (hD.out.take hkz'.out hok.out (by rw [hcs'.out]; exact hb3'.out) (.inr (by rw [hcs'.out]; have := hb1'.out; have := hb2'.out; omega)))
              clear hb0 hbp hbn
              subst h2
              go_wp2_with fail
              refine wp_region_held_drew (S := (fun wz => wz.cell? ⟨b1, off1 + k, none⟩ = some (.int .i64 (l : Int)) ∧ wz.cell? ⟨gr, 1, none⟩ = some (.slice eA en ec))) (by kernel_rfl) ⟨hc5, r1⟩ (fun hHeld => ?_)
              refine wpAnyH_take (i := 0) (oi := ?_) (v := ?_) ?_ (by kernel_rfl) (by kernel_rfl) (by kernel_rfl) ?_ (Or.inl ⟨?_, ?_⟩) (by assumption) ?_
              rotate_left 2
              · (simp only [List.getElem?_toArray, List.getElem?_cons_zero]; rfl)
              · exact fun _ _ _ h => h
              · rfl
              · intro w hSw
                (try dsimp only at hSw)
                go_simp
                try with_reducible rfl
              simp only [put_arr, List.set_cons_zero, List.set_cons_succ]
              refine wpAnyH_take (i := 1) (oi := ?_) (v := ?_) ?_ (by kernel_rfl) (by kernel_rfl) (by kernel_rfl) ?_ (Or.inl ⟨?_, ?_⟩) (by assumption) ?_
              rotate_left 2
              · (simp only [List.getElem?_toArray, List.getElem?_cons_zero, List.getElem?_cons_succ]; rfl)
              · exact fun _ _ _ h => h
              · rfl
              · intro w hSw
                (try dsimp only at hSw)
                go_simp
                try with_reducible rfl
              simp only [put_arr, List.set_cons_zero, List.set_cons_succ]
              refine wpAnyH_take (i := 2) (oi := ?_) (v := ?_) ?_ (by kernel_rfl) (by kernel_rfl) (by kernel_rfl) ?_ (Or.inl ⟨?_, ?_⟩) (by assumption) ?_
              rotate_left 2
              · (simp only [List.getElem?_toArray, List.getElem?_cons_zero, List.getElem?_cons_succ]; rfl)
              · exact fun _ _ _ h => h
              · rfl
              · intro w hSw
                (try dsimp only at hSw)
                go_simp
                try with_reducible rfl
              simp only [put_arr, List.set_cons_zero, List.set_cons_succ]
              refine wpAnyH_take (i := 3) (oi := ?_) (v := ?_) ?_ (by kernel_rfl) (by kernel_rfl) (by kernel_rfl) ?_ (Or.inl ⟨?_, ?_⟩) (by assumption) ?_
              rotate_left 2
              · (simp only [List.getElem?_toArray, List.getElem?_cons_zero, List.getElem?_cons_succ]; rfl)
              · exact fun _ _ _ h => h
              · rfl
              · intro w hSw
                (try dsimp only at hSw)
                go_simp
                try with_reducible rfl
              simp only [put_arr, List.set_cons_zero, List.set_cons_succ]
              refine wpAnyH_take (i := 4) (oi := ?_) (v := ?_) ?_ (by kernel_rfl) (by kernel_rfl) (by kernel_rfl) ?_ (Or.inl ⟨?_, ?_⟩) (by assumption) ?_
              rotate_left 2
              · (simp only [List.getElem?_toArray, List.getElem?_cons_zero, List.getElem?_cons_succ]; rfl)
              · exact fun _ _ _ h => h
              · rfl
              · intro w hSw
                (try dsimp only at hSw)
                go_simp
                try with_reducible rfl
              simp only [put_arr, List.set_cons_zero, List.set_cons_succ]
              refine wpAnyH_take (i := 6) (oi := ?_) (v := ?_) ?_ (by kernel_rfl) (by kernel_rfl) (by kernel_rfl) ?_ (Or.inl ⟨?_, ?_⟩) (by assumption) ?_
              rotate_left 2
              · (simp only [List.getElem?_toArray, List.getElem?_cons_zero, List.getElem?_cons_succ]; rfl)
              · exact fun _ _ _ h => h
              · rfl
              · intro w hSw
                (try dsimp only at hSw)
                go_simp
                try with_reducible rfl
              simp only [put_arr, List.set_cons_zero, List.set_cons_succ]
              refine wpAnyH_take (i := 7) (oi := ?_) (v := ?_) ?_ (by kernel_rfl) (by kernel_rfl) (by kernel_rfl) ?_ (Or.inl ⟨?_, ?_⟩) (by assumption) ?_
              rotate_left 2
              · (simp only [List.getElem?_toArray, List.getElem?_cons_zero, List.getElem?_cons_succ]; rfl)
              · exact fun _ _ _ h => h
              · rfl
              · intro w hSw
                (try dsimp only at hSw)
                go_simp
                try with_reducible rfl
              simp only [put_arr, List.set_cons_zero, List.set_cons_succ]
              refine wpAnyH_ready (rs := [5]) (by kernel_rfl) (by simp) ?_
              refine AllReadyH.cons (o := ?_) ?_ (fun K hK => ?_) AllReadyH.nil
              rotate_left
              · (simp only [List.getElem?_toArray, List.getElem?_cons_zero, List.getElem?_cons_succ]; rfl)
              rw [if_pos (by rfl)]
              go_simp
              refine hK.out _ _ (⟨keep_alloc hHeld.1, keep_alloc hHeld.2⟩) (fun hHeld2 => ?_)
              clear hK K hHeld
              have hHeld := hHeld2
              clear hHeld2
              refine wpAnyH_ready (rs := [8]) (by kernel_rfl) (by simp) ?_
              refine AllReadyH.cons (o := ?_) ?_ (fun K hK => ?_) AllReadyH.nil
              rotate_left
              · (simp only [List.getElem?_toArray, List.getElem?_cons_zero, List.getElem?_cons_succ]; rfl)
              rw [if_pos (by rfl)]
              go_simp
              refine hK.out _ _ (⟨keep_alloc hHeld.1, keep_alloc hHeld.2⟩) (fun hHeld2 => ?_)
              clear hK K hHeld
              have hHeld := hHeld2
              clear hHeld2
              refine wpAnyH_ready (rs := [9]) (by kernel_rfl) (by simp) ?_
              refine AllReadyH.cons (o := ?_) ?_ (fun K hK => ?_) AllReadyH.nil
              rotate_left
              · (simp only [List.getElem?_toArray, List.getElem?_cons_zero, List.getElem?_cons_succ]; rfl)
              rw [if_pos (by rfl)]
              go_simp
              refine Calls.mono (Concat_two w5.heap.size (w5.heap.size + 1) (l : Int) eA en ec (w.heap.size + 1) (gG zs ps m) _ ?_ ?_ (by omega) ?_) ?_
              · exact (Blk.new w5 2 #[.int .i64 (l : Int)]).alloc _
              · exact (hor5.alloc _).alloc _
              · exact Blk.new1 w5 _ _ _
              rintro e w8 ⟨gc, cc, rfl, o8, hb8⟩
              have HS8 := Bl.then (w := w5) ((((Below.refl w5.heap.size w5).drew).alloc (Nat.le_refl _) _).alloc (by simp) _) hb8
              have BG8 := BG5.below HS8
              have HI8 := Bl.then HI5 HS8
              have G0 := BG8.cell 0
              have G1 := BG8.cell 1
              have G2 := BG8.cell 2
              have FZ8 := BG8.frozen
              have LT8 := BG8.lt
              go_wp2_with fail
              refine hK.out _ _ (⟨(hb8.cell (p := ⟨b1, off1 + k, none⟩) (block_lt_of_cell hHeld.1)).trans hHeld.1, (hb8.cell (p := ⟨gr, 1, none⟩) (block_lt_of_cell hHeld.2)).trans hHeld.2⟩) (fun hHeld2 => ?_)
              clear hK K hHeld
              have hHeld := hHeld2
              clear hHeld2
              refine wpAnyH_take (i := 10) (oi := ?_) (v := ?_) ?_ (by kernel_rfl) (by kernel_rfl) (by kernel_rfl) ?_ (Or.inl ⟨?_, ?_⟩) (by assumption) ?_
              rotate_left 2
              · (simp only [List.getElem?_toArray, List.getElem?_cons_zero, List.getElem?_cons_succ]; rfl)
              · exact fun _ _ _ h => h
              · rfl
              · intro w hSw
                (try dsimp only at hSw)
                go_simp
                try with_reducible rfl
              simp only [put_arr, List.set_cons_zero, List.set_cons_succ]
              refine wpAnyH_ready (rs := [11]) (by kernel_rfl) (by simp) ?_
              refine AllReadyH.cons (o := ?_) ?_ (fun K hK => ?_) AllReadyH.nil
              rotate_left
              · (simp only [List.getElem?_toArray, List.getElem?_cons_zero, List.getElem?_cons_succ]; rfl)
              rw [if_pos (by rfl)]
              go_simp
              refine hK.out _ _ (⟨by rw [World.cell?_setCell_far _ ⟨W1.heap.size, 2, none⟩ ⟨b1, off1 + k, none⟩ _ (Ne.symm hbg1), World.cell?_setCell_far _ ⟨W1.heap.size, 1, none⟩ ⟨b1, off1 + k, none⟩ _ (Ne.symm hbg1), World.cell?_setCell_far _ ⟨W1.heap.size, 0, none⟩ ⟨b1, off1 + k, none⟩ _ (Ne.symm hbg1)]; exact hHeld.1, by rw [World.cell?_setCell_far _ ⟨W1.heap.size, 2, none⟩ ⟨gr, 1, none⟩ _ (Nat.ne_of_lt hlt5), World.cell?_setCell_far _ ⟨W1.heap.size, 1, none⟩ ⟨gr, 1, none⟩ _ (Nat.ne_of_lt hlt5), World.cell?_setCell_far _ ⟨W1.heap.size, 0, none⟩ ⟨gr, 1, none⟩ _ (Nat.ne_of_lt hlt5)]; exact hHeld.2⟩) (fun hHeld2 => ?_)
              clear hK K hHeld
              have hHeld := hHeld2
              clear hHeld2
              refine wpAnyH_done (by kernel_rfl) ?_ _
              go_wp2_with fail
              go_roundw
              case rel =>
                refine ⟨k, cs, k, ⟨_, some ⟨gc, 0, none⟩, en + 1, cc, true⟩, by omega, by first | rfl | go_num, by rw [hcs'.out] at hnx; exact hnx, ((BG8.set 0 _).set 1 _).set 2 _, Lib.hid ⟨(decide_eq_true hb3'.out).symm, fun _ => ⟨hb1'.out, ?_, ?_⟩⟩, ((HI8.setCell (Nat.le_refl _) _).setCell (Nat.le_refl _) _).setCell (Nat.le_refl _) _⟩
                · rw [hsm.out, ← hen'.out]
                · rw [hsm.out, hl'.out]
                  exact own_past (own_past (own_past (ownsRow_le' o8 (by simp; omega)) (grown_setCell _ _ _ _)) (grown_setCell _ _ _ _)) (grown_setCell _ _ _ _)
              case measure => first | (simp [intOf]; done) | (simp [intOf]; omega)
            · have hnx := Lib.hid (hD.out.keep hb0 (by rw [hcs'.out]; have := hb1'.out; have := hb2'.out; omega))
              clear hb0 hbp hbn
              subst h2
              go_wp2_with fail
              go_roundw
              case rel => exact ⟨k, b, i, ⟨_, bA, bn, bc, true⟩, by omega, by first | rfl | go_num, hnx, BG5, hBW5, HI5⟩
              case measure => first | (simp [intOf]; done) | (simp [intOf]; omega)
          · have hnx := Lib.hid (hD.out.keep hb0 (by rw [hcs'.out]; have := hb1'.out; have := hb2'.out; omega))
            have h2' : (q == bp) = false := beq_eq_false_iff_ne.2 h2
            clear hb0 hbp hbn
            go_wp2_with fail
            go_roundw
            case rel => exact ⟨k, b, i, ⟨bp, bA, bn, bc, true⟩, by omega, by first | rfl | go_num, hnx, BG5, hBW5, HI5⟩
            case measure => first | (simp [intOf]; done) | (simp [intOf]; omega)
    · obtain rfl : s = S + 1 := by omega
      have hltI : ¬ (((S + 1 : Nat) : Int) ≤ (S : Int)) := by omega
      go_wp2_with fail
      go_ret
      exact ⟨rfl, es, ho, fun m hm => hE.out m (by omega), hb⟩
end Go.Proofs.Ytgaahmcbfognhaa
