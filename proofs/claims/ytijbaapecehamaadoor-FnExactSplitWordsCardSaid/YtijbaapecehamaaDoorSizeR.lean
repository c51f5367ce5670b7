/-
  ReadSize of the program and of the reference. The conditions: the text has at most 2^20 bytes; what reading numbers leans on lies as the library lays it.
-/
import Derived.Test.YtijbaapecehamaaDoorSplit
import Derived.Test.YtijbaapecehamaaDoorShelfC
namespace Go.Proofs.YtijbaapecehamaaDoor
open Go.RowKit Go.PlainAid
set_option maxHeartbeats 1600000
set_option linter.unusedVariables false

theorem eq_ba (a b : ByteArray) : (a.toList == b.toList) = decide (a.data.toList = b.data.toList) := by
  rw [ByteArray.toList_eq, ByteArray.toList_eq]
  by_cases h : a.data.toList = b.data.toList
  · rw [decide_eq_true h]; exact beq_iff_eq.2 h
  · rw [decide_eq_false h]; exact beq_eq_false_iff_ne.2 h
/-- The text of half sizes, as bytes. -/
def szL (h : Int) : List UInt8 := Lib.itoa (h / 2) ++ (if h % 2 = 0 then [] else [46, 53])
theorem szTx_list {h : Int} (hb : inR h 0 120 = true) : (szTx h).data.toList = szL h := by
  unfold szTx szL
  rw [if_pos hb]
  split
  · rw [dec_list, List.append_nil]
  · unfold dec; rw [show (⟨#[46, 53]⟩ : ByteArray) = ⟨([46, 53] : List UInt8).toArray⟩ from rfl, ba_app]
def SzIs (l : List UInt8) (h : Int) : Prop := 0 ≤ h ∧ h ≤ 120 ∧ szL h = l
theorem dig_ne {l : List UInt8} (h : AllDig l) {c : UInt8} (hc : c.toNat < 48) : ∀ b ∈ l, b ≠ c := fun b hb e => by
  have := (h b hb).1
  rw [e] at this; omega
theorem itoa_dig {n : Int} (h : 0 ≤ n) : AllDig (Lib.itoa n) := by
  rw [itoa_p (by omega)]; exact decDigits_dig _
theorem half_num {h : Int} (h0 : 0 ≤ h) (h1 : h ≤ 120) : IsNum (Lib.itoa (h / 2)) (h / 2) := ⟨rfl, by omega, by omega⟩
theorem SzIs.suf {l : List UInt8} {h : Int} (hz : SzIs l h) : Lib.hasSuffix l [46, 53] = decide (h % 2 = 1) ∧ Lib.trimSuffix l [46, 53] = Lib.itoa (h / 2) := by
  obtain ⟨h0, h1, rfl⟩ := hz
  have hd := itoa_dig (n := h / 2) (by omega)
  unfold szL
  by_cases he : h % 2 = 0
  · rw [if_pos he, List.append_nil]
    have hf : Lib.hasSuffix (Lib.itoa (h / 2)) [46, 53] = false := by
      unfold Lib.hasSuffix
      cases hx : ([46, 53] : List UInt8).isSuffixOf (Lib.itoa (h / 2)) with
      | false => rfl
      | true =>
        have hs := List.isSuffixOf_iff_suffix.1 hx
        have := (hd 46 (hs.subset (by simp))).1
        revert this; decide
    refine ⟨by rw [hf]; symm; apply decide_eq_false; omega, ?_⟩
    unfold Lib.trimSuffix
    rw [hf]; rfl
  · rw [if_neg he]
    have hf : Lib.hasSuffix (Lib.itoa (h / 2) ++ [46, 53]) [46, 53] = true := by
      unfold Lib.hasSuffix
      exact List.isSuffixOf_iff_suffix.2 (List.suffix_append _ _)
    refine ⟨by rw [hf]; symm; apply decide_eq_true; omega, ?_⟩
    unfold Lib.trimSuffix
    rw [if_pos hf]
    simp
theorem suf_eq {l : List UInt8} (h : Lib.hasSuffix l [46, 53] = true) : l = Lib.trimSuffix l [46, 53] ++ [46, 53] := by
  unfold Lib.trimSuffix
  rw [if_pos h]
  unfold Lib.hasSuffix at h
  obtain ⟨p, hp⟩ := List.isSuffixOf_iff_suffix.1 h
  rw [← hp]; simp
theorem nosuf_eq {l : List UInt8} (h : Lib.hasSuffix l [46, 53] = false) : l = Lib.trimSuffix l [46, 53] := by
  unfold Lib.trimSuffix
  rw [h]; rfl
theorem SzIs.uniq {l : List UInt8} {a b : Int} (ha : SzIs l a) (hb : SzIs l b) : a = b := by
  obtain ⟨a1, a2⟩ := ha.suf
  obtain ⟨b1, b2⟩ := hb.suf
  have e : nval (Lib.itoa (a / 2)) = nval (Lib.itoa (b / 2)) := by rw [← a2, b2]
  rw [nval_itoa, nval_itoa] at e
  have e2 : decide (a % 2 = 1) = decide (b % 2 = 1) := by rw [← a1, b1]
  have e3 : a % 2 = 1 ↔ b % 2 = 1 := by simpa using e2
  omega
/-- What ReadSize answers. -/
noncomputable def sizeR (l : List UInt8) : Int × Bool := @dite _ (∃ h, SzIs l h) (Classical.propDecidable _) (fun h => (h.choose, true)) (fun _ => (0, false))
theorem sizeR_yes {l : List UInt8} {h : Int} (hz : SzIs l h) : sizeR l = (h, true) := by
  unfold sizeR
  rw [dif_pos ⟨h, hz⟩]
  congr 1
  exact SzIs.uniq (Exists.choose_spec (⟨h, hz⟩ : ∃ h, SzIs l h)) hz
theorem sizeR_no {l : List UInt8} (hz : ∀ h, ¬ SzIs l h) : sizeR l = (0, false) := by
  unfold sizeR
  rw [dif_neg (fun ⟨h, e⟩ => hz h e)]
theorem SzIs.num {l : List UInt8} {h n : Int} (hz : SzIs l h) (hn : IsNum (Lib.trimSuffix l [46, 53]) n) : n = h / 2 := by
  have := hn.val
  rw [hz.suf.2, nval_itoa] at this
  exact this.symm
theorem szTx_out {h : Int} (hb : inR h 0 120 = false) : szTx h = ⟨#[]⟩ := by unfold szTx; rw [hb]; rfl
theorem itoa_ne (n : Int) : Lib.itoa n ≠ [] := fun e => by
  have h := bare_itoa n
  rw [e] at h
  have := decDigits_pos n.natAbs
  rw [← h] at this
  revert this; decide
theorem CutHalf (s : ByteArray) (hs : s.size ≤ 9223372036854775807) (w : World) :
    Calls Tryd.prog 80 #[.string s, .string ⟨#[46, 53]⟩] w fun e w' => e = .returned (.tuple #[.string ⟨(Lib.trimSuffix s.data.toList [46, 53]).toArray⟩, .bool (Lib.hasSuffix s.data.toList [46, 53])]) ∧ w = w' :=
  (Tryd.strings_CutSuffix s ⟨#[46, 53]⟩ w hs).mono fun _ _ h => ⟨h.1, h.2.symm⟩
theorem ReadDecimal_l (l : List UInt8) (hl : l.length ≤ 1048576) (w : World) (hp : RdAt w) :
    Calls Tryd.prog 40 #[.string ⟨l.toArray⟩] w fun e w' => e = .returned (.tuple #[.int .i64 (numR l).1, .bool (numR l).2]) ∧ Below w.heap.size w w' := by
  have h := ReadDecimal_any ⟨l.toArray⟩ (by show l.toArray.size ≤ _; rw [List.size_toArray]; omega) w hp
  exact h
theorem l01Number_l (l : List UInt8) (hl : l.length ≤ 1048576) (w : World) :
    Calls Tryd.prog 52 #[.string ⟨l.toArray⟩] w fun e w' => e = .returned (.tuple #[.int .i64 (numR l).1, .bool (numR l).2]) ∧ Below w.heap.size w w' := by
  have h := l01Number_any ⟨l.toArray⟩ (by show l.toArray.size ≤ _; rw [List.size_toArray]; unfold maxLen; omega) w
  exact h
theorem trim_len (l p : List UInt8) : (Lib.trimSuffix l p).length ≤ l.length := by
  unfold Lib.trimSuffix
  split
  · rw [List.length_take]; omega
  · exact Nat.le_refl _
theorem ReadSize_any (s : ByteArray) (hs : s.size ≤ 1048576) (w : World) (hp : RdAt w) :
    Calls Tryd.prog 42 #[.string s] w fun e w' => e = .returned (.tuple #[.int .i64 (sizeR s.data.toList).1, .bool (sizeR s.data.toList).2]) ∧ Below w.heap.size w w' := by
  have hsl := size_list s
  have htl := trim_len s.data.toList [46, 53]
  have hrd := fun (W : World) (h : RdAt W) => ReadDecimal_l (Lib.trimSuffix s.data.toList [46, 53]) (by omega) W h
  rcases numR_cases (Lib.trimSuffix s.data.toList [46, 53]) with ⟨n, hn, hv⟩ | ⟨hn, hv⟩
  rotate_left
  · have hr := Lib.hid (show sizeR s.data.toList = (0, false) from sizeR_no fun h hz => hn (h / 2) (by rw [hz.suf.2]; exact half_num hz.1 hz.2.1))
    rw [hv] at hrd
    clear hn hv htl
    go_enter Tryd.func42, Tryd.ntmps42
    go_wp2_with fail
    refine (CutHalf _ (by omega) _).mono ?_
    rintro e w1 ⟨rfl, rfl⟩
    go_wp2_with fail
    refine (hrd _ hp).mono ?_
    rintro e w2 ⟨rfl, hb2⟩
    go_wp2_with fail
    go_ret2
    exact ⟨retNB hr.out, hb2⟩
  rw [hv] at hrd
  have hnb := hn.2
  cases hin : inR n 0 120
  · have hr := Lib.hid (show sizeR s.data.toList = (0, false) from sizeR_no fun h hz => by have := hz.num hn; have := hz.1; have := hz.2.1; rcases inR_false.1 hin with h2 | h2 <;> omega)
    clear hn hv htl
    go_enter Tryd.func42, Tryd.ntmps42
    go_wp2_with fail
    refine (CutHalf _ (by omega) _).mono ?_
    rintro e w1 ⟨rfl, rfl⟩
    go_wp2_with fail
    refine (hrd _ hp).mono ?_
    rintro e w2 ⟨rfl, hb2⟩
    go_wp2_with fail
    refine (within_any _ _ _ _).mono ?_
    rintro e w3 ⟨rfl, rfl⟩
    go_wp2_with fail
    go_ret2
    exact ⟨retNB hr.out, hb2⟩
  obtain ⟨n0, n1⟩ := inR_true.1 hin
  have hw1 : IntKind.i64.wrap (n * 2) = n * 2 := IntWalk.i64_in _ (by omega)
  have hw2 : IntKind.i64.wrap (n * 2 + 1) = n * 2 + 1 := IntWalk.i64_in _ (by omega)
  cases hsf : Lib.hasSuffix s.data.toList [46, 53]
  · have hpar : ∀ h, SzIs s.data.toList h → h = n * 2 := fun h hz => by
      have e1 := hz.num hn
      have e2 := hz.suf.1
      rw [hsf] at e2
      have e3 : ¬ (h % 2 = 1) := by simpa using e2
      omega
    have hne : s.data.toList ≠ [] := by rw [nosuf_eq hsf, ← hn.1]; exact itoa_ne n
    clear hv htl
    by_cases hq : (szTx (n * 2)).data.toList = s.data.toList
    · have hr := Lib.hid (show sizeR s.data.toList = (n * 2, true) from sizeR_yes (by
        cases hb : inR (n * 2) 0 120
        · rw [szTx_out hb] at hq; exact absurd hq.symm hne
        · exact ⟨(inR_true.1 hb).1, (inR_true.1 hb).2, by rw [← szTx_list hb]; exact hq⟩))
      have hq2 : ((szTx (n * 2)).toList == s.toList) = true := by rw [eq_ba]; exact decide_eq_true hq
      clear hpar hne hn hq
      go_enter Tryd.func42, Tryd.ntmps42
      go_wp2_with fail
      refine (CutHalf _ (by omega) _).mono ?_
      rintro e w1 ⟨rfl, rfl⟩
      go_wp2_with fail
      refine (hrd _ hp).mono ?_
      rintro e w2 ⟨rfl, hb2⟩
      go_wp2_with fail
      refine (within_any _ _ _ _).mono ?_
      rintro e w3 ⟨rfl, rfl⟩
      go_wp2_with fail
      refine (SizeText_any _ _ (hp.below hb2).pow).mono ?_
      rintro e w4 ⟨rfl, hb4⟩
      go_wp2_with fail
      go_ret2
      exact ⟨retNB hr.out, Bl.then hb2 hb4⟩
    · have hr := Lib.hid (show sizeR s.data.toList = (0, false) from sizeR_no fun h hz => by
        have e := hpar h hz
        subst e
        exact hq (by rw [szTx_list (inR_yes ⟨hz.1, hz.2.1⟩)]; exact hz.2.2))
      have hq2 : ((szTx (n * 2)).toList == s.toList) = false := by rw [eq_ba]; exact decide_eq_false hq
      clear hpar hne hn hq
      go_enter Tryd.func42, Tryd.ntmps42
      go_wp2_with fail
      refine (CutHalf _ (by omega) _).mono ?_
      rintro e w1 ⟨rfl, rfl⟩
      go_wp2_with fail
      refine (hrd _ hp).mono ?_
      rintro e w2 ⟨rfl, hb2⟩
      go_wp2_with fail
      refine (within_any _ _ _ _).mono ?_
      rintro e w3 ⟨rfl, rfl⟩
      go_wp2_with fail
      refine (SizeText_any _ _ (hp.below hb2).pow).mono ?_
      rintro e w4 ⟨rfl, hb4⟩
      go_wp2_with fail
      go_ret2
      exact ⟨retNB hr.out, Bl.then hb2 hb4⟩
  · have hpar : ∀ h, SzIs s.data.toList h → h = n * 2 + 1 := fun h hz => by
      have e1 := hz.num hn
      have e2 := hz.suf.1
      rw [hsf] at e2
      have e3 : h % 2 = 1 := by simpa using e2
      omega
    have hne : s.data.toList ≠ [] := by rw [suf_eq hsf]; simp
    clear hv htl
    by_cases hq : (szTx (n * 2 + 1)).data.toList = s.data.toList
    · have hr := Lib.hid (show sizeR s.data.toList = (n * 2 + 1, true) from sizeR_yes (by
        cases hb : inR (n * 2 + 1) 0 120
        · rw [szTx_out hb] at hq; exact absurd hq.symm hne
        · exact ⟨(inR_true.1 hb).1, (inR_true.1 hb).2, by rw [← szTx_list hb]; exact hq⟩))
      have hq2 : ((szTx (n * 2 + 1)).toList == s.toList) = true := by rw [eq_ba]; exact decide_eq_true hq
      clear hpar hne hn hq
      go_enter Tryd.func42, Tryd.ntmps42
      go_wp2_with fail
      refine (CutHalf _ (by omega) _).mono ?_
      rintro e w1 ⟨rfl, rfl⟩
      go_wp2_with fail
      refine (hrd _ hp).mono ?_
      rintro e w2 ⟨rfl, hb2⟩
      go_wp2_with fail
      refine (within_any _ _ _ _).mono ?_
      rintro e w3 ⟨rfl, rfl⟩
      go_wp2_with fail
      refine (SizeText_any _ _ (hp.below hb2).pow).mono ?_
      rintro e w4 ⟨rfl, hb4⟩
      go_wp2_with fail
      go_ret2
      exact ⟨retNB hr.out, Bl.then hb2 hb4⟩
    · have hr := Lib.hid (show sizeR s.data.toList = (0, false) from sizeR_no fun h hz => by
        have e := hpar h hz
        subst e
        exact hq (by rw [szTx_list (inR_yes ⟨hz.1, hz.2.1⟩)]; exact hz.2.2))
      have hq2 : ((szTx (n * 2 + 1)).toList == s.toList) = false := by rw [eq_ba]; exact decide_eq_false hq
      clear hpar hne hn hq
      go_enter Tryd.func42, Tryd.ntmps42
      go_wp2_with fail
      refine (CutHalf _ (by omega) _).mono ?_
      rintro e w1 ⟨rfl, rfl⟩
      go_wp2_with fail
      refine (hrd _ hp).mono ?_
      rintro e w2 ⟨rfl, hb2⟩
      go_wp2_with fail
      refine (within_any _ _ _ _).mono ?_
      rintro e w3 ⟨rfl, rfl⟩
      go_wp2_with fail
      refine (SizeText_any _ _ (hp.below hb2).pow).mono ?_
      rintro e w4 ⟨rfl, hb4⟩
      go_wp2_with fail
      go_ret2
      exact ⟨retNB hr.out, Bl.then hb2 hb4⟩
theorem SzIs.parts {l : List UInt8} {h : Int} (hz : SzIs l h) : splitL 46 l = (if h % 2 = 0 then [Lib.itoa (h / 2)] else [Lib.itoa (h / 2), [53]]) := by
  obtain ⟨h0, h1, rfl⟩ := hz
  have hd := dig_ne (itoa_dig (n := h / 2) (by omega)) (c := 46) (by decide)
  unfold szL
  split
  · rw [List.append_nil, splitL_none hd]
  · rw [splitL_cut _ hd]; rfl
theorem l01Split_at (s : ByteArray) (c : UInt8) (k : Int) (hk : (c.toNat : Int) = k) (hs : s.size ≤ 1048576) (w : World) :
    Calls Tryd.prog 51 #[.string s, .int .u8 k] w fun e w' => ∃ g cc, e = .returned (.slice (some ⟨g, 0, none⟩) (splitL c s.data.toList).length cc) ∧ w'.ownsRow w.heap.size 9 1 (.slice (some ⟨g, 0, none⟩) (splitL c s.data.toList).length cc) (splitL c s.data.toList).length (partVs c s.data.toList) ∧ Below w.heap.size w w' := by
  subst hk; exact l01Split_any s c hs w
set_option maxRecDepth 100000 in
theorem sReadSize_any (s : ByteArray) (hs : s.size ≤ 1048576) (w : World) :
    Calls Tryd.prog 41 #[.string s] w fun e w' => e = .returned (.tuple #[.int .i64 (sizeR s.data.toList).1, .bool (sizeR s.data.toList).2]) ∧ Below w.heap.size w w' := by
  have hsl := size_list s
  have hG := gluL_split 46 s.data.toList
  have hspl := l01Split_at s 46 46 (by decide) hs
  have hpv : partVs 46 s.data.toList = strVs ((splitL 46 s.data.toList).map toBA) := rfl
  rw [hpv] at hspl
  clear hpv
  cases hps : splitL 46 s.data.toList with
  | nil => exact absurd hps (splitL_ne _ _)
  | cons P t =>
    rw [hps] at hG hspl
    have hPl : P.length ≤ 1048576 := by
      cases t with
      | nil => have e : P = s.data.toList := hG; rw [e]; omega
      | cons q r => have e : P ++ 46 :: gluL 46 (q :: r) = s.data.toList := hG; have := congrArg List.length e; rw [List.length_append] at this; omega
    have hnum := fun (W : World) => l01Number_l P hPl W
    have hno : ∀ h, SzIs s.data.toList h → P = Lib.itoa (h / 2) ∧ t = (if h % 2 = 0 then [] else [[53]]) := fun h hz => by
      have e := hz.parts
      rw [hps] at e
      split at e
      · rename_i he
        simp only [List.cons.injEq] at e
        exact ⟨e.1, by rw [if_pos he]; exact e.2⟩
      · rename_i he
        simp only [List.cons.injEq] at e
        exact ⟨e.1, by rw [if_neg he]; exact e.2⟩
    rcases numR_cases P with ⟨n, hn, hv⟩ | ⟨hn, hv⟩
    rotate_left
    · have hr := Lib.hid (show sizeR s.data.toList = (0, false) from sizeR_no fun h hz => hn (h / 2) (by rw [(hno h hz).1]; exact half_num hz.1 hz.2.1))
      rw [hv] at hnum
      clear hn hv hno hG
      generalize hN : (P :: t).length = N at *
      have hN0 : 0 < N := by rw [← hN]; simp
      go_enter Tryd.func41, Tryd.ntmps41
      go_wp2_with fail
      refine (hspl _).mono ?_
      rintro e w1 ⟨g, cc, rfl, ho, hb1⟩
      have hc0 : w1.cell? ⟨g, 0, none⟩ = some (.string ⟨P.toArray⟩) := ho.cells (g := g) rfl 0 _ rfl
      clear ho hspl
      go_wp2_with fail
      refine (hnum _).mono ?_
      rintro e w2 ⟨rfl, hb2⟩
      have hg1 := block_lt_of_cell hc0
      have hd0 : w2.cell? ⟨g, 0, none⟩ = some (.string ⟨P.toArray⟩) := (hb2.cell (p := ⟨g, 0, none⟩) hg1).trans hc0
      go_wp2_with fail
      go_ret2
      exact ⟨retNB hr.out, Bl.then hb1 hb2⟩
    rw [hv] at hnum
    have hval : ∀ h, SzIs s.data.toList h → n = h / 2 := fun h hz => by
      have := hn.val
      rw [(hno h hz).1, nval_itoa] at this
      exact this.symm
    cases t with
    | nil =>
      have hPL : Lib.itoa n = s.data.toList := by rw [← hG]; exact hn.1
      simp only [List.length_singleton] at hspl
      cases hin : inR n 0 60
      · have hr := Lib.hid (show sizeR s.data.toList = (0, false) from sizeR_no fun h hz => by have := hval h hz; have := hz.1; have := hz.2.1; rcases inR_false.1 hin with h2 | h2 <;> omega)
        clear hn hv hno hG hval hPL
        go_enter Tryd.func41, Tryd.ntmps41
        go_wp2_with fail
        refine (hspl _).mono ?_
        rintro e w1 ⟨g, cc, rfl, ho, hb1⟩
        have hc0 : w1.cell? ⟨g, 0, none⟩ = some (.string ⟨P.toArray⟩) := ho.cells (g := g) rfl 0 _ rfl
        clear ho hspl
        go_wp2_with fail
        refine (hnum _).mono ?_
        rintro e w2 ⟨rfl, hb2⟩
        have hg1 := block_lt_of_cell hc0
        have hd0 : w2.cell? ⟨g, 0, none⟩ = some (.string ⟨P.toArray⟩) := (hb2.cell (p := ⟨g, 0, none⟩) hg1).trans hc0
        go_wp2_with fail
        refine (l00In_any _ _ _ _).mono ?_
        rintro e w3 ⟨rfl, rfl⟩
        go_wp2_with fail
        go_ret2
        exact ⟨retNB hr.out, Bl.then hb1 hb2⟩
      · obtain ⟨n0, n1⟩ := inR_true.1 hin
        have hr := Lib.hid (show sizeR s.data.toList = (2 * n, true) from sizeR_yes ⟨by omega, by omega, by unfold szL; rw [if_pos (by omega), List.append_nil, show 2 * n / 2 = n by omega]; exact hPL⟩)
        have hw1 : IntKind.i64.wrap (2 * n) = 2 * n := IntWalk.i64_in _ (by omega)
        have hw2 : IntKind.i64.wrap (2 * n + 1) = 2 * n + 1 := IntWalk.i64_in _ (by omega)
        have hb6 : inR (2 * n) 0 120 = true := inR_yes (by omega)
        clear hn hv hno hG hval hPL
        go_enter Tryd.func41, Tryd.ntmps41
        go_wp2_with fail
        refine (hspl _).mono ?_
        rintro e w1 ⟨g, cc, rfl, ho, hb1⟩
        have hc0 : w1.cell? ⟨g, 0, none⟩ = some (.string ⟨P.toArray⟩) := ho.cells (g := g) rfl 0 _ rfl
        clear ho hspl
        go_wp2_with fail
        refine (hnum _).mono ?_
        rintro e w2 ⟨rfl, hb2⟩
        have hg1 := block_lt_of_cell hc0
        have hd0 : w2.cell? ⟨g, 0, none⟩ = some (.string ⟨P.toArray⟩) := (hb2.cell (p := ⟨g, 0, none⟩) hg1).trans hc0
        go_wp2_with fail
        refine (l00In_any _ _ _ _).mono ?_
        rintro e w3 ⟨rfl, rfl⟩
        go_wp2_with fail
        refine (l03Half_any _ _).mono ?_
        rintro e w4 ⟨rfl, rfl⟩
        go_wp2_with fail
        go_ret2
        exact ⟨retNB hr.out, Bl.then hb1 hb2⟩
    | cons Q t =>
      cases t with
      | nil =>
        have hPL : Lib.itoa n ++ 46 :: Q = s.data.toList := by rw [← hG, hn.1]; rfl
        simp only [List.length_cons, List.length_nil, Nat.zero_add, Nat.reduceAdd] at hspl
        by_cases hQ : Q = [53]
        · subst hQ
          have hq2 : ((⟨([53] : List UInt8).toArray⟩ : ByteArray).toList == [53]) = true := by rw [ByteArray.toList_eq]; rfl
          cases hin : inR n 0 60
          · have hr := Lib.hid (show sizeR s.data.toList = (0, false) from sizeR_no fun h hz => by have := hval h hz; have := hz.1; have := hz.2.1; rcases inR_false.1 hin with h2 | h2 <;> omega)
            clear hn hv hno hG hval hPL
            go_enter Tryd.func41, Tryd.ntmps41
            go_wp2_with fail
            refine (hspl _).mono ?_
            rintro e w1 ⟨g, cc, rfl, ho, hb1⟩
            have hc0 : w1.cell? ⟨g, 0, none⟩ = some (.string ⟨P.toArray⟩) := ho.cells (g := g) rfl 0 _ rfl
            have hc1 : w1.cell? ⟨g, 1, none⟩ = some (.string ⟨([53] : List UInt8).toArray⟩) := ho.cells (g := g) rfl 1 _ rfl
            clear ho hspl
            go_wp2_with fail
            refine (hnum _).mono ?_
            rintro e w2 ⟨rfl, hb2⟩
            have hg1 := block_lt_of_cell hc0
            have hd0 : w2.cell? ⟨g, 0, none⟩ = some (.string ⟨P.toArray⟩) := (hb2.cell (p := ⟨g, 0, none⟩) hg1).trans hc0
            have hd1 : w2.cell? ⟨g, 1, none⟩ = some (.string ⟨([53] : List UInt8).toArray⟩) := (hb2.cell (p := ⟨g, 1, none⟩) hg1).trans hc1
            go_wp2_with fail
            refine (l00In_any _ _ _ _).mono ?_
            rintro e w3 ⟨rfl, rfl⟩
            go_wp2_with fail
            go_ret2
            exact ⟨retNB hr.out, Bl.then hb1 hb2⟩
          · obtain ⟨n0, n1⟩ := inR_true.1 hin
            have hw1 : IntKind.i64.wrap (2 * n) = 2 * n := IntWalk.i64_in _ (by omega)
            have hw2 : IntKind.i64.wrap (2 * n + 2) = 2 * n + 2 := IntWalk.i64_in _ (by omega)
            have hw3 : IntKind.i64.wrap (2 * n + 2 - 1) = 2 * n + 1 := by rw [IntWalk.i64_in _ (by omega)]; omega
            cases hb6 : inR (2 * n + 1) 0 120
            · have hr := Lib.hid (show sizeR s.data.toList = (0, false) from sizeR_no fun h hz => by
                have e1 := hval h hz
                have e2 := (hno h hz).2
                have := hz.1; have := hz.2.1
                have e3 : ¬ (h % 2 = 0) := fun e => by rw [if_pos e] at e2; cases e2
                rcases inR_false.1 hb6 with h2 | h2 <;> omega)
              clear hn hv hno hG hval hPL
              go_enter Tryd.func41, Tryd.ntmps41
              go_wp2_with fail
              refine (hspl _).mono ?_
              rintro e w1 ⟨g, cc, rfl, ho, hb1⟩
              have hc0 : w1.cell? ⟨g, 0, none⟩ = some (.string ⟨P.toArray⟩) := ho.cells (g := g) rfl 0 _ rfl
              have hc1 : w1.cell? ⟨g, 1, none⟩ = some (.string ⟨([53] : List UInt8).toArray⟩) := ho.cells (g := g) rfl 1 _ rfl
              clear ho hspl
              go_wp2_with fail
              refine (hnum _).mono ?_
              rintro e w2 ⟨rfl, hb2⟩
              have hg1 := block_lt_of_cell hc0
              have hd0 : w2.cell? ⟨g, 0, none⟩ = some (.string ⟨P.toArray⟩) := (hb2.cell (p := ⟨g, 0, none⟩) hg1).trans hc0
              have hd1 : w2.cell? ⟨g, 1, none⟩ = some (.string ⟨([53] : List UInt8).toArray⟩) := (hb2.cell (p := ⟨g, 1, none⟩) hg1).trans hc1
              go_wp2_with fail
              refine (l00In_any _ _ _ _).mono ?_
              rintro e w3 ⟨rfl, rfl⟩
              go_wp2_with fail
              refine (l03Half_any _ _).mono ?_
              rintro e w4 ⟨rfl, rfl⟩
              go_wp2_with fail
              go_ret2
              exact ⟨retNB hr.out, Bl.then hb1 hb2⟩
            · have hr := Lib.hid (show sizeR s.data.toList = (2 * n + 1, true) from sizeR_yes ⟨by omega, by have := (inR_true.1 hb6).2; omega, by unfold szL; rw [if_neg (by omega), show (2 * n + 1) / 2 = n by omega]; exact hPL⟩)
              clear hn hv hno hG hval hPL
              go_enter Tryd.func41, Tryd.ntmps41
              go_wp2_with fail
              refine (hspl _).mono ?_
              rintro e w1 ⟨g, cc, rfl, ho, hb1⟩
              have hc0 : w1.cell? ⟨g, 0, none⟩ = some (.string ⟨P.toArray⟩) := ho.cells (g := g) rfl 0 _ rfl
              have hc1 : w1.cell? ⟨g, 1, none⟩ = some (.string ⟨([53] : List UInt8).toArray⟩) := ho.cells (g := g) rfl 1 _ rfl
              clear ho hspl
              go_wp2_with fail
              refine (hnum _).mono ?_
              rintro e w2 ⟨rfl, hb2⟩
              have hg1 := block_lt_of_cell hc0
              have hd0 : w2.cell? ⟨g, 0, none⟩ = some (.string ⟨P.toArray⟩) := (hb2.cell (p := ⟨g, 0, none⟩) hg1).trans hc0
              have hd1 : w2.cell? ⟨g, 1, none⟩ = some (.string ⟨([53] : List UInt8).toArray⟩) := (hb2.cell (p := ⟨g, 1, none⟩) hg1).trans hc1
              go_wp2_with fail
              refine (l00In_any _ _ _ _).mono ?_
              rintro e w3 ⟨rfl, rfl⟩
              go_wp2_with fail
              refine (l03Half_any _ _).mono ?_
              rintro e w4 ⟨rfl, rfl⟩
              go_wp2_with fail
              go_ret2
              exact ⟨retNB hr.out, Bl.then hb1 hb2⟩
        · have hr := Lib.hid (show sizeR s.data.toList = (0, false) from sizeR_no fun h hz => by
            have e2 := (hno h hz).2
            split at e2
            · cases e2
            · simp only [List.cons.injEq, and_true] at e2; exact hQ e2)
          have hq2 : ((⟨Q.toArray⟩ : ByteArray).toList == [53]) = false := by
            rw [ByteArray.toList_eq]; exact beq_eq_false_iff_ne.2 hQ
          clear hn hv hno hG hval hPL
          go_enter Tryd.func41, Tryd.ntmps41
          go_wp2_with fail
          refine (hspl _).mono ?_
          rintro e w1 ⟨g, cc, rfl, ho, hb1⟩
          have hc0 : w1.cell? ⟨g, 0, none⟩ = some (.string ⟨P.toArray⟩) := ho.cells (g := g) rfl 0 _ rfl
          have hc1 : w1.cell? ⟨g, 1, none⟩ = some (.string ⟨Q.toArray⟩) := ho.cells (g := g) rfl 1 _ rfl
          clear ho hspl
          go_wp2_with fail
          refine (hnum _).mono ?_
          rintro e w2 ⟨rfl, hb2⟩
          have hg1 := block_lt_of_cell hc0
          have hd0 : w2.cell? ⟨g, 0, none⟩ = some (.string ⟨P.toArray⟩) := (hb2.cell (p := ⟨g, 0, none⟩) hg1).trans hc0
          have hd1 : w2.cell? ⟨g, 1, none⟩ = some (.string ⟨Q.toArray⟩) := (hb2.cell (p := ⟨g, 1, none⟩) hg1).trans hc1
          go_wp2_with fail
          go_ret2
          exact ⟨retNB hr.out, Bl.then hb1 hb2⟩
      | cons R t =>
        have hr := Lib.hid (show sizeR s.data.toList = (0, false) from sizeR_no fun h hz => by
          have e2 := (hno h hz).2
          split at e2
          · cases e2
          · simp at e2)
        clear hn hv hno hG hval
        generalize hN : (P :: Q :: R :: t).length = N at *
        have hN0 : 2 < N := by rw [← hN]; simp
        go_enter Tryd.func41, Tryd.ntmps41
        go_wp2_with fail
        refine (hspl _).mono ?_
        rintro e w1 ⟨g, cc, rfl, ho, hb1⟩
        have hc0 : w1.cell? ⟨g, 0, none⟩ = some (.string ⟨P.toArray⟩) := ho.cells (g := g) rfl 0 _ rfl
        clear ho hspl
        go_wp2_with fail
        refine (hnum _).mono ?_
        rintro e w2 ⟨rfl, hb2⟩
        have hg1 := block_lt_of_cell hc0
        have hd0 : w2.cell? ⟨g, 0, none⟩ = some (.string ⟨P.toArray⟩) := (hb2.cell (p := ⟨g, 0, none⟩) hg1).trans hc0
        go_wp2_with fail
        go_ret2
        exact ⟨retNB hr.out, Bl.then hb1 hb2⟩
end Go.Proofs.YtijbaapecehamaaDoor
