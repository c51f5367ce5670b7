/-
  What RankLasts answers; plain facts on the row of the allowed places and on insertion by cost.
-/
import Derived.Test.YtlbgognkaolamaaBest
import Derived.Test.YtlbgognkaolamaaStab
namespace Go.Proofs.Ytlbgognkaolamaa
open Go.RowKit
noncomputable def rkF (q0 : Int) (zf : List Int) (xs : List LastD) (f : FootD) (x : Int) : Int := cX q0 zf (lastsAt xs x.toNat) f
noncomputable def rkR (q0 q1 q2 : Int) (zf : List Int) (xs : List LastD) (f : FootD) : List Int × Int := if lsOk q0 q1 q2 zf xs f = true then (rankBy (rkF q0 zf xs f) (accL (alwI q0 q1 q2 xs [f]) xs.length), 0) else ([], 1)
theorem rankBy_len (c : Int → Int) (zs : List Int) : (rankBy c zs).length = zs.length := List.length_mergeSort _
theorem rkR_len (q0 q1 q2 : Int) (zf : List Int) (xs : List LastD) (f : FootD) : (rkR q0 q1 q2 zf xs f).1.length ≤ 1048577 := by
  unfold rkR
  by_cases h : lsOk q0 q1 q2 zf xs f = true
  · rw [if_pos h]
    have h1 := (lastsOk_bd (lsOk_bd h).1).1
    have h2 := accL_len (alwI_len q0 q1 q2 xs [f]) xs.length
    show (rankBy _ _).length ≤ _
    rw [rankBy_len]; omega
  · rw [if_neg h]; simp
/-- The allowed places rise. -/
theorem alw_inc (q0 q1 q2 : Int) (xs : List LastD) (f : FootD) : ∀ m : Nat, Inc (accL (alwI q0 q1 q2 xs [f]) m) 0 (accL (alwI q0 q1 q2 xs [f]) m).length ∧ RngN m (accL (alwI q0 q1 q2 xs [f]) m)
  | 0 => ⟨fun i j h1 h2 h3 => by simp [accL] at h3, fun k hk => by simp [accL] at hk⟩
  | m + 1 => by
    obtain ⟨h1, h2⟩ := alw_inc q0 q1 q2 xs f m
    have e : accL (alwI q0 q1 q2 xs [f]) (m + 1) = accL (alwI q0 q1 q2 xs [f]) m ++ alwI q0 q1 q2 xs [f] m := rfl
    rw [e]
    by_cases hm : mX q0 q1 q2 (lastsAt xs m) f = true
    · rw [alw_one, if_pos hm]
      have hr : ∀ k, k < (accL (alwI q0 q1 q2 xs [f]) m ++ [(m : Int)]).length → (k < (accL (alwI q0 q1 q2 xs [f]) m).length ∧ ix (accL (alwI q0 q1 q2 xs [f]) m ++ [(m : Int)]) k = ix (accL (alwI q0 q1 q2 xs [f]) m) k) ∨ (k = (accL (alwI q0 q1 q2 xs [f]) m).length ∧ ix (accL (alwI q0 q1 q2 xs [f]) m ++ [(m : Int)]) k = m) := fun k hk => by
        by_cases e2 : k < (accL (alwI q0 q1 q2 xs [f]) m).length
        · exact .inl ⟨e2, ix_app_lt e2⟩
        · have e3 : k = (accL (alwI q0 q1 q2 xs [f]) m).length := by simp at hk; omega
          exact .inr ⟨e3, by rw [e3]; exact ix_app_last _ _⟩
      refine ⟨fun i j i1 i2 i3 => ?_, fun k hk => ?_⟩
      · rcases hr i (by omega) with ⟨a1, a2⟩ | ⟨a1, a2⟩ <;> rcases hr j i3 with ⟨b1, b2⟩ | ⟨b1, b2⟩
        · rw [a2, b2]; exact h1 i j i1 i2 b1
        · rw [a2, b2]; have := h2 i a1; omega
        · omega
        · omega
      · rcases hr k hk with ⟨a1, a2⟩ | ⟨a1, a2⟩
        · rw [a2]; have := h2 k a1; omega
        · rw [a2]; omega
    · rw [alw_one, if_neg hm, List.append_nil]
      exact ⟨h1, fun k hk => by have := h2 k hk; omega⟩
theorem alw_mx (q0 q1 q2 : Int) (xs : List LastD) (f : FootD) : ∀ m : Nat, ∀ x ∈ accL (alwI q0 q1 q2 xs [f]) m, mX q0 q1 q2 (lastsAt xs x.toNat) f = true
  | 0 => fun x hx => by simp [accL] at hx
  | m + 1 => fun x hx => by
    have e : accL (alwI q0 q1 q2 xs [f]) (m + 1) = accL (alwI q0 q1 q2 xs [f]) m ++ alwI q0 q1 q2 xs [f] m := rfl
    rw [e, List.mem_append] at hx
    rcases hx with hx | hx
    · exact alw_mx q0 q1 q2 xs f m x hx
    · rw [alw_one] at hx
      by_cases hm : mX q0 q1 q2 (lastsAt xs m) f = true
      · rw [if_pos hm] at hx
        have hx2 : x = (m : Int) := by simpa using hx
        rw [hx2]; exact hm
      · rw [if_neg hm] at hx; cases hx
/-- m put ahead of place k. -/
def insAt (os : List Int) (k m : Nat) : List Int := os.take k ++ [(m : Int)] ++ os.drop k
theorem insAt_ix {os : List Int} {k m : Nat} (hk : k ≤ os.length) (q : Nat) : ix (insAt os k m) q = if q < k then ix os q else if q = k then (m : Int) else ix os (q - 1) := by
  have hl : (os.take k).length = k := by rw [List.length_take]; omega
  unfold insAt ix
  simp only [List.getD_eq_getElem?_getD]
  rw [List.append_assoc]
  by_cases h1 : q < k
  · rw [if_pos h1, List.getElem?_append_left (by omega), List.getElem?_take, if_pos h1]
  · rw [if_neg h1, List.getElem?_append_right (by omega), hl]
    by_cases h2 : q = k
    · subst h2
      rw [if_pos rfl, Nat.sub_self]; rfl
    · rw [if_neg h2]
      obtain ⟨d, rfl⟩ : ∃ d, q = k + 1 + d := ⟨q - k - 1, by omega⟩
      rw [show k + 1 + d - k = d + 1 by omega, show k + 1 + d - 1 = k + d by omega, List.singleton_append, List.getElem?_cons_succ, List.getElem?_drop]
theorem insAt_perm (os : List Int) (k m : Nat) : (insAt os k m).Perm (os ++ [(m : Int)]) := by
  have e : os ++ [(m : Int)] = os.take k ++ (os.drop k ++ [(m : Int)]) := by rw [← List.append_assoc, List.take_append_drop]
  rw [e]
  unfold insAt
  rw [List.append_assoc]
  exact List.Perm.append_left _ List.perm_append_comm
theorem insAt_len (os : List Int) (k m : Nat) : (insAt os k m).length = os.length + 1 := by rw [(insAt_perm os k m).length_eq]; simp
def RkInv (c : Int → Int) (zs os : List Int) : Prop := os.Perm zs ∧ SortedOn (keyOf c) os 0 os.length
def Above (c : Int → Int) (os : List Int) (m k : Nat) : Prop := ∀ q, k ≤ q → q < os.length → c m < c (ix os q)
theorem Above.none (c : Int → Int) (os : List Int) (m : Nat) : Above c os m os.length := fun q h1 h2 => by omega
theorem Above.step {c : Int → Int} {os : List Int} {m k : Nat} (h : Above c os m (k + 1)) (hk : c m < c (ix os k)) : Above c os m k := fun q h1 h2 => by
  by_cases e : q = k
  · rw [e]; exact hk
  · exact h q (by omega) h2
theorem RkInv.nil (c : Int → Int) : RkInv c [] [] := ⟨List.Perm.refl _, fun i j _ _ h => by simp at h⟩
theorem RkInv.put {c : Int → Int} {zs os : List Int} {m k : Nat} (h : RkInv c zs os) (hr : RngN m zs) (hm : m < 64) (hk : k ≤ os.length) (ha : Above c os m k) (hb : k = 0 ∨ c (ix os (k - 1)) ≤ c m) : RkInv c (zs ++ [(m : Int)]) (insAt os k m) := by
  obtain ⟨hp, hs⟩ := h
  have hro := hr.perm hp
  have lo : ∀ q, q < k → keyOf c (ix os q) < keyOf c (m : Int) := fun q hq => by
    have r1 := hro q (by omega)
    have r2 := hro (k - 1) (by omega)
    have h1 : keyOf c (ix os (k - 1)) < keyOf c (m : Int) := by
      rcases hb with hb | hb
      · omega
      · unfold keyOf; omega
    by_cases e : q = k - 1
    · rw [e]; exact h1
    · exact Int.lt_trans (hs q (k - 1) (Nat.zero_le _) (by omega) (by omega)) h1
  have hi : ∀ q, k ≤ q → q < os.length → keyOf c (m : Int) < keyOf c (ix os q) := fun q h1 h2 => by
    have r1 := hro q h2
    have := ha q h1 h2
    unfold keyOf; omega
  refine ⟨(insAt_perm os k m).trans (hp.append_right _), fun i j _ hij hj => ?_⟩
  rw [insAt_len] at hj
  rw [insAt_ix hk i, insAt_ix hk j]
  by_cases e1 : i < k
  · rw [if_pos e1]
    by_cases e2 : j < k
    · rw [if_pos e2]; exact hs i j (Nat.zero_le _) hij (by omega)
    · rw [if_neg e2]
      by_cases e3 : j = k
      · rw [if_pos e3]; exact lo i e1
      · rw [if_neg e3]; exact Int.lt_trans (lo i e1) (hi (j - 1) (by omega) (by omega))
  · rw [if_neg e1, if_neg (show ¬ j < k by omega), if_neg (show ¬ j = k by omega)]
    by_cases e3 : i = k
    · rw [if_pos e3]; exact hi (j - 1) (by omega) (by omega)
    · rw [if_neg e3]; exact hs (i - 1) (j - 1) (Nat.zero_le _) (by omega) (by omega)
theorem RkInv.rank {c : Int → Int} {zs os : List Int} (h : RkInv c zs os) (hr : Rng zs) : os = rankBy c zs := rank_of hr h.1 h.2
end Go.Proofs.Ytlbgognkaolamaa
