/-
  Reading a decimal form back: plain laws of digits; no program.
-/
import Derived.Lib.ItoaLen
import Derived.Lib.ItoaMem
import Derived.Lib.ParseIntBCases
import Derived.Lib.ParseIntBTie
namespace Go.Proofs.YtijbaapecehamaaDoor
open Go.Lib

/-- What digits come to. -/
def dval (l : List UInt8) : Nat := l.foldl (fun a b => 10 * a + (b.toNat - 48)) 0
def isDig (b : UInt8) : Prop := 48 ≤ b.toNat ∧ b.toNat ≤ 57
def AllDig (l : List UInt8) : Prop := ∀ b ∈ l, isDig b
theorem dval_snoc (l : List UInt8) (b : UInt8) : dval (l ++ [b]) = 10 * dval l + (b.toNat - 48) := by simp [dval]
theorem dval_nil : dval [] = 0 := rfl
theorem dval_lt : ∀ (n : Nat) (l : List UInt8), l.length = n → AllDig l → dval l < 10 ^ n := by
  intro n
  induction n with
  | zero => intro l hl _; rw [List.eq_nil_of_length_eq_zero hl]; decide
  | succ n ih =>
    intro l hl h
    have hne : l ≠ [] := fun e => by rw [e] at hl; simp at hl
    have e := List.dropLast_concat_getLast hne
    have h1 := ih l.dropLast (by simp; omega) (fun b hb => h b (List.dropLast_subset l hb))
    have h2 := h (l.getLast hne) (List.getLast_mem hne)
    rw [← e, dval_snoc, Nat.pow_succ]
    have := h2.1; have := h2.2
    omega
theorem dig_of (k : Nat) (h : k < 10) : (UInt8.ofNat (48 + k)).toNat = 48 + k := by
  have : 48 + k < 256 := by omega
  simp [Nat.mod_eq_of_lt this]
theorem decDigits_at (u : Nat) : decDigits u = (if u < 10 then [] else decDigits (u / 10)) ++ [UInt8.ofNat (48 + u % 10)] := by
  rw [decDigits]
  split
  · rename_i h; rw [show u % 10 = u by omega]; rfl
  · rfl
theorem decDigits_dig : ∀ u, AllDig (decDigits u) := by
  intro u
  induction u using Nat.strongRecOn with
  | _ u ih =>
    intro b hb
    rw [decDigits_at, List.mem_append] at hb
    rcases hb with hb | hb
    · split at hb
      · cases hb
      · exact ih (u / 10) (by omega) b hb
    · rw [List.mem_singleton] at hb
      subst hb
      have := dig_of (u % 10) (by omega)
      exact ⟨by omega, by omega⟩
theorem dval_dec : ∀ u, dval (decDigits u) = u := by
  intro u
  induction u using Nat.strongRecOn with
  | _ u ih =>
    rw [decDigits_at, dval_snoc, dig_of _ (by omega)]
    split
    · rw [dval_nil]; omega
    · rw [ih (u / 10) (by omega)]; omega
theorem decDigits_pos (u : Nat) : 1 ≤ (decDigits u).length := by rw [decDigits_at, List.length_append]; simp
theorem decDigits_lt {u n : Nat} (h : (decDigits u).length ≤ n) : u < 10 ^ n := by
  have h1 := dval_lt _ _ rfl (decDigits_dig u)
  rw [dval_dec] at h1
  exact Nat.lt_of_lt_of_le h1 (Nat.pow_le_pow_right (by decide) h)
theorem decDigits_le {u : Nat} : ∀ n, u < 10 ^ n → 1 ≤ n → (decDigits u).length ≤ n := by
  intro n
  induction n generalizing u with
  | zero => intro _ h; omega
  | succ n ih =>
    intro h _
    rw [decDigits_at, List.length_append, List.length_singleton]
    split
    · simp
    · rename_i h10
      rw [Nat.pow_succ] at h
      rcases Nat.eq_zero_or_pos n with h0 | h0
      · subst h0; omega
      · have := ih (u := u / 10) (by omega) h0
        omega
/-- A text without its sign. -/
def bare (l : List UInt8) : List UInt8 := if l.head? = some 45 then l.drop 1 else l
theorem itoa_n {n : Int} (h : n < 0) : itoa n = 45 :: decDigits n.natAbs := by unfold itoa; rw [if_pos h]
theorem itoa_p {n : Int} (h : ¬ n < 0) : itoa n = decDigits n.toNat := by unfold itoa; rw [if_neg h]
theorem head_p (u : Nat) : ¬ ((decDigits u).head? = some 45) := fun h => by
  have hm := List.mem_of_mem_head? (Option.mem_def.2 h)
  have := (decDigits_dig u 45 hm).1
  revert this; decide
theorem bare_itoa (n : Int) : bare (itoa n) = decDigits n.natAbs := by
  by_cases hn : n < 0
  · rw [itoa_n hn]; rfl
  · rw [itoa_p hn]; unfold bare; rw [if_neg (head_p _), show n.natAbs = n.toNat by omega]
theorem head_itoa (n : Int) : ((itoa n).head? = some 45) ↔ n < 0 := by
  by_cases hn : n < 0
  · rw [itoa_n hn]; exact ⟨fun _ => hn, fun _ => rfl⟩
  · rw [itoa_p hn]; exact ⟨fun h => absurd h (head_p _), fun h => absurd h hn⟩
/-- The number that digits and a sign come to. -/
def nval (l : List UInt8) : Int := if l.head? = some 45 then -((dval (bare l) : Nat) : Int) else dval (bare l)
theorem nval_itoa (n : Int) : nval (itoa n) = n := by
  unfold nval
  rw [bare_itoa, dval_dec]
  by_cases h : n < 0
  · rw [if_pos ((head_itoa n).2 h)]; omega
  · rw [if_neg (fun e => h ((head_itoa n).1 e))]; omega
/-- The library reads a decimal form back. -/
theorem parseUintM_dig : ∀ (l : List UInt8) (acc : Nat), AllDig l → (acc * 10 ^ l.length + dval l) ≤ 9223372036854775808 → parseUintM 18446744073709551615 acc l = .ok (acc * 10 ^ l.length + dval l)
  | [], acc, _, _ => by simp [parseUintM, dval]
  | c :: r, acc, h, hb => by
    have hc := h c (by simp)
    have e : dval (c :: r) = (c.toNat - 48) * 10 ^ r.length + dval r := by
      have key : ∀ (r : List UInt8) (a : Nat), r.foldl (fun a b => 10 * a + (b.toNat - 48)) a = a * 10 ^ r.length + r.foldl (fun a b => 10 * a + (b.toNat - 48)) 0 := by
        intro r
        induction r with
        | nil => intro a; simp
        | cons d r ih =>
          intro a
          rw [List.foldl_cons, List.foldl_cons, ih, ih (10 * 0 + (d.toNat - 48)), List.length_cons, Nat.pow_succ]
          rw [Nat.add_mul, Nat.add_mul]
          have : 10 * a * 10 ^ r.length = a * (10 ^ r.length * 10) := by rw [Nat.mul_comm 10 a, Nat.mul_assoc, Nat.mul_comm 10]
          omega
      unfold dval
      rw [List.foldl_cons, key]
      simp
    have e2 : acc * 10 ^ (c :: r).length + dval (c :: r) = (acc * 10 + (c.toNat - 48)) * 10 ^ r.length + dval r := by
      rw [e, List.length_cons, Nat.pow_succ, Nat.add_mul]
      have : acc * 10 * 10 ^ r.length = acc * (10 ^ r.length * 10) := by rw [Nat.mul_assoc, Nat.mul_comm 10]
      omega
    have hp : 1 ≤ 10 ^ r.length := Nat.one_le_pow _ _ (by decide)
    have hle : acc * 10 + (c.toNat - 48) ≤ (acc * 10 + (c.toNat - 48)) * 10 ^ r.length := Nat.le_mul_of_pos_right _ hp
    rw [e2] at hb
    rw [parseUintM, if_pos (show 48 ≤ c.toNat ∧ c.toNat ≤ 57 from hc), if_neg (by omega), if_neg (by omega), parseUintM_dig r _ (fun b hb => h b (by simp [hb])) hb, e2]
theorem parse_itoa (n : Int) (h0 : -9223372036854775808 ≤ n) (h1 : n ≤ 9223372036854775807) : parseIntB 64 (itoa n) = .ok n := by
  have hu : ∀ u : Nat, u ≤ 9223372036854775808 → parseUintB 64 (decDigits u) = .ok u := by
    intro u h
    have hne : decDigits u ≠ [] := fun e => by have := decDigits_pos u; rw [e] at this; simp at this
    have hh := parseUintM_dig (decDigits u) 0 (decDigits_dig u) (by rw [dval_dec]; omega)
    rw [dval_dec, Nat.zero_mul, Nat.zero_add] at hh
    unfold parseUintB
    rw [if_neg hne]
    exact hh
  have e63 : (2 : Nat) ^ (64 - 1) = 9223372036854775808 := by decide
  by_cases hn : n < 0
  · rw [itoa_n hn, parseIntB_minus, hu n.natAbs (by omega), e63]
    simp only [signedC]
    rw [if_neg (by omega)]
    congr 1; omega
  · rw [itoa_p hn]
    have hd := decDigits_dig n.toNat
    have hq := hu n.toNat (by omega)
    cases hl : decDigits n.toNat with
    | nil => have := decDigits_pos n.toNat; rw [hl] at this; simp at this
    | cons c r =>
      rw [hl] at hd hq
      have hc := hd c (by simp)
      have h2 := hc.1; have h3 := hc.2
      rw [parseIntB_plain 64 c r (by omega) (by omega), hq, e63]
      simp only [signlessC]
      rw [if_neg (by omega)]
      congr 1; omega
/-- The text is the decimal form of a number of at most 18 digits. -/
def IsNum (l : List UInt8) (n : Int) : Prop := itoa n = l ∧ -999999999999999999 ≤ n ∧ n ≤ 999999999999999999
theorem IsNum.val {l : List UInt8} {n : Int} (h : IsNum l n) : nval l = n := by rw [← h.1, nval_itoa]
theorem isNum_of {l : List UInt8} {n : Int} (h : itoa n = l) (hl : (bare l).length ≤ 18) : IsNum l n := by
  refine ⟨h, ?_⟩
  rw [← h, bare_itoa] at hl
  have := decDigits_lt hl
  have e : (10 : Nat) ^ 18 = 1000000000000000000 := by decide
  omega
theorem IsNum.len {l : List UInt8} {n : Int} (h : IsNum l n) : 1 ≤ (bare l).length ∧ (bare l).length ≤ 18 ∧ l.length ≤ 19 ∧ AllDig (bare l) := by
  obtain ⟨h1, h2, h3⟩ := h
  have hb : (bare l).length ≤ 18 := by
    rw [← h1, bare_itoa]
    exact decDigits_le 18 (by have e : (10 : Nat) ^ 18 = 1000000000000000000 := by decide
                              omega) (by decide)
  refine ⟨by rw [← h1, bare_itoa]; exact decDigits_pos _, hb, ?_, by rw [← h1, bare_itoa]; exact decDigits_dig _⟩
  unfold bare at hb
  split at hb
  · rw [List.length_drop] at hb; omega
  · omega
/-- What ReadDecimal answers. -/
noncomputable def numR (l : List UInt8) : Int × Bool := @ite _ (IsNum l (nval l)) (Classical.propDecidable _) (nval l, true) (0, false)
theorem numR_yes {l : List UInt8} {n : Int} (h : IsNum l n) : numR l = (n, true) := by
  have e := h.val
  unfold numR
  rw [e, if_pos h]
theorem numR_no {l : List UInt8} (h : ∀ n, ¬ IsNum l n) : numR l = (0, false) := by
  unfold numR
  rw [if_neg (h _)]
theorem numR_cases (l : List UInt8) : (∃ n, IsNum l n ∧ numR l = (n, true)) ∨ ((∀ n, ¬ IsNum l n) ∧ numR l = (0, false)) := by
  by_cases h : IsNum l (nval l)
  · exact .inl ⟨_, h, numR_yes h⟩
  · have hn : ∀ n, ¬ IsNum l n := fun n hn => h (by rw [hn.val]; exact hn)
    exact .inr ⟨hn, numR_no hn⟩
end Go.Proofs.YtijbaapecehamaaDoor
