/-
  IsName of the program and of the reference: both return 'nameOk', for every string that Go can hold.
-/
import Derived.Test.YtijbaapecehamaaDoorScal
import Derived.PlainAid
namespace Go.Proofs.YtijbaapecehamaaDoor
open Go.RowKit Go.PlainAid
set_option maxHeartbeats 400000

/-- A letter of a name behind the first. -/
def nameCh (c : Int) : Prop := (97 ≤ c ∧ c ≤ 122) ∨ (48 ≤ c ∧ c ≤ 57) ∨ c = 45
def NmTo (s : ByteArray) (m k : Nat) : Prop := ∀ j, m ≤ j → j < k → nameCh (bt s j)
def NameOk (s : ByteArray) : Prop := 1 ≤ s.size ∧ s.size ≤ 12 ∧ (97 ≤ bt s 0 ∧ bt s 0 ≤ 122) ∧ NmTo s 1 s.size
noncomputable def nameOk (s : ByteArray) : Bool := @decide (NameOk s) (Classical.propDecidable _)
theorem nameOk_yes {s : ByteArray} (h : NameOk s) : nameOk s = true := @decide_eq_true _ (Classical.propDecidable _) h
theorem nameOk_no {s : ByteArray} (h : ¬ NameOk s) : nameOk s = false := @decide_eq_false _ (Classical.propDecidable _) h
theorem NmTo_snoc {s : ByteArray} {m k : Nat} (h : NmTo s m k) (hc : nameCh (bt s k)) : NmTo s m (k + 1) := fun j h1 h2 => by
  by_cases e : j = k
  · subst e; exact hc
  · exact h j h1 (by omega)
theorem nameOk_bad {s : ByteArray} {k : Nat} (h1 : 1 ≤ k) (h2 : k < s.size) (hc : ¬ nameCh (bt s k)) : nameOk s = false := nameOk_no fun h => hc (h.2.2.2 k h1 h2)
theorem nameCh_of {c : Int} (h : (97 ≤ c ∧ c ≤ 122) ∨ (48 ≤ c ∧ c ≤ 57) ∨ c = 45) : nameCh c := h
theorem size_maxLen {s : ByteArray} (hs : s.size ≤ maxLen) : s.size ≤ 9223372036854775807 := by unfold maxLen at hs; exact hs

theorem IsName_any (s : ByteArray) (hs : s.size ≤ maxLen) (w : World) :
    Calls Tryd.prog 93 #[.string s] w fun e w' => e = .returned (.bool (nameOk s)) ∧ w = w' := by
  have hs' := size_maxLen hs
  clear hs
  by_cases h1 : s.size < 1
  · have hb := get_bt s
    go_enter Tryd.func93, Tryd.ntmps93
    go_wp2
    go_ret
    exact ⟨ret_bool (nameOk_no fun h => by have := h.1; omega).symm, rfl⟩
  by_cases h2 : 12 < s.size
  · have hb := get_bt s
    go_enter Tryd.func93, Tryd.ntmps93
    go_wp2
    go_ret
    exact ⟨ret_bool (nameOk_no fun h => by have := h.2.1; omega).symm, rfl⟩
  have h0 : 0 < s.size := by omega
  by_cases h3 : bt s 0 < 97
  · have hb := get_bt s
    go_enter Tryd.func93, Tryd.ntmps93
    go_wp2
    go_ret
    exact ⟨ret_bool (nameOk_no fun h => by have := h.2.2.1; omega).symm, rfl⟩
  by_cases h4 : 122 < bt s 0
  · have hb := get_bt s
    go_enter Tryd.func93, Tryd.ntmps93
    go_wp2
    go_ret
    exact ⟨ret_bool (nameOk_no fun h => by have := h.2.2.1; omega).symm, rfl⟩
  have hb := get_bt s
  go_enter Tryd.func93, Tryd.ntmps93
  go_wp2
  go_loop [3] (fun i => ∃ k : Nat, 1 ≤ k ∧ k ≤ s.size ∧ NmTo s 1 k ∧ i = .int .i64 k) (fun i => s.size - (intOf i).toNat)
  case atStart => exact ⟨1, by omega, by omega, fun j h1 h2 => by omega, rfl⟩
  case round =>
    obtain ⟨k, hk1, hk2, hkn, rfl⟩ := hrel
    by_cases hlt : k < s.size
    · have b0 := bt_nonneg s k
      rcases (show bt s k < 45 ∨ (45 ≤ bt s k ∧ bt s k ≤ 45) ∨ (45 < bt s k ∧ bt s k < 48) ∨ (48 ≤ bt s k ∧ bt s k ≤ 57) ∨ (57 < bt s k ∧ bt s k < 97) ∨ (97 ≤ bt s k ∧ bt s k ≤ 122) ∨ 122 < bt s k by omega) with c | ⟨c, c'⟩ | ⟨c, c'⟩ | ⟨c, c'⟩ | ⟨c, c'⟩ | ⟨c, c'⟩ | c
      all_goals
        first | have cb : (bt s k != 45) = true := (by simp; omega) | have cb : (bt s k != 45) = false := (by simp; omega)
        first
          | (have hg : nameCh (bt s k) := nameCh_of (by omega)
             go_wp2
             go_round
             case rel => exact ⟨k + 1, by omega, by omega, NmTo_snoc hkn hg, by go_num⟩
             case measure => simp [intOf]; omega)
          | (have hg : ¬ nameCh (bt s k) := by unfold nameCh; omega
             go_wp2
             go_ret
             exact ⟨ret_bool (nameOk_bad hk1 hlt hg).symm, rfl⟩)
    · go_wp2
      go_ret
      exact ⟨ret_bool (nameOk_yes ⟨by omega, by omega, ⟨by omega, by omega⟩, fun j h1 h2 => hkn j h1 (by omega)⟩).symm, rfl⟩
theorem l01Small_any (c : Int) (w : World) :
    Calls Tryd.prog 110 #[.int .u8 c] w fun e w' => e = .returned (.bool (inR c 97 122)) ∧ w = w' := by
  rcases (show c < 97 ∨ (97 ≤ c ∧ c ≤ 122) ∨ 122 < c by omega) with h | h | h
  · go_enter Tryd.func110, Tryd.ntmps110
    go_wp2
    go_ret
    exact ⟨ret_bool (by rw [Bool.eq_iff_iff]; simp [inR]; omega), rfl⟩
  · obtain ⟨ha, hb⟩ := h
    go_enter Tryd.func110, Tryd.ntmps110
    go_wp2
    go_ret
    exact ⟨ret_bool (by rw [Bool.eq_iff_iff]; simp [inR]; omega), rfl⟩
  · have h' : 97 ≤ c := by omega
    go_enter Tryd.func110, Tryd.ntmps110
    go_wp2
    go_ret
    exact ⟨ret_bool (by rw [Bool.eq_iff_iff]; simp [inR]; omega), rfl⟩
theorem l01Digit_any (c : Int) (w : World) :
    Calls Tryd.prog 82 #[.int .u8 c] w fun e w' => e = .returned (.bool (inR c 48 57)) ∧ w = w' := by
  rcases (show c < 48 ∨ (48 ≤ c ∧ c ≤ 57) ∨ 57 < c by omega) with h | h | h
  · go_enter Tryd.func82, Tryd.ntmps82
    go_wp2
    go_ret
    exact ⟨ret_bool (by rw [Bool.eq_iff_iff]; simp [inR]; omega), rfl⟩
  · obtain ⟨ha, hb⟩ := h
    go_enter Tryd.func82, Tryd.ntmps82
    go_wp2
    go_ret
    exact ⟨ret_bool (by rw [Bool.eq_iff_iff]; simp [inR]; omega), rfl⟩
  · have h' : 48 ≤ c := by omega
    go_enter Tryd.func82, Tryd.ntmps82
    go_wp2
    go_ret
    exact ⟨ret_bool (by rw [Bool.eq_iff_iff]; simp [inR]; omega), rfl⟩
theorem nonempty_of {s : ByteArray} (h : 0 < s.size) : ¬ s.toList = [] := by
  rw [ByteArray.toList_eq]
  obtain ⟨⟨l⟩⟩ := s
  cases l with
  | nil => simp [ByteArray.size] at h
  | cons => simp
theorem sIsName_any (s : ByteArray) (hs : s.size ≤ maxLen) (w : World) :
    Calls Tryd.prog 91 #[.string s] w fun e w' => e = .returned (.bool (nameOk s)) ∧ w = w' := by
  have hs' := size_maxLen hs
  clear hs
  by_cases h1 : s.size < 1
  · have he : s = ByteArray.empty := by
      obtain ⟨⟨l⟩⟩ := s
      have : l = [] := by cases l <;> simp_all [ByteArray.size]
      subst this; rfl
    subst he
    go_enter Tryd.func91, Tryd.ntmps91
    go_wp2
    go_ret
    exact ⟨ret_bool (nameOk_no fun h => by have := h.1; omega).symm, rfl⟩
  have h0 : 0 < s.size := by omega
  have hne := nonempty_of h0
  have hne2 : s.toList.isEmpty = false := by simp [hne]
  by_cases h2 : 12 < s.size
  · have hb := get_bt s
    go_enter Tryd.func91, Tryd.ntmps91
    go_wp2
    go_ret
    exact ⟨ret_bool (nameOk_no fun h => by have := h.2.1; omega).symm, rfl⟩
  have hd2 : (decide (12 < (s.size : Int))) = false := by simp; omega
  cases h3 : inR (bt s 0) 97 122
  · have hb := get_bt s
    go_enter Tryd.func91, Tryd.ntmps91
    go_wp2_with (go_at_call 110; refine (l01Small_any _ _).mono ?_; rintro e w2 ⟨rfl, rfl⟩)
    go_ret
    exact ⟨ret_bool (nameOk_no fun h => by have := inR_yes h.2.2.1; rw [h3] at this; cases this).symm, rfl⟩
  have hb := get_bt s
  go_enter Tryd.func91, Tryd.ntmps91
  go_wp2_with (go_at_call 110; refine (l01Small_any _ _).mono ?_; rintro e w2 ⟨rfl, rfl⟩)
  go_loop [3] (fun i => ∃ k : Nat, k ≤ s.size ∧ NmTo s 0 k ∧ i = .int .i64 k) (fun i => s.size - (intOf i).toNat)
  case atStart => exact ⟨0, by omega, fun j h1 h2 => by omega, rfl⟩
  case round =>
    obtain ⟨k, hk2, hkn, rfl⟩ := hrel
    by_cases hlt : k < s.size
    · cases c1 : inR (bt s k) 97 122
      · cases c2 : inR (bt s k) 48 57
        · by_cases c3 : bt s k = 45
          · have hg : nameCh (bt s k) := .inr (.inr c3)
            have c4 : (bt s k != 45) = false := by simp [c3]
            clear c3
            go_wp2_with (first | (go_at_call 110; refine (l01Small_any _ _).mono ?_; rintro e w2 ⟨rfl, rfl⟩) | (go_at_call 82; refine (l01Digit_any _ _).mono ?_; rintro e w2 ⟨rfl, rfl⟩))
            go_round
            case rel => exact ⟨k + 1, by omega, NmTo_snoc hkn hg, by go_num⟩
            case measure => simp [intOf]; omega
          · have hg : ¬ nameCh (bt s k) := by
              rintro (h | h | h)
              · rw [inR_yes h] at c1; cases c1
              · rw [inR_yes h] at c2; cases c2
              · exact c3 h
            have c4 : (bt s k != 45) = true := by simp [c3]
            clear c3
            go_wp2_with (first | (go_at_call 110; refine (l01Small_any _ _).mono ?_; rintro e w2 ⟨rfl, rfl⟩) | (go_at_call 82; refine (l01Digit_any _ _).mono ?_; rintro e w2 ⟨rfl, rfl⟩))
            go_ret
            refine ⟨ret_bool (Eq.symm ?_), rfl⟩
            rcases Nat.eq_zero_or_pos k with e | e
            · subst e; rw [c1] at h3; cases h3
            · exact nameOk_bad e hlt hg
        · have hg : nameCh (bt s k) := .inr (.inl (inR_true.1 c2))
          go_wp2_with (first | (go_at_call 110; refine (l01Small_any _ _).mono ?_; rintro e w2 ⟨rfl, rfl⟩) | (go_at_call 82; refine (l01Digit_any _ _).mono ?_; rintro e w2 ⟨rfl, rfl⟩))
          go_round
          case rel => exact ⟨k + 1, by omega, NmTo_snoc hkn hg, by go_num⟩
          case measure => simp [intOf]; omega
      · have hg : nameCh (bt s k) := .inl (inR_true.1 c1)
        go_wp2_with (first | (go_at_call 110; refine (l01Small_any _ _).mono ?_; rintro e w2 ⟨rfl, rfl⟩) | (go_at_call 82; refine (l01Digit_any _ _).mono ?_; rintro e w2 ⟨rfl, rfl⟩))
        go_round
        case rel => exact ⟨k + 1, by omega, NmTo_snoc hkn hg, by go_num⟩
        case measure => simp [intOf]; omega
    · go_wp2_with fail
      go_ret
      exact ⟨ret_bool (nameOk_yes ⟨by omega, by omega, inR_true.1 h3, fun j h1 h2 => hkn j (by omega) (by omega)⟩).symm, rfl⟩
end Go.Proofs.YtijbaapecehamaaDoor
