/-
  Lengths of edges: shares, scaling, for the program and for the reference; for every slice that reads as the given list.
-/
import Derived.Test.YtgkkfofjaealoaaLens0
namespace Go.Proofs.Ytgkkfofjaealoaa
open Go.RowKit
set_option maxHeartbeats 400000

def gradeLens (zs : List Int) (sum : Int) : List Int × Int := if lensOk zs = false then ([], 2) else if inR sum 1 1000000 = false then ([], 2) else (shares zs sum, 0)
def scaleLens (zs : List Int) (num den : Int) : List Int × Int := if lensOk zs = false then ([], 2) else if inR num 1 1000 = false then ([], 2) else if inR den 1 1000 = false then ([], 2) else (scaled zs num den, 0)
theorem gradeLens_len (zs : List Int) (sum : Int) : (gradeLens zs sum).1.length ≤ 1048577 := by
  unfold gradeLens
  split
  · simp
  split
  · simp
  · rename_i h _
    have := lensOk_bd (by simpa using h)
    show (shares zs sum).length ≤ _
    rw [shares_len]; omega
theorem scaleLens_len (zs : List Int) (num den : Int) : (scaleLens zs num den).1.length ≤ 1048577 := by
  unfold scaleLens
  split
  · simp
  split
  · simp
  split
  · simp
  · rename_i h _ _
    have := lensOk_bd (by simpa using h)
    have h2 := accL_len (g := scaleAt zs num den) (fun k => by simp [scaleAt]) zs.length
    show (accL _ zs.length).length ≤ _
    omega
theorem sumOf_any (A : Option Addr) (n c : Nat) (zs : List Int) (w : World) (h : Rd w 1 A n (ints zs)) (hn : n ≤ 1048576) (ha : AllIn zs zs.length 0 1000000) :
    Calls Try.prog 81 #[.slice A n c] w fun e w' => e = .returned (.int .i64 (total zs)) ∧ w = w' := by
  have hlen := Lib.hid h.len
  go_enter Try.func81, Try.ntmps81
  go_wp2_with fail
  go_loop [3, 8] (fun p i => ∃ k : Nat, k ≤ n ∧ i = .int .i64 k ∧ p = .int .i64 (pre zs k)) (fun _ i => n - (intOf i).toNat)
  case atStart => exact ⟨0, by omega, rfl, rfl⟩
  case round =>
    obtain ⟨k, hk, rfl, rfl⟩ := hrel
    by_cases hlt : k < n
    · obtain ⟨b, off, rfl, hb, hcell⟩ := h.int hlt
      obtain ⟨p1, p2⟩ := pre_bd ha k (by rw [hlen.out]; omega)
      obtain ⟨q1, q2⟩ := inR_true.1 (ha k (by rw [hlen.out]; exact hlt))
      have p3 : 0 ≤ pre zs k := by omega
      have p4 : pre zs k ≤ 1000000000000000 := by omega
      clear p1 p2
      go_wp2_with fail
      go_round
      case rel => exact ⟨k + 1, by omega, by go_num, rfl⟩
      case measure => simp [intOf]; omega
    · obtain rfl : k = n := by omega
      go_wp2_with fail
      go_ret
      exact ⟨ret_int (by unfold total; rw [hlen.out]), rfl⟩
def ratioOk (zs : List Int) (num den : Int) : Bool := lensOk zs && inR num 1 1000 && inR den 1 1000
def ratioC (zs : List Int) (num den : Int) : Int := if ratioOk zs num den = false then 2 else 0
theorem ratioOk_bd {zs : List Int} {num den : Int} (h : ratioOk zs num den = true) : lensOk zs = true ∧ (1 ≤ num ∧ num ≤ 1000) ∧ (1 ≤ den ∧ den ≤ 1000) := by
  simp only [ratioOk, Bool.and_eq_true, inR_true] at h
  exact ⟨h.1.1, h.1.2, h.2⟩
theorem scaleLens_no {zs : List Int} {num den : Int} (h : ratioOk zs num den = false) : scaleLens zs num den = ([], 2) := by
  unfold scaleLens
  unfold ratioOk at h
  cases h1 : lensOk zs <;> cases h2 : inR num 1 1000 <;> cases h3 : inR den 1 1000 <;> simp_all
theorem scaleLens_yes {zs : List Int} {num den : Int} (h : ratioOk zs num den = true) : scaleLens zs num den = (scaled zs num den, 0) := by
  unfold scaleLens
  simp only [ratioOk, Bool.and_eq_true] at h
  simp [h.1.1, h.1.2, h.2]
end Go.Proofs.Ytgkkfofjaealoaa
