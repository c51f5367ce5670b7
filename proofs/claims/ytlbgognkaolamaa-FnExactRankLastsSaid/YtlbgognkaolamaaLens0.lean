/-
  Lengths of edges, the plain law: sums of the first elements, shares of a sum; no condition.
-/
import Derived.Test.YtlbgognkaolamaaApp
import Derived.Test.YtlbgognkaolamaaNum
namespace Go.Proofs.Ytlbgognkaolamaa
open Go.RowKit

theorem outB_all {zs : List Int} {lo hi : Int} (h : outB zs lo hi = false) : AllIn zs zs.length lo hi := by
  intro j hj
  cases hin : inR (ix zs j) lo hi
  · rw [outB_yes hj hin] at h; cases h
  · rfl
/-- The sum of the first k elements. -/
def pre (zs : List Int) : Nat → Int
  | 0 => 0
  | k + 1 => pre zs k + ix zs k
theorem pre_bd {zs : List Int} {n : Nat} {lo hi : Int} (h : AllIn zs n lo hi) : ∀ k, k ≤ n → lo * k ≤ pre zs k ∧ pre zs k ≤ hi * k
  | 0, _ => by simp [pre]
  | k + 1, hk => by
    have h1 := pre_bd h k (by omega)
    have h2 := inR_true.1 (h k (by omega))
    have e1 : lo * ((k + 1 : Nat) : Int) = lo * (k : Int) + lo := by rw [Int.natCast_add]; simp [Int.mul_add]
    have e2 : hi * ((k + 1 : Nat) : Int) = hi * (k : Int) + hi := by rw [Int.natCast_add]; simp [Int.mul_add]
    rw [e1, e2]
    show _ ≤ pre zs k + ix zs k ∧ pre zs k + ix zs k ≤ _
    omega
theorem AllIn.le {zs : List Int} {k n : Nat} {lo hi : Int} (h : AllIn zs n lo hi) (hk : k ≤ n) : AllIn zs k lo hi := fun j hj => h j (by omega)
theorem AllIn.weak {zs : List Int} {n : Nat} {lo hi lo' hi' : Int} (h : AllIn zs n lo hi) (h1 : lo' ≤ lo) (h2 : hi ≤ hi') : AllIn zs n lo' hi' := fun j hj => by
  have := inR_true.1 (h j hj)
  exact inR_yes (by omega)
def total (zs : List Int) : Int := pre zs zs.length

def lensOk (zs : List Int) : Bool := inR zs.length 1 20 && !outB zs 1 10000
theorem lensOk_bd {zs : List Int} (h : lensOk zs = true) : 1 ≤ zs.length ∧ zs.length ≤ 20 ∧ AllIn zs zs.length 1 10000 := by
  simp only [lensOk, Bool.and_eq_true, inR_true] at h
  refine ⟨by omega, by omega, outB_all (by simpa using h.2)⟩
theorem total_bd {zs : List Int} (h : lensOk zs = true) : 1 ≤ total zs ∧ total zs ≤ 200000 := by
  obtain ⟨h1, h2, h3⟩ := lensOk_bd h
  have := pre_bd h3 _ (Nat.le_refl _)
  unfold total
  omega
theorem pre_lens {zs : List Int} (h : lensOk zs = true) {k : Nat} (hk : k ≤ zs.length) : 0 ≤ pre zs k ∧ pre zs k ≤ 200000 := by
  obtain ⟨h1, h2, h3⟩ := lensOk_bd h
  have := pre_bd h3 k hk
  omega
theorem rnd_zero {d : Int} (hd : 1 ≤ d) : rnd 0 d = 0 := by
  unfold rnd
  apply Int.ediv_eq_zero_of_lt <;> omega
/-- The share of element k, of a sum in shares of the lengths. -/
def shareAt (zs : List Int) (sum : Int) (k : Nat) : List Int := [rnd (sum * pre zs (k + 1)) (total zs) - rnd (sum * pre zs k) (total zs)]
def shares (zs : List Int) (sum : Int) : List Int := accL (shareAt zs sum) zs.length
def scaleAt (zs : List Int) (num den : Int) (k : Nat) : List Int := [rnd (ix zs k * num) den]
def scaled (zs : List Int) (num den : Int) : List Int := accL (scaleAt zs num den) zs.length
theorem shares_len (zs : List Int) (sum : Int) : (shares zs sum).length = zs.length := by
  have : ∀ k, (accL (shareAt zs sum) k).length = k := fun k => by
    induction k with
    | zero => rfl
    | succ k ih => show (accL _ k ++ [_]).length = _; rw [List.length_append, ih]; rfl
  exact this _
end Go.Proofs.Ytlbgognkaolamaa
