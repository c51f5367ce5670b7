/-
  Feet: measures, outside, ValidFoot of the program and of the reference; the condition of a slice argument is that it reads as the given list.
-/
import Derived.Test.YtgaahmcbfognhaaScal
namespace Go.Proofs.Ytgaahmcbfognhaa
open Go.RowKit
set_option maxHeartbeats 400000

/-- The element at a place. -/
def ix (zs : List Int) (k : Nat) : Int := zs.getD k 0
theorem ix_eq {zs : List Int} {k : Nat} (h : k < zs.length) : zs[k] = ix zs k := by unfold ix; rw [List.getD_eq_getElem?_getD, List.getElem?_eq_getElem h]; rfl
/-- Numbers as cells. -/
def ints (zs : List Int) : List Value := zs.map (Value.int .i64)
theorem ints_len (zs : List Int) : (ints zs).length = zs.length := by simp [ints]
theorem ints_get {zs : List Int} {j : Nat} (h : j < zs.length) : (ints zs)[j]? = some (.int .i64 (ix zs j)) := by
  simp [ints, List.getElem?_eq_getElem h, ix_eq h]
theorem Rd.len {w : World} {A : Option Addr} {n : Nat} {zs : List Int} (h : Rd w 1 A n (ints zs)) : zs.length = n := by have := h.1; simpa [ints] using this
/-- The cell of an element. -/
theorem Rd.int {w : World} {A : Option Addr} {n : Nat} {zs : List Int} (h : Rd w 1 A n (ints zs)) {k : Nat} (hk : k < n) :
    ∃ b off, A = some ⟨b, off, none⟩ ∧ b < w.heap.size ∧ w.cell? ⟨b, off + k, none⟩ = some (.int .i64 (ix zs k)) := by
  obtain ⟨b, off, e, hb, hc⟩ := h.2 (by omega)
  exact ⟨b, off, e, hb, hc k _ (ints_get (by rw [h.len]; exact hk))⟩

/-- What a function hands back that makes a slice: a row of its own, and what lay before lies as it did. -/
def RetSl (E : TypeId) (k n : Nat) (xs : List Value) (w : World) (e : Ending) (w' : World) : Prop :=
  ∃ A c, e = .returned (.slice A n c) ∧ w'.ownsRow w.heap.size E k (.slice A n c) n xs ∧ Below w.heap.size w w'

def outB (zs : List Int) (lo hi : Int) : Bool := zs.any fun z => !inR z lo hi
def AllIn (zs : List Int) (k : Nat) (lo hi : Int) : Prop := ∀ j, j < k → inR (ix zs j) lo hi = true
theorem AllIn.snoc {zs : List Int} {k : Nat} {lo hi : Int} (h : AllIn zs k lo hi) (hk : inR (ix zs k) lo hi = true) : AllIn zs (k + 1) lo hi := fun j hj => by
  by_cases e : j = k
  · subst e; exact hk
  · exact h j (by omega)
theorem outB_no {zs : List Int} {lo hi : Int} (h : AllIn zs zs.length lo hi) : outB zs lo hi = false := by
  unfold outB
  rw [List.any_eq_false]
  intro z hz
  obtain ⟨j, hj, rfl⟩ := List.getElem_of_mem hz
  have := h j hj
  rw [← ix_eq hj] at this
  simpa using this
theorem outB_yes {zs : List Int} {lo hi : Int} {k : Nat} (hk : k < zs.length) (h : inR (ix zs k) lo hi = false) : outB zs lo hi = true := by
  unfold outB
  rw [List.any_eq_true]
  refine ⟨zs[k], List.getElem_mem hk, ?_⟩
  rw [← ix_eq hk] at h
  simpa using h

theorem outside1_any (z lo hi : Int) (bl bh : Nat) (w : World) (hl : w.cell? ⟨bl, 0, none⟩ = some (.int .i64 lo)) (hh : w.cell? ⟨bh, 0, none⟩ = some (.int .i64 hi)) :
    Calls Try.prog 36 #[.int .i64 z, .pointer (some ⟨bl, 0, none⟩), .pointer (some ⟨bh, 0, none⟩)] w fun e w' => e = .returned (.bool (!inR z lo hi)) ∧ w = w' := by
  go_enter Try.func36, Try.ntmps36
  go_wp2_with fail
  refine (within_any _ _ _ _).mono ?_
  rintro e w' ⟨rfl, rfl⟩
  go_wp2_with fail
  go_ret
  exact ⟨rfl, rfl⟩
def FirstOut (zs : List Int) (lo hi : Int) (e : Ending) : Prop := ∃ r : Int, e = .returned (.int .i64 r) ∧ decide (0 ≤ r) = outB zs lo hi
theorem IndexFunc_out (A : Option Addr) (n c : Nat) (zs : List Int) (lo hi : Int) (bl bh : Nat) (w : World) (h : Rd w 1 A n (ints zs)) (hn : n ≤ 9223372036854775807)
    (hl : w.cell? ⟨bl, 0, none⟩ = some (.int .i64 lo)) (hh : w.cell? ⟨bh, 0, none⟩ = some (.int .i64 hi)) :
    Calls Try.prog 40 #[.slice A n c, .func (.func 36) #[] #[.pointer (some ⟨bl, 0, none⟩), .pointer (some ⟨bh, 0, none⟩)]] w fun e w' => FirstOut zs lo hi e ∧ w = w' := by
  have hlen := Lib.hid h.len
  go_enter Try.func40, Try.ntmps40
  go_wp2_with fail
  go_loop [8] (fun i => ∃ k : Nat, k ≤ n ∧ AllIn zs k lo hi ∧ i = .int .i64 k) (fun i => n - (intOf i).toNat)
  case atStart => exact ⟨0, by omega, fun j h1 => by omega, rfl⟩
  case round =>
    obtain ⟨k, hk, hall, rfl⟩ := hrel
    by_cases hlt : k < n
    · obtain ⟨b, off, rfl, hb, hcell⟩ := h.int hlt
      cases hin : inR (ix zs k) lo hi
      · have hin' := Lib.hid hin
        go_wp2_with fail
        refine (outside1_any _ _ _ _ _ _ hl hh).mono ?_
        rintro e w' ⟨rfl, rfl⟩
        go_wp2_with fail
        go_ret
        exact ⟨⟨_, rfl, by rw [outB_yes (k := k) (by rw [hlen.out]; exact hlt) hin'.out]; simp⟩, rfl⟩
      · have hin' := Lib.hid hin
        go_wp2_with fail
        refine (outside1_any _ _ _ _ _ _ hl hh).mono ?_
        rintro e w' ⟨rfl, rfl⟩
        go_wp2_with fail
        go_round
        case rel => exact ⟨k + 1, by omega, hall.snoc hin'.out, by go_num⟩
        case measure => simp [intOf]; omega
    · go_wp2_with fail
      go_ret
      exact ⟨⟨_, rfl, by rw [outB_no (fun j hj => hall j (by have := hlen.out; omega))]; rfl⟩, rfl⟩
theorem ContainsFunc_out (A : Option Addr) (n c : Nat) (zs : List Int) (lo hi : Int) (bl bh : Nat) (w : World) (h : Rd w 1 A n (ints zs)) (hn : n ≤ 9223372036854775807)
    (hl : w.cell? ⟨bl, 0, none⟩ = some (.int .i64 lo)) (hh : w.cell? ⟨bh, 0, none⟩ = some (.int .i64 hi)) :
    Calls Try.prog 35 #[.slice A n c, .func (.func 36) #[] #[.pointer (some ⟨bl, 0, none⟩), .pointer (some ⟨bh, 0, none⟩)]] w fun e w' => e = .returned (.bool (outB zs lo hi)) ∧ w = w' := by
  go_enter Try.func35, Try.ntmps35
  go_wp2_with fail
  refine (IndexFunc_out _ _ _ _ _ _ _ _ _ h hn hl hh).mono ?_
  rintro e w' ⟨⟨r, rfl, hr⟩, rfl⟩
  have hr' := Lib.hid hr
  clear hr
  go_wp2_with fail
  go_ret
  exact ⟨ret_bool hr'.out, rfl⟩
theorem outside_any (A : Option Addr) (n c : Nat) (zs : List Int) (lo hi : Int) (w : World) (h : Rd w 1 A n (ints zs)) (hn : n ≤ 9223372036854775807) :
    Calls Try.prog 27 #[.slice A n c, .int .i64 lo, .int .i64 hi] w fun e w' => e = .returned (.bool (outB zs lo hi)) ∧ Below w.heap.size w w' := by
  go_enter Try.func27, Try.ntmps27
  go_wp2_with fail
  refine (ContainsFunc_out _ _ _ _ lo hi _ _ _ ((h.alloc _).alloc _) hn ?_ ?_).mono ?_
  · simp
  · simp
  rintro e w' ⟨rfl, rfl⟩
  go_wp2_with fail
  go_ret
  refine ⟨rfl, ?_⟩
  go_grown

def footOk (a b c d : Int) : Bool := inR a 500 5000 && inR b 500 5000 && inR c 500 5000 && inR d 500 5000
theorem outB_foot (a b c d : Int) : outB [a, b, c, d] 500 5000 = !footOk a b c d := by
  simp [outB, footOk, Bool.and_assoc]
end Go.Proofs.Ytgaahmcbfognhaa
