/-
  JoinFeet of the program: the predicate and slices.IndexFunc at it; the condition of a slice argument is that it reads as the given list.
-/
import Derived.Test.YtlbgognkaolamaaFar
namespace Go.Proofs.Ytlbgognkaolamaa
open Go.RowKit
set_option maxHeartbeats 1600000

/-- The two boxes that the predicate holds. -/
def Held (w : World) (bm bk : Nat) (y : FootD) (most : Int) : Prop := Blk w bm 25 #[.int .i64 y.l, .int .i64 y.b, .int .i64 y.i, .int .i64 y.h] ∧ Blk w bk 2 #[.int .i64 most]
theorem Held.below {w w' : World} {bm bk : Nat} {y : FootD} {most : Int} (h : Held w bm bk y most) (hb : Below w.heap.size w w') : Held w' bm bk y most := ⟨h.1.below hb, h.2.below hb⟩
theorem joinPred_any (x y : FootD) (most : Int) (bm bk : Nat) (w : World) (h : Held w bm bk y most) (k1 : fOk x = true) (k2 : fOk y = true) :
    Calls Try.prog 60 #[.agg #[.int .i64 x.l, .int .i64 x.b, .int .i64 x.i, .int .i64 x.h], .pointer (some ⟨bm, 0, none⟩), .pointer (some ⟨bk, 0, none⟩)] w fun e w' => e = .returned (.bool (farB (four x) (four y) most)) ∧ Below w.heap.size w w' := by
  have c0 : w.cell? ⟨bm, 0, none⟩ = some (.int .i64 y.l) := h.1.cell 0
  have c1 : w.cell? ⟨bm, 1, none⟩ = some (.int .i64 y.b) := h.1.cell 1
  have c2 : w.cell? ⟨bm, 2, none⟩ = some (.int .i64 y.i) := h.1.cell 2
  have c3 : w.cell? ⟨bm, 3, none⟩ = some (.int .i64 y.h) := h.1.cell 3
  have c4 : w.cell? ⟨bk, 0, none⟩ = some (.int .i64 most) := h.2.cell 0
  have l1 := h.1.lt
  have l2 := h.2.lt
  have d1 : bm ≠ w.heap.size := by omega
  have d2 : bk ≠ w.heap.size := by omega
  have k1' := Lib.hid (show footOk x.l x.b x.i x.h = true from k1)
  have k2' := Lib.hid (show footOk y.l y.b y.i y.h = true from k2)
  clear h k1 k2
  go_enter Try.func60, Try.ntmps60
  go_wp2_with fail
  refine (isFar_any _ _ _ _ _ _ _ _ _ _ k1'.out k2'.out).mono ?_
  rintro e w1 ⟨rfl, hb1⟩
  go_wp2_with fail
  go_ret
  exact ⟨rfl, Bl.then (by go_grown) hb1⟩
/-- Where the first foot lies that is far. -/
def FirstFar (p : Nat → Bool) (n : Nat) (e : Ending) : Prop := ∃ r : Int, e = .returned (.int .i64 r) ∧ ((r = -1 ∧ ∀ j, j < n → p j = false) ∨ ∃ k : Nat, k < n ∧ r = k ∧ p k = true ∧ ∀ j, j < k → p j = false)
theorem IndexFunc_far (A : Option Addr) (n c : Nat) (xs : List FootD) (y : FootD) (most : Int) (bm bk : Nat) (w : World) (h : Rd w 4 A n (feet xs)) (hn : n ≤ 1048576) (hy : Held w bm bk y most) (kx : xs.all fOk = true) (ky : fOk y = true) :
    Calls Try.prog 104 #[.slice A n c, .func (.func 60) #[] #[.pointer (some ⟨bm, 0, none⟩), .pointer (some ⟨bk, 0, none⟩)]] w fun e w' => FirstFar (fun k => farB (four (feetAt xs k)) (four y) most) n e ∧ Below w.heap.size w w' := by
  have hlen := Lib.hid h.feet_length
  have kx' := Lib.hid kx
  have ky' := Lib.hid ky
  clear kx ky
  go_enter Try.func104, Try.ntmps104
  go_wp2_with fail
  go_loopw [8] (fun i wr => ∃ k : Nat, k ≤ n ∧ Hid (∀ j, j < k → farB (four (feetAt xs j)) (four y) most = false) ∧ i = .int .i64 k ∧ Below w.heap.size w wr) (fun i _ => n - (intOf i).toNat)
  case atStart => exact ⟨0, by omega, Lib.hid fun j h1 => by omega, rfl, Below.refl _ _⟩
  case round =>
    obtain ⟨k, hk, hall, rfl, HB⟩ := hrel
    by_cases hlt : k < n
    · obtain ⟨b, off, rfl, hb, h0, h1, h2, h3⟩ := (h.below HB).feet hlt
      have hok := Lib.hid (at_ok kx'.out (m := k) (by rw [hlen.out]; exact hlt))
      have hh := hy.below HB
      cases hin : farB (four (feetAt xs k)) (four y) most
      · have hin' := Lib.hid hin
        go_wp2_with fail
        refine (joinPred_any _ _ _ _ _ _ hh hok.out ky'.out).mono ?_
        rintro e w2 ⟨rfl, hb2⟩
        have HP := Bl.then HB hb2
        go_wp2_with fail
        go_roundw
        case rel => exact ⟨k + 1, by omega, Lib.hid (fun j hj => by
          by_cases e : j = k
          · subst e; exact hin'.out
          · exact hall.out j (by omega)), by go_num, HP⟩
        case measure => simp [intOf]; omega
      · have hin' := Lib.hid hin
        go_wp2_with fail
        refine (joinPred_any _ _ _ _ _ _ hh hok.out ky'.out).mono ?_
        rintro e w2 ⟨rfl, hb2⟩
        have HP := Bl.then HB hb2
        go_wp2_with fail
        go_ret
        exact ⟨⟨_, rfl, .inr ⟨k, hlt, rfl, hin'.out, hall.out⟩⟩, HP⟩
    · obtain rfl : k = n := by omega
      go_wp2_with fail
      go_ret
      exact ⟨⟨_, rfl, .inl ⟨rfl, hall.out⟩⟩, HB⟩
end Go.Proofs.Ytlbgognkaolamaa
