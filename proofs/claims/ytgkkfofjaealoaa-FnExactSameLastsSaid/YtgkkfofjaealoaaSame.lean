/-
  SameLasts of the program and of the reference; the condition of a slice argument is that it reads as the given list.
-/
import Derived.Test.YtgkkfofjaealoaaLastW
import Derived.Laws.StructEq
namespace Go.Proofs.Ytgkkfofjaealoaa
open Go.RowKit
set_option maxHeartbeats 1600000
def eqD (x y : LastD) : Bool := x.s.toList == y.s.toList && (x.l == y.l && (x.b == y.b && (x.i == y.i && (x.h == y.h && x.p == y.p))))
theorem run_eq_last (s s' : ByteArray) (a b c d e a' b' c' d' e' : Int) (w : World) :
    (Op.equalIn 10000 38 (.agg #[.string s, .int .i64 a, .int .i64 b, .int .i64 c, .int .i64 d, .int .i64 e]) (.agg #[.string s', .int .i64 a', .int .i64 b', .int .i64 c', .int .i64 d', .int .i64 e'])).run Try.prog w = .ok (eqD ⟨s, a, b, c, d, e⟩ ⟨s', a', b', c', d', e'⟩) w := by
  have u3 := Try.underlying2
  have a3 := Try.isAgg2
  have z3 := Try.sizeOf2
  have u9 := Try.underlying9
  have a9 := Try.isAgg9
  have z9 := Try.sizeOf9
  have hS : Try.prog.underlying 38 = some (.struct (Try.prog.fieldsOf 38)) := by kernel_rfl
  rw [show (10000 : Nat) = 9999 + 1 from rfl, run_equalIn_agg w 9999 38 _ _ hS (by kernel_rfl)]
  simp only [Program.fieldsOf, Try.underlying38]
  go_simp
  unfold eqD
  by_cases h1 : s.toList = s'.toList <;> by_cases h2 : a = a' <;> by_cases h3 : b = b' <;> by_cases h4 : c = c' <;> by_cases h5 : d = d' <;> by_cases h6 : e = e' <;> simp [h1, h2, h3, h4, h5, h6]
def sameL (xs ys : List LastD) : Bool := decide (xs.length = ys.length) && (List.range xs.length).all fun j => eqD (lastsAt xs j) (lastsAt ys j)
def EqTo (xs ys : List LastD) (k : Nat) : Prop := ∀ j, j < k → eqD (lastsAt xs j) (lastsAt ys j) = true
theorem EqTo.snoc {xs ys : List LastD} {k : Nat} (h : EqTo xs ys k) (hk : eqD (lastsAt xs k) (lastsAt ys k) = true) : EqTo xs ys (k + 1) := fun j hj => by
  by_cases e : j = k
  · subst e; exact hk
  · exact h j (by omega)
theorem sameL_yes {xs ys : List LastD} (hl : xs.length = ys.length) (h : EqTo xs ys xs.length) : sameL xs ys = true := by
  have : ((List.range xs.length).all fun j => eqD (lastsAt xs j) (lastsAt ys j)) = true := by
    rw [List.all_eq_true]
    intro j hj
    exact h j (List.mem_range.1 hj)
  simp [sameL, hl]
  simpa [hl] using this
theorem sameL_no {xs ys : List LastD} {k : Nat} (hk : k < xs.length) (h : eqD (lastsAt xs k) (lastsAt ys k) = false) : sameL xs ys = false := by
  have : ((List.range xs.length).all fun j => eqD (lastsAt xs j) (lastsAt ys j)) = false := by
    rw [List.all_eq_false]
    exact ⟨k, List.mem_range.2 hk, by simp [h]⟩
  simp [sameL, this]
theorem sameL_len {xs ys : List LastD} (h : xs.length ≠ ys.length) : sameL xs ys = false := by simp [sameL, h]
set_option maxRecDepth 100000 in
theorem EqualLasts_any (A A' : Option Addr) (n c n' c' : Nat) (xs ys : List LastD) (w : World) (h : Rd w 6 A n (lasts xs)) (h' : Rd w 6 A' n' (lasts ys)) (hn : n ≤ 9223372036854775807) (hn' : n' ≤ 9223372036854775807) :
    Calls Try.prog 59 #[.slice A n c, .slice A' n' c'] w fun e w' => e = .returned (.bool (sameL xs ys)) ∧ Below w.heap.size w w' := by
  have hlen := Lib.hid h.lasts_length
  have hlen' := Lib.hid h'.lasts_length
  by_cases hl : n = n'
  · subst hl
    have hll := Lib.hid (show xs.length = ys.length by rw [hlen.out, hlen'.out])
    go_enter Try.func59, Try.ntmps59
    go_wp2_with fail
    go_loopw [13] (fun i wr => ∃ k : Nat, k ≤ n ∧ i = .int .i64 k ∧ EqTo xs ys k ∧ Below w.heap.size w wr) (fun i _ => n - (intOf i).toNat)
    case atStart => exact ⟨0, by omega, rfl, fun j hj => by omega, Below.refl _ _⟩
    case round =>
      obtain ⟨k, hk, rfl, heq, HB⟩ := hrel
      by_cases hlt : k < n
      · obtain ⟨b, off, rfl, hbl, i0, i1, i2, i3, i4, i5⟩ := (h.below HB).lasts hlt
        obtain ⟨b', off', rfl, hbl', j0, j1, j2, j3, j4, j5⟩ := (h'.below HB).lasts hlt
        have hq := run_eq_last (lastsAt xs k).s (lastsAt ys k).s (lastsAt xs k).l (lastsAt xs k).b (lastsAt xs k).i (lastsAt xs k).h (lastsAt xs k).p (lastsAt ys k).l (lastsAt ys k).b (lastsAt ys k).i (lastsAt ys k).h (lastsAt ys k).p
        cases he : eqD (lastsAt xs k) (lastsAt ys k)
        · have hr := Lib.hid (sameL_no (by rw [hlen.out]; exact hlt) he)
          have hq' : ∀ w, (Op.equalIn 10000 38 (.agg #[.string (lastsAt xs k).s, .int .i64 (lastsAt xs k).l, .int .i64 (lastsAt xs k).b, .int .i64 (lastsAt xs k).i, .int .i64 (lastsAt xs k).h, .int .i64 (lastsAt xs k).p]) (.agg #[.string (lastsAt ys k).s, .int .i64 (lastsAt ys k).l, .int .i64 (lastsAt ys k).b, .int .i64 (lastsAt ys k).i, .int .i64 (lastsAt ys k).h, .int .i64 (lastsAt ys k).p])).run Try.prog w = .ok false w := fun w => (hq w).trans (by rw [← he])
          clear hq he
          have hg := fun (x y : Operand) (p q : Array Value) (w : World) => run_eqGuard_agg (P := Try.prog) w .neq 38 x y p q (by kernel_rfl)
          go_wp2_with fail
          go_quiet (fail)
          go_wp2_with fail
          go_ret
          exact ⟨ret_bool hr.out.symm, below_drewN HB _⟩
        · have hq' : ∀ w, (Op.equalIn 10000 38 (.agg #[.string (lastsAt xs k).s, .int .i64 (lastsAt xs k).l, .int .i64 (lastsAt xs k).b, .int .i64 (lastsAt xs k).i, .int .i64 (lastsAt xs k).h, .int .i64 (lastsAt xs k).p]) (.agg #[.string (lastsAt ys k).s, .int .i64 (lastsAt ys k).l, .int .i64 (lastsAt ys k).b, .int .i64 (lastsAt ys k).i, .int .i64 (lastsAt ys k).h, .int .i64 (lastsAt ys k).p])).run Try.prog w = .ok true w := fun w => (hq w).trans (by rw [← he])
          have he' := Lib.hid he
          clear hq he
          have hg := fun (x y : Operand) (p q : Array Value) (w : World) => run_eqGuard_agg (P := Try.prog) w .neq 38 x y p q (by kernel_rfl)
          go_wp2_with fail
          go_quiet (fail)
          go_wp2_with fail
          go_roundw
          case rel => exact ⟨k + 1, by omega, by go_num, heq.snoc he'.out, below_drewN HB _⟩
          case measure => simp [intOf]; omega
      · obtain rfl : k = n := by omega
        have hr := Lib.hid (sameL_yes hll.out (fun j hj => heq j (by have := hlen.out; omega)))
        go_wp2_with fail
        go_ret
        exact ⟨ret_bool hr.out.symm, HB⟩
  · have hr := Lib.hid (sameL_len (xs := xs) (ys := ys) (by rw [hlen.out, hlen'.out]; exact hl))
    have k1 : ((n : Int) != n') = true := by rw [bne_iff_ne]; omega
    have k2 : ((n : Int) == n') = false := by rw [beq_eq_false_iff_ne]; omega
    clear hl
    go_enter Try.func59, Try.ntmps59
    go_wp2_with fail
    go_ret
    exact ⟨ret_bool hr.out.symm, Below.refl _ _⟩
set_option maxRecDepth 100000 in
theorem sSameLasts_any (A A' : Option Addr) (n c n' c' : Nat) (xs ys : List LastD) (w : World) (h : Rd w 6 A n (lasts xs)) (h' : Rd w 6 A' n' (lasts ys)) (hn : n ≤ 9223372036854775807) (hn' : n' ≤ 9223372036854775807) :
    Calls Try.prog 20 #[.slice A n c, .slice A' n' c'] w fun e w' => e = .returned (.bool (sameL xs ys)) ∧ Below w.heap.size w w' := by
  have hlen := Lib.hid h.lasts_length
  have hlen' := Lib.hid h'.lasts_length
  by_cases hl : n = n'
  · subst hl
    have hll := Lib.hid (show xs.length = ys.length by rw [hlen.out, hlen'.out])
    go_enter Try.func20, Try.ntmps20
    go_wp2_with fail
    go_loopw [5] (fun i wr => ∃ k : Nat, k ≤ n ∧ i = .int .i64 k ∧ EqTo xs ys k ∧ Below w.heap.size w wr) (fun i _ => n - (intOf i).toNat)
    case atStart => exact ⟨0, by omega, rfl, fun j hj => by omega, Below.refl _ _⟩
    case round =>
      obtain ⟨k, hk, rfl, heq, HB⟩ := hrel
      by_cases hlt : k < n
      · obtain ⟨b, off, rfl, hbl, i0, i1, i2, i3, i4, i5⟩ := (h.below HB).lasts hlt
        obtain ⟨b', off', rfl, hbl', j0, j1, j2, j3, j4, j5⟩ := (h'.below HB).lasts hlt
        have hq := run_eq_last (lastsAt xs k).s (lastsAt ys k).s (lastsAt xs k).l (lastsAt xs k).b (lastsAt xs k).i (lastsAt xs k).h (lastsAt xs k).p (lastsAt ys k).l (lastsAt ys k).b (lastsAt ys k).i (lastsAt ys k).h (lastsAt ys k).p
        cases he : eqD (lastsAt xs k) (lastsAt ys k)
        · have hr := Lib.hid (sameL_no (by rw [hlen.out]; exact hlt) he)
          have hq' : ∀ w, (Op.equalIn 10000 38 (.agg #[.string (lastsAt xs k).s, .int .i64 (lastsAt xs k).l, .int .i64 (lastsAt xs k).b, .int .i64 (lastsAt xs k).i, .int .i64 (lastsAt xs k).h, .int .i64 (lastsAt xs k).p]) (.agg #[.string (lastsAt ys k).s, .int .i64 (lastsAt ys k).l, .int .i64 (lastsAt ys k).b, .int .i64 (lastsAt ys k).i, .int .i64 (lastsAt ys k).h, .int .i64 (lastsAt ys k).p])).run Try.prog w = .ok false w := fun w => (hq w).trans (by rw [← he])
          clear hq he
          have hg := fun (x y : Operand) (p q : Array Value) (w : World) => run_eqGuard_agg (P := Try.prog) w .neq 38 x y p q (by kernel_rfl)
          go_wp2_with fail
          go_quiet (fail)
          go_wp2_with fail
          go_ret
          exact ⟨ret_bool hr.out.symm, below_drewN HB _⟩
        · have hq' : ∀ w, (Op.equalIn 10000 38 (.agg #[.string (lastsAt xs k).s, .int .i64 (lastsAt xs k).l, .int .i64 (lastsAt xs k).b, .int .i64 (lastsAt xs k).i, .int .i64 (lastsAt xs k).h, .int .i64 (lastsAt xs k).p]) (.agg #[.string (lastsAt ys k).s, .int .i64 (lastsAt ys k).l, .int .i64 (lastsAt ys k).b, .int .i64 (lastsAt ys k).i, .int .i64 (lastsAt ys k).h, .int .i64 (lastsAt ys k).p])).run Try.prog w = .ok true w := fun w => (hq w).trans (by rw [← he])
          have he' := Lib.hid he
          clear hq he
          have hg := fun (x y : Operand) (p q : Array Value) (w : World) => run_eqGuard_agg (P := Try.prog) w .neq 38 x y p q (by kernel_rfl)
          go_wp2_with fail
          go_quiet (fail)
          go_wp2_with fail
          go_roundw
          case rel => exact ⟨k + 1, by omega, by go_num, heq.snoc he'.out, below_drewN HB _⟩
          case measure => simp [intOf]; omega
      · obtain rfl : k = n := by omega
        have hr := Lib.hid (sameL_yes hll.out (fun j hj => heq j (by have := hlen.out; omega)))
        go_wp2_with fail
        go_ret
        exact ⟨ret_bool hr.out.symm, HB⟩
  · have hr := Lib.hid (sameL_len (xs := xs) (ys := ys) (by rw [hlen.out, hlen'.out]; exact hl))
    have k1 : ((n : Int) != n') = true := by rw [bne_iff_ne]; omega
    have k2 : ((n : Int) == n') = false := by rw [beq_eq_false_iff_ne]; omega
    clear hl
    go_enter Try.func20, Try.ntmps20
    go_wp2_with fail
    go_ret
    exact ⟨ret_bool hr.out.symm, Below.refl _ _⟩
theorem SameLasts_any (A A' : Option Addr) (n c n' c' : Nat) (xs ys : List LastD) (w : World) (h : Rd w 6 A n (lasts xs)) (h' : Rd w 6 A' n' (lasts ys)) (hn : n ≤ 9223372036854775807) (hn' : n' ≤ 9223372036854775807) :
    Calls Try.prog 21 #[.slice A n c, .slice A' n' c'] w fun e w' => e = .returned (.bool (sameL xs ys)) ∧ Below w.heap.size w w' := by
  go_enter Try.func21, Try.ntmps21
  go_wp2_with fail
  refine (EqualLasts_any _ _ _ _ _ _ _ _ _ h h' hn hn').mono ?_
  rintro e w2 ⟨rfl, hb2⟩
  go_wp2_with fail
  go_ret
  exact ⟨rfl, hb2⟩
end Go.Proofs.Ytgkkfofjaealoaa
