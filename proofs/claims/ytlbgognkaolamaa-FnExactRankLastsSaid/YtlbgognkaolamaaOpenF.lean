/-
  How a fit that comes in is opened; no condition but that it reads.
-/
import Derived.Test.YtlbgognkaolamaaOpen
import Derived.Test.YtlbgognkaolamaaInts
set_option maxRecDepth 100000
namespace Go.Proofs.Ytlbgognkaolamaa
open Go.ChangeShapes Go.WideShapes Go.ChangeAt Go.RowKit Go.Joins Go.Deep
section
variable {H : Type} {enc : TypeId × Value → H} {w : World} {base : Nat} {held : Bool}
theorem ints_field {m : Nat} {v : Value} {y : DataW H × List MemPlace} (h : DataW.trod enc Try.prog w base (fun _ => true) held m 48 [v] = some y) :
    ∃ (A : Option Addr) (n c : Nat) (zs : List Int), v = .slice A n c ∧ Rd w 1 A n (ints zs) ∧ n ≤ 9223372036854775807 := by
  rcases open_ints Try.underlying48 Try.underlying2 (by kernel_rfl) h with ⟨hcs, _⟩ | ⟨x, l, cc, zs, hcs, _, hl, hm, hz, _, hcell, hwz⟩
  · simp at hcs
    exact ⟨none, 0, 0, [], hcs, Rd.none_, by decide⟩
  · simp at hcs
    simp only [if_true] at hz
    have hm' : cc ≤ 9223372036854775807 := by unfold maxLen at hm; exact hm
    refine ⟨_, _, _, zs.take l, hcs, ⟨by simp [ints, hz]; omega, fun hn => ?_⟩, by omega⟩
    obtain ⟨b, off, rfl, hc⟩ := ints_at hcell (by omega)
    refine ⟨b, off, rfl, ?_, fun j u hu => ?_⟩
    · have h0 := hc 0 (by omega)
      exact World.block_lt_of_cell? w ⟨b, off + 0, none⟩ h0
    · unfold ints at hu
      rw [List.getElem?_map] at hu
      have hj : j < l := by
        rcases Nat.lt_or_ge j l with hlt | hge
        · exact hlt
        · rw [List.getElem?_eq_none (by simp; omega)] at hu; simp at hu
      rw [List.getElem?_take_of_lt hj, List.getElem?_eq_getElem (by omega)] at hu
      simp at hu
      rw [hc j (by omega), ← hu, List.getD_eq_getElem?_getD, List.getElem?_eq_getElem (by omega)]
      rfl
theorem open_Fit {b0 : Nat} {v : Value} {d : DataW H} {p : List MemPlace} (hv : Value.okWide Try.prog w .any b0 50 v) (h : DataW.Trod enc Try.prog w base (fun _ => true) held 50 v d p) :
    ∃ (a b c : Int) (A : Option Addr) (n m : Nat) (zs : List Int), v = .agg #[.int .i64 a, .int .i64 b, .int .i64 c, .slice A n m] ∧ Rd w 1 A n (ints zs) ∧ n ≤ 9223372036854775807 := by
  obtain ⟨v0, v1, v2, v3, y0, y1, y2, y3, m, rfl, _, _, h0, h1, h2, h3⟩ := open_agg4 Try.underlying50 (by kernel_rfl) (by kernel_rfl) hv h
  obtain ⟨a, rfl, ia⟩ := int_field h0
  obtain ⟨b, rfl, ib⟩ := int_field h1
  obtain ⟨c, rfl, ic⟩ := int_field h2
  obtain ⟨A, n, cc, zs, rfl, hr, hn⟩ := ints_field h3
  exact ⟨a, b, c, A, n, cc, zs, rfl, hr, hn⟩
end
end Go.Proofs.Ytlbgognkaolamaa
