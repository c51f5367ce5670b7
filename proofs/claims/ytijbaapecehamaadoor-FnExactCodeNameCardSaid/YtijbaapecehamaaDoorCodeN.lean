/-
  CodeName of the program and of the reference: the program's table of names is a listed variable; the condition is that its cells are those names.
-/
import Derived.Test.YtijbaapecehamaaDoorScal
import Derived.Test.YtijbaapecehamaaDoorBlk
import Derived.Lib.LaidTab
namespace Go.Proofs.YtijbaapecehamaaDoor
open Go.RowKit
set_option maxHeartbeats 1600000
set_option linter.unusedVariables false

/-- An array of strings that reads as the listed texts holds them, cell for cell: element by element by the law of arrays. -/
theorem cells_of_strs {H : Type} {enc : TypeId × Value → H} {P : Program} {w : World} {base m n : Nat} {sp : Nat → Bool} {held : Bool} {t e : TypeId} {cs : List Value} {bs : List (List UInt8)} {p : List MemPlace}
    (array : P.underlying t = some (.array n e)) (str : P.underlying e = some .string) (one : P.cellsOf e = 1) (all : P.cellsOf t = n)
    (reads : DataW.trod enc P w base sp held m t cs = some (.agg (bs.map fun b => .lit (.string b)), p)) : cs = bs.map fun b => Value.string ⟨b.toArray⟩ := by
  obtain ⟨xs, k, -, ex, size, count, elem⟩ := DataW.trod_array array reads
  have same : bs.map (fun b => (DataW.lit (.string b) : DataW H)) = xs.map (·.1) := by simpa using (Prod.mk.inj ex).1
  have len : bs.length = n := by
    have := congrArg List.length same
    rwa [List.length_map, List.length_map, count] at this
  rw [all] at size
  refine List.ext_getElem (by rw [size, List.length_map, len]) fun i hi _ => ?_
  have lt : i < n := size ▸ hi
  have here := elem i lt
  rw [one, Nat.mul_one, List.take_one, List.head?_drop, List.getElem?_eq_getElem hi, List.getElem?_eq_getElem (count ▸ lt)] at here
  obtain ⟨s, cell, val, -⟩ := DataW.trod_string str here
  have at_ : (DataW.lit (.string bs[i]) : DataW H) = xs[i].1 := by
    have := congrArg (·[i]?) same
    simpa [List.getElem?_eq_getElem (len ▸ lt), List.getElem?_eq_getElem (count ▸ lt)] using this
  rw [val] at at_
  have text : bs[i] = s.data.toList := by simpa using at_
  have whole : cs[i] = .string s := by simpa using cell
  rw [whole, List.getElem_map, text]

/-- The names of the codes, as bytes. -/
def codesL : List (List UInt8) := [[111, 107], [105, 110, 118, 97, 108, 105, 100], [114, 97, 110, 103, 101], [110, 111, 116, 45, 102, 111, 117, 110, 100], [101, 120, 105, 115, 116, 115], [102, 117, 108, 108], [115, 116, 97, 116, 101], [115, 121, 110, 116, 97, 120], [102, 111, 114, 109, 97, 116], [99, 108, 97, 115, 104], [116, 105, 103, 104, 116]]
def codeNm (n : Int) : ByteArray := if 0 ≤ n ∧ n ≤ 10 then ⟨(codesL.getD n.toNat []).toArray⟩ else ⟨#[]⟩
theorem codeNm_out {n : Int} (h : n < 0 ∨ 10 < n) : codeNm n = ⟨#[]⟩ := if_neg (by omega)
/-- The table lies at block g. -/
def CodesAt (w : World) (g : Nat) : Prop := ∀ j : Nat, j < 11 → w.cell? ⟨g, j, none⟩ = some (.string (codeNm j))
theorem ret_str {a b : ByteArray} (h : a = b) : Ending.returned (.string a) = .returned (.string b) := by rw [h]
theorem impl_CodeName (n : Int) (w : World) (hc : CodesAt w 0) :
    Calls Tryd.prog 16 #[.int .i64 n] w fun e w' => e = .returned (.string (codeNm n)) ∧ w = w' := by
  rcases (show (0 ≤ n ∧ n ≤ 10) ∨ (n < 0 ∨ 10 < n) by omega) with hin | hout
  · have hb : inR n 0 10 = true := inR_yes hin
    obtain ⟨j, rfl⟩ : ∃ j : Nat, n = j := ⟨n.toNat, by omega⟩
    have hj : j < 11 := by omega
    have hcj := hc j hj
    have a1 : (j : Int) < 11 := by omega
    clear hc hin
    go_enter Tryd.func16, Tryd.ntmps16
    go_wp2_with fail
    refine (within_any _ _ _ _).mono ?_
    rintro e w1 ⟨rfl, rfl⟩
    go_wp2_with fail
    go_ret
    exact ⟨rfl, rfl⟩
  · have hb : inR n 0 10 = false := inR_no hout
    have hr := Lib.hid (codeNm_out hout)
    clear hc hout
    go_enter Tryd.func16, Tryd.ntmps16
    go_wp2_with fail
    refine (within_any _ _ _ _).mono ?_
    rintro e w1 ⟨rfl, rfl⟩
    go_wp2_with fail
    go_ret
    exact ⟨ret_str hr.out.symm, rfl⟩
theorem spec_CodeName (n : Int) (w : World) :
    Calls Tryd.prog 15 #[.int .i64 n] w fun e w' => e = .returned (.string (codeNm n)) ∧ Below w.heap.size w w' := by
  rcases (show (0 ≤ n ∧ n ≤ 10) ∨ (n < 0 ∨ 10 < n) by omega) with hin | hout
  · have hb : inR n 0 10 = true := inR_yes hin
    rcases (show n = 0 ∨ n = 1 ∨ n = 2 ∨ n = 3 ∨ n = 4 ∨ n = 5 ∨ n = 6 ∨ n = 7 ∨ n = 8 ∨ n = 9 ∨ n = 10 by omega) with rfl | rfl | rfl | rfl | rfl | rfl | rfl | rfl | rfl | rfl | rfl
    all_goals
      go_enter Tryd.func15, Tryd.ntmps15
      go_wp2_with fail
      refine (l00In_any _ _ _ _).mono ?_
      rintro e w1 ⟨rfl, rfl⟩
      go_wp2_with fail
      go_ret
      exact ⟨rfl, by go_grown⟩
  · have hb : inR n 0 10 = false := inR_no hout
    have hr := Lib.hid (codeNm_out hout)
    go_enter Tryd.func15, Tryd.ntmps15
    go_wp2_with fail
    refine (l00In_any _ _ _ _).mono ?_
    rintro e w1 ⟨rfl, rfl⟩
    go_wp2_with fail
    go_ret
    exact ⟨ret_str hr.out.symm, by go_grown⟩
end Go.Proofs.YtijbaapecehamaaDoor
