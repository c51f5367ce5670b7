/-
  slices.Clone of a slice of lasts: one of the caller's own rows, or nil.
-/
import Derived.Test.YtebghfpkgdghcaaAddP
import Derived.PlainAid
import Derived.Lib.OwnBridge
namespace Go.Proofs.Ytebghfpkgdghcaa
open Go.RowKit
set_option maxHeartbeats 3200000
set_option linter.unusedVariables false

set_option maxRecDepth 100000 in
theorem Clone_lasts (lo b n c : Nat) (xs : List LastD) (w : World) (h : w.ownsRow lo 31 6 (.slice (some ⟨b, 0, none⟩) n c) n (lasts xs)) (hn : n ≤ 30) :
    Calls Try.prog 20 #[.slice (some ⟨b, 0, none⟩) n c] w fun e w' => ∃ g c', e = .returned (.slice (some ⟨g, 0, none⟩) n c') ∧ w.heap.size ≤ g ∧ w'.ownsRow w.heap.size 31 6 (.slice (some ⟨g, 0, none⟩) n c') n (lasts xs) ∧ Below w.heap.size w w' := by
  have hlen := Lib.hid (Rd.of_own h).lasts_length
  have hA := h.alloc (.cells #[] 31)
  have hR := Lib.hid (fun j u (hu : (lasts xs)[j]? = some u) => (show (w.alloc (.cells #[] 31)).cell? ⟨b, 0 + j, none⟩ = some u from by
    have := ownL_take hA n j u (by rw [List.take_of_length_le (by rw [hlen.out]; exact Nat.le_refl _)]; exact hu)
    exact this))
  have oo := own_lit (W := w) (cs := #[]) (e := 31) (size := 6) (n := 0) (xs := lasts []) rfl (Nat.le_refl w.heap.size) (by decide) rfl rfl
  have HM := Bl.alloc (Below.refl w.heap.size w) (.cells #[] 31)
  have hnil := fun (w : World) => Lib.run_eql_slice_nil (P := Try.prog) w 27 _ (some ⟨b, 0, none⟩) n c 0 0 Try.underlying27
  clear h hA
  go_enter Try.func20, Try.ntmps20
  go_wp2_with (at_builtin; refine wpList_cat_lasts _ rfl _ _ rfl w.heap.size _ 0 0 [] rfl oo b 0 n c xs rfl hlen.out hR.out (by simp) (by omega) ?_; intro g2 c2 w2 hb2 hl2 ho2 hg2)
  go_ret
  simp only [Nat.zero_add, List.nil_append] at ho2 ⊢
  exact ⟨g2, c2, rfl, hb2, ho2, app_below oo HM (Nat.le_refl _) HM.size hg2⟩
theorem Clone_none (w : World) :
    Calls Try.prog 20 #[.slice none 0 0] w fun e w' => e = .returned (.slice none 0 0) ∧ w = w' := by
  have hnil := fun (w : World) => Lib.run_eql_slice_nil (P := Try.prog) w 27 _ none 0 0 0 0 Try.underlying27
  go_enter Try.func20, Try.ntmps20
  go_wp2_with fail
  go_ret
  exact ⟨rfl, rfl⟩
end Go.Proofs.Ytebghfpkgdghcaa
