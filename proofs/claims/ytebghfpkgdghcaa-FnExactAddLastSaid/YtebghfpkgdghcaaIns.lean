/-
  slices.Insert of one last into a row of the caller's own: the road at the end.
-/
import Derived.Test.YtebghfpkgdghcaaInsP
namespace Go.Proofs.Ytebghfpkgdghcaa
open Go.RowKit
set_option maxHeartbeats 3200000
set_option linter.unusedVariables false

set_option maxRecDepth 100000 in
theorem Insert_end (lo b n c vb : Nat) (xs : List LastD) (x : LastD) (w : World) (h : w.ownsRow lo 31 6 (.slice (some ⟨b, 0, none⟩) n c) n (lasts xs)) (hlo : lo ≤ w.heap.size) (hv : Blk w vb 31 #[.string x.s, .int .i64 x.l, .int .i64 x.b, .int .i64 x.i, .int .i64 x.h, .int .i64 x.p]) (hn : n ≤ 30) :
    Calls Try.prog 19 #[.slice (some ⟨b, 0, none⟩) n c, .int .i64 n, .slice (some ⟨vb, 0, none⟩) 1 1] w fun e w' => ∃ g c', e = .returned (.slice (some ⟨g, 0, none⟩) (n + 1) c') ∧ w'.ownsRow lo 31 6 (.slice (some ⟨g, 0, none⟩) (n + 1) c') (n + 1) (lasts (xs ++ [x])) ∧ w.grownBy w' (some b) := by
  have hR := Lib.hid (fun j u (hu : (lasts [x])[j]? = some u) => (show w.cell? ⟨vb, 0 + j, none⟩ = some u from by
    rw [Nat.zero_add, hv.cell j]
    simpa [lasts, LastD.cells] using hu))
  obtain ⟨_, hcn⟩ : lo ≤ b ∧ n ≤ c := by
    rcases own_cases h with ⟨h1, _, _⟩ | ⟨g, h1, h2, _, h3⟩
    · cases h1
    · cases h1; exact ⟨h2, h3⟩
  have a1 : (n : Int) ≤ c := by omega
  clear hv
  go_enter Try.func19, Try.ntmps19
  go_wp2_with (at_builtin; refine wpList_cat_lasts _ rfl _ _ rfl lo _ n c xs rfl h vb 0 1 1 [x] rfl rfl hR.out hlo (by omega) ?_; intro g2 c2 w2 hb2 hl2 ho2 hg2)
  all_goals go_ret
  all_goals exact ⟨g2, c2, rfl, ho2, hg2⟩
end Go.Proofs.Ytebghfpkgdghcaa
