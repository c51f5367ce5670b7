/-
  slices.Insert of one last into a row of the caller's own, or into the nil slice: all roads.
-/
import Derived.Test.YtebghfpkgdghcaaIns
import Derived.Test.YtebghfpkgdghcaaInsG
import Derived.Test.YtebghfpkgdghcaaInsR
namespace Go.Proofs.Ytebghfpkgdghcaa
open Go.RowKit
set_option maxHeartbeats 3200000
set_option linter.unusedVariables false

theorem insL_end (xs : List LastD) (x : LastD) : insL xs xs.length x = xs ++ [x] := by
  unfold insL
  rw [List.take_of_length_le (Nat.le_refl _), List.drop_of_length_le (Nat.le_refl _)]; simp
theorem Insert_any (lo b n c i vb : Nat) (xs : List LastD) (x : LastD) (w : World) (h : w.ownsRow lo 31 6 (.slice (some ⟨b, 0, none⟩) n c) n (lasts xs)) (hlo : lo ≤ w.heap.size) (hv : Blk w vb 31 #[.string x.s, .int .i64 x.l, .int .i64 x.b, .int .i64 x.i, .int .i64 x.h, .int .i64 x.p]) (hvb : vb ≠ b) (hn : n ≤ 30) (hi : i ≤ n) :
    Calls Try.prog 19 #[.slice (some ⟨b, 0, none⟩) n c, .int .i64 i, .slice (some ⟨vb, 0, none⟩) 1 1] w fun e w' => ∃ g c', e = .returned (.slice (some ⟨g, 0, none⟩) (n + 1) c') ∧ w'.ownsRow lo 31 6 (.slice (some ⟨g, 0, none⟩) (n + 1) c') (n + 1) (lasts (insL xs i x)) ∧ Below lo w w' := by
  rcases Nat.lt_or_ge i n with hin | hin
  · rcases Nat.lt_or_ge c (n + 1) with hr | hr
    · refine (Insert_grow lo b n c i vb xs x w h hv hn hin hr).mono ?_
      rintro e w' ⟨g, c', rfl, ho, hb⟩
      exact ⟨g, c', rfl, ownsRow_le' ho hlo, hb.mono hlo⟩
    · refine (Insert_room lo b n c i vb xs x w h hv hvb hn hin hr).mono ?_
      rintro e w' ⟨rfl, ho, hg⟩
      exact ⟨b, c, rfl, ho, app_below h (Below.refl lo w) (Nat.le_refl _) hlo hg⟩
  · obtain rfl : i = n := by omega
    have hl : xs.length = i := by have := h.1; rw [lasts_len] at this; omega
    refine (Insert_end lo b i c vb xs x w h hlo hv hn).mono ?_
    rintro e w' ⟨g, c', rfl, ho, hg⟩
    refine ⟨g, c', rfl, ?_, app_below h (Below.refl lo w) (Nat.le_refl _) hlo hg⟩
    rw [← hl] at ho ⊢
    rw [insL_end]; exact ho
set_option maxRecDepth 100000 in
theorem Insert_nil (lo vb : Nat) (x : LastD) (w : World) (hlo : lo ≤ w.heap.size) (hv : Blk w vb 31 #[.string x.s, .int .i64 x.l, .int .i64 x.b, .int .i64 x.i, .int .i64 x.h, .int .i64 x.p]) :
    Calls Try.prog 19 #[.slice none 0 0, .int .i64 0, .slice (some ⟨vb, 0, none⟩) 1 1] w fun e w' => ∃ g c', e = .returned (.slice (some ⟨g, 0, none⟩) 1 c') ∧ w'.ownsRow lo 31 6 (.slice (some ⟨g, 0, none⟩) 1 c') 1 (lasts [x]) ∧ Below lo w w' := by
  have hR := Lib.hid (fun j u (hu : (lasts [x])[j]? = some u) => (show w.cell? ((⟨vb, 0, none⟩ : Addr).add j) = some u from by
    rw [Addr.add_lit, Nat.zero_add, hv.cell j]
    simpa [lasts, LastD.cells] using hu))
  have h1 := Lib.hid (fun u (hu : u ∈ lasts [x]) => (show u.oneCell' = true from by
    simp only [lasts, List.mem_flatMap] at hu
    obtain ⟨y, _, hu⟩ := hu
    simp only [LastD.cells, List.mem_cons, List.not_mem_nil, or_false] at hu
    rcases hu with rfl | rfl | rfl | rfl | rfl | rfl <;> rfl))
  obtain ⟨i0, hi, hz0, hz1, hz2⟩ := info_parts lasts_info
  have hown : w.ownsRow lo 31 6 (.slice none 0 0) 0 [] := World.ownsRow_nil w lo _ 6
  clear hv
  go_enter Try.func19, Try.ntmps19
  go_wp2_with (at_builtin; refine wpList_append_own _ rfl _ _ 27 rfl lo 31 i0 _ 6 56 Try.underlying27 hi hz0 hz1 hz2 rfl (by decide) _ _ _ rfl hown ⟨vb, 0, none⟩ 1 1 (lasts [x]) rfl rfl hR.out h1.out (by decide) (by decide) hlo ?_; intro v' w' ho hg hnn)
  have hb := app_below hown (Below.refl lo w) (Nat.le_refl _) hlo hg
  rcases ho.2 with ⟨h0, h0'⟩ | ⟨g, cap, cur, hv', _⟩
  · omega
  · subst hv'
    simp only [Nat.zero_add, List.nil_append] at ho ⊢
    go_wp2_with fail
    go_ret
    exact ⟨g, cap, rfl, ho, hb⟩
end Go.Proofs.Ytebghfpkgdghcaa
