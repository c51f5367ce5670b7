/-
  slices.Insert of one last into a row of the caller's own, ahead of an element: the road in place, where there is room.
-/
import Derived.Test.YtebghfpkgdghcaaInsP
import Derived.Shelf.Spec.SlicesInsertGrow
import Derived.Lib.Overlaps
namespace Go.Proofs.Ytebghfpkgdghcaa
open Go.RowKit
set_option maxHeartbeats 3200000
set_option linter.unusedVariables false

set_option maxRecDepth 100000 in
theorem Insert_room (lo b n c i vb : Nat) (xs : List LastD) (x : LastD) (w : World) (h : w.ownsRow lo 31 6 (.slice (some ⟨b, 0, none⟩) n c) n (lasts xs)) (hv : Blk w vb 31 #[.string x.s, .int .i64 x.l, .int .i64 x.b, .int .i64 x.i, .int .i64 x.h, .int .i64 x.p]) (hvb : vb ≠ b) (hn : n ≤ 30) (hi : i < n) (hroom : n + 1 ≤ c) :
    Calls Try.prog 19 #[.slice (some ⟨b, 0, none⟩) n c, .int .i64 i, .slice (some ⟨vb, 0, none⟩) 1 1] w fun e w' => e = .returned (.slice (some ⟨b, 0, none⟩) (n + 1) c) ∧ w'.ownsRow lo 31 6 (.slice (some ⟨b, 0, none⟩) (n + 1) c) (n + 1) (lasts (insL xs i x)) ∧ w.grownBy w' (some b) := by
  have hx6 : x.cells.length = 6 := rfl
  have hL : (lasts xs).length = n * 6 := h.1
  obtain ⟨i0, hi0, hz0, hzs, hzb⟩ := info_parts lasts_info
  have hsz : (Try.prog.info? 31).map (·.size) = some 6 := by rw [hi0]; simp [hzs]
  obtain ⟨cur, hlob, hcur, hc63, hcs, hct⟩ : ∃ cur : Array Value, lo ≤ b ∧ w.heap[b]? = some (.cells cur 31 (0, 0)) ∧ c ≤ maxLen ∧ cur.size = c * 6 ∧ cur.toList.take (n * 6) = lasts xs := by
    rcases h.2 with ⟨h1, _⟩ | ⟨g, cap, cur, h1, h2, h3, h4, h5, h6, h7⟩
    · cases h1
    · cases h1; exact ⟨cur, h2, h3, h5, h6, h7⟩
  obtain ⟨R1, hR1⟩ : ∃ R1 : Array Value, R1 = (cur.toList.take ((i + 1) * 6) ++ (lasts xs).drop (i * 6) ++ cur.toList.drop ((i + 1) * 6 + ((lasts xs).drop (i * 6)).length)).toArray := ⟨_, rfl⟩
  obtain ⟨R2, hR2⟩ : ∃ R2 : Array Value, R2 = (R1.toList.take (i * 6) ++ x.cells ++ R1.toList.drop (i * 6 + x.cells.length)).toArray := ⟨_, rfl⟩
  have hone : ∀ v ∈ x.cells, v.oneCell' = true := fun v hv => by
    simp only [LastD.cells, List.mem_cons, List.not_mem_nil, or_false] at hv
    rcases hv with rfl | rfl | rfl | rfl | rfl | rfl <;> rfl
  have hones : ∀ v ∈ (lasts xs).drop (i * 6), v.oneCell' = true := fun v hv => by
    have hv := List.mem_of_mem_drop hv
    simp only [lasts, List.mem_flatMap] at hv
    obtain ⟨y, _, hv⟩ := hv
    simp only [LastD.cells, List.mem_cons, List.not_mem_nil, or_false] at hv
    rcases hv with rfl | rfl | rfl | rfl | rfl | rfl <;> rfl
  have hR1s : R1.size = c * 6 := by
    rw [hR1]; simp only [List.size_toArray, List.length_append, List.length_take, List.length_drop, Array.length_toList, hcs, hL]; omega
  have hR2s : R2.size = c * 6 := by
    rw [hR2]; simp only [List.size_toArray, List.length_append, List.length_take, List.length_drop, Array.length_toList, hR1s, hx6]; omega
  have cp1 : ∀ ty dc sc, (Builtin.copy_ #[27, 27] ty #[.slice (some ⟨b, (i + 1) * 6, none⟩) (n - i) dc, .slice (some ⟨b, i * 6, none⟩) (n + 1 - i) sc]).run Try.prog w.drew = .ok (goInt ((n - i : Nat) : Int)) ((w.drew.setRow b R1)) := fun ty dc sc => by
    rw [hR1]
    exact run_copy_rowK w.drew 27 27 ty 31 b ((i + 1) * 6) (n - i) dc ⟨b, i * 6, none⟩ (n + 1 - i) sc cur _ ((lasts xs).drop (i * 6)) 6 (n - i) Try.underlying27 hsz hcur (by simp only [Nat.min_def]; split <;> omega) (by rw [List.length_drop, hL]; omega) (fun j v hj => by
      rw [Addr.add_lit]
      exact ownL_drop h i j v (by rw [lasts_drop]; exact hj)) (by rw [List.length_drop, hL, hcs]; omega) hones
  have hH1 : ((w.drew.setRow b R1)).heap[b]? = some (.cells R1 31 (0, 0)) := setRow_heap _ _ cur _ _ _ hcur
  have hV1 : ∀ j v, x.cells[j]? = some v → ((w.drew.setRow b R1)).cell? ⟨vb, 0 + j, none⟩ = some v := fun j v hj => by
    have e1 : Blk (w.drew.setRow b R1) vb 31 #[.string x.s, .int .i64 x.l, .int .i64 x.b, .int .i64 x.i, .int .i64 x.h, .int .i64 x.p] := (setRow_other _ _ _ _ hvb).trans hv
    rw [Nat.zero_add, e1.cell j]
    simpa [LastD.cells] using hj
  have cp2 : ∀ ty dc, (Builtin.copy_ #[27, 27] ty #[.slice (some ⟨b, i * 6, none⟩) (n + 1 - i) dc, .slice (some ⟨vb, 0, none⟩) 1 1]).run Try.prog ((w.drew.setRow b R1)) = .ok (goInt 1) (((w.drew.setRow b R1)).setRow b R2) := fun ty dc => by
    rw [hR2]
    exact run_copy_rowK ((w.drew.setRow b R1)) _ _ ty 31 b (i * 6) (n + 1 - i) dc ⟨vb, 0, none⟩ 1 1 R1 _ x.cells 6 1 Try.underlying27 hsz hH1 (by simp only [Nat.min_def]; split <;> omega) hx6 (fun j v hj => by rw [Addr.add_lit]; exact hV1 j v hj) (by rw [hx6, hR1s]; omega) hone
  have hR2t : R2.toList.take ((n + 1) * 6) = lasts (insL xs i x) := by
    rw [hR2, hR1]
    exact ins_cells (by have := lasts_len xs; omega) (by omega) (by rw [Array.length_toList, hcs]; omega) hct
  have hfin := Lib.hid (show Ending.returned (.slice (some ⟨b, 0, none⟩) (n + 1) c) = .returned (.slice (some ⟨b, 0, none⟩) (n + 1) c) ∧ (((w.drew.setRow b R1)).setRow b R2).ownsRow lo 31 6 (.slice (some ⟨b, 0, none⟩) (n + 1) c) (n + 1) (lasts (insL xs i x)) ∧ w.grownBy (((w.drew.setRow b R1)).setRow b R2) (some b) from by
    refine ⟨rfl, ⟨by rw [lasts_len, insL_len]; have := lasts_len xs; omega, .inr ⟨_, _, R2, rfl, hlob, setRow_heap _ _ R1 _ _ _ hH1, hroom, hc63, hR2s, hR2t⟩⟩, rfl, rfl, rfl, ?_, fun k hk hne => ?_⟩
    · simp [World.setRow]
    · have hkb : k ≠ b := fun e => hne (by rw [e])
      exact (setRow_other _ _ _ _ hkb).trans (setRow_other _ _ _ _ hkb))
  have hsa : w.shape? vb = some (31, 6) := by
    unfold World.shape?; rw [show w.heap[vb]? = _ from hv]; rfl
  have hsb : w.shape? b = some (31, c * 6) := by
    unfold World.shape?; rw [hcur]; simp only [hcs]
  have hov : ∀ lb cb, (callFunc 34 #[.slice (some ⟨vb, 0, none⟩) 1 1, .slice (some ⟨b, (i + 1) * 6, none⟩) lb cb]).run Try.prog w = .ok (.value (.bool false)) w := fun lb cb => by
    rw [run_callFunc_extern Try.func34 (by kernel_rfl) (by kernel_rfl) (by kernel_rfl) (e := Extern.SlicesOverlaps.overlaps #[27, 27] #[4]) (by kernel_rfl),
      Lib.run_overlaps_apart w 27 4 31 Try.underlying27 6 (fun w => by simp [sizeOf, typeInfo, hi0, hzs]) ⟨vb, 0, none⟩ ⟨b, (i + 1) * 6, none⟩ 1 1 lb cb hvb 31 31 6 (c * 6) hsa hsb (by omega) (hv.frozen 0) (hv.frozen 6)]
    rfl
  have hw1 : IntKind.i64.wrap ((i : Int) + 1) = (i : Int) + 1 := IntWalk.i64_in _ (by omega)
  have hb1 : (0 : Int) ≤ (i : Int) + 1 := by omega
  have hin : i ≤ n := by omega
  have hz2 : ¬ ((i : Int) = (n : Int)) := by omega
  have hz3 : ¬ ((c : Int) < (n : Int) + 1) := by omega
  have htn : ((i : Int) + 1).toNat = i + 1 := by omega
  have hb2 : ¬ (c = i + 1) := by omega
  have hb3 : (i : Int) ≤ (n : Int) + 1 := by omega
  have hb4 : ¬ (c = i) := by omega
  have hc63' : c ≤ 9223372036854775807 := by unfold maxLen at hc63; omega
  clear hR1s hone hones hR2s hR2t hR1 hR2 hH1 hV1 h hv hsa hsb hcs hct hcur
  have mixed : Try.prog.follows .mixedOrders = true := by kernel_rfl
  go_enter Try.func19, Try.ntmps19
  go_wp2_with (simp only [hov])
  go_region_law_o (refine step_copy_runI rfl _ _ 27 27 rfl _ _ (by simp [Act.eval, Act.put]) (by simp [Act.eval, Act.put]) (cp1 _ _ _) ?_)
  go_wp2_with (at_builtin; refine wpList_copy_runI _ rfl _ _ 27 27 rfl _ _ rfl rfl (cp2 _ _) ?_)
  go_ret
  exact ⟨rfl, hfin.out.2⟩
end Go.Proofs.Ytebghfpkgdghcaa
