/-
  slices.Insert of one last into a row of the caller's own, ahead of an element: the road that makes a new row, for want of room.
-/
import Derived.Test.YtebghfpkgdghcaaInsP
import Derived.Shelf.Spec.SlicesInsertGrow
namespace Go.Proofs.Ytebghfpkgdghcaa
open Go.RowKit
set_option maxHeartbeats 3200000
set_option linter.unusedVariables false

set_option maxRecDepth 100000 in
theorem Insert_grow (lo b n c i vb : Nat) (xs : List LastD) (x : LastD) (w : World) (h : w.ownsRow lo 31 6 (.slice (some ⟨b, 0, none⟩) n c) n (lasts xs)) (hv : Blk w vb 31 #[.string x.s, .int .i64 x.l, .int .i64 x.b, .int .i64 x.i, .int .i64 x.h, .int .i64 x.p]) (hn : n ≤ 30) (hi : i < n) (hroom : c < n + 1) :
    Calls Try.prog 19 #[.slice (some ⟨b, 0, none⟩) n c, .int .i64 i, .slice (some ⟨vb, 0, none⟩) 1 1] w fun e w' => ∃ g c', e = .returned (.slice (some ⟨g, 0, none⟩) (n + 1) c') ∧ w'.ownsRow w.heap.size 31 6 (.slice (some ⟨g, 0, none⟩) (n + 1) c') (n + 1) (lasts (insL xs i x)) ∧ Below w.heap.size w w' := by
  have hx6 : x.cells.length = 6 := rfl
  have hL : (lasts xs).length = n * 6 := h.1
  obtain ⟨hlob, hbw, hnc⟩ : lo ≤ b ∧ b < w.heap.size ∧ n ≤ c := by
    rcases own_cases h with ⟨h1, _, _⟩ | ⟨g, h1, h2, h2', h3⟩
    · cases h1
    · cases h1; exact ⟨h2, h2', h3⟩
  have hvw := hv.lt
  obtain ⟨i0, hi0, hz0, hzs, hzb⟩ := info_parts lasts_info
  have hsz : (Try.prog.info? 31).map (·.size) = some 6 := by rw [hi0]; simp [hzs]
  have hik : i + (n + 1 - i) = n + 1 := by omega
  have hold : (Builtin.firstCells i0.size i (.slice (some ⟨b, 0, none⟩) i c)).run Try.prog w.drew = .ok ((lasts xs).take (i * 6)).toArray w.drew := by
    rw [hzs]
    exact run_firstCells_some w.drew 6 i ⟨b, 0, none⟩ i c _ (by rw [List.length_take, hL]; omega) (fun j v hj => by
      rw [Addr.add_lit]
      rw [← lasts_take] at hj
      exact ownL_take h i j v hj)
  obtain ⟨Z, hZ⟩ : ∃ Z : Value, Z = .agg #[.string { data := #[] }, .int .i64 0, .int .i64 0, .int .i64 0, .int .i64 0, .int .i64 0] := ⟨_, rfl⟩
  rw [← hZ] at hz0
  obtain ⟨G, hG⟩ : ∃ G, G = grownCap w (n + 1) c 31 := ⟨_, rfl⟩
  obtain ⟨ROW, hROW⟩ : ∃ ROW : Array Value, ROW = ((lasts xs).take (i * 6)).toArray ++ Builtin.zeroCells Z.cells (n + 1 - i) ++ Builtin.zeroCells Z.cells (G - (n + 1)) := ⟨_, rfl⟩
  have hrz : ∀ ty, (Builtin.append_ #[27, 3] ty #[.slice (some ⟨b, 0, none⟩) i c, .int .i64 ((n : Int) + 1 - (i : Int))]).run Try.prog w = .ok (.slice (some ⟨w.heap.size, 0, none⟩) (n + 1) G) (w.drew.alloc (.cells ROW 31)) := fun ty => by
    have hh := Lib.run_append_grow_zeros w 27 3 ty 31 i0 _ .i64 .i64 Try.underlying27 Try.underlying3 hi0 hz0 (some ⟨b, 0, none⟩) i c _ hold (n + 1 - i) (by omega) (by omega) (by omega) (by omega) (by rw [hzb]; omega) (by rw [hzb, hik]; exact growslice_fits hroom (by omega))
    rw [hik, ← hG, ← hROW] at hh
    rw [show (n : Int) + 1 - (i : Int) = ((n + 1 - i : Nat) : Int) by omega]
    exact hh
  have hGn : n + 1 ≤ G := by rw [hG]; exact grownCap_ge w _ _ _
  have hRs : ROW.size = G * 6 := by
    rw [hROW, hZ]
    simp [Builtin.zeroCells, Value.cells, hL]
    omega
  have hRt : ROW.toList.take (i * 6) = (lasts xs).take (i * 6) := by
    rw [hROW]
    simp only [Array.toList_append, List.append_assoc]
    rw [List.take_append_of_le_length (by rw [List.length_take, hL]; omega), List.take_of_length_le (by rw [List.length_take, hL]; omega)]
  obtain ⟨R1, hR1⟩ : ∃ R1 : Array Value, R1 = (ROW.toList.take (i * 6) ++ x.cells ++ ROW.toList.drop (i * 6 + x.cells.length)).toArray := ⟨_, rfl⟩
  obtain ⟨R2, hR2⟩ : ∃ R2 : Array Value, R2 = (R1.toList.take ((i + 1) * 6) ++ (lasts xs).drop (i * 6) ++ R1.toList.drop ((i + 1) * 6 + ((lasts xs).drop (i * 6)).length)).toArray := ⟨_, rfl⟩
  have hone : ∀ v ∈ x.cells, v.oneCell' = true := fun v hv => by
    simp only [LastD.cells, List.mem_cons, List.not_mem_nil, or_false] at hv
    rcases hv with rfl | rfl | rfl | rfl | rfl | rfl <;> rfl
  have hones : ∀ v ∈ (lasts xs).drop (i * 6), v.oneCell' = true := fun v hv => by
    have hv := List.mem_of_mem_drop hv
    simp only [lasts, List.mem_flatMap] at hv
    obtain ⟨y, _, hv⟩ := hv
    simp only [LastD.cells, List.mem_cons, List.not_mem_nil, or_false] at hv
    rcases hv with rfl | rfl | rfl | rfl | rfl | rfl <;> rfl
  have hR1s : R1.size = G * 6 := by
    rw [hR1]; simp only [List.size_toArray, List.length_append, List.length_take, List.length_drop, hx6, Array.length_toList, hRs]; omega
  have cpA : ∀ (W : World), W.heap[w.heap.size]? = some (.cells ROW 31 (0, 0)) → (∀ j v, x.cells[j]? = some v → W.cell? ⟨vb, 0 + j, none⟩ = some v) → ∀ ty dc, (Builtin.copy_ #[27, 27] ty #[.slice (some ⟨w.heap.size, i * 6, none⟩) (n + 1 - i) dc, .slice (some ⟨vb, 0, none⟩) 1 1]).run Try.prog W = .ok (goInt 1) (W.setRow w.heap.size R1) := fun W h1 h2 ty dc => by
    rw [hR1]
    exact run_copy_rowK W _ _ ty 31 w.heap.size (i * 6) (n + 1 - i) dc ⟨vb, 0, none⟩ 1 1 ROW _ x.cells 6 1 Try.underlying27 hsz h1 (by simp only [Nat.min_def]; split <;> omega) hx6 (fun j v hj => by rw [Addr.add_lit]; exact h2 j v hj) (by rw [hx6, hRs]; omega) hone
  have cpB : ∀ (W : World), W.heap[w.heap.size]? = some (.cells R1 31 (0, 0)) → (∀ j v, ((lasts xs).drop (i * 6))[j]? = some v → W.cell? ⟨b, i * 6 + j, none⟩ = some v) → ∀ ty dc sc, (Builtin.copy_ #[27, 27] ty #[.slice (some ⟨w.heap.size, (i + 1) * 6, none⟩) (n - i) dc, .slice (some ⟨b, i * 6, none⟩) (n - i) sc]).run Try.prog W = .ok (goInt ((n - i : Nat) : Int)) (W.setRow w.heap.size R2) := fun W h1 h2 ty dc sc => by
    rw [hR2]
    have hh := run_copy_rowK W 27 27 ty 31 w.heap.size ((i + 1) * 6) (n - i) dc ⟨b, i * 6, none⟩ (n - i) sc R1 _ ((lasts xs).drop (i * 6)) 6 (n - i) Try.underlying27 hsz h1 (by simp only [Nat.min_def]; split <;> omega) (by rw [List.length_drop, hL]; omega) (fun j v hj => by rw [Addr.add_lit]; exact h2 j v hj) (by rw [List.length_drop, hL, hR1s]; omega) hones
    exact hh
  have hGm : G ≤ maxLen := by
    rw [hG]; exact grownCap_le_maxLen w (n + 1) c 31 (by unfold maxLen; omega)
  have hH1 : ((w.alloc (.cells ROW 31)).drew).heap[w.heap.size]? = some (.cells ROW 31 (0, 0)) := heap_alloc_new w.drew _
  have hV1 : ∀ j v, x.cells[j]? = some v → ((w.alloc (.cells ROW 31)).drew).cell? ⟨vb, 0 + j, none⟩ = some v := fun j v hj => by
    rw [Nat.zero_add, (hv.alloc (.cells ROW 31)).drew.cell j]
    simpa [LastD.cells] using hj
  have hH2 : (((w.alloc (.cells ROW 31)).drew).setRow w.heap.size R1).drew.heap[w.heap.size]? = some (.cells R1 31 (0, 0)) := setRow_heap _ _ ROW _ _ _ hH1
  have hkeep : ∀ k, k < w.heap.size → ((((w.alloc (.cells ROW 31)).drew).setRow w.heap.size R1).drew.setRow w.heap.size R2).heap[k]? = w.heap[k]? := fun k hk => by
    rw [setRow_other _ _ _ _ (by omega)]
    exact (setRow_other _ _ _ _ (by omega)).trans (heap_alloc_old w.drew _ hk)
  have hB2 : ∀ j v, ((lasts xs).drop (i * 6))[j]? = some v → (((w.alloc (.cells ROW 31)).drew).setRow w.heap.size R1).drew.cell? ⟨b, i * 6 + j, none⟩ = some v := fun j v hj => by
    have e1 : (((w.alloc (.cells ROW 31)).drew).setRow w.heap.size R1).drew.heap[b]? = w.heap[b]? := (setRow_other _ _ _ _ (by omega)).trans (heap_alloc_old w.drew _ hbw)
    have e2 := ownL_drop h i j v (by rw [lasts_drop]; exact hj)
    unfold World.cell? at e2 ⊢
    simp only at e2 ⊢
    rw [e1]; exact e2
  have hR2s : R2.size = G * 6 := by
    rw [hR2]; simp only [List.size_toArray, List.length_append, List.length_take, List.length_drop, Array.length_toList, hR1s, hL]; omega
  have hR2t : R2.toList.take ((n + 1) * 6) = lasts (insL xs i x) := by
    rw [hR2, hR1]
    exact ins_cells2 (by have := lasts_len xs; omega) (by omega) hRt
  have hfin := Lib.hid (show ∃ g c', Ending.returned (.slice (some ⟨w.heap.size, 0, none⟩) (n + 1) G) = .returned (.slice (some ⟨g, 0, none⟩) (n + 1) c') ∧ ((((w.alloc (.cells ROW 31)).drew).setRow w.heap.size R1).drew.setRow w.heap.size R2).ownsRow w.heap.size 31 6 (.slice (some ⟨g, 0, none⟩) (n + 1) c') (n + 1) (lasts (insL xs i x)) ∧ Below w.heap.size w ((((w.alloc (.cells ROW 31)).drew).setRow w.heap.size R1).drew.setRow w.heap.size R2) from by
    refine ⟨_, _, rfl, ⟨by rw [lasts_len, insL_len]; have := lasts_len xs; omega, .inr ⟨_, _, R2, rfl, Nat.le_refl _, setRow_heap _ _ R1 _ _ _ hH2, hGn, hGm, hR2s, hR2t⟩⟩, rfl, rfl, rfl, ?_, hkeep⟩
    simp [World.setRow])
  have hGi : ¬ (G = i) := by omega
  have hGim : ¬ (G = i + 1) := by omega
  have hci : ¬ (c = i) := by omega
  have hw1 : IntKind.i64.wrap ((i : Int) + 1) = (i : Int) + 1 := IntWalk.i64_in _ (by omega)
  have hb1 : (0 : Int) ≤ (i : Int) + 1 := by omega
  have hin : i ≤ n := by omega
  have hz2 : ¬ ((i : Int) = (n : Int)) := by omega
  have hz3 : (c : Int) < (n : Int) + 1 := by omega
  have htn : ((i : Int) + 1).toNat = i + 1 := by omega
  have hb3 : (i : Int) ≤ (n : Int) := by omega
  have hic : i ≤ c := by omega
  have hG63 : G ≤ 9223372036854775807 := by unfold maxLen at hGm; omega
  have cpA' := fun ty dc => cpA _ hH1 hV1 ty dc
  have cpB' := fun ty dc sc => cpB _ hH2 hB2 ty dc sc
  clear hold hROW hRs hRt hR1s hone hones hkeep hR2s hR2t hR1 hR2 cpA cpB hH1 hV1 hH2 hB2 h hv
  have mixed : Try.prog.follows .mixedOrders = true := by kernel_rfl
  go_enter Try.func19, Try.ntmps19
  go_wp2_with (first
    | (at_builtin; refine Lib.wpList_append_run _ rfl _ _ _ _ rfl _ _ rfl rfl _ _ (hrz _) ?_)
    | (at_builtin; refine wpList_copy_runI _ rfl _ _ 27 27 rfl _ _ rfl rfl (cpA' _ _) ?_))
  go_region_law_o (refine step_copy_runI rfl _ _ 27 27 rfl (.slice (some ⟨w.heap.size, (i + 1) * 6, none⟩) (n - i) (G - (i + 1))) (.slice (some ⟨b, i * 6, none⟩) (n - i) (c - i)) (by simp [Act.eval, Act.put, ← hG, hGim]) (by simp [Act.eval, Act.put]) (cpB' _ _ _) ?_)
  go_wp2
  go_ret
  subst hG
  exact hfin.out
end Go.Proofs.Ytebghfpkgdghcaa
