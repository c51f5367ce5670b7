/-
  slices.DeleteFunc at the predicate of JoinFeet; the row lies behind the boxes that the predicate holds.
-/
import Derived.Test.YtlbgognkaolamaaJoin
import Derived.Test.YtlbgognkaolamaaClear
namespace Go.Proofs.Ytlbgognkaolamaa
open Go.RowKit
set_option maxHeartbeats 1600000

theorem Blk.belowB {w w' : World} {B g : Nat} {t : TypeId} {cs : Array Value} (h : Blk w g t cs) (hg : g < B) (hb : Below B w w') : Blk w' g t cs := (hb.block g hg).trans h
theorem Held.belowB {w w' : World} {B bm bk : Nat} {y : FootD} {most : Int} (h : Held w bm bk y most) (h1 : bm < B) (h2 : bk < B) (hb : Below B w w') : Held w' bm bk y most := ⟨h.1.belowB h1 hb, h.2.belowB h2 hb⟩
/-- The feet that are near. -/
def isNear (y : FootD) (most : Int) (x : FootD) : Bool := !farB (four x) (four y) most
def nearL (xs : List FootD) (y : FootD) (most : Int) : List FootD := xs.filter (isNear y most)
/-- The first i of zs are the near ones of the first j of xs; what lies behind j is as it was. -/
def Kept (xs zs : List FootD) (y : FootD) (most : Int) (i j : Nat) : Prop := zs.take i = nearL (xs.take j) y most ∧ ∀ k, j ≤ k → feetAt zs k = feetAt xs k
theorem feetAt_set_ne {zs : List FootD} {i k : Nat} {x : FootD} (h : i ≠ k) : feetAt (zs.set i x) k = feetAt zs k := by
  unfold feetAt; rw [List.getD_eq_getElem?_getD, List.getD_eq_getElem?_getD, List.getElem?_set_ne h]
theorem take_snoc {xs : List FootD} {j : Nat} (h : j < xs.length) : xs.take (j + 1) = xs.take j ++ [feetAt xs j] := by
  rw [← feet_eq h, List.take_append_getElem h]
theorem Kept.first {xs : List FootD} {y : FootD} {most : Int} {k : Nat} (hk : k < xs.length) (h : ∀ j, j < k → farB (four (feetAt xs j)) (four y) most = false) (hf : farB (four (feetAt xs k)) (four y) most = true) : Kept xs xs y most k (k + 1) := by
  refine ⟨?_, fun _ _ => rfl⟩
  unfold nearL
  rw [take_snoc hk, List.filter_append]
  have h1 : (xs.take k).filter (isNear y most) = xs.take k := List.filter_eq_self.2 fun x hx => by
    obtain ⟨j, hj, e⟩ := List.getElem_of_mem hx
    rw [List.length_take] at hj
    rw [List.getElem_take] at e
    rw [feet_eq (by omega)] at e
    unfold isNear
    rw [← e, h j (by omega)]; rfl
  rw [h1]
  simp [isNear, hf]
theorem Kept.keep {xs zs : List FootD} {y : FootD} {most : Int} {i j : Nat} (h : Kept xs zs y most i j) (hj : j < xs.length) (hi : i < zs.length) (hij : i < j) (hf : farB (four (feetAt xs j)) (four y) most = false) : Kept xs (zs.set i (feetAt zs j)) y most (i + 1) (j + 1) := by
  refine ⟨?_, fun k hk => by rw [feetAt_set_ne (by omega)]; exact h.2 k (by omega)⟩
  rw [take_snoc (by rw [List.length_set]; exact hi), take_snoc hj]
  unfold nearL
  rw [List.filter_append, List.take_set_of_le (Nat.le_refl i), h.1]
  have e : feetAt (zs.set i (feetAt zs j)) i = feetAt xs j := by
    rw [← h.2 j (Nat.le_refl _), ← feet_eq (by rw [List.length_set]; exact hi), List.getElem_set_self]
  rw [e]
  simp [nearL, isNear, hf]
theorem Kept.skip {xs zs : List FootD} {y : FootD} {most : Int} {i j : Nat} (h : Kept xs zs y most i j) (hj : j < xs.length) (hf : farB (four (feetAt xs j)) (four y) most = true) : Kept xs zs y most i (j + 1) := by
  refine ⟨?_, fun k hk => h.2 k (by omega)⟩
  rw [take_snoc hj]
  unfold nearL
  rw [List.filter_append, h.1]
  simp [nearL, isNear, hf]
theorem near_all {xs : List FootD} {y : FootD} {most : Int} (h : ∀ j, j < xs.length → farB (four (feetAt xs j)) (four y) most = false) : nearL xs y most = xs := List.filter_eq_self.2 fun x hx => by
  obtain ⟨j, hj, e⟩ := List.getElem_of_mem hx
  rw [feet_eq hj] at e
  unfold isNear
  rw [← e, h j hj]; rfl
theorem retS {A : Option Addr} {m m' c : Nat} (h : m' = m) : Ending.returned (.slice A m c) = .returned (.slice A m' c) := by rw [h]
/-- The first i elements of a row, as a slice. -/
theorem front_of {w : World} {g n i : Nat} {zs : List FootD} (h : Rd w 4 (some ⟨g, 0, none⟩) n (feet zs)) (hn : zs.length = n) (hi : i ≤ n) (h0 : 0 < n) : Rd w 4 (some ⟨g, 0, none⟩) i (feet (zs.take i)) := by
  have hp : feet zs = feet (zs.take i) ++ feet (zs.drop i) := by rw [← feet_append, List.take_append_drop]
  have hl : (feet (zs.take i)).length = i * 4 := by rw [feet_len, List.length_take]; congr 1; omega
  refine ⟨hl, fun hi0 => ?_⟩
  obtain ⟨b, off, e, hlt, hc⟩ := h.2 h0
  refine ⟨b, off, e, hlt, fun j u hu => hc j u ?_⟩
  rw [hp, List.getElem?_append_left ?_]
  · exact hu
  · rcases Nat.lt_or_ge j (feet (zs.take i)).length with hh | hh
    · exact hh
    · rw [List.getElem?_eq_none hh] at hu; cases hu
set_option maxRecDepth 100000 in
theorem DeleteFunc_far (base g n c : Nat) (xs : List FootD) (y : FootD) (most : Int) (bm bk : Nat) (w : World) (ho : w.ownsRow base 25 4 (.slice (some ⟨g, 0, none⟩) n c) n (feet xs)) (hn : n ≤ 30) (hn0 : 0 < n) (hc0 : n ≤ c) (hc1 : c ≤ maxLen) (hg : base ≤ g) (hbase : base ≤ w.heap.size) (hy : Held w bm bk y most) (hbm : bm < base) (hbk : bk < base) (kx : xs.all fOk = true) (ky : fOk y = true) :
    Calls Try.prog 58 #[.slice (some ⟨g, 0, none⟩) n c, .func (.func 60) #[] #[.pointer (some ⟨bm, 0, none⟩), .pointer (some ⟨bk, 0, none⟩)]] w fun e w' => ∃ c', e = .returned (.slice (some ⟨g, 0, none⟩) (nearL xs y most).length c') ∧ Rd w' 4 (some ⟨g, 0, none⟩) (nearL xs y most).length (feet (nearL xs y most)) ∧ Below base w w' := by
  have hlen := Lib.hid (own_feet_len ho)
  unfold maxLen at hc1
  have kx' := Lib.hid kx
  have ky' := Lib.hid ky
  clear kx ky
  go_enter Try.func58, Try.ntmps58
  go_wp2_with fail
  refine (IndexFunc_far _ _ _ _ _ _ _ _ _ (Rd.of_own ho) (by omega) hy kx'.out ky'.out).mono ?_
  rintro e w1 ⟨⟨r, rfl, ⟨rfl, hall⟩ | ⟨k, hk, rfl, hfk, hall⟩⟩, hb1⟩
  · have hr := Lib.hid (near_all (xs := xs) (y := y) (most := most) (fun j hj => hall j (by rw [hlen.out] at hj; exact hj)))
    have ho1 := own_below ho hb1
    go_wp2_with fail
    go_ret
    exact ⟨c, retS (by rw [hr.out, hlen.out]), by rw [hr.out, hlen.out]; exact Rd.of_own ho1, hb1.mono hbase⟩
  have hk1 := Lib.hid (Kept.first (xs := xs) (y := y) (most := most) (k := k) (by rw [hlen.out]; exact hk) hall hfk)
  have ho1 := own_below ho hb1
  have HW := hb1.mono hbase
  have hne : ((k : Int) == -1) = false := by rw [beq_eq_false_iff_ne]; omega
  clear hfk hall hb1 ho
  go_wp2_with fail
  go_loopw [5, 6] (fun p q wr => ∃ (i j : Nat) (zs : List FootD), i < j ∧ j ≤ n ∧ p = .int .i64 i ∧ q = .int .i64 j ∧ wr.ownsRow base 25 4 (.slice (some ⟨g, 0, none⟩) n c) n (feet zs) ∧ Hid (Kept xs zs y most i j) ∧ Below base w wr) (fun _ q _ => n - (intOf q).toNat)
  case atStart => exact ⟨k, k + 1, xs, by omega, by omega, rfl, by go_num, ho1, hk1, HW⟩
  case round =>
    clear ho1 HW
    obtain ⟨i, j, zs, hij, hjn, rfl, rfl, ho, hK, HB⟩ := hrel
    have hzl := Lib.hid (own_feet_len ho)
    by_cases hlt : j < n
    · have hh := hy.belowB hbm hbk HB
      have hsz : base ≤ wr.heap.size := Nat.le_trans hbase HB.size
      have hok := Lib.hid (show fOk (feetAt zs j) = true by rw [hK.out.2 j (Nat.le_refl _)]; exact at_ok kx'.out (by rw [hlen.out]; exact hlt))
      obtain ⟨b, off, e0, hb, h0, h1, h2, h3⟩ := (Rd.of_own ho).feet hlt
      simp only [Option.some.injEq, Addr.mk.injEq, and_true] at e0
      obtain ⟨rfl, rfl⟩ := e0
      simp only [Nat.zero_add] at h0 h1 h2 h3
      have HB1 := HB.alloc hsz (.cells #[.int .i64 (feetAt zs j).l, .int .i64 (feetAt zs j).b, .int .i64 (feetAt zs j).i, .int .i64 (feetAt zs j).h] 25)
      have hh1 := hh.below ((Below.refl wr.heap.size wr).alloc (Nat.le_refl _) (.cells #[.int .i64 (feetAt zs j).l, .int .i64 (feetAt zs j).b, .int .i64 (feetAt zs j).i, .int .i64 (feetAt zs j).h] 25))
      have ho1 := ho.alloc (.cells #[.int .i64 (feetAt zs j).l, .int .i64 (feetAt zs j).b, .int .i64 (feetAt zs j).i, .int .i64 (feetAt zs j).h] 25)
      have BX := Blk.new wr 25 #[.int .i64 (feetAt zs j).l, .int .i64 (feetAt zs j).b, .int .i64 (feetAt zs j).i, .int .i64 (feetAt zs j).h]
      cases hf : farB (four (feetAt zs j)) (four y) most
      · have hf' := Lib.hid hf
        have hK2 := Lib.hid (hK.out.keep (by rw [hlen.out]; exact hlt) (by rw [hzl.out]; omega) hij (by rw [← hK.out.2 j (Nat.le_refl _)]; exact hf))
        go_wp2_with fail
        refine (joinPred_any _ _ _ _ _ _ hh1 hok.out ky'.out).mono ?_
        rintro e w2 ⟨rfl, hb2⟩
        have HB2 := Below.trans HB1 (hb2.mono (by simp; omega))
        have ho2 := own_below ho1 hb2
        have BX2 := BX.below hb2
        have x0 := BX2.cell 0
        have x1 := BX2.cell 1
        have x2 := BX2.cell 2
        have x3 := BX2.cell 3
        have i0 := ho2.cellAt (i * 4) (by omega)
        have i1 := ho2.cellAt (i * 4 + 1) (by omega)
        have i2 := ho2.cellAt (i * 4 + 2) (by omega)
        have i3 := ho2.cellAt (i * 4 + 3) (by omega)
        rw [feet_get0 (by rw [hzl.out]; omega)] at i0
        rw [feet_get1 (by rw [hzl.out]; omega)] at i1
        rw [feet_get2 (by rw [hzl.out]; omega)] at i2
        rw [feet_get3 (by rw [hzl.out]; omega)] at i3
        have hfr := ho2.frozenAt
        clear BX HB1 ho1 hh1 h0 h1 h2 h3
        go_wp2_with fail
        go_roundw
        case rel =>
          have hst := feet_stored (k := i) (feetAt zs j) ho2 (by omega)
          exact ⟨i + 1, j + 1, _, by omega, by omega, by go_num, by go_num, hst.1, hK2, (((HB2.setCell hg _).setCell hg _).setCell hg _).setCell hg _⟩
        case measure => simp [intOf]; omega
      · have hf' := Lib.hid hf
        have hK2 := Lib.hid (hK.out.skip (by rw [hlen.out]; exact hlt) (by rw [← hK.out.2 j (Nat.le_refl _)]; exact hf))
        go_wp2_with fail
        refine (joinPred_any _ _ _ _ _ _ hh1 hok.out ky'.out).mono ?_
        rintro e w2 ⟨rfl, hb2⟩
        have HB2 := Below.trans HB1 (hb2.mono (by simp; omega))
        have ho2 := own_below ho1 hb2
        clear BX HB1 ho1 hh1 h0 h1 h2 h3
        go_wp2_with fail
        go_roundw
        case rel => exact ⟨i, j + 1, zs, by omega, by omega, rfl, by go_num, ho2, hK2, HB2⟩
        case measure => simp [intOf]; omega
    · obtain rfl : j = n := by omega
      have hR := Rd.of_own ho
      have hfr := ho.frozenAt
      have hcell : ∀ q, q < (j - i) * 4 → (wr.cell? ⟨g, i * 4 + q, none⟩).isSome = true := fun q hq => by
        have := ho.cellAt (i * 4 + q) (by omega)
        rw [this, List.getElem?_eq_getElem (by rw [feet_len, hzl.out]; omega)]; rfl
      have hcl : ∀ ty, (Builtin.clear_ #[28] ty #[.slice (some ⟨g, i * 4, none⟩) (j - i) (c - i)]).run Try.prog wr = .ok (.tuple #[]) (wr.setCells g (i * 4) (List.replicate ((j - i) * 4) (.int .i64 0))) := fun ty =>
        run_clear_four wr _ _ ty _ (.int .i64 0) Try.underlying28 Try.zeroValue25 rfl rfl g (i * 4) _ _ (by omega) hcell (fun q _ => hfr _)
      have hfin := Lib.hid (show nearL xs y most = zs.take i by rw [hK.out.1, ← hlen.out, List.take_length])
      have hil := Lib.hid (show (zs.take i).length = i by rw [List.length_take, hzl.out]; omega)
      clear hcell hfr
      go_wp2_with fail
      go_ret
      refine ⟨_, retS (by rw [hfin.out, hil.out]), ?_, below_setCellsV hg _ _ _ HB⟩
      rw [hfin.out, hil.out]
      have hF := front_of hR hzl.out (i := i) (by omega) (by omega)
      refine ⟨hF.1, fun h0 => ?_⟩
      obtain ⟨b, off, e, hlt', hc⟩ := hF.2 h0
      simp only [Option.some.injEq, Addr.mk.injEq, and_true] at e
      obtain ⟨rfl, rfl⟩ := e
      refine ⟨_, _, rfl, Nat.lt_of_lt_of_le hlt' (below_setCellsV (B := 0) (Nat.zero_le _) _ _ wr (Below.refl 0 wr)).size, fun q u hu => ?_⟩
      have hq : q < i * 4 := by
        rcases Nat.lt_or_ge q (i * 4) with hh | hh
        · exact hh
        · rw [List.getElem?_eq_none (by rw [feet_len, hil.out]; exact hh)] at hu; cases hu
      rw [World.cell?_setCells_out _ _ _ _ _ (fun _ _ => .inl (by simpa using hq))]
      exact hc q u hu
section
variable {ops : Array Oper} {rest : List Oper} {o : Oper} {a : Act} {Q : Exit → Act → World → Prop}
/-- 'append(out, xs...)': a whole slice of feet. -/
theorem wpList_cat_feet (W : World) (hg : o.guard = none) (s x' : Operand) (ho : o.op = .call { callee := .builtin .append, args := #[s, x'], argTypes := #[28, 28] })
    (base : Nat) (A : Option Addr) (n c : Nat) (xs : List FootD) (hs : a.eval s = .slice A n c) (hown : W.ownsRow base 25 4 (.slice A n c) n (feet xs))
    (b off m c2 : Nat) (ys : List FootD) (hx : a.eval x' = .slice (some ⟨b, off, none⟩) m c2) (hl : ys.length = m) (hR : ∀ j u, (feet ys)[j]? = some u → W.cell? ⟨b, off + j, none⟩ = some u) (hbase : base ≤ W.heap.size) (hm : 0 < m) (hn : n + m ≤ 1048577)
    (h : ∀ A' c' w', w'.ownsRow base 25 4 (.slice A' (n + m) c') (n + m) (feet (xs ++ ys)) → W.grownBy w' (Value.slice A n c).ownBlock → wpList Try.prog ops Q rest (a.put o.dst (.slice A' (n + m) c')) w') :
    wpList Try.prog ops Q (o :: rest) a W := by
  obtain ⟨i0, hi, hz0, hz1, hz2⟩ := info_parts feet_info
  refine wpList_append_own _ hg s x' 28 ho base 25 i0 _ 4 32 Try.underlying28 hi hz0 hz1 hz2 rfl (by decide) _ _ _ hs hown ⟨b, off, none⟩ m c2 (feet ys) hx (by rw [feet_len, hl]) ?_ ?_ ?_ ?_ hbase ?_
  · intro j u hu
    rw [Addr.add_lit]
    exact hR j u hu
  · intro u hu
    simp only [feet, List.mem_flatMap] at hu
    obtain ⟨x, hx1, hx2⟩ := hu
    simp only [FootD.cells, List.mem_cons, List.not_mem_nil, or_false] at hx2
    rcases hx2 with rfl | rfl | rfl | rfl <;> rfl
  · unfold maxLen; omega
  · omega
  · intro v' w' hown' hg' _
    have hex : ∃ A' c', v' = .slice A' (n + m) c' := by
      rcases hown'.2 with ⟨_, h0⟩ | ⟨g, cap, cur, hv, _⟩
      · omega
      · exact ⟨_, _, hv⟩
    obtain ⟨A', c', hv⟩ := hex
    rw [hv] at hown' ⊢
    refine h A' c' w' ?_ hg'
    rw [feet_append]
    exact hown'
end
set_option maxRecDepth 100000 in
theorem Clone_feet (A : Option Addr) (n c : Nat) (xs : List FootD) (w : World) (h : Rd w 4 A n (feet xs)) (hn0 : 0 < n) (hn : n ≤ 30) :
    Calls Try.prog 59 #[.slice A n c] w (RetSl 25 4 n (feet xs) w) := by
  have hlen := Lib.hid h.feet_length
  obtain ⟨b, off, rfl, hlt, hc⟩ := (h.alloc (.cells #[] 25)).2 hn0
  have hc' := Lib.hid hc
  have oo := own_lit (W := w) (cs := #[]) (e := 25) (size := 4) (n := 0) (xs := feet []) rfl (Nat.le_refl w.heap.size) (by decide) rfl rfl
  have HM := Bl.alloc (Below.refl w.heap.size w) (.cells #[] 25)
  have hnil := fun (w : World) => Lib.run_eql_slice_nil (P := Try.prog) w 28 _ (some ⟨b, off, none⟩) n c 0 0 Try.underlying28
  clear hc
  go_enter Try.func59, Try.ntmps59
  go_wp2_with (at_builtin; refine wpList_cat_feet _ rfl _ _ rfl w.heap.size _ 0 0 [] rfl oo b off n c xs rfl hlen.out hc'.out (by simp) hn0 (by omega) ?_; intro A2 c2 w2 ho2 hg2)
  go_ret
  rw [Nat.zero_add] at ho2
  exact ⟨A2, c2, retS (by omega), ho2, app_below oo HM (Nat.le_refl _) HM.size hg2⟩
end Go.Proofs.Ytlbgognkaolamaa
