/-
  A number in decimal: the reference's digits, and the library's by its contract. The condition of the latter: the table of powers of ten holds what the library lays.
-/
import Derived.Test.YtijbaapecehamaaDoorScal
import Derived.Test.YtijbaapecehamaaDoorBlk
import Derived.Test.YtijbaapecehamaaDoorApp
import Derived.Test.YtijbaapecehamaaDoorShelfF
import Derived.Lib.ItoaNum
import Derived.IntWalk
import Derived.Laws.IdiomStrings
namespace Go.Proofs.YtijbaapecehamaaDoor
open Go.RowKit
set_option maxHeartbeats 1600000
set_option linter.unusedVariables false

/-- The digits of a number; none for 0. -/
def decZ (u : Nat) : List UInt8 := if u = 0 then [] else Lib.decDigits u
theorem decZ_pos {u : Nat} (h : 0 < u) : decZ u = Lib.decDigits u := if_neg (by omega)
theorem decZ_step {u : Nat} (h : 0 < u) : decZ u = decZ (u / 10) ++ [UInt8.ofNat (48 + u % 10)] := by
  rw [decZ_pos h, Lib.decDigits]
  by_cases h10 : u < 10
  · rw [dif_pos h10, show u / 10 = 0 by omega, show u % 10 = u by omega]; rfl
  · rw [dif_neg h10, decZ_pos (by omega)]
theorem decZ_ne {u : Nat} (h : 0 < u) : decZ u ≠ [] := by rw [decZ_step h]; simp
def byteVs (l : List UInt8) : List Value := l.map fun b => .int .u8 (b.toNat : Int)
theorem byteVs_len (l : List UInt8) : (byteVs l).length = l.length := by simp [byteVs]
theorem byteVs_append (a b : List UInt8) : byteVs (a ++ b) = byteVs a ++ byteVs b := by simp [byteVs]
theorem u8_info : (Tryd.prog.info? 5).map (fun i => (i.zero, i.size, i.bytes)) = some (some (.int .u8 0), 1, 1) := by kernel_rfl
theorem own_bytes_at {w : World} {base g n c : Nat} {l : List UInt8} (h : w.ownsRow base 5 1 (.slice (some ⟨g, 0, none⟩) n c) n (byteVs l)) (j : Nat) (hj : j < l.length) : w.cell? ((⟨g, 0, none⟩ : Addr).add j) = some (.int .u8 (l[j].toNat : Int)) :=
  h.cells (g := g) rfl j _ (by simp [byteVs, hj])
section
variable {ops : Array Oper} {rest : List Oper} {o : Oper} {a : Act} {Q : Exit → Act → World → Prop}
/-- 'append(x, y...)' of bytes. -/
theorem wpList_cat_bytes (W : World) (hg : o.guard = none) (s x' : Operand) (ho : o.op = .call { callee := .builtin .append, args := #[s, x'], argTypes := #[86, 86] })
    (base : Nat) (A : Addr) (n c : Nat) (xs : List UInt8) (hs : a.eval s = .slice (some A) n c) (hown : W.ownsRow base 5 1 (.slice (some A) n c) n (byteVs xs))
    (b m c2 : Nat) (ys : List UInt8) (hx : a.eval x' = .slice (some ⟨b, 0, none⟩) m c2) (hl : ys.length = m) (hR : ∀ j (hj : j < ys.length), W.cell? ((⟨b, 0, none⟩ : Addr).add j) = some (.int .u8 (ys[j].toNat : Int))) (hbase : base ≤ W.heap.size) (hn : n + m ≤ 1048577)
    (h : ∀ g' c' w', w'.ownsRow base 5 1 (.slice (some ⟨g', 0, none⟩) (n + m) c') (n + m) (byteVs (xs ++ ys)) → W.grownBy w' (Value.slice (some A) n c).ownBlock → wpList Tryd.prog ops Q rest (a.put o.dst (.slice (some ⟨g', 0, none⟩) (n + m) c')) w') :
    wpList Tryd.prog ops Q (o :: rest) a W := by
  obtain ⟨i0, hi, hz0, hz1, hz2⟩ := info_parts u8_info
  refine wpList_append_own _ hg s x' 86 ho base 5 i0 _ 1 1 Tryd.underlying86 hi hz0 hz1 hz2 rfl (by decide) _ _ _ hs hown ⟨b, 0, none⟩ m c2 (byteVs ys) hx (by rw [byteVs_len, hl, Nat.mul_one]) ?_ ?_ ?_ ?_ hbase ?_
  · intro j u hu
    have hj : j < ys.length := by have := (List.getElem?_eq_some_iff.1 hu).1; rw [byteVs_len] at this; exact this
    rw [hR j hj]
    simpa [byteVs, hj] using hu
  · intro u hu
    simp only [byteVs, List.mem_map] at hu
    obtain ⟨y, _, rfl⟩ := hu
    rfl
  · unfold maxLen; omega
  · omega
  · intro v' w' hown' hg' hnn
    rcases hown'.2 with ⟨h0, _⟩ | ⟨g, cap, cur, hv, hb, hgg, _⟩
    · exact absurd (hnn.1 h0).1 (by simp)
    · rw [hv] at hown' ⊢
      exact h g cap w' (by rw [byteVs_append]; exact hown') hg'
end
theorem ten_step {u m : Nat} (h0 : 0 < u) (hm : m ≤ 20) (h : u < 10 ^ (20 - m)) : m < 20 ∧ u / 10 < 10 ^ (20 - (m + 1)) := by
  have h1 : m < 20 := by
    rcases Nat.lt_or_ge m 20 with hh | hh
    · exact hh
    · rw [show 20 - m = 0 by omega] at h; omega
  refine ⟨h1, ?_⟩
  rw [show 20 - m = (20 - (m + 1)) + 1 by omega, Nat.pow_succ] at h
  omega
theorem digit_nat (u : Nat) : ((UInt8.ofNat (48 + u % 10)).toNat : Int) = 48 + ((u % 10 : Nat) : Int) := by
  have : (48 + u % 10) < 256 := by omega
  simp [Nat.mod_eq_of_lt this]
theorem retS {a b : ByteArray} (h : a = b) : Ending.returned (.string a) = .returned (.string b) := by rw [h]
theorem itoa_zero : Lib.itoa 0 = [48] := by rw [Lib.itoa, if_neg (by omega)]; rw [Lib.decDigits]; rfl
theorem l01Dec_zero (w : World) :
    Calls Tryd.prog 57 #[.int .i64 0] w fun e w' => e = .returned (.string ⟨(Lib.itoa 0).toArray⟩) ∧ Below w.heap.size w w' := by
  have hr := Lib.hid itoa_zero
  go_enter Tryd.func57, Tryd.ntmps57
  go_wp2_with fail
  refine wp_loop_rounds 1 ?_
  rw [rounds_succ]
  go_wp2_with fail
  go_ret
  exact ⟨retS (by rw [hr.out]), by go_grown⟩
set_option maxRecDepth 100000 in
theorem l01Dec_pos (U : Nat) (h0 : 0 < U) (hU : U ≤ 9223372036854775807) (w : World) :
    Calls Tryd.prog 57 #[.int .i64 (((U : Nat) : Int))] w fun e w' => e = .returned (.string ⟨(Lib.itoa (((U : Nat) : Int))).toArray⟩) ∧ Below w.heap.size w w' := by
  have hfin := Lib.hid (show Lib.itoa (((U : Nat) : Int)) = decZ U by
    rw [decZ_pos h0]
    rw [Lib.itoa, if_neg (by omega)]; congr 1)
  have HO := own_lit (W := w) (cs := #[]) (e := 5) (size := 1) (n := 0) (xs := byteVs []) rfl (Nat.le_refl w.heap.size) (by decide) rfl rfl
  have HB : Below w.heap.size w (w.alloc (.cells #[] 5)) := Bl.alloc (Below.refl _ _) _
  have hne := Lib.hid (decZ_ne h0)
  go_enter Tryd.func57, Tryd.ntmps57
  go_wp2_with fail
  go_loopw [3, 4] (fun o k wr => ∃ (g c m u : Nat) (ds : List UInt8), o = .slice (some ⟨g, 0, none⟩) m c ∧ k = .int .i64 (((u : Nat) : Int)) ∧ u ≤ U ∧ m ≤ 20 ∧ Hid (u < 10 ^ (20 - m)) ∧ Hid (ds.length = m) ∧ Hid (decZ U = decZ u ++ ds) ∧ wr.ownsRow w.heap.size 5 1 (.slice (some ⟨g, 0, none⟩) m c) m (byteVs ds) ∧ Below w.heap.size w wr) (fun _ k _ => (intOf k).natAbs)
  case atStart => exact ⟨w.heap.size, 0, 0, U, [], rfl, rfl, Nat.le_refl _, by omega, Lib.hid (by omega), Lib.hid rfl, Lib.hid (by simp), HO, HB⟩
  case round =>
    obtain ⟨g, c, m, u, ds, rfl, rfl, hu, hm, hp, hdl, hz, ho, hb⟩ := hrel
    rcases Nat.eq_zero_or_pos u with hu0 | hu0
    · subst hu0
      have hz' : decZ U = ds := by have := hz.out; simpa [decZ] using this
      have hm0 : ¬ (m = 0) := fun e => hne.out (by rw [hz']; exact List.eq_nil_of_length_eq_zero (by rw [hdl.out, e]))
      have hcv := run_convert_bytes_back (P := Tryd.prog) wr 86 9 5 ⟨g, 0, none⟩ c ds Tryd.underlying86 Tryd.underlying5 Tryd.underlying9 (fun j hj => own_bytes_at ho j hj)
      rw [hdl.out] at hcv
      have hlt := (show ¬ (((U : Nat) : Int) < 0) by omega)
      have hcc : ¬ (9223372036854775807 < 1 + ds.length) := by have := hdl.out; omega
      go_wp2_with fail
      go_ret
      refine ⟨retS ?_, hb⟩
      rw [hfin.out, hz']
      skip
    · have h1 := ten_step hu0 hm hp.out
      have hz2 := Lib.hid (show decZ U = decZ (u / 10) ++ ([UInt8.ofNat (48 + u % 10)] ++ ds) by rw [hz.out, decZ_step hu0, List.append_assoc])
      have hdg := Lib.hid (digit_nat u)
      have oL := ownsRow_le' (own_lit (W := wr) (cs := #[.int .u8 (48 + (u : Int) % 10)]) (e := 5) (size := 1) (n := 1) (xs := byteVs [UInt8.ofNat (48 + u % 10)]) rfl (Nat.le_refl wr.heap.size) (by decide) rfl (by simp only [byteVs, List.map_cons, List.map_nil, hdg.out]; simp)) hb.size
      have HA := Bl.alloc hb (.cells #[.int .u8 (48 + (u : Int) % 10)] 5)
      have hoA := ho.alloc (.cells #[.int .u8 (48 + (u : Int) % 10)] 5)
      have hw8 : IntKind.u8.wrap (48 + (u : Int) % 10) = 48 + (u : Int) % 10 := IntWalk.u8_in _ (by omega)
      have hsg : ¬ ((u : Int) % 10 < 0) := by omega
      go_wp2_with (at_builtin; refine wpList_cat_bytes _ rfl _ _ rfl w.heap.size ⟨wr.heap.size, 0, none⟩ 1 1 [UInt8.ofNat (48 + u % 10)] rfl oL g m c ds rfl hdl.out (fun j hj => own_bytes_at hoA j hj) HA.size (by omega) ?_; intro g2 c2 w2 ho2 hg2)
      go_roundw
      case rel =>
        exact ⟨g2, c2, 1 + m, u / 10, [UInt8.ofNat (48 + u % 10)] ++ ds, rfl, by go_num, by omega, by omega, Lib.hid (by rw [Nat.add_comm 1 m]; exact h1.2), Lib.hid (by rw [List.length_append, hdl.out]; rfl), hz2, ho2, app_below oL HA (Nat.le_refl _) HA.size hg2⟩
      case measure => simp [intOf]; omega
set_option maxRecDepth 100000 in
theorem l01Dec_neg (U : Nat) (h0 : 0 < U) (hU : U ≤ 9223372036854775808) (w : World) :
    Calls Tryd.prog 57 #[.int .i64 (-((U : Nat) : Int))] w fun e w' => e = .returned (.string ⟨(Lib.itoa (-((U : Nat) : Int))).toArray⟩) ∧ Below w.heap.size w w' := by
  have hfin := Lib.hid (show Lib.itoa (-((U : Nat) : Int)) = 45 :: decZ U by
    rw [decZ_pos h0]
    rw [Lib.itoa, if_pos (by omega)]; congr 2; omega)
  have HO := own_lit (W := w) (cs := #[]) (e := 5) (size := 1) (n := 0) (xs := byteVs []) rfl (Nat.le_refl w.heap.size) (by decide) rfl rfl
  have HB : Below w.heap.size w (w.alloc (.cells #[] 5)) := Bl.alloc (Below.refl _ _) _
  have hne := Lib.hid (decZ_ne h0)
  go_enter Tryd.func57, Tryd.ntmps57
  go_wp2_with fail
  go_loopw [3, 4] (fun o k wr => ∃ (g c m u : Nat) (ds : List UInt8), o = .slice (some ⟨g, 0, none⟩) m c ∧ k = .int .i64 (-((u : Nat) : Int)) ∧ u ≤ U ∧ m ≤ 20 ∧ Hid (u < 10 ^ (20 - m)) ∧ Hid (ds.length = m) ∧ Hid (decZ U = decZ u ++ ds) ∧ wr.ownsRow w.heap.size 5 1 (.slice (some ⟨g, 0, none⟩) m c) m (byteVs ds) ∧ Below w.heap.size w wr) (fun _ k _ => (intOf k).natAbs)
  case atStart => exact ⟨w.heap.size, 0, 0, U, [], rfl, rfl, Nat.le_refl _, by omega, Lib.hid (by omega), Lib.hid rfl, Lib.hid (by simp), HO, HB⟩
  case round =>
    obtain ⟨g, c, m, u, ds, rfl, rfl, hu, hm, hp, hdl, hz, ho, hb⟩ := hrel
    rcases Nat.eq_zero_or_pos u with hu0 | hu0
    · subst hu0
      have hz' : decZ U = ds := by have := hz.out; simpa [decZ] using this
      have hm0 : ¬ (m = 0) := fun e => hne.out (by rw [hz']; exact List.eq_nil_of_length_eq_zero (by rw [hdl.out, e]))
      have hcv := run_convert_bytes_back (P := Tryd.prog) wr 86 9 5 ⟨g, 0, none⟩ c ds Tryd.underlying86 Tryd.underlying5 Tryd.underlying9 (fun j hj => own_bytes_at ho j hj)
      rw [hdl.out] at hcv
      have hlt := (show -((U : Nat) : Int) < 0 by omega)
      have hcc : ¬ (9223372036854775807 < 1 + ds.length) := by have := hdl.out; omega
      go_wp2_with fail
      go_ret
      refine ⟨retS ?_, hb⟩
      rw [hfin.out, hz']
      first | rfl | simp [ByteArray.append]
    · have h1 := ten_step hu0 hm hp.out
      have hz2 := Lib.hid (show decZ U = decZ (u / 10) ++ ([UInt8.ofNat (48 + u % 10)] ++ ds) by rw [hz.out, decZ_step hu0, List.append_assoc])
      have hdg := Lib.hid (digit_nat u)
      have oL := ownsRow_le' (own_lit (W := wr) (cs := #[.int .u8 (48 + (u : Int) % 10)]) (e := 5) (size := 1) (n := 1) (xs := byteVs [UInt8.ofNat (48 + u % 10)]) rfl (Nat.le_refl wr.heap.size) (by decide) rfl (by simp only [byteVs, List.map_cons, List.map_nil, hdg.out]; simp)) hb.size
      have HA := Bl.alloc hb (.cells #[.int .u8 (48 + (u : Int) % 10)] 5)
      have hoA := ho.alloc (.cells #[.int .u8 (48 + (u : Int) % 10)] 5)
      have hq1 : Int.tdiv (-(u : Int)) 10 = -((u / 10 : Nat) : Int) := by rw [Int.neg_tdiv]; rfl
      have hr1 : Int.tmod (-(u : Int)) 10 = -((u : Int) % 10) := by rw [Int.neg_tmod]; rfl
      have hne0 : ¬ (-(u : Int) = 0) := by omega
      rcases Nat.eq_zero_or_pos (u % 10) with h9 | h9
      · have hw8 : IntKind.u8.wrap (48 + (u : Int) % 10) = 48 + (u : Int) % 10 := IntWalk.u8_in _ (by omega)
        have hsg : (u : Int) % 10 = 0 := by omega
        simp only [hsg, Int.add_zero] at oL HA hoA hw8
        go_wp2_with (at_builtin; refine wpList_cat_bytes _ rfl _ _ rfl w.heap.size ⟨wr.heap.size, 0, none⟩ 1 1 [UInt8.ofNat (48 + u % 10)] rfl oL g m c ds rfl hdl.out (fun j hj => own_bytes_at hoA j hj) HA.size (by omega) ?_; intro g2 c2 w2 ho2 hg2)
        go_roundw
        case rel =>
          exact ⟨g2, c2, 1 + m, u / 10, [UInt8.ofNat (48 + u % 10)] ++ ds, rfl, by go_num, by omega, by omega, Lib.hid (by rw [Nat.add_comm 1 m]; exact h1.2), Lib.hid (by rw [List.length_append, hdl.out]; rfl), hz2, ho2, app_below oL HA (Nat.le_refl _) HA.size hg2⟩
        case measure => simp [intOf]; omega
      · have hw8 : IntKind.u8.wrap (48 + (u : Int) % 10) = 48 + (u : Int) % 10 := IntWalk.u8_in _ (by omega)
        have hsg : -((u : Int) % 10) < 0 := by omega
        go_wp2_with (at_builtin; refine wpList_cat_bytes _ rfl _ _ rfl w.heap.size ⟨wr.heap.size, 0, none⟩ 1 1 [UInt8.ofNat (48 + u % 10)] rfl oL g m c ds rfl hdl.out (fun j hj => own_bytes_at hoA j hj) HA.size (by omega) ?_; intro g2 c2 w2 ho2 hg2)
        go_roundw
        case rel =>
          exact ⟨g2, c2, 1 + m, u / 10, [UInt8.ofNat (48 + u % 10)] ++ ds, rfl, by go_num, by omega, by omega, Lib.hid (by rw [Nat.add_comm 1 m]; exact h1.2), Lib.hid (by rw [List.length_append, hdl.out]; rfl), hz2, ho2, app_below oL HA (Nat.le_refl _) HA.size hg2⟩
        case measure => simp [intOf]; omega
theorem l01Dec_any (n : Int) (h0 : -9223372036854775808 ≤ n) (h1 : n ≤ 9223372036854775807) (w : World) :
    Calls Tryd.prog 57 #[.int .i64 n] w fun e w' => e = .returned (.string ⟨(Lib.itoa n).toArray⟩) ∧ Below w.heap.size w w' := by
  rcases (show n = 0 ∨ 0 < n ∨ n < 0 by omega) with rfl | h | h
  · exact l01Dec_zero w
  · have := l01Dec_pos n.toNat (by omega) (by omega) w
    rw [show ((n.toNat : Nat) : Int) = n by omega] at this
    exact this
  · have := l01Dec_neg n.natAbs (by omega) (by omega) w
    rw [show -((n.natAbs : Nat) : Int) = n by omega] at this
    exact this
theorem sDecimal_any (n : Int) (h0 : -9223372036854775808 ≤ n) (h1 : n ≤ 9223372036854775807) (w : World) :
    Calls Tryd.prog 20 #[.int .i64 n] w fun e w' => e = .returned (.string ⟨(Lib.itoa n).toArray⟩) ∧ Below w.heap.size w w' := by
  go_enter Tryd.func20, Tryd.ntmps20
  go_wp2_with fail
  refine (l01Dec_any _ h0 h1 _).mono ?_
  rintro e w1 ⟨rfl, hb⟩
  go_wp2_with fail
  go_ret
  exact ⟨rfl, hb⟩
/-- The table of powers of ten lies at its variable. -/
def PowAt (w : World) : Prop := Lib.TabIs Tryd.prog w "internal/strconv.uint64pow10" .u64 Lib.pow10Tab
theorem gPow : Tryd.prog.globalNamed "internal/strconv.uint64pow10" = some 1 := by kernel_rfl
theorem PowAt.lt {w : World} (h : PowAt w) : 1 < w.heap.size := block_lt_of_cell (Lib.TabIs.cell h gPow 0 (by decide))
theorem PowAt.below {w w' : World} (h : PowAt w) (hb : Below w.heap.size w w') : PowAt w' := by
  have hlt := h.lt
  unfold PowAt Lib.TabIs at h ⊢
  rw [← h]
  simp only [World.var?, gPow, Option.bind_some]
  rw [hb.block _ hlt]
theorem grown_below (w : World) (k : Nat) (os : Array Obj) : Below w.heap.size w (Go.Sort.grow (w.drewN k) os) :=
  ⟨rfl, rfl, rfl, by first | (simp [Go.Sort.grow]; done) | (simp [Go.Sort.grow]; omega), fun i hi => by
    show ((w.drewN k).heap ++ os)[i]? = _
    rw [Array.getElem?_append_left (by show i < w.heap.size; omega)]
    rfl⟩
theorem Decimal_any (n : Int) (h0 : -9223372036854775808 ≤ n) (h1 : n ≤ 9223372036854775807) (w : World) (hp : PowAt w) :
    Calls Tryd.prog 21 #[.int .i64 n] w fun e w' => e = .returned (.string ⟨(Lib.itoa n).toArray⟩) ∧ Below w.heap.size w w' := by
  go_enter Tryd.func21, Tryd.ntmps21
  go_wp2_with fail
  refine (Tryd.strconv_FormatInt_10 n h0 h1 _ hp).mono ?_
  rintro e w1 ⟨rfl, k, os, rfl⟩
  go_wp2_with fail
  go_ret
  exact ⟨rfl, grown_below w k os⟩
end Go.Proofs.YtijbaapecehamaaDoor
