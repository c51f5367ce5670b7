/-
  Texts of feet and of grades: the program's and the reference's. The condition of the program's: the table of powers of ten holds what the library lays.
-/
import Derived.Test.YtijbaapecehamaaDoorText
import Derived.Test.YtijbaapecehamaaDoorFeet
import Derived.Test.YtijbaapecehamaaDoorGrade
import Derived.Test.YtijbaapecehamaaDoorBlk2
import Derived.Test.YtijbaapecehamaaDoorShelfJ
import Derived.Deep.RegionHeld3
namespace Go.Proofs.YtijbaapecehamaaDoor
open Go.RowKit
set_option maxHeartbeats 1600000
set_option linter.unusedVariables false

def sla : ByteArray := ⟨#[47]⟩
/-- Numbers in decimal, a stroke between. -/
def joinT (zs : List Int) : ByteArray := ⟨(Lib.join (zs.map Lib.itoa) [47]).toArray⟩
theorem ba_app (a b : List UInt8) : (⟨a.toArray⟩ : ByteArray) ++ ⟨b.toArray⟩ = ⟨(a ++ b).toArray⟩ := by
  apply ByteArray.ext; simp
theorem ba_eq (x : ByteArray) : x = ⟨x.data.toList.toArray⟩ := by cases x; simp
theorem joinT_snoc (zs : List Int) (x : Int) (h : zs ≠ []) : joinT (zs ++ [x]) = joinT zs ++ ⟨#[47]⟩ ++ dec x := by
  cases zs with
  | nil => exact absurd rfl h
  | cons y ys =>
    unfold joinT dec
    rw [show (⟨#[47]⟩ : ByteArray) = ⟨([47] : List UInt8).toArray⟩ from rfl, ba_app, ba_app, List.cons_append, List.map_cons, List.map_cons, List.map_append, Lib.join_cons, Lib.join_cons]
    congr 2
    simp [Lib.joinTail, List.append_assoc]
theorem joinT_one (x : Int) : joinT [x] = dec x := by
  unfold joinT dec; rw [List.map_cons, List.map_nil, Lib.join_one]
def AllI (zs : List Int) : Prop := ∀ z ∈ zs, -9223372036854775808 ≤ z ∧ z ≤ 9223372036854775807
theorem AllI.at_ {zs : List Int} (h : AllI zs) {k : Nat} (hk : k < zs.length) : -9223372036854775808 ≤ ix zs k ∧ ix zs k ≤ 9223372036854775807 := by
  rw [← ix_eq hk]; exact h _ (List.getElem_mem hk)
theorem tail_len : ∀ (zs : List Int), AllI zs → (Lib.joinTail [47] (zs.map Lib.itoa)).length ≤ 22 * zs.length
  | [], _ => Nat.le_refl 0
  | x :: r, h => by
    have ih := tail_len r (fun z hz => h z (by simp [hz]))
    have hx := h x (by simp)
    have h1 := Lib.itoa_length_le x hx.1 hx.2
    have e : Lib.joinTail [47] ((x :: r).map Lib.itoa) = ([47] ++ Lib.itoa x) ++ Lib.joinTail [47] (r.map Lib.itoa) := by simp [Lib.joinTail]
    rw [e, List.length_append, List.length_append, List.length_singleton, List.length_cons]
    omega
theorem joinT_size (zs : List Int) (h : AllI zs) : (joinT zs).size ≤ 22 * zs.length := by
  have e1 : (joinT zs).size = (Lib.join (zs.map Lib.itoa) [47]).length := by unfold joinT ByteArray.size; simp
  rw [e1]
  cases zs with
  | nil => exact Nat.zero_le _
  | cons x r =>
    have ih := tail_len r (fun z hz => h z (by simp [hz]))
    have hx := h x (by simp)
    have h1 := Lib.itoa_length_le x hx.1 hx.2
    rw [List.map_cons, Lib.join_cons, List.length_append, List.length_cons]
    omega
def strVs (l : List ByteArray) : List Value := l.map Value.string
theorem strVs_append (a b : List ByteArray) : strVs (a ++ b) = strVs a ++ strVs b := by simp [strVs]
theorem str_info : (Tryd.prog.info? 9).map (fun i => (i.zero, i.size, i.bytes)) = some (some (.string ⟨#[]⟩), 1, 16) := by kernel_rfl
section
variable {ops : Array Oper} {rest : List Oper} {o : Oper} {a : Act} {Q : Exit → Act → World → Prop}
/-- 'append(out, x)' of a string: the new element lies in a block laid just before. -/
theorem wpList_app_str (W : World) (hg : o.guard = none) (s x : Operand) (ho : o.op = .call { callee := .builtin .append, args := #[s, x], argTypes := #[30, 30] })
    (base : Nat) (g n c : Nat) (zs : List ByteArray) (val : ByteArray) (hs : a.eval s = .slice (some ⟨g, 0, none⟩) n c) (hown : W.ownsRow base 9 1 (.slice (some ⟨g, 0, none⟩) n c) n (strVs zs))
    (hx : a.eval x = .slice (some ⟨W.heap.size, 0, none⟩) 1 1) (hbase : base ≤ W.heap.size) (hn : n ≤ 1048577)
    (h : ∀ g' c' w', w'.ownsRow base 9 1 (.slice (some ⟨g', 0, none⟩) (n + 1) c') (n + 1) (strVs (zs ++ [val])) → W.grownBy w' (some g) → wpList Tryd.prog ops Q rest (a.put o.dst (.slice (some ⟨g', 0, none⟩) (n + 1) c')) w') :
    wpList Tryd.prog ops Q (o :: rest) a (W.alloc (.cells #[.string val] 9)) := by
  obtain ⟨i0, hi, hz0, hz1, hz2⟩ := info_parts str_info
  refine wpList_append_own _ hg s x 30 ho base 9 i0 (.string ⟨#[]⟩) 1 16 Tryd.underlying30 hi hz0 hz1 hz2 rfl (by decide) _ _ _ hs (hown.alloc _) ⟨W.heap.size, 0, none⟩ 1 1 [.string val] hx rfl ?_ ?_ ?_ ?_ ?_ ?_
  · exact cell_one_new _ _ _
  · intro u hu; simp at hu; subst hu; rfl
  · unfold maxLen; omega
  · omega
  · simp; omega
  · intro v' w' hown' hg' _
    have hex : ∃ g' c', v' = .slice (some ⟨g', 0, none⟩) (n + 1) c' := by
      rcases hown'.2 with ⟨_, h0⟩ | ⟨g, cap, cur, hv, _⟩
      · omega
      · exact ⟨_, _, hv⟩
    obtain ⟨g', c', hv⟩ := hex
    rw [hv] at hown' ⊢
    refine h g' c' w' ?_ ?_
    · rw [strVs_append]; exact hown'
    · exact gtrans (World.grownBy_alloc W _ _) hg'
end
theorem decs_join (zs : List Int) : (zs.map dec).map (·.data.toList) = zs.map Lib.itoa := by
  rw [List.map_map]; rfl
set_option maxRecDepth 100000 in
theorem numbersText_any (A : Option Addr) (n c : Nat) (zs : List Int) (w : World) (h : Rd w 1 A n (ints zs)) (hn : n ≤ 100) (hI : AllI zs) (hp : PowAt w) :
    Calls Tryd.prog 68 #[.string ⟨#[47]⟩, .slice A n c] w fun e w' => e = .returned (.string (joinT zs)) ∧ Below w.heap.size w w' := by
  have hlen := Lib.hid h.len
  have HO := own_lit (W := w) (cs := #[]) (e := 9) (size := 1) (n := 0) (xs := strVs []) rfl (Nat.le_refl w.heap.size) (by decide) rfl rfl
  have HB : Below w.heap.size w (w.alloc (.cells #[] 9)) := Bl.alloc (Below.refl _ _) _
  have hIx := Lib.hid hI
  clear hI
  go_enter Tryd.func68, Tryd.ntmps68
  go_wp2_with fail
  go_loopw [5, 11] (fun o i wr => ∃ (g c' k : Nat), k ≤ n ∧ o = .slice (some ⟨g, 0, none⟩) k c' ∧ i = .int .i64 k ∧ g < wr.heap.size ∧ wr.ownsRow w.heap.size 9 1 (.slice (some ⟨g, 0, none⟩) k c') k (strVs ((zs.take k).map dec)) ∧ Below w.heap.size w wr) (fun _ i _ => n - (intOf i).toNat)
  case atStart => exact ⟨w.heap.size, 0, 0, by omega, rfl, rfl, by simp, HO, HB⟩
  case round =>
    obtain ⟨g, c', k, hk, rfl, rfl, hgl, ho, hb⟩ := hrel
    by_cases hlt : k < n
    · obtain ⟨b, off, rfl, hbl, hcell⟩ := (h.below hb).int hlt
      have hIk := hIx.out.at_ (k := k) (by have := hlen.out; omega)
      have htk := Lib.hid (show (zs.take k).map dec ++ [dec (ix zs k)] = (zs.take (k + 1)).map dec by
        have hkz : k < zs.length := by have := hlen.out; omega
        rw [← ix_eq hkz, ← List.take_append_getElem hkz, List.map_append]; rfl)
      go_wp2_with fail
      refine (Decimal_d _ hIk.1 hIk.2 _ (hp.below hb)).mono ?_
      rintro e w5 ⟨rfl, hb5⟩
      have ho5 := own_below ho hb5
      have HB5 := Bl.then hb hb5
      go_wp2_with (at_builtin; refine wpList_app_str w5 rfl _ _ rfl w.heap.size g k c' _ (dec (ix zs k)) rfl ho5 rfl HB5.size (by omega) ?_; intro g6 c6 w6 ho6 hg6)
      go_roundw
      case rel =>
        rw [htk.out] at ho6
        exact ⟨g6, c6, k + 1, by omega, rfl, by go_num, (ho6.lt g6 rfl).2, ho6, app_below ho5 HB5 (Nat.le_refl _) HB5.size hg6⟩
      case measure => simp [intOf]; omega
    · obtain rfl : k = n := by omega
      have hzt : zs.take k = zs := List.take_of_length_le (by have := hlen.out; omega)
      rw [hzt] at ho
      have hzl : (zs.map dec).length = k := by have := hlen.out; simp; omega
      rcases Nat.eq_zero_or_pos k with h0 | h0
      · subst h0
        have hr : joinT zs = ⟨#[]⟩ := by
          have : zs = [] := List.eq_nil_of_length_eq_zero (by simpa using hzl)
          subst this; rfl
        go_wp2_with fail
        refine (Tryd.strings_Join_none _ _ _ _).mono ?_
        rintro e w7 ⟨rfl, rfl⟩
        go_wp2_with fail
        go_ret
        exact ⟨retS hr.symm, hb⟩
      · have hcap : k ≤ c' := by
          rcases own_form ho h0 with ⟨_, _, _, _, hh, _⟩
          exact hh
        have hjs := joinT_size zs hIx.out
        have hJ := Tryd.strings_Join g 0 c' (zs.map dec) ⟨#[47]⟩ wr (fun j x hx => by
          have := ho.cells (g := g) rfl j (.string x) (by simp only [strVs, List.getElem?_map]; rw [List.getElem?_map] at hx; rw [hx]; rfl)
          rwa [Addr.add_lit] at this) hgl (by rw [hzl]; omega) (by rw [hzl]; exact hcap) (by
          rw [decs_join]
          have e1 : (Lib.join (zs.map Lib.itoa) [47]).length = (joinT zs).size := by unfold joinT ByteArray.size; simp
          have e2 : zs.length = k := by simpa using hzl
          show (Lib.join (zs.map Lib.itoa) [47]).length ≤ _
          rw [e1]; omega)
        rw [hzl, decs_join] at hJ
        clear hjs
        go_wp2_with fail
        refine hJ.mono ?_
        rintro e w7 ⟨rfl, hb7⟩
        go_wp2_with fail
        go_ret
        exact ⟨rfl, Bl.then hb hb7⟩
set_option maxRecDepth 100000 in
theorem l02Text_any (a b c d : Int) (ha : -9223372036854775808 ≤ a ∧ a ≤ 9223372036854775807) (hb : -9223372036854775808 ≤ b ∧ b ≤ 9223372036854775807) (hc : -9223372036854775808 ≤ c ∧ c ≤ 9223372036854775807) (hd : -9223372036854775808 ≤ d ∧ d ≤ 9223372036854775807) (w : World) :
    Calls Tryd.prog 66 #[.agg #[.int .i64 a, .int .i64 b, .int .i64 c, .int .i64 d]] w fun e w' => e = .returned (.string (joinT [a, b, c, d])) ∧ Below w.heap.size w w' := by
  have hr := Lib.hid (show joinT [a, b, c, d] = dec a ++ ⟨#[47]⟩ ++ dec b ++ ⟨#[47]⟩ ++ dec c ++ ⟨#[47]⟩ ++ dec d by
    rw [show [a, b, c, d] = [a, b, c] ++ [d] from rfl, joinT_snoc _ _ (by simp), show [a, b, c] = [a, b] ++ [c] from rfl, joinT_snoc _ _ (by simp), show [a, b] = [a] ++ [b] from rfl, joinT_snoc _ _ (by simp), joinT_one])
  have sa := dec_size ha.1 ha.2
  have sb := dec_size hb.1 hb.2
  have sc := dec_size hc.1 hc.2
  have sd := dec_size hd.1 hd.2
  have q0 : ¬ (9223372036854775807 < (dec a).size + 1) := by omega
  have q1 : ¬ (9223372036854775807 < (dec a).size + 1 + (dec b).size) := by omega
  have q2 : ¬ (9223372036854775807 < (dec a).size + 1 + (dec b).size + 1) := by omega
  have q3 : ¬ (9223372036854775807 < (dec a).size + 1 + (dec b).size + 1 + (dec c).size) := by omega
  have q4 : ¬ (9223372036854775807 < (dec a).size + 1 + (dec b).size + 1 + (dec c).size + 1) := by omega
  have q5 : ¬ (9223372036854775807 < (dec a).size + 1 + (dec b).size + 1 + (dec c).size + 1 + (dec d).size) := by omega
  clear sa sb sc sd
  go_enter Tryd.func66, Tryd.ntmps66
  go_wp2_with fail
  have BX := Blk.new w 25 #[.int .i64 a, .int .i64 b, .int .i64 c, .int .i64 d]
  have HW : Below w.heap.size w (w.alloc (.cells #[.int .i64 a, .int .i64 b, .int .i64 c, .int .i64 d] 25)) := by go_grown
  generalize w.alloc (.cells #[.int .i64 a, .int .i64 b, .int .i64 c, .int .i64 d] 25) = wr at *
  have kX := BX.cell
  have lX := BX.lt
  refine wp_region_held_drew (S := (fun wz => Below wr.heap.size wr wz ∧ ∀ b o, b < wr.heap.size → wz.cell? ⟨b, o, none⟩ = wr.cell? ⟨b, o, none⟩)) (by kernel_rfl) (old_of (Below.drew (Below.refl _ _))) (fun hHeld => ?_)
  refine wpAnyH_take (i := 0) (oi := ?_) (v := ?_) ?_ (by kernel_rfl) (by kernel_rfl) (by kernel_rfl) ?_ (Or.inl ⟨?_, ?_⟩) (by assumption) ?_
  rotate_left 2
  · (simp only [List.getElem?_toArray, List.getElem?_cons_zero]; rfl)
  · exact fun _ _ _ h => h
  · rfl
  · intro w hSw
    (try dsimp only at hSw)
    go_simp
    try with_reducible rfl
  simp only [put_arr, List.set_cons_zero, List.set_cons_succ]
  refine wpAnyH_take (i := 4) (oi := ?_) (v := ?_) ?_ (by kernel_rfl) (by kernel_rfl) (by kernel_rfl) ?_ (Or.inl ⟨?_, ?_⟩) (by assumption) ?_
  rotate_left 2
  · (simp only [List.getElem?_toArray, List.getElem?_cons_zero, List.getElem?_cons_succ]; rfl)
  · exact fun _ _ _ h => h
  · rfl
  · intro w hSw
    (try dsimp only at hSw)
    go_simp
    try with_reducible rfl
  simp only [put_arr, List.set_cons_zero, List.set_cons_succ]
  refine wpAnyH_take (i := 9) (oi := ?_) (v := ?_) ?_ (by kernel_rfl) (by kernel_rfl) (by kernel_rfl) ?_ (Or.inl ⟨?_, ?_⟩) (by assumption) ?_
  rotate_left 2
  · (simp only [List.getElem?_toArray, List.getElem?_cons_zero, List.getElem?_cons_succ]; rfl)
  · exact fun _ _ _ h => h
  · rfl
  · intro w hSw
    (try dsimp only at hSw)
    go_simp
    try with_reducible rfl
  simp only [put_arr, List.set_cons_zero, List.set_cons_succ]
  refine wpAnyH_take (i := 14) (oi := ?_) (v := ?_) ?_ (by kernel_rfl) (by kernel_rfl) (by kernel_rfl) ?_ (Or.inl ⟨?_, ?_⟩) (by assumption) ?_
  rotate_left 2
  · (simp only [List.getElem?_toArray, List.getElem?_cons_zero, List.getElem?_cons_succ]; rfl)
  · exact fun _ _ _ h => h
  · rfl
  · intro w hSw
    (try dsimp only at hSw)
    go_simp
    try with_reducible rfl
  simp only [put_arr, List.set_cons_zero, List.set_cons_succ]
  refine wpAnyH_take (i := 1) (oi := ?_) (v := ?_) ?_ (by kernel_rfl) (by kernel_rfl) (by kernel_rfl) ?_ (Or.inl ⟨?_, ?_⟩) (by assumption) ?_
  rotate_left 2
  · (simp only [List.getElem?_toArray, List.getElem?_cons_zero, List.getElem?_cons_succ]; rfl)
  · exact fun _ _ _ h => h
  · rfl
  · intro w hSw
    (try dsimp only at hSw)
    go_simp
    try with_reducible rfl
  simp only [put_arr, List.set_cons_zero, List.set_cons_succ]
  refine wpAnyH_take (i := 5) (oi := ?_) (v := ?_) ?_ (by kernel_rfl) (by kernel_rfl) (by kernel_rfl) ?_ (Or.inl ⟨?_, ?_⟩) (by assumption) ?_
  rotate_left 2
  · (simp only [List.getElem?_toArray, List.getElem?_cons_zero, List.getElem?_cons_succ]; rfl)
  · exact fun _ _ _ h => h
  · rfl
  · intro w hSw
    (try dsimp only at hSw)
    go_simp
    try with_reducible rfl
  simp only [put_arr, List.set_cons_zero, List.set_cons_succ]
  refine wpAnyH_take (i := 10) (oi := ?_) (v := ?_) ?_ (by kernel_rfl) (by kernel_rfl) (by kernel_rfl) ?_ (Or.inl ⟨?_, ?_⟩) (by assumption) ?_
  rotate_left 2
  · (simp only [List.getElem?_toArray, List.getElem?_cons_zero, List.getElem?_cons_succ]; rfl)
  · exact fun _ _ _ h => h
  · rfl
  · intro w hSw
    (try dsimp only at hSw)
    go_simp
    try with_reducible rfl
  simp only [put_arr, List.set_cons_zero, List.set_cons_succ]
  refine wpAnyH_take (i := 15) (oi := ?_) (v := ?_) ?_ (by kernel_rfl) (by kernel_rfl) (by kernel_rfl) ?_ (Or.inl ⟨?_, ?_⟩) (by assumption) ?_
  rotate_left 2
  · (simp only [List.getElem?_toArray, List.getElem?_cons_zero, List.getElem?_cons_succ]; rfl)
  · exact fun _ _ _ h => h
  · rfl
  · intro w hSw
    (try dsimp only at hSw)
    go_simp
    try with_reducible rfl
  simp only [put_arr, List.set_cons_zero, List.set_cons_succ]
  refine wpAnyH_ready (rs := [2]) (by kernel_rfl) (by simp) ?_
  refine AllReadyH.cons (o := ?_) ?_ (fun K hK => ?_) AllReadyH.nil
  rotate_left
  · (simp only [List.getElem?_toArray, List.getElem?_cons_zero, List.getElem?_cons_succ]; rfl)
  rw [if_pos (by rfl)]
  go_simp
  (with_reducible refine (l01Dec_d a ha.1 ha.2 _).mono ?_)
  rintro e wq1 ⟨rfl, hq1⟩
  have HZ1 := Bl.then (w := wr) hHeld.1 hq1
  go_wp2_with fail
  refine hK.out _ _ (old_of HZ1) (fun hHeld2 => ?_)
  clear hK K hHeld
  have hHeld := hHeld2
  clear hHeld2
  refine wpAnyH_take (i := 3) (oi := ?_) (v := ?_) ?_ (by kernel_rfl) (by kernel_rfl) (by kernel_rfl) ?_ (Or.inl ⟨?_, ?_⟩) (by assumption) ?_
  rotate_left 2
  · (simp only [List.getElem?_toArray, List.getElem?_cons_zero, List.getElem?_cons_succ]; rfl)
  · exact fun _ _ _ h => h
  · rfl
  · intro w hSw
    (try dsimp only at hSw)
    go_simp
    try with_reducible rfl
  simp only [put_arr, List.set_cons_zero, List.set_cons_succ]
  refine wpAnyH_ready (rs := [6]) (by kernel_rfl) (by simp) ?_
  refine AllReadyH.cons (o := ?_) ?_ (fun K hK => ?_) AllReadyH.nil
  rotate_left
  · (simp only [List.getElem?_toArray, List.getElem?_cons_zero, List.getElem?_cons_succ]; rfl)
  rw [if_pos (by rfl)]
  go_simp
  (with_reducible refine (l01Dec_d b hb.1 hb.2 _).mono ?_)
  rintro e wq2 ⟨rfl, hq2⟩
  have HZ2 := Bl.then (w := wr) HZ1 hq2
  go_wp2_with fail
  refine hK.out _ _ (old_of HZ2) (fun hHeld2 => ?_)
  clear hK K hHeld
  have hHeld := hHeld2
  clear hHeld2
  refine wpAnyH_take (i := 7) (oi := ?_) (v := ?_) ?_ (by kernel_rfl) (by kernel_rfl) (by kernel_rfl) ?_ (Or.inl ⟨?_, ?_⟩) (by assumption) ?_
  rotate_left 2
  · (simp only [List.getElem?_toArray, List.getElem?_cons_zero, List.getElem?_cons_succ]; rfl)
  · exact fun _ _ _ h => h
  · rfl
  · intro w hSw
    (try dsimp only at hSw)
    go_simp
    try with_reducible rfl
  simp only [put_arr, List.set_cons_zero, List.set_cons_succ]
  refine wpAnyH_take (i := 8) (oi := ?_) (v := ?_) ?_ (by kernel_rfl) (by kernel_rfl) (by kernel_rfl) ?_ (Or.inl ⟨?_, ?_⟩) (by assumption) ?_
  rotate_left 2
  · (simp only [List.getElem?_toArray, List.getElem?_cons_zero, List.getElem?_cons_succ]; rfl)
  · exact fun _ _ _ h => h
  · rfl
  · intro w hSw
    (try dsimp only at hSw)
    go_simp
    try with_reducible rfl
  simp only [put_arr, List.set_cons_zero, List.set_cons_succ]
  refine wpAnyH_ready (rs := [11]) (by kernel_rfl) (by simp) ?_
  refine AllReadyH.cons (o := ?_) ?_ (fun K hK => ?_) AllReadyH.nil
  rotate_left
  · (simp only [List.getElem?_toArray, List.getElem?_cons_zero, List.getElem?_cons_succ]; rfl)
  rw [if_pos (by rfl)]
  go_simp
  (with_reducible refine (l01Dec_d c hc.1 hc.2 _).mono ?_)
  rintro e wq3 ⟨rfl, hq3⟩
  have HZ3 := Bl.then (w := wr) HZ2 hq3
  go_wp2_with fail
  refine hK.out _ _ (old_of HZ3) (fun hHeld2 => ?_)
  clear hK K hHeld
  have hHeld := hHeld2
  clear hHeld2
  refine wpAnyH_take (i := 12) (oi := ?_) (v := ?_) ?_ (by kernel_rfl) (by kernel_rfl) (by kernel_rfl) ?_ (Or.inl ⟨?_, ?_⟩) (by assumption) ?_
  rotate_left 2
  · (simp only [List.getElem?_toArray, List.getElem?_cons_zero, List.getElem?_cons_succ]; rfl)
  · exact fun _ _ _ h => h
  · rfl
  · intro w hSw
    (try dsimp only at hSw)
    go_simp
    try with_reducible rfl
  simp only [put_arr, List.set_cons_zero, List.set_cons_succ]
  refine wpAnyH_take (i := 13) (oi := ?_) (v := ?_) ?_ (by kernel_rfl) (by kernel_rfl) (by kernel_rfl) ?_ (Or.inl ⟨?_, ?_⟩) (by assumption) ?_
  rotate_left 2
  · (simp only [List.getElem?_toArray, List.getElem?_cons_zero, List.getElem?_cons_succ]; rfl)
  · exact fun _ _ _ h => h
  · rfl
  · intro w hSw
    (try dsimp only at hSw)
    go_simp
    try with_reducible rfl
  simp only [put_arr, List.set_cons_zero, List.set_cons_succ]
  refine wpAnyH_ready (rs := [16]) (by kernel_rfl) (by simp) ?_
  refine AllReadyH.cons (o := ?_) ?_ (fun K hK => ?_) AllReadyH.nil
  rotate_left
  · (simp only [List.getElem?_toArray, List.getElem?_cons_zero, List.getElem?_cons_succ]; rfl)
  rw [if_pos (by rfl)]
  go_simp
  (with_reducible refine (l01Dec_d d hd.1 hd.2 _).mono ?_)
  rintro e wq4 ⟨rfl, hq4⟩
  have HZ4 := Bl.then (w := wr) HZ3 hq4
  go_wp2_with fail
  refine hK.out _ _ (old_of HZ4) (fun hHeld2 => ?_)
  clear hK K hHeld
  have hHeld := hHeld2
  clear hHeld2
  refine wpAnyH_take (i := 17) (oi := ?_) (v := ?_) ?_ (by kernel_rfl) (by kernel_rfl) (by kernel_rfl) ?_ (Or.inl ⟨?_, ?_⟩) (by assumption) ?_
  rotate_left 2
  · (simp only [List.getElem?_toArray, List.getElem?_cons_zero, List.getElem?_cons_succ]; rfl)
  · exact fun _ _ _ h => h
  · rfl
  · intro w hSw
    (try dsimp only at hSw)
    go_simp
    try with_reducible rfl
  simp only [put_arr, List.set_cons_zero, List.set_cons_succ]
  refine wpAnyH_take (i := 18) (oi := ?_) (v := ?_) ?_ (by kernel_rfl) (by kernel_rfl) (by kernel_rfl) ?_ (Or.inl ⟨?_, ?_⟩) (by assumption) ?_
  rotate_left 2
  · (simp only [List.getElem?_toArray, List.getElem?_cons_zero, List.getElem?_cons_succ]; rfl)
  · exact fun _ _ _ h => h
  · rfl
  · intro w hSw
    (try dsimp only at hSw)
    go_simp
    try with_reducible rfl
  simp only [put_arr, List.set_cons_zero, List.set_cons_succ]
  refine wpAnyH_done (by kernel_rfl) ?_ _
  clear hHeld
  go_wp2_with fail
  go_ret
  exact ⟨retS hr.out.symm, Bl.then HW HZ4⟩
set_option maxRecDepth 100000 in
theorem l05Text_any (a b c d f : Int) (w : World) (hI : AllI [a, b, c, d, f]) :
    Calls Tryd.prog 71 #[.agg #[.int .i64 a, .int .i64 b, .int .i64 c, .int .i64 d, .int .i64 f]] w fun e w' => e = .returned (.string (joinT [a, b, c, d, f])) ∧ Below w.heap.size w w' := by
  have hIx := Lib.hid hI
  clear hI
  go_enter Tryd.func71, Tryd.ntmps71
  go_wp2_with fail
  refine (l05Five_any _ _ _ _ _ _).mono ?_
  rintro e w1 ⟨A1, c1, rfl, ho1, h1⟩
  obtain ⟨g, rfl, _, _, _, _⟩ := own_form ho1 (by omega)
  have hR := Rd.of_own ho1
  clear ho1
  have HW : Below w.heap.size w w1 := Bl.then (by go_grown) h1
  clear h1
  generalize hzs : [a, b, c, d, f] = zs at *
  have hzl : zs.length = 5 := by rw [← hzs]; rfl
  go_wp2_with fail
  go_loopw [4, 5] (fun o i wr => ∃ (k : Nat) (s : ByteArray), k ≤ 5 ∧ o = .string s ∧ i = .int .i64 k ∧ Hid (s = joinT (zs.take k)) ∧ Below w1.heap.size w1 wr) (fun _ i _ => 5 - (intOf i).toNat)
  case atStart => exact ⟨0, ⟨#[]⟩, by omega, rfl, rfl, Lib.hid (by rw [List.take_zero]; rfl), Below.refl _ _⟩
  case round =>
    obtain ⟨k, s, hk, rfl, rfl, hs, hb⟩ := hrel
    by_cases hlt : k < 5
    · obtain ⟨b, off, eA, hbl, hcell⟩ := (hR.below hb).int hlt
      simp only [Option.some.injEq, Addr.mk.injEq, and_true] at eA
      obtain ⟨e1, e2⟩ := eA
      subst e2; subst e1
      rw [Nat.zero_add] at hcell
      have hIk := hIx.out.at_ (k := k) (by omega)
      have hkz : k < zs.length := by omega
      have htk : zs.take (k + 1) = zs.take k ++ [ix zs k] := by rw [← ix_eq hkz, List.take_append_getElem hkz]
      have hss := joinT_size (zs.take k) (fun z hz => hIx.out z (List.mem_of_mem_take hz))
      rw [← hs.out, List.length_take] at hss
      have hd := dec_size hIk.1 hIk.2
      have hmin : min k zs.length ≤ 5 := by omega
      rcases Nat.eq_zero_or_pos k with h0 | h0
      · have hs0 : s = ⟨#[]⟩ := by rw [hs.out, h0, List.take_zero]; rfl
        subst hs0
        have q0 : ¬ (9223372036854775807 < (dec (ix zs k)).size) := by omega
        have hk0 : ¬ ((0 : Int) < k) := by omega
        have hnx := Lib.hid (show dec (ix zs k) = joinT (zs.take (k + 1)) by rw [htk, h0, List.take_zero, List.nil_append, joinT_one])
        clear hss hmin hd htk h0
        go_wp2_with fail
        refine (l01Dec_d _ hIk.1 hIk.2 _).mono ?_
        rintro e w5 ⟨rfl, hb5⟩
        go_wp2_with fail
        go_roundw
        case rel => exact ⟨k + 1, _, by omega, rfl, by go_num, Lib.hid (by first | exact hnx.out | (rw [← hnx.out]; simp) | (rw [← hnx.out]; apply ByteArray.ext; simp)), Bl.then hb hb5⟩
        case measure => simp [intOf]; omega
      · have q0 : ¬ (9223372036854775807 < s.size + 1) := by omega
        have q1 : ¬ (9223372036854775807 < s.size + 1 + (dec (ix zs k)).size) := by omega
        have hk0 : (0 : Int) < k := by omega
        clear hss hmin hd
        go_wp2_with fail
        refine (l01Dec_d _ hIk.1 hIk.2 _).mono ?_
        rintro e w5 ⟨rfl, hb5⟩
        go_wp2_with fail
        go_roundw
        case rel => exact ⟨k + 1, _, by omega, rfl, by go_num, Lib.hid (by rw [htk, joinT_snoc _ _ (fun e => by have := congrArg List.length e; rw [List.length_take] at this; simp only [List.length_nil] at this; omega), ← hs.out]), Bl.then hb hb5⟩
        case measure => simp [intOf]; omega
    · obtain rfl : k = 5 := by omega
      have hfin := Lib.hid (show s = joinT zs by rw [hs.out, List.take_of_length_le (by omega)])
      clear hs
      go_wp2_with fail
      go_ret
      exact ⟨retS (by rw [hzs]; exact hfin.out), Bl.then HW hb⟩
/-- The text of a foot, of a grade. -/
noncomputable def footTx (a b c d : Int) : ByteArray := if footOk a b c d = true then joinT [a, b, c, d] else ⟨#[]⟩
noncomputable def gradeTx (a b c d f : Int) : ByteArray := if gradeOk a b c d f = true then joinT [a, b, c, d, f] else ⟨#[]⟩
theorem footOk_i64 {a b c d : Int} (h : footOk a b c d = true) : AllI [a, b, c, d] := by
  simp only [footOk, Bool.and_eq_true] at h
  obtain ⟨⟨⟨h1, h2⟩, h3⟩, h4⟩ := h
  have := inR_true.1 h1; have := inR_true.1 h2; have := inR_true.1 h3; have := inR_true.1 h4
  intro z hz
  simp only [List.mem_cons, List.not_mem_nil, or_false] at hz
  rcases hz with rfl | rfl | rfl | rfl <;> omega
set_option maxRecDepth 100000 in
theorem FootText_any (a b c d : Int) (w : World) (hp : PowAt w) :
    Calls Tryd.prog 31 #[.agg #[.int .i64 a, .int .i64 b, .int .i64 c, .int .i64 d]] w fun e w' => e = .returned (.string (footTx a b c d)) ∧ Below w.heap.size w w' := by
  cases hb : footOk a b c d
  · have hr := Lib.hid (show footTx a b c d = ⟨#[]⟩ by rw [footTx, hb]; rfl)
    go_enter Tryd.func31, Tryd.ntmps31
    go_wp2_with fail
    refine (ValidFoot_any _ _ _ _ _).mono ?_
    rintro e w1 ⟨rfl, h1⟩
    have BX := (Blk.new w 25 #[.int .i64 a, .int .i64 b, .int .i64 c, .int .i64 d]).below h1
    have HW : Below w.heap.size w w1 := Bl.then (by go_grown) h1
    clear h1
    have kX := BX.cell
    have lX := BX.lt
    go_wp2_with fail
    go_ret
    exact ⟨retS hr.out.symm, HW⟩
  · have hr := Lib.hid (show footTx a b c d = joinT [a, b, c, d] by rw [footTx, hb]; rfl)
    have hI := footOk_i64 hb
    go_enter Tryd.func31, Tryd.ntmps31
    go_wp2_with fail
    refine (ValidFoot_any _ _ _ _ _).mono ?_
    rintro e w1 ⟨rfl, h1⟩
    have BX := (Blk.new w 25 #[.int .i64 a, .int .i64 b, .int .i64 c, .int .i64 d]).below h1
    have HW : Below w.heap.size w w1 := Bl.then (by go_grown) h1
    clear h1
    have kX := BX.cell
    have lX := BX.lt
    go_wp2_with fail
    refine (measures_any _ _ _ _ _).mono ?_
    rintro e w2 ⟨A2, c2, rfl, ho2, h2⟩
    replace HW := Bl.then HW h2
    go_wp2_with fail
    refine (numbersText_any _ _ _ _ _ (Rd.of_own ho2) (by omega) hI (hp.below HW)).mono ?_
    rintro e w3 ⟨rfl, h3⟩
    replace HW := Bl.then HW h3
    go_wp2_with fail
    go_ret
    exact ⟨retS hr.out.symm, HW⟩
set_option maxRecDepth 100000 in
theorem sFootText_any (a b c d : Int) (w : World) :
    Calls Tryd.prog 29 #[.agg #[.int .i64 a, .int .i64 b, .int .i64 c, .int .i64 d]] w fun e w' => e = .returned (.string (footTx a b c d)) ∧ Below w.heap.size w w' := by
  cases hb : footOk a b c d
  · have hr := Lib.hid (show footTx a b c d = ⟨#[]⟩ by rw [footTx, hb]; rfl)
    go_enter Tryd.func29, Tryd.ntmps29
    go_wp2_with fail
    refine (l02Foot_any _ _ _ _ _).mono ?_
    rintro e w1 ⟨rfl, h1⟩
    have BX := (Blk.new w 25 #[.int .i64 a, .int .i64 b, .int .i64 c, .int .i64 d]).below h1
    have HW : Below w.heap.size w w1 := Bl.then (by go_grown) h1
    clear h1
    have kX := BX.cell
    have lX := BX.lt
    go_wp2_with fail
    go_ret
    exact ⟨retS hr.out.symm, HW⟩
  · have hr := Lib.hid (show footTx a b c d = joinT [a, b, c, d] by rw [footTx, hb]; rfl)
    have hI := footOk_i64 hb
    go_enter Tryd.func29, Tryd.ntmps29
    go_wp2_with fail
    refine (l02Foot_any _ _ _ _ _).mono ?_
    rintro e w1 ⟨rfl, h1⟩
    have BX := (Blk.new w 25 #[.int .i64 a, .int .i64 b, .int .i64 c, .int .i64 d]).below h1
    have HW : Below w.heap.size w w1 := Bl.then (by go_grown) h1
    clear h1
    have kX := BX.cell
    have lX := BX.lt
    go_wp2_with fail
    refine (l02Text_any _ _ _ _ (hI a (by simp)) (hI b (by simp)) (hI c (by simp)) (hI d (by simp)) _).mono ?_
    rintro e w2 ⟨rfl, h2⟩
    replace HW := Bl.then HW h2
    go_wp2_with fail
    go_ret
    exact ⟨retS hr.out.symm, HW⟩
theorem gradeOk_i64 {a b c d f : Int} (h : gradeOk a b c d f = true) : AllI [a, b, c, d, f] := by
  intro z hz
  unfold gradeOk outB at h
  rw [Bool.not_eq_true'] at h
  have h2 := List.any_eq_false.1 h z hz
  have := inR_true.1 (by simpa using h2 : inR z 0 20000 = true)
  omega
set_option maxRecDepth 100000 in
theorem GradeText_any (a b c d f : Int) (w : World) (hp : PowAt w) :
    Calls Tryd.prog 34 #[.agg #[.int .i64 a, .int .i64 b, .int .i64 c, .int .i64 d, .int .i64 f]] w fun e w' => e = .returned (.string (gradeTx a b c d f)) ∧ Below w.heap.size w w' := by
  cases hb : gradeOk a b c d f
  · have hr := Lib.hid (show gradeTx a b c d f = ⟨#[]⟩ by rw [gradeTx, hb]; rfl)
    go_enter Tryd.func34, Tryd.ntmps34
    go_wp2_with fail
    refine (ValidGrade_any _ _ _ _ _ _).mono ?_
    rintro e w1 ⟨rfl, h1⟩
    have BX := (Blk.new w 41 #[.int .i64 a, .int .i64 b, .int .i64 c, .int .i64 d, .int .i64 f]).below h1
    have HW : Below w.heap.size w w1 := Bl.then (by go_grown) h1
    clear h1
    have kX := BX.cell
    have lX := BX.lt
    go_wp2_with fail
    go_ret
    exact ⟨retS hr.out.symm, HW⟩
  · have hr := Lib.hid (show gradeTx a b c d f = joinT [a, b, c, d, f] by rw [gradeTx, hb]; rfl)
    have hI := gradeOk_i64 hb
    go_enter Tryd.func34, Tryd.ntmps34
    go_wp2_with fail
    refine (ValidGrade_any _ _ _ _ _ _).mono ?_
    rintro e w1 ⟨rfl, h1⟩
    have BX := (Blk.new w 41 #[.int .i64 a, .int .i64 b, .int .i64 c, .int .i64 d, .int .i64 f]).below h1
    have HW : Below w.heap.size w w1 := Bl.then (by go_grown) h1
    clear h1
    have kX := BX.cell
    have lX := BX.lt
    go_wp2_with fail
    refine (gnumbers_any _ _ _ _ _ _).mono ?_
    rintro e w2 ⟨A2, c2, rfl, ho2, h2⟩
    replace HW := Bl.then HW h2
    go_wp2_with fail
    refine (numbersText_any _ _ _ _ _ (Rd.of_own ho2) (by omega) hI (hp.below HW)).mono ?_
    rintro e w3 ⟨rfl, h3⟩
    replace HW := Bl.then HW h3
    go_wp2_with fail
    go_ret
    exact ⟨retS hr.out.symm, HW⟩
set_option maxRecDepth 100000 in
theorem sGradeText_any (a b c d f : Int) (w : World) :
    Calls Tryd.prog 32 #[.agg #[.int .i64 a, .int .i64 b, .int .i64 c, .int .i64 d, .int .i64 f]] w fun e w' => e = .returned (.string (gradeTx a b c d f)) ∧ Below w.heap.size w w' := by
  cases hb : gradeOk a b c d f
  · have hr := Lib.hid (show gradeTx a b c d f = ⟨#[]⟩ by rw [gradeTx, hb]; rfl)
    go_enter Tryd.func32, Tryd.ntmps32
    go_wp2_with fail
    refine (l05Ok_any _ _ _ _ _ _).mono ?_
    rintro e w1 ⟨rfl, h1⟩
    have BX := (Blk.new w 41 #[.int .i64 a, .int .i64 b, .int .i64 c, .int .i64 d, .int .i64 f]).below h1
    have HW : Below w.heap.size w w1 := Bl.then (by go_grown) h1
    clear h1
    have kX := BX.cell
    have lX := BX.lt
    go_wp2_with fail
    go_ret
    exact ⟨retS hr.out.symm, HW⟩
  · have hr := Lib.hid (show gradeTx a b c d f = joinT [a, b, c, d, f] by rw [gradeTx, hb]; rfl)
    have hI := gradeOk_i64 hb
    go_enter Tryd.func32, Tryd.ntmps32
    go_wp2_with fail
    refine (l05Ok_any _ _ _ _ _ _).mono ?_
    rintro e w1 ⟨rfl, h1⟩
    have BX := (Blk.new w 41 #[.int .i64 a, .int .i64 b, .int .i64 c, .int .i64 d, .int .i64 f]).below h1
    have HW : Below w.heap.size w w1 := Bl.then (by go_grown) h1
    clear h1
    have kX := BX.cell
    have lX := BX.lt
    go_wp2_with fail
    refine (l05Text_any _ _ _ _ _ _ hI).mono ?_
    rintro e w2 ⟨rfl, h2⟩
    replace HW := Bl.then HW h2
    go_wp2_with fail
    go_ret
    exact ⟨retS hr.out.symm, HW⟩
end Go.Proofs.YtijbaapecehamaaDoor
