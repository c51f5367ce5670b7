/-
  ReadDecimal of the program (strconv.ParseInt by its contract) and of the reference. The conditions: the text is no longer than 2^48 bytes; the table of powers of ten and the two errors of strconv lie as the library lays them.
-/
import Derived.Test.YtijbaapecehamaaDoorNumP
import Derived.Test.YtijbaapecehamaaDoorLaid
import Derived.Test.YtijbaapecehamaaDoorText
import Derived.Test.YtijbaapecehamaaDoorShelfP
import Derived.Test.YtijbaapecehamaaDoorName
import Derived.Lib.AtoiErrMem
import Derived.Deep.DeepCutAuto
import Derived.PlainAid
namespace Go.Proofs.YtijbaapecehamaaDoor
open Go.RowKit Go.PlainAid
set_option maxHeartbeats 1600000
set_option linter.unusedVariables false

theorem trim_bare (l : List UInt8) : Lib.trimPrefix l [45] = bare l := by
  unfold Lib.trimPrefix Lib.hasPrefix bare
  cases l with
  | nil => rfl
  | cons c r =>
    by_cases h : c = 45
    · subst h; simp
    · rw [if_neg (by simpa using fun e => h e.symm), if_neg (by simpa using h)]
/-- A variable of the library's that holds an error. -/
def ErrAt (w : World) (n : String) : Prop := ∃ (tp : TypeId) (p : Value), w.var? Tryd.prog n = some #[.iface tp p]
theorem var_kept {w w' : World} {n : String} {cs : Array Value} (hb : Below w.heap.size w w') (h : w.var? Tryd.prog n = some cs) : w'.var? Tryd.prog n = some cs := by
  have h0 := h
  unfold World.var? at h ⊢
  cases hg : Tryd.prog.globalNamed n with
  | none => rw [hg] at h; cases h
  | some g =>
    rw [hg] at h
    simp only [Option.bind_some] at h ⊢
    have hlt : g < w.heap.size := by
      rcases Nat.lt_or_ge g w.heap.size with hh | hh
      · exact hh
      · rw [Array.getElem?_eq_none hh] at h; cases h
    rw [hb.block g hlt]; exact h
theorem ErrAt.below {w w' : World} {n : String} (h : ErrAt w n) (hb : Below w.heap.size w w') : ErrAt w' n := by
  obtain ⟨tp, p, h⟩ := h
  exact ⟨tp, p, var_kept hb h⟩
/-- What reading numbers leans on. -/
structure RdAt (w : World) : Prop where
  pow : PowAt w
  syn : ErrAt w "strconv.ErrSyntax"
  ran : ErrAt w "strconv.ErrRange"
theorem RdAt.below {w w' : World} (h : RdAt w) (hb : Below w.heap.size w w') : RdAt w' := ⟨h.pow.below hb, h.syn.below hb, h.ran.below hb⟩
theorem retNB {x : Int × Bool} {a : Int} {b : Bool} (h : x = (a, b)) : Ending.returned (.tuple #[.int .i64 a, .bool b]) = .returned (.tuple #[.int .i64 x.1, .bool x.2]) := by rw [h]
theorem eq_dec {v : Int} {s : ByteArray} : ((dec v).toList == s.toList) = decide (Lib.itoa v = s.data.toList) := by
  rw [ByteArray.toList_eq, ByteArray.toList_eq, dec_list]
  by_cases h : Lib.itoa v = s.data.toList
  · rw [decide_eq_true h]; exact beq_iff_eq.2 h
  · rw [decide_eq_false h]; exact beq_eq_false_iff_ne.2 h
theorem size_list (s : ByteArray) : s.data.toList.length = s.size := Array.length_toList
theorem ReadDecimal_any (s : ByteArray) (hs : s.size ≤ 281474976710656) (w : World) (hp : RdAt w) :
    Calls Tryd.prog 40 #[.string s] w fun e w' => e = .returned (.tuple #[.int .i64 (numR s.data.toList).1, .bool (numR s.data.toList).2]) ∧ Below w.heap.size w w' := by
  have hsl := size_list s
  by_cases h1 : 19 < s.size
  · have hr := Lib.hid (show numR s.data.toList = (0, false) from numR_no fun n hn => by have := hn.len.2.2.1; omega)
    go_enter Tryd.func40, Tryd.ntmps40
    go_wp2_with fail
    go_ret2
    exact ⟨retNB hr.out, Below.refl _ _⟩
  have htb := trim_bare s.data.toList
  by_cases h2 : 18 < (Lib.trimPrefix s.data.toList [45]).length
  · have hr := Lib.hid (show numR s.data.toList = (0, false) from numR_no fun n hn => by have := hn.len.2.1; rw [htb] at h2; omega)
    clear htb
    go_enter Tryd.func40, Tryd.ntmps40
    go_wp2_with fail
    refine (Tryd.strings_TrimPrefix _ _ _).mono ?_
    rintro e w1 ⟨rfl, rfl⟩
    go_wp2_with fail
    go_ret2
    exact ⟨retNB hr.out, Below.refl _ _⟩
  have hb18 : (bare s.data.toList).length ≤ 18 := by rw [← htb]; omega
  rcases hP : Lib.parseIntB 64 s.data.toList with v | _ | _
  rotate_left
  · skip
    have hr := Lib.hid (show numR s.data.toList = (0, false) from numR_no fun n hn => by have e := parse_itoa n (by have := hn.2; omega) (by have := hn.2; omega); rw [hn.1, hP] at e; cases e)
    obtain ⟨tp, p, hv⟩ := hp.syn
    clear htb hb18
    go_enter Tryd.func40, Tryd.ntmps40
    go_wp2_with fail
    refine (Tryd.strings_TrimPrefix _ _ _).mono ?_
    rintro e w1 ⟨rfl, rfl⟩
    go_wp2_with fail
    refine (Tryd.strconv_ParseInt_10_at64_syntax_var s hs hP tp p _ hv).mono ?_
    rintro e w2 ⟨N, rfl, hN, hB, hb2⟩
    go_wp2_with fail
    go_ret2
    exact ⟨retNB hr.out, hb2⟩
  · skip
    have hr := Lib.hid (show numR s.data.toList = (0, false) from numR_no fun n hn => by have e := parse_itoa n (by have := hn.2; omega) (by have := hn.2; omega); rw [hn.1, hP] at e; cases e)
    obtain ⟨tp, p, hv⟩ := hp.ran
    clear htb hb18
    go_enter Tryd.func40, Tryd.ntmps40
    go_wp2_with fail
    refine (Tryd.strings_TrimPrefix _ _ _).mono ?_
    rintro e w1 ⟨rfl, rfl⟩
    go_wp2_with fail
    refine (Tryd.strconv_ParseInt_10_at64_range_var s hs hP tp p _ hv).mono ?_
    rintro e w2 ⟨N, rfl, hN, hB, hb2⟩
    go_wp2_with fail
    go_ret2
    exact ⟨retNB hr.out, hb2⟩
  · skip
    have hbd := Lib.parseIntB_bounds hP
    have e63 : ((2 ^ (64 - 1) : Nat) : Int) = 9223372036854775808 := by decide
    rw [e63] at hbd
    have hv0 : -9223372036854775808 ≤ v := by omega
    have hv1 : v ≤ 9223372036854775807 := by omega
    by_cases hq : Lib.itoa v = s.data.toList
    · have hr := Lib.hid (show numR s.data.toList = (v, true) from numR_yes (isNum_of hq hb18))
      have hq2 : ((dec v).toList == s.toList) = true := by rw [eq_dec]; simp [hq]
      clear htb hb18 hbd hq
      go_enter Tryd.func40, Tryd.ntmps40
      go_wp2_with fail
      refine (Tryd.strings_TrimPrefix _ _ _).mono ?_
      rintro e w1 ⟨rfl, rfl⟩
      go_wp2_with fail
      refine (Tryd.strconv_ParseInt_10_at64_ok s (by omega) v hP _).mono ?_
      rintro e w2 ⟨rfl, hw2⟩
      have hb2 : Below _ _ w2 := (show Below w1.heap.size w1 w2 by
        rcases hw2 with rfl | ⟨t, rfl⟩
        · exact Below.refl _ _
        · exact Lib.bytesWorld_below _ _ _)
      clear hw2
      go_wp2_with fail
      refine (Decimal_d v hv0 hv1 _ (hp.below hb2).pow).mono ?_
      rintro e w3 ⟨rfl, hb3⟩
      go_wp2_with fail
      go_ret2
      exact ⟨retNB hr.out, Bl.then hb2 hb3⟩
    · have hr := Lib.hid (show numR s.data.toList = (0, false) from numR_no fun n hn => by
        have e := parse_itoa n (by have := hn.2; omega) (by have := hn.2; omega)
        rw [hn.1, hP] at e
        cases e
        exact hq hn.1)
      have hq2 : ((dec v).toList == s.toList) = false := by rw [eq_dec]; simp [hq]
      clear htb hb18 hbd hq
      go_enter Tryd.func40, Tryd.ntmps40
      go_wp2_with fail
      refine (Tryd.strings_TrimPrefix _ _ _).mono ?_
      rintro e w1 ⟨rfl, rfl⟩
      go_wp2_with fail
      refine (Tryd.strconv_ParseInt_10_at64_ok s (by omega) v hP _).mono ?_
      rintro e w2 ⟨rfl, hw2⟩
      have hb2 : Below _ _ w2 := (show Below w1.heap.size w1 w2 by
        rcases hw2 with rfl | ⟨t, rfl⟩
        · exact Below.refl _ _
        · exact Lib.bytesWorld_below _ _ _)
      clear hw2
      go_wp2_with fail
      refine (Decimal_d v hv0 hv1 _ (hp.below hb2).pow).mono ?_
      rintro e w3 ⟨rfl, hb3⟩
      go_wp2_with fail
      go_ret2
      exact ⟨retNB hr.out, Bl.then hb2 hb3⟩
/-- The first j bytes of t are digits, and come to n. -/
def DigTo (T : List UInt8) (j : Nat) (n : Int) : Prop := AllDig (T.take j) ∧ n = (dval (T.take j) : Nat)
theorem DigTo.lt {T : List UInt8} {k : Nat} {n : Int} (h : DigTo T k n) (hk : k ≤ 17) : 0 ≤ n ∧ n < 100000000000000000 := by
  have h1 := dval_lt _ _ rfl h.1
  have h2 : (10 : Nat) ^ (T.take k).length ≤ 10 ^ 17 := Nat.pow_le_pow_right (by decide) (by rw [List.length_take]; omega)
  have e : (10 : Nat) ^ 17 = 100000000000000000 := by decide
  have h3 := h.2
  omega
theorem DigTo.step {T : List UInt8} {k : Nat} {n c : Int} (h : DigTo T k n) (hk : k < T.length) (hc : c = ((T[k]'hk).toNat : Int)) (h0 : 48 ≤ c) (h1 : c ≤ 57) : DigTo T (k + 1) (10 * n + (c - 48)) := by
  have e : T.take (k + 1) = T.take k ++ [T[k]] := (List.take_append_getElem hk).symm
  refine ⟨?_, ?_⟩
  · rw [e]
    intro b hb
    rw [List.mem_append, List.mem_singleton] at hb
    rcases hb with hb | rfl
    · exact h.1 b hb
    · exact ⟨by omega, by omega⟩
  · rw [e, dval_snoc]
    have := h.2
    omega
theorem bt_list (t : ByteArray) {k : Nat} (h : k < t.size) : bt t k = ((t.data.toList[k]'(by rw [size_list]; exact h)).toNat : Int) := by
  unfold bt; rw [dif_pos h]; rfl
theorem head_bt {s : ByteArray} (h0 : 0 < s.size) (h : bt s 0 = 45) : s.data.toList.head? = some 45 := by
  rw [bt_list s h0] at h
  have hl : 0 < s.data.toList.length := by rw [size_list]; exact h0
  rw [List.head?_eq_getElem?, List.getElem?_eq_getElem hl]
  congr 1
  apply UInt8.toNat_inj.1
  have e : (45 : UInt8).toNat = 45 := rfl
  omega
theorem head_bt_no {s : ByteArray} (h : ¬ bt s 0 = 45) : ¬ (s.data.toList.head? = some 45) := fun e => by
  have hl : 0 < s.data.toList.length := by
    cases hq : s.data.toList with
    | nil => rw [hq] at e; cases e
    | cons c r => simp
  have h0 : 0 < s.size := by rw [← size_list]; exact hl
  rw [List.head?_eq_getElem?, List.getElem?_eq_getElem hl] at e
  apply h
  rw [bt_list s h0]
  rw [Option.some.inj e]; rfl
theorem ext_list (s : ByteArray) : (s.extract 1 s.size).data.toList = s.data.toList.drop 1 := by
  rw [ByteArray.data_extract, Array.toList_extract]
  show List.take (s.size - 1) (List.drop 1 s.data.toList) = _
  rw [List.take_of_length_le (by rw [List.length_drop, size_list]; exact Nat.le_refl _)]
theorem l01Number_any (s : ByteArray) (hs : s.size ≤ maxLen) (w : World) :
    Calls Tryd.prog 52 #[.string s] w fun e w' => e = .returned (.tuple #[.int .i64 (numR s.data.toList).1, .bool (numR s.data.toList).2]) ∧ Below w.heap.size w w' := by
  have hsl := size_list s
  have hs' := size_maxLen hs
  clear hs
  by_cases h1 : s.size < 1
  · have he : s = ByteArray.empty := by
      obtain ⟨⟨l⟩⟩ := s
      have : l = [] := by cases l <;> simp_all [ByteArray.size]
      subst this; rfl
    subst he
    have hr := Lib.hid (show numR (ByteArray.empty).data.toList = (0, false) from numR_no fun n hn => by have := hn.len.1; revert this; decide)
    go_enter Tryd.func52, Tryd.ntmps52
    go_wp2_with fail
    go_ret2
    exact ⟨retNB hr.out, Below.refl _ _⟩
  have h0 : 0 < s.size := by omega
  have hne := nonempty_of h0
  have hne2 : s.toList.isEmpty = false := by simp [hne]
  have hb := get_bt s
  by_cases h45 : bt s 0 = 45
  · have hd45 : s.data.toList.head? = some 45 := head_bt h0 h45
    have hT : (s.extract 1 s.size).data.toList = bare s.data.toList := by unfold bare; rw [if_pos hd45]; exact ext_list s
    have hts : (s.extract 1 s.size).size < s.size := by rw [← size_list, ext_list, List.length_drop]; omega
    have h1 : 1 ≤ s.size := by omega
    clear hne
    go_enter Tryd.func52, Tryd.ntmps52
    go_upto_region 4 with fail
    generalize s.extract 1 s.size = t at *
    have hm1 : (bare s.data.toList).length = t.size := by rw [← hT, size_list]
    by_cases h2 : t.size < 1
    · have hr := Lib.hid (show numR s.data.toList = (0, false) from numR_no fun n hn => by have := hn.len.1; omega)
      go_wp2_with fail
      go_ret2
      exact ⟨retNB hr.out, Below.refl _ _⟩
    by_cases h3 : 18 < t.size
    · have hr := Lib.hid (show numR s.data.toList = (0, false) from numR_no fun n hn => by have := hn.len.2.1; omega)
      go_wp2_with fail
      go_ret2
      exact ⟨retNB hr.out, Below.refl _ _⟩
    have hbt := get_bt t
    have hT' := Lib.hid hT
    clear hT
    go_wp2_with fail
    go_loop [5, 6] (fun q i => ∃ (k : Nat) (n : Int), k ≤ t.size ∧ i = .int .i64 k ∧ q = .int .i64 n ∧ Hid (DigTo (bare s.data.toList) k n)) (fun _ i => t.size - (intOf i).toNat)
    case atStart => exact ⟨0, 0, by omega, rfl, rfl, Lib.hid ⟨(by rw [List.take_zero]; intro b hb; cases hb), (by rw [List.take_zero]; rfl)⟩⟩
    case round =>
      obtain ⟨k, n, hk, rfl, rfl, hd⟩ := hrel
      by_cases hlt : k < t.size
      · have hn := hd.out.lt (by omega : k ≤ 17)
        have hbk := Lib.hid (bt_list t hlt)
        have b0 := bt_nonneg t k
        have b1 := bt_le t k
        cases hg : inR (bt t k) 48 57
        · have hr := Lib.hid (show numR s.data.toList = (0, false) from numR_no fun n hn => by
            have hd := hn.len.2.2.2 ((bare s.data.toList)[k]'(by omega)) (List.getElem_mem _)
            have e : bt t k = (((bare s.data.toList)[k]'(by omega)).toNat : Int) := by rw [hbk.out]; simp only [hT'.out]
            have h1 := hd.1; have h2 := hd.2
            rcases inR_false.1 hg with h | h <;> omega)
          clear hn
          go_wp2_with fail
          refine (l01Digit_any _ _).mono ?_
          rintro e wq ⟨rfl, rfl⟩
          go_wp2_with fail
          go_ret2
          exact ⟨retNB hr.out, Below.refl _ _⟩
        · obtain ⟨g0, g1⟩ := inR_true.1 hg
          have hnx := Lib.hid (hd.out.step (k := k) (by omega) (c := bt t k) (by rw [hbk.out]; simp only [hT'.out]) g0 g1)
          have hw1 : IntKind.u8.wrap (bt t k - 48) = bt t k - 48 := IntWalk.u8_in _ (by omega)
          have hw2 : IntKind.i64.wrap (10 * n) = 10 * n := IntWalk.i64_in _ (by omega)
          have hw3 : IntKind.i64.wrap (10 * n + (bt t k - 48)) = 10 * n + (bt t k - 48) := IntWalk.i64_in _ (by omega)
          have hw4 : IntKind.i64.wrap (bt t k - 48) = bt t k - 48 := IntWalk.i64_in _ (by omega)
          go_wp2_with fail
          refine (l01Digit_any _ _).mono ?_
          rintro e wq ⟨rfl, rfl⟩
          go_wp2_with fail
          go_round
          case rel => exact ⟨k + 1, _, by omega, by go_num, rfl, hnx⟩
          case measure => simp [intOf]; omega
      · obtain rfl : k = t.size := by omega
        have hnn : n = (dval (bare s.data.toList) : Nat) := by have := hd.out.2; rw [List.take_of_length_le (by omega)] at this; exact this
        have hdl := dval_lt _ _ hm1 (by have := hd.out.1; rw [List.take_of_length_le (by omega)] at this; exact this)
        have h18 : (10 : Nat) ^ t.size ≤ 10 ^ 18 := Nat.pow_le_pow_right (by decide) (by omega)
        have e18 : (10 : Nat) ^ 18 = 1000000000000000000 := by decide
        have hv : nval s.data.toList = -n := by unfold nval; rw [if_pos hd45, hnn]
        have v0 : -9223372036854775808 ≤ -n := by omega
        have v1 : -n ≤ 9223372036854775807 := by omega
        have hw5 : IntKind.i64.wrap (-n) = -n := IntWalk.i64_in _ (by omega)
        have hlt2 : (t.size : Int) < s.size := by omega
        clear hdl h18 e18 hnn
        by_cases hq : Lib.itoa (-n) = s.data.toList
        · have hr := Lib.hid (show numR s.data.toList = (-n, true) from numR_yes (isNum_of hq (by omega)))
          have hq2 : ((dec (-n)).toList == s.toList) = true := by rw [eq_dec]; simp [hq]
          go_wp2_with fail
          refine (l01Dec_d _ v0 v1 _).mono ?_
          rintro e w3 ⟨rfl, hb3⟩
          go_wp2_with fail
          go_ret2
          exact ⟨retNB hr.out, hb3⟩
        · have hr := Lib.hid (show numR s.data.toList = (0, false) from numR_no fun m hm => hq (by rw [← hv, hm.val]; exact hm.1))
          have hq2 : ((dec (-n)).toList == s.toList) = false := by rw [eq_dec]; simp [hq]
          go_wp2_with fail
          refine (l01Dec_d _ v0 v1 _).mono ?_
          rintro e w3 ⟨rfl, hb3⟩
          go_wp2_with fail
          go_ret2
          exact ⟨retNB hr.out, hb3⟩
  · have hd45 : ¬ (s.data.toList.head? = some 45) := head_bt_no h45
    have hT : s.data.toList = bare s.data.toList := by unfold bare; rw [if_neg hd45]
    have h45' : (bt s 0 == 45) = false := beq_eq_false_iff_ne.2 h45
    clear hne
    go_enter Tryd.func52, Tryd.ntmps52
    go_upto_region 4 with fail
    have hm1 : (bare s.data.toList).length = s.size := by rw [← hT, size_list]
    have h2 : ¬ s.size < 1 := h1
    by_cases h3 : 18 < s.size
    · have hr := Lib.hid (show numR s.data.toList = (0, false) from numR_no fun n hn => by have := hn.len.2.1; omega)
      go_wp2_with fail
      go_ret2
      exact ⟨retNB hr.out, Below.refl _ _⟩
    have hbt := get_bt s
    have hT' := Lib.hid hT
    clear hT
    go_wp2_with fail
    go_loop [5, 6] (fun q i => ∃ (k : Nat) (n : Int), k ≤ s.size ∧ i = .int .i64 k ∧ q = .int .i64 n ∧ Hid (DigTo (bare s.data.toList) k n)) (fun _ i => s.size - (intOf i).toNat)
    case atStart => exact ⟨0, 0, by omega, rfl, rfl, Lib.hid ⟨(by rw [List.take_zero]; intro b hb; cases hb), (by rw [List.take_zero]; rfl)⟩⟩
    case round =>
      obtain ⟨k, n, hk, rfl, rfl, hd⟩ := hrel
      by_cases hlt : k < s.size
      · have hn := hd.out.lt (by omega : k ≤ 17)
        have hbk := Lib.hid (bt_list s hlt)
        have b0 := bt_nonneg s k
        have b1 := bt_le s k
        cases hg : inR (bt s k) 48 57
        · have hr := Lib.hid (show numR s.data.toList = (0, false) from numR_no fun n hn => by
            have hd := hn.len.2.2.2 ((bare s.data.toList)[k]'(by omega)) (List.getElem_mem _)
            have e : bt s k = (((bare s.data.toList)[k]'(by omega)).toNat : Int) := by rw [hbk.out]; simp only [← hT'.out]
            have h1 := hd.1; have h2 := hd.2
            rcases inR_false.1 hg with h | h <;> omega)
          clear hn
          go_wp2_with fail
          refine (l01Digit_any _ _).mono ?_
          rintro e wq ⟨rfl, rfl⟩
          go_wp2_with fail
          go_ret2
          exact ⟨retNB hr.out, Below.refl _ _⟩
        · obtain ⟨g0, g1⟩ := inR_true.1 hg
          have hnx := Lib.hid (hd.out.step (k := k) (by omega) (c := bt s k) (by rw [hbk.out]; simp only [← hT'.out]) g0 g1)
          have hw1 : IntKind.u8.wrap (bt s k - 48) = bt s k - 48 := IntWalk.u8_in _ (by omega)
          have hw2 : IntKind.i64.wrap (10 * n) = 10 * n := IntWalk.i64_in _ (by omega)
          have hw3 : IntKind.i64.wrap (10 * n + (bt s k - 48)) = 10 * n + (bt s k - 48) := IntWalk.i64_in _ (by omega)
          have hw4 : IntKind.i64.wrap (bt s k - 48) = bt s k - 48 := IntWalk.i64_in _ (by omega)
          go_wp2_with fail
          refine (l01Digit_any _ _).mono ?_
          rintro e wq ⟨rfl, rfl⟩
          go_wp2_with fail
          go_round
          case rel => exact ⟨k + 1, _, by omega, by go_num, rfl, hnx⟩
          case measure => simp [intOf]; omega
      · obtain rfl : k = s.size := by omega
        have hnn : n = (dval (bare s.data.toList) : Nat) := by have := hd.out.2; rw [List.take_of_length_le (by omega)] at this; exact this
        have hdl := dval_lt _ _ hm1 (by have := hd.out.1; rw [List.take_of_length_le (by omega)] at this; exact this)
        have h18 : (10 : Nat) ^ s.size ≤ 10 ^ 18 := Nat.pow_le_pow_right (by decide) (by omega)
        have e18 : (10 : Nat) ^ 18 = 1000000000000000000 := by decide
        have hv : nval s.data.toList = n := by unfold nval; rw [if_neg hd45, hnn]
        have v0 : -9223372036854775808 ≤ n := by omega
        have v1 : n ≤ 9223372036854775807 := by omega
        have hw5 : IntKind.i64.wrap (-n) = -n := IntWalk.i64_in _ (by omega)
        have hlt2 : ¬ ((s.size : Int) < s.size) := by omega
        clear hdl h18 e18 hnn
        by_cases hq : Lib.itoa (n) = s.data.toList
        · have hr := Lib.hid (show numR s.data.toList = (n, true) from numR_yes (isNum_of hq (by omega)))
          have hq2 : ((dec (n)).toList == s.toList) = true := by rw [eq_dec]; simp [hq]
          go_wp2_with fail
          refine (l01Dec_d _ v0 v1 _).mono ?_
          rintro e w3 ⟨rfl, hb3⟩
          go_wp2_with fail
          go_ret2
          exact ⟨retNB hr.out, hb3⟩
        · have hr := Lib.hid (show numR s.data.toList = (0, false) from numR_no fun m hm => hq (by rw [← hv, hm.val]; exact hm.1))
          have hq2 : ((dec (n)).toList == s.toList) = false := by rw [eq_dec]; simp [hq]
          go_wp2_with fail
          refine (l01Dec_d _ v0 v1 _).mono ?_
          rintro e w3 ⟨rfl, hb3⟩
          go_wp2_with fail
          go_ret2
          exact ⟨retNB hr.out, hb3⟩
theorem sReadDecimal_any (s : ByteArray) (hs : s.size ≤ maxLen) (w : World) :
    Calls Tryd.prog 39 #[.string s] w fun e w' => e = .returned (.tuple #[.int .i64 (numR s.data.toList).1, .bool (numR s.data.toList).2]) ∧ Below w.heap.size w w' := by
  go_enter Tryd.func39, Tryd.ntmps39
  go_wp2_with fail
  refine (l01Number_any _ hs _).mono ?_
  rintro e w1 ⟨rfl, hb⟩
  go_wp2_with fail
  go_ret2
  exact ⟨rfl, hb⟩
end Go.Proofs.YtijbaapecehamaaDoor
