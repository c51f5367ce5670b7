/-
  GradeSeam of the program and of the reference, for every two slices that read us the given lists.
-/
import Derived.Test.YtpmdgbdeibeoaaaLens
namespace Go.Proofs.Ytpmdgbdeibeoaaa
open Go.RowKit
set_option maxHeartbeats 800000

/-- What a function hands back that makes two slices of numbers and a code: the rows lie in different stretches of new memory. -/
def RetInts2 (r : List Int × List Int × Int) (w : World) (e : Ending) (w' : World) : Prop :=
  ∃ A c A' c' m, e = .returned (.tuple #[.slice A r.1.length c, .slice A' r.2.1.length c', .int .i64 r.2.2]) ∧ w'.ownsRow w.heap.size 2 1 (.slice A r.1.length c) r.1.length (ints r.1) ∧ w'.ownsRow m 2 1 (.slice A' r.2.1.length c') r.2.1.length (ints r.2.1) ∧
    Hid (∀ k, (Value.slice A r.1.length c).ownBlock = some k → w.heap.size ≤ k ∧ k < m) ∧ Hid (∀ k, (Value.slice A' r.2.1.length c').ownBlock = some k → m ≤ k ∧ k < w'.heap.size) ∧ w.heap.size ≤ m ∧ m ≤ w'.heap.size ∧ Below w.heap.size w w'
theorem RetInts2.mk {r : List Int × List Int × Int} {w w' : World} {A A' : Option Addr} {n c n' c' m : Nat} {zs ys : List Int} {code : Int} (h : r = (zs, ys, code)) (ho : w'.ownsRow w.heap.size 2 1 (.slice A n c) n (ints zs))
    (ho' : w'.ownsRow m 2 1 (.slice A' n' c') n' (ints ys)) (hL : Hid (∀ k, (Value.slice A n c).ownBlock = some k → w.heap.size ≤ k ∧ k < m)) (hm : w.heap.size ≤ m) (hm' : m ≤ w'.heap.size) (hb : Below w.heap.size w w') :
    RetInts2 r w (.returned (.tuple #[.slice A n c, .slice A' n' c', .int .i64 code])) w' := by
  subst h
  have hl := own_int_len ho
  have hl' := own_int_len ho'
  subst hl; subst hl'
  exact ⟨A, c, A', c', m, rfl, ho, ho', hL, Lib.hid ho'.lt, hm, hm', hb⟩
theorem RetInts2.nil {r : List Int × List Int × Int} {w w' : World} {code : Int} (h : r = ([], [], code)) (hb : Below w.heap.size w w') :
    RetInts2 r w (.returned (.tuple #[.slice none 0 0, .slice none 0 0, .int .i64 code])) w' :=
  RetInts2.mk h (World.ownsRow_nil _ _ _ _) (World.ownsRow_nil _ _ _ _) (Lib.hid fun k hk => by cases hk) (Nat.le_refl _) hb.size hb
def seamR (us vs : List Int) (sum : Int) : List Int × List Int × Int :=
  if lensOk us = false then ([], [], 2) else if lensOk vs = false then ([], [], 2) else if inR sum 1 1000000 = false then ([], [], 2) else if total us ≠ total vs then ([], [], 9) else (shares us sum, shares vs sum, 0)
theorem seamR_len (us vs : List Int) (sum : Int) : (seamR us vs sum).1.length ≤ 1048577 ∧ (seamR us vs sum).2.1.length ≤ 1048577 := by
  unfold seamR
  by_cases h1 : lensOk us = false
  · rw [if_pos h1]; simp
  by_cases h2 : lensOk vs = false
  · rw [if_neg h1, if_pos h2]; simp
  by_cases h3 : inR sum 1 1000000 = false
  · rw [if_neg h1, if_neg h2, if_pos h3]; simp
  by_cases h4 : total us ≠ total vs
  · rw [if_neg h1, if_neg h2, if_neg h3, if_pos h4]; simp
  rw [if_neg h1, if_neg h2, if_neg h3, if_neg h4]
  have a := lensOk_bd (by simpa using h1 : lensOk us = true)
  have b := lensOk_bd (by simpa using h2 : lensOk vs = true)
  show (shares us sum).length ≤ _ ∧ (shares vs sum).length ≤ _
  rw [shares_len, shares_len]
  omega
theorem GradeSeam_any (A A2 : Option Addr) (n c n2 c2 : Nat) (us vs : List Int) (sum : Int) (w : World) (h : Rd w 1 A n (ints us)) (h2 : Rd w 1 A2 n2 (ints vs)) (hn : n ≤ 1048576) (hn2 : n2 ≤ 1048576) :
    Calls Try.prog 37 #[.slice A n c, .slice A2 n2 c2, .int .i64 sum] w (RetInts2 (seamR us vs sum) w) := by
  cases h3 : lensOk us
  · go_enter Try.func37, Try.ntmps37
    go_wp2_with fail
    refine (areLengths_any _ _ _ _ _ h hn).mono ?_
    rintro e w1 ⟨rfl, hb1⟩
    have H1 := hb1
    go_wp2_with fail
    go_ret3
    exact RetInts2.nil (by simp [seamR, h3]) H1
  cases h4 : lensOk vs
  · go_enter Try.func37, Try.ntmps37
    go_wp2_with fail
    refine (areLengths_any _ _ _ _ _ h hn).mono ?_
    rintro e w1 ⟨rfl, hb1⟩
    have H1 := hb1
    go_wp2_with fail
    refine (areLengths_any _ _ _ _ _ (h2.below H1) hn2).mono ?_
    rintro e w2 ⟨rfl, hb2⟩
    have H2 := Bl.then H1 hb2
    go_wp2_with fail
    go_ret3
    exact RetInts2.nil (by simp [seamR, h3, h4]) H2
  cases h5 : inR sum 1 1000000
  · go_enter Try.func37, Try.ntmps37
    go_wp2_with fail
    refine (areLengths_any _ _ _ _ _ h hn).mono ?_
    rintro e w1 ⟨rfl, hb1⟩
    have H1 := hb1
    go_wp2_with fail
    refine (areLengths_any _ _ _ _ _ (h2.below H1) hn2).mono ?_
    rintro e w2 ⟨rfl, hb2⟩
    have H2 := Bl.then H1 hb2
    go_wp2_with (go_at_call 69; refine (within_any _ _ _ _).mono ?_; rintro e w8 ⟨rfl, rfl⟩)
    go_ret3
    exact RetInts2.nil (by simp [seamR, h3, h4, h5]) H2
  have ta := total_bd h3
  have tb := total_bd h4
  obtain ⟨la, lb, lc⟩ := lensOk_bd h3
  obtain ⟨ld, le_, lf⟩ := lensOk_bd h4
  have al := Lib.hid (lc.weak (lo' := 0) (hi' := 1000000) (by omega) (by omega))
  have bl := Lib.hid (lf.weak (lo' := 0) (hi' := 1000000) (by omega) (by omega))
  clear la lb lc ld le_ lf
  by_cases h6 : total us ≠ total vs
  · have k1 : (total us != total vs) = true := by simpa using h6
    have k2 : (total us == total vs) = false := by simpa using h6
    have hr := Lib.hid (show seamR us vs sum = ([], [], 9) by simp [seamR, h3, h4, h5, h6])
    clear h6
    go_enter Try.func37, Try.ntmps37
    go_wp2_with fail
    refine (areLengths_any _ _ _ _ _ h hn).mono ?_
    rintro e w1 ⟨rfl, hb1⟩
    have H1 := hb1
    go_wp2_with fail
    refine (areLengths_any _ _ _ _ _ (h2.below H1) hn2).mono ?_
    rintro e w2 ⟨rfl, hb2⟩
    have H2 := Bl.then H1 hb2
    go_wp2_with (go_at_call 69; refine (within_any _ _ _ _).mono ?_; rintro e w8 ⟨rfl, rfl⟩)
    refine (sumOf_any _ _ _ _ _ (h.below H2) hn al.out).mono ?_
    rintro e w20 ⟨rfl, rfl⟩
    go_wp2_with fail
    refine (sumOf_any _ _ _ _ _ (h2.below H2) hn2 bl.out).mono ?_
    rintro e w21 ⟨rfl, rfl⟩
    go_wp2_with fail
    go_ret3
    exact RetInts2.nil hr.out H2
  have h6 : total us = total vs := by simpa using h6
  have k1 : (total us != total vs) = false := by simpa using h6
  have k2 : (total us == total vs) = true := by simpa using h6
  have hr := Lib.hid (show seamR us vs sum = (shares us sum, shares vs sum, 0) by simp [seamR, h3, h4, h5, h6])
  clear h6
  go_enter Try.func37, Try.ntmps37
  go_wp2_with fail
  refine (areLengths_any _ _ _ _ _ h hn).mono ?_
  rintro e w1 ⟨rfl, hb1⟩
  have H1 := hb1
  go_wp2_with fail
  refine (areLengths_any _ _ _ _ _ (h2.below H1) hn2).mono ?_
  rintro e w2 ⟨rfl, hb2⟩
  have H2 := Bl.then H1 hb2
  go_wp2_with (go_at_call 69; refine (within_any _ _ _ _).mono ?_; rintro e w8 ⟨rfl, rfl⟩)
  refine (sumOf_any _ _ _ _ _ (h.below H2) hn al.out).mono ?_
  rintro e w20 ⟨rfl, rfl⟩
  go_wp2_with fail
  refine (sumOf_any _ _ _ _ _ (h2.below H2) hn2 bl.out).mono ?_
  rintro e w21 ⟨rfl, rfl⟩
  go_wp2_with fail
  refine (shared_any _ _ _ _ _ _ (h.below H2) h3 (inR_true.1 h5)).mono ?_
  rintro e w3 ⟨A3, c3, rfl, o3, hb3⟩
  have H3 := Bl.then H2 hb3
  go_wp2_with fail
  refine (shared_any _ _ _ _ _ _ (h2.below H3) h4 (inR_true.1 h5)).mono ?_
  rintro e w4 ⟨A4, c4, rfl, o4, hb4⟩
  go_wp2_with fail
  go_ret3
  exact RetInts2.mk hr.out (own_below (ownsRow_le' o3 H2.size) hb4) o4 (Lib.hid fun k hk => ⟨Nat.le_trans H2.size (o3.lt k hk).1, (o3.lt k hk).2⟩) H3.size hb4.size (Bl.then H3 hb4)
theorem sGradeSeam_any (A A2 : Option Addr) (n c n2 c2 : Nat) (us vs : List Int) (sum : Int) (w : World) (h : Rd w 1 A n (ints us)) (h2 : Rd w 1 A2 n2 (ints vs)) (hn : n ≤ 1048576) (hn2 : n2 ≤ 1048576) :
    Calls Try.prog 36 #[.slice A n c, .slice A2 n2 c2, .int .i64 sum] w (RetInts2 (seamR us vs sum) w) := by
  cases h3 : lensOk us
  · go_enter Try.func36, Try.ntmps36
    go_wp2_with fail
    refine (l05Lengths_any _ _ _ _ _ h hn).mono ?_
    rintro e w11 ⟨rfl, rfl⟩
    go_wp2_with fail
    go_ret3
    exact RetInts2.nil (by simp [seamR, h3]) (Below.refl w.heap.size w)
  cases h4 : lensOk vs
  · go_enter Try.func36, Try.ntmps36
    go_wp2_with fail
    refine (l05Lengths_any _ _ _ _ _ h hn).mono ?_
    rintro e w11 ⟨rfl, rfl⟩
    go_wp2_with fail
    refine (l05Lengths_any _ _ _ _ _ h2 hn2).mono ?_
    rintro e w12 ⟨rfl, rfl⟩
    go_wp2_with fail
    go_ret3
    exact RetInts2.nil (by simp [seamR, h3, h4]) (Below.refl w.heap.size w)
  cases h5 : inR sum 1 1000000
  · go_enter Try.func36, Try.ntmps36
    go_wp2_with fail
    refine (l05Lengths_any _ _ _ _ _ h hn).mono ?_
    rintro e w11 ⟨rfl, rfl⟩
    go_wp2_with fail
    refine (l05Lengths_any _ _ _ _ _ h2 hn2).mono ?_
    rintro e w12 ⟨rfl, rfl⟩
    go_wp2_with (go_at_call 61; refine (l00In_any _ _ _ _).mono ?_; rintro e w8 ⟨rfl, rfl⟩)
    go_ret3
    exact RetInts2.nil (by simp [seamR, h3, h4, h5]) (Below.refl w.heap.size w)
  have ta := total_bd h3
  have tb := total_bd h4
  obtain ⟨la, lb, lc⟩ := lensOk_bd h3
  obtain ⟨ld, le_, lf⟩ := lensOk_bd h4
  have al := Lib.hid (lc.weak (lo' := 0) (hi' := 1000000) (by omega) (by omega))
  have bl := Lib.hid (lf.weak (lo' := 0) (hi' := 1000000) (by omega) (by omega))
  clear la lb lc ld le_ lf
  by_cases h6 : total us ≠ total vs
  · have k1 : (total us != total vs) = true := by simpa using h6
    have k2 : (total us == total vs) = false := by simpa using h6
    have hr := Lib.hid (show seamR us vs sum = ([], [], 9) by simp [seamR, h3, h4, h5, h6])
    clear h6
    go_enter Try.func36, Try.ntmps36
    go_wp2_with fail
    refine (l05Lengths_any _ _ _ _ _ h hn).mono ?_
    rintro e w11 ⟨rfl, rfl⟩
    go_wp2_with fail
    refine (l05Lengths_any _ _ _ _ _ h2 hn2).mono ?_
    rintro e w12 ⟨rfl, rfl⟩
    go_wp2_with (go_at_call 61; refine (l00In_any _ _ _ _).mono ?_; rintro e w8 ⟨rfl, rfl⟩)
    refine (l02Sum_any _ _ _ _ _ h hn al.out).mono ?_
    rintro e w20 ⟨rfl, rfl⟩
    go_wp2_with fail
    refine (l02Sum_any _ _ _ _ _ h2 hn2 bl.out).mono ?_
    rintro e w21 ⟨rfl, rfl⟩
    go_wp2_with fail
    go_ret3
    exact RetInts2.nil hr.out (Below.refl w.heap.size w)
  have h6 : total us = total vs := by simpa using h6
  have k1 : (total us != total vs) = false := by simpa using h6
  have k2 : (total us == total vs) = true := by simpa using h6
  have hr := Lib.hid (show seamR us vs sum = (shares us sum, shares vs sum, 0) by simp [seamR, h3, h4, h5, h6])
  clear h6
  go_enter Try.func36, Try.ntmps36
  go_wp2_with fail
  refine (l05Lengths_any _ _ _ _ _ h hn).mono ?_
  rintro e w11 ⟨rfl, rfl⟩
  go_wp2_with fail
  refine (l05Lengths_any _ _ _ _ _ h2 hn2).mono ?_
  rintro e w12 ⟨rfl, rfl⟩
  go_wp2_with (go_at_call 61; refine (l00In_any _ _ _ _).mono ?_; rintro e w8 ⟨rfl, rfl⟩)
  refine (l02Sum_any _ _ _ _ _ h hn al.out).mono ?_
  rintro e w20 ⟨rfl, rfl⟩
  go_wp2_with fail
  refine (l02Sum_any _ _ _ _ _ h2 hn2 bl.out).mono ?_
  rintro e w21 ⟨rfl, rfl⟩
  go_wp2_with fail
  refine (l05Grow_any _ _ _ _ _ _ h h3 (inR_true.1 h5)).mono ?_
  rintro e w3 ⟨A3, c3, rfl, o3, hb3⟩
  have H3 := Bl.then (Below.refl w.heap.size w) hb3
  go_wp2_with fail
  refine (l05Grow_any _ _ _ _ _ _ (h2.below H3) h4 (inR_true.1 h5)).mono ?_
  rintro e w4 ⟨A4, c4, rfl, o4, hb4⟩
  go_wp2_with fail
  go_ret3
  exact RetInts2.mk hr.out (own_below (ownsRow_le' o3 (Below.refl w.heap.size w).size) hb4) o4 (Lib.hid fun k hk => ⟨Nat.le_trans (Below.refl w.heap.size w).size (o3.lt k hk).1, (o3.lt k hk).2⟩) H3.size hb4.size (Bl.then H3 hb4)
end Go.Proofs.Ytpmdgbdeibeoaaa
