/-
  Texts of lasts: the program's and the reference's. The condition of the program's: the table of powers of ten holds what the library lays; names are any strings that Go can hold.
-/
import Derived.Test.YtijbaapecehamaaDoorTextF
import Derived.Test.YtijbaapecehamaaDoorLast
namespace Go.Proofs.YtijbaapecehamaaDoor
open Go.RowKit
set_option maxHeartbeats 3200000
set_option linter.unusedVariables false

/-- The text of a last whose parts are fit. -/
noncomputable def lastTx0 (s : ByteArray) (l b i h p : Int) : ByteArray := s ++ ⟨#[32]⟩ ++ footTx l b i h ++ ⟨#[32, 112, 105, 116, 99, 104, 32]⟩ ++ dec p
noncomputable def lastTx (s : ByteArray) (l b i h p : Int) : ByteArray := if lastOk s l b i h p = true then lastTx0 s l b i h p else ⟨#[]⟩
theorem tOne_is {s : ByteArray} {l b i h p : Int} {v : Bool} {w : World} (hs : s.size ≤ maxLen) (hv : lastOk s l b i h p = v) :
    Calls Tryd.prog 74 #[.agg #[.string s, .int .i64 l, .int .i64 b, .int .i64 i, .int .i64 h, .int .i64 p]] w fun e w' => e = .returned (.bool v) ∧ Below w.heap.size w w' := by
  subst hv
  exact l04One_any _ _ _ _ _ _ _ hs
theorem tValid_is {s : ByteArray} {l b i h p : Int} {v : Bool} {w : World} (hs : s.size ≤ maxLen) (hv : lastOk s l b i h p = v) :
    Calls Tryd.prog 76 #[.agg #[.string s, .int .i64 l, .int .i64 b, .int .i64 i, .int .i64 h, .int .i64 p]] w fun e w' => e = .returned (.bool v) ∧ Below w.heap.size w w' := by
  subst hv
  exact validLast_any _ _ _ _ _ _ _ hs
theorem footTx_size (a b c d : Int) : (footTx a b c d).size ≤ 88 := by
  unfold footTx
  split
  · rename_i h; exact joinT_size _ (footOk_i64 h)
  · exact Nat.zero_le _
set_option maxRecDepth 100000 in
theorem l04Text_any (s : ByteArray) (l b i h p : Int) (hp0 : -9223372036854775808 ≤ p ∧ p ≤ 9223372036854775807) (hok : footOk l b i h = true) (hs : s.size ≤ 4294967296) (w : World) :
    Calls Tryd.prog 75 #[.agg #[.string s, .int .i64 l, .int .i64 b, .int .i64 i, .int .i64 h, .int .i64 p]] w fun e w' => e = .returned (.string (lastTx0 s l b i h p)) ∧ Below w.heap.size w w' := by
  have hft := Lib.hid (show footTx l b i h = joinT [l, b, i, h] by rw [footTx, hok]; rfl)
  have hI := footOk_i64 hok
  have sa := footTx_size l b i h
  have sb := dec_size hp0.1 hp0.2
  have q0 : ¬ (9223372036854775807 < s.size + 1) := by omega
  have q1 : ¬ (9223372036854775807 < s.size + 1 + (footTx l b i h).size) := by omega
  have q2 : ¬ (9223372036854775807 < s.size + 1 + (footTx l b i h).size + 7) := by omega
  have q3 : ¬ (9223372036854775807 < s.size + 1 + (footTx l b i h).size + 7 + (dec p).size) := by omega
  clear sa sb
  have hfo := fun (W : World) => (show Calls Tryd.prog 66 #[.agg #[.int .i64 l, .int .i64 b, .int .i64 i, .int .i64 h]] W fun e w' => e = .returned (.string (footTx l b i h)) ∧ Below W.heap.size W w' by
    rw [hft.out]; exact l02Text_any _ _ _ _ (hI l (by simp)) (hI b (by simp)) (hI i (by simp)) (hI h (by simp)) W)
  go_enter Tryd.func75, Tryd.ntmps75
  go_wp2_with fail
  have BX := Blk.new w 48 #[.string s, .int .i64 l, .int .i64 b, .int .i64 i, .int .i64 h, .int .i64 p]
  have HW : Below w.heap.size w (w.alloc (.cells #[.string s, .int .i64 l, .int .i64 b, .int .i64 i, .int .i64 h, .int .i64 p] 48)) := by go_grown
  generalize w.alloc (.cells #[.string s, .int .i64 l, .int .i64 b, .int .i64 i, .int .i64 h, .int .i64 p] 48) = wr at *
  have kX := BX.cell
  have lX := BX.lt
  refine wp_region_held_drew (S := (fun wz => Below wr.heap.size wr wz ∧ ∀ b o, b < wr.heap.size → wz.cell? ⟨b, o, none⟩ = wr.cell? ⟨b, o, none⟩)) (by kernel_rfl) (old_of (Below.drew (Below.refl _ _))) (fun hHeld => ?_)
  refine wpAnyH_take (i := 0) (oi := ?_) (v := ?_) ?_ (by kernel_rfl) (by kernel_rfl) (by kernel_rfl) ?_ (Or.inl ⟨?_, ?_⟩) (by assumption) ?_
  rotate_left 2
  · (simp only [List.getElem?_toArray, List.getElem?_cons_zero]; rfl)
  · exact fun _ _ _ h => h
  · rfl
  · intro w hSw
    (try dsimp only at hSw)
    go_simp
    try with_reducible rfl
  simp only [put_arr, List.set_cons_zero, List.set_cons_succ]
  refine wpAnyH_take (i := 1) (oi := ?_) (v := ?_) ?_ (by kernel_rfl) (by kernel_rfl) (by kernel_rfl) ?_ (Or.inl ⟨?_, ?_⟩) (by assumption) ?_
  rotate_left 2
  · (simp only [List.getElem?_toArray, List.getElem?_cons_zero, List.getElem?_cons_succ]; rfl)
  · exact fun _ _ _ h => h
  · rfl
  · intro w hSw
    (try dsimp only at hSw)
    go_simp
    try with_reducible rfl
  simp only [put_arr, List.set_cons_zero, List.set_cons_succ]
  refine wpAnyH_take (i := 2) (oi := ?_) (v := ?_) ?_ (by kernel_rfl) (by kernel_rfl) (by kernel_rfl) ?_ (Or.inl ⟨?_, ?_⟩) (by assumption) ?_
  rotate_left 2
  · (simp only [List.getElem?_toArray, List.getElem?_cons_zero, List.getElem?_cons_succ]; rfl)
  · exact fun _ _ _ h => h
  · rfl
  · intro w hSw
    (try dsimp only at hSw)
    go_simp
    try with_reducible rfl
  simp only [put_arr, List.set_cons_zero, List.set_cons_succ]
  refine wpAnyH_take (i := 3) (oi := ?_) (v := ?_) ?_ (by kernel_rfl) (by kernel_rfl) (by kernel_rfl) ?_ (Or.inl ⟨?_, ?_⟩) (by assumption) ?_
  rotate_left 2
  · (simp only [List.getElem?_toArray, List.getElem?_cons_zero, List.getElem?_cons_succ]; rfl)
  · exact fun _ _ _ h => h
  · rfl
  · intro w hSw
    (try dsimp only at hSw)
    go_simp
    try with_reducible rfl
  simp only [put_arr, List.set_cons_zero, List.set_cons_succ]
  refine wpAnyH_take (i := 8) (oi := ?_) (v := ?_) ?_ (by kernel_rfl) (by kernel_rfl) (by kernel_rfl) ?_ (Or.inl ⟨?_, ?_⟩) (by assumption) ?_
  rotate_left 2
  · (simp only [List.getElem?_toArray, List.getElem?_cons_zero, List.getElem?_cons_succ]; rfl)
  · exact fun _ _ _ h => h
  · rfl
  · intro w hSw
    (try dsimp only at hSw)
    go_simp
    try with_reducible rfl
  simp only [put_arr, List.set_cons_zero, List.set_cons_succ]
  refine wpAnyH_take (i := 9) (oi := ?_) (v := ?_) ?_ (by kernel_rfl) (by kernel_rfl) (by kernel_rfl) ?_ (Or.inl ⟨?_, ?_⟩) (by assumption) ?_
  rotate_left 2
  · (simp only [List.getElem?_toArray, List.getElem?_cons_zero, List.getElem?_cons_succ]; rfl)
  · exact fun _ _ _ h => h
  · rfl
  · intro w hSw
    (try dsimp only at hSw)
    go_simp
    try with_reducible rfl
  simp only [put_arr, List.set_cons_zero, List.set_cons_succ]
  refine wpAnyH_ready (rs := [4]) (by kernel_rfl) (by simp) ?_
  refine AllReadyH.cons (o := ?_) ?_ (fun K hK => ?_) AllReadyH.nil
  rotate_left
  · (simp only [List.getElem?_toArray, List.getElem?_cons_zero, List.getElem?_cons_succ]; rfl)
  rw [if_pos (by rfl)]
  go_simp
  (with_reducible refine (l04Foot_any _ _ _ _ _ _ _).mono ?_)
  rintro e wq1 ⟨rfl, hq1⟩
  have HZ1 := Bl.then (w := wr) hHeld.1 hq1
  go_wp2_with fail
  refine hK.out _ _ (old_of HZ1) (fun hHeld2 => ?_)
  clear hK K hHeld
  have hHeld := hHeld2
  clear hHeld2
  refine wpAnyH_ready (rs := [5]) (by kernel_rfl) (by simp) ?_
  refine AllReadyH.cons (o := ?_) ?_ (fun K hK => ?_) AllReadyH.nil
  rotate_left
  · (simp only [List.getElem?_toArray, List.getElem?_cons_zero, List.getElem?_cons_succ]; rfl)
  rw [if_pos (by rfl)]
  go_simp
  (with_reducible refine (hfo _).mono ?_)
  rintro e wq2 ⟨rfl, hq2⟩
  have HZ2 := Bl.then (w := wr) HZ1 hq2
  go_wp2_with fail
  refine hK.out _ _ (old_of HZ2) (fun hHeld2 => ?_)
  clear hK K hHeld
  have hHeld := hHeld2
  clear hHeld2
  refine wpAnyH_take (i := 6) (oi := ?_) (v := ?_) ?_ (by kernel_rfl) (by kernel_rfl) (by kernel_rfl) ?_ (Or.inl ⟨?_, ?_⟩) (by assumption) ?_
  rotate_left 2
  · (simp only [List.getElem?_toArray, List.getElem?_cons_zero, List.getElem?_cons_succ]; rfl)
  · exact fun _ _ _ h => h
  · rfl
  · intro w hSw
    (try dsimp only at hSw)
    go_simp
    try with_reducible rfl
  simp only [put_arr, List.set_cons_zero, List.set_cons_succ]
  refine wpAnyH_take (i := 7) (oi := ?_) (v := ?_) ?_ (by kernel_rfl) (by kernel_rfl) (by kernel_rfl) ?_ (Or.inl ⟨?_, ?_⟩) (by assumption) ?_
  rotate_left 2
  · (simp only [List.getElem?_toArray, List.getElem?_cons_zero, List.getElem?_cons_succ]; rfl)
  · exact fun _ _ _ h => h
  · rfl
  · intro w hSw
    (try dsimp only at hSw)
    go_simp
    try with_reducible rfl
  simp only [put_arr, List.set_cons_zero, List.set_cons_succ]
  refine wpAnyH_ready (rs := [10]) (by kernel_rfl) (by simp) ?_
  refine AllReadyH.cons (o := ?_) ?_ (fun K hK => ?_) AllReadyH.nil
  rotate_left
  · (simp only [List.getElem?_toArray, List.getElem?_cons_zero, List.getElem?_cons_succ]; rfl)
  rw [if_pos (by rfl)]
  go_simp
  (with_reducible refine (l01Dec_d p hp0.1 hp0.2 _).mono ?_)
  rintro e wq3 ⟨rfl, hq3⟩
  have HZ3 := Bl.then (w := wr) HZ2 hq3
  go_wp2_with fail
  refine hK.out _ _ (old_of HZ3) (fun hHeld2 => ?_)
  clear hK K hHeld
  have hHeld := hHeld2
  clear hHeld2
  refine wpAnyH_take (i := 11) (oi := ?_) (v := ?_) ?_ (by kernel_rfl) (by kernel_rfl) (by kernel_rfl) ?_ (Or.inl ⟨?_, ?_⟩) (by assumption) ?_
  rotate_left 2
  · (simp only [List.getElem?_toArray, List.getElem?_cons_zero, List.getElem?_cons_succ]; rfl)
  · exact fun _ _ _ h => h
  · rfl
  · intro w hSw
    (try dsimp only at hSw)
    go_simp
    try with_reducible rfl
  simp only [put_arr, List.set_cons_zero, List.set_cons_succ]
  refine wpAnyH_take (i := 12) (oi := ?_) (v := ?_) ?_ (by kernel_rfl) (by kernel_rfl) (by kernel_rfl) ?_ (Or.inl ⟨?_, ?_⟩) (by assumption) ?_
  rotate_left 2
  · (simp only [List.getElem?_toArray, List.getElem?_cons_zero, List.getElem?_cons_succ]; rfl)
  · exact fun _ _ _ h => h
  · rfl
  · intro w hSw
    (try dsimp only at hSw)
    go_simp
    try with_reducible rfl
  simp only [put_arr, List.set_cons_zero, List.set_cons_succ]
  refine wpAnyH_done (by kernel_rfl) ?_ _
  clear hHeld
  go_wp2_with fail
  go_ret
  exact ⟨rfl, Bl.then HW HZ3⟩
set_option maxRecDepth 100000 in
theorem sLastText_any (s : ByteArray) (l b i h p : Int) (hs : s.size ≤ maxLen) (w : World) :
    Calls Tryd.prog 36 #[.agg #[.string s, .int .i64 l, .int .i64 b, .int .i64 i, .int .i64 h, .int .i64 p]] w fun e w' => e = .returned (.string (lastTx s l b i h p)) ∧ Below w.heap.size w w' := by
  cases hb : lastOk s l b i h p
  · have hr := Lib.hid (show lastTx s l b i h p = ⟨#[]⟩ by rw [lastTx, hb]; rfl)
    go_enter Tryd.func36, Tryd.ntmps36
    go_wp2_with fail
    refine (tOne_is hs hb).mono ?_
    rintro e w1 ⟨rfl, h1⟩
    have BX := (Blk.new w 48 #[.string s, .int .i64 l, .int .i64 b, .int .i64 i, .int .i64 h, .int .i64 p]).below h1
    have HW : Below w.heap.size w w1 := Bl.then (by go_grown) h1
    clear h1
    have kX := BX.cell
    have lX := BX.lt
    go_wp2_with fail
    go_ret
    exact ⟨retS hr.out.symm, HW⟩
  · have hr := Lib.hid (show lastTx s l b i h p = lastTx0 s l b i h p by rw [lastTx, hb]; rfl)
    obtain ⟨hnm, _, _, _, _, hpp⟩ := lastOk_bd hb
    have hok : footOk l b i h = true := by simp only [lastOk, Bool.and_eq_true] at hb; exact hb.1.2
    have hs2 : s.size ≤ 4294967296 := by have := (@of_decide_eq_true _ (Classical.propDecidable _) hnm : NameOk s).2.1; omega
    have hp0 : -9223372036854775808 ≤ p ∧ p ≤ 9223372036854775807 := by omega
    go_enter Tryd.func36, Tryd.ntmps36
    go_wp2_with fail
    refine (tOne_is hs hb).mono ?_
    rintro e w1 ⟨rfl, h1⟩
    have BX := (Blk.new w 48 #[.string s, .int .i64 l, .int .i64 b, .int .i64 i, .int .i64 h, .int .i64 p]).below h1
    have HW : Below w.heap.size w w1 := Bl.then (by go_grown) h1
    clear h1
    have kX := BX.cell
    have lX := BX.lt
    go_wp2_with fail
    refine (l04Text_any _ _ _ _ _ _ hp0 hok hs2 _).mono ?_
    rintro e w2 ⟨rfl, h2⟩
    replace HW := Bl.then HW h2
    go_wp2_with fail
    go_ret
    exact ⟨retS hr.out.symm, HW⟩
set_option maxRecDepth 100000 in
theorem LastText_any (s : ByteArray) (l b i h p : Int) (hs : s.size ≤ maxLen) (w : World) (hp : PowAt w) :
    Calls Tryd.prog 38 #[.agg #[.string s, .int .i64 l, .int .i64 b, .int .i64 i, .int .i64 h, .int .i64 p]] w fun e w' => e = .returned (.string (lastTx s l b i h p)) ∧ Below w.heap.size w w' := by
  cases hb : lastOk s l b i h p
  · have hr := Lib.hid (show lastTx s l b i h p = ⟨#[]⟩ by rw [lastTx, hb]; rfl)
    go_enter Tryd.func38, Tryd.ntmps38
    go_wp2_with fail
    refine (tValid_is hs hb).mono ?_
    rintro e w1 ⟨rfl, h1⟩
    have BX := (Blk.new w 48 #[.string s, .int .i64 l, .int .i64 b, .int .i64 i, .int .i64 h, .int .i64 p]).below h1
    have HW : Below w.heap.size w w1 := Bl.then (by go_grown) h1
    clear h1
    have kX := BX.cell
    have lX := BX.lt
    go_wp2_with fail
    go_ret
    exact ⟨retS hr.out.symm, HW⟩
  · have hr := Lib.hid (show lastTx s l b i h p = lastTx0 s l b i h p by rw [lastTx, hb]; rfl)
    obtain ⟨hnm, _, _, _, _, hpp⟩ := lastOk_bd hb
    have hok : footOk l b i h = true := by simp only [lastOk, Bool.and_eq_true] at hb; exact hb.1.2
    have hs2 : s.size ≤ 4294967296 := by have := (@of_decide_eq_true _ (Classical.propDecidable _) hnm : NameOk s).2.1; omega
    have hp0 : -9223372036854775808 ≤ p ∧ p ≤ 9223372036854775807 := by omega
    go_enter Tryd.func38, Tryd.ntmps38
    go_wp2_with fail
    refine (tValid_is hs hb).mono ?_
    rintro e w1 ⟨rfl, h1⟩
    have BX := (Blk.new w 48 #[.string s, .int .i64 l, .int .i64 b, .int .i64 i, .int .i64 h, .int .i64 p]).below h1
    have HW : Below w.heap.size w w1 := Bl.then (by go_grown) h1
    clear h1
    have kX := BX.cell
    have lX := BX.lt
    go_wp2_with fail
    have sa := footTx_size l b i h
    have sb := dec_size hp0.1 hp0.2
    have q0 : ¬ (9223372036854775807 < s.size + 1) := by omega
    have q1 : ¬ (9223372036854775807 < s.size + 1 + (footTx l b i h).size) := by omega
    have q2 : ¬ (9223372036854775807 < s.size + 1 + (footTx l b i h).size + 7) := by omega
    have q3 : ¬ (9223372036854775807 < s.size + 1 + (footTx l b i h).size + 7 + (dec p).size) := by omega
    clear sa sb
    have hpr := hp.below HW
    generalize w1 = wr at *
    refine wp_region_held_drew (S := (fun wz => Below wr.heap.size wr wz ∧ ∀ b o, b < wr.heap.size → wz.cell? ⟨b, o, none⟩ = wr.cell? ⟨b, o, none⟩)) (by kernel_rfl) (old_of (Below.drew (Below.refl _ _))) (fun hHeld => ?_)
    refine wpAnyH_take (i := 0) (oi := ?_) (v := ?_) ?_ (by kernel_rfl) (by kernel_rfl) (by kernel_rfl) ?_ (Or.inl ⟨?_, ?_⟩) (by assumption) ?_
    rotate_left 2
    · (simp only [List.getElem?_toArray, List.getElem?_cons_zero]; rfl)
    · exact fun _ _ _ h => h
    · rfl
    · intro w hSw
      (try dsimp only at hSw)
      go_simp
      try with_reducible rfl
    simp only [put_arr, List.set_cons_zero, List.set_cons_succ]
    refine wpAnyH_take (i := 1) (oi := ?_) (v := ?_) ?_ (by kernel_rfl) (by kernel_rfl) (by kernel_rfl) ?_ (Or.inl ⟨?_, ?_⟩) (by assumption) ?_
    rotate_left 2
    · (simp only [List.getElem?_toArray, List.getElem?_cons_zero, List.getElem?_cons_succ]; rfl)
    · exact fun _ _ _ h => h
    · rfl
    · intro w hSw
      (try dsimp only at hSw)
      go_simp
      try with_reducible rfl
    simp only [put_arr, List.set_cons_zero, List.set_cons_succ]
    refine wpAnyH_take (i := 2) (oi := ?_) (v := ?_) ?_ (by kernel_rfl) (by kernel_rfl) (by kernel_rfl) ?_ (Or.inl ⟨?_, ?_⟩) (by assumption) ?_
    rotate_left 2
    · (simp only [List.getElem?_toArray, List.getElem?_cons_zero, List.getElem?_cons_succ]; rfl)
    · exact fun _ _ _ h => h
    · rfl
    · intro w hSw
      (try dsimp only at hSw)
      go_simp
      try with_reducible rfl
    simp only [put_arr, List.set_cons_zero, List.set_cons_succ]
    refine wpAnyH_take (i := 3) (oi := ?_) (v := ?_) ?_ (by kernel_rfl) (by kernel_rfl) (by kernel_rfl) ?_ (Or.inl ⟨?_, ?_⟩) (by assumption) ?_
    rotate_left 2
    · (simp only [List.getElem?_toArray, List.getElem?_cons_zero, List.getElem?_cons_succ]; rfl)
    · exact fun _ _ _ h => h
    · rfl
    · intro w hSw
      (try dsimp only at hSw)
      go_simp
      try with_reducible rfl
    simp only [put_arr, List.set_cons_zero, List.set_cons_succ]
    refine wpAnyH_take (i := 8) (oi := ?_) (v := ?_) ?_ (by kernel_rfl) (by kernel_rfl) (by kernel_rfl) ?_ (Or.inl ⟨?_, ?_⟩) (by assumption) ?_
    rotate_left 2
    · (simp only [List.getElem?_toArray, List.getElem?_cons_zero, List.getElem?_cons_succ]; rfl)
    · exact fun _ _ _ h => h
    · rfl
    · intro w hSw
      (try dsimp only at hSw)
      go_simp
      try with_reducible rfl
    simp only [put_arr, List.set_cons_zero, List.set_cons_succ]
    refine wpAnyH_take (i := 9) (oi := ?_) (v := ?_) ?_ (by kernel_rfl) (by kernel_rfl) (by kernel_rfl) ?_ (Or.inl ⟨?_, ?_⟩) (by assumption) ?_
    rotate_left 2
    · (simp only [List.getElem?_toArray, List.getElem?_cons_zero, List.getElem?_cons_succ]; rfl)
    · exact fun _ _ _ h => h
    · rfl
    · intro w hSw
      (try dsimp only at hSw)
      go_simp
      try with_reducible rfl
    simp only [put_arr, List.set_cons_zero, List.set_cons_succ]
    refine wpAnyH_ready (rs := [4]) (by kernel_rfl) (by simp) ?_
    refine AllReadyH.cons (o := ?_) ?_ (fun K hK => ?_) AllReadyH.nil
    rotate_left
    · (simp only [List.getElem?_toArray, List.getElem?_cons_zero, List.getElem?_cons_succ]; rfl)
    rw [if_pos (by rfl)]
    go_simp
    (with_reducible refine (Lfoot_any _ _ _ _ _ _ _).mono ?_)
    rintro e wq1 ⟨rfl, hq1⟩
    have HZ1 := Bl.then (w := wr) hHeld.1 hq1
    go_wp2_with fail
    refine hK.out _ _ (old_of HZ1) (fun hHeld2 => ?_)
    clear hK K hHeld
    have hHeld := hHeld2
    clear hHeld2
    refine wpAnyH_ready (rs := [5]) (by kernel_rfl) (by simp) ?_
    refine AllReadyH.cons (o := ?_) ?_ (fun K hK => ?_) AllReadyH.nil
    rotate_left
    · (simp only [List.getElem?_toArray, List.getElem?_cons_zero, List.getElem?_cons_succ]; rfl)
    rw [if_pos (by rfl)]
    go_simp
    (with_reducible refine (FootText_any _ _ _ _ _ (hpr.below (HZ1))).mono ?_)
    rintro e wq2 ⟨rfl, hq2⟩
    have HZ2 := Bl.then (w := wr) HZ1 hq2
    go_wp2_with fail
    refine hK.out _ _ (old_of HZ2) (fun hHeld2 => ?_)
    clear hK K hHeld
    have hHeld := hHeld2
    clear hHeld2
    refine wpAnyH_take (i := 6) (oi := ?_) (v := ?_) ?_ (by kernel_rfl) (by kernel_rfl) (by kernel_rfl) ?_ (Or.inl ⟨?_, ?_⟩) (by assumption) ?_
    rotate_left 2
    · (simp only [List.getElem?_toArray, List.getElem?_cons_zero, List.getElem?_cons_succ]; rfl)
    · exact fun _ _ _ h => h
    · rfl
    · intro w hSw
      (try dsimp only at hSw)
      go_simp
      try with_reducible rfl
    simp only [put_arr, List.set_cons_zero, List.set_cons_succ]
    refine wpAnyH_take (i := 7) (oi := ?_) (v := ?_) ?_ (by kernel_rfl) (by kernel_rfl) (by kernel_rfl) ?_ (Or.inl ⟨?_, ?_⟩) (by assumption) ?_
    rotate_left 2
    · (simp only [List.getElem?_toArray, List.getElem?_cons_zero, List.getElem?_cons_succ]; rfl)
    · exact fun _ _ _ h => h
    · rfl
    · intro w hSw
      (try dsimp only at hSw)
      go_simp
      try with_reducible rfl
    simp only [put_arr, List.set_cons_zero, List.set_cons_succ]
    refine wpAnyH_ready (rs := [10]) (by kernel_rfl) (by simp) ?_
    refine AllReadyH.cons (o := ?_) ?_ (fun K hK => ?_) AllReadyH.nil
    rotate_left
    · (simp only [List.getElem?_toArray, List.getElem?_cons_zero, List.getElem?_cons_succ]; rfl)
    rw [if_pos (by rfl)]
    go_simp
    (with_reducible refine (Decimal_d p hp0.1 hp0.2 _ (hpr.below (HZ2))).mono ?_)
    rintro e wq3 ⟨rfl, hq3⟩
    have HZ3 := Bl.then (w := wr) HZ2 hq3
    go_wp2_with fail
    refine hK.out _ _ (old_of HZ3) (fun hHeld2 => ?_)
    clear hK K hHeld
    have hHeld := hHeld2
    clear hHeld2
    refine wpAnyH_take (i := 11) (oi := ?_) (v := ?_) ?_ (by kernel_rfl) (by kernel_rfl) (by kernel_rfl) ?_ (Or.inl ⟨?_, ?_⟩) (by assumption) ?_
    rotate_left 2
    · (simp only [List.getElem?_toArray, List.getElem?_cons_zero, List.getElem?_cons_succ]; rfl)
    · exact fun _ _ _ h => h
    · rfl
    · intro w hSw
      (try dsimp only at hSw)
      go_simp
      try with_reducible rfl
    simp only [put_arr, List.set_cons_zero, List.set_cons_succ]
    refine wpAnyH_take (i := 12) (oi := ?_) (v := ?_) ?_ (by kernel_rfl) (by kernel_rfl) (by kernel_rfl) ?_ (Or.inl ⟨?_, ?_⟩) (by assumption) ?_
    rotate_left 2
    · (simp only [List.getElem?_toArray, List.getElem?_cons_zero, List.getElem?_cons_succ]; rfl)
    · exact fun _ _ _ h => h
    · rfl
    · intro w hSw
      (try dsimp only at hSw)
      go_simp
      try with_reducible rfl
    simp only [put_arr, List.set_cons_zero, List.set_cons_succ]
    refine wpAnyH_done (by kernel_rfl) ?_ _
    clear hHeld
    replace HW := Bl.then HW HZ3
    go_wp2_with fail
    go_ret
    exact ⟨retS hr.out.symm, HW⟩
end Go.Proofs.YtijbaapecehamaaDoor
