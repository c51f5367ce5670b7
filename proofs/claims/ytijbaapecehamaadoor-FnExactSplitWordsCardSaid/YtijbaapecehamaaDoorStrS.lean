/-
  Slices of strings of the laws: compared, marked, held; the condition of a slice argument is that it reads as the given list.
-/
import Derived.Test.YtijbaapecehamaaDoorTextF
import Derived.Laws.IdiomStrings
import Derived.Deep.RegionHeld3
import Derived.BigQuiet
import Derived.Deep.QuietTactic
import Derived.PlainAid
namespace Go.Proofs.YtijbaapecehamaaDoor
open Go.RowKit Go.PlainAid
set_option maxHeartbeats 1600000
set_option linter.unusedVariables false

def sx (ds : List ByteArray) (k : Nat) : ByteArray := ds.getD k ⟨#[]⟩
theorem sx_eq {ds : List ByteArray} {k : Nat} (h : k < ds.length) : ds[k] = sx ds k := by
  unfold sx; rw [List.getD_eq_getElem?_getD, List.getElem?_eq_getElem h]; rfl
theorem sx_set {ds : List ByteArray} {k j : Nat} {x : ByteArray} (hk : k < ds.length) : sx (ds.set k x) j = if j = k then x else sx ds j := by
  unfold sx
  rw [List.getD_eq_getElem?_getD, List.getD_eq_getElem?_getD, List.getElem?_set]
  by_cases h : j = k
  · subst h; simp [hk]
  · have h' : ¬ k = j := fun e => h e.symm
    simp [h, h']
theorem sx_set_ne {ds : List ByteArray} {i k : Nat} {x : ByteArray} (h : i ≠ k) : sx (ds.set i x) k = sx ds k := by
  unfold sx; rw [List.getD_eq_getElem?_getD, List.getD_eq_getElem?_getD, List.getElem?_set_ne h]
theorem strs_get {ds : List ByteArray} {j : Nat} (h : j < ds.length) : (strVs ds)[j]? = some (.string (sx ds j)) := by
  simp [strVs, List.getElem?_eq_getElem h, sx_eq h]
theorem strs_len (ds : List ByteArray) : (strVs ds).length = ds.length := by simp [strVs]
theorem strs_setAt (ds : List ByteArray) (k : Nat) (x : ByteArray) : (strVs ds).set k (.string x) = strVs (ds.set k x) := by simp [strVs, List.map_set]
theorem own_strs_len {w : World} {base : Nat} {E : TypeId} {v : Value} {n : Nat} {ds : List ByteArray} (h : w.ownsRow base E 1 v n (strVs ds)) : ds.length = n := by have := h.1; simpa [strVs] using this
theorem Rd.strs_length {w : World} {A : Option Addr} {n : Nat} {ds : List ByteArray} (h : Rd w 1 A n (strVs ds)) : ds.length = n := by have := h.1; simpa [strVs] using this
theorem Rd.str {w : World} {A : Option Addr} {n : Nat} {ds : List ByteArray} (h : Rd w 1 A n (strVs ds)) {k : Nat} (hk : k < n) :
    ∃ b off, A = some ⟨b, off, none⟩ ∧ b < w.heap.size ∧ w.cell? ⟨b, off + k, none⟩ = some (.string (sx ds k)) := by
  obtain ⟨b, off, e, hb, hc⟩ := h.2 (by omega)
  exact ⟨b, off, e, hb, hc k _ (strs_get (by rw [h.strs_length]; exact hk))⟩
/-- The decimal text of a number ahead of t. -/
def mtN (q : Nat) (t : ByteArray) : ByteArray := if q = 0 then t else mtN (q / 10) (⟨#[48 + UInt8.ofNat (q % 10)]⟩ ++ t)
  termination_by q
  decreasing_by omega
theorem mtN_step {q : Nat} (h : 0 < q) (t : ByteArray) : mtN q t = mtN (q / 10) (⟨#[48 + UInt8.ofNat (q % 10)]⟩ ++ t) := by
  rw [mtN, if_neg (by omega)]
theorem mtN_zero (t : ByteArray) : mtN 0 t = t := by rw [mtN, if_pos rfl]
def mt (k : Int) : ByteArray := ⟨#[109]⟩ ++ mtN k.toNat ⟨#[]⟩
theorem grow_of_below {w w' : World} (hb : Below w.heap.size w w') (row : Option Nat) : w.grownBy w' row := ⟨hb.os, hb.tape, hb.output, hb.size, fun i hi _ => hb.block i hi⟩
theorem ret_str {a b : ByteArray} (h : a = b) : Ending.returned (.string a) = .returned (.string b) := by rw [h]
set_option maxRecDepth 100000 in
theorem markText_any (m : Int) (w : World) (h1 : 1 ≤ m) (h2 : m ≤ 1000000000000000) :
    Calls Tryd.prog 65 #[.int .i64 m] w fun e w' => e = .returned (.string (mt m)) ∧ Below w.heap.size w w' := by
  have hm := Lib.hid (show mt m = ⟨#[109]⟩ ++ mtN m.toNat ⟨#[]⟩ from rfl)
  obtain ⟨k, hk⟩ : ∃ k : Nat, m = k := ⟨m.toNat, by omega⟩
  subst hk
  have hkt := Lib.hid (show ((k : Int)).toNat = k from rfl)
  go_enter Tryd.func65, Tryd.ntmps65
  go_wp2_with fail
  go_loopw [0, 3] (fun i s wr => ∃ (q : Nat) (t : ByteArray), t.size + q ≤ k ∧ i = .int .i64 q ∧ s = .string t ∧ Hid (mtN q t = mtN k ⟨#[]⟩) ∧ Below w.heap.size w wr) (fun i _ _ => (intOf i).toNat)
  case atStart => exact ⟨k, _, by rw [show (ByteArray.mk #[]).size = 0 from rfl]; omega, rfl, rfl, Lib.hid rfl, Below.refl _ _⟩
  case round =>
    obtain ⟨q, t, hqk, rfl, rfl, hqt, HB⟩ := hrel
    by_cases hlt : 0 < q
    · have hqi : (0 : Int) < (q : Int) := by omega
      have hst := Lib.hid ((mtN_step hlt t).symm.trans hqt.out)
      have hb0 : (0 : Int) ≤ (q : Int) % 10 := by omega
      have hb1 : (q : Int) % 10 < 10 := by omega
      have e8 : ((UInt8.ofNat (48 + (q : Int) % 10).toNat).toNat : Int) = 48 + (q : Int) % 10 := by rw [UInt8.toNat_ofNat_of_lt' (by show _ < 256; omega)]; omega
      have hcell : (wr.alloc (.cells #[.int .u8 (48 + (q : Int) % 10)] 5)).cell? ⟨wr.heap.size, 0, none⟩ = some (.int .u8 ((UInt8.ofNat (48 + (q : Int) % 10).toNat).toNat : Int)) := by
        rw [e8]; exact (Blk.new wr 5 #[.int .u8 (48 + (q : Int) % 10)]).cell 0
      have hcv := run_convert_bytes_back (P := Tryd.prog) (wr.alloc (.cells #[.int .u8 (48 + (q : Int) % 10)] 5)) 86 9 5 ⟨wr.heap.size, 0, none⟩ 1 [UInt8.ofNat (48 + (q : Int) % 10).toNat] Tryd.underlying86 Tryd.underlying5 Tryd.underlying9 (fun j hj => by
        obtain rfl : j = 0 := by simpa using hj
        simpa [Addr.add] using hcell)
      simp only [List.length_cons, List.length_nil, Nat.zero_add] at hcv
      have HB2 := Bl.alloc HB (.cells #[.int .u8 (48 + (q : Int) % 10)] 5)
      clear hcell e8
      go_wp2_with fail
      go_roundw
      case rel => exact ⟨q / 10, _, by rw [ByteArray.size_append, show (ByteArray.mk #[48 + UInt8.ofNat (q % 10)]).size = 1 from rfl]; omega, by go_num, rfl, hst, HB2⟩
      case measure => simp [intOf]; omega
    · have hz := Lib.hid (show q = 0 by omega)
      have hqi : ¬ (0 : Int) < (q : Int) := by omega
      go_wp2_with fail
      go_ret
      refine ⟨ret_str ?_, HB⟩
      rw [hm.out, hkt.out, ← hqt.out, hz.out, mtN_zero]
theorem eqStringS_same (A A' : Option Addr) (n c c' : Nat) (ds : List ByteArray) (w : World) (h : Rd w 1 A n (strVs ds)) (h' : Rd w 1 A' n (strVs ds)) (hn : n ≤ 9223372036854775807) :
    Calls Tryd.prog 26 #[.slice A n c, .slice A' n c'] w fun e w' => e = .returned (.bool true) ∧ Below w.heap.size w w' := by
  go_enter Tryd.func26, Tryd.ntmps26
  go_wp2_with fail
  go_loopw [5] (fun i wr => ∃ k : Nat, k ≤ n ∧ i = .int .i64 k ∧ Below w.heap.size w wr) (fun i _ => n - (intOf i).toNat)
  case atStart => exact ⟨0, by omega, rfl, Below.refl _ _⟩
  case round =>
    obtain ⟨k, hk, rfl, hb⟩ := hrel
    by_cases hlt : k < n
    · obtain ⟨b, off, rfl, hbl, hcell⟩ := (h.below hb).str hlt
      obtain ⟨b', off', rfl, hbl', hcell'⟩ := (h'.below hb).str hlt
      go_wp2_with fail
      go_quiet (fail)
      go_wp2_with fail
      go_roundw
      case rel => exact ⟨k + 1, by omega, by go_num, below_drewN hb _⟩
      case measure => simp [intOf]; omega
    · go_wp2_with fail
      go_ret
      exact ⟨rfl, hb⟩
/-- The first k elements are the marks from m on. -/
def MarksStr (ys : List ByteArray) (m : Int) (k : Nat) : Prop := ∀ j, j < k → sx ys j = mt (m + (j : Int))
theorem MarksStr.step {ys : List ByteArray} {m : Int} {k : Nat} (h : MarksStr ys m k) (hk : k < ys.length) : MarksStr (ys.set k (mt (m + (k : Int)))) m (k + 1) := fun j hj => by
  rw [sx_set hk]
  by_cases e : j = k
  · subst e; simp
  · simp [e]; exact h j (by omega)
set_option maxRecDepth 100000 in
theorem markStringS_any (base : Nat) (g n c : Nat) (ds : List ByteArray) (m : Int) (w : World) (h : w.ownsRow base 9 1 (.slice (some ⟨g, 0, none⟩) n c) n (strVs ds)) (hn : n ≤ 1048577) (hm : 1 ≤ m ∧ m ≤ 100000000) :
    Calls Tryd.prog 27 #[.slice (some ⟨g, 0, none⟩) n c, .int .i64 m] w fun e w' => e = .returned (.int .i64 (m + n)) ∧ ∃ ys, MarksStr ys m n ∧ w'.ownsRow base 9 1 (.slice (some ⟨g, 0, none⟩) n c) n (strVs ys) ∧ w.grownBy w' (some g) := by
  obtain ⟨hm1, hm2⟩ := hm
  go_enter Tryd.func27, Tryd.ntmps27
  go_wp2_with fail
  go_loopw [1, 5] (fun q i wr => ∃ (k : Nat) (ys : List ByteArray), wr.ownsRow base 9 1 (.slice (some ⟨g, 0, none⟩) n c) n (strVs ys) ∧ k ≤ n ∧ i = .int .i64 k ∧ q = .int .i64 (m + k) ∧ w.grownBy wr (some g) ∧ MarksStr ys m k) (fun _ i _ => n - (intOf i).toNat)
  case atStart => exact ⟨0, ds, h, by omega, rfl, by simp, World.grownBy.refl _ _, fun j hj => by omega⟩
  case round =>
    obtain ⟨k, ys, ho0, hk, rfl, rfl, hg0, hma⟩ := hrel
    by_cases hlt : k < n
    · go_wp2_with fail
      refine (markText_any _ _ (by omega) (by omega)).mono ?_
      rintro e w2 ⟨rfl, hb2⟩
      have ho := own_below ho0 hb2
      have hg := gtrans hg0 (grow_of_below hb2 (some g))
      have hyl := Lib.hid (own_strs_len ho)
      have k0 := ho.cellAt k (by omega)
      rw [strs_get (by rw [hyl.out]; exact hlt)] at k0
      have hfr := ho.frozenAt k
      clear ho0 hg0 hb2
      go_wp2_with fail
      go_roundw
      case rel =>
        have hst := ho.stored k (.string (mt (m + (k : Int))))
        rw [strs_setAt] at hst
        exact ⟨k + 1, _, hst.1, by omega, by go_num, by go_num, gtrans hg hst.2, hma.step (by rw [hyl.out]; exact hlt)⟩
      case measure => simp [intOf]; omega
    · obtain rfl : k = n := by omega
      go_wp2_with fail
      go_ret
      exact ⟨rfl, ys, hma, ho0, hg0⟩
set_option maxRecDepth 100000 in
theorem heldStringS_any (A : Option Addr) (n c : Nat) (ys : List ByteArray) (m : Int) (w : World) (h : Rd w 1 A n (strVs ys)) (hma : MarksStr ys m n) (hn : n ≤ 1048577) (hm : 1 ≤ m ∧ m ≤ 100000000) :
    Calls Tryd.prog 28 #[.slice A n c, .int .i64 m] w fun e w' => e = .returned (.int .i64 (m + n)) ∧ Below w.heap.size w w' := by
  obtain ⟨hm1, hm2⟩ := hm
  go_enter Tryd.func28, Tryd.ntmps28
  go_wp2_with fail
  go_loopw [1, 5] (fun q i wr => ∃ (k : Nat), k ≤ n ∧ i = .int .i64 k ∧ q = .int .i64 (m + k) ∧ Below w.heap.size w wr) (fun _ i _ => n - (intOf i).toNat)
  case atStart => exact ⟨0, by omega, rfl, by simp, Below.refl _ _⟩
  case round =>
    obtain ⟨k, hk, rfl, rfl, HB⟩ := hrel
    by_cases hlt : k < n
    · obtain ⟨b, off, eA, hbl, h0⟩ := (h.below HB).str hlt
      subst eA
      rw [hma k hlt] at h0
      have b1 : 1 ≤ m + (k : Int) := by omega
      have b2 : m + (k : Int) ≤ 1000000000000000 := by omega
      go_wp2_with fail
      refine wp_region_held_drew (S := (fun wz => Below wr.heap.size wr wz ∧ ∀ b o, b < wr.heap.size → wz.cell? ⟨b, o, none⟩ = wr.cell? ⟨b, o, none⟩)) (by kernel_rfl) (old_of (Below.drew (Below.refl _ _))) (fun hHeld => ?_)
      refine wpAnyH_take (i := 0) (oi := ?_) (v := ?_) ?_ (by kernel_rfl) (by kernel_rfl) (by kernel_rfl) ?_ (Or.inl ⟨?_, ?_⟩) (by assumption) ?_
      rotate_left 2
      · (simp only [List.getElem?_toArray, List.getElem?_cons_zero]; rfl)
      · exact fun _ _ _ h => h
      · rfl
      · intro w hSw
        (try dsimp only at hSw)
        go_simp
        try with_reducible rfl
      simp only [put_arr, List.set_cons_zero, List.set_cons_succ]
      refine wpAnyH_take (i := 1) (oi := ?_) (v := ?_) ?_ (by kernel_rfl) (by kernel_rfl) (by kernel_rfl) ?_ (Or.inl ⟨?_, ?_⟩) (by assumption) ?_
      rotate_left 2
      · (simp only [List.getElem?_toArray, List.getElem?_cons_zero, List.getElem?_cons_succ]; rfl)
      · exact fun _ _ _ h => h
      · rfl
      · intro w hSw
        (try dsimp only at hSw)
        go_simp
        try with_reducible rfl
      simp only [put_arr, List.set_cons_zero, List.set_cons_succ]
      refine wpAnyH_take (i := 2) (oi := ?_) (v := ?_) ?_ (by kernel_rfl) (by kernel_rfl) (by kernel_rfl) ?_ (Or.inl ⟨?_, ?_⟩) (by assumption) ?_
      rotate_left 2
      · (simp only [List.getElem?_toArray, List.getElem?_cons_zero, List.getElem?_cons_succ]; rfl)
      · exact fun _ _ _ h => h
      · rfl
      · intro w hSw
        (try dsimp only at hSw)
        go_simp
        try with_reducible rfl
      simp only [put_arr, List.set_cons_zero, List.set_cons_succ]
      refine wpAnyH_take (i := 3) (oi := ?_) (v := ?_) ?_ (by kernel_rfl) (by kernel_rfl) (by kernel_rfl) ?_ (Or.inl ⟨?_, ?_⟩) (by assumption) ?_
      rotate_left 2
      · (simp only [List.getElem?_toArray, List.getElem?_cons_zero, List.getElem?_cons_succ]; rfl)
      · exact fun _ _ _ h => h
      · rfl
      · intro w hSw
        (try dsimp only at hSw)
        go_simp
        try with_reducible rfl
      simp only [put_arr, List.set_cons_zero, List.set_cons_succ]
      refine wpAnyH_take (i := 4) (oi := ?_) (v := ?_) ?_ (by kernel_rfl) (by kernel_rfl) (by kernel_rfl) ?_ (Or.inl ⟨?_, ?_⟩) (by assumption) ?_
      rotate_left 2
      · (simp only [List.getElem?_toArray, List.getElem?_cons_zero, List.getElem?_cons_succ]; rfl)
      · exact fun _ _ _ h => h
      · rfl
      · intro w hSw
        (try dsimp only at hSw)
        go_simp
        try with_reducible rfl
      simp only [put_arr, List.set_cons_zero, List.set_cons_succ]
      refine wpAnyH_ready (rs := [5]) (by kernel_rfl) (by simp) ?_
      refine AllReadyH.cons (o := ?_) ?_ (fun K hK => ?_) AllReadyH.nil
      rotate_left
      · (simp only [List.getElem?_toArray, List.getElem?_cons_zero, List.getElem?_cons_succ]; rfl)
      rw [if_pos (by rfl)]
      go_simp
      (with_reducible refine (markText_any _ _ b1 b2).mono ?_)
      rintro e w2 ⟨rfl, hb2⟩
      have HZ := Bl.then (w := wr) hHeld.1 hb2
      go_wp2_with fail
      refine hK.out _ _ (old_of HZ) (fun hHeld2 => ?_)
      clear hK K hHeld
      have hHeld := hHeld2
      clear hHeld2
      refine wpAnyH_take (i := 6) (oi := ?_) (v := ?_) ?_ (by kernel_rfl) (by kernel_rfl) (by kernel_rfl) ?_ (Or.inl ⟨?_, ?_⟩) (by assumption) ?_
      rotate_left 2
      · (simp only [List.getElem?_toArray, List.getElem?_cons_zero, List.getElem?_cons_succ]; rfl)
      · exact fun _ _ _ h => h
      · rfl
      · intro w hSw
        (try dsimp only at hSw)
        go_simp
        try with_reducible rfl
      simp only [put_arr, List.set_cons_zero, List.set_cons_succ]
      refine wpAnyH_done (by kernel_rfl) ?_ _
      go_wp2_with fail
      go_roundw
      case rel => exact ⟨k + 1, by omega, by go_num, by go_num, Bl.then HB (And.left (by assumption))⟩
      case measure => simp [intOf]; omega
    · obtain rfl : k = n := by omega
      go_wp2_with fail
      go_ret
      exact ⟨rfl, HB⟩
end Go.Proofs.YtijbaapecehamaaDoor
