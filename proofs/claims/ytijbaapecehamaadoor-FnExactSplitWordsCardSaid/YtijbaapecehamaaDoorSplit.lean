/-
  A text cut at a byte: the reference's l01Split; the condition is that the text has at most 2^20 bytes.
-/
import Derived.Test.YtijbaapecehamaaDoorNumR
import Derived.Test.YtijbaapecehamaaDoorTextF
namespace Go.Proofs.YtijbaapecehamaaDoor
open Go.RowKit Go.PlainAid
set_option maxHeartbeats 1600000
set_option linter.unusedVariables false

/-- The parts of a text between bytes c. -/
def splitL (c : UInt8) : List UInt8 → List (List UInt8)
  | [] => [[]]
  | b :: r => if b = c then [] :: splitL c r else match splitL c r with
    | [] => [[b]]
    | h :: t => (b :: h) :: t
theorem splitL_ne (c : UInt8) (l : List UInt8) : splitL c l ≠ [] := by
  cases l with
  | nil => simp [splitL]
  | cons b r =>
    rw [splitL]
    split
    · simp
    · split <;> simp
theorem splitL_none {c : UInt8} : ∀ {l : List UInt8}, (∀ b ∈ l, b ≠ c) → splitL c l = [l]
  | [], _ => rfl
  | b :: r, h => by
    rw [splitL, if_neg (h b (by simp)), splitL_none (fun x hx => h x (by simp [hx]))]
theorem splitL_cut {c : UInt8} (R : List UInt8) : ∀ {P : List UInt8}, (∀ b ∈ P, b ≠ c) → splitL c (P ++ c :: R) = P :: splitL c R
  | [], _ => by rw [List.nil_append, splitL, if_pos rfl]
  | b :: r, h => by
    rw [List.cons_append, splitL, if_neg (h b (by simp)), splitL_cut R (fun x hx => h x (by simp [hx]))]
/-- The parts, joined again. -/
def gluL (c : UInt8) : List (List UInt8) → List UInt8
  | [] => []
  | [p] => p
  | p :: q :: r => p ++ c :: gluL c (q :: r)
theorem gluL_split (c : UInt8) : ∀ l, gluL c (splitL c l) = l
  | [] => rfl
  | b :: r => by
    have ih := gluL_split c r
    have hne := splitL_ne c r
    rw [splitL]
    split
    · rename_i h
      subst h
      cases hs : splitL b r with
      | nil => exact absurd hs hne
      | cons p t =>
        rw [hs] at ih
        show [] ++ b :: gluL b (p :: t) = _
        rw [ih]; rfl
    · cases hs : splitL c r with
      | nil => exact absurd hs hne
      | cons p t =>
        rw [hs] at ih
        cases t with
        | nil => show b :: p = b :: r; rw [show p = r from ih]
        | cons q t => show (b :: p) ++ c :: gluL c (q :: t) = b :: r; rw [← ih]; rfl
theorem splitL_clean (c : UInt8) : ∀ (l : List UInt8), ∀ p ∈ splitL c l, ∀ b ∈ p, b ≠ c
  | [], p, hp, b, hb => by simp [splitL] at hp; subst hp; cases hb
  | x :: r, p, hp, b, hb => by
    rw [splitL] at hp
    split at hp
    · rw [List.mem_cons] at hp
      rcases hp with rfl | hp
      · cases hb
      · exact splitL_clean c r p hp b hb
    · rename_i hx
      cases hs : splitL c r with
      | nil => exact absurd hs (splitL_ne c r)
      | cons q t =>
        rw [hs] at hp
        simp only [List.mem_cons] at hp
        rcases hp with rfl | hp
        · rw [List.mem_cons] at hb
          rcases hb with rfl | hb
          · exact hx
          · exact splitL_clean c r q (by rw [hs]; simp) b hb
        · exact splitL_clean c r p (by rw [hs]; simp [hp]) b hb
theorem splitL_len (c : UInt8) : ∀ l : List UInt8, (splitL c l).length ≤ l.length + 1
  | [] => Nat.le_refl _
  | b :: r => by
    have ih := splitL_len c r
    rw [splitL]
    split
    · simp; exact ih
    · cases hs : splitL c r with
      | nil => simp
      | cons p t => rw [hs] at ih; simp at ih ⊢; omega
def toBA (l : List UInt8) : ByteArray := ⟨l.toArray⟩
theorem toBA_list (l : List UInt8) : (toBA l).data.toList = l := by simp [toBA]
theorem toBA_of (s : ByteArray) : toBA s.data.toList = s := by cases s; simp [toBA]
theorem toBA_size (l : List UInt8) : (toBA l).size = l.length := by simp [toBA, ByteArray.size]
theorem ext_toBA (s : ByteArray) (a b : Nat) : s.extract a b = toBA ((s.data.toList.drop a).take (b - a)) := by
  rw [← toBA_of (s.extract a b)]
  congr 1
  rw [ByteArray.data_extract, Array.toList_extract]
/-- A row that holds the parts of a text. -/
def partVs (c : UInt8) (l : List UInt8) : List Value := strVs ((splitL c l).map toBA)
/-- Behind i bytes of l: what is done, and where the part began. -/
def SpTo (c : UInt8) (l : List UInt8) (ds : List ByteArray) (m i : Nat) : Prop := m ≤ i ∧ ds ++ (splitL c (l.drop m)).map toBA = (splitL c l).map toBA ∧ ∀ b ∈ (l.drop m).take (i - m), b ≠ c
theorem SpTo.skip {c : UInt8} {l : List UInt8} {ds : List ByteArray} {m i : Nat} (h : SpTo c l ds m i) (hi : i < l.length) (hb : l[i] ≠ c) : SpTo c l ds m (i + 1) := by
  obtain ⟨h1, h2, h3⟩ := h
  refine ⟨by omega, h2, ?_⟩
  have e : (l.drop m).take (i + 1 - m) = (l.drop m).take (i - m) ++ [l[i]] := by
    rw [show i + 1 - m = (i - m) + 1 by omega, ← List.take_append_getElem (by rw [List.length_drop]; omega), List.getElem_drop]
    congr 3; omega
  rw [e]
  intro b hb'
  rw [List.mem_append, List.mem_singleton] at hb'
  rcases hb' with hb' | rfl
  · exact h3 b hb'
  · exact hb
theorem SpTo.cut {c : UInt8} {l : List UInt8} {ds : List ByteArray} {m i : Nat} (h : SpTo c l ds m i) (hi : i < l.length) (hb : l[i] = c) : SpTo c l (ds ++ [toBA ((l.drop m).take (i - m))]) (i + 1) (i + 1) := by
  obtain ⟨h1, h2, h3⟩ := h
  refine ⟨Nat.le_refl _, ?_, by rw [Nat.sub_self, List.take_zero]; intro b hb; cases hb⟩
  have e : l.drop m = (l.drop m).take (i - m) ++ c :: l.drop (i + 1) := by
    have e1 : (l.drop m).drop (i - m) = l.drop i := by rw [List.drop_drop]; congr 1; omega
    have e2 : l.drop i = l[i] :: l.drop (i + 1) := List.drop_eq_getElem_cons hi
    rw [← hb, ← e2, ← e1, List.take_append_drop]
  rw [← h2]
  conv => rhs; rw [e, splitL_cut _ h3]
  simp
theorem SpTo.last {c : UInt8} {l : List UInt8} {ds : List ByteArray} {m : Nat} (h : SpTo c l ds m l.length) : ds ++ [toBA ((l.drop m).take (l.length - m))] = (splitL c l).map toBA := by
  obtain ⟨h1, h2, h3⟩ := h
  rw [List.take_of_length_le (by rw [List.length_drop]; exact Nat.le_refl _)] at h3 ⊢
  rw [← h2, splitL_none h3]; rfl
set_option maxRecDepth 100000 in
theorem l01Split_any (s : ByteArray) (c : UInt8) (hs : s.size ≤ 1048576) (w : World) :
    Calls Tryd.prog 51 #[.string s, .int .u8 (c.toNat : Int)] w fun e w' => ∃ g cc, e = .returned (.slice (some ⟨g, 0, none⟩) (splitL c s.data.toList).length cc) ∧ w'.ownsRow w.heap.size 9 1 (.slice (some ⟨g, 0, none⟩) (splitL c s.data.toList).length cc) (splitL c s.data.toList).length (partVs c s.data.toList) ∧ Below w.heap.size w w' := by
  have hsl := Lib.hid (size_list s)
  have HO := own_lit (W := w) (cs := #[]) (e := 9) (size := 1) (n := 0) (xs := strVs []) rfl (Nat.le_refl w.heap.size) (by decide) rfl rfl
  have HB : Below w.heap.size w (w.alloc (.cells #[] 9)) := Bl.alloc (Below.refl _ _) _
  have hbt := get_bt s
  have hc255 : (c.toNat : Int) ≤ 255 := by have := c.toNat_lt; omega
  go_enter Tryd.func51, Tryd.ntmps51
  go_wp2_with fail
  go_loopw [5, 6, 7] (fun o f i wr => ∃ (g cc k m j : Nat) (ds : List ByteArray), o = .slice (some ⟨g, 0, none⟩) k cc ∧ f = .int .i64 m ∧ i = .int .i64 j ∧ m ≤ j ∧ j ≤ s.size ∧ k ≤ m ∧ Hid (ds.length = k) ∧ Hid (SpTo c s.data.toList ds m j) ∧ wr.ownsRow w.heap.size 9 1 (.slice (some ⟨g, 0, none⟩) k cc) k (strVs ds) ∧ Below w.heap.size w wr) (fun _ _ i _ => s.size - (intOf i).toNat)
  case atStart => exact ⟨w.heap.size, 0, 0, 0, 0, [], rfl, rfl, rfl, by omega, by omega, by omega, Lib.hid rfl, Lib.hid ⟨Nat.le_refl _, rfl, by rw [Nat.sub_self, List.take_zero]; intro b hb; cases hb⟩, HO, HB⟩
  case round =>
    obtain ⟨g, cc, k, m, j, ds, rfl, rfl, rfl, hmj, hj, hkm, hdl, hsp, ho, hb⟩ := hrel
    by_cases hlt : j < s.size
    · have hbk := Lib.hid (bt_list s hlt)
      have hjl := Lib.hid (show j < s.data.toList.length by rw [hsl.out]; exact hlt)
      by_cases hq : bt s j = (c.toNat : Int)
      · have hnx := Lib.hid (hsp.out.cut hjl.out (by apply UInt8.toNat_inj.1; have := hbk.out; omega))
        have hmj2 : (m : Int) ≤ j := by omega
        have hext := Lib.hid (ext_toBA s m j)
        have hw1 : IntKind.i64.wrap ((j : Int) + 1) = (j : Int) + 1 := IntWalk.i64_in _ (by omega)
        go_wp2_with (at_builtin; refine wpList_app_str wr rfl _ _ rfl w.heap.size g k cc _ (s.extract m j) rfl ho rfl hb.size (by omega) ?_; intro g6 c6 w6 ho6 hg6)
        go_roundw
        case rel => exact ⟨g6, c6, k + 1, j + 1, j + 1, _, rfl, by go_num, by go_num, by omega, by omega, by omega, Lib.hid (by rw [List.length_append, hdl.out]; rfl), Lib.hid (by rw [hext.out]; exact hnx.out), ho6, app_below ho hb (Nat.le_refl _) hb.size hg6⟩
        case measure => simp [intOf]; omega
      · have hnx := Lib.hid (hsp.out.skip hjl.out (fun e => hq (by rw [hbk.out, e])))
        have hq2 : (bt s j == (c.toNat : Int)) = false := beq_eq_false_iff_ne.2 hq
        go_wp2_with fail
        go_roundw
        case rel => exact ⟨g, cc, k, m, j + 1, ds, rfl, rfl, by go_num, by omega, by omega, hkm, hdl, hnx, ho, hb⟩
        case measure => simp [intOf]; omega
    · obtain rfl : j = s.size := by omega
      have hfin := Lib.hid (show ds ++ [s.extract m s.size] = (splitL c s.data.toList).map toBA by rw [ext_toBA, ← hsl.out]; exact (by have := hsp.out; rw [← hsl.out] at this; exact this.last))
      have hlen := Lib.hid (show (splitL c s.data.toList).length = k + 1 by have := congrArg List.length hfin.out; rw [List.length_append, List.length_map, hdl.out] at this; simpa using this.symm)
      have hmj2 : (m : Int) ≤ s.size := by omega
      go_wp2_with (at_builtin; refine wpList_app_str wr rfl _ _ rfl w.heap.size g k cc _ (s.extract m s.size) rfl ho rfl hb.size (by omega) ?_; intro g6 c6 w6 ho6 hg6)
      go_ret
      rw [hfin.out] at ho6
      refine ⟨g6, c6, ?_, ?_, app_below ho hb (Nat.le_refl _) hb.size hg6⟩
      · rw [hlen.out]; rfl
      · rw [hlen.out]; exact ho6
end Go.Proofs.YtijbaapecehamaaDoor
