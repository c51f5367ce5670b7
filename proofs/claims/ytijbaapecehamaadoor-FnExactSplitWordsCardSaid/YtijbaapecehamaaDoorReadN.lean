/-
  strings.SplitN and strings.Split at a separator of one byte, by their contracts; readNumbers of the program. The conditions: texts of at most 2^20 bytes; what reading numbers leans on lies as the library lays it; the library's MaxLen holds some number.
-/
import Derived.Test.YtijbaapecehamaaDoorSizeR
import Derived.Test.YtijbaapecehamaaDoorShelfS
import Derived.Lib.SplitLaws
import Derived.Lib.CountLaws
namespace Go.Proofs.YtijbaapecehamaaDoor
open Go.RowKit Go.PlainAid
set_option maxHeartbeats 1600000
set_option linter.unusedVariables false

theorem index_one (c : UInt8) : ∀ l : List UInt8, ((∀ b ∈ l, b ≠ c) ∧ Lib.index l [c] = -1) ∨ ∃ P R, l = P ++ c :: R ∧ (∀ b ∈ P, b ≠ c) ∧ Lib.index l [c] = (P.length : Int)
  | [] => .inl ⟨(fun b hb => by cases hb), rfl⟩
  | b :: l => by
    by_cases h : b = c
    · refine .inr ⟨[], l, by rw [h]; rfl, (fun x hx => by cases hx), ?_⟩
      subst h
      simp [Lib.index]
    · have hp : ([c] : List UInt8).isPrefixOf (b :: l) = false := by simp [List.isPrefixOf]; exact fun e => h e.symm
      rcases index_one c l with ⟨h1, h2⟩ | ⟨P, R, h1, h2, h3⟩
      · refine .inl ⟨fun x hx => ?_, ?_⟩
        · rcases List.mem_cons.1 hx with rfl | hx
          · exact h
          · exact h1 x hx
        · rw [Lib.index, hp, h2]; rfl
      · refine .inr ⟨b :: P, R, by rw [h1]; rfl, fun x hx => ?_, ?_⟩
        · rcases List.mem_cons.1 hx with rfl | hx
          · exact h
          · exact h2 x hx
        · have e : ((P.length : Int) == -1) = false := beq_eq_false_iff_ne.2 (by omega)
          rw [Lib.index, hp, h3, e]; simp
theorem splitK_one (c : UInt8) : ∀ (k : Nat) (l : List UInt8), ((splitL c l).length ≤ k + 1 → Lib.splitK [c] 0 k l = splitL c l) ∧ (k + 1 < (splitL c l).length → (Lib.splitK [c] 0 k l).length = k + 1)
  | 0, l => by
    refine ⟨fun h => ?_, fun _ => rfl⟩
    have hg := gluL_split c l
    cases hs : splitL c l with
    | nil => exact absurd hs (splitL_ne c l)
    | cons p t =>
      rw [hs] at h hg
      cases t with
      | nil => show [l] = [p]; rw [show p = l from hg]
      | cons q t => simp at h
  | k + 1, l => by
    rcases index_one c l with ⟨h1, h2⟩ | ⟨P, R, h1, h2, h3⟩
    · rw [splitL_none h1]
      have e : Lib.splitK [c] 0 (k + 1) l = [l] := by rw [Lib.splitK, h2]; rfl
      exact ⟨fun _ => e, fun h => by simp at h⟩
    · have ih := splitK_one c k R
      have e0 : ((P.length : Int) == -1) = false := beq_eq_false_iff_ne.2 (by omega)
      have e : Lib.splitK [c] 0 (k + 1) l = P :: Lib.splitK [c] 0 k R := by
        rw [Lib.splitK, h3, e0]
        simp only [Bool.false_eq_true, if_false, Nat.add_zero, Int.toNat_natCast, List.length_singleton]
        rw [h1]
        congr 1
        · exact List.take_left
        · congr 1
          rw [show P ++ c :: R = (P ++ [c]) ++ R by simp, show P.length + 1 = (P ++ [c]).length by simp, List.drop_left]
      have es : splitL c l = P :: splitL c R := by rw [h1]; exact splitL_cut R h2
      rw [e, es]
      refine ⟨fun h => ?_, fun h => ?_⟩
      · rw [ih.1 (by simp at h; exact h)]
      · rw [List.length_cons, ih.2 (by simp at h; exact h)]
theorem split_count (c : UInt8) : ∀ (n : Nat) (l : List UInt8), l.length = n → (splitL c l).length = Lib.count l [c] + 1 := by
  intro n
  induction n using Nat.strongRecOn with
  | _ n ih =>
    intro l hl
    rcases index_one c l with ⟨h1, h2⟩ | ⟨P, R, h1, h2, h3⟩
    · rw [splitL_none h1, Lib.count_miss h2]; rfl
    · have e : splitL c l = P :: splitL c R := by rw [h1]; exact splitL_cut R h2
      have hd : l.drop (P.length + 1) = R := by
        rw [h1, show P ++ c :: R = (P ++ [c]) ++ R by simp, show P.length + 1 = (P ++ [c]).length by simp, List.drop_left]
      have hlen : R.length < n := by rw [← hl, h1, List.length_append, List.length_cons]; omega
      have hc := Lib.count_hit (s := l) (sub := [c]) (i := P.length) (by simp) h3
      rw [List.length_singleton, hd] at hc
      rw [e, List.length_cons, ih R.length hlen R rfl, hc]
      omega
/-- What reading texts leans on. -/
structure SpAt (w : World) : Prop extends RdAt w where
  mx : ∃ m, w.cell? ⟨4, 0, none⟩ = some (.int .i64 m)
theorem SpAt.below {w w' : World} (h : SpAt w) (hb : Below w.heap.size w w') : SpAt w' := ⟨h.toRdAt.below hb, by
  obtain ⟨m, hm⟩ := h.mx
  exact ⟨m, (hb.cell (p := ⟨_, 0, none⟩) (block_lt_of_cell hm)).trans hm⟩⟩
theorem map_toBA (l : List ByteArray) : (l.map (·.data.toList)).map toBA = l := by
  rw [List.map_map]
  conv => rhs; rw [← List.map_id l]
  apply List.map_congr_left
  intro x _
  exact toBA_of x
theorem rd_cells {w : World} {E : TypeId} (l : List ByteArray) (N : Nat) (hl : l.length ≤ N) : Rd (w.alloc (.cells (Lib.cellsOf l N) E)) 1 (some ⟨w.heap.size, 0, none⟩) l.length (strVs l) := by
  refine ⟨by simp [strVs], fun h0 => ⟨w.heap.size, 0, rfl, by simp, fun j u hu => ?_⟩⟩
  rw [Nat.zero_add, World.cell?_alloc_new]
  unfold Lib.cellsOf
  rw [List.getElem?_toArray, List.getElem?_append_left (by rw [List.length_map]; have := (List.getElem?_eq_some_iff.1 hu).1; simpa [strVs] using this)]
  exact hu
theorem SplitN_parts (s : ByteArray) (K : Nat) (hK : 1 ≤ K ∧ K ≤ 100) (k1 : Int) (hk1 : k1 = ((K + 1 : Nat) : Int)) (hs : s.size ≤ 1048576) (w : World) (hp : SpAt w) :
    Calls Tryd.prog 84 #[.string s, .string ⟨#[47]⟩, .int .i64 k1] w fun e w' => ∃ (ps : List (List UInt8)) (cc : Nat), e = .returned (.slice (some ⟨w.heap.size, 0, none⟩) ps.length cc) ∧ (ps = splitL 47 s.data.toList ∨ (ps.length ≠ K ∧ (splitL 47 s.data.toList).length ≠ K)) ∧ Rd w' 1 (some ⟨w.heap.size, 0, none⟩) ps.length (strVs (ps.map toBA)) ∧ Below w.heap.size w w' := by
  subst hk1
  obtain ⟨m, hm⟩ := hp.mx
  refine (Tryd.strings_SplitN s ⟨#[47]⟩ (K + 1) m w (by omega) hm (by decide) (by omega) (by omega)).mono ?_
  rintro e w' ⟨rfl, rfl⟩
  generalize hk : min (K + 1) (s.size + 1) - 1 = k
  have hN : min (K + 1) (s.size + 1) = k + 1 := by omega
  have hd := Lib.splitB_data ⟨#[47]⟩ 0 k s
  have hl := Lib.splitB_length_le ⟨#[47]⟩ 0 k s
  rw [hN]
  generalize Lib.splitB ⟨#[47]⟩ 0 k s = bs at *
  have hd' : bs.map (·.data.toList) = Lib.splitK [47] 0 k s.data.toList := hd
  have hbl : (bs.map (·.data.toList)).length = bs.length := List.length_map ..
  refine ⟨bs.map (·.data.toList), k + 1, by rw [hbl], ?_, ?_, ?_⟩
  · obtain ⟨q1, q2⟩ := splitK_one 47 k s.data.toList
    rcases Nat.lt_or_ge (k + 1) (splitL 47 s.data.toList).length with h | h
    · refine .inr ?_
      have hle := splitL_len 47 s.data.toList
      rw [size_list] at hle
      rw [hd', q2 h]
      omega
    · exact .inl (by rw [hd', q1 h])
  · rw [map_toBA, hbl]
    exact rd_cells bs (k + 1) hl
  · exact Bl.alloc (Below.refl _ _) _
theorem Split_parts (s : ByteArray) (hs : s.size ≤ 1048576) (w : World) (hp : SpAt w) :
    Calls Tryd.prog 63 #[.string s, .string ⟨#[32]⟩] w fun e w' => e = .returned (.slice (some ⟨w.heap.size, 0, none⟩) (splitL 32 s.data.toList).length (splitL 32 s.data.toList).length) ∧ w' = w.alloc (.cells (partVs 32 s.data.toList).toArray 9) := by
  obtain ⟨m, hm⟩ := hp.mx
  refine (Tryd.strings_Split s ⟨#[32]⟩ m w (by omega) hm (by decide)).mono ?_
  rintro e w' ⟨rfl, rfl⟩
  have hc : Lib.countB s ⟨#[32]⟩ + 1 = (splitL 32 s.data.toList).length := (split_count 32 _ _ rfl).symm
  have hd := Lib.splitB_data ⟨#[32]⟩ 0 (Lib.countB s ⟨#[32]⟩) s
  have h1 := (splitK_one 32 (Lib.countB s ⟨#[32]⟩) s.data.toList).1 (by omega)
  have e2 : Lib.splitB ⟨#[32]⟩ 0 (Lib.countB s ⟨#[32]⟩) s = (splitL 32 s.data.toList).map toBA := by
    rw [← h1]
    rw [← map_toBA (Lib.splitB ⟨#[32]⟩ 0 (Lib.countB s ⟨#[32]⟩) s)]
    exact congrArg (List.map toBA) hd
  rw [hc, e2]
  exact ⟨rfl, rfl⟩
/-- The text is K numbers. -/
def Good (K : Nat) (l : List UInt8) : Prop := (splitL 47 l).length = K ∧ ∀ p ∈ splitL 47 l, IsNum p (nval p)
def numsOf (l : List UInt8) : List Int := (splitL 47 l).map nval
theorem part_len {c : UInt8} {l p : List UInt8} (h : p ∈ splitL c l) : p.length ≤ l.length := by
  have key : ∀ (ps : List (List UInt8)), p ∈ ps → p.length ≤ (gluL c ps).length := by
    intro ps
    induction ps with
    | nil => intro h; cases h
    | cons q t ih =>
      intro h
      cases t with
      | nil => rw [List.mem_singleton] at h; subst h; exact Nat.le_refl _
      | cons r t =>
        show p.length ≤ (q ++ c :: gluL c (r :: t)).length
        rw [List.length_append, List.length_cons]
        rcases List.mem_cons.1 h with rfl | h
        · omega
        · have := ih h; omega
  have := key _ h
  rwa [gluL_split] at this
def RnRes (K : Nat) (l : List UInt8) (w : World) (e : Ending) (w' : World) : Prop :=
  Below w.heap.size w w' ∧ ((Good K l ∧ ∃ A c, e = .returned (.tuple #[.slice A K c, .bool true]) ∧ Rd w' 1 A K (ints (numsOf l))) ∨ (¬ Good K l ∧ e = .returned (.tuple #[.slice none 0 0, .bool false])))
set_option maxRecDepth 100000 in
theorem readNumbers_any (s : ByteArray) (K : Nat) (hK : 1 ≤ K ∧ K ≤ 100) (hs : s.size ≤ 1048576) (w : World) (hp : SpAt w) :
    Calls Tryd.prog 55 #[.string s, .string ⟨#[47]⟩, .int .i64 K] w (RnRes K s.data.toList w) := by
  have hsl := Lib.hid (size_list s)
  have hw0 : IntKind.i64.wrap ((K : Int) + 1) = (K : Int) + 1 := IntWalk.i64_in _ (by omega)
  obtain ⟨hK1, hK2⟩ := hK
  go_enter Tryd.func55, Tryd.ntmps55
  go_wp2_with fail
  refine (SplitN_parts s K ⟨hK1, hK2⟩ _ (by omega) hs _ hp).mono ?_
  rintro e w1 ⟨ps, cc, rfl, hor, hR, hb1⟩
  have hor' := Lib.hid hor
  clear hor
  by_cases hlen : ps.length = K
  rotate_left
  · have hng := Lib.hid (show ¬ Good K s.data.toList from fun hg => by
      rcases hor'.out with h | h
      · exact hlen (by rw [h]; exact hg.1)
      · exact h.2 hg.1)
    have hl2 : ¬ ((ps.length : Int) = K) := by omega
    go_wp2_with fail
    go_ret2
    exact ⟨hb1, .inr ⟨hng.out, rfl⟩⟩
  have hps : ps = splitL 47 s.data.toList := by
    rcases hor'.out with h | h
    · exact h
    · exact absurd hlen h.1
  have hpl := Lib.hid (fun (k : Nat) (hk : k < ps.length) => (show (ps[k]'hk).length ≤ 1048576 from by
    have := part_len (c := 47) (l := s.data.toList) (p := ps[k]'hk) (by rw [← hps]; exact List.getElem_mem _)
    rw [hsl.out] at this; omega))
  have hps' := Lib.hid hps
  clear hps hor'
  have HO := own_lit (W := w1) (cs := #[]) (e := 2) (size := 1) (n := 0) (xs := ints []) rfl (Nat.le_refl w1.heap.size) (by decide) rfl rfl
  have HB : Below w1.heap.size w1 (w1.alloc (.cells #[] 2)) := Bl.alloc (Below.refl _ _) _
  have hlen' := Lib.hid hlen
  rw [hlen] at hR
  go_wp2_with fail
  go_loopw [9, 26] (fun o i wr => ∃ (A : Option Addr) (c k : Nat), k ≤ K ∧ o = .slice A k c ∧ i = .int .i64 k ∧ Hid (∀ (j : Nat) (hj : j < ps.length), j < k → IsNum ps[j] (nval ps[j])) ∧ wr.ownsRow w1.heap.size 2 1 (.slice A k c) k (ints ((ps.map nval).take k)) ∧ Below w1.heap.size w1 wr) (fun _ i _ => K - (intOf i).toNat)
  case atStart => exact ⟨_, _, 0, by omega, rfl, rfl, Lib.hid (fun j hj h0 => by omega), by rw [List.take_zero]; exact HO, HB⟩
  case round =>
    obtain ⟨A, c, k, hk, rfl, rfl, hgd, ho, hb⟩ := hrel
    by_cases hlt : k < K
    · have hkl : k < ps.length := by have := hlen'.out; omega
      obtain ⟨b, off, eA, hbl, hcells⟩ := (hR.below hb).at_ (by omega)
      simp only [Option.some.injEq, Addr.mk.injEq, and_true] at eA
      obtain ⟨e1, e2⟩ := eA
      subst e2; subst e1
      have hcell := hcells k (.string ⟨(ps[k]'hkl).toArray⟩) (by simp [strVs, toBA, hkl])
      rw [Nat.zero_add] at hcell
      clear hcells
      have hrd := fun (W : World) (h : RdAt W) => ReadDecimal_l (ps[k]'hkl) (hpl.out k hkl) W h
      generalize hP : ps[k]'hkl = P at *
      have hP' := Lib.hid hP
      clear hP
      rcases numR_cases P with ⟨v, hn, hv⟩ | ⟨hn, hv⟩
      · have hnx := Lib.hid (show ∀ (j : Nat) (hj : j < ps.length), j < k + 1 → IsNum ps[j] (nval ps[j]) from fun j hj h => by
          by_cases e : j = k
          · subst e; rw [hP'.out, hn.val]; exact hn
          · exact hgd.out j hj (by omega))
        have htk := Lib.hid (show (ps.map nval).take k ++ [v] = (ps.map nval).take (k + 1) by
          have hkm : k < (ps.map nval).length := by rw [List.length_map]; exact hkl
          rw [← List.take_append_getElem hkm, List.getElem_map, hP'.out, hn.val])
        rw [hv] at hrd
        clear hn hv
        go_wp2_with fail
        refine (hrd _ ((hp.below hb1).below hb).toRdAt).mono ?_
        rintro e w5 ⟨rfl, hb5⟩
        have ho5 := own_below ho hb5
        have HB5 := Bl.then hb hb5
        go_wp2_with (at_builtin; refine wpList_app_int w5 rfl _ _ rfl w1.heap.size A k c _ v rfl ho5 rfl HB5.size (by omega) ?_; intro A6 c6 w6 ho6 hg6)
        go_roundw
        case rel =>
          rw [htk.out] at ho6
          exact ⟨A6, c6, k + 1, by omega, rfl, by go_num, hnx, ho6, app_below ho5 HB5 (Nat.le_refl _) HB5.size hg6⟩
        case measure => simp [intOf]; omega
      · have hng := Lib.hid (show ¬ Good K s.data.toList from fun hg => hn _ (hg.2 P (by rw [← hps'.out, ← hP'.out]; exact List.getElem_mem _)))
        rw [hv] at hrd
        clear hn hv
        go_wp2_with fail
        refine (hrd _ ((hp.below hb1).below hb).toRdAt).mono ?_
        rintro e w5 ⟨rfl, hb5⟩
        go_wp2_with fail
        go_ret2
        exact ⟨Bl.then hb1 (Bl.then hb hb5), .inr ⟨hng.out, rfl⟩⟩
    · obtain rfl : k = K := by omega
      have hg := Lib.hid (show Good k s.data.toList from ⟨by rw [← hps'.out]; exact hlen'.out, fun p hp => by
        rw [← hps'.out] at hp
        obtain ⟨j, hj, rfl⟩ := List.getElem_of_mem hp
        exact hgd.out j hj (by rw [← hlen'.out]; exact hj)⟩)
      have hnums : (ps.map nval).take k = numsOf s.data.toList := by
        unfold numsOf
        rw [← hps'.out, List.take_of_length_le (by rw [List.length_map, hlen'.out]; exact Nat.le_refl _)]
      rw [hnums] at ho
      go_wp2_with fail
      go_ret2
      exact ⟨Bl.then hb1 hb, .inl ⟨hg.out, _, _, rfl, Rd.of_own ho⟩⟩
end Go.Proofs.YtijbaapecehamaaDoor
