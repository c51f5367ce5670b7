/-
  SplitWords of the program and of the reference. The conditions: a text of at most 2^20 bytes; for the program the library's MaxLen holds some number.
-/
import Derived.Test.YtijbaapecehamaaDoorReadN
import Derived.Test.YtijbaapecehamaaDoorStrS
import Derived.Lib.SliceRun
namespace Go.Proofs.YtijbaapecehamaaDoor
open Go.RowKit Go.PlainAid
set_option maxHeartbeats 1600000
set_option linter.unusedVariables false

def neB (x : ByteArray) : Bool := !x.toList.isEmpty
def neL (xs : List ByteArray) : List ByteArray := xs.filter neB
theorem take_snocS {xs : List ByteArray} {j : Nat} (h : j < xs.length) : xs.take (j + 1) = xs.take j ++ [sx xs j] := by
  rw [← sx_eq h, List.take_append_getElem h]
/-- The first i of zs are the words among the first j of xs; what lies behind j is as it was. -/
def KeptS (xs zs : List ByteArray) (i j : Nat) : Prop := zs.take i = neL (xs.take j) ∧ ∀ k, j ≤ k → sx zs k = sx xs k
theorem all_ne {xs : List ByteArray} (h : ∀ j, j < xs.length → (sx xs j).toList.isEmpty = false) : neL xs = xs := List.filter_eq_self.2 fun x hx => by
  obtain ⟨j, hj, e⟩ := List.getElem_of_mem hx
  rw [sx_eq hj] at e
  unfold neB
  rw [← e, h j hj]; rfl
theorem KeptS.first {xs : List ByteArray} {k : Nat} (hk : k < xs.length) (h : ∀ j, j < k → (sx xs j).toList.isEmpty = false) (hf : (sx xs k).toList.isEmpty = true) : KeptS xs xs k (k + 1) := by
  refine ⟨?_, fun _ _ => rfl⟩
  have h1 : neL (xs.take k) = xs.take k := all_ne fun j hj => by
    rw [List.length_take] at hj
    have e : sx (xs.take k) j = sx xs j := by
      rw [← sx_eq (by rw [List.length_take]; exact hj), ← sx_eq (by omega), List.getElem_take]
    rw [e]; exact h j (by omega)
  rw [take_snocS hk]
  show _ = List.filter neB _
  rw [List.filter_append, show List.filter neB (xs.take k) = xs.take k from h1]
  simp [neB, hf]
theorem KeptS.keep {xs zs : List ByteArray} {i j : Nat} (h : KeptS xs zs i j) (hj : j < xs.length) (hi : i < zs.length) (hij : i < j) (hf : (sx xs j).toList.isEmpty = false) : KeptS xs (zs.set i (sx zs j)) (i + 1) (j + 1) := by
  refine ⟨?_, fun k hk => by rw [sx_set_ne (by omega)]; exact h.2 k (by omega)⟩
  rw [take_snocS (by rw [List.length_set]; exact hi), take_snocS hj]
  unfold neL
  rw [List.filter_append, List.take_set_of_le (Nat.le_refl i), h.1]
  have e : sx (zs.set i (sx zs j)) i = sx xs j := by
    rw [sx_set hi, if_pos rfl]; exact h.2 j (Nat.le_refl _)
  rw [e]
  simp [neL, neB, hf]
theorem KeptS.skip {xs zs : List ByteArray} {i j : Nat} (h : KeptS xs zs i j) (hj : j < xs.length) (hf : (sx xs j).toList.isEmpty = true) : KeptS xs zs i (j + 1) := by
  refine ⟨?_, fun k hk => h.2 k (by omega)⟩
  rw [take_snocS hj]
  unfold neL
  rw [List.filter_append, h.1]
  simp [neL, neB, hf]
theorem own_frontS {w : World} {base g n c i : Nat} {E : TypeId} {ds : List ByteArray} (h : w.ownsRow base E 1 (.slice (some ⟨g, 0, none⟩) n c) n (strVs ds)) (hi : i ≤ n) : w.ownsRow base E 1 (.slice (some ⟨g, 0, none⟩) i c) i (strVs (ds.take i)) := by
  have hl := own_strs_len h
  rcases h.2 with ⟨hv, _⟩ | ⟨g', cap, cur, hv, hb, hg, hnc, hcm, hs, ht⟩
  · cases hv
  · simp only [Value.slice.injEq, Option.some.injEq, Addr.mk.injEq, and_true, true_and] at hv
    obtain ⟨rfl, rfl⟩ := hv
    refine ⟨by rw [strs_len, List.length_take]; omega, .inr ⟨g, c, cur, rfl, hb, hg, by omega, hcm, hs, ?_⟩⟩
    have e : strVs (ds.take i) = (strVs ds).take i := by simp [strVs, List.map_take]
    rw [e, ← ht, List.take_take]
    congr 1; omega
theorem own_clearS {base g n c : Nat} {E : TypeId} : ∀ (m o : Nat) (ds : List ByteArray) (w : World), w.ownsRow base E 1 (.slice (some ⟨g, 0, none⟩) n c) n (strVs ds) →
    ∃ ds', (w.setCells g o (List.replicate m (.string ⟨#[]⟩))).ownsRow base E 1 (.slice (some ⟨g, 0, none⟩) n c) n (strVs ds') ∧ ∀ i, i ≤ o → ds'.take i = ds.take i
  | 0, o, ds, w, h => ⟨ds, h, fun _ _ => rfl⟩
  | m + 1, o, ds, w, h => by
    have hst := (h.stored o (.string ⟨#[]⟩)).1
    rw [strs_setAt] at hst
    obtain ⟨ds', h1, h2⟩ := own_clearS m (o + 1) _ _ hst
    refine ⟨ds', h1, fun i hi => ?_⟩
    rw [h2 i (by omega), List.take_set_of_le hi]
theorem zeroCells_one (a : Value) (n : Nat) : (Builtin.zeroCells #[a] n).toList = List.replicate n a := by
  simp only [Builtin.zeroCells]
  apply List.ext_getElem
  · simp
  · intro i h1 h2
    simp [Nat.mod_one]
theorem run_clear_one {P : Program} (w : World) (t e ty : TypeId) (z a : Value) (ht : P.underlying t = some (.slice e)) (hv : ∀ w, (zeroValue e).run P w = .ok z w) (hz : z.cells = #[a]) (h1 : a.oneCell' = true) (b o n c : Nat) (hn : 0 < n)
    (hc : ∀ j, j < n → (w.cell? ⟨b, o + j, none⟩).isSome = true) (hf : ∀ j, j < n → w.frozen? ⟨b, o + j, none⟩ = false) :
    (Builtin.clear_ #[t] ty #[.slice (some ⟨b, o, none⟩) n c]).run P w = .ok (.tuple #[]) (w.setCells b o (List.replicate n a)) := by
  have hzc : (Builtin.zeroCells z.cells n).toList = List.replicate n a := by rw [hz, zeroCells_one]
  have hst := run_storeCells_cells (P := P) b o (List.replicate n a) 0 w (by simpa using hc) (by simpa using hf) (by intro v hv'; rw [List.eq_of_mem_replicate hv']; exact h1)
  simp only [Nat.add_zero] at hst
  obtain ⟨m, rfl⟩ : ∃ m, n = m + 1 := ⟨n - 1, by omega⟩
  simp [Builtin.clear_, run_underlying ht, hv, hzc, hst]
theorem below_setCellsS {B b : Nat} {a : World} (hb : B ≤ b) : ∀ (vs : List Value) (o : Nat) (w : World), Below B a w → Below B a (w.setCells b o vs)
  | [], _, _, h => h
  | v :: vs, o, _, h => below_setCellsS hb vs (o + 1) _ (h.setCell hb v)
theorem retSS {A : Option Addr} {m m' c : Nat} (h : m' = m) : Ending.returned (.slice A m c) = .returned (.slice A m' c) := by rw [h]
theorem splitPred_any (x : ByteArray) (w : World) :
    Calls Tryd.prog 64 #[.string x] w fun e w' => e = .returned (.bool x.toList.isEmpty) ∧ w' = w := by
  go_enter Tryd.func64, Tryd.ntmps64
  go_wp2_with fail
  go_ret
  first | exact ⟨by simp, rfl⟩ | exact ⟨by simp, trivial⟩ | simp
/-- Where the first element lies that p holds of. -/
def FirstP (p : Nat → Bool) (n : Nat) (e : Ending) : Prop := ∃ r : Int, e = .returned (.int .i64 r) ∧ ((r = -1 ∧ ∀ j, j < n → p j = false) ∨ ∃ k : Nat, k < n ∧ r = k ∧ p k = true ∧ ∀ j, j < k → p j = false)
theorem IndexFunc_str (A : Option Addr) (n c : Nat) (ds : List ByteArray) (w : World) (h : Rd w 1 A n (strVs ds)) (hn : n ≤ 1048577) :
    Calls Tryd.prog 86 #[.slice A n c, .func (.func 64) #[] #[]] w fun e w' => FirstP (fun k => (sx ds k).toList.isEmpty) n e ∧ w' = w := by
  go_enter Tryd.func86, Tryd.ntmps86
  go_wp2_with fail
  go_loopw [8] (fun i wr => ∃ k : Nat, k ≤ n ∧ Hid (∀ j, j < k → (sx ds j).toList.isEmpty = false) ∧ i = .int .i64 k ∧ wr = w) (fun i _ => n - (intOf i).toNat)
  case atStart => exact ⟨0, by omega, Lib.hid fun j h1 => by omega, rfl, rfl⟩
  case round =>
    obtain ⟨k, hk, hall, rfl, rfl⟩ := hrel
    by_cases hlt : k < n
    · obtain ⟨b, off, rfl, hb, h0⟩ := h.str hlt
      cases hin : (sx ds k).toList.isEmpty
      · have hin' := Lib.hid hin
        go_wp2_with fail
        refine (splitPred_any _ _).mono ?_
        rintro e w2 ⟨rfl, rfl⟩
        go_wp2_with fail
        go_roundw
        case rel => exact ⟨k + 1, by omega, Lib.hid (fun j hj => by
          by_cases e : j = k
          · subst e; exact hin'.out
          · exact hall.out j (by omega)), by go_num, by first | rfl | trivial⟩
        case measure => simp [intOf]; omega
      · have hin' := Lib.hid hin
        go_wp2_with fail
        refine (splitPred_any _ _).mono ?_
        rintro e w2 ⟨rfl, rfl⟩
        go_wp2_with fail
        go_ret
        exact ⟨⟨_, rfl, .inr ⟨k, hlt, rfl, hin'.out, hall.out⟩⟩, rfl⟩
    · obtain rfl : k = n := by omega
      go_wp2_with fail
      go_ret
      exact ⟨⟨_, rfl, .inl ⟨rfl, hall.out⟩⟩, rfl⟩
set_option maxRecDepth 100000 in
theorem DeleteFunc_str (base g n c : Nat) (xs : List ByteArray) (w : World) (ho : w.ownsRow base 9 1 (.slice (some ⟨g, 0, none⟩) n c) n (strVs xs)) (hn : n ≤ 1048577) (hn0 : 0 < n) (hc0 : n ≤ c) (hc1 : c ≤ maxLen) (hg : base ≤ g) (hbase : base ≤ w.heap.size) :
    Calls Tryd.prog 62 #[.slice (some ⟨g, 0, none⟩) n c, .func (.func 64) #[] #[]] w fun e w' => e = .returned (.slice (some ⟨g, 0, none⟩) (neL xs).length c) ∧ w'.ownsRow base 9 1 (.slice (some ⟨g, 0, none⟩) (neL xs).length c) (neL xs).length (strVs (neL xs)) ∧ Below base w w' := by
  have hlen := Lib.hid (own_strs_len ho)
  unfold maxLen at hc1
  go_enter Tryd.func62, Tryd.ntmps62
  go_wp2_with fail
  refine (IndexFunc_str _ _ _ _ _ (Rd.of_own ho) (by omega)).mono ?_
  rintro e w1 ⟨⟨r, rfl, ⟨rfl, hall⟩ | ⟨k, hk, rfl, hfk, hall⟩⟩, rfl⟩
  · have hr := Lib.hid (all_ne (xs := xs) (fun j hj => hall j (by rw [hlen.out] at hj; exact hj)))
    clear hall
    go_wp2_with fail
    go_ret
    exact ⟨retSS (by rw [hr.out, hlen.out]), by rw [hr.out, hlen.out]; exact ho, Below.refl _ _⟩
  have hk1 := Lib.hid (KeptS.first (xs := xs) (k := k) (by rw [hlen.out]; exact hk) hall hfk)
  have hne : ((k : Int) == -1) = false := by rw [beq_eq_false_iff_ne]; omega
  clear hfk hall
  go_wp2_with fail
  go_loopw [5, 6] (fun p q wr => ∃ (i j : Nat) (zs : List ByteArray), i < j ∧ j ≤ n ∧ p = .int .i64 i ∧ q = .int .i64 j ∧ wr.ownsRow base 9 1 (.slice (some ⟨g, 0, none⟩) n c) n (strVs zs) ∧ Hid (KeptS xs zs i j) ∧ Below base w1 wr) (fun _ q _ => n - (intOf q).toNat)
  case atStart => exact ⟨k, k + 1, xs, by omega, by omega, rfl, by go_num, ho, hk1, Below.refl _ _⟩
  case round =>
    clear ho
    obtain ⟨i, j, zs, hij, hjn, rfl, rfl, ho, hK, HB⟩ := hrel
    have hzl := Lib.hid (own_strs_len ho)
    by_cases hlt : j < n
    · have hsz : base ≤ wr.heap.size := Nat.le_trans hbase HB.size
      obtain ⟨b, off, e0, hb, h0⟩ := (Rd.of_own ho).str hlt
      simp only [Option.some.injEq, Addr.mk.injEq, and_true] at e0
      obtain ⟨rfl, rfl⟩ := e0
      simp only [Nat.zero_add] at h0
      have i0 := ho.cellAt i (by omega)
      rw [strs_get (by rw [hzl.out]; omega)] at i0
      have hfr := ho.frozenAt i
      cases hf : (sx zs j).toList.isEmpty
      · have hf' := Lib.hid hf
        have hK2 := Lib.hid (hK.out.keep (by rw [hlen.out]; exact hlt) (by rw [hzl.out]; omega) hij (by rw [← hK.out.2 j (Nat.le_refl _)]; exact hf))
        go_wp2_with fail
        refine (splitPred_any _ _).mono ?_
        rintro e w2 ⟨rfl, rfl⟩
        go_wp2_with fail
        go_roundw
        case rel =>
          have hst := ho.stored i (.string (sx zs j))
          rw [strs_setAt] at hst
          exact ⟨i + 1, j + 1, _, by omega, by omega, by go_num, by go_num, hst.1, hK2, HB.setCell hg _⟩
        case measure => simp [intOf]; omega
      · have hf' := Lib.hid hf
        have hK2 := Lib.hid (hK.out.skip (by rw [hlen.out]; exact hlt) (by rw [← hK.out.2 j (Nat.le_refl _)]; exact hf))
        go_wp2_with fail
        refine (splitPred_any _ _).mono ?_
        rintro e w2 ⟨rfl, rfl⟩
        go_wp2_with fail
        go_roundw
        case rel => exact ⟨i, j + 1, zs, by omega, by omega, rfl, by go_num, ho, hK2, HB⟩
        case measure => simp [intOf]; omega
    · obtain rfl : j = n := by omega
      have hfr := ho.frozenAt
      have hcell : ∀ q, q < j - i → (wr.cell? ⟨g, i + q, none⟩).isSome = true := fun q hq => by
        have := ho.cellAt (i + q) (by omega)
        rw [this, strs_get (by rw [hzl.out]; omega)]; rfl
      have hcl : ∀ ty, (Builtin.clear_ #[30] ty #[.slice (some ⟨g, i, none⟩) (j - i) (c - i)]).run Tryd.prog wr = .ok (.tuple #[]) (wr.setCells g i (List.replicate (j - i) (.string ⟨#[]⟩))) := fun ty =>
        run_clear_one wr _ _ ty _ (.string ⟨#[]⟩) Tryd.underlying30 Tryd.zeroValue9 rfl rfl g i _ _ (by omega) hcell (fun q _ => hfr _)
      have hfin := Lib.hid (show neL xs = zs.take i by rw [hK.out.1, ← hlen.out, List.take_length])
      have hil := Lib.hid (show (zs.take i).length = i by rw [List.length_take, hzl.out]; omega)
      obtain ⟨zs', hz1, hz2⟩ := own_clearS (j - i) i zs wr ho
      have hz3 := Lib.hid (hz2 i (Nat.le_refl _))
      have hF := own_frontS hz1 (i := i) (by omega)
      have HC := below_setCellsS hg (List.replicate (j - i) (.string ⟨#[]⟩)) i wr HB
      clear hcell hfr hz1 hz2
      rw [hz3.out, ← hfin.out] at hF
      rw [← hfin.out] at hil
      go_wp2_with fail
      go_ret
      exact ⟨retSS (by rw [hil.out]), by rw [hil.out]; exact hF, HC⟩
def MxAt (w : World) : Prop := ∃ m, w.cell? ⟨4, 0, none⟩ = some (.int .i64 m)
theorem MxAt.below {w w' : World} (h : MxAt w) (hb : Below w.heap.size w w') : MxAt w' := by
  obtain ⟨m, hm⟩ := h
  exact ⟨m, (hb.cell (p := ⟨_, 0, none⟩) (block_lt_of_cell hm)).trans hm⟩
theorem Split_mx (s : ByteArray) (hs : s.size ≤ 1048576) (w : World) (hp : MxAt w) :
    Calls Tryd.prog 63 #[.string s, .string ⟨#[32]⟩] w fun e w' => e = .returned (.slice (some ⟨w.heap.size, 0, none⟩) (splitL 32 s.data.toList).length (splitL 32 s.data.toList).length) ∧ w' = w.alloc (.cells (partVs 32 s.data.toList).toArray 9) := by
  obtain ⟨m, hm⟩ := hp
  refine (Tryd.strings_Split s ⟨#[32]⟩ m w (by omega) hm (by decide)).mono ?_
  rintro e w' ⟨rfl, rfl⟩
  have hc : Lib.countB s ⟨#[32]⟩ + 1 = (splitL 32 s.data.toList).length := (split_count 32 _ _ rfl).symm
  have hd := Lib.splitB_data ⟨#[32]⟩ 0 (Lib.countB s ⟨#[32]⟩) s
  have h1 := (splitK_one 32 (Lib.countB s ⟨#[32]⟩) s.data.toList).1 (by omega)
  have e2 : Lib.splitB ⟨#[32]⟩ 0 (Lib.countB s ⟨#[32]⟩) s = (splitL 32 s.data.toList).map toBA := by
    rw [← h1]
    rw [← map_toBA (Lib.splitB ⟨#[32]⟩ 0 (Lib.countB s ⟨#[32]⟩) s)]
    exact congrArg (List.map toBA) hd
  rw [hc, e2]
  exact ⟨rfl, rfl⟩
/-- The words of a text. -/
def wordsB (l : List UInt8) : List ByteArray := neL ((splitL 32 l).map toBA)
theorem neL_len (xs : List ByteArray) : (neL xs).length ≤ xs.length := List.length_filter_le _ _
theorem words_len (l : List UInt8) : (wordsB l).length ≤ l.length + 1 := Nat.le_trans (neL_len _) (by rw [List.length_map]; exact splitL_len 32 l)
set_option maxRecDepth 100000 in
theorem SplitWords_any (s : ByteArray) (hs : s.size ≤ 1048576) (w : World) (hp : MxAt w) :
    Calls Tryd.prog 25 #[.string s] w fun e w' => ∃ g c, e = .returned (.slice (some ⟨g, 0, none⟩) (wordsB s.data.toList).length c) ∧ w.heap.size ≤ g ∧ w'.ownsRow w.heap.size 9 1 (.slice (some ⟨g, 0, none⟩) (wordsB s.data.toList).length c) (wordsB s.data.toList).length (strVs (wordsB s.data.toList)) ∧ Below w.heap.size w w' := by
  have hsl := Lib.hid (size_list s)
  have hle := Lib.hid (splitL_len 32 s.data.toList)
  have hpos := Lib.hid (show 0 < (splitL 32 s.data.toList).length from Nat.pos_of_ne_zero fun h => splitL_ne 32 _ (List.eq_nil_of_length_eq_zero h))
  have hmax : (splitL 32 s.data.toList).length ≤ 1048577 := by have := hle.out; rw [hsl.out] at this; omega
  go_enter Tryd.func25, Tryd.ntmps25
  go_wp2_with fail
  refine (Split_mx s hs _ hp).mono ?_
  rintro e w1 ⟨rfl, rfl⟩
  have HO := own_lit (W := w) (cs := (partVs 32 s.data.toList).toArray) (e := 9) (size := 1) (n := (splitL 32 s.data.toList).length) (xs := strVs ((splitL 32 s.data.toList).map toBA)) rfl (Nat.le_refl w.heap.size) (by unfold maxLen; omega) (by simp [partVs, strVs]) rfl
  have HB : Below w.heap.size w (w.alloc (.cells (partVs 32 s.data.toList).toArray 9)) := Bl.alloc (Below.refl _ _) _
  generalize w.alloc (.cells (partVs 32 s.data.toList).toArray 9) = w1 at *
  go_wp2_with fail
  refine (DeleteFunc_str w.heap.size _ _ _ _ _ HO hmax hpos.out (Nat.le_refl _) (by unfold maxLen; omega) (Nat.le_refl _) HB.size).mono ?_
  rintro e w2 ⟨rfl, ho, hb⟩
  go_wp2_with fail
  go_ret
  exact ⟨_, _, rfl, Nat.le_refl _, ho, HB.trans hb⟩
set_option maxRecDepth 100000 in
theorem sSplitWords_any (s : ByteArray) (hs : s.size ≤ 1048576) (w : World) :
    Calls Tryd.prog 24 #[.string s] w fun e w' => ∃ g c, e = .returned (.slice (some ⟨g, 0, none⟩) (wordsB s.data.toList).length c) ∧ Rd w' 1 (some ⟨g, 0, none⟩) (wordsB s.data.toList).length (strVs (wordsB s.data.toList)) ∧ Below w.heap.size w w' := by
  have hsl := Lib.hid (size_list s)
  have hle := Lib.hid (splitL_len 32 s.data.toList)
  have hmax : (splitL 32 s.data.toList).length ≤ 1048577 := by have := hle.out; rw [hsl.out] at this; omega
  go_enter Tryd.func24, Tryd.ntmps24
  go_wp2_with fail
  refine (l01Split_any s 32 hs _).mono ?_
  rintro e w1 ⟨g1, c1, rfl, ho1, hb1⟩
  have hR : Rd w1 1 (some ⟨g1, 0, none⟩) (splitL 32 s.data.toList).length (strVs ((splitL 32 s.data.toList).map toBA)) := Rd.of_own ho1
  clear ho1
  have hwd := Lib.hid (show wordsB s.data.toList = neL ((splitL 32 s.data.toList).map toBA) from rfl)
  have hpl := Lib.hid (hR.strs_length)
  generalize (splitL 32 s.data.toList).map toBA = ps at *
  generalize (splitL 32 s.data.toList).length = n at *
  have HO := own_lit (W := w1) (cs := #[]) (e := 9) (size := 1) (n := 0) (xs := strVs (neL (ps.take 0))) rfl (Nat.le_refl w1.heap.size) (by decide) rfl rfl
  have HB : Below w1.heap.size w1 (w1.alloc (.cells #[] 9)) := Bl.alloc (Below.refl _ _) _
  go_wp2_with fail
  go_loopw [4, 5] (fun o i wr => ∃ (g c q k : Nat), k ≤ n ∧ q ≤ k ∧ o = .slice (some ⟨g, 0, none⟩) q c ∧ i = .int .i64 k ∧ wr.ownsRow w1.heap.size 9 1 (.slice (some ⟨g, 0, none⟩) q c) q (strVs (neL (ps.take k))) ∧ Below w1.heap.size w1 wr) (fun _ i _ => n - (intOf i).toNat)
  case atStart => exact ⟨_, _, 0, 0, by omega, by omega, rfl, rfl, HO, HB⟩
  case round =>
    obtain ⟨g, c, q, k, hk, hqk, rfl, rfl, ho, hb⟩ := hrel
    by_cases hlt : k < n
    · obtain ⟨b, off, eA, hbl, hcell⟩ := (hR.below hb).str hlt
      simp only [Option.some.injEq, Addr.mk.injEq, and_true] at eA
      obtain ⟨rfl, rfl⟩ := eA
      rw [Nat.zero_add] at hcell
      have htk := Lib.hid (take_snocS (xs := ps) (j := k) (by rw [hpl.out]; exact hlt))
      generalize hX : sx ps k = X at *
      cases he : X.toList.isEmpty
      · have hnx := Lib.hid (show neL (ps.take k) ++ [X] = neL (ps.take (k + 1)) by
          rw [htk.out]; unfold neL; rw [List.filter_append]; simp [neB, he])
        clear hX
        go_wp2_with (at_builtin; refine wpList_app_str wr rfl _ _ rfl w1.heap.size g q c _ X rfl ho rfl hb.size (by omega) ?_; intro g6 c6 w6 ho6 hg6)
        go_roundw
        case rel =>
          rw [hnx.out] at ho6
          exact ⟨g6, c6, q + 1, k + 1, by omega, by omega, rfl, by go_num, ho6, app_below ho hb (Nat.le_refl _) hb.size hg6⟩
        case measure => simp [intOf]; omega
      · have hnx := Lib.hid (show neL (ps.take k) = neL (ps.take (k + 1)) by
          rw [htk.out]; unfold neL; rw [List.filter_append]; simp [neB, he])
        clear hX
        go_wp2_with fail
        go_roundw
        case rel =>
          rw [hnx.out] at ho
          exact ⟨g, c, q, k + 1, by omega, by omega, rfl, by go_num, ho, hb⟩
        case measure => simp [intOf]; omega
    · obtain rfl : k = n := by omega
      have hfin := Lib.hid (show neL (ps.take k) = wordsB s.data.toList by rw [hwd.out, ← hpl.out, List.take_length])
      rw [hfin.out] at ho
      have hq := Lib.hid (own_strs_len ho)
      go_wp2_with fail
      go_ret
      refine ⟨g, c, retSS hq.out, ?_, Bl.then hb1 hb⟩
      rw [hq.out]; exact Rd.of_own ho
end Go.Proofs.YtijbaapecehamaaDoor
