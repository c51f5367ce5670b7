/-
  ReadLast of the program and of the reference. The conditions: texts of at most 2^20 bytes; what reading texts leans on lies as the library lays it.
-/
import Derived.Test.YtijbaapecehamaaDoorReadF
import Derived.Test.YtijbaapecehamaaDoorTextL
namespace Go.Proofs.YtijbaapecehamaaDoor
open Go.RowKit Go.PlainAid
set_option maxHeartbeats 3200000
set_option linter.unusedVariables false

def pt (l : List UInt8) (k : Nat) : List UInt8 := (splitL 32 l).getD k []
def pitchL : List UInt8 := [112, 105, 116, 99, 104]
def LastRd (l : List UInt8) : Prop := (splitL 32 l).length = 4 ∧ rdFoot (pt l 1) = true ∧ (numR (pt l 3)).2 = true ∧ pt l 2 = pitchL ∧ lastOk (toBA (pt l 0)) (ix (numsOf (pt l 1)) 0) (ix (numsOf (pt l 1)) 1) (ix (numsOf (pt l 1)) 2) (ix (numsOf (pt l 1)) 3) (numR (pt l 3)).1 = true
noncomputable def rdLast (l : List UInt8) : Bool := @decide (LastRd l) (Classical.propDecidable _)
theorem rdLast_yes {l : List UInt8} (h : LastRd l) : rdLast l = true := @decide_eq_true _ (Classical.propDecidable _) h
theorem rdLast_no {l : List UInt8} (h : ¬ LastRd l) : rdLast l = false := @decide_eq_false _ (Classical.propDecidable _) h
def lw (b : Bool) (x : Int) : Int := if b = true then x else 0
def ls (b : Bool) (x : ByteArray) : ByteArray := if b = true then x else ⟨#[]⟩
theorem rdFoot_of {l : List UInt8} (h : rdFoot l = true) : Good 4 l ∧ footOk (ix (numsOf l) 0) (ix (numsOf l) 1) (ix (numsOf l) 2) (ix (numsOf l) 3) = true := @of_decide_eq_true _ (Classical.propDecidable _) h
theorem numR_of {l : List UInt8} (h : (numR l).2 = true) : Lib.itoa (numR l).1 = l := by
  rcases numR_cases l with ⟨n, hn, hv⟩ | ⟨hn, hv⟩
  · rw [hv]; exact hn.1
  · rw [hv] at h; cases h
theorem lastTx0_list {a b d : List UInt8} (hf : rdFoot b = true) (hd : (numR d).2 = true) :
    (lastTx0 (toBA a) (ix (numsOf b) 0) (ix (numsOf b) 1) (ix (numsOf b) 2) (ix (numsOf b) 3) (numR d).1).data.toList = a ++ 32 :: (b ++ 32 :: (pitchL ++ 32 :: d)) := by
  obtain ⟨hg, hok⟩ := rdFoot_of hf
  have e1 : footTx (ix (numsOf b) 0) (ix (numsOf b) 1) (ix (numsOf b) 2) (ix (numsOf b) 3) = toBA b := by
    rw [footTx, hok]
    show joinT [ix (numsOf b) 0, ix (numsOf b) 1, ix (numsOf b) 2, ix (numsOf b) 3] = _
    rw [← list4 (good_len hg), good_join hg]
  have e2 : dec (numR d).1 = toBA d := by unfold dec toBA; rw [numR_of hd]
  unfold lastTx0
  rw [e1, e2]
  unfold toBA
  rw [show (⟨#[32]⟩ : ByteArray) = ⟨([32] : List UInt8).toArray⟩ from rfl, show (⟨#[32, 112, 105, 116, 99, 104, 32]⟩ : ByteArray) = ⟨([32, 112, 105, 116, 99, 104, 32] : List UInt8).toArray⟩ from rfl, ba_app, ba_app, ba_app, ba_app]
  simp [pitchL]
theorem four_parts {l : List UInt8} (h : (splitL 32 l).length = 4) : splitL 32 l = [pt l 0, pt l 1, pt l 2, pt l 3] ∧ l = pt l 0 ++ 32 :: (pt l 1 ++ 32 :: (pt l 2 ++ 32 :: pt l 3)) := by
  have hg := gluL_split 32 l
  unfold pt
  match hs : splitL 32 l, h with
  | [a, b, c, d], _ =>
    rw [hs] at hg
    exact ⟨rfl, hg.symm⟩
theorem pt_len {l : List UInt8} (h : (splitL 32 l).length = 4) {k : Nat} (hk : k < 4) : (pt l k).length ≤ l.length := by
  refine part_len (c := 32) ?_
  unfold pt
  rw [List.getD_eq_getElem?_getD, List.getElem?_eq_getElem (by omega)]
  exact List.getElem_mem _
theorem ReadFoot_l (l : List UInt8) (hl : l.length ≤ 1048576) (w : World) (hp : SpAt w) :
    Calls Tryd.prog 18 #[.string ⟨l.toArray⟩] w fun e w' => e = .returned (.tuple #[.agg #[.int .i64 (rv (rdFoot l) l 0), .int .i64 (rv (rdFoot l) l 1), .int .i64 (rv (rdFoot l) l 2), .int .i64 (rv (rdFoot l) l 3)], .bool (rdFoot l)]) ∧ Below w.heap.size w w' := by
  have h := ReadFoot_any ⟨l.toArray⟩ (by show l.toArray.size ≤ _; rw [List.size_toArray]; exact hl) w hp
  exact h
theorem sReadFoot_l (l : List UInt8) (hl : l.length ≤ 1048576) (w : World) :
    Calls Tryd.prog 17 #[.string ⟨l.toArray⟩] w fun e w' => e = .returned (.tuple #[.agg #[.int .i64 (rv (rdFoot l) l 0), .int .i64 (rv (rdFoot l) l 1), .int .i64 (rv (rdFoot l) l 2), .int .i64 (rv (rdFoot l) l 3)], .bool (rdFoot l)]) ∧ Below w.heap.size w w' := by
  have h := sReadFoot_any ⟨l.toArray⟩ (by show l.toArray.size ≤ _; rw [List.size_toArray]; exact hl) w
  exact h
theorem Split_at (s : ByteArray) (hs : s.size ≤ 1048576) (w : World) (hp : SpAt w) :
    Calls Tryd.prog 63 #[.string s, .string ⟨#[32]⟩] w fun e w' => ∃ g cc, e = .returned (.slice (some ⟨g, 0, none⟩) (splitL 32 s.data.toList).length cc) ∧ Rd w' 1 (some ⟨g, 0, none⟩) (splitL 32 s.data.toList).length (partVs 32 s.data.toList) ∧ Below w.heap.size w w' :=
  (Split_parts s hs w hp).mono fun e w' h => by
    obtain ⟨rfl, rfl⟩ := h
    refine ⟨_, _, rfl, ?_, Bl.alloc (Below.refl _ _) _⟩
    have h2 := rd_cells (w := w) (E := 9) ((splitL 32 s.data.toList).map toBA) (splitL 32 s.data.toList).length (by simp)
    have e1 : Lib.cellsOf ((splitL 32 s.data.toList).map toBA) (splitL 32 s.data.toList).length = (partVs 32 s.data.toList).toArray := by unfold Lib.cellsOf partVs strVs; simp
    rw [e1, List.length_map] at h2
    exact h2
theorem sSplit_at (s : ByteArray) (hs : s.size ≤ 1048576) (w : World) :
    Calls Tryd.prog 51 #[.string s, .int .u8 32] w fun e w' => ∃ g cc, e = .returned (.slice (some ⟨g, 0, none⟩) (splitL 32 s.data.toList).length cc) ∧ Rd w' 1 (some ⟨g, 0, none⟩) (splitL 32 s.data.toList).length (partVs 32 s.data.toList) ∧ Below w.heap.size w w' :=
  (l01Split_at s 32 32 (by decide) hs w).mono fun e w' h => by
    obtain ⟨g, cc, rfl, ho, hb⟩ := h
    exact ⟨g, cc, rfl, Rd.of_own ho, hb⟩
set_option maxRecDepth 100000 in
theorem ReadLast_any (s : ByteArray) (hs : s.size ≤ 1048576) (w : World) (hp : SpAt w) :
    Calls Tryd.prog 47 #[.string s] w fun e w' => e = .returned (.tuple #[.agg #[.string (ls (rdLast s.data.toList) (toBA (pt s.data.toList 0))), .int .i64 (lw (rdLast s.data.toList) (ix (numsOf (pt s.data.toList 1)) 0)), .int .i64 (lw (rdLast s.data.toList) (ix (numsOf (pt s.data.toList 1)) 1)), .int .i64 (lw (rdLast s.data.toList) (ix (numsOf (pt s.data.toList 1)) 2)), .int .i64 (lw (rdLast s.data.toList) (ix (numsOf (pt s.data.toList 1)) 3)), .int .i64 (lw (rdLast s.data.toList) (numR (pt s.data.toList 3)).1)], .bool (rdLast s.data.toList)]) ∧ Below w.heap.size w w' := by
  have hsl := Lib.hid (size_list s)
  by_cases hlen : (splitL 32 s.data.toList).length = 4
  rotate_left
  · have hno := Lib.hid (show rdLast s.data.toList = false from rdLast_no fun h => hlen h.1)
    have hl2 : ¬ (((splitL 32 s.data.toList).length : Int) = 4) := by omega
    go_enter Tryd.func47, Tryd.ntmps47
    go_wp2_with fail
    refine (Split_at s hs _ (hp.below (Bl.alloc (Below.refl _ _) _))).mono ?_
    rintro e w1 ⟨g, cc, rfl, hR, H1⟩
    have BZ := (Blk.new w 48 #[.string { data := #[] }, .int .i64 0, .int .i64 0, .int .i64 0, .int .i64 0, .int .i64 0]).below H1
    have HW : Below w.heap.size w w1 := Bl.then (by go_grown) H1
    clear H1
    have z0 : w1.cell? ⟨w.heap.size, 0, none⟩ = some (.string { data := #[] }) := BZ.cell 0
    have z1 : w1.cell? ⟨w.heap.size, 1, none⟩ = some (.int .i64 0) := BZ.cell 1
    have z2 : w1.cell? ⟨w.heap.size, 2, none⟩ = some (.int .i64 0) := BZ.cell 2
    have z3 : w1.cell? ⟨w.heap.size, 3, none⟩ = some (.int .i64 0) := BZ.cell 3
    have z4 : w1.cell? ⟨w.heap.size, 4, none⟩ = some (.int .i64 0) := BZ.cell 4
    have z5 : w1.cell? ⟨w.heap.size, 5, none⟩ = some (.int .i64 0) := BZ.cell 5
    have fz := BZ.frozen
    have lz := BZ.lt
    go_wp2_with fail
    refine bodyPost_ret (v := .tuple #[.agg #[.string { data := #[] }, .int .i64 0, .int .i64 0, .int .i64 0, .int .i64 0, .int .i64 0], .bool false]) (by simp [results, Tryd.results47, go_sem, z0, z1, z2, z3, z4, z5]) rfl ?_
    exact ⟨by rw [hno.out]; rfl, ((((((HW.setCell (Nat.le_refl _) _).setCell (Nat.le_refl _) _).setCell (Nat.le_refl _) _).setCell (Nat.le_refl _) _).setCell (Nat.le_refl _) _).setCell (Nat.le_refl _) _)⟩
  obtain ⟨hp4, hpl⟩ := four_parts hlen
  have hpv := Lib.hid (show partVs 32 s.data.toList = strVs [toBA (pt s.data.toList 0), toBA (pt s.data.toList 1), toBA (pt s.data.toList 2), toBA (pt s.data.toList 3)] by unfold partVs; rw [hp4]; rfl)
  have hpl' := Lib.hid hpl
  have hlen' := Lib.hid hlen
  have hl0 := Lib.hid (show ∀ k, k < 4 → (pt s.data.toList k).length ≤ 1048576 from fun k hk => by have := pt_len hlen hk; rw [hsl.out] at this; omega)
  have hrf := fun (W : World) (h : SpAt W) => ReadFoot_l (pt s.data.toList 1) (hl0.out 1 (by decide)) W h
  have hrn := fun (W : World) (h : RdAt W) => ReadDecimal_l (pt s.data.toList 3) (hl0.out 3 (by decide)) W h
  clear hp4 hpl
  generalize hf0 : rv (rdFoot (pt s.data.toList 1)) (pt s.data.toList 1) 0 = f0 at hrf
  generalize hf1 : rv (rdFoot (pt s.data.toList 1)) (pt s.data.toList 1) 1 = f1 at hrf
  generalize hf2 : rv (rdFoot (pt s.data.toList 1)) (pt s.data.toList 1) 2 = f2 at hrf
  generalize hf3 : rv (rdFoot (pt s.data.toList 1)) (pt s.data.toList 1) 3 = f3 at hrf
  generalize hfb0 : rdFoot (pt s.data.toList 1) = fb at hrf hf0 hf1 hf2 hf3
  generalize hnb0 : (numR (pt s.data.toList 3)).2 = nb at hrn
  generalize hnv0 : (numR (pt s.data.toList 3)).1 = nv at hrn
  have hfk := Lib.hid (And.intro hf0 (And.intro hf1 (And.intro hf2 hf3)))
  have hfb := Lib.hid hfb0
  have hnb := Lib.hid hnb0
  have hnv := Lib.hid hnv0
  clear hf0 hf1 hf2 hf3 hfb0 hnb0 hnv0
  go_enter Tryd.func47, Tryd.ntmps47
  go_wp2_with fail
  refine (Split_at s hs _ (hp.below (Bl.alloc (Below.refl _ _) _))).mono ?_
  rintro e w1 ⟨g, cc, rfl, hR, H1⟩
  have BZ := (Blk.new w 48 #[.string { data := #[] }, .int .i64 0, .int .i64 0, .int .i64 0, .int .i64 0, .int .i64 0]).below H1
  have HW : Below w.heap.size w w1 := Bl.then (by go_grown) H1
  clear H1
  have z0 : w1.cell? ⟨w.heap.size, 0, none⟩ = some (.string { data := #[] }) := BZ.cell 0
  have z1 : w1.cell? ⟨w.heap.size, 1, none⟩ = some (.int .i64 0) := BZ.cell 1
  have z2 : w1.cell? ⟨w.heap.size, 2, none⟩ = some (.int .i64 0) := BZ.cell 2
  have z3 : w1.cell? ⟨w.heap.size, 3, none⟩ = some (.int .i64 0) := BZ.cell 3
  have z4 : w1.cell? ⟨w.heap.size, 4, none⟩ = some (.int .i64 0) := BZ.cell 4
  have z5 : w1.cell? ⟨w.heap.size, 5, none⟩ = some (.int .i64 0) := BZ.cell 5
  have fz := BZ.frozen
  have lz := BZ.lt
  rw [hlen] at hR ⊢
  obtain ⟨gq, oq, eq, hgq, hcq⟩ := hR.2 (by omega)
  simp only [Option.some.injEq, Addr.mk.injEq, and_true] at eq
  obtain ⟨eq1, eq2⟩ := eq
  subst eq2; subst eq1
  have q0 : w1.cell? ⟨g, 0, none⟩ = some (.string ⟨(pt s.data.toList 0).toArray⟩) := by have := hcq 0 _ (by rw [hpv.out]; rfl); simpa [toBA] using this
  have q1 : w1.cell? ⟨g, 1, none⟩ = some (.string ⟨(pt s.data.toList 1).toArray⟩) := by have := hcq 1 _ (by rw [hpv.out]; rfl); simpa [toBA] using this
  have q2 : w1.cell? ⟨g, 2, none⟩ = some (.string ⟨(pt s.data.toList 2).toArray⟩) := by have := hcq 2 _ (by rw [hpv.out]; rfl); simpa [toBA] using this
  have q3 : w1.cell? ⟨g, 3, none⟩ = some (.string ⟨(pt s.data.toList 3).toArray⟩) := by have := hcq 3 _ (by rw [hpv.out]; rfl); simpa [toBA] using this
  clear hcq
  go_wp2_with fail
  refine (hrf _ (hp.below HW)).mono ?_
  rintro e w2 ⟨rfl, hb2⟩
  clear q0 q1 q2 q3 hgq
  clear z0 z1 z2 z3 z4 z5 fz lz
  replace BZ := BZ.below hb2
  replace HW := Bl.then HW hb2
  have z0 : w2.cell? ⟨w.heap.size, 0, none⟩ = some (.string { data := #[] }) := BZ.cell 0
  have z1 : w2.cell? ⟨w.heap.size, 1, none⟩ = some (.int .i64 0) := BZ.cell 1
  have z2 : w2.cell? ⟨w.heap.size, 2, none⟩ = some (.int .i64 0) := BZ.cell 2
  have z3 : w2.cell? ⟨w.heap.size, 3, none⟩ = some (.int .i64 0) := BZ.cell 3
  have z4 : w2.cell? ⟨w.heap.size, 4, none⟩ = some (.int .i64 0) := BZ.cell 4
  have z5 : w2.cell? ⟨w.heap.size, 5, none⟩ = some (.int .i64 0) := BZ.cell 5
  have fz := BZ.frozen
  have lz := BZ.lt
  replace hR := hR.below hb2
  obtain ⟨gq, oq, eq, hgq, hcq⟩ := hR.2 (by omega)
  simp only [Option.some.injEq, Addr.mk.injEq, and_true] at eq
  obtain ⟨eq1, eq2⟩ := eq
  subst eq2; subst eq1
  have q0 : w2.cell? ⟨g, 0, none⟩ = some (.string ⟨(pt s.data.toList 0).toArray⟩) := by have := hcq 0 _ (by rw [hpv.out]; rfl); simpa [toBA] using this
  have q1 : w2.cell? ⟨g, 1, none⟩ = some (.string ⟨(pt s.data.toList 1).toArray⟩) := by have := hcq 1 _ (by rw [hpv.out]; rfl); simpa [toBA] using this
  have q2 : w2.cell? ⟨g, 2, none⟩ = some (.string ⟨(pt s.data.toList 2).toArray⟩) := by have := hcq 2 _ (by rw [hpv.out]; rfl); simpa [toBA] using this
  have q3 : w2.cell? ⟨g, 3, none⟩ = some (.string ⟨(pt s.data.toList 3).toArray⟩) := by have := hcq 3 _ (by rw [hpv.out]; rfl); simpa [toBA] using this
  clear hcq
  go_wp2_with fail
  refine (hrn _ (hp.below (Bl.alloc HW (.cells #[.int .i64 f0, .int .i64 f1, .int .i64 f2, .int .i64 f3] 25))).toRdAt).mono ?_
  rintro e w3 ⟨rfl, hb3⟩
  have BF := (Blk.new w2 25 #[.int .i64 f0, .int .i64 f1, .int .i64 f2, .int .i64 f3]).below hb3
  clear q0 q1 q2 q3 hgq
  clear z0 z1 z2 z3 z4 z5 fz lz
  replace BZ := (BZ.alloc (.cells #[.int .i64 f0, .int .i64 f1, .int .i64 f2, .int .i64 f3] 25)).below hb3
  replace hR := (hR.alloc (.cells #[.int .i64 f0, .int .i64 f1, .int .i64 f2, .int .i64 f3] 25)).below hb3
  replace HW := Bl.then (Bl.alloc HW (.cells #[.int .i64 f0, .int .i64 f1, .int .i64 f2, .int .i64 f3] 25)) hb3
  have z0 : w3.cell? ⟨w.heap.size, 0, none⟩ = some (.string { data := #[] }) := BZ.cell 0
  have z1 : w3.cell? ⟨w.heap.size, 1, none⟩ = some (.int .i64 0) := BZ.cell 1
  have z2 : w3.cell? ⟨w.heap.size, 2, none⟩ = some (.int .i64 0) := BZ.cell 2
  have z3 : w3.cell? ⟨w.heap.size, 3, none⟩ = some (.int .i64 0) := BZ.cell 3
  have z4 : w3.cell? ⟨w.heap.size, 4, none⟩ = some (.int .i64 0) := BZ.cell 4
  have z5 : w3.cell? ⟨w.heap.size, 5, none⟩ = some (.int .i64 0) := BZ.cell 5
  have fz := BZ.frozen
  have lz := BZ.lt
  obtain ⟨gq, oq, eq, hgq, hcq⟩ := hR.2 (by omega)
  simp only [Option.some.injEq, Addr.mk.injEq, and_true] at eq
  obtain ⟨eq1, eq2⟩ := eq
  subst eq2; subst eq1
  have q0 : w3.cell? ⟨g, 0, none⟩ = some (.string ⟨(pt s.data.toList 0).toArray⟩) := by have := hcq 0 _ (by rw [hpv.out]; rfl); simpa [toBA] using this
  have q1 : w3.cell? ⟨g, 1, none⟩ = some (.string ⟨(pt s.data.toList 1).toArray⟩) := by have := hcq 1 _ (by rw [hpv.out]; rfl); simpa [toBA] using this
  have q2 : w3.cell? ⟨g, 2, none⟩ = some (.string ⟨(pt s.data.toList 2).toArray⟩) := by have := hcq 2 _ (by rw [hpv.out]; rfl); simpa [toBA] using this
  have q3 : w3.cell? ⟨g, 3, none⟩ = some (.string ⟨(pt s.data.toList 3).toArray⟩) := by have := hcq 3 _ (by rw [hpv.out]; rfl); simpa [toBA] using this
  clear hcq
  have b0 := BF.cell 0
  have b1 := BF.cell 1
  have b2 := BF.cell 2
  have b3 := BF.cell 3
  have lb := BF.lt
  go_wp2_with fail
  go_region
  all_goals
    have BG := Blk.drew (Blk.new w3 48 #[.string ⟨(pt s.data.toList 0).toArray⟩, .int .i64 f0, .int .i64 f1, .int .i64 f2, .int .i64 f3, .int .i64 nv])
    replace BZ := (BZ.alloc (.cells #[.string ⟨(pt s.data.toList 0).toArray⟩, .int .i64 f0, .int .i64 f1, .int .i64 f2, .int .i64 f3, .int .i64 nv] 48)).drew
    replace HW := (Bl.alloc HW (.cells #[.string ⟨(pt s.data.toList 0).toArray⟩, .int .i64 f0, .int .i64 f1, .int .i64 f2, .int .i64 f3, .int .i64 nv] 48)).drew
    clear z0 z1 z2 z3 z4 z5 fz lz q0 q1 q2 q3 hgq b0 b1 b2 b3 lb
    generalize (w3.alloc (.cells #[.string ⟨(pt s.data.toList 0).toArray⟩, .int .i64 f0, .int .i64 f1, .int .i64 f2, .int .i64 f3, .int .i64 nv] 48)).drew = w4 at *
    generalize w3.heap.size = gG at *
    have z0 : w4.cell? ⟨w.heap.size, 0, none⟩ = some (.string { data := #[] }) := BZ.cell 0
    have z1 : w4.cell? ⟨w.heap.size, 1, none⟩ = some (.int .i64 0) := BZ.cell 1
    have z2 : w4.cell? ⟨w.heap.size, 2, none⟩ = some (.int .i64 0) := BZ.cell 2
    have z3 : w4.cell? ⟨w.heap.size, 3, none⟩ = some (.int .i64 0) := BZ.cell 3
    have z4 : w4.cell? ⟨w.heap.size, 4, none⟩ = some (.int .i64 0) := BZ.cell 4
    have z5 : w4.cell? ⟨w.heap.size, 5, none⟩ = some (.int .i64 0) := BZ.cell 5
    have fz := BZ.frozen
    have lz := BZ.lt
    have g0 := BG.cell 0
    have g1 := BG.cell 1
    have g2 := BG.cell 2
    have g3 := BG.cell 3
    have g4 := BG.cell 4
    have g5 := BG.cell 5
    have lg := BG.lt
    cases fb
    · have hno := Lib.hid (show rdLast s.data.toList = false from rdLast_no fun h => by have := h.2.1; rw [hfb.out] at this; cases this)
      go_wp2_with fail
      refine bodyPost_ret (v := .tuple #[.agg #[.string { data := #[] }, .int .i64 0, .int .i64 0, .int .i64 0, .int .i64 0, .int .i64 0], .bool false]) (by simp [results, Tryd.results47, go_sem, z0, z1, z2, z3, z4, z5]) rfl ?_
      exact ⟨by rw [hno.out]; rfl, ((((((HW.setCell (Nat.le_refl _) _).setCell (Nat.le_refl _) _).setCell (Nat.le_refl _) _).setCell (Nat.le_refl _) _).setCell (Nat.le_refl _) _).setCell (Nat.le_refl _) _)⟩
    cases nb
    · have hno := Lib.hid (show rdLast s.data.toList = false from rdLast_no fun h => by have := h.2.2.1; rw [hnb.out] at this; cases this)
      go_wp2_with fail
      refine bodyPost_ret (v := .tuple #[.agg #[.string { data := #[] }, .int .i64 0, .int .i64 0, .int .i64 0, .int .i64 0, .int .i64 0], .bool false]) (by simp [results, Tryd.results47, go_sem, z0, z1, z2, z3, z4, z5]) rfl ?_
      exact ⟨by rw [hno.out]; rfl, ((((((HW.setCell (Nat.le_refl _) _).setCell (Nat.le_refl _) _).setCell (Nat.le_refl _) _).setCell (Nat.le_refl _) _).setCell (Nat.le_refl _) _).setCell (Nat.le_refl _) _)⟩
    have e0 := Lib.hid (show f0 = ix (numsOf (pt s.data.toList 1)) 0 from hfk.out.1.symm)
    have e1 := Lib.hid (show f1 = ix (numsOf (pt s.data.toList 1)) 1 from hfk.out.2.1.symm)
    have e2 := Lib.hid (show f2 = ix (numsOf (pt s.data.toList 1)) 2 from hfk.out.2.2.1.symm)
    have e3 := Lib.hid (show f3 = ix (numsOf (pt s.data.toList 1)) 3 from hfk.out.2.2.2.symm)
    have hokq := Lib.hid (show lastOk (toBA (pt s.data.toList 0)) (ix (numsOf (pt s.data.toList 1)) 0) (ix (numsOf (pt s.data.toList 1)) 1) (ix (numsOf (pt s.data.toList 1)) 2) (ix (numsOf (pt s.data.toList 1)) 3) (numR (pt s.data.toList 3)).1 = lastOk (toBA (pt s.data.toList 0)) f0 f1 f2 f3 nv by rw [e0.out, e1.out, e2.out, e3.out, hnv.out])
    cases hok : lastOk (toBA (pt s.data.toList 0)) f0 f1 f2 f3 nv
    · have hno := Lib.hid (show rdLast s.data.toList = false from rdLast_no fun h => by have h2 := h.2.2.2.2; rw [hokq.out, hok] at h2; cases h2)
      have hq2 : ((lastTx (toBA (pt s.data.toList 0)) f0 f1 f2 f3 nv).toList == s.toList) = false := by
        rw [eq_ba]
        apply decide_eq_false
        rw [lastTx, hok]
        intro e
        have h2 := hpl'.out
        rw [← e] at h2
        simp at h2
      clear hok
      go_wp2_with fail
      refine (LastText_any (toBA (pt s.data.toList 0)) f0 f1 f2 f3 nv (by rw [toBA_size]; have := hl0.out 0 (by decide); unfold maxLen; omega) _ ((hp.below HW).pow)).mono ?_
      rintro e w5 ⟨rfl, hb5⟩
      clear z0 z1 z2 z3 z4 z5 fz lz g0 g1 g2 g3 g4 g5 lg
      replace BZ := BZ.below hb5
      replace BG := BG.below hb5
      replace HW := Bl.then HW hb5
      have z0 : w5.cell? ⟨w.heap.size, 0, none⟩ = some (.string { data := #[] }) := BZ.cell 0
      have z1 : w5.cell? ⟨w.heap.size, 1, none⟩ = some (.int .i64 0) := BZ.cell 1
      have z2 : w5.cell? ⟨w.heap.size, 2, none⟩ = some (.int .i64 0) := BZ.cell 2
      have z3 : w5.cell? ⟨w.heap.size, 3, none⟩ = some (.int .i64 0) := BZ.cell 3
      have z4 : w5.cell? ⟨w.heap.size, 4, none⟩ = some (.int .i64 0) := BZ.cell 4
      have z5 : w5.cell? ⟨w.heap.size, 5, none⟩ = some (.int .i64 0) := BZ.cell 5
      have fz := BZ.frozen
      have lz := BZ.lt
      have g0 := BG.cell 0
      have g1 := BG.cell 1
      have g2 := BG.cell 2
      have g3 := BG.cell 3
      have g4 := BG.cell 4
      have g5 := BG.cell 5
      have lg := BG.lt
      go_wp2_with fail
      refine bodyPost_ret (v := .tuple #[.agg #[.string { data := #[] }, .int .i64 0, .int .i64 0, .int .i64 0, .int .i64 0, .int .i64 0], .bool false]) (by simp [results, Tryd.results47, go_sem, z0, z1, z2, z3, z4, z5]) rfl ?_
      exact ⟨by rw [hno.out]; rfl, ((((((HW.setCell (Nat.le_refl _) _).setCell (Nat.le_refl _) _).setCell (Nat.le_refl _) _).setCell (Nat.le_refl _) _).setCell (Nat.le_refl _) _).setCell (Nat.le_refl _) _)⟩
    · have hlt := Lib.hid (show (lastTx (toBA (pt s.data.toList 0)) f0 f1 f2 f3 nv).data.toList = pt s.data.toList 0 ++ 32 :: (pt s.data.toList 1 ++ 32 :: (pitchL ++ 32 :: pt s.data.toList 3)) by
        rw [lastTx, hok]
        show (lastTx0 _ _ _ _ _ _).data.toList = _
        rw [e0.out, e1.out, e2.out, e3.out, ← hnv.out]
        exact lastTx0_list hfb.out hnb.out)
      by_cases hpi : pt s.data.toList 2 = pitchL
      · have hyes := Lib.hid (show rdLast s.data.toList = true from rdLast_yes ⟨hlen'.out, hfb.out, hnb.out, hpi, hokq.out.trans hok⟩)
        have hq2 : ((lastTx (toBA (pt s.data.toList 0)) f0 f1 f2 f3 nv).toList == s.toList) = true := by
          rw [eq_ba]
          apply decide_eq_true
          rw [hlt.out]
          conv => rhs; rw [hpl'.out]
          rw [hpi]
        clear hpi hok
        go_wp2_with fail
        refine (LastText_any (toBA (pt s.data.toList 0)) f0 f1 f2 f3 nv (by rw [toBA_size]; have := hl0.out 0 (by decide); unfold maxLen; omega) _ ((hp.below HW).pow)).mono ?_
        rintro e w5 ⟨rfl, hb5⟩
        clear z0 z1 z2 z3 z4 z5 fz lz g0 g1 g2 g3 g4 g5 lg
        replace BZ := BZ.below hb5
        replace BG := BG.below hb5
        replace HW := Bl.then HW hb5
        have z0 : w5.cell? ⟨w.heap.size, 0, none⟩ = some (.string { data := #[] }) := BZ.cell 0
        have z1 : w5.cell? ⟨w.heap.size, 1, none⟩ = some (.int .i64 0) := BZ.cell 1
        have z2 : w5.cell? ⟨w.heap.size, 2, none⟩ = some (.int .i64 0) := BZ.cell 2
        have z3 : w5.cell? ⟨w.heap.size, 3, none⟩ = some (.int .i64 0) := BZ.cell 3
        have z4 : w5.cell? ⟨w.heap.size, 4, none⟩ = some (.int .i64 0) := BZ.cell 4
        have z5 : w5.cell? ⟨w.heap.size, 5, none⟩ = some (.int .i64 0) := BZ.cell 5
        have fz := BZ.frozen
        have lz := BZ.lt
        have g0 := BG.cell 0
        have g1 := BG.cell 1
        have g2 := BG.cell 2
        have g3 := BG.cell 3
        have g4 := BG.cell 4
        have g5 := BG.cell 5
        have lg := BG.lt
        go_wp2_with fail
        refine bodyPost_ret (v := .tuple #[.agg #[.string ⟨(pt s.data.toList 0).toArray⟩, .int .i64 f0, .int .i64 f1, .int .i64 f2, .int .i64 f3, .int .i64 nv], .bool true]) (by simp [results, Tryd.results47, go_sem, z0, z1, z2, z3, z4, z5]) rfl ?_
        exact ⟨by rw [hyes.out, ← e0.out, ← e1.out, ← e2.out, ← e3.out, ← hnv.out]; rfl, ((((((HW.setCell (Nat.le_refl _) _).setCell (Nat.le_refl _) _).setCell (Nat.le_refl _) _).setCell (Nat.le_refl _) _).setCell (Nat.le_refl _) _).setCell (Nat.le_refl _) _)⟩
      · have hno := Lib.hid (show rdLast s.data.toList = false from rdLast_no fun h => hpi h.2.2.2.1)
        have hq2 : ((lastTx (toBA (pt s.data.toList 0)) f0 f1 f2 f3 nv).toList == s.toList) = false := by
          rw [eq_ba]
          apply decide_eq_false
          rw [hlt.out]
          intro e
          have h2 := e.trans hpl'.out
          have h3 := List.append_cancel_left h2
          simp only [List.cons.injEq, true_and] at h3
          have h4 := List.append_cancel_left h3
          simp only [List.cons.injEq, true_and] at h4
          exact hpi (List.append_cancel_right h4).symm
        clear hpi hok
        go_wp2_with fail
        refine (LastText_any (toBA (pt s.data.toList 0)) f0 f1 f2 f3 nv (by rw [toBA_size]; have := hl0.out 0 (by decide); unfold maxLen; omega) _ ((hp.below HW).pow)).mono ?_
        rintro e w5 ⟨rfl, hb5⟩
        clear z0 z1 z2 z3 z4 z5 fz lz g0 g1 g2 g3 g4 g5 lg
        replace BZ := BZ.below hb5
        replace BG := BG.below hb5
        replace HW := Bl.then HW hb5
        have z0 : w5.cell? ⟨w.heap.size, 0, none⟩ = some (.string { data := #[] }) := BZ.cell 0
        have z1 : w5.cell? ⟨w.heap.size, 1, none⟩ = some (.int .i64 0) := BZ.cell 1
        have z2 : w5.cell? ⟨w.heap.size, 2, none⟩ = some (.int .i64 0) := BZ.cell 2
        have z3 : w5.cell? ⟨w.heap.size, 3, none⟩ = some (.int .i64 0) := BZ.cell 3
        have z4 : w5.cell? ⟨w.heap.size, 4, none⟩ = some (.int .i64 0) := BZ.cell 4
        have z5 : w5.cell? ⟨w.heap.size, 5, none⟩ = some (.int .i64 0) := BZ.cell 5
        have fz := BZ.frozen
        have lz := BZ.lt
        have g0 := BG.cell 0
        have g1 := BG.cell 1
        have g2 := BG.cell 2
        have g3 := BG.cell 3
        have g4 := BG.cell 4
        have g5 := BG.cell 5
        have lg := BG.lt
        go_wp2_with fail
        refine bodyPost_ret (v := .tuple #[.agg #[.string { data := #[] }, .int .i64 0, .int .i64 0, .int .i64 0, .int .i64 0, .int .i64 0], .bool false]) (by simp [results, Tryd.results47, go_sem, z0, z1, z2, z3, z4, z5]) rfl ?_
        exact ⟨by rw [hno.out]; rfl, ((((((HW.setCell (Nat.le_refl _) _).setCell (Nat.le_refl _) _).setCell (Nat.le_refl _) _).setCell (Nat.le_refl _) _).setCell (Nat.le_refl _) _).setCell (Nat.le_refl _) _)⟩
set_option maxRecDepth 100000 in
theorem sReadLast_any (s : ByteArray) (hs : s.size ≤ 1048576) (w : World) :
    Calls Tryd.prog 46 #[.string s] w fun e w' => e = .returned (.tuple #[.agg #[.string (ls (rdLast s.data.toList) (toBA (pt s.data.toList 0))), .int .i64 (lw (rdLast s.data.toList) (ix (numsOf (pt s.data.toList 1)) 0)), .int .i64 (lw (rdLast s.data.toList) (ix (numsOf (pt s.data.toList 1)) 1)), .int .i64 (lw (rdLast s.data.toList) (ix (numsOf (pt s.data.toList 1)) 2)), .int .i64 (lw (rdLast s.data.toList) (ix (numsOf (pt s.data.toList 1)) 3)), .int .i64 (lw (rdLast s.data.toList) (numR (pt s.data.toList 3)).1)], .bool (rdLast s.data.toList)]) ∧ Below w.heap.size w w' := by
  have hsl := Lib.hid (size_list s)
  by_cases hlen : (splitL 32 s.data.toList).length = 4
  rotate_left
  · have hno := Lib.hid (show rdLast s.data.toList = false from rdLast_no fun h => hlen h.1)
    have hl2 : ¬ (((splitL 32 s.data.toList).length : Int) = 4) := by omega
    go_enter Tryd.func46, Tryd.ntmps46
    go_wp2_with fail
    refine (sSplit_at s hs _).mono ?_
    rintro e w1 ⟨g, cc, rfl, hR, H1⟩
    have BZ := (Blk.new w 48 #[.string { data := #[] }, .int .i64 0, .int .i64 0, .int .i64 0, .int .i64 0, .int .i64 0]).below H1
    have HW : Below w.heap.size w w1 := Bl.then (by go_grown) H1
    clear H1
    have z0 : w1.cell? ⟨w.heap.size, 0, none⟩ = some (.string { data := #[] }) := BZ.cell 0
    have z1 : w1.cell? ⟨w.heap.size, 1, none⟩ = some (.int .i64 0) := BZ.cell 1
    have z2 : w1.cell? ⟨w.heap.size, 2, none⟩ = some (.int .i64 0) := BZ.cell 2
    have z3 : w1.cell? ⟨w.heap.size, 3, none⟩ = some (.int .i64 0) := BZ.cell 3
    have z4 : w1.cell? ⟨w.heap.size, 4, none⟩ = some (.int .i64 0) := BZ.cell 4
    have z5 : w1.cell? ⟨w.heap.size, 5, none⟩ = some (.int .i64 0) := BZ.cell 5
    have fz := BZ.frozen
    have lz := BZ.lt
    go_wp2_with fail
    refine bodyPost_ret (v := .tuple #[.agg #[.string { data := #[] }, .int .i64 0, .int .i64 0, .int .i64 0, .int .i64 0, .int .i64 0], .bool false]) (by simp [results, Tryd.results46, go_sem, z0, z1, z2, z3, z4, z5]) rfl ?_
    exact ⟨by rw [hno.out]; rfl, ((((((HW.setCell (Nat.le_refl _) _).setCell (Nat.le_refl _) _).setCell (Nat.le_refl _) _).setCell (Nat.le_refl _) _).setCell (Nat.le_refl _) _).setCell (Nat.le_refl _) _)⟩
  obtain ⟨hp4, hpl⟩ := four_parts hlen
  have hpv := Lib.hid (show partVs 32 s.data.toList = strVs [toBA (pt s.data.toList 0), toBA (pt s.data.toList 1), toBA (pt s.data.toList 2), toBA (pt s.data.toList 3)] by unfold partVs; rw [hp4]; rfl)
  have hpl' := Lib.hid hpl
  have hlen' := Lib.hid hlen
  have hl0 := Lib.hid (show ∀ k, k < 4 → (pt s.data.toList k).length ≤ 1048576 from fun k hk => by have := pt_len hlen hk; rw [hsl.out] at this; omega)
  have hrf := fun (W : World) => sReadFoot_l (pt s.data.toList 1) (hl0.out 1 (by decide)) W
  have hrn := fun (W : World) => l01Number_l (pt s.data.toList 3) (hl0.out 3 (by decide)) W
  clear hp4 hpl
  by_cases hpi : pt s.data.toList 2 = pitchL
  rotate_left
  · have hno := Lib.hid (show rdLast s.data.toList = false from rdLast_no fun h => hpi h.2.2.2.1)
    have hq2 : (pt s.data.toList 2 == [112, 105, 116, 99, 104]) = false := beq_eq_false_iff_ne.2 hpi
    clear hpi
    go_enter Tryd.func46, Tryd.ntmps46
    go_wp2_with fail
    refine (sSplit_at s hs _).mono ?_
    rintro e w1 ⟨g, cc, rfl, hR, H1⟩
    have BZ := (Blk.new w 48 #[.string { data := #[] }, .int .i64 0, .int .i64 0, .int .i64 0, .int .i64 0, .int .i64 0]).below H1
    have HW : Below w.heap.size w w1 := Bl.then (by go_grown) H1
    clear H1
    have z0 : w1.cell? ⟨w.heap.size, 0, none⟩ = some (.string { data := #[] }) := BZ.cell 0
    have z1 : w1.cell? ⟨w.heap.size, 1, none⟩ = some (.int .i64 0) := BZ.cell 1
    have z2 : w1.cell? ⟨w.heap.size, 2, none⟩ = some (.int .i64 0) := BZ.cell 2
    have z3 : w1.cell? ⟨w.heap.size, 3, none⟩ = some (.int .i64 0) := BZ.cell 3
    have z4 : w1.cell? ⟨w.heap.size, 4, none⟩ = some (.int .i64 0) := BZ.cell 4
    have z5 : w1.cell? ⟨w.heap.size, 5, none⟩ = some (.int .i64 0) := BZ.cell 5
    have fz := BZ.frozen
    have lz := BZ.lt
    rw [hlen] at hR ⊢
    obtain ⟨gq, oq, eq, hgq, hcq⟩ := hR.2 (by omega)
    simp only [Option.some.injEq, Addr.mk.injEq, and_true] at eq
    obtain ⟨eq1, eq2⟩ := eq
    subst eq2; subst eq1
    have q0 : w1.cell? ⟨g, 0, none⟩ = some (.string ⟨(pt s.data.toList 0).toArray⟩) := by have := hcq 0 _ (by rw [hpv.out]; rfl); simpa [toBA] using this
    have q1 : w1.cell? ⟨g, 1, none⟩ = some (.string ⟨(pt s.data.toList 1).toArray⟩) := by have := hcq 1 _ (by rw [hpv.out]; rfl); simpa [toBA] using this
    have q2 : w1.cell? ⟨g, 2, none⟩ = some (.string ⟨(pt s.data.toList 2).toArray⟩) := by have := hcq 2 _ (by rw [hpv.out]; rfl); simpa [toBA] using this
    have q3 : w1.cell? ⟨g, 3, none⟩ = some (.string ⟨(pt s.data.toList 3).toArray⟩) := by have := hcq 3 _ (by rw [hpv.out]; rfl); simpa [toBA] using this
    clear hcq
    go_wp2_with fail
    refine bodyPost_ret (v := .tuple #[.agg #[.string { data := #[] }, .int .i64 0, .int .i64 0, .int .i64 0, .int .i64 0, .int .i64 0], .bool false]) (by simp [results, Tryd.results46, go_sem, z0, z1, z2, z3, z4, z5]) rfl ?_
    exact ⟨by rw [hno.out]; rfl, ((((((HW.setCell (Nat.le_refl _) _).setCell (Nat.le_refl _) _).setCell (Nat.le_refl _) _).setCell (Nat.le_refl _) _).setCell (Nat.le_refl _) _).setCell (Nat.le_refl _) _)⟩
  have hq2 : (pt s.data.toList 2 == [112, 105, 116, 99, 104]) = true := beq_iff_eq.2 hpi
  have hpi' := Lib.hid hpi
  clear hpi
  generalize hf0 : rv (rdFoot (pt s.data.toList 1)) (pt s.data.toList 1) 0 = f0 at hrf
  generalize hf1 : rv (rdFoot (pt s.data.toList 1)) (pt s.data.toList 1) 1 = f1 at hrf
  generalize hf2 : rv (rdFoot (pt s.data.toList 1)) (pt s.data.toList 1) 2 = f2 at hrf
  generalize hf3 : rv (rdFoot (pt s.data.toList 1)) (pt s.data.toList 1) 3 = f3 at hrf
  generalize hfb0 : rdFoot (pt s.data.toList 1) = fb at hrf hf0 hf1 hf2 hf3
  generalize hnb0 : (numR (pt s.data.toList 3)).2 = nb at hrn
  generalize hnv0 : (numR (pt s.data.toList 3)).1 = nv at hrn
  have hfk := Lib.hid (And.intro hf0 (And.intro hf1 (And.intro hf2 hf3)))
  have hfb := Lib.hid hfb0
  have hnb := Lib.hid hnb0
  have hnv := Lib.hid hnv0
  clear hf0 hf1 hf2 hf3 hfb0 hnb0 hnv0
  go_enter Tryd.func46, Tryd.ntmps46
  go_wp2_with fail
  refine (sSplit_at s hs _).mono ?_
  rintro e w1 ⟨g, cc, rfl, hR, H1⟩
  have BZ := (Blk.new w 48 #[.string { data := #[] }, .int .i64 0, .int .i64 0, .int .i64 0, .int .i64 0, .int .i64 0]).below H1
  have HW : Below w.heap.size w w1 := Bl.then (by go_grown) H1
  clear H1
  have z0 : w1.cell? ⟨w.heap.size, 0, none⟩ = some (.string { data := #[] }) := BZ.cell 0
  have z1 : w1.cell? ⟨w.heap.size, 1, none⟩ = some (.int .i64 0) := BZ.cell 1
  have z2 : w1.cell? ⟨w.heap.size, 2, none⟩ = some (.int .i64 0) := BZ.cell 2
  have z3 : w1.cell? ⟨w.heap.size, 3, none⟩ = some (.int .i64 0) := BZ.cell 3
  have z4 : w1.cell? ⟨w.heap.size, 4, none⟩ = some (.int .i64 0) := BZ.cell 4
  have z5 : w1.cell? ⟨w.heap.size, 5, none⟩ = some (.int .i64 0) := BZ.cell 5
  have fz := BZ.frozen
  have lz := BZ.lt
  rw [hlen] at hR ⊢
  obtain ⟨gq, oq, eq, hgq, hcq⟩ := hR.2 (by omega)
  simp only [Option.some.injEq, Addr.mk.injEq, and_true] at eq
  obtain ⟨eq1, eq2⟩ := eq
  subst eq2; subst eq1
  have q0 : w1.cell? ⟨g, 0, none⟩ = some (.string ⟨(pt s.data.toList 0).toArray⟩) := by have := hcq 0 _ (by rw [hpv.out]; rfl); simpa [toBA] using this
  have q1 : w1.cell? ⟨g, 1, none⟩ = some (.string ⟨(pt s.data.toList 1).toArray⟩) := by have := hcq 1 _ (by rw [hpv.out]; rfl); simpa [toBA] using this
  have q2 : w1.cell? ⟨g, 2, none⟩ = some (.string ⟨(pt s.data.toList 2).toArray⟩) := by have := hcq 2 _ (by rw [hpv.out]; rfl); simpa [toBA] using this
  have q3 : w1.cell? ⟨g, 3, none⟩ = some (.string ⟨(pt s.data.toList 3).toArray⟩) := by have := hcq 3 _ (by rw [hpv.out]; rfl); simpa [toBA] using this
  clear hcq
  go_wp2_with fail
  refine (hrf _).mono ?_
  rintro e w2 ⟨rfl, hb2⟩
  clear q0 q1 q2 q3 hgq
  clear z0 z1 z2 z3 z4 z5 fz lz
  replace BZ := BZ.below hb2
  replace HW := Bl.then HW hb2
  have z0 : w2.cell? ⟨w.heap.size, 0, none⟩ = some (.string { data := #[] }) := BZ.cell 0
  have z1 : w2.cell? ⟨w.heap.size, 1, none⟩ = some (.int .i64 0) := BZ.cell 1
  have z2 : w2.cell? ⟨w.heap.size, 2, none⟩ = some (.int .i64 0) := BZ.cell 2
  have z3 : w2.cell? ⟨w.heap.size, 3, none⟩ = some (.int .i64 0) := BZ.cell 3
  have z4 : w2.cell? ⟨w.heap.size, 4, none⟩ = some (.int .i64 0) := BZ.cell 4
  have z5 : w2.cell? ⟨w.heap.size, 5, none⟩ = some (.int .i64 0) := BZ.cell 5
  have fz := BZ.frozen
  have lz := BZ.lt
  replace hR := hR.below hb2
  obtain ⟨gq, oq, eq, hgq, hcq⟩ := hR.2 (by omega)
  simp only [Option.some.injEq, Addr.mk.injEq, and_true] at eq
  obtain ⟨eq1, eq2⟩ := eq
  subst eq2; subst eq1
  have q0 : w2.cell? ⟨g, 0, none⟩ = some (.string ⟨(pt s.data.toList 0).toArray⟩) := by have := hcq 0 _ (by rw [hpv.out]; rfl); simpa [toBA] using this
  have q1 : w2.cell? ⟨g, 1, none⟩ = some (.string ⟨(pt s.data.toList 1).toArray⟩) := by have := hcq 1 _ (by rw [hpv.out]; rfl); simpa [toBA] using this
  have q2 : w2.cell? ⟨g, 2, none⟩ = some (.string ⟨(pt s.data.toList 2).toArray⟩) := by have := hcq 2 _ (by rw [hpv.out]; rfl); simpa [toBA] using this
  have q3 : w2.cell? ⟨g, 3, none⟩ = some (.string ⟨(pt s.data.toList 3).toArray⟩) := by have := hcq 3 _ (by rw [hpv.out]; rfl); simpa [toBA] using this
  clear hcq
  go_wp2_with fail
  refine (hrn _).mono ?_
  rintro e w3 ⟨rfl, hb3⟩
  have BF := (Blk.new w2 25 #[.int .i64 f0, .int .i64 f1, .int .i64 f2, .int .i64 f3]).below hb3
  clear q0 q1 q2 q3 hgq
  clear z0 z1 z2 z3 z4 z5 fz lz
  replace BZ := (BZ.alloc (.cells #[.int .i64 f0, .int .i64 f1, .int .i64 f2, .int .i64 f3] 25)).below hb3
  replace hR := (hR.alloc (.cells #[.int .i64 f0, .int .i64 f1, .int .i64 f2, .int .i64 f3] 25)).below hb3
  replace HW := Bl.then (Bl.alloc HW (.cells #[.int .i64 f0, .int .i64 f1, .int .i64 f2, .int .i64 f3] 25)) hb3
  have z0 : w3.cell? ⟨w.heap.size, 0, none⟩ = some (.string { data := #[] }) := BZ.cell 0
  have z1 : w3.cell? ⟨w.heap.size, 1, none⟩ = some (.int .i64 0) := BZ.cell 1
  have z2 : w3.cell? ⟨w.heap.size, 2, none⟩ = some (.int .i64 0) := BZ.cell 2
  have z3 : w3.cell? ⟨w.heap.size, 3, none⟩ = some (.int .i64 0) := BZ.cell 3
  have z4 : w3.cell? ⟨w.heap.size, 4, none⟩ = some (.int .i64 0) := BZ.cell 4
  have z5 : w3.cell? ⟨w.heap.size, 5, none⟩ = some (.int .i64 0) := BZ.cell 5
  have fz := BZ.frozen
  have lz := BZ.lt
  obtain ⟨gq, oq, eq, hgq, hcq⟩ := hR.2 (by omega)
  simp only [Option.some.injEq, Addr.mk.injEq, and_true] at eq
  obtain ⟨eq1, eq2⟩ := eq
  subst eq2; subst eq1
  have q0 : w3.cell? ⟨g, 0, none⟩ = some (.string ⟨(pt s.data.toList 0).toArray⟩) := by have := hcq 0 _ (by rw [hpv.out]; rfl); simpa [toBA] using this
  have q1 : w3.cell? ⟨g, 1, none⟩ = some (.string ⟨(pt s.data.toList 1).toArray⟩) := by have := hcq 1 _ (by rw [hpv.out]; rfl); simpa [toBA] using this
  have q2 : w3.cell? ⟨g, 2, none⟩ = some (.string ⟨(pt s.data.toList 2).toArray⟩) := by have := hcq 2 _ (by rw [hpv.out]; rfl); simpa [toBA] using this
  have q3 : w3.cell? ⟨g, 3, none⟩ = some (.string ⟨(pt s.data.toList 3).toArray⟩) := by have := hcq 3 _ (by rw [hpv.out]; rfl); simpa [toBA] using this
  clear hcq
  have b0 := BF.cell 0
  have b1 := BF.cell 1
  have b2 := BF.cell 2
  have b3 := BF.cell 3
  have lb := BF.lt
  go_wp2_with fail
  go_region
  all_goals
    have BG := Blk.drew (Blk.new w3 48 #[.string ⟨(pt s.data.toList 0).toArray⟩, .int .i64 f0, .int .i64 f1, .int .i64 f2, .int .i64 f3, .int .i64 nv])
    replace BZ := (BZ.alloc (.cells #[.string ⟨(pt s.data.toList 0).toArray⟩, .int .i64 f0, .int .i64 f1, .int .i64 f2, .int .i64 f3, .int .i64 nv] 48)).drew
    replace HW := (Bl.alloc HW (.cells #[.string ⟨(pt s.data.toList 0).toArray⟩, .int .i64 f0, .int .i64 f1, .int .i64 f2, .int .i64 f3, .int .i64 nv] 48)).drew
    clear z0 z1 z2 z3 z4 z5 fz lz q0 q1 q2 q3 hgq b0 b1 b2 b3 lb
    generalize (w3.alloc (.cells #[.string ⟨(pt s.data.toList 0).toArray⟩, .int .i64 f0, .int .i64 f1, .int .i64 f2, .int .i64 f3, .int .i64 nv] 48)).drew = w4 at *
    generalize w3.heap.size = gG at *
    have z0 : w4.cell? ⟨w.heap.size, 0, none⟩ = some (.string { data := #[] }) := BZ.cell 0
    have z1 : w4.cell? ⟨w.heap.size, 1, none⟩ = some (.int .i64 0) := BZ.cell 1
    have z2 : w4.cell? ⟨w.heap.size, 2, none⟩ = some (.int .i64 0) := BZ.cell 2
    have z3 : w4.cell? ⟨w.heap.size, 3, none⟩ = some (.int .i64 0) := BZ.cell 3
    have z4 : w4.cell? ⟨w.heap.size, 4, none⟩ = some (.int .i64 0) := BZ.cell 4
    have z5 : w4.cell? ⟨w.heap.size, 5, none⟩ = some (.int .i64 0) := BZ.cell 5
    have fz := BZ.frozen
    have lz := BZ.lt
    have g0 := BG.cell 0
    have g1 := BG.cell 1
    have g2 := BG.cell 2
    have g3 := BG.cell 3
    have g4 := BG.cell 4
    have g5 := BG.cell 5
    have lg := BG.lt
    cases fb
    · have hno := Lib.hid (show rdLast s.data.toList = false from rdLast_no fun h => by have := h.2.1; rw [hfb.out] at this; cases this)
      go_wp2_with fail
      refine bodyPost_ret (v := .tuple #[.agg #[.string { data := #[] }, .int .i64 0, .int .i64 0, .int .i64 0, .int .i64 0, .int .i64 0], .bool false]) (by simp [results, Tryd.results46, go_sem, z0, z1, z2, z3, z4, z5]) rfl ?_
      exact ⟨by rw [hno.out]; rfl, ((((((HW.setCell (Nat.le_refl _) _).setCell (Nat.le_refl _) _).setCell (Nat.le_refl _) _).setCell (Nat.le_refl _) _).setCell (Nat.le_refl _) _).setCell (Nat.le_refl _) _)⟩
    cases nb
    · have hno := Lib.hid (show rdLast s.data.toList = false from rdLast_no fun h => by have := h.2.2.1; rw [hnb.out] at this; cases this)
      go_wp2_with fail
      refine bodyPost_ret (v := .tuple #[.agg #[.string { data := #[] }, .int .i64 0, .int .i64 0, .int .i64 0, .int .i64 0, .int .i64 0], .bool false]) (by simp [results, Tryd.results46, go_sem, z0, z1, z2, z3, z4, z5]) rfl ?_
      exact ⟨by rw [hno.out]; rfl, ((((((HW.setCell (Nat.le_refl _) _).setCell (Nat.le_refl _) _).setCell (Nat.le_refl _) _).setCell (Nat.le_refl _) _).setCell (Nat.le_refl _) _).setCell (Nat.le_refl _) _)⟩
    have e0 := Lib.hid (show f0 = ix (numsOf (pt s.data.toList 1)) 0 from hfk.out.1.symm)
    have e1 := Lib.hid (show f1 = ix (numsOf (pt s.data.toList 1)) 1 from hfk.out.2.1.symm)
    have e2 := Lib.hid (show f2 = ix (numsOf (pt s.data.toList 1)) 2 from hfk.out.2.2.1.symm)
    have e3 := Lib.hid (show f3 = ix (numsOf (pt s.data.toList 1)) 3 from hfk.out.2.2.2.symm)
    have hokq := Lib.hid (show lastOk (toBA (pt s.data.toList 0)) (ix (numsOf (pt s.data.toList 1)) 0) (ix (numsOf (pt s.data.toList 1)) 1) (ix (numsOf (pt s.data.toList 1)) 2) (ix (numsOf (pt s.data.toList 1)) 3) (numR (pt s.data.toList 3)).1 = lastOk (toBA (pt s.data.toList 0)) f0 f1 f2 f3 nv by rw [e0.out, e1.out, e2.out, e3.out, hnv.out])
    cases hok : lastOk (toBA (pt s.data.toList 0)) f0 f1 f2 f3 nv
    · have hno := Lib.hid (show rdLast s.data.toList = false from rdLast_no fun h => by have h2 := h.2.2.2.2; rw [hokq.out, hok] at h2; cases h2)
      go_wp2_with fail
      refine (l04One_any (toBA (pt s.data.toList 0)) f0 f1 f2 f3 nv _ (by rw [toBA_size]; have := hl0.out 0 (by decide); unfold maxLen; omega)).mono ?_
      rintro e w5 ⟨rfl, hb5⟩
      clear z0 z1 z2 z3 z4 z5 fz lz g0 g1 g2 g3 g4 g5 lg
      replace BZ := BZ.below hb5
      replace BG := BG.below hb5
      replace HW := Bl.then HW hb5
      have z0 : w5.cell? ⟨w.heap.size, 0, none⟩ = some (.string { data := #[] }) := BZ.cell 0
      have z1 : w5.cell? ⟨w.heap.size, 1, none⟩ = some (.int .i64 0) := BZ.cell 1
      have z2 : w5.cell? ⟨w.heap.size, 2, none⟩ = some (.int .i64 0) := BZ.cell 2
      have z3 : w5.cell? ⟨w.heap.size, 3, none⟩ = some (.int .i64 0) := BZ.cell 3
      have z4 : w5.cell? ⟨w.heap.size, 4, none⟩ = some (.int .i64 0) := BZ.cell 4
      have z5 : w5.cell? ⟨w.heap.size, 5, none⟩ = some (.int .i64 0) := BZ.cell 5
      have fz := BZ.frozen
      have lz := BZ.lt
      have g0 := BG.cell 0
      have g1 := BG.cell 1
      have g2 := BG.cell 2
      have g3 := BG.cell 3
      have g4 := BG.cell 4
      have g5 := BG.cell 5
      have lg := BG.lt
      go_wp2_with fail
      refine bodyPost_ret (v := .tuple #[.agg #[.string { data := #[] }, .int .i64 0, .int .i64 0, .int .i64 0, .int .i64 0, .int .i64 0], .bool false]) (by simp [results, Tryd.results46, go_sem, z0, z1, z2, z3, z4, z5]) rfl ?_
      exact ⟨by rw [hno.out]; rfl, ((((((HW.setCell (Nat.le_refl _) _).setCell (Nat.le_refl _) _).setCell (Nat.le_refl _) _).setCell (Nat.le_refl _) _).setCell (Nat.le_refl _) _).setCell (Nat.le_refl _) _)⟩
    · have hyes := Lib.hid (show rdLast s.data.toList = true from rdLast_yes ⟨hlen'.out, hfb.out, hnb.out, hpi'.out, hokq.out.trans hok⟩)
      go_wp2_with fail
      refine (l04One_any (toBA (pt s.data.toList 0)) f0 f1 f2 f3 nv _ (by rw [toBA_size]; have := hl0.out 0 (by decide); unfold maxLen; omega)).mono ?_
      rintro e w5 ⟨rfl, hb5⟩
      clear z0 z1 z2 z3 z4 z5 fz lz g0 g1 g2 g3 g4 g5 lg
      replace BZ := BZ.below hb5
      replace BG := BG.below hb5
      replace HW := Bl.then HW hb5
      have z0 : w5.cell? ⟨w.heap.size, 0, none⟩ = some (.string { data := #[] }) := BZ.cell 0
      have z1 : w5.cell? ⟨w.heap.size, 1, none⟩ = some (.int .i64 0) := BZ.cell 1
      have z2 : w5.cell? ⟨w.heap.size, 2, none⟩ = some (.int .i64 0) := BZ.cell 2
      have z3 : w5.cell? ⟨w.heap.size, 3, none⟩ = some (.int .i64 0) := BZ.cell 3
      have z4 : w5.cell? ⟨w.heap.size, 4, none⟩ = some (.int .i64 0) := BZ.cell 4
      have z5 : w5.cell? ⟨w.heap.size, 5, none⟩ = some (.int .i64 0) := BZ.cell 5
      have fz := BZ.frozen
      have lz := BZ.lt
      have g0 := BG.cell 0
      have g1 := BG.cell 1
      have g2 := BG.cell 2
      have g3 := BG.cell 3
      have g4 := BG.cell 4
      have g5 := BG.cell 5
      have lg := BG.lt
      go_wp2_with fail
      refine bodyPost_ret (v := .tuple #[.agg #[.string ⟨(pt s.data.toList 0).toArray⟩, .int .i64 f0, .int .i64 f1, .int .i64 f2, .int .i64 f3, .int .i64 nv], .bool true]) (by simp [results, Tryd.results46, go_sem, z0, z1, z2, z3, z4, z5]) rfl ?_
      exact ⟨by rw [hyes.out, ← e0.out, ← e1.out, ← e2.out, ← e3.out, ← hnv.out]; rfl, ((((((HW.setCell (Nat.le_refl _) _).setCell (Nat.le_refl _) _).setCell (Nat.le_refl _) _).setCell (Nat.le_refl _) _).setCell (Nat.le_refl _) _).setCell (Nat.le_refl _) _)⟩
end Go.Proofs.YtijbaapecehamaaDoor
