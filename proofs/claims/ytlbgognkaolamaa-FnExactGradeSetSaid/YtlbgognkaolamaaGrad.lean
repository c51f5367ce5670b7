/-
  Lasts after half sizes: the grown last of the program and of the reference; the bounds are those that valid lasts and grades have.
-/
import Derived.Test.YtlbgognkaolamaaLast
import Derived.Test.YtlbgognkaolamaaGrade
import Derived.Test.YtlbgognkaolamaaNum
import Derived.Test.YtlbgognkaolamaaUpd
import Derived.Test.YtlbgognkaolamaaBlk
import Derived.Deep.RegionHeld3
import Derived.StillTailTactics
namespace Go.Proofs.Ytlbgognkaolamaa
open Go.RowKit
set_option maxHeartbeats 800000

/-- A measure after some half sizes. -/
def grow1 (n each t : Int) : Int := n + rnd (each * t) 100
theorem gradeOk_bd {a b c d f : Int} (hh : gradeOk a b c d f = true) : (0 ≤ a ∧ a ≤ 20000) ∧ (0 ≤ b ∧ b ≤ 20000) ∧ (0 ≤ c ∧ c ≤ 20000) ∧ (0 ≤ d ∧ d ≤ 20000) ∧ (0 ≤ f ∧ f ≤ 20000) := by
  simp only [gradeOk, outB, List.any_cons, List.any_nil, Bool.or_false, Bool.not_eq_true', Bool.or_eq_false_iff, Bool.not_eq_false', inR_true] at hh
  omega
theorem each_bd {e t : Int} (h1 : 0 ≤ e) (h2 : e ≤ 20000) (h3 : -30 ≤ t) (h4 : t ≤ 30) : -600000 ≤ e * t ∧ e * t ≤ 600000 := by
  have := Int.mul_le_mul_of_nonneg_left h4 h1
  have := Int.mul_le_mul_of_nonneg_left h3 h1
  omega
theorem each_rnd {e t : Int} (h1 : 0 ≤ e) (h2 : e ≤ 20000) (h3 : -30 ≤ t) (h4 : t ≤ 30) : -600001 ≤ rnd (e * t) 100 ∧ rnd (e * t) 100 ≤ 600001 := by
  obtain ⟨a, b⟩ := each_bd h1 h2 h3 h4
  exact rnd_bd (by omega) 600000 (by omega) (by omega)
theorem Lnumbers_any (s : ByteArray) (l b i h p : Int) (w : World) :
    Calls Try.prog 114 #[.agg #[.string s, .int .i64 l, .int .i64 b, .int .i64 i, .int .i64 h, .int .i64 p]] w (RetSl 2 1 5 (ints [l, b, i, h, p]) w) := by
  go_enter Try.func114, Try.ntmps114
  go_wp2
  go_ret
  refine ⟨_, _, rfl, own_lit ?_ ?_ (by decide) rfl rfl, ?_⟩
  · simp
  · simp
  · go_grown
theorem l05Add_any (n e t : Int) (w : World) (hn : -1000000 ≤ n ∧ n ≤ 1000000) (he : 0 ≤ e ∧ e ≤ 20000) (ht : -30 ≤ t ∧ t ≤ 30) :
    Calls Try.prog 110 #[.int .i64 n, .int .i64 e, .int .i64 t] w fun e' w' => e' = .returned (.int .i64 (grow1 n e t)) ∧ w = w' := by
  obtain ⟨n1, n2⟩ := hn
  obtain ⟨p1, p2⟩ := each_bd he.1 he.2 ht.1 ht.2
  obtain ⟨p3, p4⟩ := each_rnd he.1 he.2 ht.1 ht.2
  go_enter Try.func110, Try.ntmps110
  go_wp2_with (go_at_call 134; refine (l02Round_any _ _ _ (by unfold Mid; omega) (by omega) (by unfold Mid; omega)).mono ?_; rintro e w2 ⟨rfl, rfl⟩)
  go_ret
  exact ⟨rfl, rfl⟩
def gby (gs : List Int) (t : Int) (j : Nat) (z : Int) : Int := grow1 z (ix gs j) t
theorem upd_gby (l b i h p ga gb gc gd ge t : Int) : upd (gby [ga, gb, gc, gd, ge] t) [l, b, i, h, p] 5 = [grow1 l ga t, grow1 b gb t, grow1 i gc t, grow1 h gd t, grow1 p ge t] := by
  simp [upd, gby, ix]
set_option maxRecDepth 100000 in
theorem gradeLast_any (s : ByteArray) (l b i h p ga gb gc gd ge : Int) (t : Int) (w : World) (hl : lastOk s l b i h p = true) (hg : gradeOk ga gb gc gd ge = true) (ht : -30 ≤ t ∧ t ≤ 30) :
    Calls Try.prog 71 #[.agg #[.string s, .int .i64 l, .int .i64 b, .int .i64 i, .int .i64 h, .int .i64 p], .agg #[.int .i64 ga, .int .i64 gb, .int .i64 gc, .int .i64 gd, .int .i64 ge], .int .i64 t] w fun e w' => e = .returned (.agg #[.string s, .int .i64 (grow1 l ga t), .int .i64 (grow1 b gb t), .int .i64 (grow1 i gc t), .int .i64 (grow1 h gd t), .int .i64 (grow1 p ge t)]) ∧ Below w.heap.size w w' := by
  obtain ⟨q0, p1, p2, p3, p4, p5⟩ := lastOk_bd hl
  obtain ⟨r1, r2, r3, r4, r5⟩ := gradeOk_bd hg
  have hx : ∀ k : Nat, k < 5 → (0 ≤ ix [l, b, i, h, p] k ∧ ix [l, b, i, h, p] k ≤ 5000) ∧ (0 ≤ ix [ga, gb, gc, gd, ge] k ∧ ix [ga, gb, gc, gd, ge] k ≤ 20000) := by
    intro k hk
    match k, hk with
    | 0, _ => exact ⟨by simp [ix]; omega, by simpa [ix] using r1⟩
    | 1, _ => exact ⟨by simp [ix]; omega, by simpa [ix] using r2⟩
    | 2, _ => exact ⟨by simp [ix]; omega, by simpa [ix] using r3⟩
    | 3, _ => exact ⟨by simp [ix]; omega, by simpa [ix] using r4⟩
    | 4, _ => exact ⟨by simp [ix]; omega, by simpa [ix] using r5⟩
  have hx' := Lib.hid hx
  have hu := Lib.hid (upd_gby l b i h p ga gb gc gd ge t)
  obtain ⟨t1, t2⟩ := ht
  clear hx p1 p2 p3 p4 p5 r1 r2 r3 r4 r5 q0 hl hg
  go_enter Try.func71, Try.ntmps71
  go_wp2_with fail
  refine (Lnumbers_any _ _ _ _ _ _ _).mono ?_
  rintro e w1 ⟨A1, c1, rfl, o1, hb1⟩
  have L1 := Lib.hid o1.lt
  have H1 := hb1
  obtain ⟨hc, hf⟩ := bcell H1
  go_wp2_with fail
  refine (gnumbers_any _ _ _ _ _ _).mono ?_
  rintro e w2 ⟨A2, c2, rfl, o2, hb2⟩
  have H2 := Bl.then H1 hb2
  have o1' := own_below o1 hb2
  have L2 := Lib.hid o2.lt
  clear hc hf H1 o1 hb1 hb2
  generalize hzs : [l, b, i, h, p] = us at o1' hx' hu
  generalize hys : [ga, gb, gc, gd, ge] = vs at o2 hx' hu
  have hul := Lib.hid (show us.length = 5 by rw [← hzs]; rfl)
  clear hzs hys
  obtain ⟨g1, rfl, -, -, -, -⟩ := own_form o1' (by omega)
  obtain ⟨g2, rfl, -, -, -, -⟩ := own_form o2 (by omega)
  have hd : g2 ≠ g1 := fun hh => by
    have i3 := L1.out g1 rfl
    have i4 := L2.out g2 rfl
    omega
  generalize hW : ((w.alloc (.cells #[.string s, .int .i64 l, .int .i64 b, .int .i64 i, .int .i64 h, .int .i64 p] 41)).alloc (.cells #[.int .i64 ga, .int .i64 gb, .int .i64 gc, .int .i64 gd, .int .i64 ge] 43)).alloc (.cells #[.string { data := #[] }, .int .i64 0, .int .i64 0, .int .i64 0, .int .i64 0, .int .i64 0] 41) = W at *
  generalize hG : w.heap.size + 1 + 1 = G at *
  have B0 : Blk W w.heap.size 41 #[.string s, .int .i64 l, .int .i64 b, .int .i64 i, .int .i64 h, .int .i64 p] := hW ▸ ((Blk.new _ _ _).alloc _).alloc _
  have B2 : Blk W G 41 #[.string { data := #[] }, .int .i64 0, .int .i64 0, .int .i64 0, .int .i64 0, .int .i64 0] := hG ▸ hW ▸ Blk.new2 _ _ _ _ _
  have HW : Below w.heap.size w W := by rw [← hW]; go_grown
  have hGl := B2.lt
  have hwG : w.heap.size ≤ G := by omega
  have hwl := B0.lt
  have B0' := Lib.hid B0
  have B2' := Lib.hid B2
  clear hW hG B0 B2
  go_wp2_with fail
  go_loopw [15] (fun i wr => ∃ k : Nat, k ≤ 5 ∧ i = .int .i64 k ∧ wr.ownsRow W.heap.size 2 1 (.slice (some ⟨g1, 0, none⟩) 5 c1) 5 (ints (upd (gby vs t) us k)) ∧ wr.ownsRow w1.heap.size 2 1 (.slice (some ⟨g2, 0, none⟩) 5 c2) 5 (ints vs) ∧ Below W.heap.size W wr) (fun i _ => 5 - (intOf i).toNat)
  case atStart => exact ⟨0, by omega, rfl, by rw [upd_zero]; exact o1', o2, H2⟩
  case round =>
    obtain ⟨k, hk, rfl, ho, hq, HB⟩ := hrel
    by_cases hlt : k < 5
    · have k1 := ho.cellAt k (by omega)
      have k2 := hq.cellAt k (by omega)
      have hkl : k < us.length := by rw [hul.out]; exact hlt
      rw [ints_get (by rw [upd_len]; exact hkl), upd_ix hkl] at k1
      rw [ints_get (by rw [own_int_len hq]; exact hlt)] at k2
      have hfr := ho.frozenAt k
      obtain ⟨⟨x1, x2⟩, x3, x4⟩ := hx'.out k hlt
      obtain ⟨y1, y2⟩ := each_bd x3 x4 t1 t2
      obtain ⟨y3, y4⟩ := each_rnd x3 x4 t1 t2
      have m1 : Mid (ix vs k * t) := by unfold Mid; omega
      have m2 : Mid 100 := by unfold Mid; omega
      have hup := Lib.hid (upd_step (g := gby vs t) (x := ix us k + rnd (ix vs k * t) 100) hkl rfl)
      have fw : IntKind.i64.wrap (ix vs k * t) = ix vs k * t := IntWalk.i64_in _ (by omega)
      have fw2 : IntKind.i64.wrap (ix us k + rnd (ix vs k * t) 100) = ix us k + rnd (ix vs k * t) 100 := IntWalk.i64_in _ (by omega)
      clear hkl
      go_wp2_with fail
      go_still_tail 10, (by kernel_rfl)
      still_call ((rounded_any _ _ _ m1 (by omega) m2).mono fun _ _ h => ⟨h.1, h.2.symm⟩)
      repeat still_step
      refine wpStill_nil ?_
      change wpList _ _ _ _ _ wr.drew
      go_wp2_with fail
      go_roundw
      case rel =>
        have hst := ho.stored k (.int .i64 (ix us k + rnd (ix vs k * t) 100))
        rw [ints_setAt, hup.out] at hst
        have hq2 := keep_own hq hst.2 (by rintro g g' h1 h2; cases h1; cases h2; exact hd)
        exact ⟨k + 1, by omega, by go_num, hst.1, hq2, (HB.grown hst.2 HB.size (by rintro q hq'; cases hq'; exact (L1.out g1 rfl).1)).drew⟩
      case measure => simp [intOf]; omega
    · obtain rfl : k = 5 := by omega
      rw [hu.out] at ho
      have k0 := ho.cellAt 0 (by omega)
      have k1 := ho.cellAt 1 (by omega)
      have k2 := ho.cellAt 2 (by omega)
      have k3 := ho.cellAt 3 (by omega)
      have k4 := ho.cellAt 4 (by omega)
      simp only [ints, List.map_cons, List.getElem?_cons_zero, List.getElem?_cons_succ] at k0 k1 k2 k3 k4
      have e0 := (B0'.out.below HB).cell 0
      have f0 := (B2'.out.below HB).frozen 0
      have f1 := (B2'.out.below HB).frozen 1
      have f2 := (B2'.out.below HB).frozen 2
      have f3 := (B2'.out.below HB).frozen 3
      have f4 := (B2'.out.below HB).frozen 4
      have f5 := (B2'.out.below HB).frozen 5
      have d0 := (B2'.out.below HB).cell 0
      have d1 := (B2'.out.below HB).cell 1
      have d2 := (B2'.out.below HB).cell 2
      have d3 := (B2'.out.below HB).cell 3
      have d4 := (B2'.out.below HB).cell 4
      have d5 := (B2'.out.below HB).cell 5
      simp only [List.getElem?_toArray, List.getElem?_cons_zero, List.getElem?_cons_succ] at e0 d0 d1 d2 d3 d4 d5
      go_wp2_with fail
      go_region
      all_goals
        go_wp2_with fail
        refine bodyPost_ret (v := .agg #[.string s, .int .i64 (grow1 l ga t), .int .i64 (grow1 b gb t), .int .i64 (grow1 i gc t), .int .i64 (grow1 h gd t), .int .i64 (grow1 p ge t)]) (by simp [results, Try.results71, go_sem, d0, d1, d2, d3, d4, d5]) rfl ?_
        exact ⟨rfl, ((((((((Bl.then HW HB).setCell hwG _).setCell hwG _).setCell hwG _).setCell hwG _).setCell hwG _).setCell hwG _).drew)⟩
set_option maxRecDepth 100000 in
set_option maxHeartbeats 8000000 in
theorem l05Last_any (s : ByteArray) (l b i h p ga gb gc gd ge : Int) (t : Int) (w : World) (hl : lastOk s l b i h p = true) (hg : gradeOk ga gb gc gd ge = true) (ht : -30 ≤ t ∧ t ≤ 30) :
    Calls Try.prog 66 #[.agg #[.string s, .int .i64 l, .int .i64 b, .int .i64 i, .int .i64 h, .int .i64 p], .agg #[.int .i64 ga, .int .i64 gb, .int .i64 gc, .int .i64 gd, .int .i64 ge], .int .i64 t] w fun e w' => e = .returned (.agg #[.string s, .int .i64 (grow1 l ga t), .int .i64 (grow1 b gb t), .int .i64 (grow1 i gc t), .int .i64 (grow1 h gd t), .int .i64 (grow1 p ge t)]) ∧ Below w.heap.size w w' := by
  obtain ⟨q0, p1, p2, p3, p4, p5⟩ := lastOk_bd hl
  obtain ⟨r1, r2, r3, r4, r5⟩ := gradeOk_bd hg
  have n1 := Lib.hid (show -1000000 ≤ l ∧ l ≤ 1000000 by omega)
  have n2 := Lib.hid (show -1000000 ≤ b ∧ b ≤ 1000000 by omega)
  have n3 := Lib.hid (show -1000000 ≤ i ∧ i ≤ 1000000 by omega)
  have n4 := Lib.hid (show -1000000 ≤ h ∧ h ≤ 1000000 by omega)
  have n5 := Lib.hid (show -1000000 ≤ p ∧ p ≤ 1000000 by omega)
  have m1 := Lib.hid r1
  have m2 := Lib.hid r2
  have m3 := Lib.hid r3
  have m4 := Lib.hid r4
  have m5 := Lib.hid r5
  have m6 := Lib.hid ht
  clear hl hg p1 p2 p3 p4 p5 r1 r2 r3 r4 r5 q0 ht
  go_enter Try.func66, Try.ntmps66
  have e0 : (((w.alloc (.cells #[.string s, .int .i64 l, .int .i64 b, .int .i64 i, .int .i64 h, .int .i64 p] 41)).alloc (.cells #[.int .i64 ga, .int .i64 gb, .int .i64 gc, .int .i64 gd, .int .i64 ge] 43)).alloc (.cells #[.string { data := #[] }, .int .i64 0, .int .i64 0, .int .i64 0, .int .i64 0, .int .i64 0] 41)).cell? ⟨w.heap.size, 0, none⟩ = some (.string s) := (((Blk.new w 41 #[.string s, .int .i64 l, .int .i64 b, .int .i64 i, .int .i64 h, .int .i64 p]).alloc _).alloc _).cell 0
  have e1 : (((w.alloc (.cells #[.string s, .int .i64 l, .int .i64 b, .int .i64 i, .int .i64 h, .int .i64 p] 41)).alloc (.cells #[.int .i64 ga, .int .i64 gb, .int .i64 gc, .int .i64 gd, .int .i64 ge] 43)).alloc (.cells #[.string { data := #[] }, .int .i64 0, .int .i64 0, .int .i64 0, .int .i64 0, .int .i64 0] 41)).cell? ⟨w.heap.size, 1, none⟩ = some (.int .i64 l) := (((Blk.new w 41 #[.string s, .int .i64 l, .int .i64 b, .int .i64 i, .int .i64 h, .int .i64 p]).alloc _).alloc _).cell 1
  have e2 : (((w.alloc (.cells #[.string s, .int .i64 l, .int .i64 b, .int .i64 i, .int .i64 h, .int .i64 p] 41)).alloc (.cells #[.int .i64 ga, .int .i64 gb, .int .i64 gc, .int .i64 gd, .int .i64 ge] 43)).alloc (.cells #[.string { data := #[] }, .int .i64 0, .int .i64 0, .int .i64 0, .int .i64 0, .int .i64 0] 41)).cell? ⟨w.heap.size + 1, 0, none⟩ = some (.int .i64 ga) := ((Blk.new1 w _ 43 #[.int .i64 ga, .int .i64 gb, .int .i64 gc, .int .i64 gd, .int .i64 ge]).alloc _).cell 0
  go_wp2_with fail
  go_region_held3 (fun wz => wz.cell? ⟨w.heap.size, 0, none⟩ = some (.string s) ∧ wz.cell? ⟨w.heap.size, 1, none⟩ = some (.int .i64 l) ∧ wz.cell? ⟨w.heap.size + 1, 0, none⟩ = some (.int .i64 ga)) ((repeat' apply And.intro) <;> first | assumption | exact keep_drew (by assumption) | exact keep_alloc (by assumption) | (simp; done)) (first | (go_at_call 110; refine (l05Add_any _ _ _ _ n1.out m1.out m6.out).mono ?_; rintro e w2 ⟨rfl, rfl⟩))
  all_goals
    clear e0 e1 e2
    have HW : Below w.heap.size w ((((w.alloc (.cells #[.string s, .int .i64 l, .int .i64 b, .int .i64 i, .int .i64 h, .int .i64 p] 41)).alloc (.cells #[.int .i64 ga, .int .i64 gb, .int .i64 gc, .int .i64 gd, .int .i64 ge] 43)).alloc (.cells #[.string { data := #[] }, .int .i64 0, .int .i64 0, .int .i64 0, .int .i64 0, .int .i64 0] 41)).alloc (.cells #[.string s, .int .i64 (grow1 l ga t), .int .i64 0, .int .i64 0, .int .i64 0, .int .i64 0] 41)).drew := by go_grown
    have bl : Blk ((((w.alloc (.cells #[.string s, .int .i64 l, .int .i64 b, .int .i64 i, .int .i64 h, .int .i64 p] 41)).alloc (.cells #[.int .i64 ga, .int .i64 gb, .int .i64 gc, .int .i64 gd, .int .i64 ge] 43)).alloc (.cells #[.string { data := #[] }, .int .i64 0, .int .i64 0, .int .i64 0, .int .i64 0, .int .i64 0] 41)).alloc (.cells #[.string s, .int .i64 (grow1 l ga t), .int .i64 0, .int .i64 0, .int .i64 0, .int .i64 0] 41)).drew (w.heap.size) 41 #[.string s, .int .i64 l, .int .i64 b, .int .i64 i, .int .i64 h, .int .i64 p] := (((Blk.new w _ _).alloc _).alloc _).alloc _
    have bg : Blk ((((w.alloc (.cells #[.string s, .int .i64 l, .int .i64 b, .int .i64 i, .int .i64 h, .int .i64 p] 41)).alloc (.cells #[.int .i64 ga, .int .i64 gb, .int .i64 gc, .int .i64 gd, .int .i64 ge] 43)).alloc (.cells #[.string { data := #[] }, .int .i64 0, .int .i64 0, .int .i64 0, .int .i64 0, .int .i64 0] 41)).alloc (.cells #[.string s, .int .i64 (grow1 l ga t), .int .i64 0, .int .i64 0, .int .i64 0, .int .i64 0] 41)).drew (w.heap.size + 1) 43 #[.int .i64 ga, .int .i64 gb, .int .i64 gc, .int .i64 gd, .int .i64 ge] := ((Blk.new1 w _ _ _).alloc _).alloc _
    have bz : Blk ((((w.alloc (.cells #[.string s, .int .i64 l, .int .i64 b, .int .i64 i, .int .i64 h, .int .i64 p] 41)).alloc (.cells #[.int .i64 ga, .int .i64 gb, .int .i64 gc, .int .i64 gd, .int .i64 ge] 43)).alloc (.cells #[.string { data := #[] }, .int .i64 0, .int .i64 0, .int .i64 0, .int .i64 0, .int .i64 0] 41)).alloc (.cells #[.string s, .int .i64 (grow1 l ga t), .int .i64 0, .int .i64 0, .int .i64 0, .int .i64 0] 41)).drew (w.heap.size + 1 + 1) 41 #[.string { data := #[] }, .int .i64 0, .int .i64 0, .int .i64 0, .int .i64 0, .int .i64 0] := (Blk.new2 w _ _ _ _).alloc _
    have bo : Blk ((((w.alloc (.cells #[.string s, .int .i64 l, .int .i64 b, .int .i64 i, .int .i64 h, .int .i64 p] 41)).alloc (.cells #[.int .i64 ga, .int .i64 gb, .int .i64 gc, .int .i64 gd, .int .i64 ge] 43)).alloc (.cells #[.string { data := #[] }, .int .i64 0, .int .i64 0, .int .i64 0, .int .i64 0, .int .i64 0] 41)).alloc (.cells #[.string s, .int .i64 (grow1 l ga t), .int .i64 0, .int .i64 0, .int .i64 0, .int .i64 0] 41)).drew (w.heap.size + 1 + 1 + 1) 41 #[.string s, .int .i64 (grow1 l ga t), .int .i64 0, .int .i64 0, .int .i64 0, .int .i64 0] := Blk.new3 w _ _ _ _ _
    generalize ((((w.alloc (.cells #[.string s, .int .i64 l, .int .i64 b, .int .i64 i, .int .i64 h, .int .i64 p] 41)).alloc (.cells #[.int .i64 ga, .int .i64 gb, .int .i64 gc, .int .i64 gd, .int .i64 ge] 43)).alloc (.cells #[.string { data := #[] }, .int .i64 0, .int .i64 0, .int .i64 0, .int .i64 0, .int .i64 0] 41)).alloc (.cells #[.string s, .int .i64 (grow1 l ga t), .int .i64 0, .int .i64 0, .int .i64 0, .int .i64 0] 41)).drew = W at *
    have cl2 : W.cell? ⟨w.heap.size, 2, none⟩ = some (.int .i64 b) := bl.cell 2
    have cl3 : W.cell? ⟨w.heap.size, 3, none⟩ = some (.int .i64 i) := bl.cell 3
    have cl4 : W.cell? ⟨w.heap.size, 4, none⟩ = some (.int .i64 h) := bl.cell 4
    have cl5 : W.cell? ⟨w.heap.size, 5, none⟩ = some (.int .i64 p) := bl.cell 5
    have cg1 : W.cell? ⟨w.heap.size + 1, 1, none⟩ = some (.int .i64 gb) := bg.cell 1
    have cg2 : W.cell? ⟨w.heap.size + 1, 2, none⟩ = some (.int .i64 gc) := bg.cell 2
    have cg3 : W.cell? ⟨w.heap.size + 1, 3, none⟩ = some (.int .i64 gd) := bg.cell 3
    have cg4 : W.cell? ⟨w.heap.size + 1, 4, none⟩ = some (.int .i64 ge) := bg.cell 4
    have cz0 : W.cell? ⟨w.heap.size + 1 + 1, 0, none⟩ = some (.string { data := #[] }) := bz.cell 0
    have fz0 : W.frozen? ⟨w.heap.size + 1 + 1, 0, none⟩ = false := bz.frozen 0
    have cz1 : W.cell? ⟨w.heap.size + 1 + 1, 1, none⟩ = some (.int .i64 0) := bz.cell 1
    have fz1 : W.frozen? ⟨w.heap.size + 1 + 1, 1, none⟩ = false := bz.frozen 1
    have cz2 : W.cell? ⟨w.heap.size + 1 + 1, 2, none⟩ = some (.int .i64 0) := bz.cell 2
    have fz2 : W.frozen? ⟨w.heap.size + 1 + 1, 2, none⟩ = false := bz.frozen 2
    have cz3 : W.cell? ⟨w.heap.size + 1 + 1, 3, none⟩ = some (.int .i64 0) := bz.cell 3
    have fz3 : W.frozen? ⟨w.heap.size + 1 + 1, 3, none⟩ = false := bz.frozen 3
    have cz4 : W.cell? ⟨w.heap.size + 1 + 1, 4, none⟩ = some (.int .i64 0) := bz.cell 4
    have fz4 : W.frozen? ⟨w.heap.size + 1 + 1, 4, none⟩ = false := bz.frozen 4
    have cz5 : W.cell? ⟨w.heap.size + 1 + 1, 5, none⟩ = some (.int .i64 0) := bz.cell 5
    have fz5 : W.frozen? ⟨w.heap.size + 1 + 1, 5, none⟩ = false := bz.frozen 5
    have co0 : W.cell? ⟨w.heap.size + 1 + 1 + 1, 0, none⟩ = some (.string s) := bo.cell 0
    have fo0 : W.frozen? ⟨w.heap.size + 1 + 1 + 1, 0, none⟩ = false := bo.frozen 0
    have co1 : W.cell? ⟨w.heap.size + 1 + 1 + 1, 1, none⟩ = some (.int .i64 (grow1 l ga t)) := bo.cell 1
    have fo1 : W.frozen? ⟨w.heap.size + 1 + 1 + 1, 1, none⟩ = false := bo.frozen 1
    have co2 : W.cell? ⟨w.heap.size + 1 + 1 + 1, 2, none⟩ = some (.int .i64 0) := bo.cell 2
    have fo2 : W.frozen? ⟨w.heap.size + 1 + 1 + 1, 2, none⟩ = false := bo.frozen 2
    have co3 : W.cell? ⟨w.heap.size + 1 + 1 + 1, 3, none⟩ = some (.int .i64 0) := bo.cell 3
    have fo3 : W.frozen? ⟨w.heap.size + 1 + 1 + 1, 3, none⟩ = false := bo.frozen 3
    have co4 : W.cell? ⟨w.heap.size + 1 + 1 + 1, 4, none⟩ = some (.int .i64 0) := bo.cell 4
    have fo4 : W.frozen? ⟨w.heap.size + 1 + 1 + 1, 4, none⟩ = false := bo.frozen 4
    have co5 : W.cell? ⟨w.heap.size + 1 + 1 + 1, 5, none⟩ = some (.int .i64 0) := bo.cell 5
    have fo5 : W.frozen? ⟨w.heap.size + 1 + 1 + 1, 5, none⟩ = false := bo.frozen 5
    clear bl bg bz bo
    go_wp2_with (go_at_call 110; refine (l05Add_any _ _ _ _ (by first | exact n2.out | exact n3.out | exact n4.out | exact n5.out) (by first | exact m2.out | exact m3.out | exact m4.out | exact m5.out) m6.out).mono ?_; rintro e w2 ⟨rfl, rfl⟩)
    refine bodyPost_ret (v := .agg #[.string s, .int .i64 (grow1 l ga t), .int .i64 (grow1 b gb t), .int .i64 (grow1 i gc t), .int .i64 (grow1 h gd t), .int .i64 (grow1 p ge t)]) (by simp [results, Try.results66, go_sem, cz0, cz1, cz2, cz3, cz4, cz5]) rfl ?_
    have k3 : w.heap.size ≤ w.heap.size + 1 + 1 + 1 := by omega
    have k2 : w.heap.size ≤ w.heap.size + 1 + 1 := by omega
    exact ⟨rfl, (Below.setCell (Below.setCell (Below.setCell (Below.setCell (Below.setCell (Below.setCell (Below.setCell (Below.setCell (Below.setCell (Below.setCell HW (k3) _) (k3) _) (k3) _) (k3) _) (k2) _) (k2) _) (k2) _) (k2) _) (k2) _) (k2) _)⟩
end Go.Proofs.Ytlbgognkaolamaa
