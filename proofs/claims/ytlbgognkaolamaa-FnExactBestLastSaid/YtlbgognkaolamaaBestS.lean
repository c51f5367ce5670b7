/-
  BestLast of the reference: the head of the ranked row is the first of the cheapest.
-/
import Derived.Test.YtlbgognkaolamaaRankS
namespace Go.Proofs.Ytlbgognkaolamaa
open Go.RowKit
set_option maxHeartbeats 1600000
set_option linter.unusedVariables false

theorem alwC_map (q0 q1 q2 : Int) (zf : List Int) (xs : List LastD) (f : FootD) : ∀ m, accL (alwC q0 q1 q2 zf xs [f]) m = (accL (alwI q0 q1 q2 xs [f]) m).map (rkF q0 zf xs f)
  | 0 => rfl
  | m + 1 => by
    show accL _ m ++ alwC q0 q1 q2 zf xs [f] m = (accL _ m ++ alwI q0 q1 q2 xs [f] m).map _
    rw [List.map_append, alwC_map q0 q1 q2 zf xs f m]
    congr 1
    unfold alwC alwI
    by_cases h : allM q0 q1 q2 (lastsAt xs m) [f] [f].length = true
    · rw [if_pos h, if_pos h]; simp [sumC, feetAt, rkF]
    · rw [if_neg h, if_neg h]; rfl
theorem ix_map {c : Int → Int} {is : List Int} {k : Nat} (hk : k < is.length) : ix (is.map c) k = c (ix is k) := by
  rw [← ix_eq (by simpa using hk), ← ix_eq hk, List.getElem_map]
theorem best_head {c : Int → Int} {is : List Int} (hi : Inc is 0 is.length) (hr : Rng is) (h0 : ¬ is.length = 0) : cheV is (is.map c) = ix (rankBy c is) 0 := by
  have hs : (rankBy c is).Pairwise fun x y => decide (keyOf c x ≤ keyOf c y) = true := List.pairwise_mergeSort (fun a b d h1 h2 => by simp at h1 h2 ⊢; omega) (fun a b => by simp; omega) is
  have hp : (rankBy c is).Perm is := List.mergeSort_perm _ _
  have hl := hp.length_eq
  cases hz : rankBy c is with
  | nil => rw [hz] at hl; simp at hl; omega
  | cons a t =>
    rw [hz] at hs hp
    have hle : ∀ x ∈ is, keyOf c a ≤ keyOf c x := fun x hx => by
      rcases List.mem_cons.1 (hp.mem_iff.2 hx) with e | e
      · rw [e]; exact Int.le_refl _
      · have := (List.pairwise_cons.1 hs).1 x e
        simpa using this
    obtain ⟨j, hj, ej⟩ := List.getElem_of_mem (hp.mem_iff.1 (List.mem_cons_self (a := a) (l := t)))
    rw [ix_eq hj] at ej
    have hk : ∀ k (h : k < is.length), keyOf c (ix is j) ≤ keyOf c (ix is k) := fun k h => by
      rw [ej]; exact hle _ (by rw [← ix_eq h]; exact List.getElem_mem h)
    have e := bestJ_eq (cs := is.map c) (j := j) (by simpa using hj) (fun k h => by
      have h' : k < is.length := by simpa using h
      rw [ix_map hj, ix_map h']
      have h1 := hk k h'
      have r1 := hr j hj
      have r2 := hr k h'
      unfold keyOf at h1; omega) (fun k h => by
      have h' : k < is.length := by omega
      rw [ix_map hj, ix_map h']
      have h1 := hk k h'
      have h2 := hi k j (Nat.zero_le _) h hj
      unfold keyOf at h1; omega)
    rw [cheV, if_neg h0, e, ej]
    rfl
theorem rankBy_nil (c : Int → Int) : rankBy c [] = [] := by simp [rankBy]
set_option maxRecDepth 100000 in
theorem sBestLast_any (A : Option Addr) (n c : Nat) (xs : List LastD) (f : FootD) (q0 q1 q2 : Int) (Af : Option Addr) (nf cf : Nat) (zf : List Int) (w : World) (hX : Rd w 6 A n (lasts xs)) (hn : n ≤ 1048576) (hx : ∀ x ∈ xs, x.s.size ≤ maxLen) (h0 : Rd w 1 Af nf (ints zf)) (hnf : nf ≤ 1048576) :
    Calls Try.prog 47 #[.slice A n c, .agg #[.int .i64 f.l, .int .i64 f.b, .int .i64 f.i, .int .i64 f.h], .agg #[.int .i64 q0, .int .i64 q1, .int .i64 q2, .slice Af nf cf]] w fun e w' => e = .returned (.tuple #[.int .i64 (beV q0 q1 q2 zf xs f), .int .i64 (beC q0 q1 q2 zf xs f)]) ∧ Below w.heap.size w w' := by
  have hxl := Lib.hid hX.lasts_length
  cases k1 : lsOk q0 q1 q2 zf xs f
  · have u1 := Lib.hid (show (0 : Int) = beV q0 q1 q2 zf xs f by rw [beV, if_neg (by simp [k1])])
    have u2 := Lib.hid (show (1 : Int) = beC q0 q1 q2 zf xs f by rw [beC, if_neg (by simp [k1])])
    have hr := Lib.hid (show rkR q0 q1 q2 zf xs f = ([], 1) by simp [rkR, k1])
    go_enter Try.func47, Try.ntmps47
    go_wp2_with fail
    refine (sRankLasts_any _ _ _ xs f _ _ _ _ _ _ zf _ ((hX.alloc _).alloc _) hn hx ((h0.alloc _).alloc _) hnf).mono ?_
    rintro e w8 ⟨A8, c8, rfl, o8, hb8⟩
    have HW := Bl.then ((Bl.alloc (Bl.alloc (Below.refl w.heap.size w) _) _)) hb8
    rw [hr.out]
    go_wp2_with fail
    go_ret2
    exact ⟨ret_int2 u1.out u2.out, HW⟩
  have hr := Lib.hid (show rkR q0 q1 q2 zf xs f = (rankBy (rkF q0 zf xs f) (accL (alwI q0 q1 q2 xs [f]) xs.length), 0) by simp [rkR, k1])
  have k2 := lsOk_bd k1
  have k9 := lastsOk_bd k2.1
  have hin := alw_inc q0 q1 q2 xs f xs.length
  have hle := accL_len (alwI_len q0 q1 q2 xs [f]) xs.length
  have hR : Rng (accL (alwI q0 q1 q2 xs [f]) xs.length) := hin.2.rng (by have := k9.1; omega)
  by_cases hz : (accL (alwI q0 q1 q2 xs [f]) xs.length).length = 0
  · have u1 := Lib.hid (show (0 : Int) = beV q0 q1 q2 zf xs f by rw [beV, if_pos k1, cheV, if_pos hz])
    have u2 := Lib.hid (show (10 : Int) = beC q0 q1 q2 zf xs f by rw [beC, if_pos k1, cheC, if_pos hz])
    have hr2 := Lib.hid (show rkR q0 q1 q2 zf xs f = ([], 0) by rw [hr.out, List.eq_nil_of_length_eq_zero hz, rankBy_nil])
    clear k2 k9 hin hle hR hz
    go_enter Try.func47, Try.ntmps47
    go_wp2_with fail
    refine (sRankLasts_any _ _ _ xs f _ _ _ _ _ _ zf _ ((hX.alloc _).alloc _) hn hx ((h0.alloc _).alloc _) hnf).mono ?_
    rintro e w8 ⟨A8, c8, rfl, o8, hb8⟩
    have HW := Bl.then ((Bl.alloc (Bl.alloc (Below.refl w.heap.size w) _) _)) hb8
    rw [hr2.out]
    go_wp2_with fail
    go_ret2
    exact ⟨ret_int2 u1.out u2.out, HW⟩
  have hbh := best_head (c := rkF q0 zf xs f) hin.1 hR hz
  rw [← alwC_map] at hbh
  have u1 := Lib.hid (show ix (rankBy (rkF q0 zf xs f) (accL (alwI q0 q1 q2 xs [f]) xs.length)) 0 = beV q0 q1 q2 zf xs f by rw [beV, if_pos k1, hbh])
  have u2 := Lib.hid (show (0 : Int) = beC q0 q1 q2 zf xs f by rw [beC, if_pos k1, cheC, if_neg hz])
  obtain ⟨zs, hzs⟩ : ∃ zs, zs = rankBy (rkF q0 zf xs f) (accL (alwI q0 q1 q2 xs [f]) xs.length) := ⟨_, rfl⟩
  have hzl : zs.length = (accL (alwI q0 q1 q2 xs [f]) xs.length).length := by rw [hzs]; exact rankBy_len _ _
  rw [← hzs] at u1 hr
  have hz0 : 0 < zs.length := by omega
  have hz30 : zs.length ≤ 30 := by have := k9.1; omega
  clear k2 k9 hin hle hR hz hbh hzs hzl
  go_enter Try.func47, Try.ntmps47
  go_wp2_with fail
  refine (sRankLasts_any _ _ _ xs f _ _ _ _ _ _ zf _ ((hX.alloc _).alloc _) hn hx ((h0.alloc _).alloc _) hnf).mono ?_
  rintro e w8 ⟨A8, c8, rfl, o8, hb8⟩
  have HW := Bl.then ((Bl.alloc (Bl.alloc (Below.refl w.heap.size w) _) _)) hb8
  rw [hr.out] at o8
  rw [hr.out]
  dsimp only at o8 ⊢
  obtain ⟨g8, e8, hbg, hgl, hnc, hcm⟩ := own_form o8 hz0
  subst e8
  have z0 := o8.cellAt 0 (by omega)
  rw [ints_get hz0] at z0
  have hne : ¬ zs.length = 0 := by omega
  go_wp2_with fail
  go_ret2
  exact ⟨ret_int2 u1.out u2.out, HW⟩
end Go.Proofs.Ytlbgognkaolamaa
