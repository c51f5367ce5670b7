/-
  RankLasts of the program; names are any strings that Go can hold, slices read as the given lists.
-/
import Derived.Test.YtlbgognkaolamaaRankP
import Derived.Test.YtlbgognkaolamaaStab3
namespace Go.Proofs.Ytlbgognkaolamaa
open Go.RowKit
set_option maxHeartbeats 1600000

theorem isNaNI_any (a : Int) (w : World) : Calls Try.prog 127 #[.int .i64 a] w fun e w' => e = .returned (.bool false) ∧ w = w' := by
  go_enter Try.func127, Try.ntmps127
  go_wp2
  go_ret
  exact ⟨ret_bool (by simp), rfl⟩
theorem CompareI_any (a b : Int) (w : World) : Calls Try.prog 94 #[.int .i64 a, .int .i64 b] w fun e w' => e = .returned (.int .i64 (cmpI a b)) ∧ w = w' := by
  by_cases h1 : a < b
  · have hr := Lib.hid (show (-1 : Int) = cmpI a b by unfold cmpI; rw [if_pos h1])
    go_enter Try.func94, Try.ntmps94
    go_wp2_with (go_at_call 127; refine (isNaNI_any _ _).mono ?_; rintro e w' ⟨rfl, rfl⟩)
    go_ret
    exact ⟨ret_int hr.out, rfl⟩
  by_cases h2 : b < a
  · have hr := Lib.hid (show (1 : Int) = cmpI a b by unfold cmpI; rw [if_neg h1, if_pos h2])
    go_enter Try.func94, Try.ntmps94
    go_wp2_with (go_at_call 127; refine (isNaNI_any _ _).mono ?_; rintro e w' ⟨rfl, rfl⟩)
    go_ret
    exact ⟨ret_int hr.out, rfl⟩
  · have hr := Lib.hid (show (0 : Int) = cmpI a b by unfold cmpI; rw [if_neg h1, if_neg h2])
    go_enter Try.func94, Try.ntmps94
    go_wp2_with (go_at_call 127; refine (isNaNI_any _ _).mono ?_; rintro e w' ⟨rfl, rfl⟩)
    go_ret
    exact ⟨ret_int hr.out, rfl⟩
/-- What the comparison holds: the lasts, the foot, the fit. -/
def HeldR (w : World) (pl pf pq : Nat) (A : Option Addr) (n c : Nat) (xs : List LastD) (f : FootD) (q0 q1 q2 : Int) (Af : Option Addr) (nf cf : Nat) (zf : List Int) : Prop :=
  Blk w pl 38 #[.slice A n c] ∧ Blk w pf 25 #[.int .i64 f.l, .int .i64 f.b, .int .i64 f.i, .int .i64 f.h] ∧ Blk w pq 53 #[.int .i64 q0, .int .i64 q1, .int .i64 q2, .slice Af nf cf] ∧ Rd w 6 A n (lasts xs) ∧ Rd w 1 Af nf (ints zf)
theorem HeldR.below {w w' : World} {pl pf pq : Nat} {A : Option Addr} {n c : Nat} {xs : List LastD} {f : FootD} {q0 q1 q2 : Int} {Af : Option Addr} {nf cf : Nat} {zf : List Int} (h : HeldR w pl pf pq A n c xs f q0 q1 q2 Af nf cf zf) (hb : Below w.heap.size w w') : HeldR w' pl pf pq A n c xs f q0 q1 q2 Af nf cf zf :=
  ⟨h.1.below hb, h.2.1.below hb, h.2.2.1.below hb, h.2.2.2.1.below hb, h.2.2.2.2.below hb⟩
set_option maxRecDepth 100000 in
theorem rankCmp_any (k m pl pf pq : Nat) (A : Option Addr) (n c : Nat) (xs : List LastD) (f : FootD) (q0 q1 q2 : Int) (Af : Option Addr) (nf cf : Nat) (zf : List Int) (w : World) (h : HeldR w pl pf pq A n c xs f q0 q1 q2 Af nf cf zf) (hk : k < n) (hm : m < n) (kx : ∀ k, k < n → lOk (lastsAt xs k) = true) (kf : fOk f = true) (kq : fitOk q0 q1 q2 zf = true) :
    Calls Try.prog 93 #[.int .i64 k, .int .i64 m, .pointer (some ⟨pl, 0, none⟩), .pointer (some ⟨pf, 0, none⟩), .pointer (some ⟨pq, 0, none⟩)] w fun e w' => e = .returned (.int .i64 (cmpI (cX q0 zf (lastsAt xs k) f) (cX q0 zf (lastsAt xs m) f))) ∧ Below w.heap.size w w' := by
  obtain ⟨BL, BF, BQ, RX, RQ⟩ := h
  have hxk := Lib.hid (show lastOk (lastsAt xs k).s (lastsAt xs k).l (lastsAt xs k).b (lastsAt xs k).i (lastsAt xs k).h (lastsAt xs k).p = true from kx k hk)
  have hxm := Lib.hid (show lastOk (lastsAt xs m).s (lastsAt xs m).l (lastsAt xs m).b (lastsAt xs m).i (lastsAt xs m).h (lastsAt xs m).p = true from kx m hm)
  have kfo := Lib.hid (show footOk f.l f.b f.i f.h = true from kf)
  have kq' := Lib.hid kq
  have c1 := Lib.hid (show costF (lastsAt xs k).l (lastsAt xs k).b (lastsAt xs k).i (lastsAt xs k).h f.l f.b f.i f.h q0 zf = cX q0 zf (lastsAt xs k) f from rfl)
  have c2 := Lib.hid (show costF (lastsAt xs m).l (lastsAt xs m).b (lastsAt xs m).i (lastsAt xs m).h f.l f.b f.i f.h q0 zf = cX q0 zf (lastsAt xs m) f from rfl)
  obtain ⟨bk, off, eA, hbl, i0, i1, i2, i3, i4, i5⟩ := RX.lasts hk
  subst eA
  obtain ⟨bk2, off2, eA2, hbl2, j0, j1, j2, j3, j4, j5⟩ := RX.lasts hm
  simp only [Option.some.injEq, Addr.mk.injEq, and_true] at eA2
  obtain ⟨rfl, rfl⟩ := eA2
  have kL := BL.cell
  have lL := BL.lt
  have kF := BF.cell
  have lF := BF.lt
  have kQ := BQ.cell
  have lQ := BQ.lt
  have HZ := Below.refl w.heap.size w
  clear kx kf kq hbl2
  go_enter Try.func93, Try.ntmps93
  go_wp2_with fail
  refine wp_region_held_drew (S := (fun wz => Below w.heap.size w wz ∧ ∀ b o, b < w.heap.size → wz.cell? ⟨b, o, none⟩ = w.cell? ⟨b, o, none⟩)) (by kernel_rfl) (old_of (Below.drew HZ)) (fun hHeld => ?_)
  refine wpAnyH_take (i := 0) (oi := ?_) (v := ?_) ?_ (by kernel_rfl) (by kernel_rfl) (by kernel_rfl) ?_ (Or.inl ⟨?_, ?_⟩) (by assumption) ?_
  rotate_left 2
  · (simp only [List.getElem?_toArray, List.getElem?_cons_zero]; rfl)
  · exact fun _ _ _ h => h
  · rfl
  · intro w hSw
    (try dsimp only at hSw)
    go_simp
    try with_reducible rfl
  simp only [put_arr, List.set_cons_zero, List.set_cons_succ]
  refine wpAnyH_take (i := 1) (oi := ?_) (v := ?_) ?_ (by kernel_rfl) (by kernel_rfl) (by kernel_rfl) ?_ (Or.inl ⟨?_, ?_⟩) (by assumption) ?_
  rotate_left 2
  · (simp only [List.getElem?_toArray, List.getElem?_cons_zero, List.getElem?_cons_succ]; rfl)
  · exact fun _ _ _ h => h
  · rfl
  · intro w hSw
    (try dsimp only at hSw)
    go_simp
    try with_reducible rfl
  simp only [put_arr, List.set_cons_zero, List.set_cons_succ]
  refine wpAnyH_take (i := 2) (oi := ?_) (v := ?_) ?_ (by kernel_rfl) (by kernel_rfl) (by kernel_rfl) ?_ (Or.inl ⟨?_, ?_⟩) (by assumption) ?_
  rotate_left 2
  · (simp only [List.getElem?_toArray, List.getElem?_cons_zero, List.getElem?_cons_succ]; rfl)
  · exact fun _ _ _ h => h
  · rfl
  · intro w hSw
    (try dsimp only at hSw)
    go_simp
    try with_reducible rfl
  simp only [put_arr, List.set_cons_zero, List.set_cons_succ]
  refine wpAnyH_take (i := 3) (oi := ?_) (v := ?_) ?_ (by kernel_rfl) (by kernel_rfl) (by kernel_rfl) ?_ (Or.inl ⟨?_, ?_⟩) (by assumption) ?_
  rotate_left 2
  · (simp only [List.getElem?_toArray, List.getElem?_cons_zero, List.getElem?_cons_succ]; rfl)
  · exact fun _ _ _ h => h
  · rfl
  · intro w hSw
    (try dsimp only at hSw)
    go_simp
    try with_reducible rfl
  simp only [put_arr, List.set_cons_zero, List.set_cons_succ]
  refine wpAnyH_take (i := 4) (oi := ?_) (v := ?_) ?_ (by kernel_rfl) (by kernel_rfl) (by kernel_rfl) ?_ (Or.inl ⟨?_, ?_⟩) (by assumption) ?_
  rotate_left 2
  · (simp only [List.getElem?_toArray, List.getElem?_cons_zero, List.getElem?_cons_succ]; rfl)
  · exact fun _ _ _ h => h
  · rfl
  · intro w hSw
    (try dsimp only at hSw)
    go_simp
    try with_reducible rfl
  simp only [put_arr, List.set_cons_zero, List.set_cons_succ]
  refine wpAnyH_take (i := 5) (oi := ?_) (v := ?_) ?_ (by kernel_rfl) (by kernel_rfl) (by kernel_rfl) ?_ (Or.inl ⟨?_, ?_⟩) (by assumption) ?_
  rotate_left 2
  · (simp only [List.getElem?_toArray, List.getElem?_cons_zero, List.getElem?_cons_succ]; rfl)
  · exact fun _ _ _ h => h
  · rfl
  · intro w hSw
    (try dsimp only at hSw)
    go_simp
    try with_reducible rfl
  simp only [put_arr, List.set_cons_zero, List.set_cons_succ]
  refine wpAnyH_ready (rs := [6]) (by kernel_rfl) (by simp) ?_
  refine AllReadyH.cons (o := ?_) ?_ (fun K hK => ?_) AllReadyH.nil
  rotate_left
  · (simp only [List.getElem?_toArray, List.getElem?_cons_zero, List.getElem?_cons_succ]; rfl)
  rw [if_pos (by rfl)]
  go_simp
  (with_reducible refine (fitCost_any _ _ _ _ _ _ _ _ _ _ _ _ _ _ _ _ _ _ (RQ.below hHeld.1) hxk.out kfo.out kq'.out).mono ?_)
  rintro e v2 ⟨rfl, hb7⟩
  have HZ7 := Bl.then (w := w) hHeld.1 hb7
  go_wp2_with fail
  refine hK.out _ _ (old_of HZ7) (fun hHeld2 => ?_)
  clear hK K hHeld
  have hHeld := hHeld2
  clear hHeld2
  refine wpAnyH_take (i := 7) (oi := ?_) (v := ?_) ?_ (by kernel_rfl) (by kernel_rfl) (by kernel_rfl) ?_ (Or.inl ⟨?_, ?_⟩) (by assumption) ?_
  rotate_left 2
  · (simp only [List.getElem?_toArray, List.getElem?_cons_zero, List.getElem?_cons_succ]; rfl)
  · exact fun _ _ _ h => h
  · rfl
  · intro w hSw
    (try dsimp only at hSw)
    go_simp
    try with_reducible rfl
  simp only [put_arr, List.set_cons_zero, List.set_cons_succ]
  refine wpAnyH_take (i := 8) (oi := ?_) (v := ?_) ?_ (by kernel_rfl) (by kernel_rfl) (by kernel_rfl) ?_ (Or.inl ⟨?_, ?_⟩) (by assumption) ?_
  rotate_left 2
  · (simp only [List.getElem?_toArray, List.getElem?_cons_zero, List.getElem?_cons_succ]; rfl)
  · exact fun _ _ _ h => h
  · rfl
  · intro w hSw
    (try dsimp only at hSw)
    go_simp
    try with_reducible rfl
  simp only [put_arr, List.set_cons_zero, List.set_cons_succ]
  refine wpAnyH_take (i := 9) (oi := ?_) (v := ?_) ?_ (by kernel_rfl) (by kernel_rfl) (by kernel_rfl) ?_ (Or.inl ⟨?_, ?_⟩) (by assumption) ?_
  rotate_left 2
  · (simp only [List.getElem?_toArray, List.getElem?_cons_zero, List.getElem?_cons_succ]; rfl)
  · exact fun _ _ _ h => h
  · rfl
  · intro w hSw
    (try dsimp only at hSw)
    go_simp
    try with_reducible rfl
  simp only [put_arr, List.set_cons_zero, List.set_cons_succ]
  refine wpAnyH_take (i := 10) (oi := ?_) (v := ?_) ?_ (by kernel_rfl) (by kernel_rfl) (by kernel_rfl) ?_ (Or.inl ⟨?_, ?_⟩) (by assumption) ?_
  rotate_left 2
  · (simp only [List.getElem?_toArray, List.getElem?_cons_zero, List.getElem?_cons_succ]; rfl)
  · exact fun _ _ _ h => h
  · rfl
  · intro w hSw
    (try dsimp only at hSw)
    go_simp
    try with_reducible rfl
  simp only [put_arr, List.set_cons_zero, List.set_cons_succ]
  refine wpAnyH_take (i := 11) (oi := ?_) (v := ?_) ?_ (by kernel_rfl) (by kernel_rfl) (by kernel_rfl) ?_ (Or.inl ⟨?_, ?_⟩) (by assumption) ?_
  rotate_left 2
  · (simp only [List.getElem?_toArray, List.getElem?_cons_zero, List.getElem?_cons_succ]; rfl)
  · exact fun _ _ _ h => h
  · rfl
  · intro w hSw
    (try dsimp only at hSw)
    go_simp
    try with_reducible rfl
  simp only [put_arr, List.set_cons_zero, List.set_cons_succ]
  refine wpAnyH_done (by kernel_rfl) ?_ _
  clear hHeld
  go_wp2_with fail
  refine wp_region_held_drew (S := (fun wz => Below w.heap.size w wz ∧ ∀ b o, b < w.heap.size → wz.cell? ⟨b, o, none⟩ = w.cell? ⟨b, o, none⟩)) (by kernel_rfl) (old_of (Below.drew HZ7)) (fun hHeld => ?_)
  refine wpAnyH_take (i := 0) (oi := ?_) (v := ?_) ?_ (by kernel_rfl) (by kernel_rfl) (by kernel_rfl) ?_ (Or.inl ⟨?_, ?_⟩) (by assumption) ?_
  rotate_left 2
  · (simp only [List.getElem?_toArray, List.getElem?_cons_zero]; rfl)
  · exact fun _ _ _ h => h
  · rfl
  · intro w hSw
    (try dsimp only at hSw)
    go_simp
    try with_reducible rfl
  simp only [put_arr, List.set_cons_zero, List.set_cons_succ]
  refine wpAnyH_take (i := 1) (oi := ?_) (v := ?_) ?_ (by kernel_rfl) (by kernel_rfl) (by kernel_rfl) ?_ (Or.inl ⟨?_, ?_⟩) (by assumption) ?_
  rotate_left 2
  · (simp only [List.getElem?_toArray, List.getElem?_cons_zero, List.getElem?_cons_succ]; rfl)
  · exact fun _ _ _ h => h
  · rfl
  · intro w hSw
    (try dsimp only at hSw)
    go_simp
    try with_reducible rfl
  simp only [put_arr, List.set_cons_zero, List.set_cons_succ]
  refine wpAnyH_take (i := 2) (oi := ?_) (v := ?_) ?_ (by kernel_rfl) (by kernel_rfl) (by kernel_rfl) ?_ (Or.inl ⟨?_, ?_⟩) (by assumption) ?_
  rotate_left 2
  · (simp only [List.getElem?_toArray, List.getElem?_cons_zero, List.getElem?_cons_succ]; rfl)
  · exact fun _ _ _ h => h
  · rfl
  · intro w hSw
    (try dsimp only at hSw)
    go_simp
    try with_reducible rfl
  simp only [put_arr, List.set_cons_zero, List.set_cons_succ]
  refine wpAnyH_take (i := 3) (oi := ?_) (v := ?_) ?_ (by kernel_rfl) (by kernel_rfl) (by kernel_rfl) ?_ (Or.inl ⟨?_, ?_⟩) (by assumption) ?_
  rotate_left 2
  · (simp only [List.getElem?_toArray, List.getElem?_cons_zero, List.getElem?_cons_succ]; rfl)
  · exact fun _ _ _ h => h
  · rfl
  · intro w hSw
    (try dsimp only at hSw)
    go_simp
    try with_reducible rfl
  simp only [put_arr, List.set_cons_zero, List.set_cons_succ]
  refine wpAnyH_take (i := 4) (oi := ?_) (v := ?_) ?_ (by kernel_rfl) (by kernel_rfl) (by kernel_rfl) ?_ (Or.inl ⟨?_, ?_⟩) (by assumption) ?_
  rotate_left 2
  · (simp only [List.getElem?_toArray, List.getElem?_cons_zero, List.getElem?_cons_succ]; rfl)
  · exact fun _ _ _ h => h
  · rfl
  · intro w hSw
    (try dsimp only at hSw)
    go_simp
    try with_reducible rfl
  simp only [put_arr, List.set_cons_zero, List.set_cons_succ]
  refine wpAnyH_take (i := 5) (oi := ?_) (v := ?_) ?_ (by kernel_rfl) (by kernel_rfl) (by kernel_rfl) ?_ (Or.inl ⟨?_, ?_⟩) (by assumption) ?_
  rotate_left 2
  · (simp only [List.getElem?_toArray, List.getElem?_cons_zero, List.getElem?_cons_succ]; rfl)
  · exact fun _ _ _ h => h
  · rfl
  · intro w hSw
    (try dsimp only at hSw)
    go_simp
    try with_reducible rfl
  simp only [put_arr, List.set_cons_zero, List.set_cons_succ]
  refine wpAnyH_ready (rs := [6]) (by kernel_rfl) (by simp) ?_
  refine AllReadyH.cons (o := ?_) ?_ (fun K hK => ?_) AllReadyH.nil
  rotate_left
  · (simp only [List.getElem?_toArray, List.getElem?_cons_zero, List.getElem?_cons_succ]; rfl)
  rw [if_pos (by rfl)]
  go_simp
  (with_reducible refine (fitCost_any _ _ _ _ _ _ _ _ _ _ _ _ _ _ _ _ _ _ (RQ.below hHeld.1) hxm.out kfo.out kq'.out).mono ?_)
  rintro e v3 ⟨rfl, hb8⟩
  have HZ8 := Bl.then (w := w) hHeld.1 hb8
  go_wp2_with fail
  refine hK.out _ _ (old_of HZ8) (fun hHeld2 => ?_)
  clear hK K hHeld
  have hHeld := hHeld2
  clear hHeld2
  refine wpAnyH_take (i := 7) (oi := ?_) (v := ?_) ?_ (by kernel_rfl) (by kernel_rfl) (by kernel_rfl) ?_ (Or.inl ⟨?_, ?_⟩) (by assumption) ?_
  rotate_left 2
  · (simp only [List.getElem?_toArray, List.getElem?_cons_zero, List.getElem?_cons_succ]; rfl)
  · exact fun _ _ _ h => h
  · rfl
  · intro w hSw
    (try dsimp only at hSw)
    go_simp
    try with_reducible rfl
  simp only [put_arr, List.set_cons_zero, List.set_cons_succ]
  refine wpAnyH_take (i := 8) (oi := ?_) (v := ?_) ?_ (by kernel_rfl) (by kernel_rfl) (by kernel_rfl) ?_ (Or.inl ⟨?_, ?_⟩) (by assumption) ?_
  rotate_left 2
  · (simp only [List.getElem?_toArray, List.getElem?_cons_zero, List.getElem?_cons_succ]; rfl)
  · exact fun _ _ _ h => h
  · rfl
  · intro w hSw
    (try dsimp only at hSw)
    go_simp
    try with_reducible rfl
  simp only [put_arr, List.set_cons_zero, List.set_cons_succ]
  refine wpAnyH_take (i := 9) (oi := ?_) (v := ?_) ?_ (by kernel_rfl) (by kernel_rfl) (by kernel_rfl) ?_ (Or.inl ⟨?_, ?_⟩) (by assumption) ?_
  rotate_left 2
  · (simp only [List.getElem?_toArray, List.getElem?_cons_zero, List.getElem?_cons_succ]; rfl)
  · exact fun _ _ _ h => h
  · rfl
  · intro w hSw
    (try dsimp only at hSw)
    go_simp
    try with_reducible rfl
  simp only [put_arr, List.set_cons_zero, List.set_cons_succ]
  refine wpAnyH_take (i := 10) (oi := ?_) (v := ?_) ?_ (by kernel_rfl) (by kernel_rfl) (by kernel_rfl) ?_ (Or.inl ⟨?_, ?_⟩) (by assumption) ?_
  rotate_left 2
  · (simp only [List.getElem?_toArray, List.getElem?_cons_zero, List.getElem?_cons_succ]; rfl)
  · exact fun _ _ _ h => h
  · rfl
  · intro w hSw
    (try dsimp only at hSw)
    go_simp
    try with_reducible rfl
  simp only [put_arr, List.set_cons_zero, List.set_cons_succ]
  refine wpAnyH_take (i := 11) (oi := ?_) (v := ?_) ?_ (by kernel_rfl) (by kernel_rfl) (by kernel_rfl) ?_ (Or.inl ⟨?_, ?_⟩) (by assumption) ?_
  rotate_left 2
  · (simp only [List.getElem?_toArray, List.getElem?_cons_zero, List.getElem?_cons_succ]; rfl)
  · exact fun _ _ _ h => h
  · rfl
  · intro w hSw
    (try dsimp only at hSw)
    go_simp
    try with_reducible rfl
  simp only [put_arr, List.set_cons_zero, List.set_cons_succ]
  refine wpAnyH_done (by kernel_rfl) ?_ _
  clear hHeld
  go_wp2_with fail
  refine (CompareI_any _ _ _).mono ?_
  rintro e w9 ⟨rfl, rfl⟩
  go_wp2_with fail
  go_ret
  exact ⟨ret_int (by rw [← c1.out, ← c2.out]), HZ8⟩
theorem cmpAt_of {w0 : World} {pl pf pq : Nat} {A : Option Addr} {n c : Nat} {xs : List LastD} {f : FootD} {q0 q1 q2 : Int} {Af : Option Addr} {nf cf : Nat} {zf : List Int} (h : HeldR w0 pl pf pq A n c xs f q0 q1 q2 Af nf cf zf) (kx : ∀ k, k < n → lOk (lastsAt xs k) = true) (kf : fOk f = true) (kq : fitOk q0 q1 q2 zf = true) :
    CmpAt w0.heap.size w0 pl pf pq (rkF q0 zf xs f) n := by
  intro x y w hx1 hx2 hy1 hy2 hb
  obtain ⟨k, rfl⟩ : ∃ k : Nat, x = k := ⟨x.toNat, by omega⟩
  obtain ⟨m, rfl⟩ : ∃ m : Nat, y = m := ⟨y.toNat, by omega⟩
  exact rankCmp_any k m pl pf pq A n c xs f q0 q1 q2 Af nf cf zf w (h.below hb) (by omega) (by omega) kx kf kq
theorem insSort_none (A : Option Addr) (n c : Nat) (fv : Value) (w : World) :
    Calls Try.prog 138 #[.slice A n c, .int .i64 0, .int .i64 0, fv] w fun e w' => e = .returned (.tuple #[]) ∧ w = w' := by
  go_enter Try.func138, Try.ntmps138
  go_wp2_with fail
  refine wp_loop_rounds 1 ?_
  rw [rounds_succ]
  go_wp2_with fail
  go_end0
  exact ⟨rfl, rfl⟩
theorem stable_none (A : Option Addr) (c : Nat) (fv : Value) (w : World) :
    Calls Try.prog 126 #[.slice A 0 c, .int .i64 0, fv] w fun e w' => e = .returned (.tuple #[]) ∧ w = w' := by
  go_enter Try.func126, Try.ntmps126
  go_wp2_with fail
  refine wp_loop_rounds 1 ?_
  rw [rounds_succ]
  go_wp2_with fail
  refine (insSort_none _ _ _ _ _).mono ?_
  rintro e w2 ⟨rfl, rfl⟩
  go_wp2_with fail
  refine wp_loop_rounds 1 ?_
  rw [rounds_succ]
  go_wp2_with fail
  go_end0
  exact ⟨rfl, rfl⟩
theorem SortStable_none (A : Option Addr) (c : Nat) (fv : Value) (w : World) :
    Calls Try.prog 92 #[.slice A 0 c, fv] w fun e w' => e = .returned (.tuple #[]) ∧ w = w' := by
  go_enter Try.func92, Try.ntmps92
  go_wp2_with fail
  refine (stable_none _ _ _ _).mono ?_
  rintro e w2 ⟨rfl, rfl⟩
  go_wp2_with fail
  go_end0
  exact ⟨rfl, rfl⟩
set_option maxRecDepth 100000 in
theorem RankLasts_any (A : Option Addr) (n c : Nat) (xs : List LastD) (f : FootD) (q0 q1 q2 : Int) (Af : Option Addr) (nf cf : Nat) (zf : List Int) (w : World) (hX : Rd w 6 A n (lasts xs)) (hn : n ≤ 1048576) (hx : ∀ x ∈ xs, x.s.size ≤ maxLen) (h0 : Rd w 1 Af nf (ints zf)) (hnf : nf ≤ 1048576) :
    Calls Try.prog 52 #[.slice A n c, .agg #[.int .i64 f.l, .int .i64 f.b, .int .i64 f.i, .int .i64 f.h], .agg #[.int .i64 q0, .int .i64 q1, .int .i64 q2, .slice Af nf cf]] w (RetInts (rkR q0 q1 q2 zf xs f) w) := by
  have hxl := Lib.hid hX.lasts_length
  have hfo : footOk f.l f.b f.i f.h = fOk f := rfl
  cases k1 : lastsOk xs
  · have hr := Lib.hid (show rkR q0 q1 q2 zf xs f = ([], 1) by simp [rkR, lsOk, k1])
    clear hfo
    go_enter Try.func52, Try.ntmps52
    go_wp2_with fail
    refine (ValidLasts_any _ _ _ _ _ (((hX.alloc _).alloc _).alloc _) (by omega) hx).mono ?_
    rintro e w1 ⟨rfl, H1⟩
    have BL := (((Blk.new w 38 #[.slice A n c]).alloc (.cells #[.int .i64 f.l, .int .i64 f.b, .int .i64 f.i, .int .i64 f.h] 25)).alloc (.cells #[.int .i64 q0, .int .i64 q1, .int .i64 q2, .slice Af nf cf] 53)).below H1
    have BF := ((Blk.new1 w _ 25 #[.int .i64 f.l, .int .i64 f.b, .int .i64 f.i, .int .i64 f.h]).alloc (.cells #[.int .i64 q0, .int .i64 q1, .int .i64 q2, .slice Af nf cf] 53)).below H1
    have BQ := (Blk.new2 w _ _ 53 #[.int .i64 q0, .int .i64 q1, .int .i64 q2, .slice Af nf cf]).below H1
    have HW : Below w.heap.size w w1 := Bl.then (by go_grown) H1
    clear H1
    have cL0 : w1.cell? ⟨w.heap.size, 0, none⟩ = some (.slice A n c) := BL.cell 0
    have lL := BL.lt
    have cF0 : w1.cell? ⟨w.heap.size + 1, 0, none⟩ = some (.int .i64 f.l) := BF.cell 0
    have cF1 : w1.cell? ⟨w.heap.size + 1, 1, none⟩ = some (.int .i64 f.b) := BF.cell 1
    have cF2 : w1.cell? ⟨w.heap.size + 1, 2, none⟩ = some (.int .i64 f.i) := BF.cell 2
    have cF3 : w1.cell? ⟨w.heap.size + 1, 3, none⟩ = some (.int .i64 f.h) := BF.cell 3
    have lF := BF.lt
    have cQ0 : w1.cell? ⟨w.heap.size + 1 + 1, 0, none⟩ = some (.int .i64 q0) := BQ.cell 0
    have cQ1 : w1.cell? ⟨w.heap.size + 1 + 1, 1, none⟩ = some (.int .i64 q1) := BQ.cell 1
    have cQ2 : w1.cell? ⟨w.heap.size + 1 + 1, 2, none⟩ = some (.int .i64 q2) := BQ.cell 2
    have cQ3 : w1.cell? ⟨w.heap.size + 1 + 1, 3, none⟩ = some (.slice Af nf cf) := BQ.cell 3
    have lQ := BQ.lt
    go_wp2_with fail
    go_ret2
    exact RetInts.nil hr.out HW
  cases k2 : footOk f.l f.b f.i f.h
  · have hr := Lib.hid (show rkR q0 q1 q2 zf xs f = ([], 1) by simp [rkR, lsOk, ← hfo, k2])
    clear hfo
    go_enter Try.func52, Try.ntmps52
    go_wp2_with fail
    refine (ValidLasts_any _ _ _ _ _ (((hX.alloc _).alloc _).alloc _) (by omega) hx).mono ?_
    rintro e w1 ⟨rfl, H1⟩
    have BL := (((Blk.new w 38 #[.slice A n c]).alloc (.cells #[.int .i64 f.l, .int .i64 f.b, .int .i64 f.i, .int .i64 f.h] 25)).alloc (.cells #[.int .i64 q0, .int .i64 q1, .int .i64 q2, .slice Af nf cf] 53)).below H1
    have BF := ((Blk.new1 w _ 25 #[.int .i64 f.l, .int .i64 f.b, .int .i64 f.i, .int .i64 f.h]).alloc (.cells #[.int .i64 q0, .int .i64 q1, .int .i64 q2, .slice Af nf cf] 53)).below H1
    have BQ := (Blk.new2 w _ _ 53 #[.int .i64 q0, .int .i64 q1, .int .i64 q2, .slice Af nf cf]).below H1
    have HW : Below w.heap.size w w1 := Bl.then (by go_grown) H1
    clear H1
    have cL0 : w1.cell? ⟨w.heap.size, 0, none⟩ = some (.slice A n c) := BL.cell 0
    have lL := BL.lt
    have cF0 : w1.cell? ⟨w.heap.size + 1, 0, none⟩ = some (.int .i64 f.l) := BF.cell 0
    have cF1 : w1.cell? ⟨w.heap.size + 1, 1, none⟩ = some (.int .i64 f.b) := BF.cell 1
    have cF2 : w1.cell? ⟨w.heap.size + 1, 2, none⟩ = some (.int .i64 f.i) := BF.cell 2
    have cF3 : w1.cell? ⟨w.heap.size + 1, 3, none⟩ = some (.int .i64 f.h) := BF.cell 3
    have lF := BF.lt
    have cQ0 : w1.cell? ⟨w.heap.size + 1 + 1, 0, none⟩ = some (.int .i64 q0) := BQ.cell 0
    have cQ1 : w1.cell? ⟨w.heap.size + 1 + 1, 1, none⟩ = some (.int .i64 q1) := BQ.cell 1
    have cQ2 : w1.cell? ⟨w.heap.size + 1 + 1, 2, none⟩ = some (.int .i64 q2) := BQ.cell 2
    have cQ3 : w1.cell? ⟨w.heap.size + 1 + 1, 3, none⟩ = some (.slice Af nf cf) := BQ.cell 3
    have lQ := BQ.lt
    go_wp2_with fail
    refine (ValidFoot_any _ _ _ _ _).mono ?_
    rintro e w2 ⟨rfl, hb2⟩
    clear cL0 lL cF0 cF1 cF2 cF3 lF cQ0 cQ1 cQ2 cQ3 lQ
    replace BL := BL.below hb2
    replace BF := BF.below hb2
    replace BQ := BQ.below hb2
    replace HW := Bl.then HW hb2
    have cL0 : w2.cell? ⟨w.heap.size, 0, none⟩ = some (.slice A n c) := BL.cell 0
    have lL := BL.lt
    have cF0 : w2.cell? ⟨w.heap.size + 1, 0, none⟩ = some (.int .i64 f.l) := BF.cell 0
    have cF1 : w2.cell? ⟨w.heap.size + 1, 1, none⟩ = some (.int .i64 f.b) := BF.cell 1
    have cF2 : w2.cell? ⟨w.heap.size + 1, 2, none⟩ = some (.int .i64 f.i) := BF.cell 2
    have cF3 : w2.cell? ⟨w.heap.size + 1, 3, none⟩ = some (.int .i64 f.h) := BF.cell 3
    have lF := BF.lt
    have cQ0 : w2.cell? ⟨w.heap.size + 1 + 1, 0, none⟩ = some (.int .i64 q0) := BQ.cell 0
    have cQ1 : w2.cell? ⟨w.heap.size + 1 + 1, 1, none⟩ = some (.int .i64 q1) := BQ.cell 1
    have cQ2 : w2.cell? ⟨w.heap.size + 1 + 1, 2, none⟩ = some (.int .i64 q2) := BQ.cell 2
    have cQ3 : w2.cell? ⟨w.heap.size + 1 + 1, 3, none⟩ = some (.slice Af nf cf) := BQ.cell 3
    have lQ := BQ.lt
    go_wp2_with fail
    go_ret2
    exact RetInts.nil hr.out HW
  cases k3 : fitOk q0 q1 q2 zf
  · have hr := Lib.hid (show rkR q0 q1 q2 zf xs f = ([], 1) by simp [rkR, lsOk, k3])
    clear hfo
    go_enter Try.func52, Try.ntmps52
    go_wp2_with fail
    refine (ValidLasts_any _ _ _ _ _ (((hX.alloc _).alloc _).alloc _) (by omega) hx).mono ?_
    rintro e w1 ⟨rfl, H1⟩
    have BL := (((Blk.new w 38 #[.slice A n c]).alloc (.cells #[.int .i64 f.l, .int .i64 f.b, .int .i64 f.i, .int .i64 f.h] 25)).alloc (.cells #[.int .i64 q0, .int .i64 q1, .int .i64 q2, .slice Af nf cf] 53)).below H1
    have BF := ((Blk.new1 w _ 25 #[.int .i64 f.l, .int .i64 f.b, .int .i64 f.i, .int .i64 f.h]).alloc (.cells #[.int .i64 q0, .int .i64 q1, .int .i64 q2, .slice Af nf cf] 53)).below H1
    have BQ := (Blk.new2 w _ _ 53 #[.int .i64 q0, .int .i64 q1, .int .i64 q2, .slice Af nf cf]).below H1
    have HW : Below w.heap.size w w1 := Bl.then (by go_grown) H1
    clear H1
    have cL0 : w1.cell? ⟨w.heap.size, 0, none⟩ = some (.slice A n c) := BL.cell 0
    have lL := BL.lt
    have cF0 : w1.cell? ⟨w.heap.size + 1, 0, none⟩ = some (.int .i64 f.l) := BF.cell 0
    have cF1 : w1.cell? ⟨w.heap.size + 1, 1, none⟩ = some (.int .i64 f.b) := BF.cell 1
    have cF2 : w1.cell? ⟨w.heap.size + 1, 2, none⟩ = some (.int .i64 f.i) := BF.cell 2
    have cF3 : w1.cell? ⟨w.heap.size + 1, 3, none⟩ = some (.int .i64 f.h) := BF.cell 3
    have lF := BF.lt
    have cQ0 : w1.cell? ⟨w.heap.size + 1 + 1, 0, none⟩ = some (.int .i64 q0) := BQ.cell 0
    have cQ1 : w1.cell? ⟨w.heap.size + 1 + 1, 1, none⟩ = some (.int .i64 q1) := BQ.cell 1
    have cQ2 : w1.cell? ⟨w.heap.size + 1 + 1, 2, none⟩ = some (.int .i64 q2) := BQ.cell 2
    have cQ3 : w1.cell? ⟨w.heap.size + 1 + 1, 3, none⟩ = some (.slice Af nf cf) := BQ.cell 3
    have lQ := BQ.lt
    go_wp2_with fail
    refine (ValidFoot_any _ _ _ _ _).mono ?_
    rintro e w2 ⟨rfl, hb2⟩
    clear cL0 lL cF0 cF1 cF2 cF3 lF cQ0 cQ1 cQ2 cQ3 lQ
    replace BL := BL.below hb2
    replace BF := BF.below hb2
    replace BQ := BQ.below hb2
    replace HW := Bl.then HW hb2
    have cL0 : w2.cell? ⟨w.heap.size, 0, none⟩ = some (.slice A n c) := BL.cell 0
    have lL := BL.lt
    have cF0 : w2.cell? ⟨w.heap.size + 1, 0, none⟩ = some (.int .i64 f.l) := BF.cell 0
    have cF1 : w2.cell? ⟨w.heap.size + 1, 1, none⟩ = some (.int .i64 f.b) := BF.cell 1
    have cF2 : w2.cell? ⟨w.heap.size + 1, 2, none⟩ = some (.int .i64 f.i) := BF.cell 2
    have cF3 : w2.cell? ⟨w.heap.size + 1, 3, none⟩ = some (.int .i64 f.h) := BF.cell 3
    have lF := BF.lt
    have cQ0 : w2.cell? ⟨w.heap.size + 1 + 1, 0, none⟩ = some (.int .i64 q0) := BQ.cell 0
    have cQ1 : w2.cell? ⟨w.heap.size + 1 + 1, 1, none⟩ = some (.int .i64 q1) := BQ.cell 1
    have cQ2 : w2.cell? ⟨w.heap.size + 1 + 1, 2, none⟩ = some (.int .i64 q2) := BQ.cell 2
    have cQ3 : w2.cell? ⟨w.heap.size + 1 + 1, 3, none⟩ = some (.slice Af nf cf) := BQ.cell 3
    have lQ := BQ.lt
    go_wp2_with fail
    refine (ValidFit_any _ _ _ _ _ _ _ _ (h0.below HW) hnf).mono ?_
    rintro e w3 ⟨rfl, hb3⟩
    clear cL0 lL cF0 cF1 cF2 cF3 lF cQ0 cQ1 cQ2 cQ3 lQ
    replace BL := BL.below hb3
    replace BF := BF.below hb3
    replace BQ := BQ.below hb3
    replace HW := Bl.then HW hb3
    have cL0 : w3.cell? ⟨w.heap.size, 0, none⟩ = some (.slice A n c) := BL.cell 0
    have lL := BL.lt
    have cF0 : w3.cell? ⟨w.heap.size + 1, 0, none⟩ = some (.int .i64 f.l) := BF.cell 0
    have cF1 : w3.cell? ⟨w.heap.size + 1, 1, none⟩ = some (.int .i64 f.b) := BF.cell 1
    have cF2 : w3.cell? ⟨w.heap.size + 1, 2, none⟩ = some (.int .i64 f.i) := BF.cell 2
    have cF3 : w3.cell? ⟨w.heap.size + 1, 3, none⟩ = some (.int .i64 f.h) := BF.cell 3
    have lF := BF.lt
    have cQ0 : w3.cell? ⟨w.heap.size + 1 + 1, 0, none⟩ = some (.int .i64 q0) := BQ.cell 0
    have cQ1 : w3.cell? ⟨w.heap.size + 1 + 1, 1, none⟩ = some (.int .i64 q1) := BQ.cell 1
    have cQ2 : w3.cell? ⟨w.heap.size + 1 + 1, 2, none⟩ = some (.int .i64 q2) := BQ.cell 2
    have cQ3 : w3.cell? ⟨w.heap.size + 1 + 1, 3, none⟩ = some (.slice Af nf cf) := BQ.cell 3
    have lQ := BQ.lt
    go_wp2_with fail
    go_ret2
    exact RetInts.nil hr.out HW
  have hr := Lib.hid (show rkR q0 q1 q2 zf xs f = (rankBy (rkF q0 zf xs f) (accL (alwI q0 q1 q2 xs [f]) xs.length), 0) by simp [rkR, lsOk, k1, ← hfo, k2, k3])
  have k9 := Lib.hid (lastsOk_bd k1)
  have kx := Lib.hid (fun (k : Nat) (hk : k < xs.length) => lOk_bd k1 hk)
  have kf := Lib.hid (feet_one (show fOk f = true from k2))
  have kff := Lib.hid (show fOk f = true from k2)
  have k3' := Lib.hid k3
  have hin := Lib.hid (alw_inc q0 q1 q2 xs f xs.length)
  have hle := Lib.hid (accL_len (alwI_len q0 q1 q2 xs [f]) xs.length)
  clear hfo
  go_enter Try.func52, Try.ntmps52
  go_wp2_with fail
  refine (ValidLasts_any _ _ _ _ _ (((hX.alloc _).alloc _).alloc _) (by omega) hx).mono ?_
  rintro e w1 ⟨rfl, H1⟩
  have BL := (((Blk.new w 38 #[.slice A n c]).alloc (.cells #[.int .i64 f.l, .int .i64 f.b, .int .i64 f.i, .int .i64 f.h] 25)).alloc (.cells #[.int .i64 q0, .int .i64 q1, .int .i64 q2, .slice Af nf cf] 53)).below H1
  have BF := ((Blk.new1 w _ 25 #[.int .i64 f.l, .int .i64 f.b, .int .i64 f.i, .int .i64 f.h]).alloc (.cells #[.int .i64 q0, .int .i64 q1, .int .i64 q2, .slice Af nf cf] 53)).below H1
  have BQ := (Blk.new2 w _ _ 53 #[.int .i64 q0, .int .i64 q1, .int .i64 q2, .slice Af nf cf]).below H1
  have HW : Below w.heap.size w w1 := Bl.then (by go_grown) H1
  clear H1
  have cL0 : w1.cell? ⟨w.heap.size, 0, none⟩ = some (.slice A n c) := BL.cell 0
  have lL := BL.lt
  have cF0 : w1.cell? ⟨w.heap.size + 1, 0, none⟩ = some (.int .i64 f.l) := BF.cell 0
  have cF1 : w1.cell? ⟨w.heap.size + 1, 1, none⟩ = some (.int .i64 f.b) := BF.cell 1
  have cF2 : w1.cell? ⟨w.heap.size + 1, 2, none⟩ = some (.int .i64 f.i) := BF.cell 2
  have cF3 : w1.cell? ⟨w.heap.size + 1, 3, none⟩ = some (.int .i64 f.h) := BF.cell 3
  have lF := BF.lt
  have cQ0 : w1.cell? ⟨w.heap.size + 1 + 1, 0, none⟩ = some (.int .i64 q0) := BQ.cell 0
  have cQ1 : w1.cell? ⟨w.heap.size + 1 + 1, 1, none⟩ = some (.int .i64 q1) := BQ.cell 1
  have cQ2 : w1.cell? ⟨w.heap.size + 1 + 1, 2, none⟩ = some (.int .i64 q2) := BQ.cell 2
  have cQ3 : w1.cell? ⟨w.heap.size + 1 + 1, 3, none⟩ = some (.slice Af nf cf) := BQ.cell 3
  have lQ := BQ.lt
  go_wp2_with fail
  refine (ValidFoot_any _ _ _ _ _).mono ?_
  rintro e w2 ⟨rfl, hb2⟩
  clear cL0 lL cF0 cF1 cF2 cF3 lF cQ0 cQ1 cQ2 cQ3 lQ
  replace BL := BL.below hb2
  replace BF := BF.below hb2
  replace BQ := BQ.below hb2
  replace HW := Bl.then HW hb2
  have cL0 : w2.cell? ⟨w.heap.size, 0, none⟩ = some (.slice A n c) := BL.cell 0
  have lL := BL.lt
  have cF0 : w2.cell? ⟨w.heap.size + 1, 0, none⟩ = some (.int .i64 f.l) := BF.cell 0
  have cF1 : w2.cell? ⟨w.heap.size + 1, 1, none⟩ = some (.int .i64 f.b) := BF.cell 1
  have cF2 : w2.cell? ⟨w.heap.size + 1, 2, none⟩ = some (.int .i64 f.i) := BF.cell 2
  have cF3 : w2.cell? ⟨w.heap.size + 1, 3, none⟩ = some (.int .i64 f.h) := BF.cell 3
  have lF := BF.lt
  have cQ0 : w2.cell? ⟨w.heap.size + 1 + 1, 0, none⟩ = some (.int .i64 q0) := BQ.cell 0
  have cQ1 : w2.cell? ⟨w.heap.size + 1 + 1, 1, none⟩ = some (.int .i64 q1) := BQ.cell 1
  have cQ2 : w2.cell? ⟨w.heap.size + 1 + 1, 2, none⟩ = some (.int .i64 q2) := BQ.cell 2
  have cQ3 : w2.cell? ⟨w.heap.size + 1 + 1, 3, none⟩ = some (.slice Af nf cf) := BQ.cell 3
  have lQ := BQ.lt
  go_wp2_with fail
  refine (ValidFit_any _ _ _ _ _ _ _ _ (h0.below HW) hnf).mono ?_
  rintro e w3 ⟨rfl, hb3⟩
  clear cL0 lL cF0 cF1 cF2 cF3 lF cQ0 cQ1 cQ2 cQ3 lQ
  replace BL := BL.below hb3
  replace BF := BF.below hb3
  replace BQ := BQ.below hb3
  replace HW := Bl.then HW hb3
  have cL0 : w3.cell? ⟨w.heap.size, 0, none⟩ = some (.slice A n c) := BL.cell 0
  have lL := BL.lt
  have cF0 : w3.cell? ⟨w.heap.size + 1, 0, none⟩ = some (.int .i64 f.l) := BF.cell 0
  have cF1 : w3.cell? ⟨w.heap.size + 1, 1, none⟩ = some (.int .i64 f.b) := BF.cell 1
  have cF2 : w3.cell? ⟨w.heap.size + 1, 2, none⟩ = some (.int .i64 f.i) := BF.cell 2
  have cF3 : w3.cell? ⟨w.heap.size + 1, 3, none⟩ = some (.int .i64 f.h) := BF.cell 3
  have lF := BF.lt
  have cQ0 : w3.cell? ⟨w.heap.size + 1 + 1, 0, none⟩ = some (.int .i64 q0) := BQ.cell 0
  have cQ1 : w3.cell? ⟨w.heap.size + 1 + 1, 1, none⟩ = some (.int .i64 q1) := BQ.cell 1
  have cQ2 : w3.cell? ⟨w.heap.size + 1 + 1, 2, none⟩ = some (.int .i64 q2) := BQ.cell 2
  have cQ3 : w3.cell? ⟨w.heap.size + 1 + 1, 3, none⟩ = some (.slice Af nf cf) := BQ.cell 3
  have lQ := BQ.lt
  go_wp2_with fail
  clear cL0 lL cF0 cF1 cF2 cF3 lF cQ0 cQ1 cQ2 cQ3 lQ
  replace BL := BL.alloc (.cells #[.int .i64 f.l, .int .i64 f.b, .int .i64 f.i, .int .i64 f.h] 25)
  replace BF := BF.alloc (.cells #[.int .i64 f.l, .int .i64 f.b, .int .i64 f.i, .int .i64 f.h] 25)
  replace BQ := BQ.alloc (.cells #[.int .i64 f.l, .int .i64 f.b, .int .i64 f.i, .int .i64 f.h] 25)
  have BM := Blk.new w3 25 #[.int .i64 f.l, .int .i64 f.b, .int .i64 f.i, .int .i64 f.h]
  replace HW := Bl.alloc HW (.cells #[.int .i64 f.l, .int .i64 f.b, .int .i64 f.i, .int .i64 f.h] 25)
  refine (allowed_any _ _ _ xs _ _ _ _ _ _ zf _ _ _ [f] _ (hX.below HW) (h0.below HW) (rd_foot BM) (by have := k9.out.1; rw [hxl.out] at this; exact this) (by decide) kx.out kf.out k3'.out).mono ?_
  rintro e w8 ⟨A5, c5, B5, d5, rfl, o5, p5, hb8⟩
  have HS := HW.size
  have HO := o5.lt
  have HOh := Lib.hid HO
  clear HO p5
  have HWs : Below (w3.alloc (.cells #[.int .i64 f.l, .int .i64 f.b, .int .i64 f.i, .int .i64 f.h] 25)).heap.size (w3.alloc (.cells #[.int .i64 f.l, .int .i64 f.b, .int .i64 f.i, .int .i64 f.h] 25)) w8 := hb8
  have HBL := BL
  have HBF := BF
  have HBQ := BQ
  have hheld : HeldR (w3.alloc (.cells #[.int .i64 f.l, .int .i64 f.b, .int .i64 f.i, .int .i64 f.h] 25)) w.heap.size (w.heap.size + 1) (w.heap.size + 1 + 1) A n c xs f q0 q1 q2 Af nf cf zf := ⟨BL, BF, BQ, hX.below HW, h0.below HW⟩
  have hcmp := Lib.hid (cmpAt_of hheld (fun k hk => kx.out k (by rw [hxl.out]; exact hk)) kff.out k3'.out)
  have hn30 : n ≤ 30 := by have := k9.out.1; rw [hxl.out] at this; exact this
  clear hheld HBL HBF HBQ
  generalize hws : (w3.alloc (.cells #[.int .i64 f.l, .int .i64 f.b, .int .i64 f.i, .int .i64 f.h] 25)) = wS at *
  clear hws
  generalize hI0 : accL (alwI q0 q1 q2 xs [f]) xs.length = is at *
  have hI := Lib.hid hI0
  clear hI0
  by_cases hz : is.length = 0
  · have hnil : is = [] := List.eq_nil_of_length_eq_zero hz
    subst hnil
    have hrr := Lib.hid (show rkR q0 q1 q2 zf xs f = ([], 0) by rw [hr.out]; simp [rankBy])
    go_wp2_with fail
    refine (SortStable_none _ _ _ _).mono ?_
    rintro e w9 ⟨rfl, rfl⟩
    go_wp2_with fail
    go_ret2
    exact RetInts.mk hrr.out (ownsRow_le' o5 HS) (HW.trans (HWs.mono HS))
  obtain ⟨g, eA5, hbg, hgl, hnc, hcm⟩ := own_form o5 (by omega)
  subst eA5
  have hl30 : is.length ≤ 30 := by have := hle.out; have := hxl.out; omega
  have hN := Lib.hid (hin.out.2)
  go_wp2_with fail
  refine (SortStable_any wS.heap.size g is.length c5 is w.heap.size (w.heap.size + 1) (w.heap.size + 1 + 1) (rkF q0 zf xs f) n wS.heap.size wS _ o5 hbg HWs.size (Nat.le_refl _) HWs hcmp.out (by omega) (by rw [← hxl.out]; exact hN.out) (by omega) hin.out.1 hl30).mono ?_
  rintro e w9 ⟨rfl, zs', hso, hpm, o9, hb9⟩
  have hrk := Lib.hid (rank_of (c := rkF q0 zf xs f) (hN.out.rng (by have := hxl.out; omega)) hpm (by rw [hpm.length_eq]; exact hso))
  clear hso hpm
  go_wp2_with fail
  go_ret2
  rw [hrk.out] at o9
  exact RetInts.mk hr.out (ownsRow_le' o9 HS) (HW.trans ((HWs.trans hb9).mono HS))
end Go.Proofs.Ytlbgognkaolamaa
