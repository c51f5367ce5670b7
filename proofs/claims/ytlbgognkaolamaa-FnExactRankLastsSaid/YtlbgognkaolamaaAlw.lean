/-
  The allowed lasts of the program, with the sums of their costs; lasts, feet and the fit are valid, and the slices read as the given lists.
-/
import Derived.Test.YtlbgognkaolamaaCost
import Derived.Test.YtlbgognkaolamaaApp2
import Derived.Test.YtlbgognkaolamaaLastsOk
import Derived.Test.YtlbgognkaolamaaFeetOk
namespace Go.Proofs.Ytlbgognkaolamaa
open Go.RowKit
set_option maxHeartbeats 1600000

def cX (q0 : Int) (zf : List Int) (x : LastD) (f : FootD) : Int := costF x.l x.b x.i x.h f.l f.b f.i f.h q0 zf
def mX (q0 q1 q2 : Int) (x : LastD) (f : FootD) : Bool := mayF x.l x.b x.i x.h f.l f.b f.i f.h q0 q1 q2
def sumC (q0 : Int) (zf : List Int) (x : LastD) (fs : List FootD) : Nat → Int
  | 0 => 0
  | k + 1 => sumC q0 zf x fs k + cX q0 zf x (feetAt fs k)
def allM (q0 q1 q2 : Int) (x : LastD) (fs : List FootD) : Nat → Bool
  | 0 => true
  | k + 1 => allM q0 q1 q2 x fs k && mX q0 q1 q2 x (feetAt fs k)
def alwI (q0 q1 q2 : Int) (xs : List LastD) (fs : List FootD) (m : Nat) : List Int := if allM q0 q1 q2 (lastsAt xs m) fs fs.length = true then [(m : Int)] else []
def alwC (q0 q1 q2 : Int) (zf : List Int) (xs : List LastD) (fs : List FootD) (m : Nat) : List Int := if allM q0 q1 q2 (lastsAt xs m) fs fs.length = true then [sumC q0 zf (lastsAt xs m) fs fs.length] else []
theorem alwI_len (q0 q1 q2 : Int) (xs : List LastD) (fs : List FootD) (m : Nat) : (alwI q0 q1 q2 xs fs m).length ≤ 1 := by unfold alwI; split <;> simp
theorem alwC_len (q0 q1 q2 : Int) (zf : List Int) (xs : List LastD) (fs : List FootD) : ∀ m, (accL (alwC q0 q1 q2 zf xs fs) m).length = (accL (alwI q0 q1 q2 xs fs) m).length
  | 0 => rfl
  | m + 1 => by
    have := alwC_len q0 q1 q2 zf xs fs m
    show (accL _ m ++ alwC q0 q1 q2 zf xs fs m).length = (accL _ m ++ alwI q0 q1 q2 xs fs m).length
    rw [List.length_append, List.length_append, this]
    unfold alwC alwI; split <;> rfl
theorem cX_bd {q0 q1 q2 : Int} {zf : List Int} {x : LastD} {f : FootD} (hx : lOk x = true) (hf : fOk f = true) (hq : fitOk q0 q1 q2 zf = true) : -500000 ≤ cX q0 zf x f ∧ cX q0 zf x f ≤ 2000000 := by
  obtain ⟨⟨m1, m2⟩, ⟨m3, m4⟩, ⟨m5, m6⟩, m7, m8⟩ := fitOk_bd hq
  have p1 := four_in (foot_of_last (show lastOk x.s x.l x.b x.i x.h x.p = true from hx))
  have p2 := four_in (show footOk f.l f.b f.i f.h = true from hf)
  obtain ⟨a1, a2⟩ : 500 ≤ x.l ∧ x.l ≤ 5000 := p1 0 (by omega)
  obtain ⟨a3, a4⟩ : 500 ≤ f.l ∧ f.l ≤ 5000 := p2 0 (by omega)
  have h := costK_bd (r := x.l - f.l) (q0 := q0) (us := [x.l, x.b, x.i, x.h]) (vs := [f.l, f.b, f.i, f.h]) ⟨by omega, by omega⟩ m8 p1 p2 3 (by omega)
  exact ⟨h.2.2, h.2.1⟩
theorem sumC_bd {q0 q1 q2 : Int} {zf : List Int} {x : LastD} {fs : List FootD} (hx : lOk x = true) (hf : ∀ k, k < fs.length → fOk (feetAt fs k) = true) (hq : fitOk q0 q1 q2 zf = true) : ∀ k, k ≤ fs.length → -500000 * (k : Int) ≤ sumC q0 zf x fs k ∧ sumC q0 zf x fs k ≤ 2000000 * (k : Int)
  | 0, _ => by simp [sumC]
  | k + 1, hk => by
    have h1 := sumC_bd hx hf hq k (by omega)
    have h2 := cX_bd hx (hf k (by omega)) hq
    simp only [sumC]
    rw [show ((k + 1 : Nat) : Int) = (k : Int) + 1 by omega]
    omega
/-- What 'allowed' hands back: two rows of its own. -/
def RetTwo (is cs : List Int) (w : World) (e : Ending) (w' : World) : Prop :=
  ∃ A c B d, e = .returned (.tuple #[.slice A is.length c, .slice B is.length d]) ∧ w'.ownsRow w.heap.size 2 1 (.slice A is.length c) is.length (ints is) ∧ w'.ownsRow w.heap.size 2 1 (.slice B is.length d) is.length (ints cs) ∧ Below w.heap.size w w'
theorem RetTwo.mk {is cs : List Int} {w w' : World} {A B : Option Addr} {q c d : Nat} (h1 : w'.ownsRow w.heap.size 2 1 (.slice A q c) q (ints is)) (h2 : w'.ownsRow w.heap.size 2 1 (.slice B q d) q (ints cs)) (hb : Below w.heap.size w w') :
    RetTwo is cs w (.returned (.tuple #[.slice A q c, .slice B q d])) w' := by
  have hl := own_int_len h1
  subst hl
  exact ⟨A, c, B, d, rfl, h1, h2, hb⟩
set_option maxRecDepth 100000 in
theorem allowed_any (A : Option Addr) (n c : Nat) (xs : List LastD) (q0 q1 q2 : Int) (Af : Option Addr) (nf cf : Nat) (zf : List Int) (A2 : Option Addr) (n2 c2 : Nat) (fs : List FootD) (w : World) (hX : Rd w 6 A n (lasts xs)) (h0 : Rd w 1 Af nf (ints zf)) (hF : Rd w 4 A2 n2 (feet fs))
    (hn : n ≤ 30) (hn2 : n2 ≤ 2) (kx : ∀ k, k < xs.length → lOk (lastsAt xs k) = true) (kf : ∀ k, k < fs.length → fOk (feetAt fs k) = true) (hq : fitOk q0 q1 q2 zf = true) :
    Calls Try.prog 89 #[.slice A n c, .agg #[.int .i64 q0, .int .i64 q1, .int .i64 q2, .slice Af nf cf], .slice A2 n2 c2] w (RetTwo (accL (alwI q0 q1 q2 xs fs) xs.length) (accL (alwC q0 q1 q2 zf xs fs) xs.length) w) := by
  have hxl := Lib.hid hX.lasts_length
  have hfl := Lib.hid hF.feet_length
  have kx' := Lib.hid kx
  have kf' := Lib.hid kf
  have hq' := Lib.hid hq
  have hlen := Lib.hid (accL_len (alwI_len q0 q1 q2 xs fs))
  clear kx kf hq
  go_enter Try.func89, Try.ntmps89
  have BQ := Blk.new w 53 #[.int .i64 q0, .int .i64 q1, .int .i64 q2, .slice Af nf cf]
  have HW : Below w.heap.size w (w.alloc (.cells #[.int .i64 q0, .int .i64 q1, .int .i64 q2, .slice Af nf cf] 53)) := by go_grown
  have RX := hX.alloc (.cells #[.int .i64 q0, .int .i64 q1, .int .i64 q2, .slice Af nf cf] 53)
  have RF := hF.alloc (.cells #[.int .i64 q0, .int .i64 q1, .int .i64 q2, .slice Af nf cf] 53)
  have RQ := h0.alloc (.cells #[.int .i64 q0, .int .i64 q1, .int .i64 q2, .slice Af nf cf] 53)
  have hWs0 : (w.alloc (.cells #[.int .i64 q0, .int .i64 q1, .int .i64 q2, .slice Af nf cf] 53)).heap.size = w.heap.size + 1 := by simp
  go_wp2_with fail
  generalize w.alloc (.cells #[.int .i64 q0, .int .i64 q1, .int .i64 q2, .slice Af nf cf] 53) = W at *
  have hWs := Lib.hid hWs0
  clear hWs0
  have oo1 := (own_lit (W := W) (cs := #[]) (e := 2) (size := 1) (n := 0) (g := w.heap.size + 1) (xs := ints (accL (alwI q0 q1 q2 xs fs) 0)) hWs.out.symm (Nat.le_refl W.heap.size) (by decide) rfl rfl).alloc (.cells #[] 2)
  have oo2 := own_lit (W := W.alloc (.cells #[] 2)) (cs := #[]) (e := 2) (size := 1) (n := 0) (g := w.heap.size + 1 + 1) (base := W.heap.size) (xs := ints (accL (alwC q0 q1 q2 zf xs fs) 0)) (by rw [World.size_alloc, hWs.out]) (by simp) (by decide) rfl rfl
  have ap : Apart (.slice (some ⟨w.heap.size + 1, 0, none⟩) 0 0) (.slice (some ⟨w.heap.size + 1 + 1, 0, none⟩) 0 0) := fun g g' h1 h2 e => by
    simp only [Value.ownBlock, Option.some.injEq] at h1 h2
    omega
  have HM := Bl.alloc (Bl.alloc (Below.refl W.heap.size W) (.cells #[] 2)) (.cells #[] 2)
  go_loopw [8, 9, 22] (fun v u i wr => ∃ (m : Nat) (A1 : Option Addr) (q c1 : Nat) (A2 : Option Addr) (c2 : Nat), m ≤ n ∧ i = .int .i64 m ∧ v = .slice A1 q c1 ∧ u = .slice A2 q c2 ∧ q ≤ m ∧ wr.ownsRow W.heap.size 2 1 (.slice A1 q c1) q (ints (accL (alwI q0 q1 q2 xs fs) m)) ∧ wr.ownsRow W.heap.size 2 1 (.slice A2 q c2) q (ints (accL (alwC q0 q1 q2 zf xs fs) m)) ∧ Apart (.slice A1 q c1) (.slice A2 q c2) ∧ Below W.heap.size W wr) (fun _ _ i _ => n - (intOf i).toNat)
  case atStart => exact ⟨0, _, _, _, _, _, by omega, rfl, rfl, rfl, by omega, oo1, oo2, ap, HM⟩
  case round =>
    clear oo1 oo2 ap HM
    obtain ⟨m, A3, q, c3, A4, c4, hmn, rfl, rfl, rfl, hqm, ho1, ho2, hap, HP⟩ := hrel
    by_cases hlm : m < n
    · have hxk := Lib.hid (kx'.out m (by rw [hxl.out]; exact hlm))
      obtain ⟨b, off, eA, hbl, i0, i1, i2, i3, i4, i5⟩ := (RX.below HP).lasts hlm
      subst eA
      go_wp2_with fail
      have BX := Blk.new wr 41 #[.string (lastsAt xs m).s, .int .i64 (lastsAt xs m).l, .int .i64 (lastsAt xs m).b, .int .i64 (lastsAt xs m).i, .int .i64 (lastsAt xs m).h, .int .i64 (lastsAt xs m).p]
      have HX := Bl.alloc HP (.cells #[.string (lastsAt xs m).s, .int .i64 (lastsAt xs m).l, .int .i64 (lastsAt xs m).b, .int .i64 (lastsAt xs m).i, .int .i64 (lastsAt xs m).h, .int .i64 (lastsAt xs m).p] 41)
      have ox1 := ho1.alloc (.cells #[.string (lastsAt xs m).s, .int .i64 (lastsAt xs m).l, .int .i64 (lastsAt xs m).b, .int .i64 (lastsAt xs m).i, .int .i64 (lastsAt xs m).h, .int .i64 (lastsAt xs m).p] 41)
      have ox2 := ho2.alloc (.cells #[.string (lastsAt xs m).s, .int .i64 (lastsAt xs m).l, .int .i64 (lastsAt xs m).b, .int .i64 (lastsAt xs m).i, .int .i64 (lastsAt xs m).h, .int .i64 (lastsAt xs m).p] 41)
      have lX9 : wr.heap.size < (wr.alloc (.cells #[.string (lastsAt xs m).s, .int .i64 (lastsAt xs m).l, .int .i64 (lastsAt xs m).b, .int .i64 (lastsAt xs m).i, .int .i64 (lastsAt xs m).h, .int .i64 (lastsAt xs m).p] 41)).heap.size := by simp
      generalize hxb : wr.heap.size = gx at *
      generalize wr.alloc (.cells #[.string (lastsAt xs m).s, .int .i64 (lastsAt xs m).l, .int .i64 (lastsAt xs m).b, .int .i64 (lastsAt xs m).i, .int .i64 (lastsAt xs m).h, .int .i64 (lastsAt xs m).p] 41) = wx at *
      clear hxb i0 i1 i2 i3 i4 i5 ho1 ho2 HP hbl
      have hal0 := Lib.hid (show true = allM q0 q1 q2 (lastsAt xs m) fs 0 from rfl)
      go_loopw [12, 13, 29] (fun s a j wy => ∃ k : Nat, k ≤ n2 ∧ j = .int .i64 k ∧ s = .int .i64 (sumC q0 zf (lastsAt xs m) fs k) ∧ a = .bool (allM q0 q1 q2 (lastsAt xs m) fs k) ∧ Below wx.heap.size wx wy) (fun _ _ j _ => n2 - (intOf j).toNat)
      case atStart => exact ⟨0, by omega, rfl, rfl, rfl, Below.refl _ _⟩
      case round =>
        obtain ⟨k, hk, rfl, rfl, rfl, HB⟩ := hrel
        have BQy := (BQ.below HX).below HB
        have BXy := BX.below HB
        by_cases hlk : k < n2
        · have hfk := Lib.hid (kf'.out k (by rw [hfl.out]; exact hlk))
          obtain ⟨b2, off2, eF, hb2, j0, j1, j2, j3⟩ := ((RF.below HX).below HB).feet hlk
          subst eF
          obtain ⟨s1, s2⟩ := sumC_bd hxk.out kf'.out hq'.out k (by rw [hfl.out]; omega)
          obtain ⟨s3, s4⟩ := cX_bd hxk.out hfk.out hq'.out
          have kQ := BQy.cell
          have lQ := BQy.lt
          have kX := BXy.cell
          have lX := BXy.lt
          have HYf := Bl.alloc HB (.cells #[.int .i64 (feetAt fs k).l, .int .i64 (feetAt fs k).b, .int .i64 (feetAt fs k).i, .int .i64 (feetAt fs k).h] 25)
          have RQy := (((RQ.below HX).below HB).alloc (.cells #[.int .i64 (feetAt fs k).l, .int .i64 (feetAt fs k).b, .int .i64 (feetAt fs k).i, .int .i64 (feetAt fs k).h] 25))
          have hcx := Lib.hid (show costF (lastsAt xs m).l (lastsAt xs m).b (lastsAt xs m).i (lastsAt xs m).h (feetAt fs k).l (feetAt fs k).b (feetAt fs k).i (feetAt fs k).h q0 zf = cX q0 zf (lastsAt xs m) (feetAt fs k) from rfl)
          have hmx := Lib.hid (show mayF (lastsAt xs m).l (lastsAt xs m).b (lastsAt xs m).i (lastsAt xs m).h (feetAt fs k).l (feetAt fs k).b (feetAt fs k).i (feetAt fs k).h q0 q1 q2 = mX q0 q1 q2 (lastsAt xs m) (feetAt fs k) from rfl)
          have hsu := Lib.hid (show sumC q0 zf (lastsAt xs m) fs k + cX q0 zf (lastsAt xs m) (feetAt fs k) = sumC q0 zf (lastsAt xs m) fs (k + 1) from rfl)
          have hau := Lib.hid (show (allM q0 q1 q2 (lastsAt xs m) fs k && mX q0 q1 q2 (lastsAt xs m) (feetAt fs k)) = allM q0 q1 q2 (lastsAt xs m) fs (k + 1) from rfl)
          have kl2 : k ≤ 2 := by omega
          cases hal : allM q0 q1 q2 (lastsAt xs m) fs k
          · have hau2 := Lib.hid (show false = allM q0 q1 q2 (lastsAt xs m) fs (k + 1) by rw [← hau.out, hal]; rfl)
            go_wp2_with fail
            refine (fitCost_any _ _ _ _ _ _ _ _ _ _ _ _ _ _ _ _ _ _ RQy hxk.out hfk.out hq'.out).mono ?_
            rintro e w5 ⟨rfl, hb5⟩
            rw [hcx.out, hmx.out]
            have HP5 := Bl.then HYf hb5
            go_wp2_with fail
            go_roundw
            case rel => exact ⟨k + 1, by omega, by go_num, congrArg _ hsu.out, congrArg _ hau2.out, HP5⟩
            case measure => simp [intOf]; omega
          · have hau2 := Lib.hid (show mX q0 q1 q2 (lastsAt xs m) (feetAt fs k) = allM q0 q1 q2 (lastsAt xs m) fs (k + 1) by rw [← hau.out, hal]; rfl)
            go_wp2_with fail
            refine (fitCost_any _ _ _ _ _ _ _ _ _ _ _ _ _ _ _ _ _ _ RQy hxk.out hfk.out hq'.out).mono ?_
            rintro e w5 ⟨rfl, hb5⟩
            rw [hcx.out, hmx.out]
            have HP5 := Bl.then HYf hb5
            go_wp2_with fail
            go_roundw
            case rel => exact ⟨k + 1, by omega, by go_num, congrArg _ hsu.out, congrArg _ hau2.out, HP5⟩
            case measure => simp [intOf]; omega
        · obtain rfl : k = n2 := by omega
          have HP9 := Bl.then HX HB
          have o19 := own_below ox1 HB
          have o29 := own_below ox2 HB
          cases hal : allM q0 q1 q2 (lastsAt xs m) fs k
          · have g1 := Lib.hid (accL_skip (g := alwI q0 q1 q2 xs fs) (k := m) (by unfold alwI; rw [if_neg (by rw [hfl.out, hal]; decide)]))
            have g2 := Lib.hid (accL_skip (g := alwC q0 q1 q2 zf xs fs) (k := m) (by unfold alwC; rw [if_neg (by rw [hfl.out, hal]; decide)]))
            go_wp2_with fail
            go_roundw
            case rel => exact ⟨m + 1, A3, q, c3, A4, c4, by omega, by go_num, rfl, rfl, by omega, by rw [← g1.out]; exact o19, by rw [← g2.out]; exact o29, hap, HP9⟩
            case measure => simp [intOf]; omega
          · have g1 := Lib.hid (accL_add (g := alwI q0 q1 q2 xs fs) (k := m) (x := (m : Int)) (by unfold alwI; rw [if_pos (by rw [hfl.out, hal])]))
            have g2 := Lib.hid (accL_add (g := alwC q0 q1 q2 zf xs fs) (k := m) (x := sumC q0 zf (lastsAt xs m) fs k) (by unfold alwC; rw [if_pos (by rw [hfl.out, hal]), hfl.out]))
            have hq30 : q ≤ 30 := by omega
            have L19 := Lib.hid o19.lt
            have L29 := Lib.hid o29.lt
            have tok1 : True := trivial
            go_wp2_with (first | (at_builtin; have _t := tok1; refine wpList_app_int_at _ rfl _ _ rfl _ _ _ _ _ _ rfl o19 rfl HP9.size (by omega) ?_; intro A5 c5 w6 o5 hg6 hat6; have o59 := keep_apart o29 hg6 hap.symm; have HPA := app_below o19 HP9 (Nat.le_refl _) HP9.size hg6; have apA := hap.step hat6 (fun k hk => Nat.lt_succ_of_lt (L29.out k hk).2); have L5 := Lib.hid o5.lt; clear tok1 hat6 hg6) | (at_builtin; refine wpList_app_int_at _ rfl _ _ rfl _ _ _ _ _ _ rfl o59 rfl HPA.size (by omega) ?_; intro A6 c6 w7 o6 hg7 hat7))
            have o57 := keep_apart o5 hg7 apA
            have HPB := app_below o59 HPA (Nat.le_refl _) HPA.size hg7
            have apB := (apA.symm.step hat7 (fun k hk => Nat.lt_succ_of_lt (L5.out k hk).2)).symm
            go_roundw
            case rel => exact ⟨m + 1, A5, q + 1, c5, A6, c6, by omega, by go_num, rfl, rfl, by omega, by rw [← g1.out]; exact o57, by rw [← g2.out]; exact o6, apB, HPB⟩
            case measure => simp [intOf]; omega
    · obtain rfl : m = n := by omega
      go_wp2_with fail
      go_ret2
      rw [hxl.out]
      exact RetTwo.mk (ownsRow_le' ho1 HW.size) (ownsRow_le' ho2 HW.size) (Bl.then HW HP)
end Go.Proofs.Ytlbgognkaolamaa
