/-
  NeedOf of the program and of the reference; names are any strings that Go can hold.
-/
import Derived.Test.YtgkkfofjaealoaaLast
import Derived.Test.YtgkkfofjaealoaaApp
import Derived.Test.YtgkkfofjaealoaaBlk
import Derived.Deep.RegionHeld3
namespace Go.Proofs.Ytgkkfofjaealoaa
open Go.RowKit
set_option maxHeartbeats 800000

def mx0 (z : Int) : Int := if z < 0 then 0 else z
def needL (b i h fb fi fh : Int) : List Int := [mx0 (fb - b), mx0 (fi - i), mx0 (fh - h)]
noncomputable def needR (s : ByteArray) (l b i h p fl fb fi fh : Int) : List Int × Int :=
  if lastOk s l b i h p = false then ([], 1) else if footOk fl fb fi fh = false then ([], 1) else (needL b i h fb fi fh, 0)
theorem needR_len (s : ByteArray) (l b i h p fl fb fi fh : Int) : (needR s l b i h p fl fb fi fh).1.length ≤ 1048577 := by
  unfold needR
  split
  · simp
  split
  · simp
  · simp [needL]
theorem needOf_any (s : ByteArray) (l b i h p fl fb fi fh : Int) (w : World) (h1 : 500 ≤ b ∧ b ≤ 5000) (h2 : 500 ≤ i ∧ i ≤ 5000) (h3 : 500 ≤ h ∧ h ≤ 5000) (h4 : 500 ≤ fb ∧ fb ≤ 5000) (h5 : 500 ≤ fi ∧ fi ≤ 5000) (h6 : 500 ≤ fh ∧ fh ≤ 5000) :
    Calls Try.prog 64 #[.agg #[.string s, .int .i64 l, .int .i64 b, .int .i64 i, .int .i64 h, .int .i64 p], .agg #[.int .i64 fl, .int .i64 fb, .int .i64 fi, .int .i64 fh]] w (RetSl 2 1 3 (ints (needL b i h fb fi fh)) w) := by
  obtain ⟨a1, a2⟩ := h1
  obtain ⟨a3, a4⟩ := h2
  obtain ⟨a5, a6⟩ := h3
  obtain ⟨b1, b2⟩ := h4
  obtain ⟨b3, b4⟩ := h5
  obtain ⟨b5, b6⟩ := h6
  go_enter Try.func64, Try.ntmps64
  go_wp2
  all_goals
    go_ret
    refine ⟨_, _, rfl, own_lit ?_ ?_ (by decide) rfl ?_, ?_⟩
    · simp
    · simp; omega
    · simp only [ints, needL, mx0, List.map_cons, List.map_nil, List.cons.injEq, Value.int.injEq, true_and, and_true]
      refine ⟨?_, ?_, ?_⟩ <;> split <;> omega
    · go_grown
theorem l02Four_any (a b c d : Int) (w : World) :
    Calls Try.prog 93 #[.agg #[.int .i64 a, .int .i64 b, .int .i64 c, .int .i64 d]] w (RetSl 2 1 4 (ints [a, b, c, d]) w) := by
  go_enter Try.func93, Try.ntmps93
  go_wp2
  go_ret
  refine ⟨_, _, rfl, own_lit ?_ ?_ (by decide) rfl rfl, ?_⟩
  · simp
  · simp
  · go_grown
theorem l00Max_any (a b : Int) (w : World) :
    Calls Try.prog 94 #[.int .i64 a, .int .i64 b] w fun e w' => e = .returned (.int .i64 (if b < a then a else b)) ∧ w = w' := by
  by_cases h : b < a
  · go_enter Try.func94, Try.ntmps94
    go_wp2
    go_ret
    exact ⟨rfl, rfl⟩
  · go_enter Try.func94, Try.ntmps94
    go_wp2
    go_ret
    exact ⟨rfl, rfl⟩
theorem l00Max_mx0 (z : Int) (w : World) :
    Calls Try.prog 94 #[.int .i64 0, .int .i64 z] w fun e w' => e = .returned (.int .i64 (mx0 z)) ∧ w = w' :=
  (l00Max_any 0 z w).mono fun e w' h => ⟨by rw [h.1]; exact ret_int rfl, h.2⟩
def needAt (b i h fb fi fh : Int) (k : Nat) : List Int := [mx0 (ix [0, fb, fi, fh] (k + 1) - ix [0, b, i, h] (k + 1))]
theorem needAt_all (b i h fb fi fh : Int) : accL (needAt b i h fb fi fh) 3 = needL b i h fb fi fh := rfl
set_option maxRecDepth 100000 in
theorem l06Need_any (s : ByteArray) (l b i h p fl fb fi fh : Int) (w : World) (h1 : 500 ≤ b ∧ b ≤ 5000) (h2 : 500 ≤ i ∧ i ≤ 5000) (h3 : 500 ≤ h ∧ h ≤ 5000) (h4 : 500 ≤ fb ∧ fb ≤ 5000) (h5 : 500 ≤ fi ∧ fi ≤ 5000) (h6 : 500 ≤ fh ∧ fh ≤ 5000) :
    Calls Try.prog 62 #[.agg #[.string s, .int .i64 l, .int .i64 b, .int .i64 i, .int .i64 h, .int .i64 p], .agg #[.int .i64 fl, .int .i64 fb, .int .i64 fi, .int .i64 fh]] w (RetSl 2 1 3 (ints (needL b i h fb fi fh)) w) := by
  have hx : ∀ k : Nat, k < 3 → (500 ≤ ix [l, b, i, h] (k + 1) ∧ ix [l, b, i, h] (k + 1) ≤ 5000) ∧ (500 ≤ ix [fl, fb, fi, fh] (k + 1) ∧ ix [fl, fb, fi, fh] (k + 1) ≤ 5000) ∧
      needAt b i h fb fi fh k = [mx0 (ix [fl, fb, fi, fh] (k + 1) - ix [l, b, i, h] (k + 1))] := by
    intro k hk
    match k, hk with
    | 0, _ => exact ⟨h1, h4, rfl⟩
    | 1, _ => exact ⟨h2, h5, rfl⟩
    | 2, _ => exact ⟨h3, h6, rfl⟩
  have hx' := Lib.hid hx
  clear hx h1 h2 h3 h4 h5 h6
  go_enter Try.func62, Try.ntmps62
  go_wp2_with fail
  refine (l04Foot_any _ _ _ _ _ _ _).mono ?_
  rintro e w1 ⟨rfl, H1⟩
  obtain ⟨hc, hf⟩ := bcell H1
  go_wp2_with fail
  refine (l02Four_any _ _ _ _ _).mono ?_
  rintro e w2 ⟨A1, c1, rfl, o1, hb⟩
  have H2 := Bl.then H1 hb
  clear hc hf hb
  obtain ⟨hc, hf⟩ := bcell H2
  go_wp2_with fail
  refine (l02Four_any _ _ _ _ _).mono ?_
  rintro e w3 ⟨A2, c2, rfl, o2, hb⟩
  have H3 := Bl.then H2 hb
  have r1 := (Rd.of_own o1).below hb
  have r2 := Rd.of_own o2
  clear hc hf hb o1 o2
  have HB0 : Below w.heap.size w w3 := Bl.then (by go_grown) H3
  clear H1 H2 H3
  generalize hzs : [l, b, i, h] = zs at r1 hx'
  generalize hys : [fl, fb, fi, fh] = ys at r2 hx'
  clear hzs hys
  go_wp2_with fail
  go_loopw [7, 8] (fun v q wr => ∃ (k : Nat) (A' : Option Addr) (c' : Nat), k ≤ 3 ∧ q = .int .i64 ((k : Int) + 1) ∧ v = .slice A' k c' ∧ wr.ownsRow w3.heap.size 2 1 (.slice A' k c') k (ints (accL (needAt b i h fb fi fh) k)) ∧ Below w3.heap.size w3 wr) (fun _ q _ => (4 - intOf q).toNat)
  case atStart => exact ⟨0, _, _, by omega, rfl, rfl, own_lit rfl (by simp) (by decide) rfl rfl, by go_grown⟩
  case round =>
    obtain ⟨k, A', c', hk, rfl, rfl, ho, HB⟩ := hrel
    by_cases hlt : k < 3
    · obtain ⟨g1, off1, rfl, hg1, e1⟩ := r1.int (k := k + 1) (by omega)
      obtain ⟨g2, off2, rfl, hgg, e2⟩ := r2.int (k := k + 1) (by omega)
      have d1 := cell_later HB e1
      have d2 := cell_later HB e2
      obtain ⟨⟨x1, x2⟩, ⟨x3, x4⟩, x5⟩ := hx'.out k hlt
      have x5' := Lib.hid x5
      have f1 : IntKind.i64.wrap (ix ys (k + 1) - ix zs (k + 1)) = ix ys (k + 1) - ix zs (k + 1) := IntWalk.i64_in _ (by omega)
      have f2 : (0 : Int) ≤ (k : Int) + 1 := by omega
      have f3 : ((k : Int) + 1).toNat = k + 1 := by omega
      have f4 : (k : Int) + 1 < 4 := by omega
      clear x5
      go_wp2_with fail
      go_region_held3 (fun wz => wz.cell? ⟨g1, off1 + (k + 1), none⟩ = some (.int .i64 (ix zs (k + 1))) ∧ wz.cell? ⟨g2, off2 + (k + 1), none⟩ = some (.int .i64 (ix ys (k + 1)))) (((repeat' apply And.intro) <;> first | assumption | exact keep_drew (by assumption) | exact keep_alloc (by assumption) | exact keep_alloc (keep_drew (by assumption)) | exact cell_later (w := w3) (by assumption) (by assumption))) (first | (go_at_call 94; refine (l00Max_mx0 _ _).mono ?_; rintro e wy ⟨rfl, rfl⟩) | (refine step_app_int _ rfl _ _ rfl w3.heap.size A' k c' _ (mx0 (ix ys (k + 1) - ix zs (k + 1))) _ rfl rfl (by refine (World.cell?_alloc_at _ _ _ _ ?_).trans rfl; simp) (own_below ho (by go_grown)) (by have := HB.size; simp; omega) (by omega) ?_; intro A2 c2 w4 ho2 hg2; have HB2 := app_below (own_below ho (by go_grown)) (B0 := w3.heap.size) (W0 := w3) (HB.trans ((by go_grown : Below wr.heap.size wr _).mono HB.size)) (Nat.le_refl _) (by have := HB.size; simp; omega) hg2))
      go_wp2_with fail
      go_roundw
      case rel => exact ⟨k + 1, A2, c2, by omega, by go_num, rfl, by rw [accL_add x5'.out] at ho2; exact ho2, HB2⟩
      case measure => simp [intOf]; omega
    · obtain rfl : k = 3 := by omega
      go_wp2_with fail
      go_ret
      refine ⟨_, _, rfl, ownsRow_le' ?_ HB0.size, Bl.then HB0 HB⟩
      rw [needAt_all] at ho
      exact ho
theorem NeedOf_any (s : ByteArray) (l b i h p fl fb fi fh : Int) (w : World) (hs : s.size ≤ maxLen) :
    Calls Try.prog 26 #[.agg #[.string s, .int .i64 l, .int .i64 b, .int .i64 i, .int .i64 h, .int .i64 p], .agg #[.int .i64 fl, .int .i64 fb, .int .i64 fi, .int .i64 fh]] w (RetInts (needR s l b i h p fl fb fi fh) w) := by
  cases h1 : lastOk s l b i h p
  · go_enter Try.func26, Try.ntmps26
    go_wp2_with fail
    refine (validLast_any _ _ _ _ _ _ _ hs).mono ?_
    rintro e w1 ⟨rfl, H1⟩
    obtain ⟨hc, hf⟩ := bcell H1
    go_wp2_with fail
    go_ret2
    exact RetInts.nil (by simp [needR, h1]) (Bl.then (by go_grown) H1)
  cases h2 : footOk fl fb fi fh
  · go_enter Try.func26, Try.ntmps26
    go_wp2_with fail
    refine (validLast_any _ _ _ _ _ _ _ hs).mono ?_
    rintro e w1 ⟨rfl, H1⟩
    obtain ⟨hc, hf⟩ := bcell H1
    go_wp2_with fail
    refine (ValidFoot_any _ _ _ _ _).mono ?_
    rintro e w2 ⟨rfl, hb⟩
    have H2 := Bl.then H1 hb
    clear hc hf hb
    obtain ⟨hc, hf⟩ := bcell H2
    go_wp2_with fail
    go_ret2
    exact RetInts.nil (by simp [needR, h1, h2]) (Bl.then (by go_grown) H2)
  obtain ⟨q0, q1, q2, q3, q4, q5⟩ := lastOk_bd h1
  obtain ⟨p1, p2, p3, p4⟩ := footOk_bd h2
  go_enter Try.func26, Try.ntmps26
  go_wp2_with fail
  refine (validLast_any _ _ _ _ _ _ _ hs).mono ?_
  rintro e w1 ⟨rfl, H1⟩
  obtain ⟨hc, hf⟩ := bcell H1
  go_wp2_with fail
  refine (ValidFoot_any _ _ _ _ _).mono ?_
  rintro e w2 ⟨rfl, hb⟩
  have H2 := Bl.then H1 hb
  clear hc hf hb
  obtain ⟨hc, hf⟩ := bcell H2
  go_wp2_with fail
  refine (needOf_any _ _ _ _ _ _ _ _ _ _ _ q2 q3 q4 p2 p3 p4).mono ?_
  rintro e w3 ⟨A3, c3, rfl, o3, H3⟩
  go_wp2_with fail
  go_ret2
  have HH := Bl.then (w := w) (by go_grown) H2
  exact RetInts.mk (by simp [needR, h1, h2]) (ownsRow_le' o3 HH.size) (Bl.then HH H3)
theorem sNeedOf_any (s : ByteArray) (l b i h p fl fb fi fh : Int) (w : World) (hs : s.size ≤ maxLen) :
    Calls Try.prog 23 #[.agg #[.string s, .int .i64 l, .int .i64 b, .int .i64 i, .int .i64 h, .int .i64 p], .agg #[.int .i64 fl, .int .i64 fb, .int .i64 fi, .int .i64 fh]] w (RetInts (needR s l b i h p fl fb fi fh) w) := by
  cases h1 : lastOk s l b i h p
  · go_enter Try.func23, Try.ntmps23
    go_wp2_with fail
    refine (l04One_any _ _ _ _ _ _ _ hs).mono ?_
    rintro e w1 ⟨rfl, H1⟩
    obtain ⟨hc, hf⟩ := bcell H1
    go_wp2_with fail
    go_ret2
    exact RetInts.nil (by simp [needR, h1]) (Bl.then (by go_grown) H1)
  cases h2 : footOk fl fb fi fh
  · go_enter Try.func23, Try.ntmps23
    go_wp2_with fail
    refine (l04One_any _ _ _ _ _ _ _ hs).mono ?_
    rintro e w1 ⟨rfl, H1⟩
    obtain ⟨hc, hf⟩ := bcell H1
    go_wp2_with fail
    refine (l02Foot_any _ _ _ _ _).mono ?_
    rintro e w2 ⟨rfl, hb⟩
    have H2 := Bl.then H1 hb
    clear hc hf hb
    obtain ⟨hc, hf⟩ := bcell H2
    go_wp2_with fail
    go_ret2
    exact RetInts.nil (by simp [needR, h1, h2]) (Bl.then (by go_grown) H2)
  obtain ⟨q0, q1, q2, q3, q4, q5⟩ := lastOk_bd h1
  obtain ⟨p1, p2, p3, p4⟩ := footOk_bd h2
  go_enter Try.func23, Try.ntmps23
  go_wp2_with fail
  refine (l04One_any _ _ _ _ _ _ _ hs).mono ?_
  rintro e w1 ⟨rfl, H1⟩
  obtain ⟨hc, hf⟩ := bcell H1
  go_wp2_with fail
  refine (l02Foot_any _ _ _ _ _).mono ?_
  rintro e w2 ⟨rfl, hb⟩
  have H2 := Bl.then H1 hb
  clear hc hf hb
  obtain ⟨hc, hf⟩ := bcell H2
  go_wp2_with fail
  refine (l06Need_any _ _ _ _ _ _ _ _ _ _ _ q2 q3 q4 p2 p3 p4).mono ?_
  rintro e w3 ⟨A3, c3, rfl, o3, H3⟩
  go_wp2_with fail
  go_ret2
  have HH := Bl.then (w := w) (by go_grown) H2
  exact RetInts.mk (by simp [needR, h1, h2]) (ownsRow_le' o3 HH.size) (Bl.then HH H3)
end Go.Proofs.Ytgkkfofjaealoaa
