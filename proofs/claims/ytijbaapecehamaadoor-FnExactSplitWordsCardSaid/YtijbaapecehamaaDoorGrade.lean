/-
  Grades: numbers, ValidGrade of the program and of the reference; no condition.
-/
import Derived.Test.YtijbaapecehamaaDoorFeet
namespace Go.Proofs.YtijbaapecehamaaDoor
open Go.RowKit
set_option maxHeartbeats 400000

def gradeOk (a b c d f : Int) : Bool := !outB [a, b, c, d, f] 0 20000
theorem gnumbers_any (a b c d f : Int) (w : World) :
    Calls Tryd.prog 73 #[.agg #[.int .i64 a, .int .i64 b, .int .i64 c, .int .i64 d, .int .i64 f]] w (RetSl 2 1 5 (ints [a, b, c, d, f]) w) := by
  go_enter Tryd.func73, Tryd.ntmps73
  go_wp2
  go_ret
  refine ⟨_, _, rfl, own_lit ?_ ?_ (by decide) rfl rfl, ?_⟩
  · simp
  · simp
  · go_grown
theorem l05Five_any (a b c d f : Int) (w : World) :
    Calls Tryd.prog 90 #[.agg #[.int .i64 a, .int .i64 b, .int .i64 c, .int .i64 d, .int .i64 f]] w (RetSl 2 1 5 (ints [a, b, c, d, f]) w) := by
  go_enter Tryd.func90, Tryd.ntmps90
  go_wp2
  go_ret
  refine ⟨_, _, rfl, own_lit ?_ ?_ (by decide) rfl rfl, ?_⟩
  · simp
  · simp
  · go_grown
theorem ValidGrade_any (a b c d f : Int) (w : World) :
    Calls Tryd.prog 72 #[.agg #[.int .i64 a, .int .i64 b, .int .i64 c, .int .i64 d, .int .i64 f]] w fun e w' => e = .returned (.bool (gradeOk a b c d f)) ∧ Below w.heap.size w w' := by
  go_enter Tryd.func72, Tryd.ntmps72
  go_wp2_with fail
  refine (gnumbers_any _ _ _ _ _ _).mono ?_
  rintro e w1 ⟨A1, c1, rfl, ho, H1⟩
  go_wp2_with fail
  refine (outside_any _ _ _ _ _ _ _ (Rd.of_own ho) (by decide)).mono ?_
  rintro e w2 ⟨rfl, hb⟩
  have H2 := Bl.then H1 hb
  clear hb
  go_wp2_with fail
  go_ret
  exact ⟨rfl, Bl.then (by go_grown) H2⟩
theorem l05Ok_any (a b c d f : Int) (w : World) :
    Calls Tryd.prog 70 #[.agg #[.int .i64 a, .int .i64 b, .int .i64 c, .int .i64 d, .int .i64 f]] w fun e w' => e = .returned (.bool (gradeOk a b c d f)) ∧ Below w.heap.size w w' := by
  go_enter Tryd.func70, Tryd.ntmps70
  go_wp2_with fail
  refine (l05Five_any _ _ _ _ _ _).mono ?_
  rintro e w1 ⟨A1, c1, rfl, ho, H1⟩
  have hr := Rd.of_own ho
  have HB := Bl.then (w := w) (by go_grown) H1
  generalize hzs : [a, b, c, d, f] = zs at hr
  have hzs' := Lib.hid hzs
  have hlen := Lib.hid hr.len
  clear ho hzs H1
  go_wp2_with fail
  go_loop [4] (fun i => ∃ k : Nat, k ≤ 5 ∧ AllIn zs k 0 20000 ∧ i = .int .i64 k) (fun i => 5 - (intOf i).toNat)
  case atStart => exact ⟨0, by omega, fun j h1 => by omega, rfl⟩
  case round =>
    obtain ⟨k, hk, hall, rfl⟩ := hrel
    by_cases hlt : k < 5
    · obtain ⟨b, off, rfl, hb, hcell⟩ := hr.int hlt
      cases hin : inR (ix zs k) 0 20000
      · have hin' := Lib.hid hin
        go_wp2_with (go_at_call 49; refine (l00In_any _ _ _ _).mono ?_; rintro e w' ⟨rfl, rfl⟩)
        go_ret
        exact ⟨ret_bool (by unfold gradeOk; rw [hzs'.out, outB_yes (k := k) (by rw [hlen.out]; exact hlt) hin'.out]; rfl), HB⟩
      · have hin' := Lib.hid hin
        go_wp2_with (go_at_call 49; refine (l00In_any _ _ _ _).mono ?_; rintro e w' ⟨rfl, rfl⟩)
        go_round
        case rel => exact ⟨k + 1, by omega, hall.snoc hin'.out, by go_num⟩
        case measure => simp [intOf]; omega
    · go_wp2_with fail
      go_ret
      exact ⟨ret_bool (by unfold gradeOk; rw [hzs'.out, outB_no (fun j hj => hall j (by have := hlen.out; omega))]; rfl), HB⟩
end Go.Proofs.YtijbaapecehamaaDoor
