/-
  The law FnExactScaleNamed: the program's ScaleNamed returns what the reference's returns; for all arguments, no condition.
-/
import Derived.Test.YtclfgkpllliacaaOpen
import Derived.Test.YtclfgkpllliacaaBlk
import Derived.Test.YtclfgkpllliacaaNamed
import Derived.ProofKit
import Derived.OpenShut
import Derived.ShutString
import Derived.ChangeOld
namespace Go.Proofs.Ytclfgkpllliacaa.lawScaleNamed
open Go.ChangeShapes Go.WideShapes Go.ChangeAt Go.RowKit
set_option linter.unusedVariables false

set_option maxHeartbeats 800000 in
theorem walk (s0 : ByteArray) (w : World) (hs0 : s0.size ≤ maxLen) :
    Calls Try.prog 7 #[.string s0] w fun e w' => e = .returned (.bool true) ∧ Below w.heap.size w w' := by
  by_cases hbig : 1048576 < s0.size
  · go_enter Try.func7, Try.ntmps7
    go_wp2_with fail
    go_ret
    refine ⟨rfl, ?_⟩
    go_grown
  cases h1 : ([112, 97, 114, 105, 115] == s0.toList)
  case true =>
    go_enter Try.func7, Try.ntmps7
    go_wp2_with fail
    refine (snamed_0 _ _ h1).mono ?_
    rintro e w1 ⟨rfl, H1⟩
    obtain ⟨hc, hf⟩ := bcell H1
    go_wp2_with fail
    refine (named_0 _ _ h1).mono ?_
    rintro e w2 ⟨rfl, hb2⟩
    have H2 := Bl.then (Bl.alloc H1 _) hb2
    have B2a_2 : Blk w2 (w1.heap.size) 37 #[.string { data := #[112, 97, 114, 105, 115] }, .int .i64 0, .int .i64 100, .int .i64 3] := ((Blk.new _ _ _)).below hb2
    have q2a_0 : w2.cell? ⟨w1.heap.size, 0, none⟩ = some (.string { data := #[112, 97, 114, 105, 115] }) := B2a_2.cell 0
    have q2a_1 : w2.cell? ⟨w1.heap.size, 1, none⟩ = some (.int .i64 0) := B2a_2.cell 1
    have q2a_2 : w2.cell? ⟨w1.heap.size, 2, none⟩ = some (.int .i64 100) := B2a_2.cell 2
    have q2a_3 : w2.cell? ⟨w1.heap.size, 3, none⟩ = some (.int .i64 3) := B2a_2.cell 3
    have z2a : w1.heap.size < w2.heap.size := B2a_2.lt
    go_wp2_with fail
    refine (eqScale_same _ _ _ _ _).mono ?_
    rintro e w3 ⟨rfl, hb3⟩
    have H3 := Bl.then (Bl.alloc H2 _) hb3
    clear q2a_0
    clear q2a_1
    clear q2a_2
    clear q2a_3
    clear z2a
    have B2a_3 := ((B2a_2.alloc _)).below hb3
    have B3a_3 : Blk w3 (w2.heap.size) 37 #[.string { data := #[112, 97, 114, 105, 115] }, .int .i64 0, .int .i64 100, .int .i64 3] := ((Blk.new _ _ _)).below hb3
    have q2a_0 : w3.cell? ⟨w1.heap.size, 0, none⟩ = some (.string { data := #[112, 97, 114, 105, 115] }) := B2a_3.cell 0
    have q2a_1 : w3.cell? ⟨w1.heap.size, 1, none⟩ = some (.int .i64 0) := B2a_3.cell 1
    have q2a_2 : w3.cell? ⟨w1.heap.size, 2, none⟩ = some (.int .i64 100) := B2a_3.cell 2
    have q2a_3 : w3.cell? ⟨w1.heap.size, 3, none⟩ = some (.int .i64 3) := B2a_3.cell 3
    have z2a : w1.heap.size < w3.heap.size := B2a_3.lt
    have q3a_0 : w3.cell? ⟨w2.heap.size, 0, none⟩ = some (.string { data := #[112, 97, 114, 105, 115] }) := B3a_3.cell 0
    have q3a_1 : w3.cell? ⟨w2.heap.size, 1, none⟩ = some (.int .i64 0) := B3a_3.cell 1
    have q3a_2 : w3.cell? ⟨w2.heap.size, 2, none⟩ = some (.int .i64 100) := B3a_3.cell 2
    have q3a_3 : w3.cell? ⟨w2.heap.size, 3, none⟩ = some (.int .i64 3) := B3a_3.cell 3
    have z3a : w2.heap.size < w3.heap.size := B3a_3.lt
    clear q2a_0
    clear q2a_1
    clear q2a_2
    clear q2a_3
    clear z2a
    clear q3a_0
    clear q3a_1
    clear q3a_2
    clear q3a_3
    clear z3a
    go_wp2_with fail
    go_ret
    exact ⟨rfl, Bl.then (by go_grown) H3⟩
  cases h2 : ([101, 110, 103, 108, 105, 115, 104] == s0.toList)
  case true =>
    go_enter Try.func7, Try.ntmps7
    go_wp2_with fail
    refine (snamed_1 _ _ h1 h2).mono ?_
    rintro e w1 ⟨rfl, H1⟩
    obtain ⟨hc, hf⟩ := bcell H1
    go_wp2_with fail
    refine (named_1 _ _ h1 h2).mono ?_
    rintro e w2 ⟨rfl, hb2⟩
    have H2 := Bl.then (Bl.alloc H1 _) hb2
    have B2a_2 : Blk w2 (w1.heap.size) 37 #[.string { data := #[101, 110, 103, 108, 105, 115, 104] }, .int .i64 50, .int .i64 127, .int .i64 3] := ((Blk.new _ _ _)).below hb2
    have q2a_0 : w2.cell? ⟨w1.heap.size, 0, none⟩ = some (.string { data := #[101, 110, 103, 108, 105, 115, 104] }) := B2a_2.cell 0
    have q2a_1 : w2.cell? ⟨w1.heap.size, 1, none⟩ = some (.int .i64 50) := B2a_2.cell 1
    have q2a_2 : w2.cell? ⟨w1.heap.size, 2, none⟩ = some (.int .i64 127) := B2a_2.cell 2
    have q2a_3 : w2.cell? ⟨w1.heap.size, 3, none⟩ = some (.int .i64 3) := B2a_2.cell 3
    have z2a : w1.heap.size < w2.heap.size := B2a_2.lt
    go_wp2_with fail
    refine (eqScale_same _ _ _ _ _).mono ?_
    rintro e w3 ⟨rfl, hb3⟩
    have H3 := Bl.then (Bl.alloc H2 _) hb3
    clear q2a_0
    clear q2a_1
    clear q2a_2
    clear q2a_3
    clear z2a
    have B2a_3 := ((B2a_2.alloc _)).below hb3
    have B3a_3 : Blk w3 (w2.heap.size) 37 #[.string { data := #[101, 110, 103, 108, 105, 115, 104] }, .int .i64 50, .int .i64 127, .int .i64 3] := ((Blk.new _ _ _)).below hb3
    have q2a_0 : w3.cell? ⟨w1.heap.size, 0, none⟩ = some (.string { data := #[101, 110, 103, 108, 105, 115, 104] }) := B2a_3.cell 0
    have q2a_1 : w3.cell? ⟨w1.heap.size, 1, none⟩ = some (.int .i64 50) := B2a_3.cell 1
    have q2a_2 : w3.cell? ⟨w1.heap.size, 2, none⟩ = some (.int .i64 127) := B2a_3.cell 2
    have q2a_3 : w3.cell? ⟨w1.heap.size, 3, none⟩ = some (.int .i64 3) := B2a_3.cell 3
    have z2a : w1.heap.size < w3.heap.size := B2a_3.lt
    have q3a_0 : w3.cell? ⟨w2.heap.size, 0, none⟩ = some (.string { data := #[101, 110, 103, 108, 105, 115, 104] }) := B3a_3.cell 0
    have q3a_1 : w3.cell? ⟨w2.heap.size, 1, none⟩ = some (.int .i64 50) := B3a_3.cell 1
    have q3a_2 : w3.cell? ⟨w2.heap.size, 2, none⟩ = some (.int .i64 127) := B3a_3.cell 2
    have q3a_3 : w3.cell? ⟨w2.heap.size, 3, none⟩ = some (.int .i64 3) := B3a_3.cell 3
    have z3a : w2.heap.size < w3.heap.size := B3a_3.lt
    clear q2a_0
    clear q2a_1
    clear q2a_2
    clear q2a_3
    clear z2a
    clear q3a_0
    clear q3a_1
    clear q3a_2
    clear q3a_3
    clear z3a
    go_wp2_with fail
    go_ret
    exact ⟨rfl, Bl.then (by go_grown) H3⟩
  cases h3 : ([97, 109, 101, 114, 105, 99, 97, 110] == s0.toList)
  case true =>
    go_enter Try.func7, Try.ntmps7
    go_wp2_with fail
    refine (snamed_2 _ _ h1 h2 h3).mono ?_
    rintro e w1 ⟨rfl, H1⟩
    obtain ⟨hc, hf⟩ := bcell H1
    go_wp2_with fail
    refine (named_2 _ _ h1 h2 h3).mono ?_
    rintro e w2 ⟨rfl, hb2⟩
    have H2 := Bl.then (Bl.alloc H1 _) hb2
    have B2a_2 : Blk w2 (w1.heap.size) 37 #[.string { data := #[97, 109, 101, 114, 105, 99, 97, 110] }, .int .i64 48, .int .i64 127, .int .i64 3] := ((Blk.new _ _ _)).below hb2
    have q2a_0 : w2.cell? ⟨w1.heap.size, 0, none⟩ = some (.string { data := #[97, 109, 101, 114, 105, 99, 97, 110] }) := B2a_2.cell 0
    have q2a_1 : w2.cell? ⟨w1.heap.size, 1, none⟩ = some (.int .i64 48) := B2a_2.cell 1
    have q2a_2 : w2.cell? ⟨w1.heap.size, 2, none⟩ = some (.int .i64 127) := B2a_2.cell 2
    have q2a_3 : w2.cell? ⟨w1.heap.size, 3, none⟩ = some (.int .i64 3) := B2a_2.cell 3
    have z2a : w1.heap.size < w2.heap.size := B2a_2.lt
    go_wp2_with fail
    refine (eqScale_same _ _ _ _ _).mono ?_
    rintro e w3 ⟨rfl, hb3⟩
    have H3 := Bl.then (Bl.alloc H2 _) hb3
    clear q2a_0
    clear q2a_1
    clear q2a_2
    clear q2a_3
    clear z2a
    have B2a_3 := ((B2a_2.alloc _)).below hb3
    have B3a_3 : Blk w3 (w2.heap.size) 37 #[.string { data := #[97, 109, 101, 114, 105, 99, 97, 110] }, .int .i64 48, .int .i64 127, .int .i64 3] := ((Blk.new _ _ _)).below hb3
    have q2a_0 : w3.cell? ⟨w1.heap.size, 0, none⟩ = some (.string { data := #[97, 109, 101, 114, 105, 99, 97, 110] }) := B2a_3.cell 0
    have q2a_1 : w3.cell? ⟨w1.heap.size, 1, none⟩ = some (.int .i64 48) := B2a_3.cell 1
    have q2a_2 : w3.cell? ⟨w1.heap.size, 2, none⟩ = some (.int .i64 127) := B2a_3.cell 2
    have q2a_3 : w3.cell? ⟨w1.heap.size, 3, none⟩ = some (.int .i64 3) := B2a_3.cell 3
    have z2a : w1.heap.size < w3.heap.size := B2a_3.lt
    have q3a_0 : w3.cell? ⟨w2.heap.size, 0, none⟩ = some (.string { data := #[97, 109, 101, 114, 105, 99, 97, 110] }) := B3a_3.cell 0
    have q3a_1 : w3.cell? ⟨w2.heap.size, 1, none⟩ = some (.int .i64 48) := B3a_3.cell 1
    have q3a_2 : w3.cell? ⟨w2.heap.size, 2, none⟩ = some (.int .i64 127) := B3a_3.cell 2
    have q3a_3 : w3.cell? ⟨w2.heap.size, 3, none⟩ = some (.int .i64 3) := B3a_3.cell 3
    have z3a : w2.heap.size < w3.heap.size := B3a_3.lt
    clear q2a_0
    clear q2a_1
    clear q2a_2
    clear q2a_3
    clear z2a
    clear q3a_0
    clear q3a_1
    clear q3a_2
    clear q3a_3
    clear z3a
    go_wp2_with fail
    go_ret
    exact ⟨rfl, Bl.then (by go_grown) H3⟩
  cases h4 : ([109, 111, 110, 100, 111] == s0.toList)
  case true =>
    go_enter Try.func7, Try.ntmps7
    go_wp2_with fail
    refine (snamed_3 _ _ h1 h2 h3 h4).mono ?_
    rintro e w1 ⟨rfl, H1⟩
    obtain ⟨hc, hf⟩ := bcell H1
    go_wp2_with fail
    refine (named_3 _ _ h1 h2 h3 h4).mono ?_
    rintro e w2 ⟨rfl, hb2⟩
    have H2 := Bl.then (Bl.alloc H1 _) hb2
    have B2a_2 : Blk w2 (w1.heap.size) 37 #[.string { data := #[109, 111, 110, 100, 111] }, .int .i64 0, .int .i64 25, .int .i64 1] := ((Blk.new _ _ _)).below hb2
    have q2a_0 : w2.cell? ⟨w1.heap.size, 0, none⟩ = some (.string { data := #[109, 111, 110, 100, 111] }) := B2a_2.cell 0
    have q2a_1 : w2.cell? ⟨w1.heap.size, 1, none⟩ = some (.int .i64 0) := B2a_2.cell 1
    have q2a_2 : w2.cell? ⟨w1.heap.size, 2, none⟩ = some (.int .i64 25) := B2a_2.cell 2
    have q2a_3 : w2.cell? ⟨w1.heap.size, 3, none⟩ = some (.int .i64 1) := B2a_2.cell 3
    have z2a : w1.heap.size < w2.heap.size := B2a_2.lt
    go_wp2_with fail
    refine (eqScale_same _ _ _ _ _).mono ?_
    rintro e w3 ⟨rfl, hb3⟩
    have H3 := Bl.then (Bl.alloc H2 _) hb3
    clear q2a_0
    clear q2a_1
    clear q2a_2
    clear q2a_3
    clear z2a
    have B2a_3 := ((B2a_2.alloc _)).below hb3
    have B3a_3 : Blk w3 (w2.heap.size) 37 #[.string { data := #[109, 111, 110, 100, 111] }, .int .i64 0, .int .i64 25, .int .i64 1] := ((Blk.new _ _ _)).below hb3
    have q2a_0 : w3.cell? ⟨w1.heap.size, 0, none⟩ = some (.string { data := #[109, 111, 110, 100, 111] }) := B2a_3.cell 0
    have q2a_1 : w3.cell? ⟨w1.heap.size, 1, none⟩ = some (.int .i64 0) := B2a_3.cell 1
    have q2a_2 : w3.cell? ⟨w1.heap.size, 2, none⟩ = some (.int .i64 25) := B2a_3.cell 2
    have q2a_3 : w3.cell? ⟨w1.heap.size, 3, none⟩ = some (.int .i64 1) := B2a_3.cell 3
    have z2a : w1.heap.size < w3.heap.size := B2a_3.lt
    have q3a_0 : w3.cell? ⟨w2.heap.size, 0, none⟩ = some (.string { data := #[109, 111, 110, 100, 111] }) := B3a_3.cell 0
    have q3a_1 : w3.cell? ⟨w2.heap.size, 1, none⟩ = some (.int .i64 0) := B3a_3.cell 1
    have q3a_2 : w3.cell? ⟨w2.heap.size, 2, none⟩ = some (.int .i64 25) := B3a_3.cell 2
    have q3a_3 : w3.cell? ⟨w2.heap.size, 3, none⟩ = some (.int .i64 1) := B3a_3.cell 3
    have z3a : w2.heap.size < w3.heap.size := B3a_3.lt
    clear q2a_0
    clear q2a_1
    clear q2a_2
    clear q2a_3
    clear z2a
    clear q3a_0
    clear q3a_1
    clear q3a_2
    clear q3a_3
    clear z3a
    go_wp2_with fail
    go_ret
    exact ⟨rfl, Bl.then (by go_grown) H3⟩
  go_enter Try.func7, Try.ntmps7
  go_wp2_with fail
  refine (snamed_4 _ _ h1 h2 h3 h4).mono ?_
  rintro e w1 ⟨rfl, H1⟩
  obtain ⟨hc, hf⟩ := bcell H1
  go_wp2_with fail
  refine (named_4 _ _ h1 h2 h3 h4).mono ?_
  rintro e w2 ⟨rfl, hb2⟩
  have H2 := Bl.then (Bl.alloc H1 _) hb2
  have B2a_2 : Blk w2 (w1.heap.size) 37 #[.string { data := #[] }, .int .i64 0, .int .i64 0, .int .i64 0] := ((Blk.new _ _ _)).below hb2
  have q2a_0 : w2.cell? ⟨w1.heap.size, 0, none⟩ = some (.string { data := #[] }) := B2a_2.cell 0
  have q2a_1 : w2.cell? ⟨w1.heap.size, 1, none⟩ = some (.int .i64 0) := B2a_2.cell 1
  have q2a_2 : w2.cell? ⟨w1.heap.size, 2, none⟩ = some (.int .i64 0) := B2a_2.cell 2
  have q2a_3 : w2.cell? ⟨w1.heap.size, 3, none⟩ = some (.int .i64 0) := B2a_2.cell 3
  have z2a : w1.heap.size < w2.heap.size := B2a_2.lt
  go_wp2_with fail
  refine (eqScale_same _ _ _ _ _).mono ?_
  rintro e w3 ⟨rfl, hb3⟩
  have H3 := Bl.then (Bl.alloc H2 _) hb3
  clear q2a_0
  clear q2a_1
  clear q2a_2
  clear q2a_3
  clear z2a
  have B2a_3 := ((B2a_2.alloc _)).below hb3
  have B3a_3 : Blk w3 (w2.heap.size) 37 #[.string { data := #[] }, .int .i64 0, .int .i64 0, .int .i64 0] := ((Blk.new _ _ _)).below hb3
  have q2a_0 : w3.cell? ⟨w1.heap.size, 0, none⟩ = some (.string { data := #[] }) := B2a_3.cell 0
  have q2a_1 : w3.cell? ⟨w1.heap.size, 1, none⟩ = some (.int .i64 0) := B2a_3.cell 1
  have q2a_2 : w3.cell? ⟨w1.heap.size, 2, none⟩ = some (.int .i64 0) := B2a_3.cell 2
  have q2a_3 : w3.cell? ⟨w1.heap.size, 3, none⟩ = some (.int .i64 0) := B2a_3.cell 3
  have z2a : w1.heap.size < w3.heap.size := B2a_3.lt
  have q3a_0 : w3.cell? ⟨w2.heap.size, 0, none⟩ = some (.string { data := #[] }) := B3a_3.cell 0
  have q3a_1 : w3.cell? ⟨w2.heap.size, 1, none⟩ = some (.int .i64 0) := B3a_3.cell 1
  have q3a_2 : w3.cell? ⟨w2.heap.size, 2, none⟩ = some (.int .i64 0) := B3a_3.cell 2
  have q3a_3 : w3.cell? ⟨w2.heap.size, 3, none⟩ = some (.int .i64 0) := B3a_3.cell 3
  have z3a : w2.heap.size < w3.heap.size := B3a_3.lt
  clear q2a_0
  clear q2a_1
  clear q2a_2
  clear q2a_3
  clear z2a
  clear q3a_0
  clear q3a_1
  clear q3a_2
  clear q3a_3
  clear z3a
  go_wp2_with fail
  go_ret
  exact ⟨rfl, Bl.then (by go_grown) H3⟩

/-! ### The row: the argument opened, the walk, and everything read again behind it. -/
set_option maxRecDepth 100000 in
theorem lifted (os : Os) (started : os.Started) (H : Type) (enc : TypeId × Value → H) :
    ReturnsInHanded {} Try.checked os 7 .any (Rows.fnExactScaleNamedSpec.pre6 enc Try.prog Try.f7 Rows.fnExactScaleNamedRow.domain false) (Rows.fnExactScaleNamedSpec.post enc Try.prog Try.f7 false true false false) := by
  refine returnsInHanded_of_change (C := Try.checked) own started (by kernel_rfl) Try.func7
    (ChangeSpec.witness6 (enc := enc) (C := Try.checked) false ⟨#[], #[.string ByteArray.empty], []⟩ 8 (by kernel_rfl) (by kernel_rfl) (by kernel_rfl) (by kernel_rfl)) ?_
  intro W base args ds gs before hval0 hW hcnd _
  have hval : ∀ (j : Nat) t v, Try.f7.params[j]? = some t → args[j]? = some v → Value.okWide Try.prog W .any base t v := hval0
  have hW' := hW
  obtain ⟨p, q, hA0, hV, rfl, hfz, hnd⟩ := hW
  have hA : DataW.TrodAll enc Try.prog W 0 (fun _ => true) true Try.f7.params.toList args.toList ds p := hA0
  rw [Try.params7] at hA hval
  obtain ⟨v0, vs0, d0, ds0, p0, q0, hargs, rfl, rfl, h0, r0⟩ := trodAll_cons hA
  obtain ⟨rfl, rfl, rfl⟩ := trodAll_nil r0
  obtain rfl : args = #[v0] := by cases args; simp_all
  obtain ⟨rfl, rfl⟩ := trodVars_none hV
  have k0 := h0
  have lt0 : ∀ x ∈ p0, x.block < W.heap.size := by obtain ⟨m, hm⟩ := k0; exact DataW.trod_lt m _ _ _ hm
  obtain ⟨s0, rfl, rfl, rfl, hs0⟩ := Go.ChangeMaps.open_string Try.underlying9 (hval 0 9 v0 rfl rfl) h0
  clear hA0 hval0
  refine (walk s0 W hs0).mono fun e W' ⟨he, bel⟩ => ?_
  subst he
  exact ⟨_, rfl, _, _, _, [], _, [], hW', trodAll_mk1 (shut_bool Try.underlying4 _), (trodAll_cons_mk (Below.trod laidOut (by kernel_rfl) (of_decide_eq_true (by kernel_rfl)) k0 bel lt0) trodAll_mk0), rfl, bel.frame _, fun h => by cases h⟩

theorem over : Rows.fnExactScaleNamedRow.holds Try.pinned (OpenSpec.ofChange Rows.fnExactScaleNamedSpec) :=
  OpenClaim.holds_of_wide 7 Try.f7 rfl rfl rfl rfl rfl rfl rfl ⟨rfl, rfl, rfl, rfl, rfl⟩ rfl rfl rfl rfl rfl (by kernel_rfl) Try.func7 (by kernel_rfl)
    (of_decide_eq_true (by kernel_rfl)) (by unfold Func.isWrapper; first | (rw [if_pos (by decide +kernel)]; kernel_rfl) | (rw [if_neg (by decide +kernel)]; exact ⟨rfl, rfl⟩))
    (fun os started H enc _ => lifted os started H enc)

theorem proved : Rows.FnExactScaleNamedSaid := over
end Go.Proofs.Ytclfgkpllliacaa.lawScaleNamed
