/-
  GradeSet of the program and of the reference; names are any strings that Go can hold.
-/
import Derived.Test.YtlbgognkaolamaaGrad2
import Derived.Test.YtlbgognkaolamaaLastsOk
import Derived.Test.YtlbgognkaolamaaLastW
namespace Go.Proofs.Ytlbgognkaolamaa
open Go.RowKit
set_option maxHeartbeats 3200000
set_option linter.unusedVariables false

def gsL (x : LastD) (ga gb gc gd ge t : Int) : LastD := ⟨x.s, grow1 x.l ga t, grow1 x.b gb t, grow1 x.i gc t, grow1 x.h gd t, grow1 x.p ge t⟩
def gsRow (x : LastD) (ga gb gc gd ge z : Int) : Nat → List LastD
  | 0 => []
  | k + 1 => gsRow x ga gb gc gd ge z k ++ [gsL x ga gb gc gd ge (z + (k : Int))]
noncomputable def gsAll (x : LastD) (ga gb gc gd ge z : Int) : Nat → Bool
  | 0 => true
  | k + 1 => gsAll x ga gb gc gd ge z k && lOk (gsL x ga gb gc gd ge (z + (k : Int)))
theorem gsRow_len (x : LastD) (ga gb gc gd ge z : Int) : ∀ k, (gsRow x ga gb gc gd ge z k).length = k
  | 0 => rfl
  | k + 1 => by simp [gsRow, gsRow_len x ga gb gc gd ge z k]
theorem gsAll_no {x : LastD} {ga gb gc gd ge z : Int} {m : Nat} : ∀ {K : Nat}, m < K → lOk (gsL x ga gb gc gd ge (z + (m : Int))) = false → gsAll x ga gb gc gd ge z K = false
  | 0, hm, _ => by omega
  | K + 1, hm, h => by
    by_cases e : m = K
    · subst e; simp [gsAll, h]
    · simp [gsAll, gsAll_no (K := K) (by omega) h]
noncomputable def gsR (x : LastD) (ga gb gc gd ge z2 z3 : Int) : List LastD × Int :=
  if lOk x = false then ([], 1) else if gradeOk ga gb gc gd ge = false then ([], 1) else if inR z2 (-30) 30 = false then ([], 2) else if inR z3 z2 30 = false then ([], 2) else if gsAll x ga gb gc gd ge z2 (z3 - z2 + 1).toNat = true then (gsRow x ga gb gc gd ge z2 (z3 - z2 + 1).toNat, 0) else ([], 5)
theorem gsR_len (x : LastD) (ga gb gc gd ge z2 z3 : Int) : (gsR x ga gb gc gd ge z2 z3).1.length ≤ 1048576 := by
  unfold gsR
  cases lOk x
  · simp
  cases gradeOk ga gb gc gd ge
  · simp
  cases h3 : inR z2 (-30) 30
  · simp
  cases h4 : inR z3 z2 30
  · simp
  have e3 := inR_true.1 h3
  have e4 := inR_true.1 h4
  cases gsAll x ga gb gc gd ge z2 (z3 - z2 + 1).toNat
  · simp
  · simp only [Bool.true_eq_false, if_false, if_true, gsRow_len]; omega
/-- What GradeSet hands back: a row of its own, a code. -/
def RetLs (r : List LastD × Int) (w : World) (e : Ending) (w' : World) : Prop :=
  ∃ A c, e = .returned (.tuple #[.slice A r.1.length c, .int .i64 r.2]) ∧ w'.ownsRow w.heap.size 41 6 (.slice A r.1.length c) r.1.length (lasts r.1) ∧ Below w.heap.size w w'
theorem RetLs.mk {r : List LastD × Int} {w w' : World} {A : Option Addr} {n c : Nat} {zs : List LastD} {code : Int} (h : r = (zs, code)) (hl : zs.length = n) (ho : w'.ownsRow w.heap.size 41 6 (.slice A n c) n (lasts zs)) (hb : Below w.heap.size w w') :
    RetLs r w (.returned (.tuple #[.slice A n c, .int .i64 code])) w' := by
  subst h; subst hl
  exact ⟨A, c, rfl, ho, hb⟩
theorem RetLs.nil {r : List LastD × Int} {w w' : World} {code : Int} (h : r = ([], code)) (hb : Below w.heap.size w w') : RetLs r w (.returned (.tuple #[.slice none 0 0, .int .i64 code])) w' :=
  RetLs.mk h rfl ⟨rfl, .inl ⟨rfl, rfl⟩⟩ hb
set_option maxRecDepth 100000 in
theorem GradeSet_any (x : LastD) (ga gb gc gd ge z2 z3 : Int) (w : World) (hs : x.s.size ≤ maxLen) :
    Calls Try.prog 23 #[.agg #[.string x.s, .int .i64 x.l, .int .i64 x.b, .int .i64 x.i, .int .i64 x.h, .int .i64 x.p], .agg #[.int .i64 ga, .int .i64 gb, .int .i64 gc, .int .i64 gd, .int .i64 ge], .int .i64 z2, .int .i64 z3] w (RetLs (gsR x ga gb gc gd ge z2 z3) w) := by
  have h1L : lOk x = lastOk x.s x.l x.b x.i x.h x.p := rfl
  cases h1 : lastOk x.s x.l x.b x.i x.h x.p
  · have hr := Lib.hid (show gsR x ga gb gc gd ge z2 z3 = ([], 1) by simp [gsR, h1L, h1])
    clear h1L
    go_enter Try.func23, Try.ntmps23
    go_wp2_with fail
    refine (validLast_any _ _ _ _ _ _ _ hs).mono ?_
    rintro e w1 ⟨rfl, H1⟩
    have BX := ((Blk.new w 41 #[.string x.s, .int .i64 x.l, .int .i64 x.b, .int .i64 x.i, .int .i64 x.h, .int .i64 x.p]).alloc (.cells #[.int .i64 ga, .int .i64 gb, .int .i64 gc, .int .i64 gd, .int .i64 ge] 43)).below H1
    have BG := (Blk.new1 w _ 43 #[.int .i64 ga, .int .i64 gb, .int .i64 gc, .int .i64 gd, .int .i64 ge]).below H1
    have HW : Below w.heap.size w w1 := Bl.then (by go_grown) H1
    clear H1
    have cX0 : w1.cell? ⟨w.heap.size, 0, none⟩ = some (.string x.s) := BX.cell 0
    have cX1 : w1.cell? ⟨w.heap.size, 1, none⟩ = some (.int .i64 x.l) := BX.cell 1
    have cX2 : w1.cell? ⟨w.heap.size, 2, none⟩ = some (.int .i64 x.b) := BX.cell 2
    have cX3 : w1.cell? ⟨w.heap.size, 3, none⟩ = some (.int .i64 x.i) := BX.cell 3
    have cX4 : w1.cell? ⟨w.heap.size, 4, none⟩ = some (.int .i64 x.h) := BX.cell 4
    have cX5 : w1.cell? ⟨w.heap.size, 5, none⟩ = some (.int .i64 x.p) := BX.cell 5
    have lX := BX.lt
    have cG0 : w1.cell? ⟨w.heap.size + 1, 0, none⟩ = some (.int .i64 ga) := BG.cell 0
    have cG1 : w1.cell? ⟨w.heap.size + 1, 1, none⟩ = some (.int .i64 gb) := BG.cell 1
    have cG2 : w1.cell? ⟨w.heap.size + 1, 2, none⟩ = some (.int .i64 gc) := BG.cell 2
    have cG3 : w1.cell? ⟨w.heap.size + 1, 3, none⟩ = some (.int .i64 gd) := BG.cell 3
    have cG4 : w1.cell? ⟨w.heap.size + 1, 4, none⟩ = some (.int .i64 ge) := BG.cell 4
    have lG := BG.lt
    go_wp2_with fail
    go_ret2
    exact RetLs.nil hr.out HW
  cases h2 : gradeOk ga gb gc gd ge
  · have hr := Lib.hid (show gsR x ga gb gc gd ge z2 z3 = ([], 1) by simp [gsR, h1L, h1, h2])
    clear h1L
    go_enter Try.func23, Try.ntmps23
    go_wp2_with fail
    refine (validLast_any _ _ _ _ _ _ _ hs).mono ?_
    rintro e w1 ⟨rfl, H1⟩
    have BX := ((Blk.new w 41 #[.string x.s, .int .i64 x.l, .int .i64 x.b, .int .i64 x.i, .int .i64 x.h, .int .i64 x.p]).alloc (.cells #[.int .i64 ga, .int .i64 gb, .int .i64 gc, .int .i64 gd, .int .i64 ge] 43)).below H1
    have BG := (Blk.new1 w _ 43 #[.int .i64 ga, .int .i64 gb, .int .i64 gc, .int .i64 gd, .int .i64 ge]).below H1
    have HW : Below w.heap.size w w1 := Bl.then (by go_grown) H1
    clear H1
    have cX0 : w1.cell? ⟨w.heap.size, 0, none⟩ = some (.string x.s) := BX.cell 0
    have cX1 : w1.cell? ⟨w.heap.size, 1, none⟩ = some (.int .i64 x.l) := BX.cell 1
    have cX2 : w1.cell? ⟨w.heap.size, 2, none⟩ = some (.int .i64 x.b) := BX.cell 2
    have cX3 : w1.cell? ⟨w.heap.size, 3, none⟩ = some (.int .i64 x.i) := BX.cell 3
    have cX4 : w1.cell? ⟨w.heap.size, 4, none⟩ = some (.int .i64 x.h) := BX.cell 4
    have cX5 : w1.cell? ⟨w.heap.size, 5, none⟩ = some (.int .i64 x.p) := BX.cell 5
    have lX := BX.lt
    have cG0 : w1.cell? ⟨w.heap.size + 1, 0, none⟩ = some (.int .i64 ga) := BG.cell 0
    have cG1 : w1.cell? ⟨w.heap.size + 1, 1, none⟩ = some (.int .i64 gb) := BG.cell 1
    have cG2 : w1.cell? ⟨w.heap.size + 1, 2, none⟩ = some (.int .i64 gc) := BG.cell 2
    have cG3 : w1.cell? ⟨w.heap.size + 1, 3, none⟩ = some (.int .i64 gd) := BG.cell 3
    have cG4 : w1.cell? ⟨w.heap.size + 1, 4, none⟩ = some (.int .i64 ge) := BG.cell 4
    have lG := BG.lt
    go_wp2_with fail
    refine (ValidGrade_any _ _ _ _ _ _).mono ?_
    rintro e w2 ⟨rfl, hb2⟩
    clear cX0 cX1 cX2 cX3 cX4 cX5 lX cG0 cG1 cG2 cG3 cG4 lG
    replace BX := BX.below hb2
    replace BG := BG.below hb2
    replace HW := Bl.then HW hb2
    have cX0 : w2.cell? ⟨w.heap.size, 0, none⟩ = some (.string x.s) := BX.cell 0
    have cX1 : w2.cell? ⟨w.heap.size, 1, none⟩ = some (.int .i64 x.l) := BX.cell 1
    have cX2 : w2.cell? ⟨w.heap.size, 2, none⟩ = some (.int .i64 x.b) := BX.cell 2
    have cX3 : w2.cell? ⟨w.heap.size, 3, none⟩ = some (.int .i64 x.i) := BX.cell 3
    have cX4 : w2.cell? ⟨w.heap.size, 4, none⟩ = some (.int .i64 x.h) := BX.cell 4
    have cX5 : w2.cell? ⟨w.heap.size, 5, none⟩ = some (.int .i64 x.p) := BX.cell 5
    have lX := BX.lt
    have cG0 : w2.cell? ⟨w.heap.size + 1, 0, none⟩ = some (.int .i64 ga) := BG.cell 0
    have cG1 : w2.cell? ⟨w.heap.size + 1, 1, none⟩ = some (.int .i64 gb) := BG.cell 1
    have cG2 : w2.cell? ⟨w.heap.size + 1, 2, none⟩ = some (.int .i64 gc) := BG.cell 2
    have cG3 : w2.cell? ⟨w.heap.size + 1, 3, none⟩ = some (.int .i64 gd) := BG.cell 3
    have cG4 : w2.cell? ⟨w.heap.size + 1, 4, none⟩ = some (.int .i64 ge) := BG.cell 4
    have lG := BG.lt
    go_wp2_with fail
    go_ret2
    exact RetLs.nil hr.out HW
  cases h3 : inR z2 (-30) 30
  · have hr := Lib.hid (show gsR x ga gb gc gd ge z2 z3 = ([], 2) by simp [gsR, h1L, h1, h2, h3])
    clear h1L
    go_enter Try.func23, Try.ntmps23
    go_wp2_with fail
    refine (validLast_any _ _ _ _ _ _ _ hs).mono ?_
    rintro e w1 ⟨rfl, H1⟩
    have BX := ((Blk.new w 41 #[.string x.s, .int .i64 x.l, .int .i64 x.b, .int .i64 x.i, .int .i64 x.h, .int .i64 x.p]).alloc (.cells #[.int .i64 ga, .int .i64 gb, .int .i64 gc, .int .i64 gd, .int .i64 ge] 43)).below H1
    have BG := (Blk.new1 w _ 43 #[.int .i64 ga, .int .i64 gb, .int .i64 gc, .int .i64 gd, .int .i64 ge]).below H1
    have HW : Below w.heap.size w w1 := Bl.then (by go_grown) H1
    clear H1
    have cX0 : w1.cell? ⟨w.heap.size, 0, none⟩ = some (.string x.s) := BX.cell 0
    have cX1 : w1.cell? ⟨w.heap.size, 1, none⟩ = some (.int .i64 x.l) := BX.cell 1
    have cX2 : w1.cell? ⟨w.heap.size, 2, none⟩ = some (.int .i64 x.b) := BX.cell 2
    have cX3 : w1.cell? ⟨w.heap.size, 3, none⟩ = some (.int .i64 x.i) := BX.cell 3
    have cX4 : w1.cell? ⟨w.heap.size, 4, none⟩ = some (.int .i64 x.h) := BX.cell 4
    have cX5 : w1.cell? ⟨w.heap.size, 5, none⟩ = some (.int .i64 x.p) := BX.cell 5
    have lX := BX.lt
    have cG0 : w1.cell? ⟨w.heap.size + 1, 0, none⟩ = some (.int .i64 ga) := BG.cell 0
    have cG1 : w1.cell? ⟨w.heap.size + 1, 1, none⟩ = some (.int .i64 gb) := BG.cell 1
    have cG2 : w1.cell? ⟨w.heap.size + 1, 2, none⟩ = some (.int .i64 gc) := BG.cell 2
    have cG3 : w1.cell? ⟨w.heap.size + 1, 3, none⟩ = some (.int .i64 gd) := BG.cell 3
    have cG4 : w1.cell? ⟨w.heap.size + 1, 4, none⟩ = some (.int .i64 ge) := BG.cell 4
    have lG := BG.lt
    go_wp2_with fail
    refine (ValidGrade_any _ _ _ _ _ _).mono ?_
    rintro e w2 ⟨rfl, hb2⟩
    clear cX0 cX1 cX2 cX3 cX4 cX5 lX cG0 cG1 cG2 cG3 cG4 lG
    replace BX := BX.below hb2
    replace BG := BG.below hb2
    replace HW := Bl.then HW hb2
    have cX0 : w2.cell? ⟨w.heap.size, 0, none⟩ = some (.string x.s) := BX.cell 0
    have cX1 : w2.cell? ⟨w.heap.size, 1, none⟩ = some (.int .i64 x.l) := BX.cell 1
    have cX2 : w2.cell? ⟨w.heap.size, 2, none⟩ = some (.int .i64 x.b) := BX.cell 2
    have cX3 : w2.cell? ⟨w.heap.size, 3, none⟩ = some (.int .i64 x.i) := BX.cell 3
    have cX4 : w2.cell? ⟨w.heap.size, 4, none⟩ = some (.int .i64 x.h) := BX.cell 4
    have cX5 : w2.cell? ⟨w.heap.size, 5, none⟩ = some (.int .i64 x.p) := BX.cell 5
    have lX := BX.lt
    have cG0 : w2.cell? ⟨w.heap.size + 1, 0, none⟩ = some (.int .i64 ga) := BG.cell 0
    have cG1 : w2.cell? ⟨w.heap.size + 1, 1, none⟩ = some (.int .i64 gb) := BG.cell 1
    have cG2 : w2.cell? ⟨w.heap.size + 1, 2, none⟩ = some (.int .i64 gc) := BG.cell 2
    have cG3 : w2.cell? ⟨w.heap.size + 1, 3, none⟩ = some (.int .i64 gd) := BG.cell 3
    have cG4 : w2.cell? ⟨w.heap.size + 1, 4, none⟩ = some (.int .i64 ge) := BG.cell 4
    have lG := BG.lt
    go_wp2_with (first | (go_at_call 69; refine (isSteps_any _ _).mono ?_; rintro e w9 ⟨rfl, rfl⟩) | (go_at_call 70; refine (within_any _ _ _ _).mono ?_; rintro e w9 ⟨rfl, rfl⟩))
    go_ret2
    exact RetLs.nil hr.out HW
  cases h4 : inR z3 z2 30
  · have hr := Lib.hid (show gsR x ga gb gc gd ge z2 z3 = ([], 2) by simp [gsR, h1L, h1, h2, h3, h4])
    clear h1L
    go_enter Try.func23, Try.ntmps23
    go_wp2_with fail
    refine (validLast_any _ _ _ _ _ _ _ hs).mono ?_
    rintro e w1 ⟨rfl, H1⟩
    have BX := ((Blk.new w 41 #[.string x.s, .int .i64 x.l, .int .i64 x.b, .int .i64 x.i, .int .i64 x.h, .int .i64 x.p]).alloc (.cells #[.int .i64 ga, .int .i64 gb, .int .i64 gc, .int .i64 gd, .int .i64 ge] 43)).below H1
    have BG := (Blk.new1 w _ 43 #[.int .i64 ga, .int .i64 gb, .int .i64 gc, .int .i64 gd, .int .i64 ge]).below H1
    have HW : Below w.heap.size w w1 := Bl.then (by go_grown) H1
    clear H1
    have cX0 : w1.cell? ⟨w.heap.size, 0, none⟩ = some (.string x.s) := BX.cell 0
    have cX1 : w1.cell? ⟨w.heap.size, 1, none⟩ = some (.int .i64 x.l) := BX.cell 1
    have cX2 : w1.cell? ⟨w.heap.size, 2, none⟩ = some (.int .i64 x.b) := BX.cell 2
    have cX3 : w1.cell? ⟨w.heap.size, 3, none⟩ = some (.int .i64 x.i) := BX.cell 3
    have cX4 : w1.cell? ⟨w.heap.size, 4, none⟩ = some (.int .i64 x.h) := BX.cell 4
    have cX5 : w1.cell? ⟨w.heap.size, 5, none⟩ = some (.int .i64 x.p) := BX.cell 5
    have lX := BX.lt
    have cG0 : w1.cell? ⟨w.heap.size + 1, 0, none⟩ = some (.int .i64 ga) := BG.cell 0
    have cG1 : w1.cell? ⟨w.heap.size + 1, 1, none⟩ = some (.int .i64 gb) := BG.cell 1
    have cG2 : w1.cell? ⟨w.heap.size + 1, 2, none⟩ = some (.int .i64 gc) := BG.cell 2
    have cG3 : w1.cell? ⟨w.heap.size + 1, 3, none⟩ = some (.int .i64 gd) := BG.cell 3
    have cG4 : w1.cell? ⟨w.heap.size + 1, 4, none⟩ = some (.int .i64 ge) := BG.cell 4
    have lG := BG.lt
    go_wp2_with fail
    refine (ValidGrade_any _ _ _ _ _ _).mono ?_
    rintro e w2 ⟨rfl, hb2⟩
    clear cX0 cX1 cX2 cX3 cX4 cX5 lX cG0 cG1 cG2 cG3 cG4 lG
    replace BX := BX.below hb2
    replace BG := BG.below hb2
    replace HW := Bl.then HW hb2
    have cX0 : w2.cell? ⟨w.heap.size, 0, none⟩ = some (.string x.s) := BX.cell 0
    have cX1 : w2.cell? ⟨w.heap.size, 1, none⟩ = some (.int .i64 x.l) := BX.cell 1
    have cX2 : w2.cell? ⟨w.heap.size, 2, none⟩ = some (.int .i64 x.b) := BX.cell 2
    have cX3 : w2.cell? ⟨w.heap.size, 3, none⟩ = some (.int .i64 x.i) := BX.cell 3
    have cX4 : w2.cell? ⟨w.heap.size, 4, none⟩ = some (.int .i64 x.h) := BX.cell 4
    have cX5 : w2.cell? ⟨w.heap.size, 5, none⟩ = some (.int .i64 x.p) := BX.cell 5
    have lX := BX.lt
    have cG0 : w2.cell? ⟨w.heap.size + 1, 0, none⟩ = some (.int .i64 ga) := BG.cell 0
    have cG1 : w2.cell? ⟨w.heap.size + 1, 1, none⟩ = some (.int .i64 gb) := BG.cell 1
    have cG2 : w2.cell? ⟨w.heap.size + 1, 2, none⟩ = some (.int .i64 gc) := BG.cell 2
    have cG3 : w2.cell? ⟨w.heap.size + 1, 3, none⟩ = some (.int .i64 gd) := BG.cell 3
    have cG4 : w2.cell? ⟨w.heap.size + 1, 4, none⟩ = some (.int .i64 ge) := BG.cell 4
    have lG := BG.lt
    go_wp2_with (first | (go_at_call 69; refine (isSteps_any _ _).mono ?_; rintro e w9 ⟨rfl, rfl⟩) | (go_at_call 70; refine (within_any _ _ _ _).mono ?_; rintro e w9 ⟨rfl, rfl⟩))
    go_ret2
    exact RetLs.nil hr.out HW
  have e3 := inR_true.1 h3
  have e4 := inR_true.1 h4
  obtain ⟨K, hK⟩ : ∃ K : Nat, K = (z3 - z2 + 1).toNat := ⟨_, rfl⟩
  have hr1 := Lib.hid (show gsAll x ga gb gc gd ge z2 K = true → gsR x ga gb gc gd ge z2 z3 = (gsRow x ga gb gc gd ge z2 K, 0) from fun h => by rw [hK] at h ⊢; simp [gsR, h1L, h1, h2, h3, h4, h])
  have hr5 := Lib.hid (show gsAll x ga gb gc gd ge z2 K = false → gsR x ga gb gc gd ge z2 z3 = ([], 5) from fun h => by rw [hK] at h; simp [gsR, h1L, h1, h2, h3, h4, h])
  have eK : z2 + (K : Int) = z3 + 1 := by omega
  have hK61 : K ≤ 61 := by omega
  have eKh := Lib.hid eK
  have h1h := Lib.hid h1
  have h2h := Lib.hid h2
  clear h1L hK eK
  go_enter Try.func23, Try.ntmps23
  go_wp2_with fail
  refine (validLast_any _ _ _ _ _ _ _ hs).mono ?_
  rintro e w1 ⟨rfl, H1⟩
  have BX := ((Blk.new w 41 #[.string x.s, .int .i64 x.l, .int .i64 x.b, .int .i64 x.i, .int .i64 x.h, .int .i64 x.p]).alloc (.cells #[.int .i64 ga, .int .i64 gb, .int .i64 gc, .int .i64 gd, .int .i64 ge] 43)).below H1
  have BG := (Blk.new1 w _ 43 #[.int .i64 ga, .int .i64 gb, .int .i64 gc, .int .i64 gd, .int .i64 ge]).below H1
  have HW : Below w.heap.size w w1 := Bl.then (by go_grown) H1
  clear H1
  have cX0 : w1.cell? ⟨w.heap.size, 0, none⟩ = some (.string x.s) := BX.cell 0
  have cX1 : w1.cell? ⟨w.heap.size, 1, none⟩ = some (.int .i64 x.l) := BX.cell 1
  have cX2 : w1.cell? ⟨w.heap.size, 2, none⟩ = some (.int .i64 x.b) := BX.cell 2
  have cX3 : w1.cell? ⟨w.heap.size, 3, none⟩ = some (.int .i64 x.i) := BX.cell 3
  have cX4 : w1.cell? ⟨w.heap.size, 4, none⟩ = some (.int .i64 x.h) := BX.cell 4
  have cX5 : w1.cell? ⟨w.heap.size, 5, none⟩ = some (.int .i64 x.p) := BX.cell 5
  have lX := BX.lt
  have cG0 : w1.cell? ⟨w.heap.size + 1, 0, none⟩ = some (.int .i64 ga) := BG.cell 0
  have cG1 : w1.cell? ⟨w.heap.size + 1, 1, none⟩ = some (.int .i64 gb) := BG.cell 1
  have cG2 : w1.cell? ⟨w.heap.size + 1, 2, none⟩ = some (.int .i64 gc) := BG.cell 2
  have cG3 : w1.cell? ⟨w.heap.size + 1, 3, none⟩ = some (.int .i64 gd) := BG.cell 3
  have cG4 : w1.cell? ⟨w.heap.size + 1, 4, none⟩ = some (.int .i64 ge) := BG.cell 4
  have lG := BG.lt
  go_wp2_with fail
  refine (ValidGrade_any _ _ _ _ _ _).mono ?_
  rintro e w2 ⟨rfl, hb2⟩
  clear cX0 cX1 cX2 cX3 cX4 cX5 lX cG0 cG1 cG2 cG3 cG4 lG
  replace BX := BX.below hb2
  replace BG := BG.below hb2
  replace HW := Bl.then HW hb2
  have cX0 : w2.cell? ⟨w.heap.size, 0, none⟩ = some (.string x.s) := BX.cell 0
  have cX1 : w2.cell? ⟨w.heap.size, 1, none⟩ = some (.int .i64 x.l) := BX.cell 1
  have cX2 : w2.cell? ⟨w.heap.size, 2, none⟩ = some (.int .i64 x.b) := BX.cell 2
  have cX3 : w2.cell? ⟨w.heap.size, 3, none⟩ = some (.int .i64 x.i) := BX.cell 3
  have cX4 : w2.cell? ⟨w.heap.size, 4, none⟩ = some (.int .i64 x.h) := BX.cell 4
  have cX5 : w2.cell? ⟨w.heap.size, 5, none⟩ = some (.int .i64 x.p) := BX.cell 5
  have lX := BX.lt
  have cG0 : w2.cell? ⟨w.heap.size + 1, 0, none⟩ = some (.int .i64 ga) := BG.cell 0
  have cG1 : w2.cell? ⟨w.heap.size + 1, 1, none⟩ = some (.int .i64 gb) := BG.cell 1
  have cG2 : w2.cell? ⟨w.heap.size + 1, 2, none⟩ = some (.int .i64 gc) := BG.cell 2
  have cG3 : w2.cell? ⟨w.heap.size + 1, 3, none⟩ = some (.int .i64 gd) := BG.cell 3
  have cG4 : w2.cell? ⟨w.heap.size + 1, 4, none⟩ = some (.int .i64 ge) := BG.cell 4
  have lG := BG.lt
  go_wp2_with (first | (go_at_call 69; refine (isSteps_any _ _).mono ?_; rintro e w9 ⟨rfl, rfl⟩) | (go_at_call 70; refine (within_any _ _ _ _).mono ?_; rintro e w9 ⟨rfl, rfl⟩))
  clear cX0 cX1 cX2 cX3 cX4 cX5 lX cG0 cG1 cG2 cG3 cG4 lG
  clear h1 h2 h3 h4
  have oo := own_lit (W := w2) (cs := #[]) (e := 41) (size := 6) (n := 0) (xs := lasts []) rfl (Nat.le_refl w2.heap.size) (by decide) rfl rfl
  have HM := Bl.alloc (Below.refl w2.heap.size w2) (.cells #[] 41)
  go_loopw [10, 11] (fun v i wr => ∃ (m : Nat) (A' : Option Addr) (c' : Nat), m ≤ K ∧ i = .int .i64 (z2 + (m : Int)) ∧ v = .slice A' m c' ∧ Hid (gsAll x ga gb gc gd ge z2 m = true) ∧ wr.ownsRow w2.heap.size 41 6 (.slice A' m c') m (lasts (gsRow x ga gb gc gd ge z2 m)) ∧ Below w2.heap.size w2 wr) (fun _ i _ => (z3 + 1 - intOf i).toNat)
  case atStart => exact ⟨0, _, _, by omega, by simp, rfl, Lib.hid rfl, oo, HM⟩
  case round =>
    clear oo HM
    obtain ⟨m, A', c', hmK, rfl, rfl, hall, ho, HP⟩ := hrel
    have eK := eKh.out
    by_cases hlm : m < K
    · have a0 : z2 + (m : Int) ≤ z3 := by omega
      have ht : -30 ≤ z2 + (m : Int) ∧ z2 + (m : Int) ≤ 30 := by omega
      have BXr := BX.below HP
      have BGr := BG.below HP
      have x0 := BXr.cell 0
      have x1 := BXr.cell 1
      have x2 := BXr.cell 2
      have x3 := BXr.cell 3
      have x4 := BXr.cell 4
      have x5 := BXr.cell 5
      have y0 := BGr.cell 0
      have y1 := BGr.cell 1
      have y2 := BGr.cell 2
      have y3 := BGr.cell 3
      have y4 := BGr.cell 4
      clear eK
      go_wp2_with fail
      refine (gradeLast_any _ _ _ _ _ _ _ _ _ _ _ _ _ h1h.out h2h.out ht).mono ?_
      rintro e w7 ⟨rfl, hb7⟩
      have HP7 := Bl.then HP hb7
      have ho7 := own_below ho hb7
      clear x0 x1 x2 x3 x4 x5 y0 y1 y2 y3 y4 BXr BGr
      go_wp2_with fail
      refine (validLast_any _ _ _ _ _ _ _ hs).mono ?_
      rintro e w8 ⟨rfl, hb8⟩
      have HP8 := Bl.then (Bl.alloc HP7 _) hb8
      have ho8 := own_below (ho7.alloc _) hb8
      have B8 := (Blk.new w7 41 #[.string x.s, .int .i64 (grow1 x.l ga (z2 + (m : Int))), .int .i64 (grow1 x.b gb (z2 + (m : Int))), .int .i64 (grow1 x.i gc (z2 + (m : Int))), .int .i64 (grow1 x.h gd (z2 + (m : Int))), .int .i64 (grow1 x.p ge (z2 + (m : Int)))]).below hb8
      have k0 := B8.cell 0
      have k1 := B8.cell 1
      have k2 := B8.cell 2
      have k3 := B8.cell 3
      have k4 := B8.cell 4
      have k5 := B8.cell 5
      cases hok : lastOk x.s (grow1 x.l ga (z2 + (m : Int))) (grow1 x.b gb (z2 + (m : Int))) (grow1 x.i gc (z2 + (m : Int))) (grow1 x.h gd (z2 + (m : Int))) (grow1 x.p ge (z2 + (m : Int)))
      · have hr := Lib.hid (hr5.out (gsAll_no hlm (show lOk (gsL x ga gb gc gd ge (z2 + (m : Int))) = false from hok)))
        clear hok
        go_wp2_with fail
        go_ret2
        exact RetLs.nil hr.out (Bl.then HW HP8)
      · have hal2 := Lib.hid (show gsAll x ga gb gc gd ge z2 (m + 1) = true by simp only [gsAll, hall.out, Bool.true_and]; exact hok)
        clear hok
        go_wp2_with (at_builtin; refine wpList_app_lasts _ rfl _ _ rfl _ _ _ _ _ (gsL x ga gb gc gd ge (z2 + (m : Int))) rfl ho8 rfl HP8.size (by omega) ?_; intro A2 c2 w9 ho9 hg9)
        go_roundw
        case rel => exact ⟨m + 1, A2, c2, by omega, by go_num, rfl, hal2, ho9, app_below ho8 HP8 (Nat.le_refl _) HP8.size hg9⟩
        case measure => simp [intOf] <;> omega
    · obtain rfl : m = K := by omega
      have hr := Lib.hid (hr1.out hall.out)
      have a0 : ¬ z2 + (m : Int) ≤ z3 := by omega
      clear eK
      go_wp2_with fail
      go_ret2
      exact RetLs.mk hr.out (gsRow_len _ _ _ _ _ _ _ _) (ownsRow_le' ho HW.size) (Bl.then HW HP)
set_option maxRecDepth 100000 in
theorem sGradeSet_any (x : LastD) (ga gb gc gd ge z2 z3 : Int) (w : World) (hs : x.s.size ≤ maxLen) :
    Calls Try.prog 20 #[.agg #[.string x.s, .int .i64 x.l, .int .i64 x.b, .int .i64 x.i, .int .i64 x.h, .int .i64 x.p], .agg #[.int .i64 ga, .int .i64 gb, .int .i64 gc, .int .i64 gd, .int .i64 ge], .int .i64 z2, .int .i64 z3] w (RetLs (gsR x ga gb gc gd ge z2 z3) w) := by
  have h1L : lOk x = lastOk x.s x.l x.b x.i x.h x.p := rfl
  cases h1 : lastOk x.s x.l x.b x.i x.h x.p
  · have hr := Lib.hid (show gsR x ga gb gc gd ge z2 z3 = ([], 1) by simp [gsR, h1L, h1])
    clear h1L
    go_enter Try.func20, Try.ntmps20
    go_wp2_with fail
    refine (l04One_any _ _ _ _ _ _ _ hs).mono ?_
    rintro e w1 ⟨rfl, H1⟩
    have BX := ((Blk.new w 41 #[.string x.s, .int .i64 x.l, .int .i64 x.b, .int .i64 x.i, .int .i64 x.h, .int .i64 x.p]).alloc (.cells #[.int .i64 ga, .int .i64 gb, .int .i64 gc, .int .i64 gd, .int .i64 ge] 43)).below H1
    have BG := (Blk.new1 w _ 43 #[.int .i64 ga, .int .i64 gb, .int .i64 gc, .int .i64 gd, .int .i64 ge]).below H1
    have HW : Below w.heap.size w w1 := Bl.then (by go_grown) H1
    clear H1
    have cX0 : w1.cell? ⟨w.heap.size, 0, none⟩ = some (.string x.s) := BX.cell 0
    have cX1 : w1.cell? ⟨w.heap.size, 1, none⟩ = some (.int .i64 x.l) := BX.cell 1
    have cX2 : w1.cell? ⟨w.heap.size, 2, none⟩ = some (.int .i64 x.b) := BX.cell 2
    have cX3 : w1.cell? ⟨w.heap.size, 3, none⟩ = some (.int .i64 x.i) := BX.cell 3
    have cX4 : w1.cell? ⟨w.heap.size, 4, none⟩ = some (.int .i64 x.h) := BX.cell 4
    have cX5 : w1.cell? ⟨w.heap.size, 5, none⟩ = some (.int .i64 x.p) := BX.cell 5
    have lX := BX.lt
    have cG0 : w1.cell? ⟨w.heap.size + 1, 0, none⟩ = some (.int .i64 ga) := BG.cell 0
    have cG1 : w1.cell? ⟨w.heap.size + 1, 1, none⟩ = some (.int .i64 gb) := BG.cell 1
    have cG2 : w1.cell? ⟨w.heap.size + 1, 2, none⟩ = some (.int .i64 gc) := BG.cell 2
    have cG3 : w1.cell? ⟨w.heap.size + 1, 3, none⟩ = some (.int .i64 gd) := BG.cell 3
    have cG4 : w1.cell? ⟨w.heap.size + 1, 4, none⟩ = some (.int .i64 ge) := BG.cell 4
    have lG := BG.lt
    go_wp2_with fail
    go_ret2
    exact RetLs.nil hr.out HW
  cases h2 : gradeOk ga gb gc gd ge
  · have hr := Lib.hid (show gsR x ga gb gc gd ge z2 z3 = ([], 1) by simp [gsR, h1L, h1, h2])
    clear h1L
    go_enter Try.func20, Try.ntmps20
    go_wp2_with fail
    refine (l04One_any _ _ _ _ _ _ _ hs).mono ?_
    rintro e w1 ⟨rfl, H1⟩
    have BX := ((Blk.new w 41 #[.string x.s, .int .i64 x.l, .int .i64 x.b, .int .i64 x.i, .int .i64 x.h, .int .i64 x.p]).alloc (.cells #[.int .i64 ga, .int .i64 gb, .int .i64 gc, .int .i64 gd, .int .i64 ge] 43)).below H1
    have BG := (Blk.new1 w _ 43 #[.int .i64 ga, .int .i64 gb, .int .i64 gc, .int .i64 gd, .int .i64 ge]).below H1
    have HW : Below w.heap.size w w1 := Bl.then (by go_grown) H1
    clear H1
    have cX0 : w1.cell? ⟨w.heap.size, 0, none⟩ = some (.string x.s) := BX.cell 0
    have cX1 : w1.cell? ⟨w.heap.size, 1, none⟩ = some (.int .i64 x.l) := BX.cell 1
    have cX2 : w1.cell? ⟨w.heap.size, 2, none⟩ = some (.int .i64 x.b) := BX.cell 2
    have cX3 : w1.cell? ⟨w.heap.size, 3, none⟩ = some (.int .i64 x.i) := BX.cell 3
    have cX4 : w1.cell? ⟨w.heap.size, 4, none⟩ = some (.int .i64 x.h) := BX.cell 4
    have cX5 : w1.cell? ⟨w.heap.size, 5, none⟩ = some (.int .i64 x.p) := BX.cell 5
    have lX := BX.lt
    have cG0 : w1.cell? ⟨w.heap.size + 1, 0, none⟩ = some (.int .i64 ga) := BG.cell 0
    have cG1 : w1.cell? ⟨w.heap.size + 1, 1, none⟩ = some (.int .i64 gb) := BG.cell 1
    have cG2 : w1.cell? ⟨w.heap.size + 1, 2, none⟩ = some (.int .i64 gc) := BG.cell 2
    have cG3 : w1.cell? ⟨w.heap.size + 1, 3, none⟩ = some (.int .i64 gd) := BG.cell 3
    have cG4 : w1.cell? ⟨w.heap.size + 1, 4, none⟩ = some (.int .i64 ge) := BG.cell 4
    have lG := BG.lt
    go_wp2_with fail
    refine (l05Ok_any _ _ _ _ _ _).mono ?_
    rintro e w2 ⟨rfl, hb2⟩
    clear cX0 cX1 cX2 cX3 cX4 cX5 lX cG0 cG1 cG2 cG3 cG4 lG
    replace BX := BX.below hb2
    replace BG := BG.below hb2
    replace HW := Bl.then HW hb2
    have cX0 : w2.cell? ⟨w.heap.size, 0, none⟩ = some (.string x.s) := BX.cell 0
    have cX1 : w2.cell? ⟨w.heap.size, 1, none⟩ = some (.int .i64 x.l) := BX.cell 1
    have cX2 : w2.cell? ⟨w.heap.size, 2, none⟩ = some (.int .i64 x.b) := BX.cell 2
    have cX3 : w2.cell? ⟨w.heap.size, 3, none⟩ = some (.int .i64 x.i) := BX.cell 3
    have cX4 : w2.cell? ⟨w.heap.size, 4, none⟩ = some (.int .i64 x.h) := BX.cell 4
    have cX5 : w2.cell? ⟨w.heap.size, 5, none⟩ = some (.int .i64 x.p) := BX.cell 5
    have lX := BX.lt
    have cG0 : w2.cell? ⟨w.heap.size + 1, 0, none⟩ = some (.int .i64 ga) := BG.cell 0
    have cG1 : w2.cell? ⟨w.heap.size + 1, 1, none⟩ = some (.int .i64 gb) := BG.cell 1
    have cG2 : w2.cell? ⟨w.heap.size + 1, 2, none⟩ = some (.int .i64 gc) := BG.cell 2
    have cG3 : w2.cell? ⟨w.heap.size + 1, 3, none⟩ = some (.int .i64 gd) := BG.cell 3
    have cG4 : w2.cell? ⟨w.heap.size + 1, 4, none⟩ = some (.int .i64 ge) := BG.cell 4
    have lG := BG.lt
    go_wp2_with fail
    go_ret2
    exact RetLs.nil hr.out HW
  cases h3 : inR z2 (-30) 30
  · have hr := Lib.hid (show gsR x ga gb gc gd ge z2 z3 = ([], 2) by simp [gsR, h1L, h1, h2, h3])
    clear h1L
    go_enter Try.func20, Try.ntmps20
    go_wp2_with fail
    refine (l04One_any _ _ _ _ _ _ _ hs).mono ?_
    rintro e w1 ⟨rfl, H1⟩
    have BX := ((Blk.new w 41 #[.string x.s, .int .i64 x.l, .int .i64 x.b, .int .i64 x.i, .int .i64 x.h, .int .i64 x.p]).alloc (.cells #[.int .i64 ga, .int .i64 gb, .int .i64 gc, .int .i64 gd, .int .i64 ge] 43)).below H1
    have BG := (Blk.new1 w _ 43 #[.int .i64 ga, .int .i64 gb, .int .i64 gc, .int .i64 gd, .int .i64 ge]).below H1
    have HW : Below w.heap.size w w1 := Bl.then (by go_grown) H1
    clear H1
    have cX0 : w1.cell? ⟨w.heap.size, 0, none⟩ = some (.string x.s) := BX.cell 0
    have cX1 : w1.cell? ⟨w.heap.size, 1, none⟩ = some (.int .i64 x.l) := BX.cell 1
    have cX2 : w1.cell? ⟨w.heap.size, 2, none⟩ = some (.int .i64 x.b) := BX.cell 2
    have cX3 : w1.cell? ⟨w.heap.size, 3, none⟩ = some (.int .i64 x.i) := BX.cell 3
    have cX4 : w1.cell? ⟨w.heap.size, 4, none⟩ = some (.int .i64 x.h) := BX.cell 4
    have cX5 : w1.cell? ⟨w.heap.size, 5, none⟩ = some (.int .i64 x.p) := BX.cell 5
    have lX := BX.lt
    have cG0 : w1.cell? ⟨w.heap.size + 1, 0, none⟩ = some (.int .i64 ga) := BG.cell 0
    have cG1 : w1.cell? ⟨w.heap.size + 1, 1, none⟩ = some (.int .i64 gb) := BG.cell 1
    have cG2 : w1.cell? ⟨w.heap.size + 1, 2, none⟩ = some (.int .i64 gc) := BG.cell 2
    have cG3 : w1.cell? ⟨w.heap.size + 1, 3, none⟩ = some (.int .i64 gd) := BG.cell 3
    have cG4 : w1.cell? ⟨w.heap.size + 1, 4, none⟩ = some (.int .i64 ge) := BG.cell 4
    have lG := BG.lt
    go_wp2_with fail
    refine (l05Ok_any _ _ _ _ _ _).mono ?_
    rintro e w2 ⟨rfl, hb2⟩
    clear cX0 cX1 cX2 cX3 cX4 cX5 lX cG0 cG1 cG2 cG3 cG4 lG
    replace BX := BX.below hb2
    replace BG := BG.below hb2
    replace HW := Bl.then HW hb2
    have cX0 : w2.cell? ⟨w.heap.size, 0, none⟩ = some (.string x.s) := BX.cell 0
    have cX1 : w2.cell? ⟨w.heap.size, 1, none⟩ = some (.int .i64 x.l) := BX.cell 1
    have cX2 : w2.cell? ⟨w.heap.size, 2, none⟩ = some (.int .i64 x.b) := BX.cell 2
    have cX3 : w2.cell? ⟨w.heap.size, 3, none⟩ = some (.int .i64 x.i) := BX.cell 3
    have cX4 : w2.cell? ⟨w.heap.size, 4, none⟩ = some (.int .i64 x.h) := BX.cell 4
    have cX5 : w2.cell? ⟨w.heap.size, 5, none⟩ = some (.int .i64 x.p) := BX.cell 5
    have lX := BX.lt
    have cG0 : w2.cell? ⟨w.heap.size + 1, 0, none⟩ = some (.int .i64 ga) := BG.cell 0
    have cG1 : w2.cell? ⟨w.heap.size + 1, 1, none⟩ = some (.int .i64 gb) := BG.cell 1
    have cG2 : w2.cell? ⟨w.heap.size + 1, 2, none⟩ = some (.int .i64 gc) := BG.cell 2
    have cG3 : w2.cell? ⟨w.heap.size + 1, 3, none⟩ = some (.int .i64 gd) := BG.cell 3
    have cG4 : w2.cell? ⟨w.heap.size + 1, 4, none⟩ = some (.int .i64 ge) := BG.cell 4
    have lG := BG.lt
    go_wp2_with (first | (go_at_call 64; refine (l05Steps_any _ _).mono ?_; rintro e w9 ⟨rfl, rfl⟩) | (go_at_call 65; refine (l00In_any _ _ _ _).mono ?_; rintro e w9 ⟨rfl, rfl⟩))
    go_ret2
    exact RetLs.nil hr.out HW
  cases h4 : inR z3 z2 30
  · have hr := Lib.hid (show gsR x ga gb gc gd ge z2 z3 = ([], 2) by simp [gsR, h1L, h1, h2, h3, h4])
    clear h1L
    go_enter Try.func20, Try.ntmps20
    go_wp2_with fail
    refine (l04One_any _ _ _ _ _ _ _ hs).mono ?_
    rintro e w1 ⟨rfl, H1⟩
    have BX := ((Blk.new w 41 #[.string x.s, .int .i64 x.l, .int .i64 x.b, .int .i64 x.i, .int .i64 x.h, .int .i64 x.p]).alloc (.cells #[.int .i64 ga, .int .i64 gb, .int .i64 gc, .int .i64 gd, .int .i64 ge] 43)).below H1
    have BG := (Blk.new1 w _ 43 #[.int .i64 ga, .int .i64 gb, .int .i64 gc, .int .i64 gd, .int .i64 ge]).below H1
    have HW : Below w.heap.size w w1 := Bl.then (by go_grown) H1
    clear H1
    have cX0 : w1.cell? ⟨w.heap.size, 0, none⟩ = some (.string x.s) := BX.cell 0
    have cX1 : w1.cell? ⟨w.heap.size, 1, none⟩ = some (.int .i64 x.l) := BX.cell 1
    have cX2 : w1.cell? ⟨w.heap.size, 2, none⟩ = some (.int .i64 x.b) := BX.cell 2
    have cX3 : w1.cell? ⟨w.heap.size, 3, none⟩ = some (.int .i64 x.i) := BX.cell 3
    have cX4 : w1.cell? ⟨w.heap.size, 4, none⟩ = some (.int .i64 x.h) := BX.cell 4
    have cX5 : w1.cell? ⟨w.heap.size, 5, none⟩ = some (.int .i64 x.p) := BX.cell 5
    have lX := BX.lt
    have cG0 : w1.cell? ⟨w.heap.size + 1, 0, none⟩ = some (.int .i64 ga) := BG.cell 0
    have cG1 : w1.cell? ⟨w.heap.size + 1, 1, none⟩ = some (.int .i64 gb) := BG.cell 1
    have cG2 : w1.cell? ⟨w.heap.size + 1, 2, none⟩ = some (.int .i64 gc) := BG.cell 2
    have cG3 : w1.cell? ⟨w.heap.size + 1, 3, none⟩ = some (.int .i64 gd) := BG.cell 3
    have cG4 : w1.cell? ⟨w.heap.size + 1, 4, none⟩ = some (.int .i64 ge) := BG.cell 4
    have lG := BG.lt
    go_wp2_with fail
    refine (l05Ok_any _ _ _ _ _ _).mono ?_
    rintro e w2 ⟨rfl, hb2⟩
    clear cX0 cX1 cX2 cX3 cX4 cX5 lX cG0 cG1 cG2 cG3 cG4 lG
    replace BX := BX.below hb2
    replace BG := BG.below hb2
    replace HW := Bl.then HW hb2
    have cX0 : w2.cell? ⟨w.heap.size, 0, none⟩ = some (.string x.s) := BX.cell 0
    have cX1 : w2.cell? ⟨w.heap.size, 1, none⟩ = some (.int .i64 x.l) := BX.cell 1
    have cX2 : w2.cell? ⟨w.heap.size, 2, none⟩ = some (.int .i64 x.b) := BX.cell 2
    have cX3 : w2.cell? ⟨w.heap.size, 3, none⟩ = some (.int .i64 x.i) := BX.cell 3
    have cX4 : w2.cell? ⟨w.heap.size, 4, none⟩ = some (.int .i64 x.h) := BX.cell 4
    have cX5 : w2.cell? ⟨w.heap.size, 5, none⟩ = some (.int .i64 x.p) := BX.cell 5
    have lX := BX.lt
    have cG0 : w2.cell? ⟨w.heap.size + 1, 0, none⟩ = some (.int .i64 ga) := BG.cell 0
    have cG1 : w2.cell? ⟨w.heap.size + 1, 1, none⟩ = some (.int .i64 gb) := BG.cell 1
    have cG2 : w2.cell? ⟨w.heap.size + 1, 2, none⟩ = some (.int .i64 gc) := BG.cell 2
    have cG3 : w2.cell? ⟨w.heap.size + 1, 3, none⟩ = some (.int .i64 gd) := BG.cell 3
    have cG4 : w2.cell? ⟨w.heap.size + 1, 4, none⟩ = some (.int .i64 ge) := BG.cell 4
    have lG := BG.lt
    go_wp2_with (first | (go_at_call 64; refine (l05Steps_any _ _).mono ?_; rintro e w9 ⟨rfl, rfl⟩) | (go_at_call 65; refine (l00In_any _ _ _ _).mono ?_; rintro e w9 ⟨rfl, rfl⟩))
    go_ret2
    exact RetLs.nil hr.out HW
  have e3 := inR_true.1 h3
  have e4 := inR_true.1 h4
  obtain ⟨K, hK⟩ : ∃ K : Nat, K = (z3 - z2 + 1).toNat := ⟨_, rfl⟩
  have hr1 := Lib.hid (show gsAll x ga gb gc gd ge z2 K = true → gsR x ga gb gc gd ge z2 z3 = (gsRow x ga gb gc gd ge z2 K, 0) from fun h => by rw [hK] at h ⊢; simp [gsR, h1L, h1, h2, h3, h4, h])
  have hr5 := Lib.hid (show gsAll x ga gb gc gd ge z2 K = false → gsR x ga gb gc gd ge z2 z3 = ([], 5) from fun h => by rw [hK] at h; simp [gsR, h1L, h1, h2, h3, h4, h])
  have eK : z2 + (K : Int) = z3 + 1 := by omega
  have hK61 : K ≤ 61 := by omega
  have eKh := Lib.hid eK
  have h1h := Lib.hid h1
  have h2h := Lib.hid h2
  clear h1L hK eK
  go_enter Try.func20, Try.ntmps20
  go_wp2_with fail
  refine (l04One_any _ _ _ _ _ _ _ hs).mono ?_
  rintro e w1 ⟨rfl, H1⟩
  have BX := ((Blk.new w 41 #[.string x.s, .int .i64 x.l, .int .i64 x.b, .int .i64 x.i, .int .i64 x.h, .int .i64 x.p]).alloc (.cells #[.int .i64 ga, .int .i64 gb, .int .i64 gc, .int .i64 gd, .int .i64 ge] 43)).below H1
  have BG := (Blk.new1 w _ 43 #[.int .i64 ga, .int .i64 gb, .int .i64 gc, .int .i64 gd, .int .i64 ge]).below H1
  have HW : Below w.heap.size w w1 := Bl.then (by go_grown) H1
  clear H1
  have cX0 : w1.cell? ⟨w.heap.size, 0, none⟩ = some (.string x.s) := BX.cell 0
  have cX1 : w1.cell? ⟨w.heap.size, 1, none⟩ = some (.int .i64 x.l) := BX.cell 1
  have cX2 : w1.cell? ⟨w.heap.size, 2, none⟩ = some (.int .i64 x.b) := BX.cell 2
  have cX3 : w1.cell? ⟨w.heap.size, 3, none⟩ = some (.int .i64 x.i) := BX.cell 3
  have cX4 : w1.cell? ⟨w.heap.size, 4, none⟩ = some (.int .i64 x.h) := BX.cell 4
  have cX5 : w1.cell? ⟨w.heap.size, 5, none⟩ = some (.int .i64 x.p) := BX.cell 5
  have lX := BX.lt
  have cG0 : w1.cell? ⟨w.heap.size + 1, 0, none⟩ = some (.int .i64 ga) := BG.cell 0
  have cG1 : w1.cell? ⟨w.heap.size + 1, 1, none⟩ = some (.int .i64 gb) := BG.cell 1
  have cG2 : w1.cell? ⟨w.heap.size + 1, 2, none⟩ = some (.int .i64 gc) := BG.cell 2
  have cG3 : w1.cell? ⟨w.heap.size + 1, 3, none⟩ = some (.int .i64 gd) := BG.cell 3
  have cG4 : w1.cell? ⟨w.heap.size + 1, 4, none⟩ = some (.int .i64 ge) := BG.cell 4
  have lG := BG.lt
  go_wp2_with fail
  refine (l05Ok_any _ _ _ _ _ _).mono ?_
  rintro e w2 ⟨rfl, hb2⟩
  clear cX0 cX1 cX2 cX3 cX4 cX5 lX cG0 cG1 cG2 cG3 cG4 lG
  replace BX := BX.below hb2
  replace BG := BG.below hb2
  replace HW := Bl.then HW hb2
  have cX0 : w2.cell? ⟨w.heap.size, 0, none⟩ = some (.string x.s) := BX.cell 0
  have cX1 : w2.cell? ⟨w.heap.size, 1, none⟩ = some (.int .i64 x.l) := BX.cell 1
  have cX2 : w2.cell? ⟨w.heap.size, 2, none⟩ = some (.int .i64 x.b) := BX.cell 2
  have cX3 : w2.cell? ⟨w.heap.size, 3, none⟩ = some (.int .i64 x.i) := BX.cell 3
  have cX4 : w2.cell? ⟨w.heap.size, 4, none⟩ = some (.int .i64 x.h) := BX.cell 4
  have cX5 : w2.cell? ⟨w.heap.size, 5, none⟩ = some (.int .i64 x.p) := BX.cell 5
  have lX := BX.lt
  have cG0 : w2.cell? ⟨w.heap.size + 1, 0, none⟩ = some (.int .i64 ga) := BG.cell 0
  have cG1 : w2.cell? ⟨w.heap.size + 1, 1, none⟩ = some (.int .i64 gb) := BG.cell 1
  have cG2 : w2.cell? ⟨w.heap.size + 1, 2, none⟩ = some (.int .i64 gc) := BG.cell 2
  have cG3 : w2.cell? ⟨w.heap.size + 1, 3, none⟩ = some (.int .i64 gd) := BG.cell 3
  have cG4 : w2.cell? ⟨w.heap.size + 1, 4, none⟩ = some (.int .i64 ge) := BG.cell 4
  have lG := BG.lt
  go_wp2_with (first | (go_at_call 64; refine (l05Steps_any _ _).mono ?_; rintro e w9 ⟨rfl, rfl⟩) | (go_at_call 65; refine (l00In_any _ _ _ _).mono ?_; rintro e w9 ⟨rfl, rfl⟩))
  clear cX0 cX1 cX2 cX3 cX4 cX5 lX cG0 cG1 cG2 cG3 cG4 lG
  clear h1 h2 h3 h4
  have oo := own_lit (W := w2) (cs := #[]) (e := 41) (size := 6) (n := 0) (xs := lasts []) rfl (Nat.le_refl w2.heap.size) (by decide) rfl rfl
  have HM := Bl.alloc (Below.refl w2.heap.size w2) (.cells #[] 41)
  go_loopw [10, 11] (fun v i wr => ∃ (m : Nat) (A' : Option Addr) (c' : Nat), m ≤ K ∧ i = .int .i64 (z2 + (m : Int)) ∧ v = .slice A' m c' ∧ Hid (gsAll x ga gb gc gd ge z2 m = true) ∧ wr.ownsRow w2.heap.size 41 6 (.slice A' m c') m (lasts (gsRow x ga gb gc gd ge z2 m)) ∧ Below w2.heap.size w2 wr) (fun _ i _ => (z3 + 1 - intOf i).toNat)
  case atStart => exact ⟨0, _, _, by omega, by simp, rfl, Lib.hid rfl, oo, HM⟩
  case round =>
    clear oo HM
    obtain ⟨m, A', c', hmK, rfl, rfl, hall, ho, HP⟩ := hrel
    have eK := eKh.out
    by_cases hlm : m < K
    · have a0 : z2 + (m : Int) ≤ z3 := by omega
      have ht : -30 ≤ z2 + (m : Int) ∧ z2 + (m : Int) ≤ 30 := by omega
      have BXr := BX.below HP
      have BGr := BG.below HP
      have x0 := BXr.cell 0
      have x1 := BXr.cell 1
      have x2 := BXr.cell 2
      have x3 := BXr.cell 3
      have x4 := BXr.cell 4
      have x5 := BXr.cell 5
      have y0 := BGr.cell 0
      have y1 := BGr.cell 1
      have y2 := BGr.cell 2
      have y3 := BGr.cell 3
      have y4 := BGr.cell 4
      clear eK
      go_wp2_with fail
      refine (l05Last_any _ _ _ _ _ _ _ _ _ _ _ _ _ h1h.out h2h.out ht).mono ?_
      rintro e w7 ⟨rfl, hb7⟩
      have HP7 := Bl.then HP hb7
      have ho7 := own_below ho hb7
      clear x0 x1 x2 x3 x4 x5 y0 y1 y2 y3 y4 BXr BGr
      go_wp2_with fail
      refine (l04One_any _ _ _ _ _ _ _ hs).mono ?_
      rintro e w8 ⟨rfl, hb8⟩
      have HP8 := Bl.then (Bl.alloc HP7 _) hb8
      have ho8 := own_below (ho7.alloc _) hb8
      have B8 := (Blk.new w7 41 #[.string x.s, .int .i64 (grow1 x.l ga (z2 + (m : Int))), .int .i64 (grow1 x.b gb (z2 + (m : Int))), .int .i64 (grow1 x.i gc (z2 + (m : Int))), .int .i64 (grow1 x.h gd (z2 + (m : Int))), .int .i64 (grow1 x.p ge (z2 + (m : Int)))]).below hb8
      have k0 := B8.cell 0
      have k1 := B8.cell 1
      have k2 := B8.cell 2
      have k3 := B8.cell 3
      have k4 := B8.cell 4
      have k5 := B8.cell 5
      cases hok : lastOk x.s (grow1 x.l ga (z2 + (m : Int))) (grow1 x.b gb (z2 + (m : Int))) (grow1 x.i gc (z2 + (m : Int))) (grow1 x.h gd (z2 + (m : Int))) (grow1 x.p ge (z2 + (m : Int)))
      · have hr := Lib.hid (hr5.out (gsAll_no hlm (show lOk (gsL x ga gb gc gd ge (z2 + (m : Int))) = false from hok)))
        clear hok
        go_wp2_with fail
        go_ret2
        exact RetLs.nil hr.out (Bl.then HW HP8)
      · have hal2 := Lib.hid (show gsAll x ga gb gc gd ge z2 (m + 1) = true by simp only [gsAll, hall.out, Bool.true_and]; exact hok)
        clear hok
        go_wp2_with (at_builtin; refine wpList_app_lasts _ rfl _ _ rfl _ _ _ _ _ (gsL x ga gb gc gd ge (z2 + (m : Int))) rfl ho8 rfl HP8.size (by omega) ?_; intro A2 c2 w9 ho9 hg9)
        go_roundw
        case rel => exact ⟨m + 1, A2, c2, by omega, by go_num, rfl, hal2, ho9, app_below ho8 HP8 (Nat.le_refl _) HP8.size hg9⟩
        case measure => simp [intOf] <;> omega
    · obtain rfl : m = K := by omega
      have hr := Lib.hid (hr1.out hall.out)
      have a0 : ¬ z2 + (m : Int) ≤ z3 := by omega
      clear eK
      go_wp2_with fail
      go_ret2
      exact RetLs.mk hr.out (gsRow_len _ _ _ _ _ _ _ _) (ownsRow_le' ho HW.size) (Bl.then HW HP)
end Go.Proofs.Ytlbgognkaolamaa
