/-
  No cell of these rows narrows 'for every input' (looked for: loops, veiled, ifaces, maps, wideKeys, modest, calm, conditions, laid).
  DERIVED. THE GIVEN ROWS OF THIS SEAT. 10 by the template 'for every input the law returns true; each argument reads behind the call as it read before'; 0 by the template 'total and deterministic' (their statements: YtclfgkpllliacaaTotals.lean).
  GIVEN WITH THE SEED: the statements are not yours to turn. If you find one false, say at which input.
  Laid BY PROGRAM, IN A SANDBOX (cutbox-rows.mjs): the forced cells as the released guide's own fill.sh prints them over the translation dfc9e5992e54cfbc… (all of the seat's roots in one cut). By AI agents, Wed Nov 11 2026. No macro, syntax, notation, axiom, sorry.
-/
import Derived.Test.YtclfgkpllliacaaChecked
import GoSem.Claim
import GoSem.ClaimJoined
import GoSem.ClaimMapViews
import Derived.JoinedTies
import Derived.KernelRfl
namespace Go.Proofs.Ytclfgkpllliacaa
/- THE CELL 'sum', in the pinned program and in every row, IS THE sha256 OF THE DUMP (.gsa) THAT YtclfgkpllliacaaProg.lean LOADS. Nothing in Lean hashes anything: it is a label: what it is worth is what the hold of that sum in a sandbox is worth. -/
noncomputable def Try.pinned : Pinned := { name := "ytclfgkpllliacaa", sum := "dfc9e5992e54cfbcecf24d9158e5e4e1c425430c24370394d4f5f9396e00e83d", checked := Try.checked }
namespace Rows
def none {H : Type} : Left H := { results := [], args := [] }

/-- 'laws.FnExactConstants': WHATEVER THE INPUT: true; the input reads as it did. -/
def fnExactConstantsSpec : ChangeSpec := { name := "fnExactConstants", fn := fun _ => fun
  | [] => { results := [.lit (.bool true)], args := [] }
  | _ => none }
def fnExactConstantsRow : OpenClaim := { program := "ytclfgkpllliacaa", sum := "dfc9e5992e54cfbcecf24d9158e5e4e1c425430c24370394d4f5f9396e00e83d", func := "loop.example/g01043/laws.FnExactConstants", spec := "fnExactConstants", apart := false }
def FnExactConstantsSaid : Prop := fnExactConstantsRow.holds Try.pinned (OpenSpec.ofChange fnExactConstantsSpec)

/-- ITS FALSE NEIGHBOUR: 'it returns false'. Refute it at one input. -/
def fnExactConstantsWrong : ChangeSpec := { name := "fnExactConstants", fn := fun _ => fun
  | [] => { results := [.lit (.bool false)], args := [] }
  | _ => none }
def FnExactConstantsWrongFalsely : Prop := fnExactConstantsRow.holds Try.pinned (OpenSpec.ofChange fnExactConstantsWrong)

/-- 'laws.FnExactValidWidths': WHATEVER THE INPUT: true; the input reads as it did. -/
def fnExactValidWidthsSpec : ChangeSpec := { name := "fnExactValidWidths", fn := fun _ => fun
  | [d] => { results := [.lit (.bool true)], args := [d] }
  | _ => none }
def fnExactValidWidthsRow : OpenClaim := { program := "ytclfgkpllliacaa", sum := "dfc9e5992e54cfbcecf24d9158e5e4e1c425430c24370394d4f5f9396e00e83d", func := "loop.example/g01043/laws.FnExactValidWidths", spec := "fnExactValidWidths", apart := false }
def FnExactValidWidthsSaid : Prop := fnExactValidWidthsRow.holds Try.pinned (OpenSpec.ofChange fnExactValidWidthsSpec)

/-- ITS FALSE NEIGHBOUR: 'it returns false'. Refute it at one input. -/
def fnExactValidWidthsWrong : ChangeSpec := { name := "fnExactValidWidths", fn := fun _ => fun
  | [d] => { results := [.lit (.bool false)], args := [d] }
  | _ => none }
def FnExactValidWidthsWrongFalsely : Prop := fnExactValidWidthsRow.holds Try.pinned (OpenSpec.ofChange fnExactValidWidthsWrong)

/-- 'laws.FnExactIsName': WHATEVER THE INPUT: true; the input reads as it did. -/
def fnExactIsNameSpec : ChangeSpec := { name := "fnExactIsName", fn := fun _ => fun
  | [d] => { results := [.lit (.bool true)], args := [d] }
  | _ => none }
def fnExactIsNameRow : OpenClaim := { program := "ytclfgkpllliacaa", sum := "dfc9e5992e54cfbcecf24d9158e5e4e1c425430c24370394d4f5f9396e00e83d", func := "loop.example/g01043/laws.FnExactIsName", spec := "fnExactIsName", apart := false }
def FnExactIsNameSaid : Prop := fnExactIsNameRow.holds Try.pinned (OpenSpec.ofChange fnExactIsNameSpec)

/-- ITS FALSE NEIGHBOUR: 'it returns false'. Refute it at one input. -/
def fnExactIsNameWrong : ChangeSpec := { name := "fnExactIsName", fn := fun _ => fun
  | [d] => { results := [.lit (.bool false)], args := [d] }
  | _ => none }
def FnExactIsNameWrongFalsely : Prop := fnExactIsNameRow.holds Try.pinned (OpenSpec.ofChange fnExactIsNameWrong)

/-- 'laws.FnExactValidFoot': WHATEVER THE INPUT: true; the input reads as it did. -/
def fnExactValidFootSpec : ChangeSpec := { name := "fnExactValidFoot", fn := fun _ => fun
  | [d] => { results := [.lit (.bool true)], args := [d] }
  | _ => none }
def fnExactValidFootRow : OpenClaim := { program := "ytclfgkpllliacaa", sum := "dfc9e5992e54cfbcecf24d9158e5e4e1c425430c24370394d4f5f9396e00e83d", func := "loop.example/g01043/laws.FnExactValidFoot", spec := "fnExactValidFoot", unfollowed := true, recurses := true, apart := false }
def FnExactValidFootSaid : Prop := fnExactValidFootRow.holds Try.pinned (OpenSpec.ofChange fnExactValidFootSpec)

/-- ITS FALSE NEIGHBOUR: 'it returns false'. Refute it at one input. -/
def fnExactValidFootWrong : ChangeSpec := { name := "fnExactValidFoot", fn := fun _ => fun
  | [d] => { results := [.lit (.bool false)], args := [d] }
  | _ => none }
def FnExactValidFootWrongFalsely : Prop := fnExactValidFootRow.holds Try.pinned (OpenSpec.ofChange fnExactValidFootWrong)

/-- 'laws.FnExactScaleNamed': WHATEVER THE INPUT: true; the input reads as it did. -/
def fnExactScaleNamedSpec : ChangeSpec := { name := "fnExactScaleNamed", fn := fun _ => fun
  | [d] => { results := [.lit (.bool true)], args := [d] }
  | _ => none }
def fnExactScaleNamedRow : OpenClaim := { program := "ytclfgkpllliacaa", sum := "dfc9e5992e54cfbcecf24d9158e5e4e1c425430c24370394d4f5f9396e00e83d", func := "loop.example/g01043/laws.FnExactScaleNamed", spec := "fnExactScaleNamed", apart := false }
def FnExactScaleNamedSaid : Prop := fnExactScaleNamedRow.holds Try.pinned (OpenSpec.ofChange fnExactScaleNamedSpec)

/-- ITS FALSE NEIGHBOUR: 'it returns false'. Refute it at one input. -/
def fnExactScaleNamedWrong : ChangeSpec := { name := "fnExactScaleNamed", fn := fun _ => fun
  | [d] => { results := [.lit (.bool false)], args := [d] }
  | _ => none }
def FnExactScaleNamedWrongFalsely : Prop := fnExactScaleNamedRow.holds Try.pinned (OpenSpec.ofChange fnExactScaleNamedWrong)

/-- 'laws.FnExactGirthOf': WHATEVER THE INPUT: true; the input reads as it did. -/
def fnExactGirthOfSpec : ChangeSpec := { name := "fnExactGirthOf", fn := fun _ => fun
  | [d1, d2, d3] => { results := [.lit (.bool true)], args := [d1, d2, d3] }
  | _ => none }
def fnExactGirthOfRow : OpenClaim := { program := "ytclfgkpllliacaa", sum := "dfc9e5992e54cfbcecf24d9158e5e4e1c425430c24370394d4f5f9396e00e83d", func := "loop.example/g01043/laws.FnExactGirthOf", spec := "fnExactGirthOf", apart := false }
def FnExactGirthOfSaid : Prop := fnExactGirthOfRow.holds Try.pinned (OpenSpec.ofChange fnExactGirthOfSpec)

/-- ITS FALSE NEIGHBOUR: 'it returns false'. Refute it at one input. -/
def fnExactGirthOfWrong : ChangeSpec := { name := "fnExactGirthOf", fn := fun _ => fun
  | [d1, d2, d3] => { results := [.lit (.bool false)], args := [d1, d2, d3] }
  | _ => none }
def FnExactGirthOfWrongFalsely : Prop := fnExactGirthOfRow.holds Try.pinned (OpenSpec.ofChange fnExactGirthOfWrong)

/-- 'laws.FnExactValidGrade': WHATEVER THE INPUT: true; the input reads as it did. -/
def fnExactValidGradeSpec : ChangeSpec := { name := "fnExactValidGrade", fn := fun _ => fun
  | [d] => { results := [.lit (.bool true)], args := [d] }
  | _ => none }
def fnExactValidGradeRow : OpenClaim := { program := "ytclfgkpllliacaa", sum := "dfc9e5992e54cfbcecf24d9158e5e4e1c425430c24370394d4f5f9396e00e83d", func := "loop.example/g01043/laws.FnExactValidGrade", spec := "fnExactValidGrade", unfollowed := true, recurses := true, apart := false }
def FnExactValidGradeSaid : Prop := fnExactValidGradeRow.holds Try.pinned (OpenSpec.ofChange fnExactValidGradeSpec)

/-- ITS FALSE NEIGHBOUR: 'it returns false'. Refute it at one input. -/
def fnExactValidGradeWrong : ChangeSpec := { name := "fnExactValidGrade", fn := fun _ => fun
  | [d] => { results := [.lit (.bool false)], args := [d] }
  | _ => none }
def FnExactValidGradeWrongFalsely : Prop := fnExactValidGradeRow.holds Try.pinned (OpenSpec.ofChange fnExactValidGradeWrong)

/-- 'laws.FnExactValidLayers': WHATEVER THE INPUT: true; the input reads as it did. -/
def fnExactValidLayersSpec : ChangeSpec := { name := "fnExactValidLayers", fn := fun _ => fun
  | [d] => { results := [.lit (.bool true)], args := [d] }
  | _ => none }
def fnExactValidLayersRow : OpenClaim := { program := "ytclfgkpllliacaa", sum := "dfc9e5992e54cfbcecf24d9158e5e4e1c425430c24370394d4f5f9396e00e83d", func := "loop.example/g01043/laws.FnExactValidLayers", spec := "fnExactValidLayers", apart := false }
def FnExactValidLayersSaid : Prop := fnExactValidLayersRow.holds Try.pinned (OpenSpec.ofChange fnExactValidLayersSpec)

/-- ITS FALSE NEIGHBOUR: 'it returns false'. Refute it at one input. -/
def fnExactValidLayersWrong : ChangeSpec := { name := "fnExactValidLayers", fn := fun _ => fun
  | [d] => { results := [.lit (.bool false)], args := [d] }
  | _ => none }
def FnExactValidLayersWrongFalsely : Prop := fnExactValidLayersRow.holds Try.pinned (OpenSpec.ofChange fnExactValidLayersWrong)

/-- 'laws.FnExactValidScale': WHATEVER THE INPUT: true; the input reads as it did. -/
def fnExactValidScaleSpec : ChangeSpec := { name := "fnExactValidScale", fn := fun _ => fun
  | [d] => { results := [.lit (.bool true)], args := [d] }
  | _ => none }
def fnExactValidScaleRow : OpenClaim := { program := "ytclfgkpllliacaa", sum := "dfc9e5992e54cfbcecf24d9158e5e4e1c425430c24370394d4f5f9396e00e83d", func := "loop.example/g01043/laws.FnExactValidScale", spec := "fnExactValidScale", apart := false }
def FnExactValidScaleSaid : Prop := fnExactValidScaleRow.holds Try.pinned (OpenSpec.ofChange fnExactValidScaleSpec)

/-- ITS FALSE NEIGHBOUR: 'it returns false'. Refute it at one input. -/
def fnExactValidScaleWrong : ChangeSpec := { name := "fnExactValidScale", fn := fun _ => fun
  | [d] => { results := [.lit (.bool false)], args := [d] }
  | _ => none }
def FnExactValidScaleWrongFalsely : Prop := fnExactValidScaleRow.holds Try.pinned (OpenSpec.ofChange fnExactValidScaleWrong)

/-- 'laws.FnExactWidthFor': WHATEVER THE INPUT: true; the input reads as it did. -/
def fnExactWidthForSpec : ChangeSpec := { name := "fnExactWidthFor", fn := fun _ => fun
  | [d1, d2, d3] => { results := [.lit (.bool true)], args := [d1, d2, d3] }
  | _ => none }
def fnExactWidthForRow : OpenClaim := { program := "ytclfgkpllliacaa", sum := "dfc9e5992e54cfbcecf24d9158e5e4e1c425430c24370394d4f5f9396e00e83d", func := "loop.example/g01043/laws.FnExactWidthFor", spec := "fnExactWidthFor", apart := false }
def FnExactWidthForSaid : Prop := fnExactWidthForRow.holds Try.pinned (OpenSpec.ofChange fnExactWidthForSpec)

/-- ITS FALSE NEIGHBOUR: 'it returns false'. Refute it at one input. -/
def fnExactWidthForWrong : ChangeSpec := { name := "fnExactWidthFor", fn := fun _ => fun
  | [d1, d2, d3] => { results := [.lit (.bool false)], args := [d1, d2, d3] }
  | _ => none }
def FnExactWidthForWrongFalsely : Prop := fnExactWidthForRow.holds Try.pinned (OpenSpec.ofChange fnExactWidthForWrong)

/- THE SECOND FORM. 'bulk': how many values and letters a reading holds, each counted each time it is reached (what is shared counts as often as it is met; a slice's spare places count too). A statement '..UptoSaid' is the law's where the arguments, and the package variables that the reading takes, are together of bulk at most 1048576: NARROWER than '..Said'. Prove '..Said' where nothing that the law and all that it calls make is longer than what came in: it says more and counts as full. Else prove '..UptoSaid'. A law counts once. -/
mutual
def uptoBulk {H : Type} : DataW H → Nat
  | .lit (.string bytes) => bytes.length + 1
  | .lit _ => 1
  | .nil => 1
  | .ptr d => uptoBulk d + 1
  | .slice elems spare => uptoBulkAll elems + uptoBulkAll spare + 1
  | .agg parts => uptoBulkAll parts + 1
  | .iface _ d => uptoBulk d + 1
  | .map entries => uptoBulkEntries entries + 1
  | .held _ => 1
def uptoBulkAll {H : Type} : List (DataW H) → Nat
  | [] => 0
  | d :: r => uptoBulk d + uptoBulkAll r
def uptoBulkEntries {H : Type} : List (Lit × DataW H) → Nat
  | [] => 0
  | x :: r => uptoBulkEntry x + uptoBulkEntries r
def uptoBulkEntry {H : Type} : Lit × DataW H → Nat
  | (.string bytes, d) => bytes.length + uptoBulk d + 1
  | (_, d) => uptoBulk d + 1
 end
def uptoSmall : (H : Type) → List (DataW H) → Bool := fun _ ds => decide (uptoBulkAll ds ≤ 1048576)
def OpenSpec.upto (s : _root_.Go.ChangeSpec) : _root_.Go.OpenSpec := { _root_.Go.OpenSpec.ofChange s with cond := some uptoSmall }

/-- 'laws.FnExactConstants', WHERE WHAT IT READS IS OF BULK AT MOST 1048576: true; the input reads as it did. -/
def fnExactConstantsUptoRow : OpenClaim := { program := "ytclfgkpllliacaa", sum := "dfc9e5992e54cfbcecf24d9158e5e4e1c425430c24370394d4f5f9396e00e83d", func := "loop.example/g01043/laws.FnExactConstants", spec := "fnExactConstants", apart := false, narrowed := true }
def FnExactConstantsUptoSaid : Prop := fnExactConstantsUptoRow.holds Try.pinned (OpenSpec.upto fnExactConstantsSpec)

/-- 'laws.FnExactValidWidths', WHERE WHAT IT READS IS OF BULK AT MOST 1048576: true; the input reads as it did. -/
def fnExactValidWidthsUptoRow : OpenClaim := { program := "ytclfgkpllliacaa", sum := "dfc9e5992e54cfbcecf24d9158e5e4e1c425430c24370394d4f5f9396e00e83d", func := "loop.example/g01043/laws.FnExactValidWidths", spec := "fnExactValidWidths", apart := false, narrowed := true }
def FnExactValidWidthsUptoSaid : Prop := fnExactValidWidthsUptoRow.holds Try.pinned (OpenSpec.upto fnExactValidWidthsSpec)

/-- 'laws.FnExactIsName', WHERE WHAT IT READS IS OF BULK AT MOST 1048576: true; the input reads as it did. -/
def fnExactIsNameUptoRow : OpenClaim := { program := "ytclfgkpllliacaa", sum := "dfc9e5992e54cfbcecf24d9158e5e4e1c425430c24370394d4f5f9396e00e83d", func := "loop.example/g01043/laws.FnExactIsName", spec := "fnExactIsName", apart := false, narrowed := true }
def FnExactIsNameUptoSaid : Prop := fnExactIsNameUptoRow.holds Try.pinned (OpenSpec.upto fnExactIsNameSpec)

/-- 'laws.FnExactValidFoot', WHERE WHAT IT READS IS OF BULK AT MOST 1048576: true; the input reads as it did. -/
def fnExactValidFootUptoRow : OpenClaim := { program := "ytclfgkpllliacaa", sum := "dfc9e5992e54cfbcecf24d9158e5e4e1c425430c24370394d4f5f9396e00e83d", func := "loop.example/g01043/laws.FnExactValidFoot", spec := "fnExactValidFoot", unfollowed := true, recurses := true, apart := false, narrowed := true }
def FnExactValidFootUptoSaid : Prop := fnExactValidFootUptoRow.holds Try.pinned (OpenSpec.upto fnExactValidFootSpec)

/-- 'laws.FnExactScaleNamed', WHERE WHAT IT READS IS OF BULK AT MOST 1048576: true; the input reads as it did. -/
def fnExactScaleNamedUptoRow : OpenClaim := { program := "ytclfgkpllliacaa", sum := "dfc9e5992e54cfbcecf24d9158e5e4e1c425430c24370394d4f5f9396e00e83d", func := "loop.example/g01043/laws.FnExactScaleNamed", spec := "fnExactScaleNamed", apart := false, narrowed := true }
def FnExactScaleNamedUptoSaid : Prop := fnExactScaleNamedUptoRow.holds Try.pinned (OpenSpec.upto fnExactScaleNamedSpec)

/-- 'laws.FnExactGirthOf', WHERE WHAT IT READS IS OF BULK AT MOST 1048576: true; the input reads as it did. -/
def fnExactGirthOfUptoRow : OpenClaim := { program := "ytclfgkpllliacaa", sum := "dfc9e5992e54cfbcecf24d9158e5e4e1c425430c24370394d4f5f9396e00e83d", func := "loop.example/g01043/laws.FnExactGirthOf", spec := "fnExactGirthOf", apart := false, narrowed := true }
def FnExactGirthOfUptoSaid : Prop := fnExactGirthOfUptoRow.holds Try.pinned (OpenSpec.upto fnExactGirthOfSpec)

/-- 'laws.FnExactValidGrade', WHERE WHAT IT READS IS OF BULK AT MOST 1048576: true; the input reads as it did. -/
def fnExactValidGradeUptoRow : OpenClaim := { program := "ytclfgkpllliacaa", sum := "dfc9e5992e54cfbcecf24d9158e5e4e1c425430c24370394d4f5f9396e00e83d", func := "loop.example/g01043/laws.FnExactValidGrade", spec := "fnExactValidGrade", unfollowed := true, recurses := true, apart := false, narrowed := true }
def FnExactValidGradeUptoSaid : Prop := fnExactValidGradeUptoRow.holds Try.pinned (OpenSpec.upto fnExactValidGradeSpec)

/-- 'laws.FnExactValidLayers', WHERE WHAT IT READS IS OF BULK AT MOST 1048576: true; the input reads as it did. -/
def fnExactValidLayersUptoRow : OpenClaim := { program := "ytclfgkpllliacaa", sum := "dfc9e5992e54cfbcecf24d9158e5e4e1c425430c24370394d4f5f9396e00e83d", func := "loop.example/g01043/laws.FnExactValidLayers", spec := "fnExactValidLayers", apart := false, narrowed := true }
def FnExactValidLayersUptoSaid : Prop := fnExactValidLayersUptoRow.holds Try.pinned (OpenSpec.upto fnExactValidLayersSpec)

/-- 'laws.FnExactValidScale', WHERE WHAT IT READS IS OF BULK AT MOST 1048576: true; the input reads as it did. -/
def fnExactValidScaleUptoRow : OpenClaim := { program := "ytclfgkpllliacaa", sum := "dfc9e5992e54cfbcecf24d9158e5e4e1c425430c24370394d4f5f9396e00e83d", func := "loop.example/g01043/laws.FnExactValidScale", spec := "fnExactValidScale", apart := false, narrowed := true }
def FnExactValidScaleUptoSaid : Prop := fnExactValidScaleUptoRow.holds Try.pinned (OpenSpec.upto fnExactValidScaleSpec)

/-- 'laws.FnExactWidthFor', WHERE WHAT IT READS IS OF BULK AT MOST 1048576: true; the input reads as it did. -/
def fnExactWidthForUptoRow : OpenClaim := { program := "ytclfgkpllliacaa", sum := "dfc9e5992e54cfbcecf24d9158e5e4e1c425430c24370394d4f5f9396e00e83d", func := "loop.example/g01043/laws.FnExactWidthFor", spec := "fnExactWidthFor", apart := false, narrowed := true }
def FnExactWidthForUptoSaid : Prop := fnExactWidthForUptoRow.holds Try.pinned (OpenSpec.upto fnExactWidthForSpec)

end Rows
end Go.Proofs.Ytclfgkpllliacaa
