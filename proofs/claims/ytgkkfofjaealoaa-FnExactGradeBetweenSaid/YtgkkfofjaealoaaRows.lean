/-
  No cell of these rows narrows 'for every input' (looked for: loops, veiled, ifaces, maps, wideKeys, modest, calm, conditions, laid).
  DERIVED. THE GIVEN ROWS OF THIS SEAT. 12 by the template 'for every input the law returns true; each argument reads behind the call as it read before'; 0 by the template 'total and deterministic' (their statements: YtgkkfofjaealoaaTotals.lean).
  GIVEN WITH THE SEED: the statements are not yours to turn. If you find one false, say at which input.
  Laid BY PROGRAM, IN A SANDBOX (cutbox-rows.mjs): the forced cells as the released guide's own fill.sh prints them over the translation 9e2abf7185777629… (all of the seat's roots in one cut). By AI agents, Wed Nov 11 2026. No macro, syntax, notation, axiom, sorry.
-/
import Derived.Test.YtgkkfofjaealoaaChecked
import GoSem.Claim
import GoSem.ClaimJoined
import GoSem.ClaimMapViews
import Derived.JoinedTies
import Derived.KernelRfl
namespace Go.Proofs.Ytgkkfofjaealoaa
/- THE CELL 'sum', in the pinned program and in every row, IS THE sha256 OF THE DUMP (.gsa) THAT YtgkkfofjaealoaaProg.lean LOADS. Nothing in Lean hashes anything: it is a label: what it is worth is what the hold of that sum in a sandbox is worth. -/
noncomputable def Try.pinned : Pinned := { name := "ytgkkfofjaealoaa", sum := "9e2abf71857776299d7e3208c197761b571d8afcabc0b36e98f9cac603dab56a", checked := Try.checked }
namespace Rows
def none {H : Type} : Left H := { results := [], args := [] }

/-- 'laws.FnExactValidLasts': WHATEVER THE INPUT: true; the input reads as it did. -/
def fnExactValidLastsSpec : ChangeSpec := { name := "fnExactValidLasts", fn := fun _ => fun
  | [d] => { results := [.lit (.bool true)], args := [d] }
  | _ => none }
def fnExactValidLastsRow : OpenClaim := { program := "ytgkkfofjaealoaa", sum := "9e2abf71857776299d7e3208c197761b571d8afcabc0b36e98f9cac603dab56a", func := "loop.example/g01043/laws.FnExactValidLasts", spec := "fnExactValidLasts", unfollowed := true, recurses := true, apart := false }
def FnExactValidLastsSaid : Prop := fnExactValidLastsRow.holds Try.pinned (OpenSpec.ofChange fnExactValidLastsSpec)

/-- ITS FALSE NEIGHBOUR: 'it returns false'. Refute it at one input. -/
def fnExactValidLastsWrong : ChangeSpec := { name := "fnExactValidLasts", fn := fun _ => fun
  | [d] => { results := [.lit (.bool false)], args := [d] }
  | _ => none }
def FnExactValidLastsWrongFalsely : Prop := fnExactValidLastsRow.holds Try.pinned (OpenSpec.ofChange fnExactValidLastsWrong)

/-- 'laws.FnExactSameLasts': WHATEVER THE INPUT: true; the input reads as it did. -/
def fnExactSameLastsSpec : ChangeSpec := { name := "fnExactSameLasts", fn := fun _ => fun
  | [d1, d2] => { results := [.lit (.bool true)], args := [d1, d2] }
  | _ => none }
def fnExactSameLastsRow : OpenClaim := { program := "ytgkkfofjaealoaa", sum := "9e2abf71857776299d7e3208c197761b571d8afcabc0b36e98f9cac603dab56a", func := "loop.example/g01043/laws.FnExactSameLasts", spec := "fnExactSameLasts", apart := false }
def FnExactSameLastsSaid : Prop := fnExactSameLastsRow.holds Try.pinned (OpenSpec.ofChange fnExactSameLastsSpec)

/-- ITS FALSE NEIGHBOUR: 'it returns false'. Refute it at one input. -/
def fnExactSameLastsWrong : ChangeSpec := { name := "fnExactSameLasts", fn := fun _ => fun
  | [d1, d2] => { results := [.lit (.bool false)], args := [d1, d2] }
  | _ => none }
def FnExactSameLastsWrongFalsely : Prop := fnExactSameLastsRow.holds Try.pinned (OpenSpec.ofChange fnExactSameLastsWrong)

/-- 'laws.FnExactNeedOf': WHATEVER THE INPUT: true; the input reads as it did. -/
def fnExactNeedOfSpec : ChangeSpec := { name := "fnExactNeedOf", fn := fun _ => fun
  | [d1, d2] => { results := [.lit (.bool true)], args := [d1, d2] }
  | _ => none }
def fnExactNeedOfRow : OpenClaim := { program := "ytgkkfofjaealoaa", sum := "9e2abf71857776299d7e3208c197761b571d8afcabc0b36e98f9cac603dab56a", func := "loop.example/g01043/laws.FnExactNeedOf", spec := "fnExactNeedOf", unfollowed := true, recurses := true, apart := false }
def FnExactNeedOfSaid : Prop := fnExactNeedOfRow.holds Try.pinned (OpenSpec.ofChange fnExactNeedOfSpec)

/-- ITS FALSE NEIGHBOUR: 'it returns false'. Refute it at one input. -/
def fnExactNeedOfWrong : ChangeSpec := { name := "fnExactNeedOf", fn := fun _ => fun
  | [d1, d2] => { results := [.lit (.bool false)], args := [d1, d2] }
  | _ => none }
def FnExactNeedOfWrongFalsely : Prop := fnExactNeedOfRow.holds Try.pinned (OpenSpec.ofChange fnExactNeedOfWrong)

/-- 'laws.FnExactGradeBetween': WHATEVER THE INPUT: true; the input reads as it did. -/
def fnExactGradeBetweenSpec : ChangeSpec := { name := "fnExactGradeBetween", fn := fun _ => fun
  | [d1, d2, d3] => { results := [.lit (.bool true)], args := [d1, d2, d3] }
  | _ => none }
def fnExactGradeBetweenRow : OpenClaim := { program := "ytgkkfofjaealoaa", sum := "9e2abf71857776299d7e3208c197761b571d8afcabc0b36e98f9cac603dab56a", func := "loop.example/g01043/laws.FnExactGradeBetween", spec := "fnExactGradeBetween", unfollowed := true, recurses := true, apart := false }
def FnExactGradeBetweenSaid : Prop := fnExactGradeBetweenRow.holds Try.pinned (OpenSpec.ofChange fnExactGradeBetweenSpec)

/-- ITS FALSE NEIGHBOUR: 'it returns false'. Refute it at one input. -/
def fnExactGradeBetweenWrong : ChangeSpec := { name := "fnExactGradeBetween", fn := fun _ => fun
  | [d1, d2, d3] => { results := [.lit (.bool false)], args := [d1, d2, d3] }
  | _ => none }
def FnExactGradeBetweenWrongFalsely : Prop := fnExactGradeBetweenRow.holds Try.pinned (OpenSpec.ofChange fnExactGradeBetweenWrong)

/-- 'laws.FnExactGradeLast': WHATEVER THE INPUT: true; the input reads as it did. -/
def fnExactGradeLastSpec : ChangeSpec := { name := "fnExactGradeLast", fn := fun _ => fun
  | [d1, d2, d3] => { results := [.lit (.bool true)], args := [d1, d2, d3] }
  | _ => none }
def fnExactGradeLastRow : OpenClaim := { program := "ytgkkfofjaealoaa", sum := "9e2abf71857776299d7e3208c197761b571d8afcabc0b36e98f9cac603dab56a", func := "loop.example/g01043/laws.FnExactGradeLast", spec := "fnExactGradeLast", unfollowed := true, recurses := true, apart := false }
def FnExactGradeLastSaid : Prop := fnExactGradeLastRow.holds Try.pinned (OpenSpec.ofChange fnExactGradeLastSpec)

/-- ITS FALSE NEIGHBOUR: 'it returns false'. Refute it at one input. -/
def fnExactGradeLastWrong : ChangeSpec := { name := "fnExactGradeLast", fn := fun _ => fun
  | [d1, d2, d3] => { results := [.lit (.bool false)], args := [d1, d2, d3] }
  | _ => none }
def FnExactGradeLastWrongFalsely : Prop := fnExactGradeLastRow.holds Try.pinned (OpenSpec.ofChange fnExactGradeLastWrong)

/-- 'laws.FnExactStepsFor': WHATEVER THE INPUT: true; the input reads as it did. -/
def fnExactStepsForSpec : ChangeSpec := { name := "fnExactStepsFor", fn := fun _ => fun
  | [d1, d2, d3] => { results := [.lit (.bool true)], args := [d1, d2, d3] }
  | _ => none }
def fnExactStepsForRow : OpenClaim := { program := "ytgkkfofjaealoaa", sum := "9e2abf71857776299d7e3208c197761b571d8afcabc0b36e98f9cac603dab56a", func := "loop.example/g01043/laws.FnExactStepsFor", spec := "fnExactStepsFor", unfollowed := true, recurses := true, apart := false }
def FnExactStepsForSaid : Prop := fnExactStepsForRow.holds Try.pinned (OpenSpec.ofChange fnExactStepsForSpec)

/-- ITS FALSE NEIGHBOUR: 'it returns false'. Refute it at one input. -/
def fnExactStepsForWrong : ChangeSpec := { name := "fnExactStepsFor", fn := fun _ => fun
  | [d1, d2, d3] => { results := [.lit (.bool false)], args := [d1, d2, d3] }
  | _ => none }
def FnExactStepsForWrongFalsely : Prop := fnExactStepsForRow.holds Try.pinned (OpenSpec.ofChange fnExactStepsForWrong)

/-- 'laws.FnExactGradeSet': WHATEVER THE INPUT: true; the input reads as it did. -/
def fnExactGradeSetSpec : ChangeSpec := { name := "fnExactGradeSet", fn := fun _ => fun
  | [d1, d2, d3, d4] => { results := [.lit (.bool true)], args := [d1, d2, d3, d4] }
  | _ => none }
def fnExactGradeSetRow : OpenClaim := { program := "ytgkkfofjaealoaa", sum := "9e2abf71857776299d7e3208c197761b571d8afcabc0b36e98f9cac603dab56a", func := "loop.example/g01043/laws.FnExactGradeSet", spec := "fnExactGradeSet", unfollowed := true, recurses := true, apart := false }
def FnExactGradeSetSaid : Prop := fnExactGradeSetRow.holds Try.pinned (OpenSpec.ofChange fnExactGradeSetSpec)

/-- ITS FALSE NEIGHBOUR: 'it returns false'. Refute it at one input. -/
def fnExactGradeSetWrong : ChangeSpec := { name := "fnExactGradeSet", fn := fun _ => fun
  | [d1, d2, d3, d4] => { results := [.lit (.bool false)], args := [d1, d2, d3, d4] }
  | _ => none }
def FnExactGradeSetWrongFalsely : Prop := fnExactGradeSetRow.holds Try.pinned (OpenSpec.ofChange fnExactGradeSetWrong)

/-- 'laws.FnExactBuildLast': WHATEVER THE INPUT: true; the input reads as it did. -/
def fnExactBuildLastSpec : ChangeSpec := { name := "fnExactBuildLast", fn := fun _ => fun
  | [d1, d2, d3] => { results := [.lit (.bool true)], args := [d1, d2, d3] }
  | _ => none }
def fnExactBuildLastRow : OpenClaim := { program := "ytgkkfofjaealoaa", sum := "9e2abf71857776299d7e3208c197761b571d8afcabc0b36e98f9cac603dab56a", func := "loop.example/g01043/laws.FnExactBuildLast", spec := "fnExactBuildLast", unfollowed := true, recurses := true, apart := false }
def FnExactBuildLastSaid : Prop := fnExactBuildLastRow.holds Try.pinned (OpenSpec.ofChange fnExactBuildLastSpec)

/-- ITS FALSE NEIGHBOUR: 'it returns false'. Refute it at one input. -/
def fnExactBuildLastWrong : ChangeSpec := { name := "fnExactBuildLast", fn := fun _ => fun
  | [d1, d2, d3] => { results := [.lit (.bool false)], args := [d1, d2, d3] }
  | _ => none }
def FnExactBuildLastWrongFalsely : Prop := fnExactBuildLastRow.holds Try.pinned (OpenSpec.ofChange fnExactBuildLastWrong)

/-- 'laws.FnExactMayFit': WHATEVER THE INPUT: true; the input reads as it did. -/
def fnExactMayFitSpec : ChangeSpec := { name := "fnExactMayFit", fn := fun _ => fun
  | [d1, d2, d3] => { results := [.lit (.bool true)], args := [d1, d2, d3] }
  | _ => none }
def fnExactMayFitRow : OpenClaim := { program := "ytgkkfofjaealoaa", sum := "9e2abf71857776299d7e3208c197761b571d8afcabc0b36e98f9cac603dab56a", func := "loop.example/g01043/laws.FnExactMayFit", spec := "fnExactMayFit", unfollowed := true, recurses := true, apart := false }
def FnExactMayFitSaid : Prop := fnExactMayFitRow.holds Try.pinned (OpenSpec.ofChange fnExactMayFitSpec)

/-- ITS FALSE NEIGHBOUR: 'it returns false'. Refute it at one input. -/
def fnExactMayFitWrong : ChangeSpec := { name := "fnExactMayFit", fn := fun _ => fun
  | [d1, d2, d3] => { results := [.lit (.bool false)], args := [d1, d2, d3] }
  | _ => none }
def FnExactMayFitWrongFalsely : Prop := fnExactMayFitRow.holds Try.pinned (OpenSpec.ofChange fnExactMayFitWrong)

/-- 'laws.FnExactFitCost': WHATEVER THE INPUT: true; the input reads as it did. -/
def fnExactFitCostSpec : ChangeSpec := { name := "fnExactFitCost", fn := fun _ => fun
  | [d1, d2, d3] => { results := [.lit (.bool true)], args := [d1, d2, d3] }
  | _ => none }
def fnExactFitCostRow : OpenClaim := { program := "ytgkkfofjaealoaa", sum := "9e2abf71857776299d7e3208c197761b571d8afcabc0b36e98f9cac603dab56a", func := "loop.example/g01043/laws.FnExactFitCost", spec := "fnExactFitCost", unfollowed := true, recurses := true, apart := false }
def FnExactFitCostSaid : Prop := fnExactFitCostRow.holds Try.pinned (OpenSpec.ofChange fnExactFitCostSpec)

/-- ITS FALSE NEIGHBOUR: 'it returns false'. Refute it at one input. -/
def fnExactFitCostWrong : ChangeSpec := { name := "fnExactFitCost", fn := fun _ => fun
  | [d1, d2, d3] => { results := [.lit (.bool false)], args := [d1, d2, d3] }
  | _ => none }
def FnExactFitCostWrongFalsely : Prop := fnExactFitCostRow.holds Try.pinned (OpenSpec.ofChange fnExactFitCostWrong)

/-- 'laws.FnExactValidFit': WHATEVER THE INPUT: true; the input reads as it did. -/
def fnExactValidFitSpec : ChangeSpec := { name := "fnExactValidFit", fn := fun _ => fun
  | [d] => { results := [.lit (.bool true)], args := [d] }
  | _ => none }
def fnExactValidFitRow : OpenClaim := { program := "ytgkkfofjaealoaa", sum := "9e2abf71857776299d7e3208c197761b571d8afcabc0b36e98f9cac603dab56a", func := "loop.example/g01043/laws.FnExactValidFit", spec := "fnExactValidFit", unfollowed := true, recurses := true, apart := false }
def FnExactValidFitSaid : Prop := fnExactValidFitRow.holds Try.pinned (OpenSpec.ofChange fnExactValidFitSpec)

/-- ITS FALSE NEIGHBOUR: 'it returns false'. Refute it at one input. -/
def fnExactValidFitWrong : ChangeSpec := { name := "fnExactValidFit", fn := fun _ => fun
  | [d] => { results := [.lit (.bool false)], args := [d] }
  | _ => none }
def FnExactValidFitWrongFalsely : Prop := fnExactValidFitRow.holds Try.pinned (OpenSpec.ofChange fnExactValidFitWrong)

/-- 'laws.FnExactLastNamed': WHATEVER THE INPUT: true; the input reads as it did. -/
def fnExactLastNamedSpec : ChangeSpec := { name := "fnExactLastNamed", fn := fun _ => fun
  | [d1, d2] => { results := [.lit (.bool true)], args := [d1, d2] }
  | _ => none }
def fnExactLastNamedRow : OpenClaim := { program := "ytgkkfofjaealoaa", sum := "9e2abf71857776299d7e3208c197761b571d8afcabc0b36e98f9cac603dab56a", func := "loop.example/g01043/laws.FnExactLastNamed", spec := "fnExactLastNamed", unfollowed := true, recurses := true, apart := false }
def FnExactLastNamedSaid : Prop := fnExactLastNamedRow.holds Try.pinned (OpenSpec.ofChange fnExactLastNamedSpec)

/-- ITS FALSE NEIGHBOUR: 'it returns false'. Refute it at one input. -/
def fnExactLastNamedWrong : ChangeSpec := { name := "fnExactLastNamed", fn := fun _ => fun
  | [d1, d2] => { results := [.lit (.bool false)], args := [d1, d2] }
  | _ => none }
def FnExactLastNamedWrongFalsely : Prop := fnExactLastNamedRow.holds Try.pinned (OpenSpec.ofChange fnExactLastNamedWrong)

/- THE SECOND FORM. 'bulk': how many values and letters a reading holds, each counted each time it is reached (what is shared counts as often as it is met; a slice's spare places count too). A statement '..UptoSaid' is the law's where the arguments, and the package variables that the reading takes, are together of bulk at most 1048576: NARROWER than '..Said'. Prove '..Said' where nothing that the law and all that it calls make is longer than what came in: it says more and counts as full. Else prove '..UptoSaid'. A law counts once. -/
mutual
def uptoBulk {H : Type} : DataW H → Nat
  | .lit (.string bytes) => bytes.length + 1
  | .lit _ => 1
  | .nil => 1
  | .ptr d => uptoBulk d + 1
  | .slice elems spare => uptoBulkAll elems + uptoBulkAll spare + 1
  | .agg parts => uptoBulkAll parts + 1
  | .iface _ d => uptoBulk d + 1
  | .map entries => uptoBulkEntries entries + 1
  | .held _ => 1
def uptoBulkAll {H : Type} : List (DataW H) → Nat
  | [] => 0
  | d :: r => uptoBulk d + uptoBulkAll r
def uptoBulkEntries {H : Type} : List (Lit × DataW H) → Nat
  | [] => 0
  | x :: r => uptoBulkEntry x + uptoBulkEntries r
def uptoBulkEntry {H : Type} : Lit × DataW H → Nat
  | (.string bytes, d) => bytes.length + uptoBulk d + 1
  | (_, d) => uptoBulk d + 1
 end
def uptoSmall : (H : Type) → List (DataW H) → Bool := fun _ ds => decide (uptoBulkAll ds ≤ 1048576)
def OpenSpec.upto (s : _root_.Go.ChangeSpec) : _root_.Go.OpenSpec := { _root_.Go.OpenSpec.ofChange s with cond := some uptoSmall }

/-- 'laws.FnExactValidLasts', WHERE WHAT IT READS IS OF BULK AT MOST 1048576: true; the input reads as it did. -/
def fnExactValidLastsUptoRow : OpenClaim := { program := "ytgkkfofjaealoaa", sum := "9e2abf71857776299d7e3208c197761b571d8afcabc0b36e98f9cac603dab56a", func := "loop.example/g01043/laws.FnExactValidLasts", spec := "fnExactValidLasts", unfollowed := true, recurses := true, apart := false, narrowed := true }
def FnExactValidLastsUptoSaid : Prop := fnExactValidLastsUptoRow.holds Try.pinned (OpenSpec.upto fnExactValidLastsSpec)

/-- 'laws.FnExactSameLasts', WHERE WHAT IT READS IS OF BULK AT MOST 1048576: true; the input reads as it did. -/
def fnExactSameLastsUptoRow : OpenClaim := { program := "ytgkkfofjaealoaa", sum := "9e2abf71857776299d7e3208c197761b571d8afcabc0b36e98f9cac603dab56a", func := "loop.example/g01043/laws.FnExactSameLasts", spec := "fnExactSameLasts", apart := false, narrowed := true }
def FnExactSameLastsUptoSaid : Prop := fnExactSameLastsUptoRow.holds Try.pinned (OpenSpec.upto fnExactSameLastsSpec)

/-- 'laws.FnExactNeedOf', WHERE WHAT IT READS IS OF BULK AT MOST 1048576: true; the input reads as it did. -/
def fnExactNeedOfUptoRow : OpenClaim := { program := "ytgkkfofjaealoaa", sum := "9e2abf71857776299d7e3208c197761b571d8afcabc0b36e98f9cac603dab56a", func := "loop.example/g01043/laws.FnExactNeedOf", spec := "fnExactNeedOf", unfollowed := true, recurses := true, apart := false, narrowed := true }
def FnExactNeedOfUptoSaid : Prop := fnExactNeedOfUptoRow.holds Try.pinned (OpenSpec.upto fnExactNeedOfSpec)

/-- 'laws.FnExactGradeBetween', WHERE WHAT IT READS IS OF BULK AT MOST 1048576: true; the input reads as it did. -/
def fnExactGradeBetweenUptoRow : OpenClaim := { program := "ytgkkfofjaealoaa", sum := "9e2abf71857776299d7e3208c197761b571d8afcabc0b36e98f9cac603dab56a", func := "loop.example/g01043/laws.FnExactGradeBetween", spec := "fnExactGradeBetween", unfollowed := true, recurses := true, apart := false, narrowed := true }
def FnExactGradeBetweenUptoSaid : Prop := fnExactGradeBetweenUptoRow.holds Try.pinned (OpenSpec.upto fnExactGradeBetweenSpec)

/-- 'laws.FnExactGradeLast', WHERE WHAT IT READS IS OF BULK AT MOST 1048576: true; the input reads as it did. -/
def fnExactGradeLastUptoRow : OpenClaim := { program := "ytgkkfofjaealoaa", sum := "9e2abf71857776299d7e3208c197761b571d8afcabc0b36e98f9cac603dab56a", func := "loop.example/g01043/laws.FnExactGradeLast", spec := "fnExactGradeLast", unfollowed := true, recurses := true, apart := false, narrowed := true }
def FnExactGradeLastUptoSaid : Prop := fnExactGradeLastUptoRow.holds Try.pinned (OpenSpec.upto fnExactGradeLastSpec)

/-- 'laws.FnExactStepsFor', WHERE WHAT IT READS IS OF BULK AT MOST 1048576: true; the input reads as it did. -/
def fnExactStepsForUptoRow : OpenClaim := { program := "ytgkkfofjaealoaa", sum := "9e2abf71857776299d7e3208c197761b571d8afcabc0b36e98f9cac603dab56a", func := "loop.example/g01043/laws.FnExactStepsFor", spec := "fnExactStepsFor", unfollowed := true, recurses := true, apart := false, narrowed := true }
def FnExactStepsForUptoSaid : Prop := fnExactStepsForUptoRow.holds Try.pinned (OpenSpec.upto fnExactStepsForSpec)

/-- 'laws.FnExactGradeSet', WHERE WHAT IT READS IS OF BULK AT MOST 1048576: true; the input reads as it did. -/
def fnExactGradeSetUptoRow : OpenClaim := { program := "ytgkkfofjaealoaa", sum := "9e2abf71857776299d7e3208c197761b571d8afcabc0b36e98f9cac603dab56a", func := "loop.example/g01043/laws.FnExactGradeSet", spec := "fnExactGradeSet", unfollowed := true, recurses := true, apart := false, narrowed := true }
def FnExactGradeSetUptoSaid : Prop := fnExactGradeSetUptoRow.holds Try.pinned (OpenSpec.upto fnExactGradeSetSpec)

/-- 'laws.FnExactBuildLast', WHERE WHAT IT READS IS OF BULK AT MOST 1048576: true; the input reads as it did. -/
def fnExactBuildLastUptoRow : OpenClaim := { program := "ytgkkfofjaealoaa", sum := "9e2abf71857776299d7e3208c197761b571d8afcabc0b36e98f9cac603dab56a", func := "loop.example/g01043/laws.FnExactBuildLast", spec := "fnExactBuildLast", unfollowed := true, recurses := true, apart := false, narrowed := true }
def FnExactBuildLastUptoSaid : Prop := fnExactBuildLastUptoRow.holds Try.pinned (OpenSpec.upto fnExactBuildLastSpec)

/-- 'laws.FnExactMayFit', WHERE WHAT IT READS IS OF BULK AT MOST 1048576: true; the input reads as it did. -/
def fnExactMayFitUptoRow : OpenClaim := { program := "ytgkkfofjaealoaa", sum := "9e2abf71857776299d7e3208c197761b571d8afcabc0b36e98f9cac603dab56a", func := "loop.example/g01043/laws.FnExactMayFit", spec := "fnExactMayFit", unfollowed := true, recurses := true, apart := false, narrowed := true }
def FnExactMayFitUptoSaid : Prop := fnExactMayFitUptoRow.holds Try.pinned (OpenSpec.upto fnExactMayFitSpec)

/-- 'laws.FnExactFitCost', WHERE WHAT IT READS IS OF BULK AT MOST 1048576: true; the input reads as it did. -/
def fnExactFitCostUptoRow : OpenClaim := { program := "ytgkkfofjaealoaa", sum := "9e2abf71857776299d7e3208c197761b571d8afcabc0b36e98f9cac603dab56a", func := "loop.example/g01043/laws.FnExactFitCost", spec := "fnExactFitCost", unfollowed := true, recurses := true, apart := false, narrowed := true }
def FnExactFitCostUptoSaid : Prop := fnExactFitCostUptoRow.holds Try.pinned (OpenSpec.upto fnExactFitCostSpec)

/-- 'laws.FnExactValidFit', WHERE WHAT IT READS IS OF BULK AT MOST 1048576: true; the input reads as it did. -/
def fnExactValidFitUptoRow : OpenClaim := { program := "ytgkkfofjaealoaa", sum := "9e2abf71857776299d7e3208c197761b571d8afcabc0b36e98f9cac603dab56a", func := "loop.example/g01043/laws.FnExactValidFit", spec := "fnExactValidFit", unfollowed := true, recurses := true, apart := false, narrowed := true }
def FnExactValidFitUptoSaid : Prop := fnExactValidFitUptoRow.holds Try.pinned (OpenSpec.upto fnExactValidFitSpec)

/-- 'laws.FnExactLastNamed', WHERE WHAT IT READS IS OF BULK AT MOST 1048576: true; the input reads as it did. -/
def fnExactLastNamedUptoRow : OpenClaim := { program := "ytgkkfofjaealoaa", sum := "9e2abf71857776299d7e3208c197761b571d8afcabc0b36e98f9cac603dab56a", func := "loop.example/g01043/laws.FnExactLastNamed", spec := "fnExactLastNamed", unfollowed := true, recurses := true, apart := false, narrowed := true }
def FnExactLastNamedUptoSaid : Prop := fnExactLastNamedUptoRow.holds Try.pinned (OpenSpec.upto fnExactLastNamedSpec)

end Rows
end Go.Proofs.Ytgkkfofjaealoaa
