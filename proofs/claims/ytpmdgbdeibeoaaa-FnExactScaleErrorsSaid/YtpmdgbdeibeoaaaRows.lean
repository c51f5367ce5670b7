/-
  No cell of these rows narrows 'for every input' (looked for: loops, veiled, ifaces, maps, wideKeys, modest, calm, conditions, laid).
  DERIVED. THE GIVEN ROWS OF THIS SEAT. 12 by the template 'for every input the law returns true; each argument reads behind the call as it read before'; 0 by the template 'total and deterministic' (their statements: YtpmdgbdeibeoaaaTotals.lean).
  GIVEN WITH THE SEED: the statements are not yours to turn. If you find one false, say at which input.
  Laid BY PROGRAM, IN A SANDBOX (cutbox-rows.mjs): the forced cells as the released guide's own fill.sh prints them over the translation 6567ca46ff27c119… (all of the seat's roots in one cut). By AI agents, Wed Nov 11 2026. No macro, syntax, notation, axiom, sorry.
-/
import Derived.Test.YtpmdgbdeibeoaaaChecked
import GoSem.Claim
import GoSem.ClaimJoined
import GoSem.ClaimMapViews
import Derived.JoinedTies
import Derived.KernelRfl
namespace Go.Proofs.Ytpmdgbdeibeoaaa
/- THE CELL 'sum', in the pinned program and in every row, IS THE sha256 OF THE DUMP (.gsa) THAT YtpmdgbdeibeoaaaProg.lean LOADS. Nothing in Lean hashes anything: it is a label: what it is worth is what the hold of that sum in a sandbox is worth. -/
noncomputable def Try.pinned : Pinned := { name := "ytpmdgbdeibeoaaa", sum := "6567ca46ff27c119bee8cacf5816e08460c8b05b428a10e22ff19498847d1b34", checked := Try.checked }
namespace Rows
def none {H : Type} : Left H := { results := [], args := [] }

/-- 'laws.FnExactHalfFor': WHATEVER THE INPUT: true; the input reads as it did. -/
def fnExactHalfForSpec : ChangeSpec := { name := "fnExactHalfFor", fn := fun _ => fun
  | [d1, d2] => { results := [.lit (.bool true)], args := [d1, d2] }
  | _ => none }
def fnExactHalfForRow : OpenClaim := { program := "ytpmdgbdeibeoaaa", sum := "6567ca46ff27c119bee8cacf5816e08460c8b05b428a10e22ff19498847d1b34", func := "loop.example/g01043/laws.FnExactHalfFor", spec := "fnExactHalfFor", apart := false }
def FnExactHalfForSaid : Prop := fnExactHalfForRow.holds Try.pinned (OpenSpec.ofChange fnExactHalfForSpec)

/-- ITS FALSE NEIGHBOUR: 'it returns false'. Refute it at one input. -/
def fnExactHalfForWrong : ChangeSpec := { name := "fnExactHalfFor", fn := fun _ => fun
  | [d1, d2] => { results := [.lit (.bool false)], args := [d1, d2] }
  | _ => none }
def FnExactHalfForWrongFalsely : Prop := fnExactHalfForRow.holds Try.pinned (OpenSpec.ofChange fnExactHalfForWrong)

/-- 'laws.FnExactConvertHalf': WHATEVER THE INPUT: true; the input reads as it did. -/
def fnExactConvertHalfSpec : ChangeSpec := { name := "fnExactConvertHalf", fn := fun _ => fun
  | [d1, d2, d3] => { results := [.lit (.bool true)], args := [d1, d2, d3] }
  | _ => none }
def fnExactConvertHalfRow : OpenClaim := { program := "ytpmdgbdeibeoaaa", sum := "6567ca46ff27c119bee8cacf5816e08460c8b05b428a10e22ff19498847d1b34", func := "loop.example/g01043/laws.FnExactConvertHalf", spec := "fnExactConvertHalf", apart := false }
def FnExactConvertHalfSaid : Prop := fnExactConvertHalfRow.holds Try.pinned (OpenSpec.ofChange fnExactConvertHalfSpec)

/-- ITS FALSE NEIGHBOUR: 'it returns false'. Refute it at one input. -/
def fnExactConvertHalfWrong : ChangeSpec := { name := "fnExactConvertHalf", fn := fun _ => fun
  | [d1, d2, d3] => { results := [.lit (.bool false)], args := [d1, d2, d3] }
  | _ => none }
def FnExactConvertHalfWrongFalsely : Prop := fnExactConvertHalfRow.holds Try.pinned (OpenSpec.ofChange fnExactConvertHalfWrong)

/-- 'laws.FnExactNearestHalf': WHATEVER THE INPUT: true; the input reads as it did. -/
def fnExactNearestHalfSpec : ChangeSpec := { name := "fnExactNearestHalf", fn := fun _ => fun
  | [d1, d2] => { results := [.lit (.bool true)], args := [d1, d2] }
  | _ => none }
def fnExactNearestHalfRow : OpenClaim := { program := "ytpmdgbdeibeoaaa", sum := "6567ca46ff27c119bee8cacf5816e08460c8b05b428a10e22ff19498847d1b34", func := "loop.example/g01043/laws.FnExactNearestHalf", spec := "fnExactNearestHalf", apart := false }
def FnExactNearestHalfSaid : Prop := fnExactNearestHalfRow.holds Try.pinned (OpenSpec.ofChange fnExactNearestHalfSpec)

/-- ITS FALSE NEIGHBOUR: 'it returns false'. Refute it at one input. -/
def fnExactNearestHalfWrong : ChangeSpec := { name := "fnExactNearestHalf", fn := fun _ => fun
  | [d1, d2] => { results := [.lit (.bool false)], args := [d1, d2] }
  | _ => none }
def FnExactNearestHalfWrongFalsely : Prop := fnExactNearestHalfRow.holds Try.pinned (OpenSpec.ofChange fnExactNearestHalfWrong)

/-- 'laws.FnExactLengthOfHalf': WHATEVER THE INPUT: true; the input reads as it did. -/
def fnExactLengthOfHalfSpec : ChangeSpec := { name := "fnExactLengthOfHalf", fn := fun _ => fun
  | [d1, d2] => { results := [.lit (.bool true)], args := [d1, d2] }
  | _ => none }
def fnExactLengthOfHalfRow : OpenClaim := { program := "ytpmdgbdeibeoaaa", sum := "6567ca46ff27c119bee8cacf5816e08460c8b05b428a10e22ff19498847d1b34", func := "loop.example/g01043/laws.FnExactLengthOfHalf", spec := "fnExactLengthOfHalf", apart := false }
def FnExactLengthOfHalfSaid : Prop := fnExactLengthOfHalfRow.holds Try.pinned (OpenSpec.ofChange fnExactLengthOfHalfSpec)

/-- ITS FALSE NEIGHBOUR: 'it returns false'. Refute it at one input. -/
def fnExactLengthOfHalfWrong : ChangeSpec := { name := "fnExactLengthOfHalf", fn := fun _ => fun
  | [d1, d2] => { results := [.lit (.bool false)], args := [d1, d2] }
  | _ => none }
def FnExactLengthOfHalfWrongFalsely : Prop := fnExactLengthOfHalfRow.holds Try.pinned (OpenSpec.ofChange fnExactLengthOfHalfWrong)

/-- 'laws.FnExactLostSizes': WHATEVER THE INPUT: true; the input reads as it did. -/
def fnExactLostSizesSpec : ChangeSpec := { name := "fnExactLostSizes", fn := fun _ => fun
  | [d1, d2, d3, d4] => { results := [.lit (.bool true)], args := [d1, d2, d3, d4] }
  | _ => none }
def fnExactLostSizesRow : OpenClaim := { program := "ytpmdgbdeibeoaaa", sum := "6567ca46ff27c119bee8cacf5816e08460c8b05b428a10e22ff19498847d1b34", func := "loop.example/g01043/laws.FnExactLostSizes", spec := "fnExactLostSizes", apart := false }
def FnExactLostSizesSaid : Prop := fnExactLostSizesRow.holds Try.pinned (OpenSpec.ofChange fnExactLostSizesSpec)

/-- ITS FALSE NEIGHBOUR: 'it returns false'. Refute it at one input. -/
def fnExactLostSizesWrong : ChangeSpec := { name := "fnExactLostSizes", fn := fun _ => fun
  | [d1, d2, d3, d4] => { results := [.lit (.bool false)], args := [d1, d2, d3, d4] }
  | _ => none }
def FnExactLostSizesWrongFalsely : Prop := fnExactLostSizesRow.holds Try.pinned (OpenSpec.ofChange fnExactLostSizesWrong)

/-- 'laws.FnExactScaleLengths': WHATEVER THE INPUT: true; the input reads as it did. -/
def fnExactScaleLengthsSpec : ChangeSpec := { name := "fnExactScaleLengths", fn := fun _ => fun
  | [d1, d2, d3] => { results := [.lit (.bool true)], args := [d1, d2, d3] }
  | _ => none }
def fnExactScaleLengthsRow : OpenClaim := { program := "ytpmdgbdeibeoaaa", sum := "6567ca46ff27c119bee8cacf5816e08460c8b05b428a10e22ff19498847d1b34", func := "loop.example/g01043/laws.FnExactScaleLengths", spec := "fnExactScaleLengths", unfollowed := true, recurses := true, apart := false }
def FnExactScaleLengthsSaid : Prop := fnExactScaleLengthsRow.holds Try.pinned (OpenSpec.ofChange fnExactScaleLengthsSpec)

/-- ITS FALSE NEIGHBOUR: 'it returns false'. Refute it at one input. -/
def fnExactScaleLengthsWrong : ChangeSpec := { name := "fnExactScaleLengths", fn := fun _ => fun
  | [d1, d2, d3] => { results := [.lit (.bool false)], args := [d1, d2, d3] }
  | _ => none }
def FnExactScaleLengthsWrongFalsely : Prop := fnExactScaleLengthsRow.holds Try.pinned (OpenSpec.ofChange fnExactScaleLengthsWrong)

/-- 'laws.FnExactGradeLengths': WHATEVER THE INPUT: true; the input reads as it did. -/
def fnExactGradeLengthsSpec : ChangeSpec := { name := "fnExactGradeLengths", fn := fun _ => fun
  | [d1, d2] => { results := [.lit (.bool true)], args := [d1, d2] }
  | _ => none }
def fnExactGradeLengthsRow : OpenClaim := { program := "ytpmdgbdeibeoaaa", sum := "6567ca46ff27c119bee8cacf5816e08460c8b05b428a10e22ff19498847d1b34", func := "loop.example/g01043/laws.FnExactGradeLengths", spec := "fnExactGradeLengths", unfollowed := true, recurses := true, apart := false }
def FnExactGradeLengthsSaid : Prop := fnExactGradeLengthsRow.holds Try.pinned (OpenSpec.ofChange fnExactGradeLengthsSpec)

/-- ITS FALSE NEIGHBOUR: 'it returns false'. Refute it at one input. -/
def fnExactGradeLengthsWrong : ChangeSpec := { name := "fnExactGradeLengths", fn := fun _ => fun
  | [d1, d2] => { results := [.lit (.bool false)], args := [d1, d2] }
  | _ => none }
def FnExactGradeLengthsWrongFalsely : Prop := fnExactGradeLengthsRow.holds Try.pinned (OpenSpec.ofChange fnExactGradeLengthsWrong)

/-- 'laws.FnExactGradeSeam': WHATEVER THE INPUT: true; the input reads as it did. -/
def fnExactGradeSeamSpec : ChangeSpec := { name := "fnExactGradeSeam", fn := fun _ => fun
  | [d1, d2, d3] => { results := [.lit (.bool true)], args := [d1, d2, d3] }
  | _ => none }
def fnExactGradeSeamRow : OpenClaim := { program := "ytpmdgbdeibeoaaa", sum := "6567ca46ff27c119bee8cacf5816e08460c8b05b428a10e22ff19498847d1b34", func := "loop.example/g01043/laws.FnExactGradeSeam", spec := "fnExactGradeSeam", unfollowed := true, recurses := true, apart := false }
def FnExactGradeSeamSaid : Prop := fnExactGradeSeamRow.holds Try.pinned (OpenSpec.ofChange fnExactGradeSeamSpec)

/-- ITS FALSE NEIGHBOUR: 'it returns false'. Refute it at one input. -/
def fnExactGradeSeamWrong : ChangeSpec := { name := "fnExactGradeSeam", fn := fun _ => fun
  | [d1, d2, d3] => { results := [.lit (.bool false)], args := [d1, d2, d3] }
  | _ => none }
def FnExactGradeSeamWrongFalsely : Prop := fnExactGradeSeamRow.holds Try.pinned (OpenSpec.ofChange fnExactGradeSeamWrong)

/-- 'laws.FnExactScaleErrors': WHATEVER THE INPUT: true; the input reads as it did. -/
def fnExactScaleErrorsSpec : ChangeSpec := { name := "fnExactScaleErrors", fn := fun _ => fun
  | [d1, d2, d3] => { results := [.lit (.bool true)], args := [d1, d2, d3] }
  | _ => none }
def fnExactScaleErrorsRow : OpenClaim := { program := "ytpmdgbdeibeoaaa", sum := "6567ca46ff27c119bee8cacf5816e08460c8b05b428a10e22ff19498847d1b34", func := "loop.example/g01043/laws.FnExactScaleErrors", spec := "fnExactScaleErrors", unfollowed := true, recurses := true, apart := false }
def FnExactScaleErrorsSaid : Prop := fnExactScaleErrorsRow.holds Try.pinned (OpenSpec.ofChange fnExactScaleErrorsSpec)

/-- ITS FALSE NEIGHBOUR: 'it returns false'. Refute it at one input. -/
def fnExactScaleErrorsWrong : ChangeSpec := { name := "fnExactScaleErrors", fn := fun _ => fun
  | [d1, d2, d3] => { results := [.lit (.bool false)], args := [d1, d2, d3] }
  | _ => none }
def FnExactScaleErrorsWrongFalsely : Prop := fnExactScaleErrorsRow.holds Try.pinned (OpenSpec.ofChange fnExactScaleErrorsWrong)

/-- 'laws.FnExactCountBuilds': WHATEVER THE INPUT: true; the input reads as it did. -/
def fnExactCountBuildsSpec : ChangeSpec := { name := "fnExactCountBuilds", fn := fun _ => fun
  | [d1, d2] => { results := [.lit (.bool true)], args := [d1, d2] }
  | _ => none }
def fnExactCountBuildsRow : OpenClaim := { program := "ytpmdgbdeibeoaaa", sum := "6567ca46ff27c119bee8cacf5816e08460c8b05b428a10e22ff19498847d1b34", func := "loop.example/g01043/laws.FnExactCountBuilds", spec := "fnExactCountBuilds", apart := false }
def FnExactCountBuildsSaid : Prop := fnExactCountBuildsRow.holds Try.pinned (OpenSpec.ofChange fnExactCountBuildsSpec)

/-- ITS FALSE NEIGHBOUR: 'it returns false'. Refute it at one input. -/
def fnExactCountBuildsWrong : ChangeSpec := { name := "fnExactCountBuilds", fn := fun _ => fun
  | [d1, d2] => { results := [.lit (.bool false)], args := [d1, d2] }
  | _ => none }
def FnExactCountBuildsWrongFalsely : Prop := fnExactCountBuildsRow.holds Try.pinned (OpenSpec.ofChange fnExactCountBuildsWrong)

/-- 'laws.FnExactUnreachedSums': WHATEVER THE INPUT: true; the input reads as it did. -/
def fnExactUnreachedSumsSpec : ChangeSpec := { name := "fnExactUnreachedSums", fn := fun _ => fun
  | [d1, d2] => { results := [.lit (.bool true)], args := [d1, d2] }
  | _ => none }
def fnExactUnreachedSumsRow : OpenClaim := { program := "ytpmdgbdeibeoaaa", sum := "6567ca46ff27c119bee8cacf5816e08460c8b05b428a10e22ff19498847d1b34", func := "loop.example/g01043/laws.FnExactUnreachedSums", spec := "fnExactUnreachedSums", apart := false }
def FnExactUnreachedSumsSaid : Prop := fnExactUnreachedSumsRow.holds Try.pinned (OpenSpec.ofChange fnExactUnreachedSumsSpec)

/-- ITS FALSE NEIGHBOUR: 'it returns false'. Refute it at one input. -/
def fnExactUnreachedSumsWrong : ChangeSpec := { name := "fnExactUnreachedSums", fn := fun _ => fun
  | [d1, d2] => { results := [.lit (.bool false)], args := [d1, d2] }
  | _ => none }
def FnExactUnreachedSumsWrongFalsely : Prop := fnExactUnreachedSumsRow.holds Try.pinned (OpenSpec.ofChange fnExactUnreachedSumsWrong)

/-- 'laws.FnExactCheapestBuild': WHATEVER THE INPUT: true; the input reads as it did. -/
def fnExactCheapestBuildSpec : ChangeSpec := { name := "fnExactCheapestBuild", fn := fun _ => fun
  | [d1, d2, d3] => { results := [.lit (.bool true)], args := [d1, d2, d3] }
  | _ => none }
def fnExactCheapestBuildRow : OpenClaim := { program := "ytpmdgbdeibeoaaa", sum := "6567ca46ff27c119bee8cacf5816e08460c8b05b428a10e22ff19498847d1b34", func := "loop.example/g01043/laws.FnExactCheapestBuild", spec := "fnExactCheapestBuild", unfollowed := true, recurses := true, apart := false }
def FnExactCheapestBuildSaid : Prop := fnExactCheapestBuildRow.holds Try.pinned (OpenSpec.ofChange fnExactCheapestBuildSpec)

/-- ITS FALSE NEIGHBOUR: 'it returns false'. Refute it at one input. -/
def fnExactCheapestBuildWrong : ChangeSpec := { name := "fnExactCheapestBuild", fn := fun _ => fun
  | [d1, d2, d3] => { results := [.lit (.bool false)], args := [d1, d2, d3] }
  | _ => none }
def FnExactCheapestBuildWrongFalsely : Prop := fnExactCheapestBuildRow.holds Try.pinned (OpenSpec.ofChange fnExactCheapestBuildWrong)

/- THE SECOND FORM. 'bulk': how many values and letters a reading holds, each counted each time it is reached (what is shared counts as often as it is met; a slice's spare places count too). A statement '..UptoSaid' is the law's where the arguments, and the package variables that the reading takes, are together of bulk at most 1048576: NARROWER than '..Said'. Prove '..Said' where nothing that the law and all that it calls make is longer than what came in: it says more and counts as full. Else prove '..UptoSaid'. A law counts once. -/
mutual
def uptoBulk {H : Type} : DataW H → Nat
  | .lit (.string bytes) => bytes.length + 1
  | .lit _ => 1
  | .nil => 1
  | .ptr d => uptoBulk d + 1
  | .slice elems spare => uptoBulkAll elems + uptoBulkAll spare + 1
  | .agg parts => uptoBulkAll parts + 1
  | .iface _ d => uptoBulk d + 1
  | .map entries => uptoBulkEntries entries + 1
  | .held _ => 1
def uptoBulkAll {H : Type} : List (DataW H) → Nat
  | [] => 0
  | d :: r => uptoBulk d + uptoBulkAll r
def uptoBulkEntries {H : Type} : List (Lit × DataW H) → Nat
  | [] => 0
  | x :: r => uptoBulkEntry x + uptoBulkEntries r
def uptoBulkEntry {H : Type} : Lit × DataW H → Nat
  | (.string bytes, d) => bytes.length + uptoBulk d + 1
  | (_, d) => uptoBulk d + 1
 end
def uptoSmall : (H : Type) → List (DataW H) → Bool := fun _ ds => decide (uptoBulkAll ds ≤ 1048576)
def OpenSpec.upto (s : _root_.Go.ChangeSpec) : _root_.Go.OpenSpec := { _root_.Go.OpenSpec.ofChange s with cond := some uptoSmall }

/-- 'laws.FnExactHalfFor', WHERE WHAT IT READS IS OF BULK AT MOST 1048576: true; the input reads as it did. -/
def fnExactHalfForUptoRow : OpenClaim := { program := "ytpmdgbdeibeoaaa", sum := "6567ca46ff27c119bee8cacf5816e08460c8b05b428a10e22ff19498847d1b34", func := "loop.example/g01043/laws.FnExactHalfFor", spec := "fnExactHalfFor", apart := false, narrowed := true }
def FnExactHalfForUptoSaid : Prop := fnExactHalfForUptoRow.holds Try.pinned (OpenSpec.upto fnExactHalfForSpec)

/-- 'laws.FnExactConvertHalf', WHERE WHAT IT READS IS OF BULK AT MOST 1048576: true; the input reads as it did. -/
def fnExactConvertHalfUptoRow : OpenClaim := { program := "ytpmdgbdeibeoaaa", sum := "6567ca46ff27c119bee8cacf5816e08460c8b05b428a10e22ff19498847d1b34", func := "loop.example/g01043/laws.FnExactConvertHalf", spec := "fnExactConvertHalf", apart := false, narrowed := true }
def FnExactConvertHalfUptoSaid : Prop := fnExactConvertHalfUptoRow.holds Try.pinned (OpenSpec.upto fnExactConvertHalfSpec)

/-- 'laws.FnExactNearestHalf', WHERE WHAT IT READS IS OF BULK AT MOST 1048576: true; the input reads as it did. -/
def fnExactNearestHalfUptoRow : OpenClaim := { program := "ytpmdgbdeibeoaaa", sum := "6567ca46ff27c119bee8cacf5816e08460c8b05b428a10e22ff19498847d1b34", func := "loop.example/g01043/laws.FnExactNearestHalf", spec := "fnExactNearestHalf", apart := false, narrowed := true }
def FnExactNearestHalfUptoSaid : Prop := fnExactNearestHalfUptoRow.holds Try.pinned (OpenSpec.upto fnExactNearestHalfSpec)

/-- 'laws.FnExactLengthOfHalf', WHERE WHAT IT READS IS OF BULK AT MOST 1048576: true; the input reads as it did. -/
def fnExactLengthOfHalfUptoRow : OpenClaim := { program := "ytpmdgbdeibeoaaa", sum := "6567ca46ff27c119bee8cacf5816e08460c8b05b428a10e22ff19498847d1b34", func := "loop.example/g01043/laws.FnExactLengthOfHalf", spec := "fnExactLengthOfHalf", apart := false, narrowed := true }
def FnExactLengthOfHalfUptoSaid : Prop := fnExactLengthOfHalfUptoRow.holds Try.pinned (OpenSpec.upto fnExactLengthOfHalfSpec)

/-- 'laws.FnExactLostSizes', WHERE WHAT IT READS IS OF BULK AT MOST 1048576: true; the input reads as it did. -/
def fnExactLostSizesUptoRow : OpenClaim := { program := "ytpmdgbdeibeoaaa", sum := "6567ca46ff27c119bee8cacf5816e08460c8b05b428a10e22ff19498847d1b34", func := "loop.example/g01043/laws.FnExactLostSizes", spec := "fnExactLostSizes", apart := false, narrowed := true }
def FnExactLostSizesUptoSaid : Prop := fnExactLostSizesUptoRow.holds Try.pinned (OpenSpec.upto fnExactLostSizesSpec)

/-- 'laws.FnExactScaleLengths', WHERE WHAT IT READS IS OF BULK AT MOST 1048576: true; the input reads as it did. -/
def fnExactScaleLengthsUptoRow : OpenClaim := { program := "ytpmdgbdeibeoaaa", sum := "6567ca46ff27c119bee8cacf5816e08460c8b05b428a10e22ff19498847d1b34", func := "loop.example/g01043/laws.FnExactScaleLengths", spec := "fnExactScaleLengths", unfollowed := true, recurses := true, apart := false, narrowed := true }
def FnExactScaleLengthsUptoSaid : Prop := fnExactScaleLengthsUptoRow.holds Try.pinned (OpenSpec.upto fnExactScaleLengthsSpec)

/-- 'laws.FnExactGradeLengths', WHERE WHAT IT READS IS OF BULK AT MOST 1048576: true; the input reads as it did. -/
def fnExactGradeLengthsUptoRow : OpenClaim := { program := "ytpmdgbdeibeoaaa", sum := "6567ca46ff27c119bee8cacf5816e08460c8b05b428a10e22ff19498847d1b34", func := "loop.example/g01043/laws.FnExactGradeLengths", spec := "fnExactGradeLengths", unfollowed := true, recurses := true, apart := false, narrowed := true }
def FnExactGradeLengthsUptoSaid : Prop := fnExactGradeLengthsUptoRow.holds Try.pinned (OpenSpec.upto fnExactGradeLengthsSpec)

/-- 'laws.FnExactGradeSeam', WHERE WHAT IT READS IS OF BULK AT MOST 1048576: true; the input reads as it did. -/
def fnExactGradeSeamUptoRow : OpenClaim := { program := "ytpmdgbdeibeoaaa", sum := "6567ca46ff27c119bee8cacf5816e08460c8b05b428a10e22ff19498847d1b34", func := "loop.example/g01043/laws.FnExactGradeSeam", spec := "fnExactGradeSeam", unfollowed := true, recurses := true, apart := false, narrowed := true }
def FnExactGradeSeamUptoSaid : Prop := fnExactGradeSeamUptoRow.holds Try.pinned (OpenSpec.upto fnExactGradeSeamSpec)

/-- 'laws.FnExactScaleErrors', WHERE WHAT IT READS IS OF BULK AT MOST 1048576: true; the input reads as it did. -/
def fnExactScaleErrorsUptoRow : OpenClaim := { program := "ytpmdgbdeibeoaaa", sum := "6567ca46ff27c119bee8cacf5816e08460c8b05b428a10e22ff19498847d1b34", func := "loop.example/g01043/laws.FnExactScaleErrors", spec := "fnExactScaleErrors", unfollowed := true, recurses := true, apart := false, narrowed := true }
def FnExactScaleErrorsUptoSaid : Prop := fnExactScaleErrorsUptoRow.holds Try.pinned (OpenSpec.upto fnExactScaleErrorsSpec)

/-- 'laws.FnExactCountBuilds', WHERE WHAT IT READS IS OF BULK AT MOST 1048576: true; the input reads as it did. -/
def fnExactCountBuildsUptoRow : OpenClaim := { program := "ytpmdgbdeibeoaaa", sum := "6567ca46ff27c119bee8cacf5816e08460c8b05b428a10e22ff19498847d1b34", func := "loop.example/g01043/laws.FnExactCountBuilds", spec := "fnExactCountBuilds", apart := false, narrowed := true }
def FnExactCountBuildsUptoSaid : Prop := fnExactCountBuildsUptoRow.holds Try.pinned (OpenSpec.upto fnExactCountBuildsSpec)

/-- 'laws.FnExactUnreachedSums', WHERE WHAT IT READS IS OF BULK AT MOST 1048576: true; the input reads as it did. -/
def fnExactUnreachedSumsUptoRow : OpenClaim := { program := "ytpmdgbdeibeoaaa", sum := "6567ca46ff27c119bee8cacf5816e08460c8b05b428a10e22ff19498847d1b34", func := "loop.example/g01043/laws.FnExactUnreachedSums", spec := "fnExactUnreachedSums", apart := false, narrowed := true }
def FnExactUnreachedSumsUptoSaid : Prop := fnExactUnreachedSumsUptoRow.holds Try.pinned (OpenSpec.upto fnExactUnreachedSumsSpec)

/-- 'laws.FnExactCheapestBuild', WHERE WHAT IT READS IS OF BULK AT MOST 1048576: true; the input reads as it did. -/
def fnExactCheapestBuildUptoRow : OpenClaim := { program := "ytpmdgbdeibeoaaa", sum := "6567ca46ff27c119bee8cacf5816e08460c8b05b428a10e22ff19498847d1b34", func := "loop.example/g01043/laws.FnExactCheapestBuild", spec := "fnExactCheapestBuild", unfollowed := true, recurses := true, apart := false, narrowed := true }
def FnExactCheapestBuildUptoSaid : Prop := fnExactCheapestBuildUptoRow.holds Try.pinned (OpenSpec.upto fnExactCheapestBuildSpec)

end Rows
end Go.Proofs.Ytpmdgbdeibeoaaa
