/-
  No cell of these rows narrows 'for every input' (looked for: loops, veiled, ifaces, maps, wideKeys, modest, calm, conditions, laid).
  DERIVED. THE GIVEN ROWS OF THIS SEAT. 9 by the template 'for every input the law returns true; each argument reads behind the call as it read before'; 0 by the template 'total and deterministic' (their statements: YtlmjchmbbmiocaaTotals.lean).
  GIVEN WITH THE SEED: the statements are not yours to turn. If you find one false, say at which input.
  Laid BY PROGRAM, IN A SANDBOX (cutbox-rows.mjs): the forced cells as the released guide's own fill.sh prints them over the translation c4d11afabb677bf0… (all of the seat's roots in one cut). By AI agents, Wed Nov 11 2026. No macro, syntax, notation, axiom, sorry.
-/
import Derived.Test.YtlmjchmbbmiocaaChecked
import GoSem.Claim
import GoSem.ClaimJoined
import GoSem.ClaimMapViews
import Derived.JoinedTies
import Derived.KernelRfl
namespace Go.Proofs.Ytlmjchmbbmiocaa
/- THE CELL 'sum', in the pinned program and in every row, IS THE sha256 OF THE DUMP (.gsa) THAT YtlmjchmbbmiocaaProg.lean LOADS. Nothing in Lean hashes anything: it is a label: what it is worth is what the hold of that sum in a sandbox is worth. -/
noncomputable def Try.pinned : Pinned := { name := "ytlmjchmbbmiocaa", sum := "c4d11afabb677bf06f14137ae2c913f5645b5fd767a1df1cf51f48d81bf87d4b", checked := Try.checked }
namespace Rows
def none {H : Type} : Left H := { results := [], args := [] }

/-- 'laws.FnExactValidFeet': WHATEVER THE INPUT: true; the input reads as it did. -/
def fnExactValidFeetSpec : ChangeSpec := { name := "fnExactValidFeet", fn := fun _ => fun
  | [d] => { results := [.lit (.bool true)], args := [d] }
  | _ => none }
def fnExactValidFeetRow : OpenClaim := { program := "ytlmjchmbbmiocaa", sum := "c4d11afabb677bf06f14137ae2c913f5645b5fd767a1df1cf51f48d81bf87d4b", func := "loop.example/g01043/laws.FnExactValidFeet", spec := "fnExactValidFeet", unfollowed := true, recurses := true, apart := false }
def FnExactValidFeetSaid : Prop := fnExactValidFeetRow.holds Try.pinned (OpenSpec.ofChange fnExactValidFeetSpec)

/-- ITS FALSE NEIGHBOUR: 'it returns false'. Refute it at one input. -/
def fnExactValidFeetWrong : ChangeSpec := { name := "fnExactValidFeet", fn := fun _ => fun
  | [d] => { results := [.lit (.bool false)], args := [d] }
  | _ => none }
def FnExactValidFeetWrongFalsely : Prop := fnExactValidFeetRow.holds Try.pinned (OpenSpec.ofChange fnExactValidFeetWrong)

/-- 'laws.FnExactDifferenceOf': WHATEVER THE INPUT: true; the input reads as it did. -/
def fnExactDifferenceOfSpec : ChangeSpec := { name := "fnExactDifferenceOf", fn := fun _ => fun
  | [d1, d2] => { results := [.lit (.bool true)], args := [d1, d2] }
  | _ => none }
def fnExactDifferenceOfRow : OpenClaim := { program := "ytlmjchmbbmiocaa", sum := "c4d11afabb677bf06f14137ae2c913f5645b5fd767a1df1cf51f48d81bf87d4b", func := "loop.example/g01043/laws.FnExactDifferenceOf", spec := "fnExactDifferenceOf", unfollowed := true, recurses := true, apart := false }
def FnExactDifferenceOfSaid : Prop := fnExactDifferenceOfRow.holds Try.pinned (OpenSpec.ofChange fnExactDifferenceOfSpec)

/-- ITS FALSE NEIGHBOUR: 'it returns false'. Refute it at one input. -/
def fnExactDifferenceOfWrong : ChangeSpec := { name := "fnExactDifferenceOf", fn := fun _ => fun
  | [d1, d2] => { results := [.lit (.bool false)], args := [d1, d2] }
  | _ => none }
def FnExactDifferenceOfWrongFalsely : Prop := fnExactDifferenceOfRow.holds Try.pinned (OpenSpec.ofChange fnExactDifferenceOfWrong)

/-- 'laws.FnExactGrowthOf': WHATEVER THE INPUT: true; the input reads as it did. -/
def fnExactGrowthOfSpec : ChangeSpec := { name := "fnExactGrowthOf", fn := fun _ => fun
  | [d1, d2] => { results := [.lit (.bool true)], args := [d1, d2] }
  | _ => none }
def fnExactGrowthOfRow : OpenClaim := { program := "ytlmjchmbbmiocaa", sum := "c4d11afabb677bf06f14137ae2c913f5645b5fd767a1df1cf51f48d81bf87d4b", func := "loop.example/g01043/laws.FnExactGrowthOf", spec := "fnExactGrowthOf", unfollowed := true, recurses := true, apart := false }
def FnExactGrowthOfSaid : Prop := fnExactGrowthOfRow.holds Try.pinned (OpenSpec.ofChange fnExactGrowthOfSpec)

/-- ITS FALSE NEIGHBOUR: 'it returns false'. Refute it at one input. -/
def fnExactGrowthOfWrong : ChangeSpec := { name := "fnExactGrowthOf", fn := fun _ => fun
  | [d1, d2] => { results := [.lit (.bool false)], args := [d1, d2] }
  | _ => none }
def FnExactGrowthOfWrongFalsely : Prop := fnExactGrowthOfRow.holds Try.pinned (OpenSpec.ofChange fnExactGrowthOfWrong)

/-- 'laws.FnExactLengthOn': WHATEVER THE INPUT: true; the input reads as it did. -/
def fnExactLengthOnSpec : ChangeSpec := { name := "fnExactLengthOn", fn := fun _ => fun
  | [d1, d2, d3] => { results := [.lit (.bool true)], args := [d1, d2, d3] }
  | _ => none }
def fnExactLengthOnRow : OpenClaim := { program := "ytlmjchmbbmiocaa", sum := "c4d11afabb677bf06f14137ae2c913f5645b5fd767a1df1cf51f48d81bf87d4b", func := "loop.example/g01043/laws.FnExactLengthOn", spec := "fnExactLengthOn", unfollowed := true, recurses := true, apart := false }
def FnExactLengthOnSaid : Prop := fnExactLengthOnRow.holds Try.pinned (OpenSpec.ofChange fnExactLengthOnSpec)

/-- ITS FALSE NEIGHBOUR: 'it returns false'. Refute it at one input. -/
def fnExactLengthOnWrong : ChangeSpec := { name := "fnExactLengthOn", fn := fun _ => fun
  | [d1, d2, d3] => { results := [.lit (.bool false)], args := [d1, d2, d3] }
  | _ => none }
def FnExactLengthOnWrongFalsely : Prop := fnExactLengthOnRow.holds Try.pinned (OpenSpec.ofChange fnExactLengthOnWrong)

/-- 'laws.FnExactLargerFoot': WHATEVER THE INPUT: true; the input reads as it did. -/
def fnExactLargerFootSpec : ChangeSpec := { name := "fnExactLargerFoot", fn := fun _ => fun
  | [d1, d2] => { results := [.lit (.bool true)], args := [d1, d2] }
  | _ => none }
def fnExactLargerFootRow : OpenClaim := { program := "ytlmjchmbbmiocaa", sum := "c4d11afabb677bf06f14137ae2c913f5645b5fd767a1df1cf51f48d81bf87d4b", func := "loop.example/g01043/laws.FnExactLargerFoot", spec := "fnExactLargerFoot", unfollowed := true, recurses := true, apart := false }
def FnExactLargerFootSaid : Prop := fnExactLargerFootRow.holds Try.pinned (OpenSpec.ofChange fnExactLargerFootSpec)

/-- ITS FALSE NEIGHBOUR: 'it returns false'. Refute it at one input. -/
def fnExactLargerFootWrong : ChangeSpec := { name := "fnExactLargerFoot", fn := fun _ => fun
  | [d1, d2] => { results := [.lit (.bool false)], args := [d1, d2] }
  | _ => none }
def FnExactLargerFootWrongFalsely : Prop := fnExactLargerFootRow.holds Try.pinned (OpenSpec.ofChange fnExactLargerFootWrong)

/-- 'laws.FnExactMiddleFoot': WHATEVER THE INPUT: true; the input reads as it did. -/
def fnExactMiddleFootSpec : ChangeSpec := { name := "fnExactMiddleFoot", fn := fun _ => fun
  | [d] => { results := [.lit (.bool true)], args := [d] }
  | _ => none }
def fnExactMiddleFootRow : OpenClaim := { program := "ytlmjchmbbmiocaa", sum := "c4d11afabb677bf06f14137ae2c913f5645b5fd767a1df1cf51f48d81bf87d4b", func := "loop.example/g01043/laws.FnExactMiddleFoot", spec := "fnExactMiddleFoot", unfollowed := true, recurses := true, apart := false }
def FnExactMiddleFootSaid : Prop := fnExactMiddleFootRow.holds Try.pinned (OpenSpec.ofChange fnExactMiddleFootSpec)

/-- ITS FALSE NEIGHBOUR: 'it returns false'. Refute it at one input. -/
def fnExactMiddleFootWrong : ChangeSpec := { name := "fnExactMiddleFoot", fn := fun _ => fun
  | [d] => { results := [.lit (.bool false)], args := [d] }
  | _ => none }
def FnExactMiddleFootWrongFalsely : Prop := fnExactMiddleFootRow.holds Try.pinned (OpenSpec.ofChange fnExactMiddleFootWrong)

/-- 'laws.FnExactSpreadOf': WHATEVER THE INPUT: true; the input reads as it did. -/
def fnExactSpreadOfSpec : ChangeSpec := { name := "fnExactSpreadOf", fn := fun _ => fun
  | [d] => { results := [.lit (.bool true)], args := [d] }
  | _ => none }
def fnExactSpreadOfRow : OpenClaim := { program := "ytlmjchmbbmiocaa", sum := "c4d11afabb677bf06f14137ae2c913f5645b5fd767a1df1cf51f48d81bf87d4b", func := "loop.example/g01043/laws.FnExactSpreadOf", spec := "fnExactSpreadOf", unfollowed := true, recurses := true, apart := false }
def FnExactSpreadOfSaid : Prop := fnExactSpreadOfRow.holds Try.pinned (OpenSpec.ofChange fnExactSpreadOfSpec)

/-- ITS FALSE NEIGHBOUR: 'it returns false'. Refute it at one input. -/
def fnExactSpreadOfWrong : ChangeSpec := { name := "fnExactSpreadOf", fn := fun _ => fun
  | [d] => { results := [.lit (.bool false)], args := [d] }
  | _ => none }
def FnExactSpreadOfWrongFalsely : Prop := fnExactSpreadOfRow.holds Try.pinned (OpenSpec.ofChange fnExactSpreadOfWrong)

/-- 'laws.FnExactJoinFeet': WHATEVER THE INPUT: true; the input reads as it did. -/
def fnExactJoinFeetSpec : ChangeSpec := { name := "fnExactJoinFeet", fn := fun _ => fun
  | [d1, d2] => { results := [.lit (.bool true)], args := [d1, d2] }
  | _ => none }
def fnExactJoinFeetRow : OpenClaim := { program := "ytlmjchmbbmiocaa", sum := "c4d11afabb677bf06f14137ae2c913f5645b5fd767a1df1cf51f48d81bf87d4b", func := "loop.example/g01043/laws.FnExactJoinFeet", spec := "fnExactJoinFeet", unfollowed := true, recurses := true, apart := false }
def FnExactJoinFeetSaid : Prop := fnExactJoinFeetRow.holds Try.pinned (OpenSpec.ofChange fnExactJoinFeetSpec)

/-- ITS FALSE NEIGHBOUR: 'it returns false'. Refute it at one input. -/
def fnExactJoinFeetWrong : ChangeSpec := { name := "fnExactJoinFeet", fn := fun _ => fun
  | [d1, d2] => { results := [.lit (.bool false)], args := [d1, d2] }
  | _ => none }
def FnExactJoinFeetWrongFalsely : Prop := fnExactJoinFeetRow.holds Try.pinned (OpenSpec.ofChange fnExactJoinFeetWrong)

/-- 'laws.FnExactFarFeet': WHATEVER THE INPUT: true; the input reads as it did. -/
def fnExactFarFeetSpec : ChangeSpec := { name := "fnExactFarFeet", fn := fun _ => fun
  | [d1, d2] => { results := [.lit (.bool true)], args := [d1, d2] }
  | _ => none }
def fnExactFarFeetRow : OpenClaim := { program := "ytlmjchmbbmiocaa", sum := "c4d11afabb677bf06f14137ae2c913f5645b5fd767a1df1cf51f48d81bf87d4b", func := "loop.example/g01043/laws.FnExactFarFeet", spec := "fnExactFarFeet", unfollowed := true, recurses := true, apart := false }
def FnExactFarFeetSaid : Prop := fnExactFarFeetRow.holds Try.pinned (OpenSpec.ofChange fnExactFarFeetSpec)

/-- ITS FALSE NEIGHBOUR: 'it returns false'. Refute it at one input. -/
def fnExactFarFeetWrong : ChangeSpec := { name := "fnExactFarFeet", fn := fun _ => fun
  | [d1, d2] => { results := [.lit (.bool false)], args := [d1, d2] }
  | _ => none }
def FnExactFarFeetWrongFalsely : Prop := fnExactFarFeetRow.holds Try.pinned (OpenSpec.ofChange fnExactFarFeetWrong)

/- THE SECOND FORM. 'bulk': how many values and letters a reading holds, each counted each time it is reached (what is shared counts as often as it is met; a slice's spare places count too). A statement '..UptoSaid' is the law's where the arguments, and the package variables that the reading takes, are together of bulk at most 1048576: NARROWER than '..Said'. Prove '..Said' where nothing that the law and all that it calls make is longer than what came in: it says more and counts as full. Else prove '..UptoSaid'. A law counts once. -/
mutual
def uptoBulk {H : Type} : DataW H → Nat
  | .lit (.string bytes) => bytes.length + 1
  | .lit _ => 1
  | .nil => 1
  | .ptr d => uptoBulk d + 1
  | .slice elems spare => uptoBulkAll elems + uptoBulkAll spare + 1
  | .agg parts => uptoBulkAll parts + 1
  | .iface _ d => uptoBulk d + 1
  | .map entries => uptoBulkEntries entries + 1
  | .held _ => 1
def uptoBulkAll {H : Type} : List (DataW H) → Nat
  | [] => 0
  | d :: r => uptoBulk d + uptoBulkAll r
def uptoBulkEntries {H : Type} : List (Lit × DataW H) → Nat
  | [] => 0
  | x :: r => uptoBulkEntry x + uptoBulkEntries r
def uptoBulkEntry {H : Type} : Lit × DataW H → Nat
  | (.string bytes, d) => bytes.length + uptoBulk d + 1
  | (_, d) => uptoBulk d + 1
 end
def uptoSmall : (H : Type) → List (DataW H) → Bool := fun _ ds => decide (uptoBulkAll ds ≤ 1048576)
def OpenSpec.upto (s : _root_.Go.ChangeSpec) : _root_.Go.OpenSpec := { _root_.Go.OpenSpec.ofChange s with cond := some uptoSmall }

/-- 'laws.FnExactValidFeet', WHERE WHAT IT READS IS OF BULK AT MOST 1048576: true; the input reads as it did. -/
def fnExactValidFeetUptoRow : OpenClaim := { program := "ytlmjchmbbmiocaa", sum := "c4d11afabb677bf06f14137ae2c913f5645b5fd767a1df1cf51f48d81bf87d4b", func := "loop.example/g01043/laws.FnExactValidFeet", spec := "fnExactValidFeet", unfollowed := true, recurses := true, apart := false, narrowed := true }
def FnExactValidFeetUptoSaid : Prop := fnExactValidFeetUptoRow.holds Try.pinned (OpenSpec.upto fnExactValidFeetSpec)

/-- 'laws.FnExactDifferenceOf', WHERE WHAT IT READS IS OF BULK AT MOST 1048576: true; the input reads as it did. -/
def fnExactDifferenceOfUptoRow : OpenClaim := { program := "ytlmjchmbbmiocaa", sum := "c4d11afabb677bf06f14137ae2c913f5645b5fd767a1df1cf51f48d81bf87d4b", func := "loop.example/g01043/laws.FnExactDifferenceOf", spec := "fnExactDifferenceOf", unfollowed := true, recurses := true, apart := false, narrowed := true }
def FnExactDifferenceOfUptoSaid : Prop := fnExactDifferenceOfUptoRow.holds Try.pinned (OpenSpec.upto fnExactDifferenceOfSpec)

/-- 'laws.FnExactGrowthOf', WHERE WHAT IT READS IS OF BULK AT MOST 1048576: true; the input reads as it did. -/
def fnExactGrowthOfUptoRow : OpenClaim := { program := "ytlmjchmbbmiocaa", sum := "c4d11afabb677bf06f14137ae2c913f5645b5fd767a1df1cf51f48d81bf87d4b", func := "loop.example/g01043/laws.FnExactGrowthOf", spec := "fnExactGrowthOf", unfollowed := true, recurses := true, apart := false, narrowed := true }
def FnExactGrowthOfUptoSaid : Prop := fnExactGrowthOfUptoRow.holds Try.pinned (OpenSpec.upto fnExactGrowthOfSpec)

/-- 'laws.FnExactLengthOn', WHERE WHAT IT READS IS OF BULK AT MOST 1048576: true; the input reads as it did. -/
def fnExactLengthOnUptoRow : OpenClaim := { program := "ytlmjchmbbmiocaa", sum := "c4d11afabb677bf06f14137ae2c913f5645b5fd767a1df1cf51f48d81bf87d4b", func := "loop.example/g01043/laws.FnExactLengthOn", spec := "fnExactLengthOn", unfollowed := true, recurses := true, apart := false, narrowed := true }
def FnExactLengthOnUptoSaid : Prop := fnExactLengthOnUptoRow.holds Try.pinned (OpenSpec.upto fnExactLengthOnSpec)

/-- 'laws.FnExactLargerFoot', WHERE WHAT IT READS IS OF BULK AT MOST 1048576: true; the input reads as it did. -/
def fnExactLargerFootUptoRow : OpenClaim := { program := "ytlmjchmbbmiocaa", sum := "c4d11afabb677bf06f14137ae2c913f5645b5fd767a1df1cf51f48d81bf87d4b", func := "loop.example/g01043/laws.FnExactLargerFoot", spec := "fnExactLargerFoot", unfollowed := true, recurses := true, apart := false, narrowed := true }
def FnExactLargerFootUptoSaid : Prop := fnExactLargerFootUptoRow.holds Try.pinned (OpenSpec.upto fnExactLargerFootSpec)

/-- 'laws.FnExactMiddleFoot', WHERE WHAT IT READS IS OF BULK AT MOST 1048576: true; the input reads as it did. -/
def fnExactMiddleFootUptoRow : OpenClaim := { program := "ytlmjchmbbmiocaa", sum := "c4d11afabb677bf06f14137ae2c913f5645b5fd767a1df1cf51f48d81bf87d4b", func := "loop.example/g01043/laws.FnExactMiddleFoot", spec := "fnExactMiddleFoot", unfollowed := true, recurses := true, apart := false, narrowed := true }
def FnExactMiddleFootUptoSaid : Prop := fnExactMiddleFootUptoRow.holds Try.pinned (OpenSpec.upto fnExactMiddleFootSpec)

/-- 'laws.FnExactSpreadOf', WHERE WHAT IT READS IS OF BULK AT MOST 1048576: true; the input reads as it did. -/
def fnExactSpreadOfUptoRow : OpenClaim := { program := "ytlmjchmbbmiocaa", sum := "c4d11afabb677bf06f14137ae2c913f5645b5fd767a1df1cf51f48d81bf87d4b", func := "loop.example/g01043/laws.FnExactSpreadOf", spec := "fnExactSpreadOf", unfollowed := true, recurses := true, apart := false, narrowed := true }
def FnExactSpreadOfUptoSaid : Prop := fnExactSpreadOfUptoRow.holds Try.pinned (OpenSpec.upto fnExactSpreadOfSpec)

/-- 'laws.FnExactJoinFeet', WHERE WHAT IT READS IS OF BULK AT MOST 1048576: true; the input reads as it did. -/
def fnExactJoinFeetUptoRow : OpenClaim := { program := "ytlmjchmbbmiocaa", sum := "c4d11afabb677bf06f14137ae2c913f5645b5fd767a1df1cf51f48d81bf87d4b", func := "loop.example/g01043/laws.FnExactJoinFeet", spec := "fnExactJoinFeet", unfollowed := true, recurses := true, apart := false, narrowed := true }
def FnExactJoinFeetUptoSaid : Prop := fnExactJoinFeetUptoRow.holds Try.pinned (OpenSpec.upto fnExactJoinFeetSpec)

/-- 'laws.FnExactFarFeet', WHERE WHAT IT READS IS OF BULK AT MOST 1048576: true; the input reads as it did. -/
def fnExactFarFeetUptoRow : OpenClaim := { program := "ytlmjchmbbmiocaa", sum := "c4d11afabb677bf06f14137ae2c913f5645b5fd767a1df1cf51f48d81bf87d4b", func := "loop.example/g01043/laws.FnExactFarFeet", spec := "fnExactFarFeet", unfollowed := true, recurses := true, apart := false, narrowed := true }
def FnExactFarFeetUptoSaid : Prop := fnExactFarFeetUptoRow.holds Try.pinned (OpenSpec.upto fnExactFarFeetSpec)

end Rows
end Go.Proofs.Ytlmjchmbbmiocaa
