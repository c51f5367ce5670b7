/-
  No cell of these rows narrows 'for every input' (looked for: loops, veiled, ifaces, maps, wideKeys, modest, calm, conditions, laid).
  DERIVED. THE GIVEN ROWS OF THIS SEAT. 4 by the template 'for every input the law returns true; each argument reads behind the call as it read before'; 0 by the template 'total and deterministic' (their statements: YtgaahmcbfognhaaTotals.lean).
  GIVEN WITH THE SEED: the statements are not yours to turn. If you find one false, say at which input.
  Laid BY PROGRAM, IN A SANDBOX (cutbox-rows.mjs): the forced cells as the released guide's own fill.sh prints them over the translation a756d46697189dd6… (all of the seat's roots in one cut). By AI agents, Wed Nov 11 2026. No macro, syntax, notation, axiom, sorry.
-/
import Derived.Test.YtgaahmcbfognhaaChecked
import GoSem.Claim
import GoSem.ClaimJoined
import GoSem.ClaimMapViews
import Derived.JoinedTies
import Derived.KernelRfl
namespace Go.Proofs.Ytgaahmcbfognhaa
/- THE CELL 'sum', in the pinned program and in every row, IS THE sha256 OF THE DUMP (.gsa) THAT YtgaahmcbfognhaaProg.lean LOADS. Nothing in Lean hashes anything: it is a label: what it is worth is what the hold of that sum in a sandbox is worth. -/
noncomputable def Try.pinned : Pinned := { name := "ytgaahmcbfognhaa", sum := "a756d46697189dd6b3a5abbc8aee58c765f6f32920644c74779414c32ea4d306", checked := Try.checked }
namespace Rows
def none {H : Type} : Left H := { results := [], args := [] }

/-- 'laws.FnExactCountBuilds': WHATEVER THE INPUT: true; the input reads as it did. -/
def fnExactCountBuildsSpec : ChangeSpec := { name := "fnExactCountBuilds", fn := fun _ => fun
  | [d1, d2] => { results := [.lit (.bool true)], args := [d1, d2] }
  | _ => none }
def fnExactCountBuildsRow : OpenClaim := { program := "ytgaahmcbfognhaa", sum := "a756d46697189dd6b3a5abbc8aee58c765f6f32920644c74779414c32ea4d306", func := "loop.example/g01043/laws.FnExactCountBuilds", spec := "fnExactCountBuilds", apart := false }
def FnExactCountBuildsSaid : Prop := fnExactCountBuildsRow.holds Try.pinned (OpenSpec.ofChange fnExactCountBuildsSpec)

/-- ITS FALSE NEIGHBOUR: 'it returns false'. Refute it at one input. -/
def fnExactCountBuildsWrong : ChangeSpec := { name := "fnExactCountBuilds", fn := fun _ => fun
  | [d1, d2] => { results := [.lit (.bool false)], args := [d1, d2] }
  | _ => none }
def FnExactCountBuildsWrongFalsely : Prop := fnExactCountBuildsRow.holds Try.pinned (OpenSpec.ofChange fnExactCountBuildsWrong)

/-- 'laws.FnExactUnreachedSums': WHATEVER THE INPUT: true; the input reads as it did. -/
def fnExactUnreachedSumsSpec : ChangeSpec := { name := "fnExactUnreachedSums", fn := fun _ => fun
  | [d1, d2] => { results := [.lit (.bool true)], args := [d1, d2] }
  | _ => none }
def fnExactUnreachedSumsRow : OpenClaim := { program := "ytgaahmcbfognhaa", sum := "a756d46697189dd6b3a5abbc8aee58c765f6f32920644c74779414c32ea4d306", func := "loop.example/g01043/laws.FnExactUnreachedSums", spec := "fnExactUnreachedSums", apart := false }
def FnExactUnreachedSumsSaid : Prop := fnExactUnreachedSumsRow.holds Try.pinned (OpenSpec.ofChange fnExactUnreachedSumsSpec)

/-- ITS FALSE NEIGHBOUR: 'it returns false'. Refute it at one input. -/
def fnExactUnreachedSumsWrong : ChangeSpec := { name := "fnExactUnreachedSums", fn := fun _ => fun
  | [d1, d2] => { results := [.lit (.bool false)], args := [d1, d2] }
  | _ => none }
def FnExactUnreachedSumsWrongFalsely : Prop := fnExactUnreachedSumsRow.holds Try.pinned (OpenSpec.ofChange fnExactUnreachedSumsWrong)

/-- 'laws.FnExactCheapestBuild': WHATEVER THE INPUT: true; the input reads as it did. -/
def fnExactCheapestBuildSpec : ChangeSpec := { name := "fnExactCheapestBuild", fn := fun _ => fun
  | [d1, d2, d3] => { results := [.lit (.bool true)], args := [d1, d2, d3] }
  | _ => none }
def fnExactCheapestBuildRow : OpenClaim := { program := "ytgaahmcbfognhaa", sum := "a756d46697189dd6b3a5abbc8aee58c765f6f32920644c74779414c32ea4d306", func := "loop.example/g01043/laws.FnExactCheapestBuild", spec := "fnExactCheapestBuild", unfollowed := true, recurses := true, apart := false }
def FnExactCheapestBuildSaid : Prop := fnExactCheapestBuildRow.holds Try.pinned (OpenSpec.ofChange fnExactCheapestBuildSpec)

/-- ITS FALSE NEIGHBOUR: 'it returns false'. Refute it at one input. -/
def fnExactCheapestBuildWrong : ChangeSpec := { name := "fnExactCheapestBuild", fn := fun _ => fun
  | [d1, d2, d3] => { results := [.lit (.bool false)], args := [d1, d2, d3] }
  | _ => none }
def FnExactCheapestBuildWrongFalsely : Prop := fnExactCheapestBuildRow.holds Try.pinned (OpenSpec.ofChange fnExactCheapestBuildWrong)

/-- 'laws.FnExactFewestLayers': WHATEVER THE INPUT: true; the input reads as it did. -/
def fnExactFewestLayersSpec : ChangeSpec := { name := "fnExactFewestLayers", fn := fun _ => fun
  | [d1, d2] => { results := [.lit (.bool true)], args := [d1, d2] }
  | _ => none }
def fnExactFewestLayersRow : OpenClaim := { program := "ytgaahmcbfognhaa", sum := "a756d46697189dd6b3a5abbc8aee58c765f6f32920644c74779414c32ea4d306", func := "loop.example/g01043/laws.FnExactFewestLayers", spec := "fnExactFewestLayers", apart := false }
def FnExactFewestLayersSaid : Prop := fnExactFewestLayersRow.holds Try.pinned (OpenSpec.ofChange fnExactFewestLayersSpec)

/-- ITS FALSE NEIGHBOUR: 'it returns false'. Refute it at one input. -/
def fnExactFewestLayersWrong : ChangeSpec := { name := "fnExactFewestLayers", fn := fun _ => fun
  | [d1, d2] => { results := [.lit (.bool false)], args := [d1, d2] }
  | _ => none }
def FnExactFewestLayersWrongFalsely : Prop := fnExactFewestLayersRow.holds Try.pinned (OpenSpec.ofChange fnExactFewestLayersWrong)

/- THE SECOND FORM. 'bulk': how many values and letters a reading holds, each counted each time it is reached (what is shared counts as often as it is met; a slice's spare places count too). A statement '..UptoSaid' is the law's where the arguments, and the package variables that the reading takes, are together of bulk at most 1048576: NARROWER than '..Said'. Prove '..Said' where nothing that the law and all that it calls make is longer than what came in: it says more and counts as full. Else prove '..UptoSaid'. A law counts once. -/
mutual
def uptoBulk {H : Type} : DataW H → Nat
  | .lit (.string bytes) => bytes.length + 1
  | .lit _ => 1
  | .nil => 1
  | .ptr d => uptoBulk d + 1
  | .slice elems spare => uptoBulkAll elems + uptoBulkAll spare + 1
  | .agg parts => uptoBulkAll parts + 1
  | .iface _ d => uptoBulk d + 1
  | .map entries => uptoBulkEntries entries + 1
  | .held _ => 1
def uptoBulkAll {H : Type} : List (DataW H) → Nat
  | [] => 0
  | d :: r => uptoBulk d + uptoBulkAll r
def uptoBulkEntries {H : Type} : List (Lit × DataW H) → Nat
  | [] => 0
  | x :: r => uptoBulkEntry x + uptoBulkEntries r
def uptoBulkEntry {H : Type} : Lit × DataW H → Nat
  | (.string bytes, d) => bytes.length + uptoBulk d + 1
  | (_, d) => uptoBulk d + 1
 end
def uptoSmall : (H : Type) → List (DataW H) → Bool := fun _ ds => decide (uptoBulkAll ds ≤ 1048576)
def OpenSpec.upto (s : _root_.Go.ChangeSpec) : _root_.Go.OpenSpec := { _root_.Go.OpenSpec.ofChange s with cond := some uptoSmall }

/-- 'laws.FnExactCountBuilds', WHERE WHAT IT READS IS OF BULK AT MOST 1048576: true; the input reads as it did. -/
def fnExactCountBuildsUptoRow : OpenClaim := { program := "ytgaahmcbfognhaa", sum := "a756d46697189dd6b3a5abbc8aee58c765f6f32920644c74779414c32ea4d306", func := "loop.example/g01043/laws.FnExactCountBuilds", spec := "fnExactCountBuilds", apart := false, narrowed := true }
def FnExactCountBuildsUptoSaid : Prop := fnExactCountBuildsUptoRow.holds Try.pinned (OpenSpec.upto fnExactCountBuildsSpec)

/-- 'laws.FnExactUnreachedSums', WHERE WHAT IT READS IS OF BULK AT MOST 1048576: true; the input reads as it did. -/
def fnExactUnreachedSumsUptoRow : OpenClaim := { program := "ytgaahmcbfognhaa", sum := "a756d46697189dd6b3a5abbc8aee58c765f6f32920644c74779414c32ea4d306", func := "loop.example/g01043/laws.FnExactUnreachedSums", spec := "fnExactUnreachedSums", apart := false, narrowed := true }
def FnExactUnreachedSumsUptoSaid : Prop := fnExactUnreachedSumsUptoRow.holds Try.pinned (OpenSpec.upto fnExactUnreachedSumsSpec)

/-- 'laws.FnExactCheapestBuild', WHERE WHAT IT READS IS OF BULK AT MOST 1048576: true; the input reads as it did. -/
def fnExactCheapestBuildUptoRow : OpenClaim := { program := "ytgaahmcbfognhaa", sum := "a756d46697189dd6b3a5abbc8aee58c765f6f32920644c74779414c32ea4d306", func := "loop.example/g01043/laws.FnExactCheapestBuild", spec := "fnExactCheapestBuild", unfollowed := true, recurses := true, apart := false, narrowed := true }
def FnExactCheapestBuildUptoSaid : Prop := fnExactCheapestBuildUptoRow.holds Try.pinned (OpenSpec.upto fnExactCheapestBuildSpec)

/-- 'laws.FnExactFewestLayers', WHERE WHAT IT READS IS OF BULK AT MOST 1048576: true; the input reads as it did. -/
def fnExactFewestLayersUptoRow : OpenClaim := { program := "ytgaahmcbfognhaa", sum := "a756d46697189dd6b3a5abbc8aee58c765f6f32920644c74779414c32ea4d306", func := "loop.example/g01043/laws.FnExactFewestLayers", spec := "fnExactFewestLayers", apart := false, narrowed := true }
def FnExactFewestLayersUptoSaid : Prop := fnExactFewestLayersUptoRow.holds Try.pinned (OpenSpec.upto fnExactFewestLayersSpec)

end Rows
end Go.Proofs.Ytgaahmcbfognhaa
