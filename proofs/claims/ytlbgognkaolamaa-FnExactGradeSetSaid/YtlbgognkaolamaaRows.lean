/-
  No cell of these rows narrows 'for every input' (looked for: loops, veiled, ifaces, maps, wideKeys, modest, calm, conditions, laid).
  DERIVED. THE GIVEN ROWS OF THIS SEAT. 10 by the template 'for every input the law returns true; each argument reads behind the call as it read before'; 0 by the template 'total and deterministic' (their statements: YtlbgognkaolamaaTotals.lean).
  GIVEN WITH THE SEED: the statements are not yours to turn. If you find one false, say at which input.
  Laid BY PROGRAM, IN A SANDBOX (cutbox-rows.mjs): the forced cells as the released guide's own fill.sh prints them over the translation 2dd7d62fa8bed88c… (all of the seat's roots in one cut). By AI agents, Wed Nov 11 2026. No macro, syntax, notation, axiom, sorry.
-/
import Derived.Test.YtlbgognkaolamaaChecked
import GoSem.Claim
import GoSem.ClaimJoined
import GoSem.ClaimMapViews
import Derived.JoinedTies
import Derived.KernelRfl
namespace Go.Proofs.Ytlbgognkaolamaa
/- THE CELL 'sum', in the pinned program and in every row, IS THE sha256 OF THE DUMP (.gsa) THAT YtlbgognkaolamaaProg.lean LOADS. Nothing in Lean hashes anything: it is a label: what it is worth is what the hold of that sum in a sandbox is worth. -/
noncomputable def Try.pinned : Pinned := { name := "ytlbgognkaolamaa", sum := "2dd7d62fa8bed88c82f5478e1d0527156910abb51711204d9bb0675c7b891b7c", checked := Try.checked }
namespace Rows
def none {H : Type} : Left H := { results := [], args := [] }

/-- 'laws.FnExactJoinFeet': WHATEVER THE INPUT: true; the input reads as it did. -/
def fnExactJoinFeetSpec : ChangeSpec := { name := "fnExactJoinFeet", fn := fun _ => fun
  | [d1, d2] => { results := [.lit (.bool true)], args := [d1, d2] }
  | _ => none }
def fnExactJoinFeetRow : OpenClaim := { program := "ytlbgognkaolamaa", sum := "2dd7d62fa8bed88c82f5478e1d0527156910abb51711204d9bb0675c7b891b7c", func := "loop.example/g01043/laws.FnExactJoinFeet", spec := "fnExactJoinFeet", unfollowed := true, recurses := true, apart := false }
def FnExactJoinFeetSaid : Prop := fnExactJoinFeetRow.holds Try.pinned (OpenSpec.ofChange fnExactJoinFeetSpec)

/-- ITS FALSE NEIGHBOUR: 'it returns false'. Refute it at one input. -/
def fnExactJoinFeetWrong : ChangeSpec := { name := "fnExactJoinFeet", fn := fun _ => fun
  | [d1, d2] => { results := [.lit (.bool false)], args := [d1, d2] }
  | _ => none }
def FnExactJoinFeetWrongFalsely : Prop := fnExactJoinFeetRow.holds Try.pinned (OpenSpec.ofChange fnExactJoinFeetWrong)

/-- 'laws.FnExactGradeSet': WHATEVER THE INPUT: true; the input reads as it did. -/
def fnExactGradeSetSpec : ChangeSpec := { name := "fnExactGradeSet", fn := fun _ => fun
  | [d1, d2, d3, d4] => { results := [.lit (.bool true)], args := [d1, d2, d3, d4] }
  | _ => none }
def fnExactGradeSetRow : OpenClaim := { program := "ytlbgognkaolamaa", sum := "2dd7d62fa8bed88c82f5478e1d0527156910abb51711204d9bb0675c7b891b7c", func := "loop.example/g01043/laws.FnExactGradeSet", spec := "fnExactGradeSet", unfollowed := true, recurses := true, apart := false }
def FnExactGradeSetSaid : Prop := fnExactGradeSetRow.holds Try.pinned (OpenSpec.ofChange fnExactGradeSetSpec)

/-- ITS FALSE NEIGHBOUR: 'it returns false'. Refute it at one input. -/
def fnExactGradeSetWrong : ChangeSpec := { name := "fnExactGradeSet", fn := fun _ => fun
  | [d1, d2, d3, d4] => { results := [.lit (.bool false)], args := [d1, d2, d3, d4] }
  | _ => none }
def FnExactGradeSetWrongFalsely : Prop := fnExactGradeSetRow.holds Try.pinned (OpenSpec.ofChange fnExactGradeSetWrong)

/-- 'laws.FnExactValidFit': WHATEVER THE INPUT: true; the input reads as it did. -/
def fnExactValidFitSpec : ChangeSpec := { name := "fnExactValidFit", fn := fun _ => fun
  | [d] => { results := [.lit (.bool true)], args := [d] }
  | _ => none }
def fnExactValidFitRow : OpenClaim := { program := "ytlbgognkaolamaa", sum := "2dd7d62fa8bed88c82f5478e1d0527156910abb51711204d9bb0675c7b891b7c", func := "loop.example/g01043/laws.FnExactValidFit", spec := "fnExactValidFit", unfollowed := true, recurses := true, apart := false }
def FnExactValidFitSaid : Prop := fnExactValidFitRow.holds Try.pinned (OpenSpec.ofChange fnExactValidFitSpec)

/-- ITS FALSE NEIGHBOUR: 'it returns false'. Refute it at one input. -/
def fnExactValidFitWrong : ChangeSpec := { name := "fnExactValidFit", fn := fun _ => fun
  | [d] => { results := [.lit (.bool false)], args := [d] }
  | _ => none }
def FnExactValidFitWrongFalsely : Prop := fnExactValidFitRow.holds Try.pinned (OpenSpec.ofChange fnExactValidFitWrong)

/-- 'laws.FnExactMayFit': WHATEVER THE INPUT: true; the input reads as it did. -/
def fnExactMayFitSpec : ChangeSpec := { name := "fnExactMayFit", fn := fun _ => fun
  | [d1, d2, d3] => { results := [.lit (.bool true)], args := [d1, d2, d3] }
  | _ => none }
def fnExactMayFitRow : OpenClaim := { program := "ytlbgognkaolamaa", sum := "2dd7d62fa8bed88c82f5478e1d0527156910abb51711204d9bb0675c7b891b7c", func := "loop.example/g01043/laws.FnExactMayFit", spec := "fnExactMayFit", unfollowed := true, recurses := true, apart := false }
def FnExactMayFitSaid : Prop := fnExactMayFitRow.holds Try.pinned (OpenSpec.ofChange fnExactMayFitSpec)

/-- ITS FALSE NEIGHBOUR: 'it returns false'. Refute it at one input. -/
def fnExactMayFitWrong : ChangeSpec := { name := "fnExactMayFit", fn := fun _ => fun
  | [d1, d2, d3] => { results := [.lit (.bool false)], args := [d1, d2, d3] }
  | _ => none }
def FnExactMayFitWrongFalsely : Prop := fnExactMayFitRow.holds Try.pinned (OpenSpec.ofChange fnExactMayFitWrong)

/-- 'laws.FnExactFitCost': WHATEVER THE INPUT: true; the input reads as it did. -/
def fnExactFitCostSpec : ChangeSpec := { name := "fnExactFitCost", fn := fun _ => fun
  | [d1, d2, d3] => { results := [.lit (.bool true)], args := [d1, d2, d3] }
  | _ => none }
def fnExactFitCostRow : OpenClaim := { program := "ytlbgognkaolamaa", sum := "2dd7d62fa8bed88c82f5478e1d0527156910abb51711204d9bb0675c7b891b7c", func := "loop.example/g01043/laws.FnExactFitCost", spec := "fnExactFitCost", unfollowed := true, recurses := true, apart := false }
def FnExactFitCostSaid : Prop := fnExactFitCostRow.holds Try.pinned (OpenSpec.ofChange fnExactFitCostSpec)

/-- ITS FALSE NEIGHBOUR: 'it returns false'. Refute it at one input. -/
def fnExactFitCostWrong : ChangeSpec := { name := "fnExactFitCost", fn := fun _ => fun
  | [d1, d2, d3] => { results := [.lit (.bool false)], args := [d1, d2, d3] }
  | _ => none }
def FnExactFitCostWrongFalsely : Prop := fnExactFitCostRow.holds Try.pinned (OpenSpec.ofChange fnExactFitCostWrong)

/-- 'laws.FnExactAddLast': WHATEVER THE INPUT: true; the input reads as it did. -/
def fnExactAddLastSpec : ChangeSpec := { name := "fnExactAddLast", fn := fun _ => fun
  | [d1, d2] => { results := [.lit (.bool true)], args := [d1, d2] }
  | _ => none }
def fnExactAddLastRow : OpenClaim := { program := "ytlbgognkaolamaa", sum := "2dd7d62fa8bed88c82f5478e1d0527156910abb51711204d9bb0675c7b891b7c", func := "loop.example/g01043/laws.FnExactAddLast", spec := "fnExactAddLast", inPlace := ["slices.overlaps[loop.example/g01043/impl.Last]"], unfollowed := true, recurses := true, apart := false }
def FnExactAddLastSaid : Prop := fnExactAddLastRow.holds Try.pinned (OpenSpec.ofChange fnExactAddLastSpec)

/-- ITS FALSE NEIGHBOUR: 'it returns false'. Refute it at one input. -/
def fnExactAddLastWrong : ChangeSpec := { name := "fnExactAddLast", fn := fun _ => fun
  | [d1, d2] => { results := [.lit (.bool false)], args := [d1, d2] }
  | _ => none }
def FnExactAddLastWrongFalsely : Prop := fnExactAddLastRow.holds Try.pinned (OpenSpec.ofChange fnExactAddLastWrong)

/-- 'laws.FnExactAllowedLasts': WHATEVER THE INPUT: true; the input reads as it did. -/
def fnExactAllowedLastsSpec : ChangeSpec := { name := "fnExactAllowedLasts", fn := fun _ => fun
  | [d1, d2, d3] => { results := [.lit (.bool true)], args := [d1, d2, d3] }
  | _ => none }
def fnExactAllowedLastsRow : OpenClaim := { program := "ytlbgognkaolamaa", sum := "2dd7d62fa8bed88c82f5478e1d0527156910abb51711204d9bb0675c7b891b7c", func := "loop.example/g01043/laws.FnExactAllowedLasts", spec := "fnExactAllowedLasts", unfollowed := true, recurses := true, apart := false }
def FnExactAllowedLastsSaid : Prop := fnExactAllowedLastsRow.holds Try.pinned (OpenSpec.ofChange fnExactAllowedLastsSpec)

/-- ITS FALSE NEIGHBOUR: 'it returns false'. Refute it at one input. -/
def fnExactAllowedLastsWrong : ChangeSpec := { name := "fnExactAllowedLasts", fn := fun _ => fun
  | [d1, d2, d3] => { results := [.lit (.bool false)], args := [d1, d2, d3] }
  | _ => none }
def FnExactAllowedLastsWrongFalsely : Prop := fnExactAllowedLastsRow.holds Try.pinned (OpenSpec.ofChange fnExactAllowedLastsWrong)

/-- 'laws.FnExactBestLast': WHATEVER THE INPUT: true; the input reads as it did. -/
def fnExactBestLastSpec : ChangeSpec := { name := "fnExactBestLast", fn := fun _ => fun
  | [d1, d2, d3] => { results := [.lit (.bool true)], args := [d1, d2, d3] }
  | _ => none }
def fnExactBestLastRow : OpenClaim := { program := "ytlbgognkaolamaa", sum := "2dd7d62fa8bed88c82f5478e1d0527156910abb51711204d9bb0675c7b891b7c", func := "loop.example/g01043/laws.FnExactBestLast", spec := "fnExactBestLast", unfollowed := true, recurses := true, apart := false }
def FnExactBestLastSaid : Prop := fnExactBestLastRow.holds Try.pinned (OpenSpec.ofChange fnExactBestLastSpec)

/-- ITS FALSE NEIGHBOUR: 'it returns false'. Refute it at one input. -/
def fnExactBestLastWrong : ChangeSpec := { name := "fnExactBestLast", fn := fun _ => fun
  | [d1, d2, d3] => { results := [.lit (.bool false)], args := [d1, d2, d3] }
  | _ => none }
def FnExactBestLastWrongFalsely : Prop := fnExactBestLastRow.holds Try.pinned (OpenSpec.ofChange fnExactBestLastWrong)

/-- 'laws.FnExactPairLast': WHATEVER THE INPUT: true; the input reads as it did. -/
def fnExactPairLastSpec : ChangeSpec := { name := "fnExactPairLast", fn := fun _ => fun
  | [d1, d2, d3, d4] => { results := [.lit (.bool true)], args := [d1, d2, d3, d4] }
  | _ => none }
def fnExactPairLastRow : OpenClaim := { program := "ytlbgognkaolamaa", sum := "2dd7d62fa8bed88c82f5478e1d0527156910abb51711204d9bb0675c7b891b7c", func := "loop.example/g01043/laws.FnExactPairLast", spec := "fnExactPairLast", unfollowed := true, recurses := true, apart := false }
def FnExactPairLastSaid : Prop := fnExactPairLastRow.holds Try.pinned (OpenSpec.ofChange fnExactPairLastSpec)

/-- ITS FALSE NEIGHBOUR: 'it returns false'. Refute it at one input. -/
def fnExactPairLastWrong : ChangeSpec := { name := "fnExactPairLast", fn := fun _ => fun
  | [d1, d2, d3, d4] => { results := [.lit (.bool false)], args := [d1, d2, d3, d4] }
  | _ => none }
def FnExactPairLastWrongFalsely : Prop := fnExactPairLastRow.holds Try.pinned (OpenSpec.ofChange fnExactPairLastWrong)

/-- 'laws.FnExactRankLasts': WHATEVER THE INPUT: true; the input reads as it did. -/
def fnExactRankLastsSpec : ChangeSpec := { name := "fnExactRankLasts", fn := fun _ => fun
  | [d1, d2, d3] => { results := [.lit (.bool true)], args := [d1, d2, d3] }
  | _ => none }
def fnExactRankLastsRow : OpenClaim := { program := "ytlbgognkaolamaa", sum := "2dd7d62fa8bed88c82f5478e1d0527156910abb51711204d9bb0675c7b891b7c", func := "loop.example/g01043/laws.FnExactRankLasts", spec := "fnExactRankLasts", unfollowed := true, recurses := true, apart := false }
def FnExactRankLastsSaid : Prop := fnExactRankLastsRow.holds Try.pinned (OpenSpec.ofChange fnExactRankLastsSpec)

/-- ITS FALSE NEIGHBOUR: 'it returns false'. Refute it at one input. -/
def fnExactRankLastsWrong : ChangeSpec := { name := "fnExactRankLasts", fn := fun _ => fun
  | [d1, d2, d3] => { results := [.lit (.bool false)], args := [d1, d2, d3] }
  | _ => none }
def FnExactRankLastsWrongFalsely : Prop := fnExactRankLastsRow.holds Try.pinned (OpenSpec.ofChange fnExactRankLastsWrong)

/- THE SECOND FORM. 'bulk': how many values and letters a reading holds, each counted each time it is reached (what is shared counts as often as it is met; a slice's spare places count too). A statement '..UptoSaid' is the law's where the arguments, and the package variables that the reading takes, are together of bulk at most 1048576: NARROWER than '..Said'. Prove '..Said' where nothing that the law and all that it calls make is longer than what came in: it says more and counts as full. Else prove '..UptoSaid'. A law counts once. -/
mutual
def uptoBulk {H : Type} : DataW H → Nat
  | .lit (.string bytes) => bytes.length + 1
  | .lit _ => 1
  | .nil => 1
  | .ptr d => uptoBulk d + 1
  | .slice elems spare => uptoBulkAll elems + uptoBulkAll spare + 1
  | .agg parts => uptoBulkAll parts + 1
  | .iface _ d => uptoBulk d + 1
  | .map entries => uptoBulkEntries entries + 1
  | .held _ => 1
def uptoBulkAll {H : Type} : List (DataW H) → Nat
  | [] => 0
  | d :: r => uptoBulk d + uptoBulkAll r
def uptoBulkEntries {H : Type} : List (Lit × DataW H) → Nat
  | [] => 0
  | x :: r => uptoBulkEntry x + uptoBulkEntries r
def uptoBulkEntry {H : Type} : Lit × DataW H → Nat
  | (.string bytes, d) => bytes.length + uptoBulk d + 1
  | (_, d) => uptoBulk d + 1
 end
def uptoSmall : (H : Type) → List (DataW H) → Bool := fun _ ds => decide (uptoBulkAll ds ≤ 1048576)
def OpenSpec.upto (s : _root_.Go.ChangeSpec) : _root_.Go.OpenSpec := { _root_.Go.OpenSpec.ofChange s with cond := some uptoSmall }

/-- 'laws.FnExactJoinFeet', WHERE WHAT IT READS IS OF BULK AT MOST 1048576: true; the input reads as it did. -/
def fnExactJoinFeetUptoRow : OpenClaim := { program := "ytlbgognkaolamaa", sum := "2dd7d62fa8bed88c82f5478e1d0527156910abb51711204d9bb0675c7b891b7c", func := "loop.example/g01043/laws.FnExactJoinFeet", spec := "fnExactJoinFeet", unfollowed := true, recurses := true, apart := false, narrowed := true }
def FnExactJoinFeetUptoSaid : Prop := fnExactJoinFeetUptoRow.holds Try.pinned (OpenSpec.upto fnExactJoinFeetSpec)

/-- 'laws.FnExactGradeSet', WHERE WHAT IT READS IS OF BULK AT MOST 1048576: true; the input reads as it did. -/
def fnExactGradeSetUptoRow : OpenClaim := { program := "ytlbgognkaolamaa", sum := "2dd7d62fa8bed88c82f5478e1d0527156910abb51711204d9bb0675c7b891b7c", func := "loop.example/g01043/laws.FnExactGradeSet", spec := "fnExactGradeSet", unfollowed := true, recurses := true, apart := false, narrowed := true }
def FnExactGradeSetUptoSaid : Prop := fnExactGradeSetUptoRow.holds Try.pinned (OpenSpec.upto fnExactGradeSetSpec)

/-- 'laws.FnExactValidFit', WHERE WHAT IT READS IS OF BULK AT MOST 1048576: true; the input reads as it did. -/
def fnExactValidFitUptoRow : OpenClaim := { program := "ytlbgognkaolamaa", sum := "2dd7d62fa8bed88c82f5478e1d0527156910abb51711204d9bb0675c7b891b7c", func := "loop.example/g01043/laws.FnExactValidFit", spec := "fnExactValidFit", unfollowed := true, recurses := true, apart := false, narrowed := true }
def FnExactValidFitUptoSaid : Prop := fnExactValidFitUptoRow.holds Try.pinned (OpenSpec.upto fnExactValidFitSpec)

/-- 'laws.FnExactMayFit', WHERE WHAT IT READS IS OF BULK AT MOST 1048576: true; the input reads as it did. -/
def fnExactMayFitUptoRow : OpenClaim := { program := "ytlbgognkaolamaa", sum := "2dd7d62fa8bed88c82f5478e1d0527156910abb51711204d9bb0675c7b891b7c", func := "loop.example/g01043/laws.FnExactMayFit", spec := "fnExactMayFit", unfollowed := true, recurses := true, apart := false, narrowed := true }
def FnExactMayFitUptoSaid : Prop := fnExactMayFitUptoRow.holds Try.pinned (OpenSpec.upto fnExactMayFitSpec)

/-- 'laws.FnExactFitCost', WHERE WHAT IT READS IS OF BULK AT MOST 1048576: true; the input reads as it did. -/
def fnExactFitCostUptoRow : OpenClaim := { program := "ytlbgognkaolamaa", sum := "2dd7d62fa8bed88c82f5478e1d0527156910abb51711204d9bb0675c7b891b7c", func := "loop.example/g01043/laws.FnExactFitCost", spec := "fnExactFitCost", unfollowed := true, recurses := true, apart := false, narrowed := true }
def FnExactFitCostUptoSaid : Prop := fnExactFitCostUptoRow.holds Try.pinned (OpenSpec.upto fnExactFitCostSpec)

/-- 'laws.FnExactAddLast', WHERE WHAT IT READS IS OF BULK AT MOST 1048576: true; the input reads as it did. -/
def fnExactAddLastUptoRow : OpenClaim := { program := "ytlbgognkaolamaa", sum := "2dd7d62fa8bed88c82f5478e1d0527156910abb51711204d9bb0675c7b891b7c", func := "loop.example/g01043/laws.FnExactAddLast", spec := "fnExactAddLast", inPlace := ["slices.overlaps[loop.example/g01043/impl.Last]"], unfollowed := true, recurses := true, apart := false, narrowed := true }
def FnExactAddLastUptoSaid : Prop := fnExactAddLastUptoRow.holds Try.pinned (OpenSpec.upto fnExactAddLastSpec)

/-- 'laws.FnExactAllowedLasts', WHERE WHAT IT READS IS OF BULK AT MOST 1048576: true; the input reads as it did. -/
def fnExactAllowedLastsUptoRow : OpenClaim := { program := "ytlbgognkaolamaa", sum := "2dd7d62fa8bed88c82f5478e1d0527156910abb51711204d9bb0675c7b891b7c", func := "loop.example/g01043/laws.FnExactAllowedLasts", spec := "fnExactAllowedLasts", unfollowed := true, recurses := true, apart := false, narrowed := true }
def FnExactAllowedLastsUptoSaid : Prop := fnExactAllowedLastsUptoRow.holds Try.pinned (OpenSpec.upto fnExactAllowedLastsSpec)

/-- 'laws.FnExactBestLast', WHERE WHAT IT READS IS OF BULK AT MOST 1048576: true; the input reads as it did. -/
def fnExactBestLastUptoRow : OpenClaim := { program := "ytlbgognkaolamaa", sum := "2dd7d62fa8bed88c82f5478e1d0527156910abb51711204d9bb0675c7b891b7c", func := "loop.example/g01043/laws.FnExactBestLast", spec := "fnExactBestLast", unfollowed := true, recurses := true, apart := false, narrowed := true }
def FnExactBestLastUptoSaid : Prop := fnExactBestLastUptoRow.holds Try.pinned (OpenSpec.upto fnExactBestLastSpec)

/-- 'laws.FnExactPairLast', WHERE WHAT IT READS IS OF BULK AT MOST 1048576: true; the input reads as it did. -/
def fnExactPairLastUptoRow : OpenClaim := { program := "ytlbgognkaolamaa", sum := "2dd7d62fa8bed88c82f5478e1d0527156910abb51711204d9bb0675c7b891b7c", func := "loop.example/g01043/laws.FnExactPairLast", spec := "fnExactPairLast", unfollowed := true, recurses := true, apart := false, narrowed := true }
def FnExactPairLastUptoSaid : Prop := fnExactPairLastUptoRow.holds Try.pinned (OpenSpec.upto fnExactPairLastSpec)

/-- 'laws.FnExactRankLasts', WHERE WHAT IT READS IS OF BULK AT MOST 1048576: true; the input reads as it did. -/
def fnExactRankLastsUptoRow : OpenClaim := { program := "ytlbgognkaolamaa", sum := "2dd7d62fa8bed88c82f5478e1d0527156910abb51711204d9bb0675c7b891b7c", func := "loop.example/g01043/laws.FnExactRankLasts", spec := "fnExactRankLasts", unfollowed := true, recurses := true, apart := false, narrowed := true }
def FnExactRankLastsUptoSaid : Prop := fnExactRankLastsUptoRow.holds Try.pinned (OpenSpec.upto fnExactRankLastsSpec)

end Rows
end Go.Proofs.Ytlbgognkaolamaa
