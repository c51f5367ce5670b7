/-
  DERIVED. GIVEN WITH THE SEED: THE CARDS: each row of YtijbaapecehamaaDoorRows.lean that lists a variable, with what it lists TIED to the program's text (the seventh form; the later family's looks); each row that meets fmt, with fmt's text TOLD by the authors' own Lean function (tested against real Go, not proved from fmt's source: count such statements apart). THE CARD IS WHAT COUNTS. Prove the row's statement (the work); the ties are given (YtijbaapecehamaaDoorTie.lean); close each card by the builder's one call (the guide's Derived/Test/ToyasCard.lean, 'card_holds'). Laid BY PROGRAM, IN A SANDBOX (cutbox-door.mjs). By AI agents, Wed Nov 11 2026. No macro, syntax, notation, axiom, sorry.
-/
import Derived.Test.YtijbaapecehamaaDoorRows
import GoSem.ClaimSeven
namespace Go.Proofs.YtijbaapecehamaaDoor
namespace Rows

/-- THE TIED CARD OF 'laws.FnExactCodeName'. -/
def fnExactCodeNameCard : Claim7 := { stood := { row := fnExactCodeNameRow, standIns := [], harness := (true, "9ddd626fc4c4c032590879b87b0936f76b91993cfe65d29246881646652f866b"), looks := true }, kinds := [], alts := [], laidByText := true, laidKinds := [.data], laidTests := true, laidLooks := .later }
def FnExactCodeNameCardSaid : Prop := Claim7.holds Tryd.pinned (.plain (OpenSpec.ofChange fnExactCodeNameSpec)) fnExactCodeNameCard

/-- THE TIED CARD OF 'laws.FnExactReadFoot'. -/
def fnExactReadFootCard : Claim7 := { stood := { row := fnExactReadFootRow, standIns := [], harness := (true, "9ddd626fc4c4c032590879b87b0936f76b91993cfe65d29246881646652f866b"), looks := true }, kinds := [], alts := [], laidByText := true, laidKinds := [.data, .data, .data, .data, .sentinel, .sentinel, .pinned], laidTests := true, laidLooks := .later }
def FnExactReadFootCardSaid : Prop := Claim7.holds Tryd.pinned (.plain (OpenSpec.ofChange fnExactReadFootSpec)) fnExactReadFootCard

/-- THE TIED CARD OF 'laws.FnExactDecimal'. -/
def fnExactDecimalCard : Claim7 := { stood := { row := fnExactDecimalRow, standIns := [], harness := (true, "9ddd626fc4c4c032590879b87b0936f76b91993cfe65d29246881646652f866b"), looks := true }, kinds := [], alts := [], laidByText := true, laidKinds := [.data, .data, .data], laidTests := true, laidLooks := .later }
def FnExactDecimalCardSaid : Prop := Claim7.holds Tryd.pinned (.plain (OpenSpec.ofChange fnExactDecimalSpec)) fnExactDecimalCard

/-- THE TIED CARD OF 'laws.FnExactSizeText'. -/
def fnExactSizeTextCard : Claim7 := { stood := { row := fnExactSizeTextRow, standIns := [], harness := (true, "9ddd626fc4c4c032590879b87b0936f76b91993cfe65d29246881646652f866b"), looks := true }, kinds := [], alts := [], laidByText := true, laidKinds := [.data, .data, .data], laidTests := true, laidLooks := .later }
def FnExactSizeTextCardSaid : Prop := Claim7.holds Tryd.pinned (.plain (OpenSpec.ofChange fnExactSizeTextSpec)) fnExactSizeTextCard

/-- THE TIED CARD OF 'laws.FnExactSplitWords'. -/
def fnExactSplitWordsCard : Claim7 := { stood := { row := fnExactSplitWordsRow, standIns := [], harness := (true, "9ddd626fc4c4c032590879b87b0936f76b91993cfe65d29246881646652f866b"), looks := true }, kinds := [], alts := [], laidByText := true, laidKinds := [.data, .pinned], laidTests := true, laidLooks := .later }
def FnExactSplitWordsCardSaid : Prop := Claim7.holds Tryd.pinned (.plain (OpenSpec.ofChange fnExactSplitWordsSpec)) fnExactSplitWordsCard

/-- THE TIED CARD OF 'laws.FnExactFootText'. -/
def fnExactFootTextCard : Claim7 := { stood := { row := fnExactFootTextRow, standIns := [], harness := (true, "9ddd626fc4c4c032590879b87b0936f76b91993cfe65d29246881646652f866b"), looks := true }, kinds := [], alts := [], laidByText := true, laidKinds := [.data, .data, .data], laidTests := true, laidLooks := .later }
def FnExactFootTextCardSaid : Prop := Claim7.holds Tryd.pinned (.plain (OpenSpec.ofChange fnExactFootTextSpec)) fnExactFootTextCard

/-- THE TIED CARD OF 'laws.FnExactGradeText'. -/
def fnExactGradeTextCard : Claim7 := { stood := { row := fnExactGradeTextRow, standIns := [], harness := (true, "9ddd626fc4c4c032590879b87b0936f76b91993cfe65d29246881646652f866b"), looks := true }, kinds := [], alts := [], laidByText := true, laidKinds := [.data, .data, .data], laidTests := true, laidLooks := .later }
def FnExactGradeTextCardSaid : Prop := Claim7.holds Tryd.pinned (.plain (OpenSpec.ofChange fnExactGradeTextSpec)) fnExactGradeTextCard

/-- THE TIED CARD OF 'laws.FnExactLastText'. -/
def fnExactLastTextCard : Claim7 := { stood := { row := fnExactLastTextRow, standIns := [], harness := (true, "9ddd626fc4c4c032590879b87b0936f76b91993cfe65d29246881646652f866b"), looks := true }, kinds := [], alts := [], laidByText := true, laidKinds := [.data, .data, .data], laidTests := true, laidLooks := .later }
def FnExactLastTextCardSaid : Prop := Claim7.holds Tryd.pinned (.plain (OpenSpec.ofChange fnExactLastTextSpec)) fnExactLastTextCard

/-- THE TIED CARD OF 'laws.FnExactReadDecimal'. -/
def fnExactReadDecimalCard : Claim7 := { stood := { row := fnExactReadDecimalRow, standIns := [], harness := (true, "9ddd626fc4c4c032590879b87b0936f76b91993cfe65d29246881646652f866b"), looks := true }, kinds := [], alts := [], laidByText := true, laidKinds := [.data, .data, .data, .sentinel, .sentinel], laidTests := true, laidLooks := .later }
def FnExactReadDecimalCardSaid : Prop := Claim7.holds Tryd.pinned (.plain (OpenSpec.ofChange fnExactReadDecimalSpec)) fnExactReadDecimalCard

/-- THE TIED CARD OF 'laws.FnExactReadSize'. -/
def fnExactReadSizeCard : Claim7 := { stood := { row := fnExactReadSizeRow, standIns := [], harness := (true, "9ddd626fc4c4c032590879b87b0936f76b91993cfe65d29246881646652f866b"), looks := true }, kinds := [], alts := [], laidByText := true, laidKinds := [.data, .data, .data, .sentinel, .sentinel], laidTests := true, laidLooks := .later }
def FnExactReadSizeCardSaid : Prop := Claim7.holds Tryd.pinned (.plain (OpenSpec.ofChange fnExactReadSizeSpec)) fnExactReadSizeCard

/-- THE TIED CARD OF 'laws.FnExactReadGrade'. -/
def fnExactReadGradeCard : Claim7 := { stood := { row := fnExactReadGradeRow, standIns := [], harness := (true, "9ddd626fc4c4c032590879b87b0936f76b91993cfe65d29246881646652f866b"), looks := true }, kinds := [], alts := [], laidByText := true, laidKinds := [.data, .data, .data, .data, .sentinel, .sentinel, .pinned], laidTests := true, laidLooks := .later }
def FnExactReadGradeCardSaid : Prop := Claim7.holds Tryd.pinned (.plain (OpenSpec.ofChange fnExactReadGradeSpec)) fnExactReadGradeCard

/-- THE TIED CARD OF 'laws.FnExactReadLast'. -/
def fnExactReadLastCard : Claim7 := { stood := { row := fnExactReadLastRow, standIns := [], harness := (true, "9ddd626fc4c4c032590879b87b0936f76b91993cfe65d29246881646652f866b"), looks := true }, kinds := [], alts := [], laidByText := true, laidKinds := [.data, .data, .data, .data, .sentinel, .sentinel, .pinned], laidTests := true, laidLooks := .later }
def FnExactReadLastCardSaid : Prop := Claim7.holds Tryd.pinned (.plain (OpenSpec.ofChange fnExactReadLastSpec)) fnExactReadLastCard

/-- THE SECOND FORM's CARD OF 'laws.FnExactCodeName'. -/
def fnExactCodeNameUptoCard : Claim7 := { stood := { row := fnExactCodeNameUptoRow, standIns := [], harness := (true, "9ddd626fc4c4c032590879b87b0936f76b91993cfe65d29246881646652f866b"), looks := true }, kinds := [], alts := [], laidByText := true, laidKinds := [.data], laidTests := true, laidLooks := .later }
def FnExactCodeNameUptoCardSaid : Prop := Claim7.holds Tryd.pinned (.plain (OpenSpec.upto fnExactCodeNameSpec)) fnExactCodeNameUptoCard

/-- THE SECOND FORM's CARD OF 'laws.FnExactReadFoot'. -/
def fnExactReadFootUptoCard : Claim7 := { stood := { row := fnExactReadFootUptoRow, standIns := [], harness := (true, "9ddd626fc4c4c032590879b87b0936f76b91993cfe65d29246881646652f866b"), looks := true }, kinds := [], alts := [], laidByText := true, laidKinds := [.data, .data, .data, .data, .sentinel, .sentinel, .pinned], laidTests := true, laidLooks := .later }
def FnExactReadFootUptoCardSaid : Prop := Claim7.holds Tryd.pinned (.plain (OpenSpec.upto fnExactReadFootSpec)) fnExactReadFootUptoCard

/-- THE SECOND FORM's CARD OF 'laws.FnExactDecimal'. -/
def fnExactDecimalUptoCard : Claim7 := { stood := { row := fnExactDecimalUptoRow, standIns := [], harness := (true, "9ddd626fc4c4c032590879b87b0936f76b91993cfe65d29246881646652f866b"), looks := true }, kinds := [], alts := [], laidByText := true, laidKinds := [.data, .data, .data], laidTests := true, laidLooks := .later }
def FnExactDecimalUptoCardSaid : Prop := Claim7.holds Tryd.pinned (.plain (OpenSpec.upto fnExactDecimalSpec)) fnExactDecimalUptoCard

/-- THE SECOND FORM's CARD OF 'laws.FnExactSizeText'. -/
def fnExactSizeTextUptoCard : Claim7 := { stood := { row := fnExactSizeTextUptoRow, standIns := [], harness := (true, "9ddd626fc4c4c032590879b87b0936f76b91993cfe65d29246881646652f866b"), looks := true }, kinds := [], alts := [], laidByText := true, laidKinds := [.data, .data, .data], laidTests := true, laidLooks := .later }
def FnExactSizeTextUptoCardSaid : Prop := Claim7.holds Tryd.pinned (.plain (OpenSpec.upto fnExactSizeTextSpec)) fnExactSizeTextUptoCard

/-- THE SECOND FORM's CARD OF 'laws.FnExactSplitWords'. -/
def fnExactSplitWordsUptoCard : Claim7 := { stood := { row := fnExactSplitWordsUptoRow, standIns := [], harness := (true, "9ddd626fc4c4c032590879b87b0936f76b91993cfe65d29246881646652f866b"), looks := true }, kinds := [], alts := [], laidByText := true, laidKinds := [.data, .pinned], laidTests := true, laidLooks := .later }
def FnExactSplitWordsUptoCardSaid : Prop := Claim7.holds Tryd.pinned (.plain (OpenSpec.upto fnExactSplitWordsSpec)) fnExactSplitWordsUptoCard

/-- THE SECOND FORM's CARD OF 'laws.FnExactFootText'. -/
def fnExactFootTextUptoCard : Claim7 := { stood := { row := fnExactFootTextUptoRow, standIns := [], harness := (true, "9ddd626fc4c4c032590879b87b0936f76b91993cfe65d29246881646652f866b"), looks := true }, kinds := [], alts := [], laidByText := true, laidKinds := [.data, .data, .data], laidTests := true, laidLooks := .later }
def FnExactFootTextUptoCardSaid : Prop := Claim7.holds Tryd.pinned (.plain (OpenSpec.upto fnExactFootTextSpec)) fnExactFootTextUptoCard

/-- THE SECOND FORM's CARD OF 'laws.FnExactGradeText'. -/
def fnExactGradeTextUptoCard : Claim7 := { stood := { row := fnExactGradeTextUptoRow, standIns := [], harness := (true, "9ddd626fc4c4c032590879b87b0936f76b91993cfe65d29246881646652f866b"), looks := true }, kinds := [], alts := [], laidByText := true, laidKinds := [.data, .data, .data], laidTests := true, laidLooks := .later }
def FnExactGradeTextUptoCardSaid : Prop := Claim7.holds Tryd.pinned (.plain (OpenSpec.upto fnExactGradeTextSpec)) fnExactGradeTextUptoCard

/-- THE SECOND FORM's CARD OF 'laws.FnExactLastText'. -/
def fnExactLastTextUptoCard : Claim7 := { stood := { row := fnExactLastTextUptoRow, standIns := [], harness := (true, "9ddd626fc4c4c032590879b87b0936f76b91993cfe65d29246881646652f866b"), looks := true }, kinds := [], alts := [], laidByText := true, laidKinds := [.data, .data, .data], laidTests := true, laidLooks := .later }
def FnExactLastTextUptoCardSaid : Prop := Claim7.holds Tryd.pinned (.plain (OpenSpec.upto fnExactLastTextSpec)) fnExactLastTextUptoCard

/-- THE SECOND FORM's CARD OF 'laws.FnExactReadDecimal'. -/
def fnExactReadDecimalUptoCard : Claim7 := { stood := { row := fnExactReadDecimalUptoRow, standIns := [], harness := (true, "9ddd626fc4c4c032590879b87b0936f76b91993cfe65d29246881646652f866b"), looks := true }, kinds := [], alts := [], laidByText := true, laidKinds := [.data, .data, .data, .sentinel, .sentinel], laidTests := true, laidLooks := .later }
def FnExactReadDecimalUptoCardSaid : Prop := Claim7.holds Tryd.pinned (.plain (OpenSpec.upto fnExactReadDecimalSpec)) fnExactReadDecimalUptoCard

/-- THE SECOND FORM's CARD OF 'laws.FnExactReadSize'. -/
def fnExactReadSizeUptoCard : Claim7 := { stood := { row := fnExactReadSizeUptoRow, standIns := [], harness := (true, "9ddd626fc4c4c032590879b87b0936f76b91993cfe65d29246881646652f866b"), looks := true }, kinds := [], alts := [], laidByText := true, laidKinds := [.data, .data, .data, .sentinel, .sentinel], laidTests := true, laidLooks := .later }
def FnExactReadSizeUptoCardSaid : Prop := Claim7.holds Tryd.pinned (.plain (OpenSpec.upto fnExactReadSizeSpec)) fnExactReadSizeUptoCard

/-- THE SECOND FORM's CARD OF 'laws.FnExactReadGrade'. -/
def fnExactReadGradeUptoCard : Claim7 := { stood := { row := fnExactReadGradeUptoRow, standIns := [], harness := (true, "9ddd626fc4c4c032590879b87b0936f76b91993cfe65d29246881646652f866b"), looks := true }, kinds := [], alts := [], laidByText := true, laidKinds := [.data, .data, .data, .data, .sentinel, .sentinel, .pinned], laidTests := true, laidLooks := .later }
def FnExactReadGradeUptoCardSaid : Prop := Claim7.holds Tryd.pinned (.plain (OpenSpec.upto fnExactReadGradeSpec)) fnExactReadGradeUptoCard

/-- THE SECOND FORM's CARD OF 'laws.FnExactReadLast'. -/
def fnExactReadLastUptoCard : Claim7 := { stood := { row := fnExactReadLastUptoRow, standIns := [], harness := (true, "9ddd626fc4c4c032590879b87b0936f76b91993cfe65d29246881646652f866b"), looks := true }, kinds := [], alts := [], laidByText := true, laidKinds := [.data, .data, .data, .data, .sentinel, .sentinel, .pinned], laidTests := true, laidLooks := .later }
def FnExactReadLastUptoCardSaid : Prop := Claim7.holds Tryd.pinned (.plain (OpenSpec.upto fnExactReadLastSpec)) fnExactReadLastUptoCard
end Rows
end Go.Proofs.YtijbaapecehamaaDoor
