/-
  DERIVED. GIVEN WITH THE SEED: THE CARDS: each row of YtlhodalfbmdnnaaDoorRows.lean that lists a variable, with what it lists TIED to the program's text (the seventh form; the later family's looks); each row that meets fmt, with fmt's text TOLD by the authors' own Lean function (tested against real Go, not proved from fmt's source: count such statements apart). THE CARD IS WHAT COUNTS. Prove the row's statement (the work); the ties are given (YtlhodalfbmdnnaaDoorTie.lean); close each card by the builder's one call (the guide's Derived/Test/ToyasCard.lean, 'card_holds'). Laid BY PROGRAM, IN A SANDBOX (cutbox-door.mjs). By AI agents, Wed Nov 11 2026. No macro, syntax, notation, axiom, sorry.
-/
import Derived.Test.YtlhodalfbmdnnaaDoorRows
import GoSem.ClaimSeven
namespace Go.Proofs.YtlhodalfbmdnnaaDoor
namespace Rows

/-- THE TIED CARD OF 'jalousielaw01.TextNumbers'. -/
def textNumbersCard : Claim7 := { stood := { row := textNumbersRow, standIns := [], harness := (true, "45fa56fc496d2930ec223463920ef50caaf38062a3c38c9f25584e0d43b82f2e"), looks := false }, kinds := [], alts := [], laidByText := true, laidKinds := [.data, .pinned], laidTests := true, laidLooks := .later }
def TextNumbersCardSaid : Prop := Claim7.holds Tryd.pinned (.plain (OpenSpec.ofChange textNumbersSpec)) textNumbersCard

/-- THE TIED CARD OF 'jalousielaw01.TextNumberBack'. -/
def textNumberBackCard : Claim7 := { stood := { row := textNumberBackRow, standIns := [], harness := (true, "45fa56fc496d2930ec223463920ef50caaf38062a3c38c9f25584e0d43b82f2e"), looks := false }, kinds := [], alts := [], laidByText := true, laidKinds := [.data, .pinned], laidTests := true, laidLooks := .later }
def TextNumberBackCardSaid : Prop := Claim7.holds Tryd.pinned (.plain (OpenSpec.ofChange textNumberBackSpec)) textNumberBackCard

/-- THE TIED CARD OF 'jalousielaw01.TextWords'. -/
def textWordsCard : Claim7 := { stood := { row := textWordsRow, standIns := [], harness := (true, "45fa56fc496d2930ec223463920ef50caaf38062a3c38c9f25584e0d43b82f2e"), looks := false }, kinds := [], alts := [], laidByText := true, laidKinds := [.data, .pinned], laidTests := true, laidLooks := .later }
def TextWordsCardSaid : Prop := Claim7.holds Tryd.pinned (.plain (OpenSpec.ofChange textWordsSpec)) textWordsCard

/-- THE TIED CARD OF 'jalousielaw01.TextOwn'. -/
def textOwnCard : Claim7 := { stood := { row := textOwnRow, standIns := [], harness := (true, "45fa56fc496d2930ec223463920ef50caaf38062a3c38c9f25584e0d43b82f2e"), looks := false }, kinds := [], alts := [], laidByText := true, laidKinds := [.data, .pinned], laidTests := true, laidLooks := .later }
def TextOwnCardSaid : Prop := Claim7.holds Tryd.pinned (.plain (OpenSpec.ofChange textOwnSpec)) textOwnCard

/-- THE TIED CARD OF 'jalousielaw01.TextLines'. -/
def textLinesCard : Claim7 := { stood := { row := textLinesRow, standIns := [], harness := (true, "45fa56fc496d2930ec223463920ef50caaf38062a3c38c9f25584e0d43b82f2e"), looks := false }, kinds := [], alts := [], laidByText := true, laidKinds := [.data, .pinned], laidTests := true, laidLooks := .later }
def TextLinesCardSaid : Prop := Claim7.holds Tryd.pinned (.plain (OpenSpec.ofChange textLinesSpec)) textLinesCard

/-- THE TIED CARD OF 'jalousielaw01.TextBack'. -/
def textBackCard : Claim7 := { stood := { row := textBackRow, standIns := [], harness := (true, "45fa56fc496d2930ec223463920ef50caaf38062a3c38c9f25584e0d43b82f2e"), looks := false }, kinds := [], alts := [], laidByText := true, laidKinds := [.data, .pinned], laidTests := true, laidLooks := .later }
def TextBackCardSaid : Prop := Claim7.holds Tryd.pinned (.plain (OpenSpec.ofChange textBackSpec)) textBackCard

/-- THE TIED CARD OF 'jalousielaw02.LabelCats'. -/
def labelCatsCard : Claim7 := { stood := { row := labelCatsRow, standIns := [], harness := (true, "45fa56fc496d2930ec223463920ef50caaf38062a3c38c9f25584e0d43b82f2e"), looks := false }, kinds := [], alts := [], laidByText := true, laidKinds := [.data, .data, .pinned], laidTests := true, laidLooks := .later }
def LabelCatsCardSaid : Prop := Claim7.holds Tryd.pinned (.plain (OpenSpec.ofChange labelCatsSpec)) labelCatsCard

/-- THE TIED CARD OF 'jalousielaw02.LabelTexts'. -/
def labelTextsCard : Claim7 := { stood := { row := labelTextsRow, standIns := [], harness := (true, "45fa56fc496d2930ec223463920ef50caaf38062a3c38c9f25584e0d43b82f2e"), looks := false }, kinds := [], alts := [], laidByText := true, laidKinds := [.data, .data, .pinned], laidTests := true, laidLooks := .later }
def LabelTextsCardSaid : Prop := Claim7.holds Tryd.pinned (.plain (OpenSpec.ofChange labelTextsSpec)) labelTextsCard

/-- THE TIED CARD OF 'jalousielaw02.LabelBack'. -/
def labelBackCard : Claim7 := { stood := { row := labelBackRow, standIns := [], harness := (true, "45fa56fc496d2930ec223463920ef50caaf38062a3c38c9f25584e0d43b82f2e"), looks := false }, kinds := [], alts := [], laidByText := true, laidKinds := [.data, .data, .pinned], laidTests := true, laidLooks := .later }
def LabelBackCardSaid : Prop := Claim7.holds Tryd.pinned (.plain (OpenSpec.ofChange labelBackSpec)) labelBackCard

/-- THE TIED CARD OF 'jalousielaw02.LabelOrder'. -/
def labelOrderCard : Claim7 := { stood := { row := labelOrderRow, standIns := [], harness := (true, "45fa56fc496d2930ec223463920ef50caaf38062a3c38c9f25584e0d43b82f2e"), looks := false }, kinds := [], alts := [], laidByText := true, laidKinds := [.data, .data, .pinned], laidTests := true, laidLooks := .later }
def LabelOrderCardSaid : Prop := Claim7.holds Tryd.pinned (.plain (OpenSpec.ofChange labelOrderSpec)) labelOrderCard

/-- THE TIED CARD OF 'jalousielaw02.LabelLattice'. -/
def labelLatticeCard : Claim7 := { stood := { row := labelLatticeRow, standIns := [], harness := (true, "45fa56fc496d2930ec223463920ef50caaf38062a3c38c9f25584e0d43b82f2e"), looks := false }, kinds := [], alts := [], laidByText := true, laidKinds := [.data, .data, .pinned], laidTests := true, laidLooks := .later }
def LabelLatticeCardSaid : Prop := Claim7.holds Tryd.pinned (.plain (OpenSpec.ofChange labelLatticeSpec)) labelLatticeCard

/-- THE TIED CARD OF 'jalousielaw02.LabelAlgebra'. -/
def labelAlgebraCard : Claim7 := { stood := { row := labelAlgebraRow, standIns := [], harness := (true, "45fa56fc496d2930ec223463920ef50caaf38062a3c38c9f25584e0d43b82f2e"), looks := false }, kinds := [], alts := [], laidByText := true, laidKinds := [.data, .data, .pinned], laidTests := true, laidLooks := .later }
def LabelAlgebraCardSaid : Prop := Claim7.holds Tryd.pinned (.plain (OpenSpec.ofChange labelAlgebraSpec)) labelAlgebraCard

/-- THE TIED CARD OF 'jalousielaw02.LabelCut'. -/
def labelCutCard : Claim7 := { stood := { row := labelCutRow, standIns := [], harness := (true, "45fa56fc496d2930ec223463920ef50caaf38062a3c38c9f25584e0d43b82f2e"), looks := false }, kinds := [], alts := [], laidByText := true, laidKinds := [.data, .data, .pinned], laidTests := true, laidLooks := .later }
def LabelCutCardSaid : Prop := Claim7.holds Tryd.pinned (.plain (OpenSpec.ofChange labelCutSpec)) labelCutCard

/-- THE SECOND FORM's CARD OF 'jalousielaw01.TextNumbers'. -/
def textNumbersUptoCard : Claim7 := { stood := { row := textNumbersUptoRow, standIns := [], harness := (true, "45fa56fc496d2930ec223463920ef50caaf38062a3c38c9f25584e0d43b82f2e"), looks := false }, kinds := [], alts := [], laidByText := true, laidKinds := [.data, .pinned], laidTests := true, laidLooks := .later }
def TextNumbersUptoCardSaid : Prop := Claim7.holds Tryd.pinned (.plain (OpenSpec.upto textNumbersSpec)) textNumbersUptoCard

/-- THE SECOND FORM's CARD OF 'jalousielaw01.TextNumberBack'. -/
def textNumberBackUptoCard : Claim7 := { stood := { row := textNumberBackUptoRow, standIns := [], harness := (true, "45fa56fc496d2930ec223463920ef50caaf38062a3c38c9f25584e0d43b82f2e"), looks := false }, kinds := [], alts := [], laidByText := true, laidKinds := [.data, .pinned], laidTests := true, laidLooks := .later }
def TextNumberBackUptoCardSaid : Prop := Claim7.holds Tryd.pinned (.plain (OpenSpec.upto textNumberBackSpec)) textNumberBackUptoCard

/-- THE SECOND FORM's CARD OF 'jalousielaw01.TextWords'. -/
def textWordsUptoCard : Claim7 := { stood := { row := textWordsUptoRow, standIns := [], harness := (true, "45fa56fc496d2930ec223463920ef50caaf38062a3c38c9f25584e0d43b82f2e"), looks := false }, kinds := [], alts := [], laidByText := true, laidKinds := [.data, .pinned], laidTests := true, laidLooks := .later }
def TextWordsUptoCardSaid : Prop := Claim7.holds Tryd.pinned (.plain (OpenSpec.upto textWordsSpec)) textWordsUptoCard

/-- THE SECOND FORM's CARD OF 'jalousielaw01.TextOwn'. -/
def textOwnUptoCard : Claim7 := { stood := { row := textOwnUptoRow, standIns := [], harness := (true, "45fa56fc496d2930ec223463920ef50caaf38062a3c38c9f25584e0d43b82f2e"), looks := false }, kinds := [], alts := [], laidByText := true, laidKinds := [.data, .pinned], laidTests := true, laidLooks := .later }
def TextOwnUptoCardSaid : Prop := Claim7.holds Tryd.pinned (.plain (OpenSpec.upto textOwnSpec)) textOwnUptoCard

/-- THE SECOND FORM's CARD OF 'jalousielaw01.TextLines'. -/
def textLinesUptoCard : Claim7 := { stood := { row := textLinesUptoRow, standIns := [], harness := (true, "45fa56fc496d2930ec223463920ef50caaf38062a3c38c9f25584e0d43b82f2e"), looks := false }, kinds := [], alts := [], laidByText := true, laidKinds := [.data, .pinned], laidTests := true, laidLooks := .later }
def TextLinesUptoCardSaid : Prop := Claim7.holds Tryd.pinned (.plain (OpenSpec.upto textLinesSpec)) textLinesUptoCard

/-- THE SECOND FORM's CARD OF 'jalousielaw01.TextBack'. -/
def textBackUptoCard : Claim7 := { stood := { row := textBackUptoRow, standIns := [], harness := (true, "45fa56fc496d2930ec223463920ef50caaf38062a3c38c9f25584e0d43b82f2e"), looks := false }, kinds := [], alts := [], laidByText := true, laidKinds := [.data, .pinned], laidTests := true, laidLooks := .later }
def TextBackUptoCardSaid : Prop := Claim7.holds Tryd.pinned (.plain (OpenSpec.upto textBackSpec)) textBackUptoCard

/-- THE SECOND FORM's CARD OF 'jalousielaw02.LabelCats'. -/
def labelCatsUptoCard : Claim7 := { stood := { row := labelCatsUptoRow, standIns := [], harness := (true, "45fa56fc496d2930ec223463920ef50caaf38062a3c38c9f25584e0d43b82f2e"), looks := false }, kinds := [], alts := [], laidByText := true, laidKinds := [.data, .data, .pinned], laidTests := true, laidLooks := .later }
def LabelCatsUptoCardSaid : Prop := Claim7.holds Tryd.pinned (.plain (OpenSpec.upto labelCatsSpec)) labelCatsUptoCard

/-- THE SECOND FORM's CARD OF 'jalousielaw02.LabelTexts'. -/
def labelTextsUptoCard : Claim7 := { stood := { row := labelTextsUptoRow, standIns := [], harness := (true, "45fa56fc496d2930ec223463920ef50caaf38062a3c38c9f25584e0d43b82f2e"), looks := false }, kinds := [], alts := [], laidByText := true, laidKinds := [.data, .data, .pinned], laidTests := true, laidLooks := .later }
def LabelTextsUptoCardSaid : Prop := Claim7.holds Tryd.pinned (.plain (OpenSpec.upto labelTextsSpec)) labelTextsUptoCard

/-- THE SECOND FORM's CARD OF 'jalousielaw02.LabelBack'. -/
def labelBackUptoCard : Claim7 := { stood := { row := labelBackUptoRow, standIns := [], harness := (true, "45fa56fc496d2930ec223463920ef50caaf38062a3c38c9f25584e0d43b82f2e"), looks := false }, kinds := [], alts := [], laidByText := true, laidKinds := [.data, .data, .pinned], laidTests := true, laidLooks := .later }
def LabelBackUptoCardSaid : Prop := Claim7.holds Tryd.pinned (.plain (OpenSpec.upto labelBackSpec)) labelBackUptoCard

/-- THE SECOND FORM's CARD OF 'jalousielaw02.LabelOrder'. -/
def labelOrderUptoCard : Claim7 := { stood := { row := labelOrderUptoRow, standIns := [], harness := (true, "45fa56fc496d2930ec223463920ef50caaf38062a3c38c9f25584e0d43b82f2e"), looks := false }, kinds := [], alts := [], laidByText := true, laidKinds := [.data, .data, .pinned], laidTests := true, laidLooks := .later }
def LabelOrderUptoCardSaid : Prop := Claim7.holds Tryd.pinned (.plain (OpenSpec.upto labelOrderSpec)) labelOrderUptoCard

/-- THE SECOND FORM's CARD OF 'jalousielaw02.LabelLattice'. -/
def labelLatticeUptoCard : Claim7 := { stood := { row := labelLatticeUptoRow, standIns := [], harness := (true, "45fa56fc496d2930ec223463920ef50caaf38062a3c38c9f25584e0d43b82f2e"), looks := false }, kinds := [], alts := [], laidByText := true, laidKinds := [.data, .data, .pinned], laidTests := true, laidLooks := .later }
def LabelLatticeUptoCardSaid : Prop := Claim7.holds Tryd.pinned (.plain (OpenSpec.upto labelLatticeSpec)) labelLatticeUptoCard

/-- THE SECOND FORM's CARD OF 'jalousielaw02.LabelAlgebra'. -/
def labelAlgebraUptoCard : Claim7 := { stood := { row := labelAlgebraUptoRow, standIns := [], harness := (true, "45fa56fc496d2930ec223463920ef50caaf38062a3c38c9f25584e0d43b82f2e"), looks := false }, kinds := [], alts := [], laidByText := true, laidKinds := [.data, .data, .pinned], laidTests := true, laidLooks := .later }
def LabelAlgebraUptoCardSaid : Prop := Claim7.holds Tryd.pinned (.plain (OpenSpec.upto labelAlgebraSpec)) labelAlgebraUptoCard

/-- THE SECOND FORM's CARD OF 'jalousielaw02.LabelCut'. -/
def labelCutUptoCard : Claim7 := { stood := { row := labelCutUptoRow, standIns := [], harness := (true, "45fa56fc496d2930ec223463920ef50caaf38062a3c38c9f25584e0d43b82f2e"), looks := false }, kinds := [], alts := [], laidByText := true, laidKinds := [.data, .data, .pinned], laidTests := true, laidLooks := .later }
def LabelCutUptoCardSaid : Prop := Claim7.holds Tryd.pinned (.plain (OpenSpec.upto labelCutSpec)) labelCutUptoCard
end Rows
end Go.Proofs.YtlhodalfbmdnnaaDoor
