/-
  DERIVED. GIVEN WITH THE SEED: THE CARDS: each row of YtfpfdmenhgageaaDoorRows.lean that lists a variable, with what it lists TIED to the program's text (the seventh form; the later family's looks); each row that meets fmt, with fmt's text TOLD by the authors' own Lean function (tested against real Go, not proved from fmt's source: count such statements apart). THE CARD IS WHAT COUNTS. Prove the row's statement (the work); the ties are given (YtfpfdmenhgageaaDoorTie.lean); close each card by the builder's one call (the guide's Derived/Test/ToyasCard.lean, 'card_holds'). Laid BY PROGRAM, IN A SANDBOX (cutbox-door.mjs). By AI agents, Wed Nov 11 2026. No macro, syntax, notation, axiom, sorry.
-/
import Derived.Test.YtfpfdmenhgageaaDoorRows
import GoSem.ClaimSeven
namespace Go.Proofs.YtfpfdmenhgageaaDoor
namespace Rows

/-- THE TIED CARD OF 'cognatelaw24.CorpusPlaces'. -/
def corpusPlacesCard : Claim7 := { stood := { row := corpusPlacesRow, standIns := [], harness := (true, "aa35884ca752636ec932c6eae968f027aff2afe29cc4dfb3c0e240644c44f690"), looks := false }, kinds := [], alts := [], laidByText := true, laidKinds := [.data, .pinned], laidTests := true, laidLooks := .later }
def CorpusPlacesCardSaid : Prop := Claim7.holds Tryd.pinned (.plain (OpenSpec.ofChange corpusPlacesSpec)) corpusPlacesCard

/-- THE TIED CARD OF 'cognatelaw24.CorpusLines'. -/
def corpusLinesCard : Claim7 := { stood := { row := corpusLinesRow, standIns := [], harness := (true, "aa35884ca752636ec932c6eae968f027aff2afe29cc4dfb3c0e240644c44f690"), looks := false }, kinds := [], alts := [], laidByText := true, laidKinds := [.data, .pinned], laidTests := true, laidLooks := .later }
def CorpusLinesCardSaid : Prop := Claim7.holds Tryd.pinned (.plain (OpenSpec.ofChange corpusLinesSpec)) corpusLinesCard

/-- THE TIED CARD OF 'cognatelaw03.WordLetters'. -/
def wordLettersCard : Claim7 := { stood := { row := wordLettersRow, standIns := [], harness := (true, "aa35884ca752636ec932c6eae968f027aff2afe29cc4dfb3c0e240644c44f690"), looks := false }, kinds := [], alts := [], laidByText := true, laidKinds := [.data, .pinned], laidTests := true, laidLooks := .later }
def WordLettersCardSaid : Prop := Claim7.holds Tryd.pinned (.plain (OpenSpec.ofChange wordLettersSpec)) wordLettersCard

/-- THE TIED CARD OF 'cognatelaw03.WordPeaks'. -/
def wordPeaksCard : Claim7 := { stood := { row := wordPeaksRow, standIns := [], harness := (true, "aa35884ca752636ec932c6eae968f027aff2afe29cc4dfb3c0e240644c44f690"), looks := false }, kinds := [], alts := [], laidByText := true, laidKinds := [.data, .pinned], laidTests := true, laidLooks := .later }
def WordPeaksCardSaid : Prop := Claim7.holds Tryd.pinned (.plain (OpenSpec.ofChange wordPeaksSpec)) wordPeaksCard

/-- THE TIED CARD OF 'cognatelaw03.WordParts'. -/
def wordPartsCard : Claim7 := { stood := { row := wordPartsRow, standIns := [], harness := (true, "aa35884ca752636ec932c6eae968f027aff2afe29cc4dfb3c0e240644c44f690"), looks := false }, kinds := [], alts := [], laidByText := true, laidKinds := [.data, .pinned], laidTests := true, laidLooks := .later }
def WordPartsCardSaid : Prop := Claim7.holds Tryd.pinned (.plain (OpenSpec.ofChange wordPartsSpec)) wordPartsCard

/-- THE TIED CARD OF 'cognatelaw03.WordSyllables'. -/
def wordSyllablesCard : Claim7 := { stood := { row := wordSyllablesRow, standIns := [], harness := (true, "aa35884ca752636ec932c6eae968f027aff2afe29cc4dfb3c0e240644c44f690"), looks := false }, kinds := [], alts := [], laidByText := true, laidKinds := [.data, .pinned], laidTests := true, laidLooks := .later }
def WordSyllablesCardSaid : Prop := Claim7.holds Tryd.pinned (.plain (OpenSpec.ofChange wordSyllablesSpec)) wordSyllablesCard

/-- THE TIED CARD OF 'cognatelaw03.WordOrder'. -/
def wordOrderCard : Claim7 := { stood := { row := wordOrderRow, standIns := [], harness := (true, "aa35884ca752636ec932c6eae968f027aff2afe29cc4dfb3c0e240644c44f690"), looks := false }, kinds := [], alts := [], laidByText := true, laidKinds := [.data, .pinned], laidTests := true, laidLooks := .later }
def WordOrderCardSaid : Prop := Claim7.holds Tryd.pinned (.plain (OpenSpec.ofChange wordOrderSpec)) wordOrderCard

/-- THE TIED CARD OF 'cognatelaw03.WordRow'. -/
def wordRowCard : Claim7 := { stood := { row := wordRowRow, standIns := [], harness := (true, "aa35884ca752636ec932c6eae968f027aff2afe29cc4dfb3c0e240644c44f690"), looks := false }, kinds := [], alts := [], laidByText := true, laidKinds := [.data, .pinned], laidTests := true, laidLooks := .later }
def WordRowCardSaid : Prop := Claim7.holds Tryd.pinned (.plain (OpenSpec.ofChange wordRowSpec)) wordRowCard

/-- THE TIED CARD OF 'cognatelaw24.CorpusWhole'. -/
def corpusWholeCard : Claim7 := { stood := { row := corpusWholeRow, standIns := [], harness := (true, "aa35884ca752636ec932c6eae968f027aff2afe29cc4dfb3c0e240644c44f690"), looks := false }, kinds := [], alts := [], laidByText := true, laidKinds := [.data, .pinned], laidTests := true, laidLooks := .later }
def CorpusWholeCardSaid : Prop := Claim7.holds Tryd.pinned (.plain (OpenSpec.ofChange corpusWholeSpec)) corpusWholeCard

/-- THE SECOND FORM's CARD OF 'cognatelaw24.CorpusPlaces'. -/
def corpusPlacesUptoCard : Claim7 := { stood := { row := corpusPlacesUptoRow, standIns := [], harness := (true, "aa35884ca752636ec932c6eae968f027aff2afe29cc4dfb3c0e240644c44f690"), looks := false }, kinds := [], alts := [], laidByText := true, laidKinds := [.data, .pinned], laidTests := true, laidLooks := .later }
def CorpusPlacesUptoCardSaid : Prop := Claim7.holds Tryd.pinned (.plain (OpenSpec.upto corpusPlacesSpec)) corpusPlacesUptoCard

/-- THE SECOND FORM's CARD OF 'cognatelaw24.CorpusLines'. -/
def corpusLinesUptoCard : Claim7 := { stood := { row := corpusLinesUptoRow, standIns := [], harness := (true, "aa35884ca752636ec932c6eae968f027aff2afe29cc4dfb3c0e240644c44f690"), looks := false }, kinds := [], alts := [], laidByText := true, laidKinds := [.data, .pinned], laidTests := true, laidLooks := .later }
def CorpusLinesUptoCardSaid : Prop := Claim7.holds Tryd.pinned (.plain (OpenSpec.upto corpusLinesSpec)) corpusLinesUptoCard

/-- THE SECOND FORM's CARD OF 'cognatelaw03.WordLetters'. -/
def wordLettersUptoCard : Claim7 := { stood := { row := wordLettersUptoRow, standIns := [], harness := (true, "aa35884ca752636ec932c6eae968f027aff2afe29cc4dfb3c0e240644c44f690"), looks := false }, kinds := [], alts := [], laidByText := true, laidKinds := [.data, .pinned], laidTests := true, laidLooks := .later }
def WordLettersUptoCardSaid : Prop := Claim7.holds Tryd.pinned (.plain (OpenSpec.upto wordLettersSpec)) wordLettersUptoCard

/-- THE SECOND FORM's CARD OF 'cognatelaw03.WordPeaks'. -/
def wordPeaksUptoCard : Claim7 := { stood := { row := wordPeaksUptoRow, standIns := [], harness := (true, "aa35884ca752636ec932c6eae968f027aff2afe29cc4dfb3c0e240644c44f690"), looks := false }, kinds := [], alts := [], laidByText := true, laidKinds := [.data, .pinned], laidTests := true, laidLooks := .later }
def WordPeaksUptoCardSaid : Prop := Claim7.holds Tryd.pinned (.plain (OpenSpec.upto wordPeaksSpec)) wordPeaksUptoCard

/-- THE SECOND FORM's CARD OF 'cognatelaw03.WordParts'. -/
def wordPartsUptoCard : Claim7 := { stood := { row := wordPartsUptoRow, standIns := [], harness := (true, "aa35884ca752636ec932c6eae968f027aff2afe29cc4dfb3c0e240644c44f690"), looks := false }, kinds := [], alts := [], laidByText := true, laidKinds := [.data, .pinned], laidTests := true, laidLooks := .later }
def WordPartsUptoCardSaid : Prop := Claim7.holds Tryd.pinned (.plain (OpenSpec.upto wordPartsSpec)) wordPartsUptoCard

/-- THE SECOND FORM's CARD OF 'cognatelaw03.WordSyllables'. -/
def wordSyllablesUptoCard : Claim7 := { stood := { row := wordSyllablesUptoRow, standIns := [], harness := (true, "aa35884ca752636ec932c6eae968f027aff2afe29cc4dfb3c0e240644c44f690"), looks := false }, kinds := [], alts := [], laidByText := true, laidKinds := [.data, .pinned], laidTests := true, laidLooks := .later }
def WordSyllablesUptoCardSaid : Prop := Claim7.holds Tryd.pinned (.plain (OpenSpec.upto wordSyllablesSpec)) wordSyllablesUptoCard

/-- THE SECOND FORM's CARD OF 'cognatelaw03.WordOrder'. -/
def wordOrderUptoCard : Claim7 := { stood := { row := wordOrderUptoRow, standIns := [], harness := (true, "aa35884ca752636ec932c6eae968f027aff2afe29cc4dfb3c0e240644c44f690"), looks := false }, kinds := [], alts := [], laidByText := true, laidKinds := [.data, .pinned], laidTests := true, laidLooks := .later }
def WordOrderUptoCardSaid : Prop := Claim7.holds Tryd.pinned (.plain (OpenSpec.upto wordOrderSpec)) wordOrderUptoCard

/-- THE SECOND FORM's CARD OF 'cognatelaw03.WordRow'. -/
def wordRowUptoCard : Claim7 := { stood := { row := wordRowUptoRow, standIns := [], harness := (true, "aa35884ca752636ec932c6eae968f027aff2afe29cc4dfb3c0e240644c44f690"), looks := false }, kinds := [], alts := [], laidByText := true, laidKinds := [.data, .pinned], laidTests := true, laidLooks := .later }
def WordRowUptoCardSaid : Prop := Claim7.holds Tryd.pinned (.plain (OpenSpec.upto wordRowSpec)) wordRowUptoCard

/-- THE SECOND FORM's CARD OF 'cognatelaw24.CorpusWhole'. -/
def corpusWholeUptoCard : Claim7 := { stood := { row := corpusWholeUptoRow, standIns := [], harness := (true, "aa35884ca752636ec932c6eae968f027aff2afe29cc4dfb3c0e240644c44f690"), looks := false }, kinds := [], alts := [], laidByText := true, laidKinds := [.data, .pinned], laidTests := true, laidLooks := .later }
def CorpusWholeUptoCardSaid : Prop := Claim7.holds Tryd.pinned (.plain (OpenSpec.upto corpusWholeSpec)) corpusWholeUptoCard
end Rows
end Go.Proofs.YtfpfdmenhgageaaDoor
