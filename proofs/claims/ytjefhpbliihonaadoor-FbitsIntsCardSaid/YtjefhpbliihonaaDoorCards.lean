/-
  DERIVED. GIVEN WITH THE SEED: THE CARDS: each row of YtjefhpbliihonaaDoorRows.lean that lists a variable, with what it lists TIED to the program's text (the seventh form; the later family's looks); each row that meets fmt, with fmt's text TOLD by the authors' own Lean function (tested against real Go, not proved from fmt's source: count such statements apart). THE CARD IS WHAT COUNTS. Prove the row's statement (the work); the ties are given (YtjefhpbliihonaaDoorTie.lean); close each card by the builder's one call (the guide's Derived/Test/ToyasCard.lean, 'card_holds'). Laid BY PROGRAM, IN A SANDBOX (cutbox-door.mjs). By AI agents, Wed Nov 11 2026. No macro, syntax, notation, axiom, sorry.
-/
import Derived.Test.YtjefhpbliihonaaDoorRows
import GoSem.ClaimSeven
namespace Go.Proofs.YtjefhpbliihonaaDoor
namespace Rows

/-- THE TIED CARD OF 'glossatorlaw05.FbitsWhole'. -/
def fbitsWholeCard : Claim7 := { stood := { row := fbitsWholeRow, standIns := [], harness := (true, "fa8212191f84708d0a7232148ca9ccd56a38fe81f17d6bba3209b0848566a824"), looks := false }, kinds := [], alts := [], laidByText := true, laidKinds := [.data], laidTests := true, laidLooks := .later }
def FbitsWholeCardSaid : Prop := Claim7.holds Tryd.pinned (.plain (OpenSpec.ofChange fbitsWholeSpec)) fbitsWholeCard

/-- THE TIED CARD OF 'glossatorlaw05.FbitsBack'. -/
def fbitsBackCard : Claim7 := { stood := { row := fbitsBackRow, standIns := [], harness := (true, "fa8212191f84708d0a7232148ca9ccd56a38fe81f17d6bba3209b0848566a824"), looks := false }, kinds := [], alts := [], laidByText := true, laidKinds := [.data], laidTests := true, laidLooks := .later }
def FbitsBackCardSaid : Prop := Claim7.holds Tryd.pinned (.plain (OpenSpec.ofChange fbitsBackSpec)) fbitsBackCard

/-- THE TIED CARD OF 'glossatorlaw05.FbitsInts'. -/
def fbitsIntsCard : Claim7 := { stood := { row := fbitsIntsRow, standIns := [], harness := (true, "fa8212191f84708d0a7232148ca9ccd56a38fe81f17d6bba3209b0848566a824"), looks := false }, kinds := [], alts := [], laidByText := true, laidKinds := [.data], laidTests := true, laidLooks := .later }
def FbitsIntsCardSaid : Prop := Claim7.holds Tryd.pinned (.plain (OpenSpec.ofChange fbitsIntsSpec)) fbitsIntsCard

/-- THE SECOND FORM's CARD OF 'glossatorlaw05.FbitsWhole'. -/
def fbitsWholeUptoCard : Claim7 := { stood := { row := fbitsWholeUptoRow, standIns := [], harness := (true, "fa8212191f84708d0a7232148ca9ccd56a38fe81f17d6bba3209b0848566a824"), looks := false }, kinds := [], alts := [], laidByText := true, laidKinds := [.data], laidTests := true, laidLooks := .later }
def FbitsWholeUptoCardSaid : Prop := Claim7.holds Tryd.pinned (.plain (OpenSpec.upto fbitsWholeSpec)) fbitsWholeUptoCard

/-- THE SECOND FORM's CARD OF 'glossatorlaw05.FbitsBack'. -/
def fbitsBackUptoCard : Claim7 := { stood := { row := fbitsBackUptoRow, standIns := [], harness := (true, "fa8212191f84708d0a7232148ca9ccd56a38fe81f17d6bba3209b0848566a824"), looks := false }, kinds := [], alts := [], laidByText := true, laidKinds := [.data], laidTests := true, laidLooks := .later }
def FbitsBackUptoCardSaid : Prop := Claim7.holds Tryd.pinned (.plain (OpenSpec.upto fbitsBackSpec)) fbitsBackUptoCard

/-- THE SECOND FORM's CARD OF 'glossatorlaw05.FbitsInts'. -/
def fbitsIntsUptoCard : Claim7 := { stood := { row := fbitsIntsUptoRow, standIns := [], harness := (true, "fa8212191f84708d0a7232148ca9ccd56a38fe81f17d6bba3209b0848566a824"), looks := false }, kinds := [], alts := [], laidByText := true, laidKinds := [.data], laidTests := true, laidLooks := .later }
def FbitsIntsUptoCardSaid : Prop := Claim7.holds Tryd.pinned (.plain (OpenSpec.upto fbitsIntsSpec)) fbitsIntsUptoCard
end Rows
end Go.Proofs.YtjefhpbliihonaaDoor
