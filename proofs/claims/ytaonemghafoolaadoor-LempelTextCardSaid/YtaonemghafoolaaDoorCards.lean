/-
  DERIVED. GIVEN WITH THE SEED: THE CARDS: each row of YtaonemghafoolaaDoorRows.lean that lists a variable, with what it lists TIED to the program's text (the seventh form; the later family's looks); each row that meets fmt, with fmt's text TOLD by the authors' own Lean function (tested against real Go, not proved from fmt's source: count such statements apart). THE CARD IS WHAT COUNTS. Prove the row's statement (the work); the ties are given (YtaonemghafoolaaDoorTie.lean); close each card by the builder's one call (the guide's Derived/Test/ToyasCard.lean, 'card_holds'). Laid BY PROGRAM, IN A SANDBOX (cutbox-door.mjs). By AI agents, Wed Nov 11 2026. No macro, syntax, notation, axiom, sorry.
-/
import Derived.Test.YtaonemghafoolaaDoorRows
import GoSem.ClaimSeven
namespace Go.Proofs.YtaonemghafoolaaDoor
namespace Rows

/-- THE TIED CARD OF 'demonlaw2.LempelBack'. -/
def lempelBackCard : Claim7 := { stood := { row := lempelBackRow, standIns := [], harness := (true, "4b3f41c3ebdcd2084b282bf008d4715073219b3d1ec54e41e9cc90ab24874a46"), looks := true }, kinds := [], alts := [], laidByText := true, laidKinds := [.sentinel, .sentinel], laidTests := true, laidLooks := .later }
def LempelBackCardSaid : Prop := Claim7.holds Tryd.pinned (.plain (OpenSpec.ofChange lempelBackSpec)) lempelBackCard

/-- THE TIED CARD OF 'demonlaw2.LempelParse'. -/
def lempelParseCard : Claim7 := { stood := { row := lempelParseRow, standIns := [], harness := (true, "4b3f41c3ebdcd2084b282bf008d4715073219b3d1ec54e41e9cc90ab24874a46"), looks := true }, kinds := [], alts := [], laidByText := true, laidKinds := [.handle, .sentinel, .sentinel, .sentinel, .sentinel, .sentinel, .sentinel, .sentinel, .sentinel], laidTests := true, laidLooks := .later }
def LempelParseCardSaid : Prop := Claim7.holds Tryd.pinned (.plain (OpenSpec.ofChange lempelParseSpec)) lempelParseCard

/-- THE TIED CARD OF 'demonlaw2.LempelSlide'. -/
def lempelSlideCard : Claim7 := { stood := { row := lempelSlideRow, standIns := [], harness := (true, "4b3f41c3ebdcd2084b282bf008d4715073219b3d1ec54e41e9cc90ab24874a46"), looks := true }, kinds := [], alts := [], laidByText := true, laidKinds := [.handle, .sentinel, .sentinel, .sentinel, .sentinel, .sentinel, .sentinel, .sentinel, .sentinel], laidTests := true, laidLooks := .later }
def LempelSlideCardSaid : Prop := Claim7.holds Tryd.pinned (.plain (OpenSpec.ofChange lempelSlideSpec)) lempelSlideCard

/-- THE TIED CARD OF 'demonlaw2.LempelUnslide'. -/
def lempelUnslideCard : Claim7 := { stood := { row := lempelUnslideRow, standIns := [], harness := (true, "4b3f41c3ebdcd2084b282bf008d4715073219b3d1ec54e41e9cc90ab24874a46"), looks := true }, kinds := [], alts := [], laidByText := true, laidKinds := [.handle, .sentinel, .sentinel, .sentinel, .sentinel, .sentinel, .sentinel, .sentinel, .sentinel], laidTests := true, laidLooks := .later }
def LempelUnslideCardSaid : Prop := Claim7.holds Tryd.pinned (.plain (OpenSpec.ofChange lempelUnslideSpec)) lempelUnslideCard

/-- THE TIED CARD OF 'demonlaw2.LempelText'. -/
def lempelTextCard : Claim7 := { stood := { row := lempelTextRow, standIns := [], harness := (true, "4b3f41c3ebdcd2084b282bf008d4715073219b3d1ec54e41e9cc90ab24874a46"), looks := true }, kinds := [], alts := [], laidByText := true, laidKinds := [.handle, .sentinel, .sentinel, .sentinel, .sentinel, .sentinel, .sentinel, .sentinel, .sentinel], laidTests := true, laidLooks := .later }
def LempelTextCardSaid : Prop := Claim7.holds Tryd.pinned (.plain (OpenSpec.ofChange lempelTextSpec)) lempelTextCard

/-- THE SECOND FORM's CARD OF 'demonlaw2.LempelBack'. -/
def lempelBackUptoCard : Claim7 := { stood := { row := lempelBackUptoRow, standIns := [], harness := (true, "4b3f41c3ebdcd2084b282bf008d4715073219b3d1ec54e41e9cc90ab24874a46"), looks := true }, kinds := [], alts := [], laidByText := true, laidKinds := [.sentinel, .sentinel], laidTests := true, laidLooks := .later }
def LempelBackUptoCardSaid : Prop := Claim7.holds Tryd.pinned (.plain (OpenSpec.upto lempelBackSpec)) lempelBackUptoCard

/-- THE SECOND FORM's CARD OF 'demonlaw2.LempelParse'. -/
def lempelParseUptoCard : Claim7 := { stood := { row := lempelParseUptoRow, standIns := [], harness := (true, "4b3f41c3ebdcd2084b282bf008d4715073219b3d1ec54e41e9cc90ab24874a46"), looks := true }, kinds := [], alts := [], laidByText := true, laidKinds := [.handle, .sentinel, .sentinel, .sentinel, .sentinel, .sentinel, .sentinel, .sentinel, .sentinel], laidTests := true, laidLooks := .later }
def LempelParseUptoCardSaid : Prop := Claim7.holds Tryd.pinned (.plain (OpenSpec.upto lempelParseSpec)) lempelParseUptoCard

/-- THE SECOND FORM's CARD OF 'demonlaw2.LempelSlide'. -/
def lempelSlideUptoCard : Claim7 := { stood := { row := lempelSlideUptoRow, standIns := [], harness := (true, "4b3f41c3ebdcd2084b282bf008d4715073219b3d1ec54e41e9cc90ab24874a46"), looks := true }, kinds := [], alts := [], laidByText := true, laidKinds := [.handle, .sentinel, .sentinel, .sentinel, .sentinel, .sentinel, .sentinel, .sentinel, .sentinel], laidTests := true, laidLooks := .later }
def LempelSlideUptoCardSaid : Prop := Claim7.holds Tryd.pinned (.plain (OpenSpec.upto lempelSlideSpec)) lempelSlideUptoCard

/-- THE SECOND FORM's CARD OF 'demonlaw2.LempelUnslide'. -/
def lempelUnslideUptoCard : Claim7 := { stood := { row := lempelUnslideUptoRow, standIns := [], harness := (true, "4b3f41c3ebdcd2084b282bf008d4715073219b3d1ec54e41e9cc90ab24874a46"), looks := true }, kinds := [], alts := [], laidByText := true, laidKinds := [.handle, .sentinel, .sentinel, .sentinel, .sentinel, .sentinel, .sentinel, .sentinel, .sentinel], laidTests := true, laidLooks := .later }
def LempelUnslideUptoCardSaid : Prop := Claim7.holds Tryd.pinned (.plain (OpenSpec.upto lempelUnslideSpec)) lempelUnslideUptoCard

/-- THE SECOND FORM's CARD OF 'demonlaw2.LempelText'. -/
def lempelTextUptoCard : Claim7 := { stood := { row := lempelTextUptoRow, standIns := [], harness := (true, "4b3f41c3ebdcd2084b282bf008d4715073219b3d1ec54e41e9cc90ab24874a46"), looks := true }, kinds := [], alts := [], laidByText := true, laidKinds := [.handle, .sentinel, .sentinel, .sentinel, .sentinel, .sentinel, .sentinel, .sentinel, .sentinel], laidTests := true, laidLooks := .later }
def LempelTextUptoCardSaid : Prop := Claim7.holds Tryd.pinned (.plain (OpenSpec.upto lempelTextSpec)) lempelTextUptoCard
end Rows
end Go.Proofs.YtaonemghafoolaaDoor
