/-
  DERIVED. GIVEN WITH THE SEED: THE CARDS: each row of YtalnkpdahpjmmaaDoorRows.lean that lists a variable, with what it lists TIED to the program's text (the seventh form; the later family's looks); each row that meets fmt, with fmt's text TOLD by the authors' own Lean function (tested against real Go, not proved from fmt's source: count such statements apart). THE CARD IS WHAT COUNTS. Prove the row's statement (the work); the ties are given (YtalnkpdahpjmmaaDoorTie.lean); close each card by the builder's one call (the guide's Derived/Test/ToyasCard.lean, 'card_holds'). Laid BY PROGRAM, IN A SANDBOX (cutbox-door.mjs). By AI agents, Wed Nov 11 2026. No macro, syntax, notation, axiom, sorry.
-/
import Derived.Test.YtalnkpdahpjmmaaDoorRows
import GoSem.ClaimSeven
namespace Go.Proofs.YtalnkpdahpjmmaaDoor
namespace Rows

/-- THE TIED CARD OF 'veillaw06.AlgebraBoth'. -/
def algebraBothCard : Claim7 := { stood := { row := algebraBothRow, standIns := [], harness := (true, "ad3925e62a4e185ee4dbacf925c0a26ec58111b352a821a1569415cfa823f099"), looks := true }, kinds := [], alts := [], laidByText := true, laidKinds := [.data], laidTests := true, laidLooks := .later }
def AlgebraBothCardSaid : Prop := Claim7.holds Tryd.pinned (.plain (OpenSpec.ofChange algebraBothSpec)) algebraBothCard

/-- THE TIED CARD OF 'veillaw09.GensPrefix'. -/
def gensPrefixCard : Claim7 := { stood := { row := gensPrefixRow, standIns := [], harness := (true, "ad3925e62a4e185ee4dbacf925c0a26ec58111b352a821a1569415cfa823f099"), looks := true }, kinds := [], alts := [], laidByText := true, laidKinds := [.data, .data, .data, .wider, .data, .data], laidTests := true, laidLooks := .later }
def GensPrefixCardSaid : Prop := Claim7.holds Tryd.pinned (.plain (OpenSpec.ofChange gensPrefixSpec)) gensPrefixCard

/-- THE SECOND FORM's CARD OF 'veillaw06.AlgebraBoth'. -/
def algebraBothUptoCard : Claim7 := { stood := { row := algebraBothUptoRow, standIns := [], harness := (true, "ad3925e62a4e185ee4dbacf925c0a26ec58111b352a821a1569415cfa823f099"), looks := true }, kinds := [], alts := [], laidByText := true, laidKinds := [.data], laidTests := true, laidLooks := .later }
def AlgebraBothUptoCardSaid : Prop := Claim7.holds Tryd.pinned (.plain (OpenSpec.upto algebraBothSpec)) algebraBothUptoCard

/-- THE SECOND FORM's CARD OF 'veillaw09.GensPrefix'. -/
def gensPrefixUptoCard : Claim7 := { stood := { row := gensPrefixUptoRow, standIns := [], harness := (true, "ad3925e62a4e185ee4dbacf925c0a26ec58111b352a821a1569415cfa823f099"), looks := true }, kinds := [], alts := [], laidByText := true, laidKinds := [.data, .data, .data, .wider, .data, .data], laidTests := true, laidLooks := .later }
def GensPrefixUptoCardSaid : Prop := Claim7.holds Tryd.pinned (.plain (OpenSpec.upto gensPrefixSpec)) gensPrefixUptoCard
end Rows
end Go.Proofs.YtalnkpdahpjmmaaDoor
