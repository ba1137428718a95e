/-
  DERIVED. GIVEN WITH THE SEED: THE CARDS: each row of YtcmgimicdcchlaaGreatDoorRows.lean that lists a variable, with what it lists TIED to the program's text (the seventh form; the later family's looks); each row that meets fmt, with fmt's text TOLD by the authors' own Lean function (tested against real Go, not proved from fmt's source: count such statements apart). THE CARD IS WHAT COUNTS. Prove the row's statement (the work); the ties are given (YtcmgimicdcchlaaGreatDoorTie.lean); close each card by the builder's one call (the guide's Derived/Test/ToyasCard.lean, 'card_holds'). Laid BY PROGRAM, IN A SANDBOX (cutbox-door.mjs). By AI agents, Wed Nov 11 2026. No macro, syntax, notation, axiom, sorry.
-/
import Derived.Test.YtcmgimicdcchlaaGreatDoorRows
import GoSem.ClaimSeven
namespace Go.Proofs.YtcmgimicdcchlaaGreatDoor
namespace Rows

/-- THE TIED CARD OF 'seneschallaw29.TermSound'. -/
def termSoundCard : Claim7 := { stood := { row := termSoundRow, standIns := [], harness := (true, "570360c7a13d003eb0457c4552b3f8f50edc25455b7b637042eabf5b95df793c"), looks := true }, kinds := [], alts := [], laidByText := true, laidKinds := [.data, .data, .data, .data, .handle], laidTests := true, laidLooks := .later }
def TermSoundCardSaid : Prop := Claim7.holds Tryz.pinned (.plain (OpenSpec.ofChange termSoundSpec)) termSoundCard

/-- THE TIED CARD OF 'seneschallaw29.TermBytes'. -/
def termBytesCard : Claim7 := { stood := { row := termBytesRow, standIns := [], harness := (true, "570360c7a13d003eb0457c4552b3f8f50edc25455b7b637042eabf5b95df793c"), looks := true }, kinds := [], alts := [], laidByText := true, laidKinds := [.data, .data, .data, .data, .handle], laidTests := true, laidLooks := .later }
def TermBytesCardSaid : Prop := Claim7.holds Tryz.pinned (.plain (OpenSpec.ofChange termBytesSpec)) termBytesCard

/-- THE TIED CARD OF 'seneschallaw29.TermKnows'. -/
def termKnowsCard : Claim7 := { stood := { row := termKnowsRow, standIns := [], harness := (true, "570360c7a13d003eb0457c4552b3f8f50edc25455b7b637042eabf5b95df793c"), looks := true }, kinds := [], alts := [], laidByText := true, laidKinds := [.data, .data, .data, .data, .handle], laidTests := true, laidLooks := .later }
def TermKnowsCardSaid : Prop := Claim7.holds Tryz.pinned (.plain (OpenSpec.ofChange termKnowsSpec)) termKnowsCard

/-- THE TIED CARD OF 'seneschallaw20.TicketBytes'. -/
def ticketBytesCard : Claim7 := { stood := { row := ticketBytesRow, standIns := [], harness := (true, "570360c7a13d003eb0457c4552b3f8f50edc25455b7b637042eabf5b95df793c"), looks := true }, kinds := [], alts := [], laidByText := true, laidKinds := [.data, .data, .data, .data, .handle], laidTests := true, laidLooks := .later }
def TicketBytesCardSaid : Prop := Claim7.holds Tryz.pinned (.plain (OpenSpec.ofChange ticketBytesSpec)) ticketBytesCard

/-- THE TIED CARD OF 'seneschallaw20.TicketJudges'. -/
def ticketJudgesCard : Claim7 := { stood := { row := ticketJudgesRow, standIns := [], harness := (true, "570360c7a13d003eb0457c4552b3f8f50edc25455b7b637042eabf5b95df793c"), looks := true }, kinds := [], alts := [], laidByText := true, laidKinds := [.data, .data, .data, .data, .handle], laidTests := true, laidLooks := .later }
def TicketJudgesCardSaid : Prop := Claim7.holds Tryz.pinned (.plain (OpenSpec.ofChange ticketJudgesSpec)) ticketJudgesCard

/-- THE TIED CARD OF 'seneschallaw20.TicketBack'. -/
def ticketBackCard : Claim7 := { stood := { row := ticketBackRow, standIns := [], harness := (true, "570360c7a13d003eb0457c4552b3f8f50edc25455b7b637042eabf5b95df793c"), looks := true }, kinds := [], alts := [], laidByText := true, laidKinds := [.data, .data, .data, .data, .handle], laidTests := true, laidLooks := .later }
def TicketBackCardSaid : Prop := Claim7.holds Tryz.pinned (.plain (OpenSpec.ofChange ticketBackSpec)) ticketBackCard

/-- THE TIED CARD OF 'seneschallaw20.TicketWithin'. -/
def ticketWithinCard : Claim7 := { stood := { row := ticketWithinRow, standIns := [], harness := (true, "570360c7a13d003eb0457c4552b3f8f50edc25455b7b637042eabf5b95df793c"), looks := true }, kinds := [], alts := [], laidByText := true, laidKinds := [.data, .data, .data, .data, .handle], laidTests := true, laidLooks := .later }
def TicketWithinCardSaid : Prop := Claim7.holds Tryz.pinned (.plain (OpenSpec.ofChange ticketWithinSpec)) ticketWithinCard

/-- THE TIED CARD OF 'seneschallaw20.TicketSeals'. -/
def ticketSealsCard : Claim7 := { stood := { row := ticketSealsRow, standIns := [], harness := (true, "570360c7a13d003eb0457c4552b3f8f50edc25455b7b637042eabf5b95df793c"), looks := true }, kinds := [], alts := [], laidByText := true, laidKinds := [.data, .data, .data, .data, .handle], laidTests := true, laidLooks := .later }
def TicketSealsCardSaid : Prop := Claim7.holds Tryz.pinned (.plain (OpenSpec.ofChange ticketSealsSpec)) ticketSealsCard

/-- THE TIED CARD OF 'seneschallaw20.TicketOpens'. -/
def ticketOpensCard : Claim7 := { stood := { row := ticketOpensRow, standIns := [], harness := (true, "570360c7a13d003eb0457c4552b3f8f50edc25455b7b637042eabf5b95df793c"), looks := true }, kinds := [], alts := [], laidByText := true, laidKinds := [.data, .data, .data, .data, .handle], laidTests := true, laidLooks := .later }
def TicketOpensCardSaid : Prop := Claim7.holds Tryz.pinned (.plain (OpenSpec.ofChange ticketOpensSpec)) ticketOpensCard

/-- THE TIED CARD OF 'seneschallaw20.TicketAnswers'. -/
def ticketAnswersCard : Claim7 := { stood := { row := ticketAnswersRow, standIns := [], harness := (true, "570360c7a13d003eb0457c4552b3f8f50edc25455b7b637042eabf5b95df793c"), looks := true }, kinds := [], alts := [], laidByText := true, laidKinds := [.data, .data, .data, .data, .handle], laidTests := true, laidLooks := .later }
def TicketAnswersCardSaid : Prop := Claim7.holds Tryz.pinned (.plain (OpenSpec.ofChange ticketAnswersSpec)) ticketAnswersCard

/-- THE SECOND FORM's CARD OF 'seneschallaw29.TermSound'. -/
def termSoundUptoCard : Claim7 := { stood := { row := termSoundUptoRow, standIns := [], harness := (true, "570360c7a13d003eb0457c4552b3f8f50edc25455b7b637042eabf5b95df793c"), looks := true }, kinds := [], alts := [], laidByText := true, laidKinds := [.data, .data, .data, .data, .handle], laidTests := true, laidLooks := .later }
def TermSoundUptoCardSaid : Prop := Claim7.holds Tryz.pinned (.plain (OpenSpec.upto termSoundSpec)) termSoundUptoCard

/-- THE SECOND FORM's CARD OF 'seneschallaw29.TermBytes'. -/
def termBytesUptoCard : Claim7 := { stood := { row := termBytesUptoRow, standIns := [], harness := (true, "570360c7a13d003eb0457c4552b3f8f50edc25455b7b637042eabf5b95df793c"), looks := true }, kinds := [], alts := [], laidByText := true, laidKinds := [.data, .data, .data, .data, .handle], laidTests := true, laidLooks := .later }
def TermBytesUptoCardSaid : Prop := Claim7.holds Tryz.pinned (.plain (OpenSpec.upto termBytesSpec)) termBytesUptoCard

/-- THE SECOND FORM's CARD OF 'seneschallaw29.TermKnows'. -/
def termKnowsUptoCard : Claim7 := { stood := { row := termKnowsUptoRow, standIns := [], harness := (true, "570360c7a13d003eb0457c4552b3f8f50edc25455b7b637042eabf5b95df793c"), looks := true }, kinds := [], alts := [], laidByText := true, laidKinds := [.data, .data, .data, .data, .handle], laidTests := true, laidLooks := .later }
def TermKnowsUptoCardSaid : Prop := Claim7.holds Tryz.pinned (.plain (OpenSpec.upto termKnowsSpec)) termKnowsUptoCard

/-- THE SECOND FORM's CARD OF 'seneschallaw20.TicketBytes'. -/
def ticketBytesUptoCard : Claim7 := { stood := { row := ticketBytesUptoRow, standIns := [], harness := (true, "570360c7a13d003eb0457c4552b3f8f50edc25455b7b637042eabf5b95df793c"), looks := true }, kinds := [], alts := [], laidByText := true, laidKinds := [.data, .data, .data, .data, .handle], laidTests := true, laidLooks := .later }
def TicketBytesUptoCardSaid : Prop := Claim7.holds Tryz.pinned (.plain (OpenSpec.upto ticketBytesSpec)) ticketBytesUptoCard

/-- THE SECOND FORM's CARD OF 'seneschallaw20.TicketJudges'. -/
def ticketJudgesUptoCard : Claim7 := { stood := { row := ticketJudgesUptoRow, standIns := [], harness := (true, "570360c7a13d003eb0457c4552b3f8f50edc25455b7b637042eabf5b95df793c"), looks := true }, kinds := [], alts := [], laidByText := true, laidKinds := [.data, .data, .data, .data, .handle], laidTests := true, laidLooks := .later }
def TicketJudgesUptoCardSaid : Prop := Claim7.holds Tryz.pinned (.plain (OpenSpec.upto ticketJudgesSpec)) ticketJudgesUptoCard

/-- THE SECOND FORM's CARD OF 'seneschallaw20.TicketBack'. -/
def ticketBackUptoCard : Claim7 := { stood := { row := ticketBackUptoRow, standIns := [], harness := (true, "570360c7a13d003eb0457c4552b3f8f50edc25455b7b637042eabf5b95df793c"), looks := true }, kinds := [], alts := [], laidByText := true, laidKinds := [.data, .data, .data, .data, .handle], laidTests := true, laidLooks := .later }
def TicketBackUptoCardSaid : Prop := Claim7.holds Tryz.pinned (.plain (OpenSpec.upto ticketBackSpec)) ticketBackUptoCard

/-- THE SECOND FORM's CARD OF 'seneschallaw20.TicketWithin'. -/
def ticketWithinUptoCard : Claim7 := { stood := { row := ticketWithinUptoRow, standIns := [], harness := (true, "570360c7a13d003eb0457c4552b3f8f50edc25455b7b637042eabf5b95df793c"), looks := true }, kinds := [], alts := [], laidByText := true, laidKinds := [.data, .data, .data, .data, .handle], laidTests := true, laidLooks := .later }
def TicketWithinUptoCardSaid : Prop := Claim7.holds Tryz.pinned (.plain (OpenSpec.upto ticketWithinSpec)) ticketWithinUptoCard

/-- THE SECOND FORM's CARD OF 'seneschallaw20.TicketSeals'. -/
def ticketSealsUptoCard : Claim7 := { stood := { row := ticketSealsUptoRow, standIns := [], harness := (true, "570360c7a13d003eb0457c4552b3f8f50edc25455b7b637042eabf5b95df793c"), looks := true }, kinds := [], alts := [], laidByText := true, laidKinds := [.data, .data, .data, .data, .handle], laidTests := true, laidLooks := .later }
def TicketSealsUptoCardSaid : Prop := Claim7.holds Tryz.pinned (.plain (OpenSpec.upto ticketSealsSpec)) ticketSealsUptoCard

/-- THE SECOND FORM's CARD OF 'seneschallaw20.TicketOpens'. -/
def ticketOpensUptoCard : Claim7 := { stood := { row := ticketOpensUptoRow, standIns := [], harness := (true, "570360c7a13d003eb0457c4552b3f8f50edc25455b7b637042eabf5b95df793c"), looks := true }, kinds := [], alts := [], laidByText := true, laidKinds := [.data, .data, .data, .data, .handle], laidTests := true, laidLooks := .later }
def TicketOpensUptoCardSaid : Prop := Claim7.holds Tryz.pinned (.plain (OpenSpec.upto ticketOpensSpec)) ticketOpensUptoCard

/-- THE SECOND FORM's CARD OF 'seneschallaw20.TicketAnswers'. -/
def ticketAnswersUptoCard : Claim7 := { stood := { row := ticketAnswersUptoRow, standIns := [], harness := (true, "570360c7a13d003eb0457c4552b3f8f50edc25455b7b637042eabf5b95df793c"), looks := true }, kinds := [], alts := [], laidByText := true, laidKinds := [.data, .data, .data, .data, .handle], laidTests := true, laidLooks := .later }
def TicketAnswersUptoCardSaid : Prop := Claim7.holds Tryz.pinned (.plain (OpenSpec.upto ticketAnswersSpec)) ticketAnswersUptoCard
end Rows
end Go.Proofs.YtcmgimicdcchlaaGreatDoor
