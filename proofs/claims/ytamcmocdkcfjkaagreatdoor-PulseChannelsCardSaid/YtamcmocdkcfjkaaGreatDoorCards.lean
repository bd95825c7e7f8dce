/-
  DERIVED. GIVEN WITH THE SEED: THE CARDS: each row of YtamcmocdkcfjkaaGreatDoorRows.lean that lists a variable, with what it lists TIED to the program's text (the seventh form; the later family's looks); each row that meets fmt, with fmt's text TOLD by the authors' own Lean function (tested against real Go, not proved from fmt's source: count such statements apart). THE CARD IS WHAT COUNTS. Prove the row's statement (the work); the ties are given (YtamcmocdkcfjkaaGreatDoorTie.lean); close each card by the builder's one call (the guide's Derived/Test/ToyasCard.lean, 'card_holds'). Laid BY PROGRAM, IN A SANDBOX (cutbox-door.mjs). By AI agents, Wed Nov 11 2026. No macro, syntax, notation, axiom, sorry.
-/
import Derived.Test.YtamcmocdkcfjkaaGreatDoorRows
import GoSem.ClaimSeven
namespace Go.Proofs.YtamcmocdkcfjkaaGreatDoor
namespace Rows

/-- THE TIED CARD OF 'glideslopelaw07.PulsePairs'. -/
def pulsePairsCard : Claim7 := { stood := { row := pulsePairsRow, standIns := [], harness := (true, "13112dd425a6582c4da7fa69410854ca72779339d2a27130e23efe81aa955f31"), looks := false }, kinds := [], alts := [], laidByText := true, laidKinds := [.data, .data, .data, .data, .funcs, .pinned], laidTests := true, laidLooks := .later }
def PulsePairsCardSaid : Prop := Claim7.holds Tryz.pinned (.plain (OpenSpec.ofChange pulsePairsSpec)) pulsePairsCard

/-- THE TIED CARD OF 'glideslopelaw07.PulseAnswers'. -/
def pulseAnswersCard : Claim7 := { stood := { row := pulseAnswersRow, standIns := [], harness := (true, "13112dd425a6582c4da7fa69410854ca72779339d2a27130e23efe81aa955f31"), looks := false }, kinds := [], alts := [], laidByText := true, laidKinds := [.data, .data, .data, .data, .funcs, .pinned], laidTests := true, laidLooks := .later }
def PulseAnswersCardSaid : Prop := Claim7.holds Tryz.pinned (.plain (OpenSpec.ofChange pulseAnswersSpec)) pulseAnswersCard

/-- THE TIED CARD OF 'glideslopelaw07.PulseReplies'. -/
def pulseRepliesCard : Claim7 := { stood := { row := pulseRepliesRow, standIns := [], harness := (true, "13112dd425a6582c4da7fa69410854ca72779339d2a27130e23efe81aa955f31"), looks := false }, kinds := [], alts := [], laidByText := true, laidKinds := [.data, .data, .data, .data, .funcs, .pinned], laidTests := true, laidLooks := .later }
def PulseRepliesCardSaid : Prop := Claim7.holds Tryz.pinned (.plain (OpenSpec.ofChange pulseRepliesSpec)) pulseRepliesCard

/-- THE TIED CARD OF 'glideslopelaw07.PulseDistances'. -/
def pulseDistancesCard : Claim7 := { stood := { row := pulseDistancesRow, standIns := [], harness := (true, "13112dd425a6582c4da7fa69410854ca72779339d2a27130e23efe81aa955f31"), looks := false }, kinds := [], alts := [], laidByText := true, laidKinds := [.data, .data, .data, .data, .funcs, .pinned], laidTests := true, laidLooks := .later }
def PulseDistancesCardSaid : Prop := Claim7.holds Tryz.pinned (.plain (OpenSpec.ofChange pulseDistancesSpec)) pulseDistancesCard

/-- THE TIED CARD OF 'glideslopelaw07.PulseTracks'. -/
def pulseTracksCard : Claim7 := { stood := { row := pulseTracksRow, standIns := [], harness := (true, "13112dd425a6582c4da7fa69410854ca72779339d2a27130e23efe81aa955f31"), looks := false }, kinds := [], alts := [], laidByText := true, laidKinds := [.data, .data, .data, .data, .funcs, .pinned], laidTests := true, laidLooks := .later }
def PulseTracksCardSaid : Prop := Claim7.holds Tryz.pinned (.plain (OpenSpec.ofChange pulseTracksSpec)) pulseTracksCard

/-- THE TIED CARD OF 'glideslopelaw07.PulseChannels'. -/
def pulseChannelsCard : Claim7 := { stood := { row := pulseChannelsRow, standIns := [], harness := (true, "13112dd425a6582c4da7fa69410854ca72779339d2a27130e23efe81aa955f31"), looks := false }, kinds := [], alts := [], laidByText := true, laidKinds := [.data, .data, .data, .data, .funcs, .pinned], laidTests := true, laidLooks := .later }
def PulseChannelsCardSaid : Prop := Claim7.holds Tryz.pinned (.plain (OpenSpec.ofChange pulseChannelsSpec)) pulseChannelsCard

/-- THE TIED CARD OF 'glideslopelaw07.PulseMarkers'. -/
def pulseMarkersCard : Claim7 := { stood := { row := pulseMarkersRow, standIns := [], harness := (true, "13112dd425a6582c4da7fa69410854ca72779339d2a27130e23efe81aa955f31"), looks := false }, kinds := [], alts := [], laidByText := true, laidKinds := [.data, .data, .data, .data, .funcs, .pinned], laidTests := true, laidLooks := .later }
def PulseMarkersCardSaid : Prop := Claim7.holds Tryz.pinned (.plain (OpenSpec.ofChange pulseMarkersSpec)) pulseMarkersCard

/-- THE TIED CARD OF 'glideslopelaw07.PulseStrings'. -/
def pulseStringsCard : Claim7 := { stood := { row := pulseStringsRow, standIns := [], harness := (true, "13112dd425a6582c4da7fa69410854ca72779339d2a27130e23efe81aa955f31"), looks := false }, kinds := [], alts := [], laidByText := true, laidKinds := [.data, .data, .data, .data, .funcs, .pinned], laidTests := true, laidLooks := .later }
def PulseStringsCardSaid : Prop := Claim7.holds Tryz.pinned (.plain (OpenSpec.ofChange pulseStringsSpec)) pulseStringsCard

/-- THE TIED CARD OF 'glideslopelaw07.PulseOnce'. -/
def pulseOnceCard : Claim7 := { stood := { row := pulseOnceRow, standIns := [], harness := (true, "13112dd425a6582c4da7fa69410854ca72779339d2a27130e23efe81aa955f31"), looks := false }, kinds := [], alts := [], laidByText := true, laidKinds := [.data, .data, .data, .data, .funcs, .pinned], laidTests := true, laidLooks := .later }
def PulseOnceCardSaid : Prop := Claim7.holds Tryz.pinned (.plain (OpenSpec.ofChange pulseOnceSpec)) pulseOnceCard

/-- THE TIED CARD OF 'glideslopelaw07.PulseRanges'. -/
def pulseRangesCard : Claim7 := { stood := { row := pulseRangesRow, standIns := [], harness := (true, "13112dd425a6582c4da7fa69410854ca72779339d2a27130e23efe81aa955f31"), looks := false }, kinds := [], alts := [], laidByText := true, laidKinds := [.data, .data, .data, .data, .funcs, .pinned], laidTests := true, laidLooks := .later }
def PulseRangesCardSaid : Prop := Claim7.holds Tryz.pinned (.plain (OpenSpec.ofChange pulseRangesSpec)) pulseRangesCard

/-- THE TIED CARD OF 'glideslopelaw07.PulseLamps'. -/
def pulseLampsCard : Claim7 := { stood := { row := pulseLampsRow, standIns := [], harness := (true, "13112dd425a6582c4da7fa69410854ca72779339d2a27130e23efe81aa955f31"), looks := false }, kinds := [], alts := [], laidByText := true, laidKinds := [.data, .data, .data, .data, .funcs, .pinned], laidTests := true, laidLooks := .later }
def PulseLampsCardSaid : Prop := Claim7.holds Tryz.pinned (.plain (OpenSpec.ofChange pulseLampsSpec)) pulseLampsCard

/-- THE TIED CARD OF 'glideslopetop.TopPylonHeard'. -/
def topPylonHeardCard : Claim7 := { stood := { row := topPylonHeardRow, standIns := [], harness := (true, "13112dd425a6582c4da7fa69410854ca72779339d2a27130e23efe81aa955f31"), looks := false }, kinds := [], alts := [], laidByText := true, laidKinds := [.data, .funcs], laidTests := true, laidLooks := .later }
def TopPylonHeardCardSaid : Prop := Claim7.holds Tryz.pinned (.plain (OpenSpec.ofChange topPylonHeardSpec)) topPylonHeardCard

/-- THE SECOND FORM's CARD OF 'glideslopelaw07.PulsePairs'. -/
def pulsePairsUptoCard : Claim7 := { stood := { row := pulsePairsUptoRow, standIns := [], harness := (true, "13112dd425a6582c4da7fa69410854ca72779339d2a27130e23efe81aa955f31"), looks := false }, kinds := [], alts := [], laidByText := true, laidKinds := [.data, .data, .data, .data, .funcs, .pinned], laidTests := true, laidLooks := .later }
def PulsePairsUptoCardSaid : Prop := Claim7.holds Tryz.pinned (.plain (OpenSpec.upto pulsePairsSpec)) pulsePairsUptoCard

/-- THE SECOND FORM's CARD OF 'glideslopelaw07.PulseAnswers'. -/
def pulseAnswersUptoCard : Claim7 := { stood := { row := pulseAnswersUptoRow, standIns := [], harness := (true, "13112dd425a6582c4da7fa69410854ca72779339d2a27130e23efe81aa955f31"), looks := false }, kinds := [], alts := [], laidByText := true, laidKinds := [.data, .data, .data, .data, .funcs, .pinned], laidTests := true, laidLooks := .later }
def PulseAnswersUptoCardSaid : Prop := Claim7.holds Tryz.pinned (.plain (OpenSpec.upto pulseAnswersSpec)) pulseAnswersUptoCard

/-- THE SECOND FORM's CARD OF 'glideslopelaw07.PulseReplies'. -/
def pulseRepliesUptoCard : Claim7 := { stood := { row := pulseRepliesUptoRow, standIns := [], harness := (true, "13112dd425a6582c4da7fa69410854ca72779339d2a27130e23efe81aa955f31"), looks := false }, kinds := [], alts := [], laidByText := true, laidKinds := [.data, .data, .data, .data, .funcs, .pinned], laidTests := true, laidLooks := .later }
def PulseRepliesUptoCardSaid : Prop := Claim7.holds Tryz.pinned (.plain (OpenSpec.upto pulseRepliesSpec)) pulseRepliesUptoCard

/-- THE SECOND FORM's CARD OF 'glideslopelaw07.PulseDistances'. -/
def pulseDistancesUptoCard : Claim7 := { stood := { row := pulseDistancesUptoRow, standIns := [], harness := (true, "13112dd425a6582c4da7fa69410854ca72779339d2a27130e23efe81aa955f31"), looks := false }, kinds := [], alts := [], laidByText := true, laidKinds := [.data, .data, .data, .data, .funcs, .pinned], laidTests := true, laidLooks := .later }
def PulseDistancesUptoCardSaid : Prop := Claim7.holds Tryz.pinned (.plain (OpenSpec.upto pulseDistancesSpec)) pulseDistancesUptoCard

/-- THE SECOND FORM's CARD OF 'glideslopelaw07.PulseTracks'. -/
def pulseTracksUptoCard : Claim7 := { stood := { row := pulseTracksUptoRow, standIns := [], harness := (true, "13112dd425a6582c4da7fa69410854ca72779339d2a27130e23efe81aa955f31"), looks := false }, kinds := [], alts := [], laidByText := true, laidKinds := [.data, .data, .data, .data, .funcs, .pinned], laidTests := true, laidLooks := .later }
def PulseTracksUptoCardSaid : Prop := Claim7.holds Tryz.pinned (.plain (OpenSpec.upto pulseTracksSpec)) pulseTracksUptoCard

/-- THE SECOND FORM's CARD OF 'glideslopelaw07.PulseChannels'. -/
def pulseChannelsUptoCard : Claim7 := { stood := { row := pulseChannelsUptoRow, standIns := [], harness := (true, "13112dd425a6582c4da7fa69410854ca72779339d2a27130e23efe81aa955f31"), looks := false }, kinds := [], alts := [], laidByText := true, laidKinds := [.data, .data, .data, .data, .funcs, .pinned], laidTests := true, laidLooks := .later }
def PulseChannelsUptoCardSaid : Prop := Claim7.holds Tryz.pinned (.plain (OpenSpec.upto pulseChannelsSpec)) pulseChannelsUptoCard

/-- THE SECOND FORM's CARD OF 'glideslopelaw07.PulseMarkers'. -/
def pulseMarkersUptoCard : Claim7 := { stood := { row := pulseMarkersUptoRow, standIns := [], harness := (true, "13112dd425a6582c4da7fa69410854ca72779339d2a27130e23efe81aa955f31"), looks := false }, kinds := [], alts := [], laidByText := true, laidKinds := [.data, .data, .data, .data, .funcs, .pinned], laidTests := true, laidLooks := .later }
def PulseMarkersUptoCardSaid : Prop := Claim7.holds Tryz.pinned (.plain (OpenSpec.upto pulseMarkersSpec)) pulseMarkersUptoCard

/-- THE SECOND FORM's CARD OF 'glideslopelaw07.PulseStrings'. -/
def pulseStringsUptoCard : Claim7 := { stood := { row := pulseStringsUptoRow, standIns := [], harness := (true, "13112dd425a6582c4da7fa69410854ca72779339d2a27130e23efe81aa955f31"), looks := false }, kinds := [], alts := [], laidByText := true, laidKinds := [.data, .data, .data, .data, .funcs, .pinned], laidTests := true, laidLooks := .later }
def PulseStringsUptoCardSaid : Prop := Claim7.holds Tryz.pinned (.plain (OpenSpec.upto pulseStringsSpec)) pulseStringsUptoCard

/-- THE SECOND FORM's CARD OF 'glideslopelaw07.PulseOnce'. -/
def pulseOnceUptoCard : Claim7 := { stood := { row := pulseOnceUptoRow, standIns := [], harness := (true, "13112dd425a6582c4da7fa69410854ca72779339d2a27130e23efe81aa955f31"), looks := false }, kinds := [], alts := [], laidByText := true, laidKinds := [.data, .data, .data, .data, .funcs, .pinned], laidTests := true, laidLooks := .later }
def PulseOnceUptoCardSaid : Prop := Claim7.holds Tryz.pinned (.plain (OpenSpec.upto pulseOnceSpec)) pulseOnceUptoCard

/-- THE SECOND FORM's CARD OF 'glideslopelaw07.PulseRanges'. -/
def pulseRangesUptoCard : Claim7 := { stood := { row := pulseRangesUptoRow, standIns := [], harness := (true, "13112dd425a6582c4da7fa69410854ca72779339d2a27130e23efe81aa955f31"), looks := false }, kinds := [], alts := [], laidByText := true, laidKinds := [.data, .data, .data, .data, .funcs, .pinned], laidTests := true, laidLooks := .later }
def PulseRangesUptoCardSaid : Prop := Claim7.holds Tryz.pinned (.plain (OpenSpec.upto pulseRangesSpec)) pulseRangesUptoCard

/-- THE SECOND FORM's CARD OF 'glideslopelaw07.PulseLamps'. -/
def pulseLampsUptoCard : Claim7 := { stood := { row := pulseLampsUptoRow, standIns := [], harness := (true, "13112dd425a6582c4da7fa69410854ca72779339d2a27130e23efe81aa955f31"), looks := false }, kinds := [], alts := [], laidByText := true, laidKinds := [.data, .data, .data, .data, .funcs, .pinned], laidTests := true, laidLooks := .later }
def PulseLampsUptoCardSaid : Prop := Claim7.holds Tryz.pinned (.plain (OpenSpec.upto pulseLampsSpec)) pulseLampsUptoCard

/-- THE SECOND FORM's CARD OF 'glideslopetop.TopPylonHeard'. -/
def topPylonHeardUptoCard : Claim7 := { stood := { row := topPylonHeardUptoRow, standIns := [], harness := (true, "13112dd425a6582c4da7fa69410854ca72779339d2a27130e23efe81aa955f31"), looks := false }, kinds := [], alts := [], laidByText := true, laidKinds := [.data, .funcs], laidTests := true, laidLooks := .later }
def TopPylonHeardUptoCardSaid : Prop := Claim7.holds Tryz.pinned (.plain (OpenSpec.upto topPylonHeardSpec)) topPylonHeardUptoCard
end Rows
end Go.Proofs.YtamcmocdkcfjkaaGreatDoor
