/-
  NARROWER THAN 'FOR EVERY INPUT', by the rows' own cells (each row's printed sentence says how): PulsePairs: laid · PulseAnswers: laid · PulseReplies: laid · PulseDistances: laid · PulseTracks: laid · PulseChannels: laid · PulseMarkers: laid · PulseStrings: laid · PulseOnce: laid · PulseRanges: laid · PulseLamps: laid · TopPylonHeard: laid.
  DERIVED. THE GIVEN ROWS OF THIS SEAT. 12 by the template 'for every input the law returns true; each argument reads behind the call as it read before'; 0 by the template 'total and deterministic' (their statements: YtamcmocdkcfjkaaGreatDoorTotals.lean).
  GIVEN WITH THE SEED: the statements are not yours to turn. If you find one false, say at which input.
  Laid BY PROGRAM, IN A SANDBOX (cutbox-rows.mjs): the forced cells as the released guide's own fill.sh prints them over the translation 25a32a8dee3fde38… (all of the seat's roots in one cut). By AI agents, Wed Nov 11 2026. No macro, syntax, notation, axiom, sorry.
-/
import Derived.Test.YtamcmocdkcfjkaaGreatDoorChecked
import GoSem.PinnedTables
import GoSem.Claim
import GoSem.ClaimJoined
import GoSem.ClaimMapViews
import Derived.JoinedTies
import Derived.KernelRfl
namespace Go.Proofs.YtamcmocdkcfjkaaGreatDoor
/- THE CELL 'sum', in the pinned program and in every row, IS THE sha256 OF THE DUMP (.gsa) THAT YtamcmocdkcfjkaaGreatDoorProg.lean LOADS. Nothing in Lean hashes anything: it is a label: what it is worth is what the hold of that sum in a sandbox is worth. -/
noncomputable def Tryz.pinned : Pinned := { name := "ytamcmocdkcfjkaagreatdoor", sum := "25a32a8dee3fde384fb7bf52187e72da457a830cbc55f0c998c3a7cb8a31180a", checked := Tryz.checked }
namespace Rows
def none {H : Type} : Left H := { results := [], args := [] }

/- WHAT THE LISTED PACKAGE-LEVEL VARIABLES READ AS WHEN THE CALL BEGINS. Each datum BY PROGRAM (the guide's laid-datum.mjs) off the statement by which the dump's own 'gosem.cut.vars' lays the variable. In a bare row this is a premise. The card (YtamcmocdkcfjkaaGreatDoorCards.lean) ties it to the program's text. -/
def laid_math_bits_deBruijn32tab {H : Type} : DataW H := .agg [.lit (.int .u8 0), .lit (.int .u8 1), .lit (.int .u8 28), .lit (.int .u8 2), .lit (.int .u8 29), .lit (.int .u8 14), .lit (.int .u8 24), .lit (.int .u8 3), .lit (.int .u8 30), .lit (.int .u8 22), .lit (.int .u8 20), .lit (.int .u8 15), .lit (.int .u8 25), .lit (.int .u8 17), .lit (.int .u8 4), .lit (.int .u8 8), .lit (.int .u8 31), .lit (.int .u8 27), .lit (.int .u8 13), .lit (.int .u8 23), .lit (.int .u8 21), .lit (.int .u8 19), .lit (.int .u8 16), .lit (.int .u8 7), .lit (.int .u8 26), .lit (.int .u8 12), .lit (.int .u8 18), .lit (.int .u8 6), .lit (.int .u8 11), .lit (.int .u8 5), .lit (.int .u8 10), .lit (.int .u8 9)]
def laid_math_bits_deBruijn64tab {H : Type} : DataW H := .agg [.lit (.int .u8 0), .lit (.int .u8 1), .lit (.int .u8 56), .lit (.int .u8 2), .lit (.int .u8 57), .lit (.int .u8 49), .lit (.int .u8 28), .lit (.int .u8 3), .lit (.int .u8 61), .lit (.int .u8 58), .lit (.int .u8 42), .lit (.int .u8 50), .lit (.int .u8 38), .lit (.int .u8 29), .lit (.int .u8 17), .lit (.int .u8 4), .lit (.int .u8 62), .lit (.int .u8 47), .lit (.int .u8 59), .lit (.int .u8 36), .lit (.int .u8 45), .lit (.int .u8 43), .lit (.int .u8 51), .lit (.int .u8 22), .lit (.int .u8 53), .lit (.int .u8 39), .lit (.int .u8 33), .lit (.int .u8 30), .lit (.int .u8 24), .lit (.int .u8 18), .lit (.int .u8 12), .lit (.int .u8 5), .lit (.int .u8 63), .lit (.int .u8 55), .lit (.int .u8 48), .lit (.int .u8 27), .lit (.int .u8 60), .lit (.int .u8 41), .lit (.int .u8 37), .lit (.int .u8 16), .lit (.int .u8 46), .lit (.int .u8 35), .lit (.int .u8 44), .lit (.int .u8 21), .lit (.int .u8 52), .lit (.int .u8 32), .lit (.int .u8 23), .lit (.int .u8 11), .lit (.int .u8 54), .lit (.int .u8 26), .lit (.int .u8 40), .lit (.int .u8 15), .lit (.int .u8 34), .lit (.int .u8 20), .lit (.int .u8 31), .lit (.int .u8 10), .lit (.int .u8 25), .lit (.int .u8 14), .lit (.int .u8 19), .lit (.int .u8 9), .lit (.int .u8 13), .lit (.int .u8 8), .lit (.int .u8 7), .lit (.int .u8 6)]
def laid_internal_strconv_uint64pow10 {H : Type} : DataW H := .agg [.lit (.int .u64 1), .lit (.int .u64 10), .lit (.int .u64 100), .lit (.int .u64 1000), .lit (.int .u64 10000), .lit (.int .u64 100000), .lit (.int .u64 1000000), .lit (.int .u64 10000000), .lit (.int .u64 100000000), .lit (.int .u64 1000000000), .lit (.int .u64 10000000000), .lit (.int .u64 100000000000), .lit (.int .u64 1000000000000), .lit (.int .u64 10000000000000), .lit (.int .u64 100000000000000), .lit (.int .u64 1000000000000000), .lit (.int .u64 10000000000000000), .lit (.int .u64 100000000000000000), .lit (.int .u64 1000000000000000000), .lit (.int .u64 10000000000000000000)]
def laid_unicode_utf8_acceptRanges {H : Type} : DataW H := .agg [.agg [.lit (.int .u8 128), .lit (.int .u8 191)], .agg [.lit (.int .u8 160), .lit (.int .u8 191)], .agg [.lit (.int .u8 128), .lit (.int .u8 159)], .agg [.lit (.int .u8 144), .lit (.int .u8 191)], .agg [.lit (.int .u8 128), .lit (.int .u8 143)], .agg [.lit (.int .u8 0), .lit (.int .u8 0)], .agg [.lit (.int .u8 0), .lit (.int .u8 0)], .agg [.lit (.int .u8 0), .lit (.int .u8 0)], .agg [.lit (.int .u8 0), .lit (.int .u8 0)], .agg [.lit (.int .u8 0), .lit (.int .u8 0)], .agg [.lit (.int .u8 0), .lit (.int .u8 0)], .agg [.lit (.int .u8 0), .lit (.int .u8 0)], .agg [.lit (.int .u8 0), .lit (.int .u8 0)], .agg [.lit (.int .u8 0), .lit (.int .u8 0)], .agg [.lit (.int .u8 0), .lit (.int .u8 0)], .agg [.lit (.int .u8 0), .lit (.int .u8 0)]]
def laid_glideslope_pulse_reasons {H : Type} : DataW H := .iface "func table" (.agg [.agg [.lit (.string [100, 101, 97, 100]), .iface "func" (.lit (.string [103, 108, 105, 100, 101, 115, 108, 111, 112, 101, 47, 112, 117, 108, 115, 101, 46, 114, 101, 97, 115, 111, 110, 115, 36, 49]))], .agg [.lit (.string [101, 99, 104, 111]), .iface "func" (.lit (.string [103, 108, 105, 100, 101, 115, 108, 111, 112, 101, 47, 112, 117, 108, 115, 101, 46, 114, 101, 97, 115, 111, 110, 115, 36, 50]))], .agg [.lit (.string [108, 111, 97, 100]), .iface "func" (.lit (.string [103, 108, 105, 100, 101, 115, 108, 111, 112, 101, 47, 112, 117, 108, 115, 101, 46, 114, 101, 97, 115, 111, 110, 115, 36, 51]))]])
/-- One of Go's own tables, pinned by name: the form's constant. -/
def laid_unicode_utf8_first : DataW Unit := Go.Pinned.utf8First
def laid_glideslope_record_nothing {H : Type} : DataW H := .agg [.lit (.int .i64 (-1)), .lit (.int .i64 0), .lit (.int .i64 0), .agg [.lit (.float .f32 0), .lit (.float .f32 0), .lit (.float .f32 0), .lit (.float .f32 0), .lit (.float .f32 0), .lit (.float .f32 0), .lit (.float .f32 0), .lit (.float .f32 0)]]

/-- 'glideslopelaw07.PulsePairs': WHATEVER THE INPUT: true; the input reads as it did. -/
def pulsePairsSpec : ChangeSpec := { name := "pulsePairs", fn := fun _ => fun
  | [d1, d2] => { results := [.lit (.bool true)], args := [d1, d2] }
  | _ => none }
def pulsePairsRow : OpenClaim := { program := "ytamcmocdkcfjkaagreatdoor", sum := "25a32a8dee3fde384fb7bf52187e72da457a830cbc55f0c998c3a7cb8a31180a", func := "glideslope/glideslopelaw07.PulsePairs", spec := "pulsePairs", inPlace := ["internal/abi.NoEscape", "internal/bytealg.MakeNoZero", "internal/bytealg.IndexByteString", "internal/bytealg.IndexString", "internal/bytealg.CountString"], unfollowed := true, recurses := true, named := ["glideslope/pulse.reasons", "internal/strconv.uint64pow10", "math/bits.deBruijn32tab", "math/bits.deBruijn64tab", "internal/bytealg.MaxLen", "unicode/utf8.first", "unicode/utf8.acceptRanges"], apart := false, laid := [("math/bits.deBruijn32tab", laid_math_bits_deBruijn32tab), ("math/bits.deBruijn64tab", laid_math_bits_deBruijn64tab), ("internal/strconv.uint64pow10", laid_internal_strconv_uint64pow10), ("unicode/utf8.acceptRanges", laid_unicode_utf8_acceptRanges), ("glideslope/pulse.reasons", laid_glideslope_pulse_reasons), ("unicode/utf8.first", laid_unicode_utf8_first)] }
def PulsePairsSaid : Prop := pulsePairsRow.holds Tryz.pinned (OpenSpec.ofChange pulsePairsSpec)

/-- ITS FALSE NEIGHBOUR: 'it returns false'. Refute it at one input. -/
def pulsePairsWrong : ChangeSpec := { name := "pulsePairs", fn := fun _ => fun
  | [d1, d2] => { results := [.lit (.bool false)], args := [d1, d2] }
  | _ => none }
def PulsePairsWrongFalsely : Prop := pulsePairsRow.holds Tryz.pinned (OpenSpec.ofChange pulsePairsWrong)

/-- 'glideslopelaw07.PulseAnswers': WHATEVER THE INPUT: true; the input reads as it did. -/
def pulseAnswersSpec : ChangeSpec := { name := "pulseAnswers", fn := fun _ => fun
  | [d1, d2, d3] => { results := [.lit (.bool true)], args := [d1, d2, d3] }
  | _ => none }
def pulseAnswersRow : OpenClaim := { program := "ytamcmocdkcfjkaagreatdoor", sum := "25a32a8dee3fde384fb7bf52187e72da457a830cbc55f0c998c3a7cb8a31180a", func := "glideslope/glideslopelaw07.PulseAnswers", spec := "pulseAnswers", inPlace := ["internal/abi.NoEscape", "internal/bytealg.MakeNoZero", "internal/bytealg.IndexByteString", "internal/bytealg.IndexString", "internal/bytealg.CountString"], unfollowed := true, recurses := true, named := ["glideslope/pulse.reasons", "internal/strconv.uint64pow10", "math/bits.deBruijn32tab", "math/bits.deBruijn64tab", "internal/bytealg.MaxLen", "unicode/utf8.first", "unicode/utf8.acceptRanges"], apart := false, laid := [("math/bits.deBruijn32tab", laid_math_bits_deBruijn32tab), ("math/bits.deBruijn64tab", laid_math_bits_deBruijn64tab), ("internal/strconv.uint64pow10", laid_internal_strconv_uint64pow10), ("unicode/utf8.acceptRanges", laid_unicode_utf8_acceptRanges), ("glideslope/pulse.reasons", laid_glideslope_pulse_reasons), ("unicode/utf8.first", laid_unicode_utf8_first)] }
def PulseAnswersSaid : Prop := pulseAnswersRow.holds Tryz.pinned (OpenSpec.ofChange pulseAnswersSpec)

/-- ITS FALSE NEIGHBOUR: 'it returns false'. Refute it at one input. -/
def pulseAnswersWrong : ChangeSpec := { name := "pulseAnswers", fn := fun _ => fun
  | [d1, d2, d3] => { results := [.lit (.bool false)], args := [d1, d2, d3] }
  | _ => none }
def PulseAnswersWrongFalsely : Prop := pulseAnswersRow.holds Tryz.pinned (OpenSpec.ofChange pulseAnswersWrong)

/-- 'glideslopelaw07.PulseReplies': WHATEVER THE INPUT: true; the input reads as it did. -/
def pulseRepliesSpec : ChangeSpec := { name := "pulseReplies", fn := fun _ => fun
  | [d1, d2, d3] => { results := [.lit (.bool true)], args := [d1, d2, d3] }
  | _ => none }
def pulseRepliesRow : OpenClaim := { program := "ytamcmocdkcfjkaagreatdoor", sum := "25a32a8dee3fde384fb7bf52187e72da457a830cbc55f0c998c3a7cb8a31180a", func := "glideslope/glideslopelaw07.PulseReplies", spec := "pulseReplies", inPlace := ["internal/abi.NoEscape", "internal/bytealg.MakeNoZero", "internal/bytealg.IndexByteString", "internal/bytealg.IndexString", "internal/bytealg.CountString"], unfollowed := true, recurses := true, named := ["glideslope/pulse.reasons", "internal/strconv.uint64pow10", "math/bits.deBruijn32tab", "math/bits.deBruijn64tab", "internal/bytealg.MaxLen", "unicode/utf8.first", "unicode/utf8.acceptRanges"], apart := false, laid := [("math/bits.deBruijn32tab", laid_math_bits_deBruijn32tab), ("math/bits.deBruijn64tab", laid_math_bits_deBruijn64tab), ("internal/strconv.uint64pow10", laid_internal_strconv_uint64pow10), ("unicode/utf8.acceptRanges", laid_unicode_utf8_acceptRanges), ("glideslope/pulse.reasons", laid_glideslope_pulse_reasons), ("unicode/utf8.first", laid_unicode_utf8_first)] }
def PulseRepliesSaid : Prop := pulseRepliesRow.holds Tryz.pinned (OpenSpec.ofChange pulseRepliesSpec)

/-- ITS FALSE NEIGHBOUR: 'it returns false'. Refute it at one input. -/
def pulseRepliesWrong : ChangeSpec := { name := "pulseReplies", fn := fun _ => fun
  | [d1, d2, d3] => { results := [.lit (.bool false)], args := [d1, d2, d3] }
  | _ => none }
def PulseRepliesWrongFalsely : Prop := pulseRepliesRow.holds Tryz.pinned (OpenSpec.ofChange pulseRepliesWrong)

/-- 'glideslopelaw07.PulseDistances': WHATEVER THE INPUT: true; the input reads as it did. -/
def pulseDistancesSpec : ChangeSpec := { name := "pulseDistances", fn := fun _ => fun
  | [d1, d2] => { results := [.lit (.bool true)], args := [d1, d2] }
  | _ => none }
def pulseDistancesRow : OpenClaim := { program := "ytamcmocdkcfjkaagreatdoor", sum := "25a32a8dee3fde384fb7bf52187e72da457a830cbc55f0c998c3a7cb8a31180a", func := "glideslope/glideslopelaw07.PulseDistances", spec := "pulseDistances", inPlace := ["internal/abi.NoEscape", "internal/bytealg.MakeNoZero", "internal/bytealg.IndexByteString", "internal/bytealg.IndexString", "internal/bytealg.CountString"], unfollowed := true, recurses := true, named := ["glideslope/pulse.reasons", "internal/strconv.uint64pow10", "math/bits.deBruijn32tab", "math/bits.deBruijn64tab", "internal/bytealg.MaxLen", "unicode/utf8.first", "unicode/utf8.acceptRanges"], apart := false, laid := [("math/bits.deBruijn32tab", laid_math_bits_deBruijn32tab), ("math/bits.deBruijn64tab", laid_math_bits_deBruijn64tab), ("internal/strconv.uint64pow10", laid_internal_strconv_uint64pow10), ("unicode/utf8.acceptRanges", laid_unicode_utf8_acceptRanges), ("glideslope/pulse.reasons", laid_glideslope_pulse_reasons), ("unicode/utf8.first", laid_unicode_utf8_first)] }
def PulseDistancesSaid : Prop := pulseDistancesRow.holds Tryz.pinned (OpenSpec.ofChange pulseDistancesSpec)

/-- ITS FALSE NEIGHBOUR: 'it returns false'. Refute it at one input. -/
def pulseDistancesWrong : ChangeSpec := { name := "pulseDistances", fn := fun _ => fun
  | [d1, d2] => { results := [.lit (.bool false)], args := [d1, d2] }
  | _ => none }
def PulseDistancesWrongFalsely : Prop := pulseDistancesRow.holds Tryz.pinned (OpenSpec.ofChange pulseDistancesWrong)

/-- 'glideslopelaw07.PulseTracks': WHATEVER THE INPUT: true; the input reads as it did. -/
def pulseTracksSpec : ChangeSpec := { name := "pulseTracks", fn := fun _ => fun
  | [d1, d2, d3] => { results := [.lit (.bool true)], args := [d1, d2, d3] }
  | _ => none }
def pulseTracksRow : OpenClaim := { program := "ytamcmocdkcfjkaagreatdoor", sum := "25a32a8dee3fde384fb7bf52187e72da457a830cbc55f0c998c3a7cb8a31180a", func := "glideslope/glideslopelaw07.PulseTracks", spec := "pulseTracks", inPlace := ["internal/abi.NoEscape", "internal/bytealg.MakeNoZero", "internal/bytealg.IndexByteString", "internal/bytealg.IndexString", "internal/bytealg.CountString"], unfollowed := true, recurses := true, named := ["glideslope/pulse.reasons", "internal/strconv.uint64pow10", "math/bits.deBruijn32tab", "math/bits.deBruijn64tab", "internal/bytealg.MaxLen", "unicode/utf8.first", "unicode/utf8.acceptRanges"], apart := false, laid := [("math/bits.deBruijn32tab", laid_math_bits_deBruijn32tab), ("math/bits.deBruijn64tab", laid_math_bits_deBruijn64tab), ("internal/strconv.uint64pow10", laid_internal_strconv_uint64pow10), ("unicode/utf8.acceptRanges", laid_unicode_utf8_acceptRanges), ("glideslope/pulse.reasons", laid_glideslope_pulse_reasons), ("unicode/utf8.first", laid_unicode_utf8_first)] }
def PulseTracksSaid : Prop := pulseTracksRow.holds Tryz.pinned (OpenSpec.ofChange pulseTracksSpec)

/-- ITS FALSE NEIGHBOUR: 'it returns false'. Refute it at one input. -/
def pulseTracksWrong : ChangeSpec := { name := "pulseTracks", fn := fun _ => fun
  | [d1, d2, d3] => { results := [.lit (.bool false)], args := [d1, d2, d3] }
  | _ => none }
def PulseTracksWrongFalsely : Prop := pulseTracksRow.holds Tryz.pinned (OpenSpec.ofChange pulseTracksWrong)

/-- 'glideslopelaw07.PulseChannels': WHATEVER THE INPUT: true; the input reads as it did. -/
def pulseChannelsSpec : ChangeSpec := { name := "pulseChannels", fn := fun _ => fun
  | [d1, d2, d3] => { results := [.lit (.bool true)], args := [d1, d2, d3] }
  | _ => none }
def pulseChannelsRow : OpenClaim := { program := "ytamcmocdkcfjkaagreatdoor", sum := "25a32a8dee3fde384fb7bf52187e72da457a830cbc55f0c998c3a7cb8a31180a", func := "glideslope/glideslopelaw07.PulseChannels", spec := "pulseChannels", inPlace := ["internal/abi.NoEscape", "internal/bytealg.MakeNoZero", "internal/bytealg.IndexByteString", "internal/bytealg.IndexString", "internal/bytealg.CountString"], unfollowed := true, recurses := true, named := ["glideslope/pulse.reasons", "internal/strconv.uint64pow10", "math/bits.deBruijn32tab", "math/bits.deBruijn64tab", "internal/bytealg.MaxLen", "unicode/utf8.first", "unicode/utf8.acceptRanges"], apart := false, laid := [("math/bits.deBruijn32tab", laid_math_bits_deBruijn32tab), ("math/bits.deBruijn64tab", laid_math_bits_deBruijn64tab), ("internal/strconv.uint64pow10", laid_internal_strconv_uint64pow10), ("unicode/utf8.acceptRanges", laid_unicode_utf8_acceptRanges), ("glideslope/pulse.reasons", laid_glideslope_pulse_reasons), ("unicode/utf8.first", laid_unicode_utf8_first)] }
def PulseChannelsSaid : Prop := pulseChannelsRow.holds Tryz.pinned (OpenSpec.ofChange pulseChannelsSpec)

/-- ITS FALSE NEIGHBOUR: 'it returns false'. Refute it at one input. -/
def pulseChannelsWrong : ChangeSpec := { name := "pulseChannels", fn := fun _ => fun
  | [d1, d2, d3] => { results := [.lit (.bool false)], args := [d1, d2, d3] }
  | _ => none }
def PulseChannelsWrongFalsely : Prop := pulseChannelsRow.holds Tryz.pinned (OpenSpec.ofChange pulseChannelsWrong)

/-- 'glideslopelaw07.PulseMarkers': WHATEVER THE INPUT: true; the input reads as it did. -/
def pulseMarkersSpec : ChangeSpec := { name := "pulseMarkers", fn := fun _ => fun
  | [d1, d2, d3] => { results := [.lit (.bool true)], args := [d1, d2, d3] }
  | _ => none }
def pulseMarkersRow : OpenClaim := { program := "ytamcmocdkcfjkaagreatdoor", sum := "25a32a8dee3fde384fb7bf52187e72da457a830cbc55f0c998c3a7cb8a31180a", func := "glideslope/glideslopelaw07.PulseMarkers", spec := "pulseMarkers", inPlace := ["internal/abi.NoEscape", "internal/bytealg.MakeNoZero", "internal/bytealg.IndexByteString", "internal/bytealg.IndexString", "internal/bytealg.CountString"], unfollowed := true, recurses := true, named := ["glideslope/pulse.reasons", "internal/strconv.uint64pow10", "math/bits.deBruijn32tab", "math/bits.deBruijn64tab", "internal/bytealg.MaxLen", "unicode/utf8.first", "unicode/utf8.acceptRanges"], apart := false, laid := [("math/bits.deBruijn32tab", laid_math_bits_deBruijn32tab), ("math/bits.deBruijn64tab", laid_math_bits_deBruijn64tab), ("internal/strconv.uint64pow10", laid_internal_strconv_uint64pow10), ("unicode/utf8.acceptRanges", laid_unicode_utf8_acceptRanges), ("glideslope/pulse.reasons", laid_glideslope_pulse_reasons), ("unicode/utf8.first", laid_unicode_utf8_first)] }
def PulseMarkersSaid : Prop := pulseMarkersRow.holds Tryz.pinned (OpenSpec.ofChange pulseMarkersSpec)

/-- ITS FALSE NEIGHBOUR: 'it returns false'. Refute it at one input. -/
def pulseMarkersWrong : ChangeSpec := { name := "pulseMarkers", fn := fun _ => fun
  | [d1, d2, d3] => { results := [.lit (.bool false)], args := [d1, d2, d3] }
  | _ => none }
def PulseMarkersWrongFalsely : Prop := pulseMarkersRow.holds Tryz.pinned (OpenSpec.ofChange pulseMarkersWrong)

/-- 'glideslopelaw07.PulseStrings': WHATEVER THE INPUT: true; the input reads as it did. -/
def pulseStringsSpec : ChangeSpec := { name := "pulseStrings", fn := fun _ => fun
  | [d1, d2] => { results := [.lit (.bool true)], args := [d1, d2] }
  | _ => none }
def pulseStringsRow : OpenClaim := { program := "ytamcmocdkcfjkaagreatdoor", sum := "25a32a8dee3fde384fb7bf52187e72da457a830cbc55f0c998c3a7cb8a31180a", func := "glideslope/glideslopelaw07.PulseStrings", spec := "pulseStrings", inPlace := ["internal/abi.NoEscape", "internal/bytealg.MakeNoZero", "internal/bytealg.IndexByteString", "internal/bytealg.IndexString", "internal/bytealg.CountString"], unfollowed := true, recurses := true, named := ["glideslope/pulse.reasons", "internal/strconv.uint64pow10", "math/bits.deBruijn32tab", "math/bits.deBruijn64tab", "internal/bytealg.MaxLen", "unicode/utf8.first", "unicode/utf8.acceptRanges"], apart := false, laid := [("math/bits.deBruijn32tab", laid_math_bits_deBruijn32tab), ("math/bits.deBruijn64tab", laid_math_bits_deBruijn64tab), ("internal/strconv.uint64pow10", laid_internal_strconv_uint64pow10), ("unicode/utf8.acceptRanges", laid_unicode_utf8_acceptRanges), ("glideslope/pulse.reasons", laid_glideslope_pulse_reasons), ("unicode/utf8.first", laid_unicode_utf8_first)] }
def PulseStringsSaid : Prop := pulseStringsRow.holds Tryz.pinned (OpenSpec.ofChange pulseStringsSpec)

/-- ITS FALSE NEIGHBOUR: 'it returns false'. Refute it at one input. -/
def pulseStringsWrong : ChangeSpec := { name := "pulseStrings", fn := fun _ => fun
  | [d1, d2] => { results := [.lit (.bool false)], args := [d1, d2] }
  | _ => none }
def PulseStringsWrongFalsely : Prop := pulseStringsRow.holds Tryz.pinned (OpenSpec.ofChange pulseStringsWrong)

/-- 'glideslopelaw07.PulseOnce': WHATEVER THE INPUT: true; the input reads as it did. -/
def pulseOnceSpec : ChangeSpec := { name := "pulseOnce", fn := fun _ => fun
  | [d1, d2, d3] => { results := [.lit (.bool true)], args := [d1, d2, d3] }
  | _ => none }
def pulseOnceRow : OpenClaim := { program := "ytamcmocdkcfjkaagreatdoor", sum := "25a32a8dee3fde384fb7bf52187e72da457a830cbc55f0c998c3a7cb8a31180a", func := "glideslope/glideslopelaw07.PulseOnce", spec := "pulseOnce", inPlace := ["internal/abi.NoEscape", "internal/bytealg.MakeNoZero", "internal/bytealg.IndexByteString", "internal/bytealg.IndexString", "internal/bytealg.CountString"], unfollowed := true, recurses := true, named := ["glideslope/pulse.reasons", "internal/strconv.uint64pow10", "math/bits.deBruijn32tab", "math/bits.deBruijn64tab", "internal/bytealg.MaxLen", "unicode/utf8.first", "unicode/utf8.acceptRanges"], apart := false, laid := [("math/bits.deBruijn32tab", laid_math_bits_deBruijn32tab), ("math/bits.deBruijn64tab", laid_math_bits_deBruijn64tab), ("internal/strconv.uint64pow10", laid_internal_strconv_uint64pow10), ("unicode/utf8.acceptRanges", laid_unicode_utf8_acceptRanges), ("glideslope/pulse.reasons", laid_glideslope_pulse_reasons), ("unicode/utf8.first", laid_unicode_utf8_first)] }
def PulseOnceSaid : Prop := pulseOnceRow.holds Tryz.pinned (OpenSpec.ofChange pulseOnceSpec)

/-- ITS FALSE NEIGHBOUR: 'it returns false'. Refute it at one input. -/
def pulseOnceWrong : ChangeSpec := { name := "pulseOnce", fn := fun _ => fun
  | [d1, d2, d3] => { results := [.lit (.bool false)], args := [d1, d2, d3] }
  | _ => none }
def PulseOnceWrongFalsely : Prop := pulseOnceRow.holds Tryz.pinned (OpenSpec.ofChange pulseOnceWrong)

/-- 'glideslopelaw07.PulseRanges': WHATEVER THE INPUT: true; the input reads as it did. -/
def pulseRangesSpec : ChangeSpec := { name := "pulseRanges", fn := fun _ => fun
  | [d1, d2] => { results := [.lit (.bool true)], args := [d1, d2] }
  | _ => none }
def pulseRangesRow : OpenClaim := { program := "ytamcmocdkcfjkaagreatdoor", sum := "25a32a8dee3fde384fb7bf52187e72da457a830cbc55f0c998c3a7cb8a31180a", func := "glideslope/glideslopelaw07.PulseRanges", spec := "pulseRanges", inPlace := ["internal/abi.NoEscape", "internal/bytealg.MakeNoZero", "internal/bytealg.IndexByteString", "internal/bytealg.IndexString", "internal/bytealg.CountString"], unfollowed := true, recurses := true, named := ["glideslope/pulse.reasons", "internal/strconv.uint64pow10", "math/bits.deBruijn32tab", "math/bits.deBruijn64tab", "internal/bytealg.MaxLen", "unicode/utf8.first", "unicode/utf8.acceptRanges"], apart := false, laid := [("math/bits.deBruijn32tab", laid_math_bits_deBruijn32tab), ("math/bits.deBruijn64tab", laid_math_bits_deBruijn64tab), ("internal/strconv.uint64pow10", laid_internal_strconv_uint64pow10), ("unicode/utf8.acceptRanges", laid_unicode_utf8_acceptRanges), ("glideslope/pulse.reasons", laid_glideslope_pulse_reasons), ("unicode/utf8.first", laid_unicode_utf8_first)] }
def PulseRangesSaid : Prop := pulseRangesRow.holds Tryz.pinned (OpenSpec.ofChange pulseRangesSpec)

/-- ITS FALSE NEIGHBOUR: 'it returns false'. Refute it at one input. -/
def pulseRangesWrong : ChangeSpec := { name := "pulseRanges", fn := fun _ => fun
  | [d1, d2] => { results := [.lit (.bool false)], args := [d1, d2] }
  | _ => none }
def PulseRangesWrongFalsely : Prop := pulseRangesRow.holds Tryz.pinned (OpenSpec.ofChange pulseRangesWrong)

/-- 'glideslopelaw07.PulseLamps': WHATEVER THE INPUT: true; the input reads as it did. -/
def pulseLampsSpec : ChangeSpec := { name := "pulseLamps", fn := fun _ => fun
  | [d1, d2, d3] => { results := [.lit (.bool true)], args := [d1, d2, d3] }
  | _ => none }
def pulseLampsRow : OpenClaim := { program := "ytamcmocdkcfjkaagreatdoor", sum := "25a32a8dee3fde384fb7bf52187e72da457a830cbc55f0c998c3a7cb8a31180a", func := "glideslope/glideslopelaw07.PulseLamps", spec := "pulseLamps", inPlace := ["internal/abi.NoEscape", "internal/bytealg.MakeNoZero", "internal/bytealg.IndexByteString", "internal/bytealg.IndexString", "internal/bytealg.CountString"], unfollowed := true, recurses := true, named := ["glideslope/pulse.reasons", "internal/strconv.uint64pow10", "math/bits.deBruijn32tab", "math/bits.deBruijn64tab", "internal/bytealg.MaxLen", "unicode/utf8.first", "unicode/utf8.acceptRanges"], apart := false, laid := [("math/bits.deBruijn32tab", laid_math_bits_deBruijn32tab), ("math/bits.deBruijn64tab", laid_math_bits_deBruijn64tab), ("internal/strconv.uint64pow10", laid_internal_strconv_uint64pow10), ("unicode/utf8.acceptRanges", laid_unicode_utf8_acceptRanges), ("glideslope/pulse.reasons", laid_glideslope_pulse_reasons), ("unicode/utf8.first", laid_unicode_utf8_first)] }
def PulseLampsSaid : Prop := pulseLampsRow.holds Tryz.pinned (OpenSpec.ofChange pulseLampsSpec)

/-- ITS FALSE NEIGHBOUR: 'it returns false'. Refute it at one input. -/
def pulseLampsWrong : ChangeSpec := { name := "pulseLamps", fn := fun _ => fun
  | [d1, d2, d3] => { results := [.lit (.bool false)], args := [d1, d2, d3] }
  | _ => none }
def PulseLampsWrongFalsely : Prop := pulseLampsRow.holds Tryz.pinned (OpenSpec.ofChange pulseLampsWrong)

/-- 'glideslopetop.TopPylonHeard': WHATEVER THE INPUT: true; the input reads as it did. -/
def topPylonHeardSpec : ChangeSpec := { name := "topPylonHeard", fn := fun _ => fun
  | [d1, d2, d3] => { results := [.lit (.bool true)], args := [d1, d2, d3] }
  | _ => none }
def topPylonHeardRow : OpenClaim := { program := "ytamcmocdkcfjkaagreatdoor", sum := "25a32a8dee3fde384fb7bf52187e72da457a830cbc55f0c998c3a7cb8a31180a", func := "glideslope/glideslopetop.TopPylonHeard", spec := "topPylonHeard", inPlace := ["math.Float64bits", "math.Float64frombits", "math.archFloor", "math.archTrunc"], unfollowed := true, recurses := true, named := ["glideslope/pulse.reasons", "glideslope/record.nothing"], apart := false, laid := [("glideslope/record.nothing", laid_glideslope_record_nothing), ("glideslope/pulse.reasons", laid_glideslope_pulse_reasons)] }
def TopPylonHeardSaid : Prop := topPylonHeardRow.holds Tryz.pinned (OpenSpec.ofChange topPylonHeardSpec)

/-- ITS FALSE NEIGHBOUR: 'it returns false'. Refute it at one input. -/
def topPylonHeardWrong : ChangeSpec := { name := "topPylonHeard", fn := fun _ => fun
  | [d1, d2, d3] => { results := [.lit (.bool false)], args := [d1, d2, d3] }
  | _ => none }
def TopPylonHeardWrongFalsely : Prop := topPylonHeardRow.holds Tryz.pinned (OpenSpec.ofChange topPylonHeardWrong)

/- THE SECOND FORM. 'bulk': how many values and letters a reading holds, each counted each time it is reached (what is shared counts as often as it is met; a slice's spare places count too). A statement '..UptoSaid' is the law's where the arguments, and the package variables that the reading takes, are together of bulk at most 1048576: NARROWER than '..Said'. Prove '..Said' where nothing that the law and all that it calls make is longer than what came in: it says more and counts as full. Else prove '..UptoSaid'. A law counts once. -/
mutual
def uptoBulk {H : Type} : DataW H → Nat
  | .lit (.string bytes) => bytes.length + 1
  | .lit _ => 1
  | .nil => 1
  | .ptr d => uptoBulk d + 1
  | .slice elems spare => uptoBulkAll elems + uptoBulkAll spare + 1
  | .agg parts => uptoBulkAll parts + 1
  | .iface _ d => uptoBulk d + 1
  | .map entries => uptoBulkEntries entries + 1
  | .held _ => 1
def uptoBulkAll {H : Type} : List (DataW H) → Nat
  | [] => 0
  | d :: r => uptoBulk d + uptoBulkAll r
def uptoBulkEntries {H : Type} : List (Lit × DataW H) → Nat
  | [] => 0
  | x :: r => uptoBulkEntry x + uptoBulkEntries r
def uptoBulkEntry {H : Type} : Lit × DataW H → Nat
  | (.string bytes, d) => bytes.length + uptoBulk d + 1
  | (_, d) => uptoBulk d + 1
 end
def uptoSmall : (H : Type) → List (DataW H) → Bool := fun _ ds => decide (uptoBulkAll ds ≤ 1048576)
def OpenSpec.upto (s : _root_.Go.ChangeSpec) : _root_.Go.OpenSpec := { _root_.Go.OpenSpec.ofChange s with cond := some uptoSmall }

/-- 'glideslopelaw07.PulsePairs', WHERE WHAT IT READS IS OF BULK AT MOST 1048576: true; the input reads as it did. -/
def pulsePairsUptoRow : OpenClaim := { program := "ytamcmocdkcfjkaagreatdoor", sum := "25a32a8dee3fde384fb7bf52187e72da457a830cbc55f0c998c3a7cb8a31180a", func := "glideslope/glideslopelaw07.PulsePairs", spec := "pulsePairs", inPlace := ["internal/abi.NoEscape", "internal/bytealg.MakeNoZero", "internal/bytealg.IndexByteString", "internal/bytealg.IndexString", "internal/bytealg.CountString"], unfollowed := true, recurses := true, named := ["glideslope/pulse.reasons", "internal/strconv.uint64pow10", "math/bits.deBruijn32tab", "math/bits.deBruijn64tab", "internal/bytealg.MaxLen", "unicode/utf8.first", "unicode/utf8.acceptRanges"], apart := false, laid := [("math/bits.deBruijn32tab", laid_math_bits_deBruijn32tab), ("math/bits.deBruijn64tab", laid_math_bits_deBruijn64tab), ("internal/strconv.uint64pow10", laid_internal_strconv_uint64pow10), ("unicode/utf8.acceptRanges", laid_unicode_utf8_acceptRanges), ("glideslope/pulse.reasons", laid_glideslope_pulse_reasons), ("unicode/utf8.first", laid_unicode_utf8_first)], narrowed := true }
def PulsePairsUptoSaid : Prop := pulsePairsUptoRow.holds Tryz.pinned (OpenSpec.upto pulsePairsSpec)

/-- 'glideslopelaw07.PulseAnswers', WHERE WHAT IT READS IS OF BULK AT MOST 1048576: true; the input reads as it did. -/
def pulseAnswersUptoRow : OpenClaim := { program := "ytamcmocdkcfjkaagreatdoor", sum := "25a32a8dee3fde384fb7bf52187e72da457a830cbc55f0c998c3a7cb8a31180a", func := "glideslope/glideslopelaw07.PulseAnswers", spec := "pulseAnswers", inPlace := ["internal/abi.NoEscape", "internal/bytealg.MakeNoZero", "internal/bytealg.IndexByteString", "internal/bytealg.IndexString", "internal/bytealg.CountString"], unfollowed := true, recurses := true, named := ["glideslope/pulse.reasons", "internal/strconv.uint64pow10", "math/bits.deBruijn32tab", "math/bits.deBruijn64tab", "internal/bytealg.MaxLen", "unicode/utf8.first", "unicode/utf8.acceptRanges"], apart := false, laid := [("math/bits.deBruijn32tab", laid_math_bits_deBruijn32tab), ("math/bits.deBruijn64tab", laid_math_bits_deBruijn64tab), ("internal/strconv.uint64pow10", laid_internal_strconv_uint64pow10), ("unicode/utf8.acceptRanges", laid_unicode_utf8_acceptRanges), ("glideslope/pulse.reasons", laid_glideslope_pulse_reasons), ("unicode/utf8.first", laid_unicode_utf8_first)], narrowed := true }
def PulseAnswersUptoSaid : Prop := pulseAnswersUptoRow.holds Tryz.pinned (OpenSpec.upto pulseAnswersSpec)

/-- 'glideslopelaw07.PulseReplies', WHERE WHAT IT READS IS OF BULK AT MOST 1048576: true; the input reads as it did. -/
def pulseRepliesUptoRow : OpenClaim := { program := "ytamcmocdkcfjkaagreatdoor", sum := "25a32a8dee3fde384fb7bf52187e72da457a830cbc55f0c998c3a7cb8a31180a", func := "glideslope/glideslopelaw07.PulseReplies", spec := "pulseReplies", inPlace := ["internal/abi.NoEscape", "internal/bytealg.MakeNoZero", "internal/bytealg.IndexByteString", "internal/bytealg.IndexString", "internal/bytealg.CountString"], unfollowed := true, recurses := true, named := ["glideslope/pulse.reasons", "internal/strconv.uint64pow10", "math/bits.deBruijn32tab", "math/bits.deBruijn64tab", "internal/bytealg.MaxLen", "unicode/utf8.first", "unicode/utf8.acceptRanges"], apart := false, laid := [("math/bits.deBruijn32tab", laid_math_bits_deBruijn32tab), ("math/bits.deBruijn64tab", laid_math_bits_deBruijn64tab), ("internal/strconv.uint64pow10", laid_internal_strconv_uint64pow10), ("unicode/utf8.acceptRanges", laid_unicode_utf8_acceptRanges), ("glideslope/pulse.reasons", laid_glideslope_pulse_reasons), ("unicode/utf8.first", laid_unicode_utf8_first)], narrowed := true }
def PulseRepliesUptoSaid : Prop := pulseRepliesUptoRow.holds Tryz.pinned (OpenSpec.upto pulseRepliesSpec)

/-- 'glideslopelaw07.PulseDistances', WHERE WHAT IT READS IS OF BULK AT MOST 1048576: true; the input reads as it did. -/
def pulseDistancesUptoRow : OpenClaim := { program := "ytamcmocdkcfjkaagreatdoor", sum := "25a32a8dee3fde384fb7bf52187e72da457a830cbc55f0c998c3a7cb8a31180a", func := "glideslope/glideslopelaw07.PulseDistances", spec := "pulseDistances", inPlace := ["internal/abi.NoEscape", "internal/bytealg.MakeNoZero", "internal/bytealg.IndexByteString", "internal/bytealg.IndexString", "internal/bytealg.CountString"], unfollowed := true, recurses := true, named := ["glideslope/pulse.reasons", "internal/strconv.uint64pow10", "math/bits.deBruijn32tab", "math/bits.deBruijn64tab", "internal/bytealg.MaxLen", "unicode/utf8.first", "unicode/utf8.acceptRanges"], apart := false, laid := [("math/bits.deBruijn32tab", laid_math_bits_deBruijn32tab), ("math/bits.deBruijn64tab", laid_math_bits_deBruijn64tab), ("internal/strconv.uint64pow10", laid_internal_strconv_uint64pow10), ("unicode/utf8.acceptRanges", laid_unicode_utf8_acceptRanges), ("glideslope/pulse.reasons", laid_glideslope_pulse_reasons), ("unicode/utf8.first", laid_unicode_utf8_first)], narrowed := true }
def PulseDistancesUptoSaid : Prop := pulseDistancesUptoRow.holds Tryz.pinned (OpenSpec.upto pulseDistancesSpec)

/-- 'glideslopelaw07.PulseTracks', WHERE WHAT IT READS IS OF BULK AT MOST 1048576: true; the input reads as it did. -/
def pulseTracksUptoRow : OpenClaim := { program := "ytamcmocdkcfjkaagreatdoor", sum := "25a32a8dee3fde384fb7bf52187e72da457a830cbc55f0c998c3a7cb8a31180a", func := "glideslope/glideslopelaw07.PulseTracks", spec := "pulseTracks", inPlace := ["internal/abi.NoEscape", "internal/bytealg.MakeNoZero", "internal/bytealg.IndexByteString", "internal/bytealg.IndexString", "internal/bytealg.CountString"], unfollowed := true, recurses := true, named := ["glideslope/pulse.reasons", "internal/strconv.uint64pow10", "math/bits.deBruijn32tab", "math/bits.deBruijn64tab", "internal/bytealg.MaxLen", "unicode/utf8.first", "unicode/utf8.acceptRanges"], apart := false, laid := [("math/bits.deBruijn32tab", laid_math_bits_deBruijn32tab), ("math/bits.deBruijn64tab", laid_math_bits_deBruijn64tab), ("internal/strconv.uint64pow10", laid_internal_strconv_uint64pow10), ("unicode/utf8.acceptRanges", laid_unicode_utf8_acceptRanges), ("glideslope/pulse.reasons", laid_glideslope_pulse_reasons), ("unicode/utf8.first", laid_unicode_utf8_first)], narrowed := true }
def PulseTracksUptoSaid : Prop := pulseTracksUptoRow.holds Tryz.pinned (OpenSpec.upto pulseTracksSpec)

/-- 'glideslopelaw07.PulseChannels', WHERE WHAT IT READS IS OF BULK AT MOST 1048576: true; the input reads as it did. -/
def pulseChannelsUptoRow : OpenClaim := { program := "ytamcmocdkcfjkaagreatdoor", sum := "25a32a8dee3fde384fb7bf52187e72da457a830cbc55f0c998c3a7cb8a31180a", func := "glideslope/glideslopelaw07.PulseChannels", spec := "pulseChannels", inPlace := ["internal/abi.NoEscape", "internal/bytealg.MakeNoZero", "internal/bytealg.IndexByteString", "internal/bytealg.IndexString", "internal/bytealg.CountString"], unfollowed := true, recurses := true, named := ["glideslope/pulse.reasons", "internal/strconv.uint64pow10", "math/bits.deBruijn32tab", "math/bits.deBruijn64tab", "internal/bytealg.MaxLen", "unicode/utf8.first", "unicode/utf8.acceptRanges"], apart := false, laid := [("math/bits.deBruijn32tab", laid_math_bits_deBruijn32tab), ("math/bits.deBruijn64tab", laid_math_bits_deBruijn64tab), ("internal/strconv.uint64pow10", laid_internal_strconv_uint64pow10), ("unicode/utf8.acceptRanges", laid_unicode_utf8_acceptRanges), ("glideslope/pulse.reasons", laid_glideslope_pulse_reasons), ("unicode/utf8.first", laid_unicode_utf8_first)], narrowed := true }
def PulseChannelsUptoSaid : Prop := pulseChannelsUptoRow.holds Tryz.pinned (OpenSpec.upto pulseChannelsSpec)

/-- 'glideslopelaw07.PulseMarkers', WHERE WHAT IT READS IS OF BULK AT MOST 1048576: true; the input reads as it did. -/
def pulseMarkersUptoRow : OpenClaim := { program := "ytamcmocdkcfjkaagreatdoor", sum := "25a32a8dee3fde384fb7bf52187e72da457a830cbc55f0c998c3a7cb8a31180a", func := "glideslope/glideslopelaw07.PulseMarkers", spec := "pulseMarkers", inPlace := ["internal/abi.NoEscape", "internal/bytealg.MakeNoZero", "internal/bytealg.IndexByteString", "internal/bytealg.IndexString", "internal/bytealg.CountString"], unfollowed := true, recurses := true, named := ["glideslope/pulse.reasons", "internal/strconv.uint64pow10", "math/bits.deBruijn32tab", "math/bits.deBruijn64tab", "internal/bytealg.MaxLen", "unicode/utf8.first", "unicode/utf8.acceptRanges"], apart := false, laid := [("math/bits.deBruijn32tab", laid_math_bits_deBruijn32tab), ("math/bits.deBruijn64tab", laid_math_bits_deBruijn64tab), ("internal/strconv.uint64pow10", laid_internal_strconv_uint64pow10), ("unicode/utf8.acceptRanges", laid_unicode_utf8_acceptRanges), ("glideslope/pulse.reasons", laid_glideslope_pulse_reasons), ("unicode/utf8.first", laid_unicode_utf8_first)], narrowed := true }
def PulseMarkersUptoSaid : Prop := pulseMarkersUptoRow.holds Tryz.pinned (OpenSpec.upto pulseMarkersSpec)

/-- 'glideslopelaw07.PulseStrings', WHERE WHAT IT READS IS OF BULK AT MOST 1048576: true; the input reads as it did. -/
def pulseStringsUptoRow : OpenClaim := { program := "ytamcmocdkcfjkaagreatdoor", sum := "25a32a8dee3fde384fb7bf52187e72da457a830cbc55f0c998c3a7cb8a31180a", func := "glideslope/glideslopelaw07.PulseStrings", spec := "pulseStrings", inPlace := ["internal/abi.NoEscape", "internal/bytealg.MakeNoZero", "internal/bytealg.IndexByteString", "internal/bytealg.IndexString", "internal/bytealg.CountString"], unfollowed := true, recurses := true, named := ["glideslope/pulse.reasons", "internal/strconv.uint64pow10", "math/bits.deBruijn32tab", "math/bits.deBruijn64tab", "internal/bytealg.MaxLen", "unicode/utf8.first", "unicode/utf8.acceptRanges"], apart := false, laid := [("math/bits.deBruijn32tab", laid_math_bits_deBruijn32tab), ("math/bits.deBruijn64tab", laid_math_bits_deBruijn64tab), ("internal/strconv.uint64pow10", laid_internal_strconv_uint64pow10), ("unicode/utf8.acceptRanges", laid_unicode_utf8_acceptRanges), ("glideslope/pulse.reasons", laid_glideslope_pulse_reasons), ("unicode/utf8.first", laid_unicode_utf8_first)], narrowed := true }
def PulseStringsUptoSaid : Prop := pulseStringsUptoRow.holds Tryz.pinned (OpenSpec.upto pulseStringsSpec)

/-- 'glideslopelaw07.PulseOnce', WHERE WHAT IT READS IS OF BULK AT MOST 1048576: true; the input reads as it did. -/
def pulseOnceUptoRow : OpenClaim := { program := "ytamcmocdkcfjkaagreatdoor", sum := "25a32a8dee3fde384fb7bf52187e72da457a830cbc55f0c998c3a7cb8a31180a", func := "glideslope/glideslopelaw07.PulseOnce", spec := "pulseOnce", inPlace := ["internal/abi.NoEscape", "internal/bytealg.MakeNoZero", "internal/bytealg.IndexByteString", "internal/bytealg.IndexString", "internal/bytealg.CountString"], unfollowed := true, recurses := true, named := ["glideslope/pulse.reasons", "internal/strconv.uint64pow10", "math/bits.deBruijn32tab", "math/bits.deBruijn64tab", "internal/bytealg.MaxLen", "unicode/utf8.first", "unicode/utf8.acceptRanges"], apart := false, laid := [("math/bits.deBruijn32tab", laid_math_bits_deBruijn32tab), ("math/bits.deBruijn64tab", laid_math_bits_deBruijn64tab), ("internal/strconv.uint64pow10", laid_internal_strconv_uint64pow10), ("unicode/utf8.acceptRanges", laid_unicode_utf8_acceptRanges), ("glideslope/pulse.reasons", laid_glideslope_pulse_reasons), ("unicode/utf8.first", laid_unicode_utf8_first)], narrowed := true }
def PulseOnceUptoSaid : Prop := pulseOnceUptoRow.holds Tryz.pinned (OpenSpec.upto pulseOnceSpec)

/-- 'glideslopelaw07.PulseRanges', WHERE WHAT IT READS IS OF BULK AT MOST 1048576: true; the input reads as it did. -/
def pulseRangesUptoRow : OpenClaim := { program := "ytamcmocdkcfjkaagreatdoor", sum := "25a32a8dee3fde384fb7bf52187e72da457a830cbc55f0c998c3a7cb8a31180a", func := "glideslope/glideslopelaw07.PulseRanges", spec := "pulseRanges", inPlace := ["internal/abi.NoEscape", "internal/bytealg.MakeNoZero", "internal/bytealg.IndexByteString", "internal/bytealg.IndexString", "internal/bytealg.CountString"], unfollowed := true, recurses := true, named := ["glideslope/pulse.reasons", "internal/strconv.uint64pow10", "math/bits.deBruijn32tab", "math/bits.deBruijn64tab", "internal/bytealg.MaxLen", "unicode/utf8.first", "unicode/utf8.acceptRanges"], apart := false, laid := [("math/bits.deBruijn32tab", laid_math_bits_deBruijn32tab), ("math/bits.deBruijn64tab", laid_math_bits_deBruijn64tab), ("internal/strconv.uint64pow10", laid_internal_strconv_uint64pow10), ("unicode/utf8.acceptRanges", laid_unicode_utf8_acceptRanges), ("glideslope/pulse.reasons", laid_glideslope_pulse_reasons), ("unicode/utf8.first", laid_unicode_utf8_first)], narrowed := true }
def PulseRangesUptoSaid : Prop := pulseRangesUptoRow.holds Tryz.pinned (OpenSpec.upto pulseRangesSpec)

/-- 'glideslopelaw07.PulseLamps', WHERE WHAT IT READS IS OF BULK AT MOST 1048576: true; the input reads as it did. -/
def pulseLampsUptoRow : OpenClaim := { program := "ytamcmocdkcfjkaagreatdoor", sum := "25a32a8dee3fde384fb7bf52187e72da457a830cbc55f0c998c3a7cb8a31180a", func := "glideslope/glideslopelaw07.PulseLamps", spec := "pulseLamps", inPlace := ["internal/abi.NoEscape", "internal/bytealg.MakeNoZero", "internal/bytealg.IndexByteString", "internal/bytealg.IndexString", "internal/bytealg.CountString"], unfollowed := true, recurses := true, named := ["glideslope/pulse.reasons", "internal/strconv.uint64pow10", "math/bits.deBruijn32tab", "math/bits.deBruijn64tab", "internal/bytealg.MaxLen", "unicode/utf8.first", "unicode/utf8.acceptRanges"], apart := false, laid := [("math/bits.deBruijn32tab", laid_math_bits_deBruijn32tab), ("math/bits.deBruijn64tab", laid_math_bits_deBruijn64tab), ("internal/strconv.uint64pow10", laid_internal_strconv_uint64pow10), ("unicode/utf8.acceptRanges", laid_unicode_utf8_acceptRanges), ("glideslope/pulse.reasons", laid_glideslope_pulse_reasons), ("unicode/utf8.first", laid_unicode_utf8_first)], narrowed := true }
def PulseLampsUptoSaid : Prop := pulseLampsUptoRow.holds Tryz.pinned (OpenSpec.upto pulseLampsSpec)

/-- 'glideslopetop.TopPylonHeard', WHERE WHAT IT READS IS OF BULK AT MOST 1048576: true; the input reads as it did. -/
def topPylonHeardUptoRow : OpenClaim := { program := "ytamcmocdkcfjkaagreatdoor", sum := "25a32a8dee3fde384fb7bf52187e72da457a830cbc55f0c998c3a7cb8a31180a", func := "glideslope/glideslopetop.TopPylonHeard", spec := "topPylonHeard", inPlace := ["math.Float64bits", "math.Float64frombits", "math.archFloor", "math.archTrunc"], unfollowed := true, recurses := true, named := ["glideslope/pulse.reasons", "glideslope/record.nothing"], apart := false, laid := [("glideslope/record.nothing", laid_glideslope_record_nothing), ("glideslope/pulse.reasons", laid_glideslope_pulse_reasons)], narrowed := true }
def TopPylonHeardUptoSaid : Prop := topPylonHeardUptoRow.holds Tryz.pinned (OpenSpec.upto topPylonHeardSpec)

end Rows
end Go.Proofs.YtamcmocdkcfjkaaGreatDoor
