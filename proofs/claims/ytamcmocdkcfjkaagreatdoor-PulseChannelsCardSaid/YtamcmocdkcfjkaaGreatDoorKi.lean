/-
  Calls at the arguments of the document's examples: the kernel runs them.
-/
import Derived.Test.YtamcmocdkcfjkaaGreatDoorKh
set_option linter.all false
/- Calls at the arguments of the document's examples: the kernel runs them. -/
section
namespace Go.Proofs.YtamcmocdkcfjkaaGreatDoor
open Gl
set_option maxRecDepth 100000
def ePairs : Ent := ⟨[.slice (some ⟨9, 0, none⟩) 5 FULL, .int .i64 12, .int .i64 1], [.cells [.int .i64 5, .int .i64 10, .int .i64 17, .int .i64 22, .int .i64 30] 1 true true], .tuple #[.slice (some ⟨10, 0, none⟩) 2 FULL, .int .i64 0], [.cells [.int .i64 5, .int .i64 10] 1 true false]⟩
def eAlone : Ent := ⟨[.slice (some ⟨9, 0, none⟩) 5 FULL, .int .i64 12, .int .i64 1], [.cells [.int .i64 5, .int .i64 10, .int .i64 17, .int .i64 22, .int .i64 30] 1 true true], .tuple #[.slice (some ⟨10, 0, none⟩) 1 FULL, .int .i64 0], [.cells [.int .i64 30] 1 true false]⟩
def eAnswers : Ent := ⟨[.agg #[.int .i64 12, .int .i64 50, .int .i64 2, .int .i64 60, .int .i64 20, .int .i64 3, .int .i64 1000, .int .i64 400], .slice (some ⟨9, 0, none⟩) 6 FULL], [.cells [.int .i64 100, .int .i64 110, .int .i64 150, .int .i64 200, .int .i64 300, .int .i64 400] 1 true true], .tuple #[.slice (some ⟨10, 0, none⟩) 6 FULL, .int .i64 0], [.cells [.int .i64 150, .string ⟨#[]⟩, .int .i64 (-1), .string ⟨#[100, 101, 97, 100]⟩, .int .i64 (-1), .string ⟨#[100, 101, 97, 100]⟩, .int .i64 250, .string ⟨#[]⟩, .int .i64 350, .string ⟨#[]⟩, .int .i64 (-1), .string ⟨#[108, 111, 97, 100]⟩] 2 true false]⟩
def eGivenD : Ent := ⟨[.agg #[.int .i64 12, .int .i64 50, .int .i64 2, .int .i64 60, .int .i64 20, .int .i64 3, .int .i64 1000, .int .i64 400], .slice (some ⟨9, 0, none⟩) 6 FULL, .string ⟨#[100, 101, 97, 100]⟩], [.cells [.int .i64 100, .int .i64 110, .int .i64 150, .int .i64 200, .int .i64 300, .int .i64 400] 1 true true], .tuple #[.slice (some ⟨10, 0, none⟩) 2 FULL, .int .i64 0], [.cells [.int .i64 1, .int .i64 2] 1 true false]⟩
def eGivenE : Ent := ⟨[.agg #[.int .i64 12, .int .i64 50, .int .i64 2, .int .i64 0, .int .i64 20, .int .i64 3, .int .i64 1000, .int .i64 400], .slice (some ⟨9, 0, none⟩) 6 FULL, .string ⟨#[101, 99, 104, 111]⟩], [.cells [.int .i64 100, .int .i64 110, .int .i64 150, .int .i64 200, .int .i64 300, .int .i64 400] 1 true true], .tuple #[.slice (some ⟨10, 0, none⟩) 1 FULL, .int .i64 0], [.cells [.int .i64 1] 1 true false]⟩
def eSquitter : Ent := ⟨[.agg #[.int .i64 12, .int .i64 50, .int .i64 2, .int .i64 60, .int .i64 20, .int .i64 3, .int .i64 1000, .int .i64 400], .slice (some ⟨9, 0, none⟩) 6 FULL, .int .i64 2000], [.cells [.int .i64 100, .int .i64 110, .int .i64 150, .int .i64 200, .int .i64 300, .int .i64 400] 1 true true], .tuple #[.slice (some ⟨10, 0, none⟩) 4 FULL, .int .i64 0], [.cells [.int .i64 750, .int .i64 1150, .int .i64 1550, .int .i64 1950] 1 true false]⟩
def eReplies : Ent := ⟨[.agg #[.int .i64 12, .int .i64 50, .int .i64 2, .int .i64 60, .int .i64 20, .int .i64 3, .int .i64 1000, .int .i64 400], .slice (some ⟨9, 0, none⟩) 6 FULL, .int .i64 2000], [.cells [.int .i64 100, .int .i64 110, .int .i64 150, .int .i64 200, .int .i64 300, .int .i64 400] 1 true true], .tuple #[.slice (some ⟨10, 0, none⟩) 7 FULL, .int .i64 0], [.cells [.int .i64 150, .int .i64 250, .int .i64 350, .int .i64 750, .int .i64 1150, .int .i64 1550, .int .i64 1950] 1 true false]⟩
def eLoad : Ent := ⟨[.agg #[.int .i64 12, .int .i64 50, .int .i64 2, .int .i64 60, .int .i64 20, .int .i64 3, .int .i64 1000, .int .i64 400], .slice (some ⟨9, 0, none⟩) 6 FULL, .int .i64 2000], [.cells [.int .i64 100, .int .i64 110, .int .i64 150, .int .i64 200, .int .i64 300, .int .i64 400] 1 true true], .tuple #[.int .i64 4, .int .i64 0], []⟩
def eSent : Ent := ⟨[.agg #[.int .i64 12, .int .i64 50, .int .i64 2, .int .i64 60, .int .i64 20, .int .i64 3, .int .i64 1000, .int .i64 400], .slice (some ⟨9, 0, none⟩) 1 FULL, .int .i64 200], [.cells [.int .i64 100] 1 true true], .tuple #[.slice (some ⟨10, 0, none⟩) 2 FULL, .int .i64 0], [.cells [.int .i64 150, .int .i64 162] 1 true false]⟩
def eDistA : Ent := ⟨[.agg #[.int .i64 12, .int .i64 50, .int .i64 2, .int .i64 60, .int .i64 20, .int .i64 3, .int .i64 1000, .int .i64 400], .int .i64 200, .int .i64 350], [], .tuple #[.agg #[.int .i64 49, .int .i64 51], .int .i64 0], []⟩
def eDistB : Ent := ⟨[.agg #[.int .i64 12, .int .i64 50, .int .i64 2, .int .i64 60, .int .i64 20, .int .i64 3, .int .i64 1000, .int .i64 400], .int .i64 310, .int .i64 350], [], .tuple #[.agg #[.int .i64 0, .int .i64 0], .int .i64 7], []⟩
def eAgreed : Ent := ⟨[.agg #[.int .i64 12, .int .i64 50, .int .i64 2, .int .i64 60, .int .i64 20, .int .i64 3, .int .i64 1000, .int .i64 400], .slice (some ⟨9, 0, none⟩) 3 FULL, .slice (some ⟨10, 0, none⟩) 5 FULL, .int .i64 105], [.cells [.int .i64 0, .int .i64 1000, .int .i64 2000] 1 true true, .cells [.int .i64 250, .int .i64 260, .int .i64 1250, .int .i64 1300, .int .i64 2251] 1 true true], .tuple #[.int .i64 1, .int .i64 0], []⟩
def eTrackA : Ent := ⟨[.agg #[.int .i64 12, .int .i64 50, .int .i64 2, .int .i64 60, .int .i64 20, .int .i64 3, .int .i64 1000, .int .i64 400], .agg #[.int .i64 90, .int .i64 5, .int .i64 1], .slice (some ⟨9, 0, none⟩) 3 FULL, .slice (some ⟨10, 0, none⟩) 5 FULL], [.cells [.int .i64 0, .int .i64 1000, .int .i64 2000] 1 true true, .cells [.int .i64 250, .int .i64 260, .int .i64 1250, .int .i64 1300, .int .i64 2251] 1 true true], .tuple #[.slice (some ⟨11, 0, none⟩) 3 FULL, .int .i64 0], [.cells [.int .i64 90, .int .i64 (-1), .int .i64 (-1)] 1 true false]⟩
def eTrackB : Ent := ⟨[.agg #[.int .i64 12, .int .i64 50, .int .i64 2, .int .i64 60, .int .i64 20, .int .i64 3, .int .i64 1000, .int .i64 400], .agg #[.int .i64 95, .int .i64 5, .int .i64 1], .slice (some ⟨9, 0, none⟩) 3 FULL, .slice (some ⟨10, 0, none⟩) 5 FULL], [.cells [.int .i64 0, .int .i64 1000, .int .i64 2000] 1 true true, .cells [.int .i64 250, .int .i64 260, .int .i64 1250, .int .i64 1300, .int .i64 2251] 1 true true], .tuple #[.slice (some ⟨11, 0, none⟩) 3 FULL, .int .i64 0], [.cells [.int .i64 99, .int .i64 99, .int .i64 100] 1 true false]⟩
def eChanA : Ent := ⟨[.int .i64 17, .int .u8 88], [], .tuple #[.agg #[.int .i64 1041, .int .i64 978, .int .i64 12], .int .i64 0], []⟩
def eChanB : Ent := ⟨[.int .i64 80, .int .u8 88], [], .tuple #[.agg #[.int .i64 1104, .int .i64 1167, .int .i64 12], .int .i64 0], []⟩
def eTuned : Ent := ⟨[.int .i64 978, .int .u8 88], [], .tuple #[.int .i64 17, .int .i64 0], []⟩
def eLamps : Ent := ⟨[.slice (some ⟨9, 0, none⟩) 1 FULL, .slice (some ⟨11, 0, none⟩) 7 FULL], [.cells [.string ⟨#[111, 117, 116, 101, 114]⟩, .int .i64 10, .int .i64 14, .slice (some ⟨10, 0, none⟩) 2 FULL] 4 true true, .cells [.int .i64 2, .int .i64 1] 1 true true, .cells [.int .i64 9, .int .i64 10, .int .i64 11, .int .i64 12, .int .i64 13, .int .i64 14, .int .i64 13] 1 true true], .tuple #[.slice (some ⟨12, 0, none⟩) 7 FULL, .int .i64 0], [.cells [.string ⟨#[]⟩, .string ⟨#[111, 117, 116, 101, 114]⟩, .string ⟨#[111, 117, 116, 101, 114]⟩, .string ⟨#[]⟩, .string ⟨#[111, 117, 116, 101, 114]⟩, .string ⟨#[]⟩, .string ⟨#[111, 117, 116, 101, 114]⟩] 1 true true]⟩
def ePassed : Ent := ⟨[.slice (some ⟨9, 0, none⟩) 1 FULL, .slice (some ⟨11, 0, none⟩) 7 FULL, .string ⟨#[111, 117, 116, 101, 114]⟩], [.cells [.string ⟨#[111, 117, 116, 101, 114]⟩, .int .i64 10, .int .i64 14, .slice (some ⟨10, 0, none⟩) 2 FULL] 4 true true, .cells [.int .i64 2, .int .i64 1] 1 true true, .cells [.int .i64 9, .int .i64 10, .int .i64 11, .int .i64 12, .int .i64 13, .int .i64 14, .int .i64 13] 1 true true], .tuple #[.slice (some ⟨12, 0, none⟩) 2 FULL, .int .i64 0], [.cells [.int .i64 1, .int .i64 5, .int .i64 6, .int .i64 7] 2 true false]⟩
def ePrint : Ent := ⟨[.agg #[.int .i64 12, .int .i64 50, .int .i64 2, .int .i64 60, .int .i64 20, .int .i64 3, .int .i64 1000, .int .i64 400]], [], .tuple #[.string ⟨#[115, 116, 97, 116, 105, 111, 110, 32, 49, 50, 32, 53, 48, 32, 50, 32, 54, 48, 32, 50, 48, 32, 51, 32, 49, 48, 48, 48, 32, 52, 48, 48, 10]⟩, .int .i64 0], []⟩
def eParse : Ent := ⟨[.string ⟨#[115, 116, 97, 116, 105, 111, 110, 32, 49, 50, 32, 53, 48, 32, 50, 32, 54, 48, 32, 50, 48, 32, 51, 32, 49, 48, 48, 48, 32, 52, 48, 48, 10]⟩], [], .tuple #[.agg #[.int .i64 12, .int .i64 50, .int .i64 2, .int .i64 60, .int .i64 20, .int .i64 3, .int .i64 1000, .int .i64 400], .int .i64 0, .int .i64 0], []⟩
theorem kePairs : entOK (CX T1) G0 ePairs 4000 17 = true := by kernel_rfl
theorem keAlone : entOK (CX T1) G0 eAlone 4000 19 = true := by kernel_rfl
theorem keAnswers : entOK (CX T1) G0 eAnswers 4000 23 = true := by kernel_rfl
theorem keGivenD : entOK (CX T1) G0 eGivenD 4000 24 = true := by kernel_rfl
theorem keGivenE : entOK (CX T1) G0 eGivenE 4000 24 = true := by kernel_rfl
theorem keSquitter : entOK (CX T1) G0 eSquitter 4000 34 = true := by kernel_rfl
theorem keReplies : entOK (CX T1) G0 eReplies 4000 35 = true := by kernel_rfl
theorem keLoad : entOK (CX T1) G0 eLoad 4000 36 = true := by kernel_rfl
theorem keSent : entOK (CX T1) G0 eSent 4000 37 = true := by kernel_rfl
theorem keDistA : entOK (CX T1) G0 eDistA 4000 42 = true := by kernel_rfl
theorem keDistB : entOK (CX T1) G0 eDistB 4000 42 = true := by kernel_rfl
theorem keAgreed : entOK (CX T1) G0 eAgreed 4000 43 = true := by kernel_rfl
theorem keTrackA : entOK (CX T1) G0 eTrackA 4000 50 = true := by kernel_rfl
theorem keTrackB : entOK (CX T1) G0 eTrackB 4000 50 = true := by kernel_rfl
theorem keChanA : entOK (CX T1) G0 eChanA 4000 53 = true := by kernel_rfl
theorem keChanB : entOK (CX T1) G0 eChanB 4000 53 = true := by kernel_rfl
theorem keTuned : entOK (CX T1) G0 eTuned 4000 54 = true := by kernel_rfl
theorem keLamps : entOK (CX T1) G0 eLamps 4000 62 = true := by kernel_rfl
theorem kePassed : entOK (CX T1) G0 ePassed 4000 64 = true := by kernel_rfl
theorem kePrint : entOK (CX T1) G0 ePrint 4000 73 = true := by kernel_rfl
theorem keParse : entOK (CX T1) G0 eParse 4000 74 = true := by kernel_rfl
end Go.Proofs.YtamcmocdkcfjkaaGreatDoor
end
