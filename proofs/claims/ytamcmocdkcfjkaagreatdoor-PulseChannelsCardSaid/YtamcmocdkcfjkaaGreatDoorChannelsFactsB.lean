/-
  The closed facts of the row pulseChannelsRow, one theorem for each: all in one theorem are too much for the kernel's memory.
-/
import Derived.Test.YtamcmocdkcfjkaaGreatDoorCards
import Derived.JoinedOf
import Derived.SevenTiedAt
import Derived.Test.YtamcmocdkcfjkaaGreatDoorProg
import Derived.Test.YtamcmocdkcfjkaaGreatDoorChannelsFactsA
set_option linter.all false
/- The closed facts of the row pulseChannelsRow, one theorem for each: all in one theorem are too much for the kernel's memory. -/
section
namespace Go.Proofs.YtamcmocdkcfjkaaGreatDoor
open Go Go.ChangeShapes Go.WideShapes
set_option maxRecDepth 100000
namespace Channels

theorem k14 : ((Rows.pulseChannelsRow.maps == (Tryz.f8.params.toList ++ Rows.pulseChannelsSpec.plain.varTypes Tryz.prog).any (Tryz.prog.mapsRec ·))) = true := by kernel_rfl
theorem k15 : ((Rows.pulseChannelsRow.ifaces == (Tryz.f8.params.toList ++ Rows.pulseChannelsSpec.plain.varTypes Tryz.prog).any (Tryz.prog.ifacesRec ·))) = true := by kernel_rfl
theorem k16 : ((Rows.pulseChannelsRow.mapsOut == Tryz.prog.mapsAmong Tryz.f8.resultTypes.toList)) = true := by kernel_rfl
theorem k17 : ((Rows.pulseChannelsRow.loops == (Tryz.f8.params.toList ++ Rows.pulseChannelsSpec.plain.varTypes Tryz.prog).any (Tryz.prog.loopsFrom ·))) = true := by kernel_rfl
theorem k18 : ((Rows.pulseChannelsRow.wideKeys == (Tryz.f8.params.toList ++ Rows.pulseChannelsSpec.plain.varTypes Tryz.prog ++ Tryz.f8.resultTypes.toList).any (Tryz.prog.wideKeysFrom ·))) = true := by kernel_rfl
theorem k19 : (Rows.pulseChannelsSpec.vars.all (Tryz.prog.varReadable ·)) = true := by kernel_rfl
theorem k20 : (Tryz.f8.resultTypes.all (fun t => Tryz.prog.readableRec t && decide (t < Tryz.prog.types.size))) = true := by kernel_rfl
theorem k21 : ((Rows.pulseChannelsRow.ifacesOut == Tryz.f8.resultTypes.toList.any (Tryz.prog.ifacesRec ·))) = true := by kernel_rfl
theorem k22 : ((Rows.pulseChannelsRow.loopsOut == Tryz.f8.resultTypes.toList.any (Tryz.prog.loopsFrom ·))) = true := by kernel_rfl
theorem k23 : ((Rows.pulseChannelsRow.plainKeys == Tryz.prog.plainKeys)) = true := by kernel_rfl
theorem k24 : (Rows.pulseChannelsRow.shortTexts.isNone) = true := by kernel_rfl
theorem k25 : (Tryz.prog.stopsHeard) = true := by kernel_rfl
theorem k26 : (Tryz.prog.mayEnter) = true := by kernel_rfl
theorem k27 : ((Rows.pulseChannelsRow.lifted == Tryz.prog.liftsFinal)) = true := by kernel_rfl
theorem k28 : ((Tryz.prog.make == some Rows.pulseChannelsRow.make)) = true := by kernel_rfl
theorem k29 : ((Rows.pulseChannelsRow.kinds == (if Rows.pulseChannelsRow.domain.isEmpty then [] else Tryz.f8.params.toList.map fun t => match Tryz.prog.underlying t with | some (.int k) => some k | _ => none))) = true := by kernel_rfl
theorem k30 : ((Rows.pulseChannelsRow.pinned == Rows.pulseChannelsRow.pinnedBy)) = true := by kernel_rfl
theorem k31 : ((Rows.pulseChannelsRow.veiled == (Tryz.f8.params.toList ++ Rows.pulseChannelsSpec.plain.varTypes Tryz.prog ++ Tryz.f8.resultTypes.toList).any (Tryz.prog.veiledRec ·))) = true := by kernel_rfl
theorem k32 : (Rows.pulseChannelsRow.veiledFits Tryz.prog Tryz.f8.params.toList (Tryz.f8.params.toList ++ Rows.pulseChannelsSpec.plain.varTypes Tryz.prog ++ Tryz.f8.resultTypes.toList)) = true := by kernel_rfl
theorem and2 {a b : Bool} (x : a = true) (y : b = true) : (a && b) = true := by rw [x, y]; rfl
theorem joined : joinedFacts Tryz.prog 8 Tryz.f8 Rows.pulseChannelsSpec Rows.pulseChannelsRow = true :=
  and2 (and2 (and2 (and2 (and2 (and2 (and2 (and2 (and2 (and2 (and2 (and2 (and2 (and2 (and2 (and2 (and2 (and2 (and2 (and2 (and2 (and2 (and2 (and2 (and2 (and2 (and2 (and2 (and2 (and2 (and2 k1 k2) k3) k4) k5) k6) k7) k8) k9) k10) k11) k12) k13) k14) k15) k16) k17) k18) k19) k20) k21) k22) k23) k24) k25) k26) k27) k28) k29) k30) k31) k32
theorem named : Tryz.prog.funcNamed "glideslope/glideslopelaw07.PulseChannels" = some 8 := by kernel_rfl
theorem inst : Tryz.f8.isInstance Tryz.prog Rows.pulseChannelsRow.origin Rows.pulseChannelsRow.targs := of_decide_eq_true (by kernel_rfl)
theorem wrap : Tryz.f8.isWrapper Tryz.prog Rows.pulseChannelsRow.wrapper Rows.pulseChannelsRow.mainSum := by unfold Func.isWrapper; first | (rw [if_pos (by decide +kernel)]; kernel_rfl) | (rw [if_neg (by decide +kernel)]; exact ⟨rfl, rfl⟩)
theorem byText : OpenClaim.wfByText (OpenSpec.ofChange Rows.pulseChannelsSpec) Rows.pulseChannelsRow = true := by kernel_rfl
theorem standIn : ([3, 3, 5].all fun u => !Tryz.prog.wantsStandIn u) = true := by kernel_rfl
theorem mains : Tryz.prog.mainIs = some (true, "13112dd425a6582c4da7fa69410854ca72779339d2a27130e23efe81aa955f31".toList) := by kernel_rfl
theorem looked : false = Tryz.prog.looks [] := by kernel_rfl
theorem goes : false = Rows.pulseChannelsRow.goesBy Tryz.prog := by kernel_rfl
theorem called : Program.funcNamed (Pinned.checked Tryz.pinned).prog (OpenClaim.func Rows.pulseChannelsRow) = some 8 := named
end Channels
end Go.Proofs.YtamcmocdkcfjkaaGreatDoor
end
