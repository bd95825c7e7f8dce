/-
  The closed facts of the row pulseChannelsRow, one theorem for each: all in one theorem are too much for the kernel's memory.
-/
import Derived.Test.YtamcmocdkcfjkaaGreatDoorCards
import Derived.JoinedOf
import Derived.SevenTiedAt
import Derived.Test.YtamcmocdkcfjkaaGreatDoorProg
set_option linter.all false
/- The closed facts of the row pulseChannelsRow, one theorem for each: all in one theorem are too much for the kernel's memory. -/
section
namespace Go.Proofs.YtamcmocdkcfjkaaGreatDoor
open Go Go.ChangeShapes Go.WideShapes
set_option maxRecDepth 100000
namespace Channels

theorem k1 : (Rows.pulseChannelsRow.wf (OpenSpec.ofChange Rows.pulseChannelsSpec)) = true := by kernel_rfl
theorem k2 : (laidOutB Tryz.prog) = true := by kernel_rfl
theorem k3 : (mapsRowed Tryz.prog) = true := by kernel_rfl
theorem k4 : (Tryz.f8.params.all (Tryz.prog.readableRec ·)) = true := by kernel_rfl
theorem k5 : (namedTie Tryz.prog Rows.pulseChannelsRow.named Rows.pulseChannelsSpec.vars) = true := by kernel_rfl
theorem k6 : ((Rows.pulseChannelsRow.stops == [])) = true := by kernel_rfl
theorem k7 : ((Tryz.prog.stops == [])) = true := by kernel_rfl
theorem k8 : ((Rows.pulseChannelsRow.knobs == [])) = true := by kernel_rfl
theorem k9 : ((Tryz.prog.stopKnobs == [])) = true := by kernel_rfl
theorem k10 : ((Rows.pulseChannelsRow.inPlace == Tryz.prog.inPlace 8)) = true := by kernel_rfl
theorem k11 : ((Rows.pulseChannelsRow.unfollowed == Tryz.prog.unfollowed 8)) = true := by kernel_rfl
theorem k12 : ((Rows.pulseChannelsRow.recurses == Tryz.prog.recurses 8)) = true := by kernel_rfl
theorem k13 : ((Rows.pulseChannelsRow.named == Tryz.prog.varsNamed 8)) = true := by kernel_rfl
end Channels
end Go.Proofs.YtamcmocdkcfjkaaGreatDoor
end
