/-
  PulseChannels returns true for every input, and what it was given reads as it did. Conditions: the package-level variables that the row lists start as the program's text lays them (the card ties them); arguments of any size.
-/
import Derived.Test.YtamcmocdkcfjkaaGreatDoorKo
import Derived.Test.YtamcmocdkcfjkaaGreatDoorChannelsFactsB
import Derived.Test.YtamcmocdkcfjkaaGreatDoorCards
import Derived.Test.YtamcmocdkcfjkaaGreatDoorTie
import Derived.SevenTiedAt
import Derived.WalkKit
import Derived.OpenShut
set_option linter.all false
/- PulseChannels returns true for every input, and what it was given reads as it did. Conditions: the package-level variables that the row lists start as the program's text lays them (the card ties them); arguments of any size. -/
section
namespace Go.Proofs.YtamcmocdkcfjkaaGreatDoor
open Gl Go.ChangeShapes Go.WideShapes Go.ChangeAt Go.RowKit
set_option maxRecDepth 100000

theorem ownT : ownKnob Tryz.prog.godebug = none := by kernel_rfl

namespace Channels
theorem walk (a0 a1 a2 : Int) {W : World} (hL : laidMetH Tryz.prog LA W) (hsh : W.ShapedOpen Tryz.prog) :
    Calls Tryz.prog 8 #[.int .i64 a0, .int .i64 a1, .int .u8 a2] W fun e w' => e = .returned (.bool true) ∧ Below W.heap.size W w' :=
  FnSem.calls (C := CX []) (law8 a0 a1 a2 G0 gok0) (fun i b hb => plainB_owned (by
      have : G0.all plainB = true := by rfl
      simp only [List.all_eq_true] at this
      exact this b (List.mem_of_getElem? hb))) (rep0 hL hsh) (.cons (.int _ _) (.cons (.int _ _) (.cons (.int _ _) .nil)))

theorem lifted (os : Os) (started : os.Started) (H : Type) (enc : TypeId × Value → H) :
    ReturnsInHanded {} Tryz.checked os 8 .any (fun w args => (Rows.pulseChannelsSpec.pre enc Tryz.prog Tryz.f8 [] false w args ∧ laidMetH Tryz.prog LA w) ∧ sizedMet enc Tryz.prog Tryz.f8 (OpenSpec.ofChange Rows.pulseChannelsSpec) false w args)
      (Rows.pulseChannelsSpec.post enc Tryz.prog Tryz.f8 false true false false) := by
  refine handed ownT started (by kernel_rfl) Tryz.func8
    (ChangeSpec.witness_shaped (enc := enc) (C := Tryz.checked) (os := os) (X := fun w _ => laidMetH Tryz.prog LA w) false (wL os) #[.int .i64 0, .int .i64 0, .int .u8 0] 8 (wL_os os) (World.shaped_of_ZipB (by kernel_rfl) (by kernel_rfl)) (by kernel_rfl) (by kernel_rfl) (by kernel_rfl) (wL_met os _)) ?_
  intro W base args ds gs before hval0 hW _ hL hsh
  have hval : ∀ (j : Nat) t v, Tryz.f8.params[j]? = some t → args[j]? = some v → Value.okWide Tryz.prog W .any base t v := hval0
  have hW' := hW
  obtain ⟨p, q, hA0, hV, rfl, hfz, hnd⟩ := hW
  have hA : DataW.TrodAll enc Tryz.prog W 0 (fun _ => true) true Tryz.f8.params.toList args.toList ds p := hA0
  rw [Tryz.params8] at hA hval
  obtain ⟨v0, vs0, d0, ds0, p0, q0, hargs, rfl, rfl, h0, r0⟩ := trodAll_cons hA
  obtain ⟨v1, vs1, d1, ds1, p1, q1, rfl, rfl, rfl, h1, r1⟩ := trodAll_cons r0
  obtain ⟨v2, vs2, d2, ds2, p2, q2, rfl, rfl, rfl, h2, r2⟩ := trodAll_cons r1
  obtain ⟨rfl, rfl, rfl⟩ := trodAll_nil r2
  obtain rfl : args = #[v0, v1, v2] := by cases args; simp_all
  obtain ⟨rfl, rfl⟩ := trodVars_none hV
  obtain ⟨a0, rfl, rfl, rfl, w0⟩ := open_int Tryz.underlying3 (hval 0 3 v0 rfl rfl) h0
  obtain ⟨a1, rfl, rfl, rfl, w1⟩ := open_int Tryz.underlying3 (hval 1 3 v1 rfl rfl) h1
  obtain ⟨a2, rfl, rfl, rfl, w2⟩ := open_int Tryz.underlying5 (hval 2 5 v2 rfl rfl) h2
  clear hA0 hval0
  simp only [List.append_nil] at hW'
  refine (walk a0 a1 a2 hL hsh).mono fun e W' ⟨he, hb⟩ => ?_
  subst he
  exact ⟨_, rfl, _, _, _, [], [], [], hW', trodAll_mk1 (shut_bool Tryz.underlying4 _), (trodAll_cons_mk (shut_int Tryz.underlying3 w0) (trodAll_cons_mk (shut_int Tryz.underlying3 w1) (trodAll_cons_mk (shut_int Tryz.underlying5 w2) trodAll_mk0))), rfl, hb.frame _, fun h => by cases h⟩

theorem laid_eq : Rows.pulseChannelsRow.laid = LA := rfl
theorem lifted' (os : Os) (started : os.Started) (H : Type) (enc : TypeId × Value → H) :
    ReturnsInHanded {} Tryz.checked os 8 .any (fun w args => (Rows.pulseChannelsSpec.pre enc Tryz.prog Tryz.f8 [] false w args ∧ laidMetH Tryz.prog Rows.pulseChannelsRow.laid w) ∧ sizedMet enc Tryz.prog Tryz.f8 (OpenSpec.ofChange Rows.pulseChannelsSpec) false w args)
      (Rows.pulseChannelsSpec.post enc Tryz.prog Tryz.f8 false true false false) := by
  rw [laid_eq]
  exact lifted os started H enc

theorem row_holds : Rows.pulseChannelsRow.holds Tryz.pinned (OpenSpec.ofChange Rows.pulseChannelsSpec) :=
  OpenClaim.holds_of_wide 8 Tryz.f8 rfl rfl rfl rfl rfl rfl rfl ⟨rfl, rfl, rfl, rfl, rfl⟩ rfl rfl rfl rfl rfl called Tryz.func8 joined inst wrap
    (fun os started H enc _ => lifted' os started H enc)

theorem card_holds : Rows.PulseChannelsCardSaid :=
  Claim7.holds_tied_plain_at .later [] [.data, .data, .data, .data, .funcs, .pinned] true (true, "13112dd425a6582c4da7fa69410854ca72779339d2a27130e23efe81aa955f31") false row_holds (fun _ h => by cases h) byText (fun _ h => by cases h) pulseChannels_row_tie rfl ⟨rfl, rfl⟩ mains rfl
    (fun f fn hf hfn => by
      obtain rfl : f = 8 := Option.some.inj (called.symm.trans hf) |>.symm
      obtain rfl : fn = Tryz.f8 := (Option.some.inj (Tryz.func8.symm.trans hfn)).symm
      exact ⟨looked, fun j t ht => by
        rw [Tryz.params8] at ht
        have hm : t ∈ [3, 3, 5] := by simpa using Array.mem_of_getElem? ht
        exact (show Tryz.prog.wantsStandIn t = false by simpa using List.all_eq_true.1 standIn t hm)⟩)
    goes
#print axioms card_holds
end Channels
end Go.Proofs.YtamcmocdkcfjkaaGreatDoor
end
