/-
  Tuned: the package's and the reference's.
-/
import Derived.Test.YtamcmocdkcfjkaaGreatDoorKm
import Derived.Test.YtamcmocdkcfjkaaGreatDoorKk
set_option linter.all false
/- Tuned: the package's and the reference's. -/
section
namespace Go.Proofs.YtamcmocdkcfjkaaGreatDoor
open Gl
set_option maxRecDepth 10000
set_option linter.unusedSimpArgs false

/-- The first channel from i + 1 on, of m, with a frequency of replies. -/
def tunedN (f k : Int) : Nat → Nat → Int
  | 0, _ => 0
  | m + 1, i => if 1024 + ((i + 1 : Nat) : Int) + chBy ((i + 1 : Nat) : Int) k = f then ((i + 1 : Nat) : Int) else tunedN f k m (i + 1)
def tuned (f k : Int) : Int := tunedN f k 126 0
def tunedE (f k : Int) : Int := if k = 88 ∨ k = 89 then (if tuned f k = 0 then 7 else 0) else 13
theorem tunedN_pos (f k : Int) : ∀ m i, tunedN f k m i = 0 ∨ 0 < tunedN f k m i
  | 0, _ => .inl rfl
  | m + 1, i => by
    unfold tunedN
    split
    · right; omega
    · exact tunedN_pos f k m (i + 1)

def xTuned : Sp := fun args h => match args with
  | [.int .i64 f, .int .u8 k] => some (.tuple #[.int .i64 (if k = 88 ∨ k = 89 then tuned f k else 0), .int .i64 (tunedE f k)], h)
  | _ => none
noncomputable def cd54 : Code := Tryz.f54.body.getD .skip
theorem fb54 : fnB GA Tryz.prog 54 = some ⟨33, cd54, [.tmp 4, .tmp 5]⟩ := by kernel_rfl
theorem ok54 : OkA 54 xTuned := by
  intro args h v h' hx
  unfold xTuned at hx
  split at hx
  case h_2 => cases hx
  rename_i f k
  cases hx
  refine FnSemQ.pure (FnSemQ.ofRun (C := CX [(121, xChan)]) (okX (.cons ok121 .nil)) (drawA _) fb54 (by simp) ?_) rfl
  simp only [cd54, Tryz.f54, Option.getD_some]
  refine Run.seq ?_
  apply Run.regionN
  · simp only [GR, GO, GB1, GN, GM, GV, reduceIte, Nat.reduceEqDiff, Nat.reduceAdd, Nat.reduceLeDiff, Nat.reduceMul, CX_P, CX_X, tlook, Bool.false_eq_true, Bool.true_eq_false, and_self, and_true, true_and, Bool.and_self, Bool.and_true, Int.toNat_zero, Int.toNat_one, Int.reduceToNat, Nat.zero_add, Nat.add_zero]
    rfl
  refine Run.seq (Run.seq ?_)
  apply Run.regionN
  · simp only [GR, GO, GB1, GN, GM, GV, reduceIte, Nat.reduceEqDiff, Nat.reduceAdd, Nat.reduceLeDiff, Nat.reduceMul, CX_P, CX_X, tlook, Bool.false_eq_true, Bool.true_eq_false, and_self, and_true, true_and, Bool.and_self, Bool.and_true, Int.toNat_zero, Int.toNat_one, Int.reduceToNat, Nat.zero_add, Nat.add_zero]
    rfl
  refine Run.block (Run.loop (fun fr h' => fr 0 = .int .i64 f ∧ fr 1 = .int .u8 k ∧ (∃ js, h' = h ++ js) ∧ ∃ i : Nat, fr 9 = .int .i64 i ∧ i ≤ 126 ∧ (0 < i → (k = 88 ∨ k = 89)) ∧ tuned f k = tunedN f k (126 - i) i) (fun fr _ => 126 - (iv (fr 9)).toNat) ?_ ?_)
  · rintro fr g ⟨f0, f1, ⟨js, hg⟩, i, f9, hi, hp, ht⟩
    refine Run.seq ?_
    by_cases hlt : i < 126
    · have d1 : decide ((i : Int) < 126) = true := by simp; omega
      have w1 : IntKind.i64.wrap ((i : Int) + 1) = ((i + 1 : Nat) : Int) := by rw [IntWalk.i64_in _ (by omega)]; simp
      have hn : 1 ≤ ((i + 1 : Nat) : Int) ∧ ((i + 1 : Nat) : Int) ≤ 126 := by omega
      apply Run.regionN
      · simp only [GR, GO, GB1, GN, GM, GV, reduceIte, Nat.reduceEqDiff, Nat.reduceAdd, Nat.reduceLeDiff, Nat.reduceMul, CX_P, CX_X, tlook, Bool.false_eq_true, Bool.true_eq_false, and_self, and_true, true_and, Bool.and_self, Bool.and_true, Int.toNat_zero, Int.toNat_one, Int.reduceToNat, Nat.zero_add, Nat.add_zero, f9, d1]
        rfl
      refine Run.seq (Run.condT rfl (Run.skip (Run.seq (Run.block (Run.seq ?_)))))
      apply Run.regionN
      · simp only [GR, GO, GB1, GN, GM, GV, reduceIte, Nat.reduceEqDiff, Nat.reduceAdd, Nat.reduceLeDiff, Nat.reduceMul, CX_P, CX_X, tlook, Bool.false_eq_true, Bool.true_eq_false, and_self, and_true, true_and, Bool.and_self, Bool.and_true, Int.toNat_zero, Int.toNat_one, Int.reduceToNat, Nat.zero_add, Nat.add_zero, f9]
        rfl
      refine Run.app0 (Run.seq ?_)
      by_cases hk : k = 88 ∨ k = 89
      · have ek : knd k = 0 := by unfold knd; rw [if_neg (by omega)]
        apply Run.regionN
        · simp only [GR, GO, GB1, GN, GM, GV, reduceIte, Nat.reduceEqDiff, Nat.reduceAdd, Nat.reduceLeDiff, Nat.reduceMul, CX_P, CX_X, tlook, Bool.false_eq_true, Bool.true_eq_false, and_self, and_true, true_and, Bool.and_self, Bool.and_true, Int.toNat_zero, Int.toNat_one, Int.reduceToNat, Nat.zero_add, Nat.add_zero, f9, f1, w1, xChan_eq _ k _ hn, al86, st86, if_pos hk, agg3, ek]
          rfl
        refine Run.seq (Run.seq ?_)
        apply Run.regionN
        · simp only [GR, GO, GB1, GN, GM, GV, reduceIte, Nat.reduceEqDiff, Nat.reduceAdd, Nat.reduceLeDiff, Nat.reduceMul, CX_P, CX_X, tlook, Bool.false_eq_true, Bool.true_eq_false, and_self, and_true, true_and, Bool.and_self, Bool.and_true, Int.toNat_zero, Int.toNat_one, Int.reduceToNat, Nat.zero_add, Nat.add_zero, bne_self_eq_false]
          rfl
        refine Run.condF rfl (Run.skip (Run.seq ?_))
        by_cases hf : 1024 + ((i + 1 : Nat) : Int) + chBy ((i + 1 : Nat) : Int) k = f
        · apply Run.regionN
          · simp only [GR, GO, GB1, GN, GM, GV, reduceIte, Nat.reduceEqDiff, Nat.reduceAdd, Nat.reduceLeDiff, Nat.reduceMul, CX_P, CX_X, tlook, Bool.false_eq_true, Bool.true_eq_false, and_self, and_true, true_and, Bool.and_self, Bool.and_true, Int.toNat_zero, Int.toNat_one, Int.reduceToNat, Nat.zero_add, Nat.add_zero, f0, ld86, ld3, (ia86 _).1, (ia86 _).2, bl86, eq86, hf, decide_true]
            rfl
          refine Run.condT rfl (Run.seq ?_)
          apply Run.regionN
          · simp only [GR, GO, GB1, GN, GM, GV, reduceIte, Nat.reduceEqDiff, Nat.reduceAdd, Nat.reduceLeDiff, Nat.reduceMul, CX_P, CX_X, tlook, Bool.false_eq_true, Bool.true_eq_false, and_self, and_true, true_and, Bool.and_self, Bool.and_true, Int.toNat_zero, Int.toNat_one, Int.reduceToNat, Nat.zero_add, Nat.add_zero, f9, w1]
            rfl
          refine Run.ret ⟨trivial, _, rfl, ?_, js ++ [_], by rw [hg, List.append_assoc]⟩
          have : tuned f k = ((i + 1 : Nat) : Int) := by
            rw [ht, show 126 - i = (126 - (i + 1)) + 1 by omega]
            unfold tunedN
            rw [if_pos hf]
          simp [packed, fset, hk, tunedE, this]
          omega
        · apply Run.regionN
          · simp only [GR, GO, GB1, GN, GM, GV, reduceIte, Nat.reduceEqDiff, Nat.reduceAdd, Nat.reduceLeDiff, Nat.reduceMul, CX_P, CX_X, tlook, Bool.false_eq_true, Bool.true_eq_false, and_self, and_true, true_and, Bool.and_self, Bool.and_true, Int.toNat_zero, Int.toNat_one, Int.reduceToNat, Nat.zero_add, Nat.add_zero, f0, ld86, ld3, (ia86 _).1, (ia86 _).2, bl86, eq86, hf, decide_false, and_false, false_and]
            rfl
          refine Run.condF rfl (Run.skip (Run.inBlock ?_))
          apply Run.regionN
          · simp only [GR, GO, GB1, GN, GM, GV, reduceIte, Nat.reduceEqDiff, Nat.reduceAdd, Nat.reduceLeDiff, Nat.reduceMul, CX_P, CX_X, tlook, Bool.false_eq_true, Bool.true_eq_false, and_self, and_true, true_and, Bool.and_self, Bool.and_true, Int.toNat_zero, Int.toNat_one, Int.reduceToNat, Nat.zero_add, Nat.add_zero, f9, w1]
            rfl
          refine Run.nil ⟨⟨by simp [fset, f0], by simp [fset, f1], ⟨js ++ [_], by rw [hg, List.append_assoc]⟩, i + 1, by simp [fset], by omega, fun _ => hk, ?_⟩, ?_⟩
          · rw [ht, show 126 - i = (126 - (i + 1)) + 1 by omega]
            conv => lhs; unfold tunedN
            rw [if_neg hf]
          · simp [fset, iv, f9]; omega
      · have ek : knd k = 13 := by unfold knd; rw [if_pos (by omega)]
        have e3 : ((13 : Int) != 0) = true := rfl
        apply Run.regionN
        · simp only [GR, GO, GB1, GN, GM, GV, reduceIte, Nat.reduceEqDiff, Nat.reduceAdd, Nat.reduceLeDiff, Nat.reduceMul, CX_P, CX_X, tlook, Bool.false_eq_true, Bool.true_eq_false, and_self, and_true, true_and, Bool.and_self, Bool.and_true, Int.toNat_zero, Int.toNat_one, Int.reduceToNat, Nat.zero_add, Nat.add_zero, f9, f1, w1, xChan_eq _ k _ hn, al86, st86, if_neg hk, agg3, ek]
          rfl
        refine Run.seq (Run.seq ?_)
        apply Run.regionN
        · simp only [GR, GO, GB1, GN, GM, GV, reduceIte, Nat.reduceEqDiff, Nat.reduceAdd, Nat.reduceLeDiff, Nat.reduceMul, CX_P, CX_X, tlook, Bool.false_eq_true, Bool.true_eq_false, and_self, and_true, true_and, Bool.and_self, Bool.and_true, Int.toNat_zero, Int.toNat_one, Int.reduceToNat, Nat.zero_add, Nat.add_zero, e3]
          rfl
        refine Run.condT rfl (Run.seq ?_)
        apply Run.regionN
        · simp only [GR, GO, GB1, GN, GM, GV, reduceIte, Nat.reduceEqDiff, Nat.reduceAdd, Nat.reduceLeDiff, Nat.reduceMul, CX_P, CX_X, tlook, Bool.false_eq_true, Bool.true_eq_false, and_self, and_true, true_and, Bool.and_self, Bool.and_true, Int.toNat_zero, Int.toNat_one, Int.reduceToNat, Nat.zero_add, Nat.add_zero]
          rfl
        refine Run.ret ⟨trivial, _, rfl, ?_, js ++ [_], by rw [hg, List.append_assoc]⟩
        simp [packed, fset, hk, tunedE]
    · have d1 : decide ((i : Int) < 126) = false := by simp; omega
      have hi' : i = 126 := by omega
      subst hi'
      have hk := hp (by omega)
      apply Run.regionN
      · simp only [GR, GO, GB1, GN, GM, GV, reduceIte, Nat.reduceEqDiff, Nat.reduceAdd, Nat.reduceLeDiff, Nat.reduceMul, CX_P, CX_X, tlook, Bool.false_eq_true, Bool.true_eq_false, and_self, and_true, true_and, Bool.and_self, Bool.and_true, Int.toNat_zero, Int.toNat_one, Int.reduceToNat, Nat.zero_add, Nat.add_zero, f9, d1]
        rfl
      refine Run.seq (Run.condF rfl (Run.exitOut rfl (Ends.exit rfl (Run.seq ?_))))
      apply Run.regionN
      · simp only [GR, GO, GB1, GN, GM, GV, reduceIte, Nat.reduceEqDiff, Nat.reduceAdd, Nat.reduceLeDiff, Nat.reduceMul, CX_P, CX_X, tlook, Bool.false_eq_true, Bool.true_eq_false, and_self, and_true, true_and, Bool.and_self, Bool.and_true, Int.toNat_zero, Int.toNat_one, Int.reduceToNat, Nat.zero_add, Nat.add_zero]
        rfl
      refine Run.ret ⟨trivial, _, rfl, ?_, js, hg⟩
      have : tuned f k = 0 := ht
      simp [packed, fset, hk, tunedE, this]
  · exact ⟨by simp [fset, initFr], by simp [fset, initFr], ⟨[], by simp⟩, 0, by simp [fset], by omega, fun h => by omega, rfl⟩

/-! the reference's -/
def xRTuned : Sp := fun args h => match args with
  | [.int .i64 f, .int .u8 k] => some (.int .i64 (tuned f k), h)
  | _ => none
theorem xRChan_eq (n k : Int) (h : Heap) (hn : 1 ≤ n ∧ n ≤ 126) : xRChan [.int .i64 n, .int .u8 k] h = some (agg3 (1024 + n) (1024 + n + chBy n k) (chSp k), h) := by
  simp only [xRChan]; rw [if_pos hn]
noncomputable def cd58 : Code := Tryz.f58.body.getD .skip
theorem fb58 : fnB GA Tryz.prog 58 = some ⟨17, cd58, [.tmp 4]⟩ := by kernel_rfl
theorem ok58 : OkA 58 xRTuned := by
  intro args h v h' hx
  unfold xRTuned at hx
  split at hx
  case h_2 => cases hx
  rename_i f k
  cases hx
  refine FnSemQ.pure (FnSemQ.ofRun (C := CX [(57, xRChan)]) (okX (.cons ok57 .nil)) (drawA _) fb58 (by simp) ?_) rfl
  simp only [cd58, Tryz.f58, Option.getD_some]
  refine Run.seq ?_
  apply Run.regionN
  · simp only [GR, GO, GB1, GN, GM, GV, reduceIte, Nat.reduceEqDiff, Nat.reduceAdd, Nat.reduceLeDiff, Nat.reduceMul, CX_P, CX_X, tlook, Bool.false_eq_true, Bool.true_eq_false, and_self, and_true, true_and, Bool.and_self, Bool.and_true, Int.toNat_zero, Int.toNat_one, Int.reduceToNat, Nat.zero_add, Nat.add_zero]
    rfl
  refine Run.seq (Run.seq ?_)
  apply Run.regionN
  · simp only [GR, GO, GB1, GN, GM, GV, reduceIte, Nat.reduceEqDiff, Nat.reduceAdd, Nat.reduceLeDiff, Nat.reduceMul, CX_P, CX_X, tlook, Bool.false_eq_true, Bool.true_eq_false, and_self, and_true, true_and, Bool.and_self, Bool.and_true, Int.toNat_zero, Int.toNat_one, Int.reduceToNat, Nat.zero_add, Nat.add_zero]
    rfl
  refine Run.block (Run.loop (fun fr h' => fr 0 = .int .i64 f ∧ fr 1 = .int .u8 k ∧ h' = h ∧ ∃ i : Nat, fr 5 = .int .i64 ((i + 1 : Nat) : Int) ∧ i ≤ 126 ∧ tuned f k = tunedN f k (126 - i) i) (fun fr _ => 127 - (iv (fr 5)).toNat) ?_ ?_)
  · rintro fr h' ⟨f0, f1, rfl, i, f5, hi, ht⟩
    refine Run.seq (Run.seq ?_)
    by_cases hlt : i < 126
    · have d1 : decide (((i + 1 : Nat) : Int) ≤ 126) = true := by simp; omega
      have w1 : IntKind.i64.wrap (((i + 1 : Nat) : Int) + 1) = ((i + 1 + 1 : Nat) : Int) := by rw [IntWalk.i64_in _ (by omega)]; simp
      have hn : 1 ≤ ((i + 1 : Nat) : Int) ∧ ((i + 1 : Nat) : Int) ≤ 126 := by omega
      apply Run.regionN
      · simp only [GR, GO, GB1, GN, GM, GV, reduceIte, Nat.reduceEqDiff, Nat.reduceAdd, Nat.reduceLeDiff, Nat.reduceMul, CX_P, CX_X, tlook, Bool.false_eq_true, Bool.true_eq_false, and_self, and_true, true_and, Bool.and_self, Bool.and_true, Int.toNat_zero, Int.toNat_one, Int.reduceToNat, Nat.zero_add, Nat.add_zero, f5, d1]
        rfl
      refine Run.condT rfl (Run.skip (Run.seq (Run.block (Run.seq ?_))))
      by_cases hf : 1024 + ((i + 1 : Nat) : Int) + chBy ((i + 1 : Nat) : Int) k = f
      · apply Run.regionN
        · simp only [GR, GO, GB1, GN, GM, GV, reduceIte, Nat.reduceEqDiff, Nat.reduceAdd, Nat.reduceLeDiff, Nat.reduceMul, CX_P, CX_X, tlook, Bool.false_eq_true, Bool.true_eq_false, and_self, and_true, true_and, Bool.and_self, Bool.and_true, Int.toNat_zero, Int.toNat_one, Int.reduceToNat, Nat.zero_add, Nat.add_zero, f5, f1, f0, xRChan_eq _ k _ hn, agg3, ix86, hf, beq_self_eq_true]
          rfl
        refine Run.condT rfl (Run.seq ?_)
        apply Run.regionN
        · simp only [GR, GO, GB1, GN, GM, GV, reduceIte, Nat.reduceEqDiff, Nat.reduceAdd, Nat.reduceLeDiff, Nat.reduceMul, CX_P, CX_X, tlook, Bool.false_eq_true, Bool.true_eq_false, and_self, and_true, true_and, Bool.and_self, Bool.and_true, Int.toNat_zero, Int.toNat_one, Int.reduceToNat, Nat.zero_add, Nat.add_zero, f5]
          rfl
        refine Run.ret ⟨trivial, _, rfl, ?_, [], by simp⟩
        have : tuned f k = ((i + 1 : Nat) : Int) := by
          rw [ht, show 126 - i = (126 - (i + 1)) + 1 by omega]
          unfold tunedN
          rw [if_pos hf]
        simp [packed, fset, this]
      · have e2 : (1024 + ((i + 1 : Nat) : Int) + chBy ((i + 1 : Nat) : Int) k == f) = false := by simpa using hf
        apply Run.regionN
        · simp only [GR, GO, GB1, GN, GM, GV, reduceIte, Nat.reduceEqDiff, Nat.reduceAdd, Nat.reduceLeDiff, Nat.reduceMul, CX_P, CX_X, tlook, Bool.false_eq_true, Bool.true_eq_false, and_self, and_true, true_and, Bool.and_self, Bool.and_true, Int.toNat_zero, Int.toNat_one, Int.reduceToNat, Nat.zero_add, Nat.add_zero, f5, f1, f0, xRChan_eq _ k _ hn, agg3, ix86, e2]
          rfl
        refine Run.condF rfl (Run.skip (Run.inBlock ?_))
        apply Run.regionN
        · simp only [GR, GO, GB1, GN, GM, GV, reduceIte, Nat.reduceEqDiff, Nat.reduceAdd, Nat.reduceLeDiff, Nat.reduceMul, CX_P, CX_X, tlook, Bool.false_eq_true, Bool.true_eq_false, and_self, and_true, true_and, Bool.and_self, Bool.and_true, Int.toNat_zero, Int.toNat_one, Int.reduceToNat, Nat.zero_add, Nat.add_zero, f5, w1]
          rfl
        refine Run.nil ⟨⟨by simp [fset, f0], by simp [fset, f1], rfl, i + 1, by simp [fset], by omega, ?_⟩, ?_⟩
        · rw [ht, show 126 - i = (126 - (i + 1)) + 1 by omega]
          conv => lhs; unfold tunedN
          rw [if_neg hf]
        · simp [fset, iv, f5]; omega
    · have d1 : decide (((i + 1 : Nat) : Int) ≤ 126) = false := by simp; omega
      have hi' : i = 126 := by omega
      subst hi'
      apply Run.regionN
      · simp only [GR, GO, GB1, GN, GM, GV, reduceIte, Nat.reduceEqDiff, Nat.reduceAdd, Nat.reduceLeDiff, Nat.reduceMul, CX_P, CX_X, tlook, Bool.false_eq_true, Bool.true_eq_false, and_self, and_true, true_and, Bool.and_self, Bool.and_true, Int.toNat_zero, Int.toNat_one, Int.reduceToNat, Nat.zero_add, Nat.add_zero, f5, d1]
        rfl
      refine Run.condF rfl (Run.exitOut rfl (Ends.exit rfl (Run.seq ?_)))
      apply Run.regionN
      · simp only [GR, GO, GB1, GN, GM, GV, reduceIte, Nat.reduceEqDiff, Nat.reduceAdd, Nat.reduceLeDiff, Nat.reduceMul, CX_P, CX_X, tlook, Bool.false_eq_true, Bool.true_eq_false, and_self, and_true, true_and, Bool.and_self, Bool.and_true, Int.toNat_zero, Int.toNat_one, Int.reduceToNat, Nat.zero_add, Nat.add_zero]
        rfl
      refine Run.ret ⟨trivial, _, rfl, ?_, [], by simp⟩
      have : tuned f k = 0 := ht
      simp [packed, fset, this]
  · exact ⟨by simp [fset, initFr], by simp [fset, initFr], rfl, 0, by simp [fset], by omega, rfl⟩

end Go.Proofs.YtamcmocdkcfjkaaGreatDoor
end

/- The law PulseChannels. -/
section
namespace Go.Proofs.YtamcmocdkcfjkaaGreatDoor
open Gl
set_option maxRecDepth 10000
set_option linter.unusedSimpArgs false

/-- The package's variables lie as they were laid. -/
def Gok (h : Heap) : Prop := xAwake [] h = some (.bool true, h)

theorem chE_ok {n k : Int} (hn : 1 ≤ n ∧ n ≤ 126) (hk : k = 88 ∨ k = 89) : chE n k = 0 := by
  have : knd k = 0 := by unfold knd; rw [if_neg (by omega)]
  simp [chE, rng_ok hn, this, fnz]
theorem chE_no {n k : Int} (h : ¬ ((1 ≤ n ∧ n ≤ 126) ∧ (k = 88 ∨ k = 89))) : chE n k ≠ 0 := by
  by_cases hn : 1 ≤ n ∧ n ≤ 126
  · have hk : ¬ (k = 88 ∨ k = 89) := fun hk => h ⟨hn, hk⟩
    have : knd k = 13 := by unfold knd; rw [if_pos (by omega)]
    simp [chE, rng_ok hn, this, fnz]
  · simp [chE, rng_no hn, fnz]
theorem xChannel_ok {n k : Int} (h : Heap) (e : chE n k = 0) : xChannel [.int .i64 n, .int .u8 k] h = some (.tuple #[agg3 (1024 + n) (1024 + n + chBy n k) (chSp k), .int .i64 0], h) := by
  simp only [xChannel]; rw [if_pos e]
theorem xChannel_no {n k : Int} (h : Heap) (e : chE n k ≠ 0) : xChannel [.int .i64 n, .int .u8 k] h = some (.tuple #[agg3 0 0 0, .int .i64 (chE n k)], h) := by
  simp only [xChannel]; rw [if_neg e]
theorem xTuned_eq (f k : Int) (h : Heap) : xTuned [.int .i64 f, .int .u8 k] h = some (.tuple #[.int .i64 (if k = 88 ∨ k = 89 then tuned f k else 0), .int .i64 (tunedE f k)], h) := rfl
theorem xRTuned_eq (f k : Int) (h : Heap) : xRTuned [.int .i64 f, .int .u8 k] h = some (.int .i64 (tuned f k), h) := rfl

def T8 : List (FuncId × Sp) := [(15, xAwake), (53, xChannel), (54, xTuned), (55, xCheckChannel), (56, xKind), (57, xRChan), (58, xRTuned), (59, xWhen)]
theorem okT8 : OkT (CX []) T8 := .cons ok15 (.cons ok53 (.cons ok54 (.cons ok55 (.cons ok56 (.cons ok57 (.cons ok58 (.cons ok59 .nil)))))))

noncomputable def cd8 : Code := Tryz.f8.body.getD .skip
theorem fb8 : fnB GA Tryz.prog 8 = some ⟨65, cd8, [.tmp 6]⟩ := by kernel_rfl
theorem law8 (n f k : Int) (h : Heap) (hA : Gok h) : FnSem (CX []) 8 [.int .i64 n, .int .i64 f, .int .u8 k] h (.bool true) h := by
  refine FnSemQ.pure (FnSemQ.ofRun (C := CX T8) (okX okT8) (drawA _) fb8 (by simp) ?_) rfl
  simp only [cd8, Tryz.f8, Option.getD_some]
  unfold Gok at hA
  have hA' : xAwake [] (h ++ []) = some (.bool true, h ++ []) := by rw [List.append_nil]; exact hA
  refine Run.app0 (Run.seq ?_)
  apply Run.regionN
  · simp only [GR, GO, GB1, GN, GM, GV, reduceIte, Nat.reduceEqDiff, Nat.reduceAdd, Nat.reduceLeDiff, Nat.reduceMul, CX_P, CX_X, tlook, Bool.false_eq_true, Bool.true_eq_false, and_self, and_true, true_and, Bool.and_self, Bool.and_true, Int.toNat_zero, Int.toNat_one, Int.reduceToNat, Nat.zero_add, Nat.add_zero]
    rfl
  refine Run.seq (Run.seq ?_)
  apply Run.regionN
  · simp only [GR, GO, GB1, GN, GM, GV, reduceIte, Nat.reduceEqDiff, Nat.reduceAdd, Nat.reduceLeDiff, Nat.reduceMul, CX_P, CX_X, tlook, Bool.false_eq_true, Bool.true_eq_false, and_self, and_true, true_and, Bool.and_self, Bool.and_true, Int.toNat_zero, Int.toNat_one, Int.reduceToNat, Nat.zero_add, Nat.add_zero, T8, hA', Bool.not_true]
    rfl
  refine Run.condF rfl (Run.skip (Run.seq ?_))
  by_cases hnk : (1 ≤ n ∧ n ≤ 126) ∧ (k = 88 ∨ k = 89)
  · obtain ⟨hn, hk⟩ := hnk
    have ek : knd k = 0 := by unfold knd; rw [if_neg (by omega)]
    apply Run.regionN
    · simp only [GR, GO, GB1, GN, GM, GV, reduceIte, Nat.reduceEqDiff, Nat.reduceAdd, Nat.reduceLeDiff, Nat.reduceMul, CX_P, CX_X, tlook, Bool.false_eq_true, Bool.true_eq_false, and_self, and_true, true_and, Bool.and_self, Bool.and_true, Int.toNat_zero, Int.toNat_one, Int.reduceToNat, Nat.zero_add, Nat.add_zero, T8, xChannel_ok _ (chE_ok hn hk), al86, st86, agg3]
      rfl
    refine Run.seq ?_
    apply Run.regionN
    · simp only [GR, GO, GB1, GN, GM, GV, reduceIte, Nat.reduceEqDiff, Nat.reduceAdd, Nat.reduceLeDiff, Nat.reduceMul, CX_P, CX_X, tlook, Bool.false_eq_true, Bool.true_eq_false, and_self, and_true, true_and, Bool.and_self, Bool.and_true, Int.toNat_zero, Int.toNat_one, Int.reduceToNat, Nat.zero_add, Nat.add_zero, T8, xTuned_eq, if_pos hk]
      rfl
    refine Run.seq ?_
    apply Run.regionN
    · simp only [GR, GO, GB1, GN, GM, GV, reduceIte, Nat.reduceEqDiff, Nat.reduceAdd, Nat.reduceLeDiff, Nat.reduceMul, CX_P, CX_X, tlook, Bool.false_eq_true, Bool.true_eq_false, and_self, and_true, true_and, Bool.and_self, Bool.and_true, Int.toNat_zero, Int.toNat_one, Int.reduceToNat, Nat.zero_add, Nat.add_zero, T8, xCheckChannel_eq, xKind_eq, ek, rng_ok hn, fnz]
      rfl
    refine Run.seq ?_
    apply Run.regionN
    · simp only [GR, GO, GB1, GN, GM, GV, reduceIte, Nat.reduceEqDiff, Nat.reduceAdd, Nat.reduceLeDiff, Nat.reduceMul, CX_P, CX_X, tlook, Bool.false_eq_true, Bool.true_eq_false, and_self, and_true, true_and, Bool.and_self, Bool.and_true, Int.toNat_zero, Int.toNat_one, Int.reduceToNat, Nat.zero_add, Nat.add_zero, al86]
      rfl
    refine Run.seq ?_
    apply Run.regionN
    · simp only [GR, GO, GB1, GN, GM, GV, reduceIte, Nat.reduceEqDiff, Nat.reduceAdd, Nat.reduceLeDiff, Nat.reduceMul, CX_P, CX_X, tlook, Bool.false_eq_true, Bool.true_eq_false, and_self, and_true, true_and, Bool.and_self, Bool.and_true, Int.toNat_zero, Int.toNat_one, Int.reduceToNat, Nat.zero_add, Nat.add_zero]
      rfl
    refine Run.seq (Run.seq ?_)
    apply Run.regionN
    · simp only [GR, GO, GB1, GN, GM, GV, reduceIte, Nat.reduceEqDiff, Nat.reduceAdd, Nat.reduceLeDiff, Nat.reduceMul, CX_P, CX_X, tlook, Bool.false_eq_true, Bool.true_eq_false, and_self, and_true, true_and, Bool.and_self, Bool.and_true, Int.toNat_zero, Int.toNat_one, Int.reduceToNat, Nat.zero_add, Nat.add_zero, beq_self_eq_true]
      rfl
    refine Run.condT rfl ?_
    apply Run.regionN
    · simp only [GR, GO, GB1, GN, GM, GV, reduceIte, Nat.reduceEqDiff, Nat.reduceAdd, Nat.reduceLeDiff, Nat.reduceMul, CX_P, CX_X, tlook, Bool.false_eq_true, Bool.true_eq_false, and_self, and_true, true_and, Bool.and_self, Bool.and_true, Int.toNat_zero, Int.toNat_one, Int.reduceToNat, Nat.zero_add, Nat.add_zero, T8, xRChan_eq n k _ hn, st86, agg3]
      rfl
    refine Run.seq (Run.seq ?_)
    apply Run.regionN
    · simp only [GR, GO, GB1, GN, GM, GV, reduceIte, Nat.reduceEqDiff, Nat.reduceAdd, Nat.reduceLeDiff, Nat.reduceMul, CX_P, CX_X, tlook, Bool.false_eq_true, Bool.true_eq_false, and_self, and_true, true_and, Bool.and_self, Bool.and_true, Int.toNat_zero, Int.toNat_one, Int.reduceToNat, Nat.zero_add, Nat.add_zero, beq_self_eq_true]
      rfl
    refine Run.condT rfl (Run.seq ?_)
    apply Run.regionN
    · simp only [GR, GO, GB1, GN, GM, GV, reduceIte, Nat.reduceEqDiff, Nat.reduceAdd, Nat.reduceLeDiff, Nat.reduceMul, CX_P, CX_X, tlook, Bool.false_eq_true, Bool.true_eq_false, and_self, and_true, true_and, Bool.and_self, Bool.and_true, Int.toNat_zero, Int.toNat_one, Int.reduceToNat, Nat.zero_add, Nat.add_zero, T8, xRTuned_eq]
      rfl
    by_cases h0 : tuned f k = 0
    · have e1 : tunedE f k = 7 := by simp [tunedE, hk, h0]
      apply Run.regionN
      · simp only [GR, GO, GB1, GN, GM, GV, reduceIte, Nat.reduceEqDiff, Nat.reduceAdd, Nat.reduceLeDiff, Nat.reduceMul, CX_P, CX_X, tlook, Bool.false_eq_true, Bool.true_eq_false, and_self, and_true, true_and, Bool.and_self, Bool.and_true, Int.toNat_zero, Int.toNat_one, Int.reduceToNat, Nat.zero_add, Nat.add_zero, T8, h0, beq_self_eq_true, xWhen_eq]
        rfl
      refine Run.seq ?_
      apply Run.regionN
      · simp only [GR, GO, GB1, GN, GM, GV, reduceIte, Nat.reduceEqDiff, Nat.reduceAdd, Nat.reduceLeDiff, Nat.reduceMul, CX_P, CX_X, tlook, Bool.false_eq_true, Bool.true_eq_false, and_self, and_true, true_and, Bool.and_self, Bool.and_true, Int.toNat_zero, Int.toNat_one, Int.reduceToNat, Nat.zero_add, Nat.add_zero, ld86, eq86, and_self, decide_true, beq_self_eq_true, List.getElem?_toArray, Option.bind, e1]
        rfl
      refine Run.ret ⟨trivial, _, rfl, ?_, [_, _], rfl⟩
      simp [packed, fset]
    · have e1 : tunedE f k = 0 := by simp [tunedE, hk, h0]
      have e2 : (tuned f k == 0) = false := by simpa using h0
      apply Run.regionN
      · simp only [GR, GO, GB1, GN, GM, GV, reduceIte, Nat.reduceEqDiff, Nat.reduceAdd, Nat.reduceLeDiff, Nat.reduceMul, CX_P, CX_X, tlook, Bool.false_eq_true, Bool.true_eq_false, and_self, and_true, true_and, Bool.and_self, Bool.and_true, Int.toNat_zero, Int.toNat_one, Int.reduceToNat, Nat.zero_add, Nat.add_zero, T8, e2, xWhen_eq]
        rfl
      refine Run.seq ?_
      apply Run.regionN
      · simp only [GR, GO, GB1, GN, GM, GV, reduceIte, Nat.reduceEqDiff, Nat.reduceAdd, Nat.reduceLeDiff, Nat.reduceMul, CX_P, CX_X, tlook, Bool.false_eq_true, Bool.true_eq_false, and_self, and_true, true_and, Bool.and_self, Bool.and_true, Int.toNat_zero, Int.toNat_one, Int.reduceToNat, Nat.zero_add, Nat.add_zero, ld86, eq86, and_self, decide_true, beq_self_eq_true, List.getElem?_toArray, Option.bind, e1]
        rfl
      refine Run.ret ⟨trivial, _, rfl, ?_, [_, _], rfl⟩
      simp [packed, fset]
  · have e0 := chE_no hnk
    have e0' : (chE n k == 0) = false := by simpa using e0
    have e9 : fnz [rng n 1 126, knd k] = chE n k := rfl
    apply Run.regionN
    · simp only [GR, GO, GB1, GN, GM, GV, reduceIte, Nat.reduceEqDiff, Nat.reduceAdd, Nat.reduceLeDiff, Nat.reduceMul, CX_P, CX_X, tlook, Bool.false_eq_true, Bool.true_eq_false, and_self, and_true, true_and, Bool.and_self, Bool.and_true, Int.toNat_zero, Int.toNat_one, Int.reduceToNat, Nat.zero_add, Nat.add_zero, T8, xChannel_no _ e0, al86, st86, agg3]
      rfl
    refine Run.seq ?_
    apply Run.regionN
    · simp only [GR, GO, GB1, GN, GM, GV, reduceIte, Nat.reduceEqDiff, Nat.reduceAdd, Nat.reduceLeDiff, Nat.reduceMul, CX_P, CX_X, tlook, Bool.false_eq_true, Bool.true_eq_false, and_self, and_true, true_and, Bool.and_self, Bool.and_true, Int.toNat_zero, Int.toNat_one, Int.reduceToNat, Nat.zero_add, Nat.add_zero, T8, xTuned_eq]
      rfl
    refine Run.seq ?_
    apply Run.regionN
    · simp only [GR, GO, GB1, GN, GM, GV, reduceIte, Nat.reduceEqDiff, Nat.reduceAdd, Nat.reduceLeDiff, Nat.reduceMul, CX_P, CX_X, tlook, Bool.false_eq_true, Bool.true_eq_false, and_self, and_true, true_and, Bool.and_self, Bool.and_true, Int.toNat_zero, Int.toNat_one, Int.reduceToNat, Nat.zero_add, Nat.add_zero, T8, xCheckChannel_eq, xKind_eq, e9]
      rfl
    refine Run.seq ?_
    apply Run.regionN
    · simp only [GR, GO, GB1, GN, GM, GV, reduceIte, Nat.reduceEqDiff, Nat.reduceAdd, Nat.reduceLeDiff, Nat.reduceMul, CX_P, CX_X, tlook, Bool.false_eq_true, Bool.true_eq_false, and_self, and_true, true_and, Bool.and_self, Bool.and_true, Int.toNat_zero, Int.toNat_one, Int.reduceToNat, Nat.zero_add, Nat.add_zero, al86]
      rfl
    refine Run.seq ?_
    apply Run.regionN
    · simp only [GR, GO, GB1, GN, GM, GV, reduceIte, Nat.reduceEqDiff, Nat.reduceAdd, Nat.reduceLeDiff, Nat.reduceMul, CX_P, CX_X, tlook, Bool.false_eq_true, Bool.true_eq_false, and_self, and_true, true_and, Bool.and_self, Bool.and_true, Int.toNat_zero, Int.toNat_one, Int.reduceToNat, Nat.zero_add, Nat.add_zero]
      rfl
    refine Run.seq (Run.seq ?_)
    apply Run.regionN
    · simp only [GR, GO, GB1, GN, GM, GV, reduceIte, Nat.reduceEqDiff, Nat.reduceAdd, Nat.reduceLeDiff, Nat.reduceMul, CX_P, CX_X, tlook, Bool.false_eq_true, Bool.true_eq_false, and_self, and_true, true_and, Bool.and_self, Bool.and_true, Int.toNat_zero, Int.toNat_one, Int.reduceToNat, Nat.zero_add, Nat.add_zero, e0']
      rfl
    refine Run.condF rfl (Run.skip (Run.seq (Run.seq ?_)))
    by_cases hk : k = 88 ∨ k = 89
    · have ek : knd k = 0 := by unfold knd; rw [if_neg (by omega)]
      apply Run.regionN
      · simp only [GR, GO, GB1, GN, GM, GV, reduceIte, Nat.reduceEqDiff, Nat.reduceAdd, Nat.reduceLeDiff, Nat.reduceMul, CX_P, CX_X, tlook, Bool.false_eq_true, Bool.true_eq_false, and_self, and_true, true_and, Bool.and_self, Bool.and_true, Int.toNat_zero, Int.toNat_one, Int.reduceToNat, Nat.zero_add, Nat.add_zero, ek, beq_self_eq_true]
        rfl
      refine Run.condT rfl (Run.seq ?_)
      apply Run.regionN
      · simp only [GR, GO, GB1, GN, GM, GV, reduceIte, Nat.reduceEqDiff, Nat.reduceAdd, Nat.reduceLeDiff, Nat.reduceMul, CX_P, CX_X, tlook, Bool.false_eq_true, Bool.true_eq_false, and_self, and_true, true_and, Bool.and_self, Bool.and_true, Int.toNat_zero, Int.toNat_one, Int.reduceToNat, Nat.zero_add, Nat.add_zero, T8, xRTuned_eq]
        rfl
      by_cases h0 : tuned f k = 0
      · have e1 : tunedE f k = 7 := by simp [tunedE, hk, h0]
        apply Run.regionN
        · simp only [GR, GO, GB1, GN, GM, GV, reduceIte, Nat.reduceEqDiff, Nat.reduceAdd, Nat.reduceLeDiff, Nat.reduceMul, CX_P, CX_X, tlook, Bool.false_eq_true, Bool.true_eq_false, and_self, and_true, true_and, Bool.and_self, Bool.and_true, Int.toNat_zero, Int.toNat_one, Int.reduceToNat, Nat.zero_add, Nat.add_zero, T8, h0, beq_self_eq_true, xWhen_eq]
          rfl
        refine Run.seq ?_
        apply Run.regionN
        · simp only [GR, GO, GB1, GN, GM, GV, reduceIte, Nat.reduceEqDiff, Nat.reduceAdd, Nat.reduceLeDiff, Nat.reduceMul, CX_P, CX_X, tlook, Bool.false_eq_true, Bool.true_eq_false, and_self, and_true, true_and, Bool.and_self, Bool.and_true, Int.toNat_zero, Int.toNat_one, Int.reduceToNat, Nat.zero_add, Nat.add_zero, ld86, eq86, and_self, decide_true, beq_self_eq_true, List.getElem?_toArray, Option.bind, e1, if_pos hk, h0]
          rfl
        refine Run.ret ⟨trivial, _, rfl, ?_, [_, _], rfl⟩
        simp [packed, fset]
      · have e1 : tunedE f k = 0 := by simp [tunedE, hk, h0]
        have e2 : (tuned f k == 0) = false := by simpa using h0
        apply Run.regionN
        · simp only [GR, GO, GB1, GN, GM, GV, reduceIte, Nat.reduceEqDiff, Nat.reduceAdd, Nat.reduceLeDiff, Nat.reduceMul, CX_P, CX_X, tlook, Bool.false_eq_true, Bool.true_eq_false, and_self, and_true, true_and, Bool.and_self, Bool.and_true, Int.toNat_zero, Int.toNat_one, Int.reduceToNat, Nat.zero_add, Nat.add_zero, T8, e2, xWhen_eq]
          rfl
        refine Run.seq ?_
        apply Run.regionN
        · simp only [GR, GO, GB1, GN, GM, GV, reduceIte, Nat.reduceEqDiff, Nat.reduceAdd, Nat.reduceLeDiff, Nat.reduceMul, CX_P, CX_X, tlook, Bool.false_eq_true, Bool.true_eq_false, and_self, and_true, true_and, Bool.and_self, Bool.and_true, Int.toNat_zero, Int.toNat_one, Int.reduceToNat, Nat.zero_add, Nat.add_zero, ld86, eq86, and_self, decide_true, beq_self_eq_true, List.getElem?_toArray, Option.bind, e1, if_pos hk]
          rfl
        refine Run.ret ⟨trivial, _, rfl, ?_, [_, _], rfl⟩
        simp [packed, fset]
    · have ek : knd k = 13 := by unfold knd; rw [if_pos (by omega)]
      have e1 : tunedE f k = 13 := by simp [tunedE, hk]
      have e3 : ((13 : Int) == 0) = false := rfl
      apply Run.regionN
      · simp only [GR, GO, GB1, GN, GM, GV, reduceIte, Nat.reduceEqDiff, Nat.reduceAdd, Nat.reduceLeDiff, Nat.reduceMul, CX_P, CX_X, tlook, Bool.false_eq_true, Bool.true_eq_false, and_self, and_true, true_and, Bool.and_self, Bool.and_true, Int.toNat_zero, Int.toNat_one, Int.reduceToNat, Nat.zero_add, Nat.add_zero, ek, e3]
        rfl
      refine Run.condF rfl (Run.skip (Run.seq ?_))
      apply Run.regionN
      · simp only [GR, GO, GB1, GN, GM, GV, reduceIte, Nat.reduceEqDiff, Nat.reduceAdd, Nat.reduceLeDiff, Nat.reduceMul, CX_P, CX_X, tlook, Bool.false_eq_true, Bool.true_eq_false, and_self, and_true, true_and, Bool.and_self, Bool.and_true, Int.toNat_zero, Int.toNat_one, Int.reduceToNat, Nat.zero_add, Nat.add_zero, ld86, eq86, and_self, decide_true, beq_self_eq_true, List.getElem?_toArray, Option.bind, e1, ek, if_neg hk]
        rfl
      refine Run.ret ⟨trivial, _, rfl, ?_, [_, _], rfl⟩
      simp [packed, fset]

end Go.Proofs.YtamcmocdkcfjkaaGreatDoor
end
