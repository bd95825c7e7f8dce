/-
  Small functions of the package and of the reference.
-/
import Derived.Test.YtamcmocdkcfjkaaGreatDoorKh
import Derived.Test.YtamcmocdkcfjkaaGreatDoorKl
set_option linter.all false
/- Small functions of the package and of the reference. -/
section
namespace Go.Proofs.YtamcmocdkcfjkaaGreatDoor
open Gl
set_option maxRecDepth 10000
set_option linter.unusedSimpArgs false

theorem okX {T : List (FuncId × Sp)} (h : OkT (CX []) T) : XOK (CX T) := OkT.xok h
theorem sl22 : SlTy Tryz.prog 22 3 1 := SlTy.of (by kernel_rfl)
theorem sl221 : SlTy Tryz.prog 221 26 1 := SlTy.of (by kernel_rfl)
theorem ti3 : tinfo Tryz.prog 3 = some ⟨.int .i64, 1, some (.int .i64 0), 8⟩ := by kernel_rfl
theorem ti26 : tinfo Tryz.prog 26 = some ⟨.int .i64, 1, some (.int .i64 0), 8⟩ := by kernel_rfl
theorem ti86 : tinfo Tryz.prog 86 = some ⟨.array 3 3, 3, some (.agg #[.int .i64 0, .int .i64 0, .int .i64 0]), 24⟩ := by kernel_rfl
theorem ld3 (h : Heap) (i off : Nat) : aload Tryz.prog h 3 (.pointer (some ⟨i, off, none⟩)) = rd1 (hget h i) off := ld_one ti3 rfl h i off
theorem ld26 (h : Heap) (i off : Nat) : aload Tryz.prog h 26 (.pointer (some ⟨i, off, none⟩)) = rd1 (hget h i) off := ld_one ti26 rfl h i off
theorem ld86 (h : Heap) (i off : Nat) : aload Tryz.prog h 86 (.pointer (some ⟨i, off, none⟩)) = rdN (hget h i) off 3 := ld_agg ti86 rfl h i off
theorem st86 (h : Heap) (i off : Nat) (v : Value) : astore Tryz.prog h 86 (.pointer (some ⟨i, off, none⟩)) v = wrN h i (hget h i) off 3 v := st_any ti86 h i off v
theorem al86 (h : Heap) : gAlloc Tryz.prog 86 h = some (.pointer (some ⟨hsz h, 0, none⟩), hpush h (.cells [.int .i64 0, .int .i64 0, .int .i64 0] 3 true true)) := by simp [gAlloc, ti86, plain, plainD, cellsV, Value.cells, isCell, anew]
theorem bl86 (a b c : Int) : abuild Tryz.prog 86 [(0, .int .i64 a), (1, .int .i64 b), (2, .int .i64 c)] = some (.agg #[.int .i64 a, .int .i64 b, .int .i64 c]) := by kernel_rfl
theorem bl86z : abuild Tryz.prog 86 [] = some (.agg #[.int .i64 0, .int .i64 0, .int .i64 0]) := by kernel_rfl
theorem ix86 (a b c : Int) : aindex Tryz.prog 86 (.agg #[.int .i64 a, .int .i64 b, .int .i64 c]) (.int .i64 1) = some (.int .i64 b) := by kernel_rfl
theorem ia86 (i : Nat) : aindexAddr Tryz.prog 86 (.pointer (some ⟨i, 0, none⟩)) (.int .i64 0) = some (.pointer (some ⟨i, 0, none⟩)) ∧ aindexAddr Tryz.prog 86 (.pointer (some ⟨i, 0, none⟩)) (.int .i64 2) = some (.pointer (some ⟨i, 2, none⟩)) := ⟨by kernel_rfl, by kernel_rfl⟩
theorem u4 : Tryz.prog.underlying 4 = some .bool := by kernel_rfl
theorem eq4 (a b : Bool) : abinOp Tryz.prog .eql 4 (.bool a) (.bool b) = some (.bool (a == b)) := eql_bool u4 a b
theorem eq86 (a b c a' b' c' : Int) : abinOp Tryz.prog .eql 86 (.agg #[.int .i64 a, .int .i64 b, .int .i64 c]) (.agg #[.int .i64 a', .int .i64 b', .int .i64 c']) = some (.bool (decide (a = a' ∧ b = b' ∧ c = c'))) := by
  have := eqCs_cons (eqC_int .i64 a a') (eqCs_cons (eqC_int .i64 b b') (eqCs_cons (eqC_int .i64 c c') eqCs_nil))
  simp only [and_true] at this
  exact (eql_array (by kernel_rfl) rfl rfl this).1

/-! when, When -/
def xWhen : Sp := fun args h => match args with | [.bool b, .int .i64 e] => some (.int .i64 (if b then e else 0), h) | _ => none
theorem xWhen_eq (b : Bool) (e : Int) (h : Heap) : xWhen [.bool b, .int .i64 e] h = some (.int .i64 (if b then e else 0), h) := rfl
noncomputable def cd98 : Code := Tryz.f98.body.getD .skip
theorem fb98 : fnB GA Tryz.prog 98 = some ⟨7, cd98, [.tmp 4]⟩ := by kernel_rfl
theorem ok98 : OkA 98 xWhen := by
  intro args h v h' hx
  unfold xWhen at hx
  split at hx
  case h_2 => cases hx
  rename_i b e
  cases hx
  refine FnSemQ.pure (FnSemQ.ofRun (C := CX []) (okX .nil) (drawA _) fb98 (by simp) ?_) rfl
  simp only [cd98, Tryz.f98, Option.getD_some]
  refine Run.seq ?_
  apply Run.regionN
  · simp only [GR, GO, GB1, GN, GM, GV, reduceIte, Nat.reduceEqDiff, Nat.reduceAdd, Nat.reduceLeDiff, Nat.reduceMul, CX_P, CX_X, tlook, Bool.false_eq_true, Bool.true_eq_false, and_self, and_true, true_and, Bool.and_self, Bool.and_true, Int.toNat_zero, Int.toNat_one, Int.reduceToNat, Nat.zero_add, Nat.add_zero]
    rfl
  refine Run.seq (Run.seq ?_)
  apply Run.regionN
  · simp only [GR, GO, GB1, GN, GM, GV, reduceIte, Nat.reduceEqDiff, Nat.reduceAdd, Nat.reduceLeDiff, Nat.reduceMul, CX_P, CX_X, tlook, Bool.false_eq_true, Bool.true_eq_false, and_self, and_true, true_and, Bool.and_self, Bool.and_true, Int.toNat_zero, Int.toNat_one, Int.reduceToNat, Nat.zero_add, Nat.add_zero]
    rfl
  refine Run.cond b (by simp only [feval, fset]; rfl) (fun hb => ?_) (fun hb => ?_)
  · refine Run.seq ?_
    apply Run.regionN
    · simp only [GR, GO, GB1, GN, GM, GV, reduceIte, Nat.reduceEqDiff, Nat.reduceAdd, Nat.reduceLeDiff, Nat.reduceMul, CX_P, CX_X, tlook, Bool.false_eq_true, Bool.true_eq_false, and_self, and_true, true_and, Bool.and_self, Bool.and_true, Int.toNat_zero, Int.toNat_one, Int.reduceToNat, Nat.zero_add, Nat.add_zero]
      rfl
    refine Run.ret ⟨trivial, _, rfl, ?_, [], by simp⟩
    simp [fset, packed, hb]
  · refine Run.skip (Run.seq ?_)
    apply Run.regionN
    · simp only [GR, GO, GB1, GN, GM, GV, reduceIte, Nat.reduceEqDiff, Nat.reduceAdd, Nat.reduceLeDiff, Nat.reduceMul, CX_P, CX_X, tlook, Bool.false_eq_true, Bool.true_eq_false, and_self, and_true, true_and, Bool.and_self, Bool.and_true, Int.toNat_zero, Int.toNat_one, Int.reduceToNat, Nat.zero_add, Nat.add_zero]
      rfl
    refine Run.ret ⟨trivial, _, rfl, ?_, [], by simp⟩
    simp [fset, packed, hb]

noncomputable def cd59 : Code := Tryz.f59.body.getD .skip
theorem fb59 : fnB GA Tryz.prog 59 = some ⟨7, cd59, [.tmp 4]⟩ := by kernel_rfl
theorem ok59 : OkA 59 xWhen := by
  intro args h v h' hx
  unfold xWhen at hx
  split at hx
  case h_2 => cases hx
  rename_i b e
  cases hx
  refine FnSemQ.pure (FnSemQ.ofRun (C := CX []) (okX .nil) (drawA _) fb59 (by simp) ?_) rfl
  simp only [cd59, Tryz.f59, Option.getD_some]
  refine Run.seq ?_
  apply Run.regionN
  · simp only [GR, GO, GB1, GN, GM, GV, reduceIte, Nat.reduceEqDiff, Nat.reduceAdd, Nat.reduceLeDiff, Nat.reduceMul, CX_P, CX_X, tlook, Bool.false_eq_true, Bool.true_eq_false, and_self, and_true, true_and, Bool.and_self, Bool.and_true, Int.toNat_zero, Int.toNat_one, Int.reduceToNat, Nat.zero_add, Nat.add_zero]
    rfl
  refine Run.seq (Run.seq ?_)
  apply Run.regionN
  · simp only [GR, GO, GB1, GN, GM, GV, reduceIte, Nat.reduceEqDiff, Nat.reduceAdd, Nat.reduceLeDiff, Nat.reduceMul, CX_P, CX_X, tlook, Bool.false_eq_true, Bool.true_eq_false, and_self, and_true, true_and, Bool.and_self, Bool.and_true, Int.toNat_zero, Int.toNat_one, Int.reduceToNat, Nat.zero_add, Nat.add_zero]
    rfl
  refine Run.cond b (by simp only [feval, fset]; rfl) (fun hb => ?_) (fun hb => ?_)
  · refine Run.seq ?_
    apply Run.regionN
    · simp only [GR, GO, GB1, GN, GM, GV, reduceIte, Nat.reduceEqDiff, Nat.reduceAdd, Nat.reduceLeDiff, Nat.reduceMul, CX_P, CX_X, tlook, Bool.false_eq_true, Bool.true_eq_false, and_self, and_true, true_and, Bool.and_self, Bool.and_true, Int.toNat_zero, Int.toNat_one, Int.reduceToNat, Nat.zero_add, Nat.add_zero]
      rfl
    refine Run.ret ⟨trivial, _, rfl, ?_, [], by simp⟩
    simp [fset, packed, hb]
  · refine Run.skip (Run.seq ?_)
    apply Run.regionN
    · simp only [GR, GO, GB1, GN, GM, GV, reduceIte, Nat.reduceEqDiff, Nat.reduceAdd, Nat.reduceLeDiff, Nat.reduceMul, CX_P, CX_X, tlook, Bool.false_eq_true, Bool.true_eq_false, and_self, and_true, true_and, Bool.and_self, Bool.and_true, Int.toNat_zero, Int.toNat_one, Int.reduceToNat, Nat.zero_add, Nat.add_zero]
      rfl
    refine Run.ret ⟨trivial, _, rfl, ?_, [], by simp⟩
    simp [fset, packed, hb]


/-! within, CheckRange -/
def rng (n lo hi : Int) : Int := if n < lo ∨ n > hi then 3 else 0
def xWithin : Sp := fun args h => match args with | [.int .i64 n, .int .i64 lo, .int .i64 hi] => some (.int .i64 (rng n lo hi), h) | _ => none
theorem xWithin_eq (n lo hi : Int) (h : Heap) : xWithin [.int .i64 n, .int .i64 lo, .int .i64 hi] h = some (.int .i64 (rng n lo hi), h) := rfl
noncomputable def cd99 : Code := Tryz.f99.body.getD .skip
theorem fb99 : fnB GA Tryz.prog 99 = some ⟨16, cd99, [.tmp 6]⟩ := by kernel_rfl
theorem ok99 : OkA 99 xWithin := by
  intro args h v h' hx
  unfold xWithin at hx
  split at hx
  case h_2 => cases hx
  rename_i n lo hi
  cases hx
  refine FnSemQ.pure (FnSemQ.ofRun (C := CX [(98, xWhen)]) (okX (.cons ok98 .nil)) (drawA _) fb99 (by simp) ?_) rfl
  simp only [cd99, Tryz.f99, Option.getD_some]
  refine Run.seq ?_
  apply Run.regionN
  · simp only [GR, GO, GB1, GN, GM, GV, reduceIte, Nat.reduceEqDiff, Nat.reduceAdd, Nat.reduceLeDiff, Nat.reduceMul, CX_P, CX_X, tlook, Bool.false_eq_true, Bool.true_eq_false, and_self, and_true, true_and, Bool.and_self, Bool.and_true, Int.toNat_zero, Int.toNat_one, Int.reduceToNat, Nat.zero_add, Nat.add_zero]
    rfl
  refine Run.seq ?_
  by_cases h1 : n < lo
  · apply Run.regionN
    · simp only [GR, GO, GB1, GN, GM, GV, reduceIte, Nat.reduceEqDiff, Nat.reduceAdd, Nat.reduceLeDiff, Nat.reduceMul, CX_P, CX_X, tlook, Bool.false_eq_true, Bool.true_eq_false, and_self, and_true, true_and, Bool.and_self, Bool.and_true, Int.toNat_zero, Int.toNat_one, Int.reduceToNat, Nat.zero_add, Nat.add_zero, h1, decide_true, decide_false, List.getElem?_toArray, Option.bind, Bool.true_eq_false, xWhen_eq]
      rfl
    refine Run.ret ⟨trivial, _, rfl, ?_, [], by simp⟩
    simp [fset, packed, rng, h1]
  · apply Run.regionN
    · simp only [GR, GO, GB1, GN, GM, GV, reduceIte, Nat.reduceEqDiff, Nat.reduceAdd, Nat.reduceLeDiff, Nat.reduceMul, CX_P, CX_X, tlook, Bool.false_eq_true, Bool.true_eq_false, and_self, and_true, true_and, Bool.and_self, Bool.and_true, Int.toNat_zero, Int.toNat_one, Int.reduceToNat, Nat.zero_add, Nat.add_zero, h1, decide_true, decide_false, List.getElem?_toArray, Option.bind, Bool.true_eq_false, xWhen_eq]
      rfl
    refine Run.ret ⟨trivial, _, rfl, ?_, [], by simp⟩
    simp [fset, packed, rng, h1]

noncomputable def cd46 : Code := Tryz.f46.body.getD .skip
theorem fb46 : fnB GA Tryz.prog 46 = some ⟨16, cd46, [.tmp 6]⟩ := by kernel_rfl
theorem ok46 : OkA 46 xWithin := by
  intro args h v h' hx
  unfold xWithin at hx
  split at hx
  case h_2 => cases hx
  rename_i n lo hi
  cases hx
  refine FnSemQ.pure (FnSemQ.ofRun (C := CX [(59, xWhen)]) (okX (.cons ok59 .nil)) (drawA _) fb46 (by simp) ?_) rfl
  simp only [cd46, Tryz.f46, Option.getD_some]
  refine Run.seq ?_
  apply Run.regionN
  · simp only [GR, GO, GB1, GN, GM, GV, reduceIte, Nat.reduceEqDiff, Nat.reduceAdd, Nat.reduceLeDiff, Nat.reduceMul, CX_P, CX_X, tlook, Bool.false_eq_true, Bool.true_eq_false, and_self, and_true, true_and, Bool.and_self, Bool.and_true, Int.toNat_zero, Int.toNat_one, Int.reduceToNat, Nat.zero_add, Nat.add_zero]
    rfl
  refine Run.seq ?_
  by_cases h1 : n < lo
  · apply Run.regionN
    · simp only [GR, GO, GB1, GN, GM, GV, reduceIte, Nat.reduceEqDiff, Nat.reduceAdd, Nat.reduceLeDiff, Nat.reduceMul, CX_P, CX_X, tlook, Bool.false_eq_true, Bool.true_eq_false, and_self, and_true, true_and, Bool.and_self, Bool.and_true, Int.toNat_zero, Int.toNat_one, Int.reduceToNat, Nat.zero_add, Nat.add_zero, h1, decide_true, decide_false, List.getElem?_toArray, Option.bind, Bool.true_eq_false, xWhen_eq]
      rfl
    refine Run.ret ⟨trivial, _, rfl, ?_, [], by simp⟩
    simp [fset, packed, rng, h1]
  · apply Run.regionN
    · simp only [GR, GO, GB1, GN, GM, GV, reduceIte, Nat.reduceEqDiff, Nat.reduceAdd, Nat.reduceLeDiff, Nat.reduceMul, CX_P, CX_X, tlook, Bool.false_eq_true, Bool.true_eq_false, and_self, and_true, true_and, Bool.and_self, Bool.and_true, Int.toNat_zero, Int.toNat_one, Int.reduceToNat, Nat.zero_add, Nat.add_zero, h1, decide_true, decide_false, List.getElem?_toArray, Option.bind, Bool.true_eq_false, xWhen_eq]
      rfl
    refine Run.ret ⟨trivial, _, rfl, ?_, [], by simp⟩
    simp [fset, packed, rng, h1]



/-! First, first -/
def xFirst : Sp := fun args h => match args with
  | [v] => match rdI h v with | some l => if l.length < 2 ^ 40 then some (.int .i64 (fnz l), h) else none | none => none
  | _ => none
theorem xFirst_eq {h : Heap} {v : Value} {l : List Int} (hr : rdI h v = some l) (hl : l.length < 2 ^ 40) : xFirst [v] h = some (.int .i64 (fnz l), h) := by
  simp only [xFirst, hr]; rw [if_pos hl]
theorem xFirst_inv {args : List Value} {h h' : Heap} {v : Value} (hx : xFirst args h = some (v, h')) : ∃ a l, args = [a] ∧ rdI h a = some l ∧ l.length < 2 ^ 40 ∧ v = .int .i64 (fnz l) ∧ h = h' := by
  unfold xFirst at hx
  split at hx
  · rename_i a
    split at hx
    · rename_i l hl
      split at hx
      · rename_i hlt
        cases hx; exact ⟨a, l, rfl, hl, hlt, rfl, rfl⟩
      · cases hx
    · cases hx
  · cases hx
noncomputable def cd26 : Code := Tryz.f26.body.getD .skip
theorem fb26 : fnB GA Tryz.prog 26 = some ⟨19, cd26, [.tmp 2]⟩ := by kernel_rfl
theorem ok26 : OkA 26 xFirst := by
  intro args h v h' hx
  obtain ⟨a, l, rfl, hl, hlt, rfl, rfl⟩ := xFirst_inv hx
  refine FnSemQ.pure (FnSemQ.ofRun (C := CX []) (okX .nil) (drawA _) fb26 (by simp) ?_) rfl
  simp only [cd26, Tryz.f26, Option.getD_some]
  have hlen : ∀ h', alen Tryz.prog h' 22 a = some (.int .i64 l.length) := fun h' => rdI_len sl22 hl
  refine Run.seq ?_
  apply Run.regionN
  · simp only [GR, GO, GB1, GN, GM, GV, reduceIte, Nat.reduceEqDiff, Nat.reduceAdd, Nat.reduceLeDiff, Nat.reduceMul, CX_P, CX_X, tlook, Bool.false_eq_true, Bool.true_eq_false, and_self, and_true, true_and, Bool.and_self, Bool.and_true, Int.toNat_zero, Int.toNat_one, Int.reduceToNat, Nat.zero_add, Nat.add_zero]
    rfl
  refine Run.seq (Run.seq ?_)
  apply Run.regionN
  · simp only [GR, GO, GB1, GN, GM, GV, reduceIte, Nat.reduceEqDiff, Nat.reduceAdd, Nat.reduceLeDiff, Nat.reduceMul, CX_P, CX_X, tlook, Bool.false_eq_true, Bool.true_eq_false, and_self, and_true, true_and, Bool.and_self, Bool.and_true, Int.toNat_zero, Int.toNat_one, Int.reduceToNat, Nat.zero_add, Nat.add_zero]
    rfl
  refine Run.block (Run.loop (fun fr h' => h' = h ∧ fr 0 = a ∧ ∃ k : Nat, fr 3 = .int .i64 k ∧ k ≤ l.length ∧ ∀ i, i < k → l.getD i 0 = 0) (fun fr _ => l.length - (iv (fr 3)).toNat) ?_ ?_)
  · rintro fr h' ⟨rfl, f0, k, f3, hk, hz⟩
    refine Run.seq (Run.seq ?_)
    by_cases hkl : k < l.length
    · have d1 : decide ((k : Int) < (l.length : Int)) = true := by simpa using hkl
      obtain ⟨ha, hb⟩ := rdI_atN sl22 ti3 rfl hl .i64 k hkl
      apply Run.regionN
      · simp only [GR, GO, GB1, GN, GM, GV, reduceIte, Nat.reduceEqDiff, Nat.reduceAdd, Nat.reduceLeDiff, Nat.reduceMul, CX_P, CX_X, tlook, Bool.false_eq_true, Bool.true_eq_false, and_self, and_true, true_and, Bool.and_self, Bool.and_true, Int.toNat_zero, Int.toNat_one, Int.reduceToNat, Nat.zero_add, Nat.add_zero, f0, f3, hlen, d1]
        rfl
      refine Run.condT rfl (Run.skip (Run.seq (Run.block (Run.seq ?_))))
      by_cases hx : l.getD k 0 = 0
      · have d2 : (l.getD k 0 != 0) = false := by simpa using hx
        apply Run.regionN
        · simp only [GR, GO, GB1, GN, GM, GV, reduceIte, Nat.reduceEqDiff, Nat.reduceAdd, Nat.reduceLeDiff, Nat.reduceMul, CX_P, CX_X, tlook, Bool.false_eq_true, Bool.true_eq_false, and_self, and_true, true_and, Bool.and_self, Bool.and_true, Int.toNat_zero, Int.toNat_one, Int.reduceToNat, Nat.zero_add, Nat.add_zero, f0, f3, ha, hb, d2]
          rfl
        refine Run.condF rfl (Run.skip (Run.inBlock ?_))
        have w1 : IntKind.i64.wrap ((k : Int) + 1) = ((k + 1 : Nat) : Int) := by rw [IntWalk.i64_in _ (by omega)]; simp
        apply Run.regionN
        · simp only [GR, GO, GB1, GN, GM, GV, reduceIte, Nat.reduceEqDiff, Nat.reduceAdd, Nat.reduceLeDiff, Nat.reduceMul, CX_P, CX_X, tlook, Bool.false_eq_true, Bool.true_eq_false, and_self, and_true, true_and, Bool.and_self, Bool.and_true, Int.toNat_zero, Int.toNat_one, Int.reduceToNat, Nat.zero_add, Nat.add_zero, f3, w1]
          rfl
        refine Run.nil ⟨⟨rfl, by simp [fset, f0], k + 1, by simp [fset], hkl, fun i hi => ?_⟩, ?_⟩
        · by_cases e : i = k
          · subst e; exact hx
          · exact hz i (by omega)
        · simp [fset, iv, f3]; omega
      · have d2 : (l.getD k 0 != 0) = true := by simpa using hx
        apply Run.regionN
        · simp only [GR, GO, GB1, GN, GM, GV, reduceIte, Nat.reduceEqDiff, Nat.reduceAdd, Nat.reduceLeDiff, Nat.reduceMul, CX_P, CX_X, tlook, Bool.false_eq_true, Bool.true_eq_false, and_self, and_true, true_and, Bool.and_self, Bool.and_true, Int.toNat_zero, Int.toNat_one, Int.reduceToNat, Nat.zero_add, Nat.add_zero, f0, f3, ha, hb, d2]
          rfl
        refine Run.condT rfl (Run.seq ?_)
        apply Run.regionN
        · simp only [GR, GO, GB1, GN, GM, GV, reduceIte, Nat.reduceEqDiff, Nat.reduceAdd, Nat.reduceLeDiff, Nat.reduceMul, CX_P, CX_X, tlook, Bool.false_eq_true, Bool.true_eq_false, and_self, and_true, true_and, Bool.and_self, Bool.and_true, Int.toNat_zero, Int.toNat_one, Int.reduceToNat, Nat.zero_add, Nat.add_zero, f0, f3, ha, hb]
          rfl
        refine Run.ret ⟨trivial, _, rfl, ?_, [], by simp⟩
        simp [fset, packed, fnz_at hkl hz hx]
    · have d1 : decide ((k : Int) < (l.length : Int)) = false := by simpa using hkl
      apply Run.regionN
      · simp only [GR, GO, GB1, GN, GM, GV, reduceIte, Nat.reduceEqDiff, Nat.reduceAdd, Nat.reduceLeDiff, Nat.reduceMul, CX_P, CX_X, tlook, Bool.false_eq_true, Bool.true_eq_false, and_self, and_true, true_and, Bool.and_self, Bool.and_true, Int.toNat_zero, Int.toNat_one, Int.reduceToNat, Nat.zero_add, Nat.add_zero, f0, f3, hlen, d1]
        rfl
      refine Run.condF rfl (Run.exitOut rfl (Ends.exit rfl (Run.seq ?_)))
      apply Run.regionN
      · simp only [GR, GO, GB1, GN, GM, GV, reduceIte, Nat.reduceEqDiff, Nat.reduceAdd, Nat.reduceLeDiff, Nat.reduceMul, CX_P, CX_X, tlook, Bool.false_eq_true, Bool.true_eq_false, and_self, and_true, true_and, Bool.and_self, Bool.and_true, Int.toNat_zero, Int.toNat_one, Int.reduceToNat, Nat.zero_add, Nat.add_zero]
        rfl
      refine Run.ret ⟨trivial, _, rfl, ?_, [], by simp⟩
      simp [fset, packed, fnz_none (l := l) (fun i hi => hz i (by omega))]
  · exact ⟨rfl, by simp [fset, initFr], 0, by simp [fset], by omega, fun i hi => by omega⟩


noncomputable def cd97 : Code := Tryz.f97.body.getD .skip
theorem fb97 : fnB GA Tryz.prog 97 = some ⟨15, cd97, [.tmp 2]⟩ := by kernel_rfl
theorem ok97 : OkA 97 xFirst := by
  intro args h v h' hx
  obtain ⟨a, l, rfl, hl, hlt, rfl, rfl⟩ := xFirst_inv hx
  refine FnSemQ.pure (FnSemQ.ofRun (C := CX []) (okX .nil) (drawA _) fb97 (by simp) ?_) rfl
  simp only [cd97, Tryz.f97, Option.getD_some]
  have hlen : ∀ h', alen Tryz.prog h' 221 a = some (.int .i64 l.length) := fun h' => rdI_len sl221 hl
  refine Run.seq ?_
  apply Run.regionN
  · simp only [GR, GO, GB1, GN, GM, GV, reduceIte, Nat.reduceEqDiff, Nat.reduceAdd, Nat.reduceLeDiff, Nat.reduceMul, CX_P, CX_X, tlook, Bool.false_eq_true, Bool.true_eq_false, and_self, and_true, true_and, Bool.and_self, Bool.and_true, Int.toNat_zero, Int.toNat_one, Int.reduceToNat, Nat.zero_add, Nat.add_zero]
    rfl
  refine Run.seq (Run.seq ?_)
  apply Run.regionN
  · simp only [GR, GO, GB1, GN, GM, GV, reduceIte, Nat.reduceEqDiff, Nat.reduceAdd, Nat.reduceLeDiff, Nat.reduceMul, CX_P, CX_X, tlook, Bool.false_eq_true, Bool.true_eq_false, and_self, and_true, true_and, Bool.and_self, Bool.and_true, Int.toNat_zero, Int.toNat_one, Int.reduceToNat, Nat.zero_add, Nat.add_zero, hlen]
    rfl
  refine Run.block (Run.loop (fun fr h' => h' = h ∧ fr 5 = a ∧ fr 6 = .int .i64 l.length ∧ ∃ k : Nat, fr 7 = .int .i64 k ∧ k ≤ l.length ∧ ∀ i, i < k → l.getD i 0 = 0) (fun fr _ => l.length - (iv (fr 7)).toNat) ?_ ?_)
  · rintro fr h' ⟨rfl, f0, f6, k, f3, hk, hz⟩
    refine Run.seq ?_
    by_cases hkl : k < l.length
    · have d1 : decide ((k : Int) < (l.length : Int)) = true := by simpa using hkl
      obtain ⟨ha, hb⟩ := rdI_atN sl221 ti26 rfl hl .i64 k hkl
      apply Run.regionN
      · simp only [GR, GO, GB1, GN, GM, GV, reduceIte, Nat.reduceEqDiff, Nat.reduceAdd, Nat.reduceLeDiff, Nat.reduceMul, CX_P, CX_X, tlook, Bool.false_eq_true, Bool.true_eq_false, and_self, and_true, true_and, Bool.and_self, Bool.and_true, Int.toNat_zero, Int.toNat_one, Int.reduceToNat, Nat.zero_add, Nat.add_zero, f0, f3, f6, d1]
        rfl
      refine Run.seq (Run.condT rfl (Run.skip (Run.seq (Run.block (Run.seq ?_)))))
      apply Run.regionN
      · simp only [GR, GO, GB1, GN, GM, GV, reduceIte, Nat.reduceEqDiff, Nat.reduceAdd, Nat.reduceLeDiff, Nat.reduceMul, CX_P, CX_X, tlook, Bool.false_eq_true, Bool.true_eq_false, and_self, and_true, true_and, Bool.and_self, Bool.and_true, Int.toNat_zero, Int.toNat_one, Int.reduceToNat, Nat.zero_add, Nat.add_zero, f0, f3, ha, hb]
        rfl
      refine Run.seq ?_
      by_cases hx : l.getD k 0 = 0
      · have d2 : (l.getD k 0 != 0) = false := by simpa using hx
        apply Run.regionN
        · simp only [GR, GO, GB1, GN, GM, GV, reduceIte, Nat.reduceEqDiff, Nat.reduceAdd, Nat.reduceLeDiff, Nat.reduceMul, CX_P, CX_X, tlook, Bool.false_eq_true, Bool.true_eq_false, and_self, and_true, true_and, Bool.and_self, Bool.and_true, Int.toNat_zero, Int.toNat_one, Int.reduceToNat, Nat.zero_add, Nat.add_zero, d2]
          rfl
        refine Run.condF rfl (Run.skip (Run.inBlock ?_))
        have w1 : IntKind.i64.wrap ((k : Int) + 1) = ((k + 1 : Nat) : Int) := by rw [IntWalk.i64_in _ (by omega)]; simp
        apply Run.regionN
        · simp only [GR, GO, GB1, GN, GM, GV, reduceIte, Nat.reduceEqDiff, Nat.reduceAdd, Nat.reduceLeDiff, Nat.reduceMul, CX_P, CX_X, tlook, Bool.false_eq_true, Bool.true_eq_false, and_self, and_true, true_and, Bool.and_self, Bool.and_true, Int.toNat_zero, Int.toNat_one, Int.reduceToNat, Nat.zero_add, Nat.add_zero, f3, w1]
          rfl
        refine Run.nil ⟨⟨rfl, by simp [fset, f0], by simp [fset, f6], k + 1, by simp [fset], hkl, fun i hi => ?_⟩, ?_⟩
        · by_cases e : i = k
          · subst e; exact hx
          · exact hz i (by omega)
        · simp [fset, iv, f3]; omega
      · have d2 : (l.getD k 0 != 0) = true := by simpa using hx
        apply Run.regionN
        · simp only [GR, GO, GB1, GN, GM, GV, reduceIte, Nat.reduceEqDiff, Nat.reduceAdd, Nat.reduceLeDiff, Nat.reduceMul, CX_P, CX_X, tlook, Bool.false_eq_true, Bool.true_eq_false, and_self, and_true, true_and, Bool.and_self, Bool.and_true, Int.toNat_zero, Int.toNat_one, Int.reduceToNat, Nat.zero_add, Nat.add_zero, d2]
          rfl
        refine Run.condT rfl (Run.seq ?_)
        apply Run.regionN
        · simp only [GR, GO, GB1, GN, GM, GV, reduceIte, Nat.reduceEqDiff, Nat.reduceAdd, Nat.reduceLeDiff, Nat.reduceMul, CX_P, CX_X, tlook, Bool.false_eq_true, Bool.true_eq_false, and_self, and_true, true_and, Bool.and_self, Bool.and_true, Int.toNat_zero, Int.toNat_one, Int.reduceToNat, Nat.zero_add, Nat.add_zero]
          rfl
        refine Run.ret ⟨trivial, _, rfl, ?_, [], by simp⟩
        simp [fset, packed, fnz_at hkl hz hx]
    · have d1 : decide ((k : Int) < (l.length : Int)) = false := by simpa using hkl
      apply Run.regionN
      · simp only [GR, GO, GB1, GN, GM, GV, reduceIte, Nat.reduceEqDiff, Nat.reduceAdd, Nat.reduceLeDiff, Nat.reduceMul, CX_P, CX_X, tlook, Bool.false_eq_true, Bool.true_eq_false, and_self, and_true, true_and, Bool.and_self, Bool.and_true, Int.toNat_zero, Int.toNat_one, Int.reduceToNat, Nat.zero_add, Nat.add_zero, f0, f3, f6, d1]
        rfl
      refine Run.seq (Run.condF rfl (Run.exitOut rfl (Ends.exit rfl (Run.seq ?_))))
      apply Run.regionN
      · simp only [GR, GO, GB1, GN, GM, GV, reduceIte, Nat.reduceEqDiff, Nat.reduceAdd, Nat.reduceLeDiff, Nat.reduceMul, CX_P, CX_X, tlook, Bool.false_eq_true, Bool.true_eq_false, and_self, and_true, true_and, Bool.and_self, Bool.and_true, Int.toNat_zero, Int.toNat_one, Int.reduceToNat, Nat.zero_add, Nat.add_zero]
        rfl
      refine Run.ret ⟨trivial, _, rfl, ?_, [], by simp⟩
      simp [fset, packed, fnz_none (l := l) (fun i hi => hz i (by omega))]
  · exact ⟨rfl, by simp [fset, initFr], by simp [fset], 0, by simp [fset], by omega, fun i hi => by omega⟩


/-- The first error of some that were just laid. -/
theorem first_lit {h : Heap} {i n : Nat} {c : List Value} {es : Nat} {r f : Bool} (l : List Int) (hg : hget h i = some (.cells c es r f)) (hc : c = l.map (.int .i64)) (hn : n = l.length) (hl : l.length < 2 ^ 40) :
    xFirst [.slice (some ⟨i, 0, none⟩) n FULL] h = some (.int .i64 (fnz l), h) := xFirst_eq (rdI_row hg hc hn) hl

end Go.Proofs.YtamcmocdkcfjkaaGreatDoor
end

/- Channels: the package's functions and the reference's. -/
section
namespace Go.Proofs.YtamcmocdkcfjkaaGreatDoor
open Gl
set_option maxRecDepth 10000
set_option linter.unusedSimpArgs false

/-- The reply's frequency and the spacing. -/
def chBy (n k : Int) : Int := if (k = 89) = (n ≤ 63) then 63 else -63
def chSp (k : Int) : Int := if k = 89 then 36 else 12
def agg3 (a b c : Int) : Value := .agg #[.int .i64 a, .int .i64 b, .int .i64 c]
def xChan : Sp := fun args h => match args with
  | [.int .i64 n, .int .u8 k] => if 1 ≤ n ∧ n ≤ 126 then some (if k = 88 ∨ k = 89 then .tuple #[agg3 (1024 + n) (1024 + n + chBy n k) (chSp k), .int .i64 0] else .tuple #[agg3 0 0 0, .int .i64 13], h) else none
  | _ => none

noncomputable def cd121 : Code := Tryz.f121.body.getD .skip
theorem fb121 : fnB GA Tryz.prog 121 = some ⟨29, cd121, [.cell 4 86, .tmp 5]⟩ := by kernel_rfl
theorem ok121 : OkA 121 xChan := by
  intro args h v h' hx
  unfold xChan at hx
  split at hx
  case h_2 => cases hx
  rename_i n k
  split at hx
  case isFalse => cases hx
  rename_i hn
  cases hx
  refine FnSemQ.pure (FnSemQ.ofRun (C := CX []) (okX .nil) (drawA _) fb121 (by simp) ?_) (by split <;> rfl)
  simp only [cd121, Tryz.f121, Option.getD_some]
  refine Run.app0 ?_
  have w1 : IntKind.i64.wrap (1024 + n) = 1024 + n := IntWalk.i64_in _ (by omega)
  have w2 : IntKind.i64.wrap (1024 + n + 63) = 1024 + n + 63 := IntWalk.i64_in _ (by omega)
  have w3 : IntKind.i64.wrap (1024 + n + -63) = 1024 + n + -63 := IntWalk.i64_in _ (by omega)
  refine Run.seq ?_
  apply Run.regionN
  · simp only [GR, GO, GB1, GN, GM, GV, reduceIte, Nat.reduceEqDiff, Nat.reduceAdd, Nat.reduceLeDiff, Nat.reduceMul, CX_P, CX_X, tlook, Bool.false_eq_true, Bool.true_eq_false, and_self, and_true, true_and, Bool.and_self, Bool.and_true, Int.toNat_zero, Int.toNat_one, Int.reduceToNat, Nat.zero_add, Nat.add_zero, al86]
    rfl
  refine Run.seq ?_
  apply Run.regionN
  · simp only [GR, GO, GB1, GN, GM, GV, reduceIte, Nat.reduceEqDiff, Nat.reduceAdd, Nat.reduceLeDiff, Nat.reduceMul, CX_P, CX_X, tlook, Bool.false_eq_true, Bool.true_eq_false, and_self, and_true, true_and, Bool.and_self, Bool.and_true, Int.toNat_zero, Int.toNat_one, Int.reduceToNat, Nat.zero_add, Nat.add_zero, w1]
    rfl
  refine Run.seq (Run.seq ?_)
  apply Run.regionN
  · simp only [GR, GO, GB1, GN, GM, GV, reduceIte, Nat.reduceEqDiff, Nat.reduceAdd, Nat.reduceLeDiff, Nat.reduceMul, CX_P, CX_X, tlook, Bool.false_eq_true, Bool.true_eq_false, and_self, and_true, true_and, Bool.and_self, Bool.and_true, Int.toNat_zero, Int.toNat_one, Int.reduceToNat, Nat.zero_add, Nat.add_zero]
    rfl
  refine Run.block (Run.seq (Run.seq ?_))
  by_cases k1 : k = 88
  · have e1 : (k == (88 : Int)) = true := by simp [k1]
    have e2 : (k == (89 : Int)) = false := by simp [k1]
    apply Run.regionN
    · simp only [GR, GO, GB1, GN, GM, GV, reduceIte, Nat.reduceEqDiff, Nat.reduceAdd, Nat.reduceLeDiff, Nat.reduceMul, CX_P, CX_X, tlook, Bool.false_eq_true, Bool.true_eq_false, and_self, and_true, true_and, Bool.and_self, Bool.and_true, Int.toNat_zero, Int.toNat_one, Int.reduceToNat, Nat.zero_add, Nat.add_zero, e1]
      rfl
    refine Run.condT rfl (Run.skip (Run.condT rfl (Run.seq ?_)))
    apply Run.regionN
    · simp only [GR, GO, GB1, GN, GM, GV, reduceIte, Nat.reduceEqDiff, Nat.reduceAdd, Nat.reduceLeDiff, Nat.reduceMul, CX_P, CX_X, tlook, Bool.false_eq_true, Bool.true_eq_false, and_self, and_true, true_and, Bool.and_self, Bool.and_true, Int.toNat_zero, Int.toNat_one, Int.reduceToNat, Nat.zero_add, Nat.add_zero]
      rfl
    refine Run.seq (Run.seq ?_)
    by_cases k2 : n ≤ 63
    · apply Run.regionN
      · simp only [GR, GO, GB1, GN, GM, GV, reduceIte, Nat.reduceEqDiff, Nat.reduceAdd, Nat.reduceLeDiff, Nat.reduceMul, CX_P, CX_X, tlook, Bool.false_eq_true, Bool.true_eq_false, and_self, and_true, true_and, Bool.and_self, Bool.and_true, Int.toNat_zero, Int.toNat_one, Int.reduceToNat, Nat.zero_add, Nat.add_zero, e1, k2, decide_true, eq4, beq_self_eq_true]
        rfl
      refine Run.condT rfl ?_
      apply Run.regionN
      · simp only [GR, GO, GB1, GN, GM, GV, reduceIte, Nat.reduceEqDiff, Nat.reduceAdd, Nat.reduceLeDiff, Nat.reduceMul, CX_P, CX_X, tlook, Bool.false_eq_true, Bool.true_eq_false, and_self, and_true, true_and, Bool.and_self, Bool.and_true, Int.toNat_zero, Int.toNat_one, Int.reduceToNat, Nat.zero_add, Nat.add_zero]
        rfl
      refine Run.seq (Run.seq ?_)
      apply Run.regionN
      · simp only [GR, GO, GB1, GN, GM, GV, reduceIte, Nat.reduceEqDiff, Nat.reduceAdd, Nat.reduceLeDiff, Nat.reduceMul, CX_P, CX_X, tlook, Bool.false_eq_true, Bool.true_eq_false, and_self, and_true, true_and, Bool.and_self, Bool.and_true, Int.toNat_zero, Int.toNat_one, Int.reduceToNat, Nat.zero_add, Nat.add_zero, e2]
        rfl
      refine Run.condF rfl (Run.skip (Run.seq ?_))
      apply Run.regionN
      · simp only [GR, GO, GB1, GN, GM, GV, reduceIte, Nat.reduceEqDiff, Nat.reduceAdd, Nat.reduceLeDiff, Nat.reduceMul, CX_P, CX_X, tlook, Bool.false_eq_true, Bool.true_eq_false, and_self, and_true, true_and, Bool.and_self, Bool.and_true, Int.toNat_zero, Int.toNat_one, Int.reduceToNat, Nat.zero_add, Nat.add_zero, w3, bl86, st86]
        rfl
      apply Run.retV
      · simp only [GX, GR, GM, GV, reduceIte, Nat.reduceEqDiff, Nat.reduceAdd, Nat.reduceLeDiff, Nat.reduceMul, CX_P, CX_X, tlook, Bool.false_eq_true, Bool.true_eq_false, and_self, and_true, true_and, Bool.and_self, Bool.and_true, Int.toNat_zero, Int.toNat_one, Int.reduceToNat, Nat.zero_add, Nat.add_zero, ld86]
        rfl
      refine ⟨?_, [_], rfl⟩
      simp [packed, agg3, chBy, chSp, k1, k2, fset]
    · have k3 : decide (n ≤ 63) = false := by simpa using k2
      apply Run.regionN
      · simp only [GR, GO, GB1, GN, GM, GV, reduceIte, Nat.reduceEqDiff, Nat.reduceAdd, Nat.reduceLeDiff, Nat.reduceMul, CX_P, CX_X, tlook, Bool.false_eq_true, Bool.true_eq_false, and_self, and_true, true_and, Bool.and_self, Bool.and_true, Int.toNat_zero, Int.toNat_one, Int.reduceToNat, Nat.zero_add, Nat.add_zero, e1, k3, eq4]
        rfl
      refine Run.condF rfl (Run.skip ?_)
      refine Run.seq (Run.seq ?_)
      apply Run.regionN
      · simp only [GR, GO, GB1, GN, GM, GV, reduceIte, Nat.reduceEqDiff, Nat.reduceAdd, Nat.reduceLeDiff, Nat.reduceMul, CX_P, CX_X, tlook, Bool.false_eq_true, Bool.true_eq_false, and_self, and_true, true_and, Bool.and_self, Bool.and_true, Int.toNat_zero, Int.toNat_one, Int.reduceToNat, Nat.zero_add, Nat.add_zero, e2]
        rfl
      refine Run.condF rfl (Run.skip (Run.seq ?_))
      apply Run.regionN
      · simp only [GR, GO, GB1, GN, GM, GV, reduceIte, Nat.reduceEqDiff, Nat.reduceAdd, Nat.reduceLeDiff, Nat.reduceMul, CX_P, CX_X, tlook, Bool.false_eq_true, Bool.true_eq_false, and_self, and_true, true_and, Bool.and_self, Bool.and_true, Int.toNat_zero, Int.toNat_one, Int.reduceToNat, Nat.zero_add, Nat.add_zero, w2, bl86, st86]
        rfl
      apply Run.retV
      · simp only [GX, GR, GM, GV, reduceIte, Nat.reduceEqDiff, Nat.reduceAdd, Nat.reduceLeDiff, Nat.reduceMul, CX_P, CX_X, tlook, Bool.false_eq_true, Bool.true_eq_false, and_self, and_true, true_and, Bool.and_self, Bool.and_true, Int.toNat_zero, Int.toNat_one, Int.reduceToNat, Nat.zero_add, Nat.add_zero, ld86]
        rfl
      refine ⟨?_, [_], rfl⟩
      simp [packed, agg3, chBy, chSp, k1, k2, fset]
  · have e1 : (k == (88 : Int)) = false := by simpa using k1
    apply Run.regionN
    · simp only [GR, GO, GB1, GN, GM, GV, reduceIte, Nat.reduceEqDiff, Nat.reduceAdd, Nat.reduceLeDiff, Nat.reduceMul, CX_P, CX_X, tlook, Bool.false_eq_true, Bool.true_eq_false, and_self, and_true, true_and, Bool.and_self, Bool.and_true, Int.toNat_zero, Int.toNat_one, Int.reduceToNat, Nat.zero_add, Nat.add_zero, e1]
      rfl
    refine Run.condF rfl ?_
    by_cases k9 : k = 89
    · have e2 : (k == (89 : Int)) = true := by simp [k9]
      apply Run.regionN
      · simp only [GR, GO, GB1, GN, GM, GV, reduceIte, Nat.reduceEqDiff, Nat.reduceAdd, Nat.reduceLeDiff, Nat.reduceMul, CX_P, CX_X, tlook, Bool.false_eq_true, Bool.true_eq_false, and_self, and_true, true_and, Bool.and_self, Bool.and_true, Int.toNat_zero, Int.toNat_one, Int.reduceToNat, Nat.zero_add, Nat.add_zero, e2]
        rfl
      refine Run.condT rfl (Run.seq ?_)
      apply Run.regionN
      · simp only [GR, GO, GB1, GN, GM, GV, reduceIte, Nat.reduceEqDiff, Nat.reduceAdd, Nat.reduceLeDiff, Nat.reduceMul, CX_P, CX_X, tlook, Bool.false_eq_true, Bool.true_eq_false, and_self, and_true, true_and, Bool.and_self, Bool.and_true, Int.toNat_zero, Int.toNat_one, Int.reduceToNat, Nat.zero_add, Nat.add_zero]
        rfl
      refine Run.seq (Run.seq ?_)
      by_cases k2 : n ≤ 63
      · have k3 : decide (n ≤ 63) = true := by simpa using k2
        apply Run.regionN
        · simp only [GR, GO, GB1, GN, GM, GV, reduceIte, Nat.reduceEqDiff, Nat.reduceAdd, Nat.reduceLeDiff, Nat.reduceMul, CX_P, CX_X, tlook, Bool.false_eq_true, Bool.true_eq_false, and_self, and_true, true_and, Bool.and_self, Bool.and_true, Int.toNat_zero, Int.toNat_one, Int.reduceToNat, Nat.zero_add, Nat.add_zero, e1, k3, eq4]
          rfl
        refine Run.condF rfl (Run.skip ?_)
        refine Run.seq (Run.seq ?_)
        apply Run.regionN
        · simp only [GR, GO, GB1, GN, GM, GV, reduceIte, Nat.reduceEqDiff, Nat.reduceAdd, Nat.reduceLeDiff, Nat.reduceMul, CX_P, CX_X, tlook, Bool.false_eq_true, Bool.true_eq_false, and_self, and_true, true_and, Bool.and_self, Bool.and_true, Int.toNat_zero, Int.toNat_one, Int.reduceToNat, Nat.zero_add, Nat.add_zero, e2]
          rfl
        refine Run.condT rfl ?_
        apply Run.regionN
        · simp only [GR, GO, GB1, GN, GM, GV, reduceIte, Nat.reduceEqDiff, Nat.reduceAdd, Nat.reduceLeDiff, Nat.reduceMul, CX_P, CX_X, tlook, Bool.false_eq_true, Bool.true_eq_false, and_self, and_true, true_and, Bool.and_self, Bool.and_true, Int.toNat_zero, Int.toNat_one, Int.reduceToNat, Nat.zero_add, Nat.add_zero]
          rfl
        refine Run.seq ?_
        apply Run.regionN
        · simp only [GR, GO, GB1, GN, GM, GV, reduceIte, Nat.reduceEqDiff, Nat.reduceAdd, Nat.reduceLeDiff, Nat.reduceMul, CX_P, CX_X, tlook, Bool.false_eq_true, Bool.true_eq_false, and_self, and_true, true_and, Bool.and_self, Bool.and_true, Int.toNat_zero, Int.toNat_one, Int.reduceToNat, Nat.zero_add, Nat.add_zero, w2, bl86, st86]
          rfl
        apply Run.retV
        · simp only [GX, GR, GM, GV, reduceIte, Nat.reduceEqDiff, Nat.reduceAdd, Nat.reduceLeDiff, Nat.reduceMul, CX_P, CX_X, tlook, Bool.false_eq_true, Bool.true_eq_false, and_self, and_true, true_and, Bool.and_self, Bool.and_true, Int.toNat_zero, Int.toNat_one, Int.reduceToNat, Nat.zero_add, Nat.add_zero, ld86]
          rfl
        refine ⟨?_, [_], rfl⟩
        simp [packed, agg3, chBy, chSp, k9, k2, fset]
      · have k3 : decide (n ≤ 63) = false := by simpa using k2
        apply Run.regionN
        · simp only [GR, GO, GB1, GN, GM, GV, reduceIte, Nat.reduceEqDiff, Nat.reduceAdd, Nat.reduceLeDiff, Nat.reduceMul, CX_P, CX_X, tlook, Bool.false_eq_true, Bool.true_eq_false, and_self, and_true, true_and, Bool.and_self, Bool.and_true, Int.toNat_zero, Int.toNat_one, Int.reduceToNat, Nat.zero_add, Nat.add_zero, e1, k3, eq4, beq_self_eq_true]
          rfl
        refine Run.condT rfl ?_
        apply Run.regionN
        · simp only [GR, GO, GB1, GN, GM, GV, reduceIte, Nat.reduceEqDiff, Nat.reduceAdd, Nat.reduceLeDiff, Nat.reduceMul, CX_P, CX_X, tlook, Bool.false_eq_true, Bool.true_eq_false, and_self, and_true, true_and, Bool.and_self, Bool.and_true, Int.toNat_zero, Int.toNat_one, Int.reduceToNat, Nat.zero_add, Nat.add_zero]
          rfl
        refine Run.seq (Run.seq ?_)
        apply Run.regionN
        · simp only [GR, GO, GB1, GN, GM, GV, reduceIte, Nat.reduceEqDiff, Nat.reduceAdd, Nat.reduceLeDiff, Nat.reduceMul, CX_P, CX_X, tlook, Bool.false_eq_true, Bool.true_eq_false, and_self, and_true, true_and, Bool.and_self, Bool.and_true, Int.toNat_zero, Int.toNat_one, Int.reduceToNat, Nat.zero_add, Nat.add_zero, e2]
          rfl
        refine Run.condT rfl ?_
        apply Run.regionN
        · simp only [GR, GO, GB1, GN, GM, GV, reduceIte, Nat.reduceEqDiff, Nat.reduceAdd, Nat.reduceLeDiff, Nat.reduceMul, CX_P, CX_X, tlook, Bool.false_eq_true, Bool.true_eq_false, and_self, and_true, true_and, Bool.and_self, Bool.and_true, Int.toNat_zero, Int.toNat_one, Int.reduceToNat, Nat.zero_add, Nat.add_zero]
          rfl
        refine Run.seq ?_
        apply Run.regionN
        · simp only [GR, GO, GB1, GN, GM, GV, reduceIte, Nat.reduceEqDiff, Nat.reduceAdd, Nat.reduceLeDiff, Nat.reduceMul, CX_P, CX_X, tlook, Bool.false_eq_true, Bool.true_eq_false, and_self, and_true, true_and, Bool.and_self, Bool.and_true, Int.toNat_zero, Int.toNat_one, Int.reduceToNat, Nat.zero_add, Nat.add_zero, w3, bl86, st86]
          rfl
        apply Run.retV
        · simp only [GX, GR, GM, GV, reduceIte, Nat.reduceEqDiff, Nat.reduceAdd, Nat.reduceLeDiff, Nat.reduceMul, CX_P, CX_X, tlook, Bool.false_eq_true, Bool.true_eq_false, and_self, and_true, true_and, Bool.and_self, Bool.and_true, Int.toNat_zero, Int.toNat_one, Int.reduceToNat, Nat.zero_add, Nat.add_zero, ld86]
          rfl
        refine ⟨?_, [_], rfl⟩
        simp [packed, agg3, chBy, chSp, k9, k2, fset]
    · have e2 : (k == (89 : Int)) = false := by simpa using k9
      apply Run.regionN
      · simp only [GR, GO, GB1, GN, GM, GV, reduceIte, Nat.reduceEqDiff, Nat.reduceAdd, Nat.reduceLeDiff, Nat.reduceMul, CX_P, CX_X, tlook, Bool.false_eq_true, Bool.true_eq_false, and_self, and_true, true_and, Bool.and_self, Bool.and_true, Int.toNat_zero, Int.toNat_one, Int.reduceToNat, Nat.zero_add, Nat.add_zero, e2]
        rfl
      refine Run.condF rfl (Run.skip (Run.inBlock (Run.seq ?_)))
      apply Run.regionN
      · simp only [GR, GO, GB1, GN, GM, GV, reduceIte, Nat.reduceEqDiff, Nat.reduceAdd, Nat.reduceLeDiff, Nat.reduceMul, CX_P, CX_X, tlook, Bool.false_eq_true, Bool.true_eq_false, and_self, and_true, true_and, Bool.and_self, Bool.and_true, Int.toNat_zero, Int.toNat_one, Int.reduceToNat, Nat.zero_add, Nat.add_zero, bl86z, st86]
        rfl
      apply Run.retV
      · simp only [GX, GR, GM, GV, reduceIte, Nat.reduceEqDiff, Nat.reduceAdd, Nat.reduceLeDiff, Nat.reduceMul, CX_P, CX_X, tlook, Bool.false_eq_true, Bool.true_eq_false, and_self, and_true, true_and, Bool.and_self, Bool.and_true, Int.toNat_zero, Int.toNat_one, Int.reduceToNat, Nat.zero_add, Nat.add_zero, ld86]
        rfl
      refine ⟨?_, [_], rfl⟩
      simp [packed, agg3, k1, k9, fset]


/-! the reference's channel -/
def xRChan : Sp := fun args h => match args with
  | [.int .i64 n, .int .u8 k] => if 1 ≤ n ∧ n ≤ 126 then some (agg3 (1024 + n) (1024 + n + chBy n k) (chSp k), h) else none
  | _ => none
noncomputable def cd57 : Code := Tryz.f57.body.getD .skip
theorem fb57 : fnB GA Tryz.prog 57 = some ⟨28, cd57, [.cell 4 86]⟩ := by kernel_rfl
theorem ok57 : OkA 57 xRChan := by
  intro args h v h' hx
  unfold xRChan at hx
  split at hx
  case h_2 => cases hx
  rename_i n k
  split at hx
  case isFalse => cases hx
  rename_i hn
  cases hx
  refine FnSemQ.pure (FnSemQ.ofRun (C := CX []) (okX .nil) (drawA _) fb57 (by simp) ?_) rfl
  simp only [cd57, Tryz.f57, Option.getD_some]
  refine Run.app0 ?_
  have w1 : IntKind.i64.wrap (1024 + n) = 1024 + n := IntWalk.i64_in _ (by omega)
  have w2 : IntKind.i64.wrap (1024 + n + 63) = 1024 + n + 63 := IntWalk.i64_in _ (by omega)
  have w3 : IntKind.i64.wrap (1024 + n - 63) = 1024 + n - 63 := IntWalk.i64_in _ (by omega)
  refine Run.seq ?_
  apply Run.regionN
  · simp only [GR, GO, GB1, GN, GM, GV, reduceIte, Nat.reduceEqDiff, Nat.reduceAdd, Nat.reduceLeDiff, Nat.reduceMul, CX_P, CX_X, tlook, Bool.false_eq_true, Bool.true_eq_false, and_self, and_true, true_and, Bool.and_self, Bool.and_true, Int.toNat_zero, Int.toNat_one, Int.reduceToNat, Nat.zero_add, Nat.add_zero, al86]
    rfl
  refine Run.seq ?_
  apply Run.regionN
  · simp only [GR, GO, GB1, GN, GM, GV, reduceIte, Nat.reduceEqDiff, Nat.reduceAdd, Nat.reduceLeDiff, Nat.reduceMul, CX_P, CX_X, tlook, Bool.false_eq_true, Bool.true_eq_false, and_self, and_true, true_and, Bool.and_self, Bool.and_true, Int.toNat_zero, Int.toNat_one, Int.reduceToNat, Nat.zero_add, Nat.add_zero]
    rfl
  refine Run.seq ?_
  apply Run.regionN
  · simp only [GR, GO, GB1, GN, GM, GV, reduceIte, Nat.reduceEqDiff, Nat.reduceAdd, Nat.reduceLeDiff, Nat.reduceMul, CX_P, CX_X, tlook, Bool.false_eq_true, Bool.true_eq_false, and_self, and_true, true_and, Bool.and_self, Bool.and_true, Int.toNat_zero, Int.toNat_one, Int.reduceToNat, Nat.zero_add, Nat.add_zero]
    rfl
  refine Run.seq (Run.seq ?_)
  by_cases k9 : k = 89
  · have e2 : (k == (89 : Int)) = true := by simp [k9]
    apply Run.regionN
    · simp only [GR, GO, GB1, GN, GM, GV, reduceIte, Nat.reduceEqDiff, Nat.reduceAdd, Nat.reduceLeDiff, Nat.reduceMul, CX_P, CX_X, tlook, Bool.false_eq_true, Bool.true_eq_false, and_self, and_true, true_and, Bool.and_self, Bool.and_true, Int.toNat_zero, Int.toNat_one, Int.reduceToNat, Nat.zero_add, Nat.add_zero, e2]
      rfl
    refine Run.condT rfl (Run.seq ?_)
    apply Run.regionN
    · simp only [GR, GO, GB1, GN, GM, GV, reduceIte, Nat.reduceEqDiff, Nat.reduceAdd, Nat.reduceLeDiff, Nat.reduceMul, CX_P, CX_X, tlook, Bool.false_eq_true, Bool.true_eq_false, and_self, and_true, true_and, Bool.and_self, Bool.and_true, Int.toNat_zero, Int.toNat_one, Int.reduceToNat, Nat.zero_add, Nat.add_zero]
      rfl
    by_cases k2 : n ≤ 63
    · have k3 : decide (n ≤ 63) = true := by simpa using k2
      apply Run.regionN
      · simp only [GR, GO, GB1, GN, GM, GV, reduceIte, Nat.reduceEqDiff, Nat.reduceAdd, Nat.reduceLeDiff, Nat.reduceMul, CX_P, CX_X, tlook, Bool.false_eq_true, Bool.true_eq_false, and_self, and_true, true_and, Bool.and_self, Bool.and_true, Int.toNat_zero, Int.toNat_one, Int.reduceToNat, Nat.zero_add, Nat.add_zero, k3, Bool.not_true]
        rfl
      refine Run.seq (Run.seq ?_)
      apply Run.regionN
      · simp only [GR, GO, GB1, GN, GM, GV, reduceIte, Nat.reduceEqDiff, Nat.reduceAdd, Nat.reduceLeDiff, Nat.reduceMul, CX_P, CX_X, tlook, Bool.false_eq_true, Bool.true_eq_false, and_self, and_true, true_and, Bool.and_self, Bool.and_true, Int.toNat_zero, Int.toNat_one, Int.reduceToNat, Nat.zero_add, Nat.add_zero]
        rfl
      refine Run.condF rfl (Run.skip (Run.seq ?_))
      apply Run.regionN
      · simp only [GR, GO, GB1, GN, GM, GV, reduceIte, Nat.reduceEqDiff, Nat.reduceAdd, Nat.reduceLeDiff, Nat.reduceMul, CX_P, CX_X, tlook, Bool.false_eq_true, Bool.true_eq_false, and_self, and_true, true_and, Bool.and_self, Bool.and_true, Int.toNat_zero, Int.toNat_one, Int.reduceToNat, Nat.zero_add, Nat.add_zero, w1, w2, bl86, st86]
        rfl
      apply Run.retV
      · simp only [GX, GR, GM, GV, reduceIte, Nat.reduceEqDiff, Nat.reduceAdd, Nat.reduceLeDiff, Nat.reduceMul, CX_P, CX_X, tlook, Bool.false_eq_true, Bool.true_eq_false, and_self, and_true, true_and, Bool.and_self, Bool.and_true, Int.toNat_zero, Int.toNat_one, Int.reduceToNat, Nat.zero_add, Nat.add_zero, ld86]
        rfl
      refine ⟨?_, [_], rfl⟩
      simp [packed, agg3, chBy, chSp, k9, k2, fset]
    · have k3 : decide (n ≤ 63) = false := by simpa using k2
      apply Run.regionN
      · simp only [GR, GO, GB1, GN, GM, GV, reduceIte, Nat.reduceEqDiff, Nat.reduceAdd, Nat.reduceLeDiff, Nat.reduceMul, CX_P, CX_X, tlook, Bool.false_eq_true, Bool.true_eq_false, and_self, and_true, true_and, Bool.and_self, Bool.and_true, Int.toNat_zero, Int.toNat_one, Int.reduceToNat, Nat.zero_add, Nat.add_zero, k3, Bool.not_false]
        rfl
      refine Run.seq (Run.seq ?_)
      apply Run.regionN
      · simp only [GR, GO, GB1, GN, GM, GV, reduceIte, Nat.reduceEqDiff, Nat.reduceAdd, Nat.reduceLeDiff, Nat.reduceMul, CX_P, CX_X, tlook, Bool.false_eq_true, Bool.true_eq_false, and_self, and_true, true_and, Bool.and_self, Bool.and_true, Int.toNat_zero, Int.toNat_one, Int.reduceToNat, Nat.zero_add, Nat.add_zero]
        rfl
      refine Run.condT rfl (Run.seq ?_)
      apply Run.regionN
      · simp only [GR, GO, GB1, GN, GM, GV, reduceIte, Nat.reduceEqDiff, Nat.reduceAdd, Nat.reduceLeDiff, Nat.reduceMul, CX_P, CX_X, tlook, Bool.false_eq_true, Bool.true_eq_false, and_self, and_true, true_and, Bool.and_self, Bool.and_true, Int.toNat_zero, Int.toNat_one, Int.reduceToNat, Nat.zero_add, Nat.add_zero, w1, w3, bl86, st86]
        rfl
      apply Run.retV
      · simp only [GX, GR, GM, GV, reduceIte, Nat.reduceEqDiff, Nat.reduceAdd, Nat.reduceLeDiff, Nat.reduceMul, CX_P, CX_X, tlook, Bool.false_eq_true, Bool.true_eq_false, and_self, and_true, true_and, Bool.and_self, Bool.and_true, Int.toNat_zero, Int.toNat_one, Int.reduceToNat, Nat.zero_add, Nat.add_zero, ld86]
        rfl
      refine ⟨?_, [_], rfl⟩
      simp [packed, agg3, chBy, chSp, k9, k2, fset]
      omega
  · have e2 : (k == (89 : Int)) = false := by simpa using k9
    apply Run.regionN
    · simp only [GR, GO, GB1, GN, GM, GV, reduceIte, Nat.reduceEqDiff, Nat.reduceAdd, Nat.reduceLeDiff, Nat.reduceMul, CX_P, CX_X, tlook, Bool.false_eq_true, Bool.true_eq_false, and_self, and_true, true_and, Bool.and_self, Bool.and_true, Int.toNat_zero, Int.toNat_one, Int.reduceToNat, Nat.zero_add, Nat.add_zero, e2]
      rfl
    refine Run.condF rfl (Run.skip (Run.seq (Run.seq ?_)))
    apply Run.regionN
    · simp only [GR, GO, GB1, GN, GM, GV, reduceIte, Nat.reduceEqDiff, Nat.reduceAdd, Nat.reduceLeDiff, Nat.reduceMul, CX_P, CX_X, tlook, Bool.false_eq_true, Bool.true_eq_false, and_self, and_true, true_and, Bool.and_self, Bool.and_true, Int.toNat_zero, Int.toNat_one, Int.reduceToNat, Nat.zero_add, Nat.add_zero]
      rfl
    by_cases k2 : n ≤ 63
    · have k3 : decide (n ≤ 63) = true := by simpa using k2
      rw [k3]
      refine Run.condT rfl (Run.seq ?_)
      apply Run.regionN
      · simp only [GR, GO, GB1, GN, GM, GV, reduceIte, Nat.reduceEqDiff, Nat.reduceAdd, Nat.reduceLeDiff, Nat.reduceMul, CX_P, CX_X, tlook, Bool.false_eq_true, Bool.true_eq_false, and_self, and_true, true_and, Bool.and_self, Bool.and_true, Int.toNat_zero, Int.toNat_one, Int.reduceToNat, Nat.zero_add, Nat.add_zero, w1, w3, bl86, st86]
        rfl
      apply Run.retV
      · simp only [GX, GR, GM, GV, reduceIte, Nat.reduceEqDiff, Nat.reduceAdd, Nat.reduceLeDiff, Nat.reduceMul, CX_P, CX_X, tlook, Bool.false_eq_true, Bool.true_eq_false, and_self, and_true, true_and, Bool.and_self, Bool.and_true, Int.toNat_zero, Int.toNat_one, Int.reduceToNat, Nat.zero_add, Nat.add_zero, ld86]
        rfl
      refine ⟨?_, [_], rfl⟩
      simp [packed, agg3, chBy, chSp, k9, k2, fset]
      omega
    · have k3 : decide (n ≤ 63) = false := by simpa using k2
      rw [k3]
      refine Run.condF rfl (Run.skip (Run.seq ?_))
      apply Run.regionN
      · simp only [GR, GO, GB1, GN, GM, GV, reduceIte, Nat.reduceEqDiff, Nat.reduceAdd, Nat.reduceLeDiff, Nat.reduceMul, CX_P, CX_X, tlook, Bool.false_eq_true, Bool.true_eq_false, and_self, and_true, true_and, Bool.and_self, Bool.and_true, Int.toNat_zero, Int.toNat_one, Int.reduceToNat, Nat.zero_add, Nat.add_zero, w1, w2, bl86, st86]
        rfl
      apply Run.retV
      · simp only [GX, GR, GM, GV, reduceIte, Nat.reduceEqDiff, Nat.reduceAdd, Nat.reduceLeDiff, Nat.reduceMul, CX_P, CX_X, tlook, Bool.false_eq_true, Bool.true_eq_false, and_self, and_true, true_and, Bool.and_self, Bool.and_true, Int.toNat_zero, Int.toNat_one, Int.reduceToNat, Nat.zero_add, Nat.add_zero, ld86]
        rfl
      refine ⟨?_, [_], rfl⟩
      simp [packed, agg3, chBy, chSp, k9, k2, fset]


/-! CheckKind, CheckChannel -/
def knd (k : Int) : Int := if k ≠ 88 ∧ k ≠ 89 then 13 else 0
def xKind : Sp := fun args h => match args with | [.int .u8 k] => some (.int .i64 (knd k), h) | _ => none
theorem xKind_eq (k : Int) (h : Heap) : xKind [.int .u8 k] h = some (.int .i64 (knd k), h) := rfl
noncomputable def cd56 : Code := Tryz.f56.body.getD .skip
theorem fb56 : fnB GA Tryz.prog 56 = some ⟨10, cd56, [.tmp 2]⟩ := by kernel_rfl
theorem ok56 : OkA 56 xKind := by
  intro args h v h' hx
  unfold xKind at hx
  split at hx
  case h_2 => cases hx
  rename_i k
  cases hx
  refine FnSemQ.pure (FnSemQ.ofRun (C := CX [(59, xWhen)]) (okX (.cons ok59 .nil)) (drawA _) fb56 (by simp) ?_) rfl
  simp only [cd56, Tryz.f56, Option.getD_some]
  refine Run.seq ?_
  apply Run.regionN
  · simp only [GR, GO, GB1, GN, GM, GV, reduceIte, Nat.reduceEqDiff, Nat.reduceAdd, Nat.reduceLeDiff, Nat.reduceMul, CX_P, CX_X, tlook, Bool.false_eq_true, Bool.true_eq_false, and_self, and_true, true_and, Bool.and_self, Bool.and_true, Int.toNat_zero, Int.toNat_one, Int.reduceToNat, Nat.zero_add, Nat.add_zero]
    rfl
  refine Run.seq ?_
  cases e1 : (k != (88 : Int)) <;> cases e2 : (k != (89 : Int))
  all_goals
    apply Run.regionN
    · simp only [GR, GO, GB1, GN, GM, GV, reduceIte, Nat.reduceEqDiff, Nat.reduceAdd, Nat.reduceLeDiff, Nat.reduceMul, CX_P, CX_X, tlook, Bool.false_eq_true, Bool.true_eq_false, and_self, and_true, true_and, Bool.and_self, Bool.and_true, Int.toNat_zero, Int.toNat_one, Int.reduceToNat, Nat.zero_add, Nat.add_zero, e1, e2, beq_self_eq_true, List.getElem?_toArray, Option.bind, xWhen_eq]
      rfl
    refine Run.ret ⟨trivial, _, rfl, ?_, [], by simp⟩
    simp at e1 e2
    simp [fset, packed, knd, e1, e2]

def xCheckChannel : Sp := fun args h => match args with | [.int .i64 n, .int .u8 k] => some (.int .i64 (fnz [rng n 1 126, knd k]), h) | _ => none
theorem xCheckChannel_eq (n k : Int) (h : Heap) : xCheckChannel [.int .i64 n, .int .u8 k] h = some (.int .i64 (fnz [rng n 1 126, knd k]), h) := rfl
noncomputable def cd55 : Code := Tryz.f55.body.getD .skip
theorem fb55 : fnB GA Tryz.prog 55 = some ⟨11, cd55, [.tmp 4]⟩ := by kernel_rfl
theorem ok55 : OkA 55 xCheckChannel := by
  intro args h v h' hx
  unfold xCheckChannel at hx
  split at hx
  case h_2 => cases hx
  rename_i n k
  cases hx
  refine FnSemQ.pure (FnSemQ.ofRun (C := CX [(46, xWithin), (56, xKind), (26, xFirst)]) (okX (.cons ok46 (.cons ok56 (.cons ok26 .nil)))) (drawA _) fb55 (by simp) ?_) rfl
  simp only [cd55, Tryz.f55, Option.getD_some]
  refine Run.app0 ?_
  have hf := first_lit (h := h ++ [.cells [.int .i64 (rng n 1 126), .int .i64 (knd k)] 1 true true]) (i := hsz h) (n := 2) [rng n 1 126, knd k] (hget_app0 ..) rfl rfl (by simp)
  refine Run.seq ?_
  apply Run.regionN
  · simp only [GR, GO, GB1, GN, GM, GV, reduceIte, Nat.reduceEqDiff, Nat.reduceAdd, Nat.reduceLeDiff, Nat.reduceMul, CX_P, CX_X, tlook, Bool.false_eq_true, Bool.true_eq_false, and_self, and_true, true_and, Bool.and_self, Bool.and_true, Int.toNat_zero, Int.toNat_one, Int.reduceToNat, Nat.zero_add, Nat.add_zero]
    rfl
  refine Run.seq ?_
  apply Run.regionN
  · simp only [GR, GO, GB1, GN, GM, GV, reduceIte, Nat.reduceEqDiff, Nat.reduceAdd, Nat.reduceLeDiff, Nat.reduceMul, CX_P, CX_X, tlook, Bool.false_eq_true, Bool.true_eq_false, and_self, and_true, true_and, Bool.and_self, Bool.and_true, Int.toNat_zero, Int.toNat_one, Int.reduceToNat, Nat.zero_add, Nat.add_zero, xWithin_eq, xKind_eq, abs2 sl22, hf]
    rfl
  refine Run.ret ⟨trivial, _, rfl, ?_, [_], rfl⟩
  simp [fset, packed]

/-! Channel -/
def chE (n k : Int) : Int := fnz [rng n 1 126, knd k]
def xChannel : Sp := fun args h => match args with
  | [.int .i64 n, .int .u8 k] => some (if chE n k = 0 then .tuple #[agg3 (1024 + n) (1024 + n + chBy n k) (chSp k), .int .i64 0] else .tuple #[agg3 0 0 0, .int .i64 (chE n k)], h)
  | _ => none
noncomputable def cd53 : Code := Tryz.f53.body.getD .skip
theorem fb53 : fnB GA Tryz.prog 53 = some ⟨18, cd53, [.cell 4 86, .tmp 5]⟩ := by kernel_rfl
theorem xChan_eq (n k : Int) (h : Heap) (hn : 1 ≤ n ∧ n ≤ 126) : xChan [.int .i64 n, .int .u8 k] h = some (.tuple #[if k = 88 ∨ k = 89 then agg3 (1024 + n) (1024 + n + chBy n k) (chSp k) else agg3 0 0 0, .int .i64 (knd k)], h) := by
  simp only [xChan]
  rw [if_pos hn]
  by_cases hk : k = 88 ∨ k = 89
  · rw [if_pos hk, if_pos hk]; unfold knd; rw [if_neg (by omega)]
  · rw [if_neg hk, if_neg hk]; unfold knd; rw [if_pos (by omega)]
theorem rng_ok {n lo hi : Int} (h : lo ≤ n ∧ n ≤ hi) : rng n lo hi = 0 := by unfold rng; rw [if_neg (by omega)]
theorem rng_no {n lo hi : Int} (h : ¬ (lo ≤ n ∧ n ≤ hi)) : rng n lo hi = 3 := by unfold rng; rw [if_pos (by omega)]
theorem ok53 : OkA 53 xChannel := by
  intro args h v h' hx
  unfold xChannel at hx
  split at hx
  case h_2 => cases hx
  rename_i n k
  cases hx
  refine FnSemQ.pure (FnSemQ.ofRun (C := CX [(99, xWithin), (121, xChan)]) (okX (.cons ok99 (.cons ok121 .nil))) (drawA _) fb53 (by simp) ?_) (by split <;> rfl)
  simp only [cd53, Tryz.f53, Option.getD_some]
  refine Run.app0 ?_
  refine Run.seq ?_
  apply Run.regionN
  · simp only [GR, GO, GB1, GN, GM, GV, reduceIte, Nat.reduceEqDiff, Nat.reduceAdd, Nat.reduceLeDiff, Nat.reduceMul, CX_P, CX_X, tlook, Bool.false_eq_true, Bool.true_eq_false, and_self, and_true, true_and, Bool.and_self, Bool.and_true, Int.toNat_zero, Int.toNat_one, Int.reduceToNat, Nat.zero_add, Nat.add_zero, al86]
    rfl
  refine Run.seq (Run.seq ?_)
  by_cases hn : 1 ≤ n ∧ n ≤ 126
  · apply Run.regionN
    · simp only [GR, GO, GB1, GN, GM, GV, reduceIte, Nat.reduceEqDiff, Nat.reduceAdd, Nat.reduceLeDiff, Nat.reduceMul, CX_P, CX_X, tlook, Bool.false_eq_true, Bool.true_eq_false, and_self, and_true, true_and, Bool.and_self, Bool.and_true, Int.toNat_zero, Int.toNat_one, Int.reduceToNat, Nat.zero_add, Nat.add_zero, xWithin_eq, rng_ok hn]
      rfl
    refine Run.seq ?_
    apply Run.regionN
    · simp only [GR, GO, GB1, GN, GM, GV, reduceIte, Nat.reduceEqDiff, Nat.reduceAdd, Nat.reduceLeDiff, Nat.reduceMul, CX_P, CX_X, tlook, Bool.false_eq_true, Bool.true_eq_false, and_self, and_true, true_and, Bool.and_self, Bool.and_true, Int.toNat_zero, Int.toNat_one, Int.reduceToNat, Nat.zero_add, Nat.add_zero, bne_self_eq_false]
      rfl
    refine Run.condF rfl (Run.skip (Run.seq ?_))
    by_cases hk : k = 88 ∨ k = 89
    · have e1 : knd k = 0 := by unfold knd; rw [if_neg (by omega)]
      have e2 : chE n k = 0 := by simp [chE, rng_ok hn, e1, fnz]
      apply Run.regionN
      · simp only [GR, GO, GB1, GN, GM, GV, reduceIte, Nat.reduceEqDiff, Nat.reduceAdd, Nat.reduceLeDiff, Nat.reduceMul, CX_P, CX_X, tlook, Bool.false_eq_true, Bool.true_eq_false, and_self, and_true, true_and, Bool.and_self, Bool.and_true, Int.toNat_zero, Int.toNat_one, Int.reduceToNat, Nat.zero_add, Nat.add_zero, xChan_eq n k _ hn, st86, if_pos hk, agg3]
        rfl
      apply Run.retV
      · simp only [GX, GR, GM, GV, reduceIte, Nat.reduceEqDiff, Nat.reduceAdd, Nat.reduceLeDiff, Nat.reduceMul, CX_P, CX_X, tlook, Bool.false_eq_true, Bool.true_eq_false, and_self, and_true, true_and, Bool.and_self, Bool.and_true, Int.toNat_zero, Int.toNat_one, Int.reduceToNat, Nat.zero_add, Nat.add_zero, ld86]
        rfl
      refine ⟨?_, [_], rfl⟩
      simp [packed, e1, e2, agg3]
    · have e1 : knd k = 13 := by unfold knd; rw [if_pos (by omega)]
      have e2 : chE n k = 13 := by simp [chE, rng_ok hn, e1, fnz]
      apply Run.regionN
      · simp only [GR, GO, GB1, GN, GM, GV, reduceIte, Nat.reduceEqDiff, Nat.reduceAdd, Nat.reduceLeDiff, Nat.reduceMul, CX_P, CX_X, tlook, Bool.false_eq_true, Bool.true_eq_false, and_self, and_true, true_and, Bool.and_self, Bool.and_true, Int.toNat_zero, Int.toNat_one, Int.reduceToNat, Nat.zero_add, Nat.add_zero, xChan_eq n k _ hn, st86, if_neg hk, agg3]
        rfl
      apply Run.retV
      · simp only [GX, GR, GM, GV, reduceIte, Nat.reduceEqDiff, Nat.reduceAdd, Nat.reduceLeDiff, Nat.reduceMul, CX_P, CX_X, tlook, Bool.false_eq_true, Bool.true_eq_false, and_self, and_true, true_and, Bool.and_self, Bool.and_true, Int.toNat_zero, Int.toNat_one, Int.reduceToNat, Nat.zero_add, Nat.add_zero, ld86]
        rfl
      refine ⟨?_, [_], rfl⟩
      simp [packed, e1, e2, agg3]
  · apply Run.regionN
    · simp only [GR, GO, GB1, GN, GM, GV, reduceIte, Nat.reduceEqDiff, Nat.reduceAdd, Nat.reduceLeDiff, Nat.reduceMul, CX_P, CX_X, tlook, Bool.false_eq_true, Bool.true_eq_false, and_self, and_true, true_and, Bool.and_self, Bool.and_true, Int.toNat_zero, Int.toNat_one, Int.reduceToNat, Nat.zero_add, Nat.add_zero, xWithin_eq, rng_no hn]
      rfl
    refine Run.seq ?_
    have e3 : ((3 : Int) != 0) = true := rfl
    apply Run.regionN
    · simp only [GR, GO, GB1, GN, GM, GV, reduceIte, Nat.reduceEqDiff, Nat.reduceAdd, Nat.reduceLeDiff, Nat.reduceMul, CX_P, CX_X, tlook, Bool.false_eq_true, Bool.true_eq_false, and_self, and_true, true_and, Bool.and_self, Bool.and_true, Int.toNat_zero, Int.toNat_one, Int.reduceToNat, Nat.zero_add, Nat.add_zero, e3]
      rfl
    refine Run.condT rfl (Run.seq ?_)
    apply Run.regionN
    · simp only [GR, GO, GB1, GN, GM, GV, reduceIte, Nat.reduceEqDiff, Nat.reduceAdd, Nat.reduceLeDiff, Nat.reduceMul, CX_P, CX_X, tlook, Bool.false_eq_true, Bool.true_eq_false, and_self, and_true, true_and, Bool.and_self, Bool.and_true, Int.toNat_zero, Int.toNat_one, Int.reduceToNat, Nat.zero_add, Nat.add_zero, bl86z, st86]
      rfl
    have e2 : chE n k = 3 := by simp [chE, rng_no hn, fnz]
    apply Run.retV
    · simp only [GX, GR, GM, GV, reduceIte, Nat.reduceEqDiff, Nat.reduceAdd, Nat.reduceLeDiff, Nat.reduceMul, CX_P, CX_X, tlook, Bool.false_eq_true, Bool.true_eq_false, and_self, and_true, true_and, Bool.and_self, Bool.and_true, Int.toNat_zero, Int.toNat_one, Int.reduceToNat, Nat.zero_add, Nat.add_zero, ld86]
      rfl
    refine ⟨?_, [_], rfl⟩
    simp [packed, e2, agg3]

end Go.Proofs.YtamcmocdkcfjkaaGreatDoor
end
