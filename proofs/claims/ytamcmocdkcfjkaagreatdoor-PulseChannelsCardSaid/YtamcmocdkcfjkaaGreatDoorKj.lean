/-
  pulse.Ranged at the arguments of the document's examples: its loop over a map, whichever the order.
-/
import Derived.Test.YtamcmocdkcfjkaaGreatDoorKh
import Derived.Test.YtamcmocdkcfjkaaGreatDoorKg
import Derived.Test.YtamcmocdkcfjkaaGreatDoorKf
set_option linter.all false
/- pulse.Ranged at the arguments of the document's examples: its loop over a map, whichever the order. -/
section
namespace Go.Proofs.YtamcmocdkcfjkaaGreatDoor
open Gl
set_option maxRecDepth 100000

def ints (l : List Int) : List Value := l.map (.int .i64)
def rKeys : List Int := [99, 102, 104, 107, 599, 602, 624, 627, 1100, 1102, 124, 127, 600, 100]
def rVals : List Int := [2, -3, 1, -1, 1, -2, 1, -1, 1, -1, 1, -1, 1, 1]
def rL : List (Value × Value) := (rKeys.zip rVals).map fun p => (.int .i64 p.1, .int .i64 p.2)
def rP : List Int := [99, 104, 599, 624, 1100, 99, 124, 600, 100]
def rS : List Int := [99, 99, 99, 100, 100, 102, 104, 104, 107, 124, 124, 127, 599, 599, 600, 600, 602, 624, 624, 627, 1100, 1100, 1102]
def rArgs (need : Int) : List Value := [.agg #[.int .i64 12, .int .i64 50, .int .i64 2, .int .i64 60, .int .i64 20, .int .i64 3, .int .i64 1000, .int .i64 400], .slice (some ⟨9, 0, none⟩) 3 FULL, .slice (some ⟨10, 0, none⟩) 5 FULL, .int .i64 need]
def rBlks : List Blk := [.cells [.int .i64 0, .int .i64 1000, .int .i64 2000] 1 true true, .cells [.int .i64 250, .int .i64 260, .int .i64 1250, .int .i64 1300, .int .i64 2251] 1 true true]
def rEnt (need a b e : Int) : Ent := ⟨rArgs need, rBlks, .tuple #[.int .i64 a, .int .i64 b, .int .i64 e], []⟩

def hdC : Code → Code | .seq a _ => a | c => c
def tlC : Code → Code | .seq _ b => b | c => c
noncomputable def c44 : Code := Tryz.f44.body.getD .skip
noncomputable def pre44 : List Code := [hdC c44, hdC (tlC c44), hdC (tlC (tlC c44)), hdC (tlC (tlC (tlC c44))), hdC (tlC (tlC (tlC (tlC c44))))]
noncomputable def map44 : Code := hdC (tlC (tlC (tlC (tlC (tlC c44)))))
noncomputable def sort44 : Code := hdC (tlC (tlC (tlC (tlC (tlC (tlC c44))))))
noncomputable def rest44 : Code := tlC (tlC (tlC (tlC (tlC (tlC (tlC c44))))))
theorem c44_eq : c44 = pre44.foldr .seq (.seq map44 (.seq sort44 rest44)) := by kernel_rfl
theorem fb44 : fnB GA Tryz.prog 44 = some ⟨109, c44, [.tmp 8, .tmp 9, .tmp 10]⟩ := by kernel_rfl
theorem sl22 : SlTy Tryz.prog 22 3 1 := SlTy.of (by kernel_rfl)

def preLook (need : Int) : Option (KFr × Heap) → Bool
  | some (fr, h) => (hsz h == 151) && eqV (fr.get 3) (.int .i64 need) && eqV (fr.get 12) (.map (some 27)) && eqV (fr.get 13) (.slice (some ⟨150, 0, none⟩) 9 FULL) && eqL eqBl (h.take 11) (G0 ++ rBlks) &&
      eqB (hget h 27) (some (.map rL)) && eqB (hget h 150) (some (.cells (ints rP) 1 true false))
  | none => false

noncomputable def pre44Run (need : Int) : Option (KFr × Heap) := KFr.of 109 (rArgs need) fun fr => chain (CX T1) 3000 109 pre44 fr (G0 ++ rBlks)

/-- What is known where the loop over the map begins. -/
structure PreSt (need : Int) (fr : Fr) (h : Heap) : Prop where
  sz : hsz h = 151
  f3 : fr 3 = .int .i64 need
  f12 : fr 12 = .map (some 27)
  f13 : fr 13 = .slice (some ⟨150, 0, none⟩) 9 FULL
  old : ∀ i, i < 11 → hget h i = hget (G0 ++ rBlks) i
  m : hget h 27 = some (.map rL)
  p : hget h 150 = some (.cells (ints rP) 1 true false)

theorem eqB_some {a : Option Blk} {b : Blk} (h : eqB a (some b) = true) : a = some b := eqB_ok h

theorem preSt_of {need : Int} {fr : KFr} {h : Heap} (hl : preLook need (some (fr, h)) = true) : PreSt need fr.get h := by
  simp only [preLook, Bool.and_eq_true, beq_iff_eq] at hl
  obtain ⟨⟨⟨⟨⟨⟨h1, h2⟩, h3⟩, h4⟩, h5⟩, h6⟩, h7⟩ := hl
  have e5 := eqL_ok (fun _ _ => eqBl_ok) h5
  refine ⟨h1, eqV_ok h2, eqV_ok h3, eqV_ok h4, fun i hi => ?_, eqB_some h6, eqB_some h7⟩
  rw [← e5]
  unfold hget
  rw [List.getElem?_take_of_lt hi]

theorem pre3 : preLook 3 (pre44Run 3) = true := by kernel_rfl


def blC : Code → Code | .block _ b => b | c => c
def lpC : Code → Code | .loop b => b | c => c
noncomputable def body20 : Code := tlC (blC (tlC (tlC (lpC (blC (tlC map44))))))

/-- A round of the loop over the map. -/
theorem run20 {T : List (FuncId × Sp)} {fr : Fr} {h : Heap} {j n : Nat} {c : List Value} {x : Int} (h13 : fr 13 = .slice (some ⟨j, 0, none⟩) n FULL) (h18 : fr 18 = .int .i64 x) (hj : hget h j = some (.cells c 1 true false)) (hn : c.length = n) (hlt : n + 1 < 2 ^ 32) :
    ∃ fr', ev (CX T) false 109 [.code body20] fr h = some (.normal, fr', hpush (hput (hpush h (.cells [.int .i64 x] 1 true true)) j .dead) (.cells (c ++ [.int .i64 x]) 1 true false)) ∧
      fr' 13 = .slice (some ⟨hsz h + 1, 0, none⟩) (n + 1) FULL ∧ fr' 3 = fr 3 ∧ fr' 12 = fr 12 ∧ fr' 71 = fr 71 := by
  have hjl : j < hsz h := (List.getElem?_eq_some_iff.1 hj).1
  have key : Run (CX T) false 109 [.code body20] fr h fun o fr' h' => o = .normal ∧ h' = hpush (hput (hpush h (.cells [.int .i64 x] 1 true true)) j .dead) (.cells (c ++ [.int .i64 x]) 1 true false) ∧
      fr' 13 = .slice (some ⟨hsz h + 1, 0, none⟩) (n + 1) FULL ∧ fr' 3 = fr 3 ∧ fr' 12 = fr 12 ∧ fr' 71 = fr 71 := by
    simp only [body20, map44, c44, Tryz.f44, hdC, tlC, blC, lpC, Option.getD_some]
    have a1 := abs1 sl22 h (.int .i64 x) rfl
    have a2 := aapp_own sl22 (h := hpush h (.cells [.int .i64 x] 1 true true)) (x := .slice (some ⟨hsz h, 0, none⟩) 1 FULL) (new := [.int .i64 x]) (l := c) (i := j) (n := n) (m := 1) (by rw [hget_push_old hjl]; exact hj) (by omega)
      (src_own (c := [.int .i64 x]) hget_push_new rfl) rfl rfl rfl (by omega) hlt
    refine Run.regionN (fr' := ?fr) (h' := ?hh) ?a ?b
    case a =>
      simp only [glRun, wantedA, opRes, calleeOf, aop, feval, fput, fset, if_true, reduceIte, Nat.reduceEqDiff, h13, h18, abuiltin, List.map, CX_P, a1, a2]
      rfl
    refine Run.nil ⟨rfl, rfl, ?_, ?_, ?_, ?_⟩
    · simp [fset, hsz_push']
    · simp [fset]
    · simp [fset]
    · simp [fset]
  obtain ⟨o, fr', h', he, rfl, rfl, k1, k2, k3, k4⟩ := key
  exact ⟨fr', he, k1, k2, k3, k4⟩

/-- What holds at the head of the loop over the map. -/
def InvM (need : Int) (done : List Value) (fr : Fr) (h : Heap) : Prop :=
  ∃ (ks : List Int) (j : Nat), done = ints ks ∧ hsz h = 152 + 2 * ks.length ∧ fr 71 = .pointer (some ⟨151, 0, none⟩) ∧ fr 12 = .map (some 27) ∧ fr 3 = .int .i64 need ∧
    fr 13 = .slice (some ⟨j, 0, none⟩) (9 + ks.length) FULL ∧ 27 < j ∧ j < hsz h ∧ (0 < ks.length → j + 1 = hsz h) ∧ hget h 27 = some .dead ∧ hget h j = some (.cells (ints (rP ++ ks)) 1 true false) ∧ (∀ i, i < 11 → hget h i = hget (G0 ++ rBlks) i)


theorem map44_ex : ∃ o1 o2 o3 o4 o5 o6 o7 : Oper, map44 = mapCode 17 18 19 4 5 73 o1 o2 o3 o4 o5 o6 o7 body20 ∧
    (o1.op = .move (.tmp 12) ∧ o1.dst = some 70 ∧ o1.guard = none) ∧ (o2.op = .range 203 (.tmp 70) ∧ o2.dst = some 71 ∧ o2.guard = none) ∧
    (o3.op = .next (.tmp 71) false ∧ o3.dst = some 72 ∧ o3.guard = none) ∧ (o4.op = .extract (.tmp 72) 0 ∧ o4.dst = some 73 ∧ o4.guard = none) ∧
    (o5.op = .entry (.tmp 71) ∧ o5.dst = some 74 ∧ o5.guard = none) ∧ (o6.op = .extract (.tmp 74) 0 ∧ o6.dst = some 75 ∧ o6.guard = none) ∧ (o7.op = .assign (.tmp 75) ∧ o7.dst = some 18 ∧ o7.guard = none) :=
  ⟨_, _, _, _, _, _, _, rfl, ⟨rfl, rfl, rfl⟩, ⟨rfl, rfl, rfl⟩, ⟨rfl, rfl, rfl⟩, ⟨rfl, rfl, rfl⟩, ⟨rfl, rfl, rfl⟩, ⟨rfl, rfl, rfl⟩, ⟨rfl, rfl, rfl⟩⟩

theorem ints_inj : ∀ {a b : List Int}, (ints a).Perm (ints b) → a.Perm b := by
  intro a b h
  have := h.map (fun v => match v with | .int _ n => n | _ => 0)
  simpa [ints, Function.comp_def] using this

theorem rL_keys : rL.map (·.1) = ints rKeys := rfl
theorem rS_sorted : rS.Pairwise (· ≤ ·) := by decide
theorem rS_perm : rS.Perm (rP ++ rKeys) := by decide

/-- The values behind the sort. -/
def frM (need : Int) (fr : Fr) (t : Nat) : Value := if t < 109 then (if t = 3 then .int .i64 need else if t = 12 then .map (some 27) else if t = 13 then .slice (some ⟨179, 0, none⟩) 23 FULL else fr t) else undef
def hM : Heap := (G0 ++ rBlks) ++ List.replicate 16 .dead ++ [.map rL] ++ List.replicate 151 .dead ++ [.cells (ints rS) 1 true false]

def postLook (a b e : Int) : Option (Out × KFr × Heap) → Bool
  | some (.ret, fr, h) => eqV (fr.get 8) (.int .i64 a) && eqV (fr.get 9) (.int .i64 b) && eqV (fr.get 10) (.int .i64 e) && eqL eqBl (h.take 11) (G0 ++ rBlks)
  | _ => false

theorem pre4 : preLook 4 (pre44Run 4) = true := by kernel_rfl
theorem post4 (fr : Fr) : postLook 0 0 7 (evk (CX T2) 3000 false 109 [.code rest44] (KFr.build 7 (frM 4 fr)) hM) = true := by kernel_rfl
theorem post3 (fr : Fr) : postLook 100 3 0 (evk (CX T2) 3000 false 109 [.code rest44] (KFr.build 7 (frM 3 fr)) hM) = true := by kernel_rfl


end Go.Proofs.YtamcmocdkcfjkaaGreatDoor
end
