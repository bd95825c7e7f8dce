/-
  pulse.Ranged at the arguments of the document's examples: the loop, the sort, the whole.
-/
import Derived.Test.YtamcmocdkcfjkaaGreatDoorKj
import Derived.Test.YtamcmocdkcfjkaaGreatDoorKi
set_option linter.all false
/- pulse.Ranged at the arguments of the document's examples: the loop, the sort, the whole. -/
section
namespace Go.Proofs.YtamcmocdkcfjkaaGreatDoor
open Gl
set_option maxRecDepth 100000

theorem hM_sz : hsz hM = 180 := by simp [hsz, hM, G0, rBlks]
theorem hM_get (i : Nat) (b : Blk) (h : hget hM i = some b) : b = .dead ∨ (i < 11 ∧ hget (G0 ++ rBlks) i = some b) ∨ (i = 27 ∧ b = .map rL) ∨ (i = 179 ∧ b = .cells (ints rS) 1 true false) := by
  unfold hM at h
  have h11 : hsz (G0 ++ rBlks) = 11 := rfl
  have h9 : hsz G0 = 9 := rfl
  have h22 : rBlks.length = 2 := rfl
  by_cases h1 : i < 11
  · right; left
    refine ⟨h1, ?_⟩
    rw [hget_append_left (by simp [hsz_append, h11, h9, h22]; omega), hget_append_left (by simp [hsz_append, h11, h9, h22]; omega), hget_append_left (by simp [hsz_append, h11, h9, h22]; omega), hget_append_left (by rw [h11]; exact h1)] at h
    exact h
  · by_cases h2 : i < 179
    · rw [hget_append_left (by simp [hsz_append, h11, h9, h22]; omega)] at h
      by_cases h3 : i < 28
      · rw [hget_append_left (by simp [hsz_append, h11, h9, h22]; omega)] at h
        by_cases h4 : i < 27
        · rw [hget_append_left (by simp [hsz_append, h11, h9, h22]; omega), hget_append_right (by rw [h11]; omega), h11, List.getElem?_replicate] at h
          split at h
          · left; simpa using h.symm
          · cases h
        · have : i = 27 := by omega
          subst this
          rw [hget_append_right (by simp [hsz_append, h11, h9, h22])] at h
          simp [hsz_append, h11, h9, h22] at h
          exact .inr (.inr (.inl ⟨rfl, h.symm⟩))
      · rw [hget_append_right (by simp [hsz_append, h11, h9, h22]; omega), List.getElem?_replicate] at h
        split at h
        · left; simpa using h.symm
        · cases h
    · have hlt : i < hsz ((G0 ++ rBlks) ++ List.replicate 16 .dead ++ [.map rL] ++ List.replicate 151 .dead ++ [.cells (ints rS) 1 true false]) := (List.getElem?_eq_some_iff.1 h).1
      have : i = 179 := by simp [hsz_append, h11, h9, h22] at hlt; omega
      subst this
      rw [hget_append_right (by simp [hsz_append, h11, h9, h22])] at h
      simp [hsz_append, h11, h9, h22] at h
      exact .inr (.inr (.inr ⟨rfl, h.symm⟩))

theorem intsOf_ints : ∀ l : List Int, intsOf (ints l) = some l
  | [] => rfl
  | x :: l => by
    have := intsOf_ints l
    simp only [ints] at this
    simp only [ints, List.map_cons, intsOf, this, Option.map_some]

theorem sort_x {h : Heap} {j n : Nat} {l : List Int} (hj : hget h j = some (.cells (ints l) 1 true false)) (hn : l.length = n) (hlt : n < 2 ^ 32) {S : List Int} (hS : S.Pairwise (· ≤ ·)) (hp : S.Perm l) :
    xSort [.slice (some ⟨j, 0, none⟩) n FULL] h = some (.tuple #[], hput h j (.cells (ints S) 1 true false)) := by
  have e : ((ints l).drop 0).take n = ints l := by rw [List.drop_zero, List.take_of_length_le (by simp [ints, hn])]
  simp only [xSort, hj]
  rw [if_neg (by unfold FULL ANY; decide), if_pos ⟨by simp [ints, hn], hlt⟩, e, intsOf_ints]
  simp only [sort_eq hS hp]
  have : splice (ints l) 0 (S.map (.int .i64)) = ints S := by
    have hl := hp.length_eq
    simp [splice, ints, hl]
  rw [this]

/-- The sort, then the rest. -/
theorem sort44_run {T : List (FuncId × Sp)} (h105 : tlook T 105 = some xSort) {fr : Fr} {h : Heap} {j n : Nat} {l S : List Int} (h13 : fr 13 = .slice (some ⟨j, 0, none⟩) n FULL) (hj : hget h j = some (.cells (ints l) 1 true false)) (hn : l.length = n) (hlt : n < 2 ^ 32) (hS : S.Pairwise (· ≤ ·)) (hp : S.Perm l) :
    ev (CX T) false 109 [.code sort44] fr h = some (.normal, fset (fset fr 80 (.slice (some ⟨j, 0, none⟩) n FULL)) 81 (.tuple #[]), hput h j (.cells (ints S) 1 true false)) := by
  have key : Run (CX T) false 109 [.code sort44] fr h fun o fr' h' => o = .normal ∧ fr' = fset (fset fr 80 (.slice (some ⟨j, 0, none⟩) n FULL)) 81 (.tuple #[]) ∧ h' = hput h j (.cells (ints S) 1 true false) := by
    simp only [sort44, c44, Tryz.f44, hdC, tlC, Option.getD_some]
    refine Run.regionN (fr' := ?fr) (h' := ?hh) ?a ?b
    case a =>
      simp only [glRun, wantedA, opRes, calleeOf, aop, feval, fput, fset, if_true, reduceIte, Nat.reduceEqDiff, h13, List.map, CX_P, CX_X, target, Array.toList_empty, List.nil_append, List.append_nil, evF, h105, sort_x hj hn hlt hS hp]
      rfl
    exact Run.nil ⟨rfl, rfl, rfl⟩
  obtain ⟨o, fr', h', he, rfl, rfl, rfl⟩ := key
  exact he


def mapTyB (P : Program) (t : Nat) : Bool := match tinfo P t with | some ti => (match ti.u with | .map _ _ => true | _ => false) | none => false
theorem mapTy_of {P : Program} {t : Nat} (h : mapTyB P t = true) : ∃ x kt et, tinfo P t = some x ∧ x.u = .map kt et := by
  unfold mapTyB at h
  split at h
  · rename_i ti hti
    split at h
    · rename_i a b hu; exact ⟨ti, a, b, hti, hu⟩
    · cases h
  · cases h
theorem okT2X : XOK (CX T2) := OkT.xok okT2
theorem okT1X : XOK (CX T1) := OkT.xok okT1
theorem wrap_b : (0 : Nat) = 0 := rfl

/-- Ranged, where the example's arguments lie. -/
theorem ranged_q (need a b e : Int) (hpre : preLook need (pre44Run need) = true) (hpost : ∀ fr : Fr, postLook a b e (evk (CX T2) 3000 false 109 [.code rest44] (KFr.build 7 (frM need fr)) hM) = true) :
    FnSemQ (CX T2) 44 (rArgs need) (G0 ++ rBlks) fun v h' => v = .tuple #[.int .i64 a, .int .i64 b, .int .i64 e] ∧ ∃ js, h' = (G0 ++ rBlks) ++ js := by
  refine FnSemQ.of_body (B := ⟨109, c44, [.tmp 8, .tmp 9, .tmp 10]⟩) fb44 (by simp [rArgs]) ?_
  unfold pre44Run at hpre
  cases hr : KFr.of 109 (rArgs need) fun fr => chain (CX T1) 3000 109 pre44 fr (G0 ++ rBlks) with
  | none => rw [hr] at hpre; cases hpre
  | some r =>
    obtain ⟨fr1, h1⟩ := r
    rw [hr] at hpre
    have P := preSt_of hpre
    obtain ⟨fr0, e0, hch⟩ := KFr.of_ok hr
    have e0' : fr0.get = initFr (rArgs need) := e0
    show SemQ (CX T2) false 109 [.code c44] (initFr (rArgs need)) (G0 ++ rBlks) _
    rw [← e0', c44_eq]
    refine SemQ.chain (C := CX T1) okT1X (drawA T1) hch ?_
    show SemQ (CX T2) false 109 [.code (.seq map44 (.seq sort44 rest44))] fr1.get h1 _
    refine SemQ.assoc ?_
    obtain ⟨o1, o2, o3, o4, o5, o6, o7, hm, ⟨a1, a2, a3⟩, ⟨b1, b2, b3⟩, ⟨c1, c2, c3⟩, ⟨d1, d2, d3⟩, ⟨e1, e2, e3⟩, ⟨f1, f2, f3⟩, ⟨g1, g2, g3⟩⟩ := map44_ex
    rw [hm]
    have hsz1 := P.sz
    have h27 : 27 < hsz h1 := by omega
    have h150 : 150 < hsz h1 := by omega
    refine SemQ.mapLoop a1 a2 a3 b1 b2 b3 c1 c2 c3 d1 d2 d3 e1 e2 e3 f1 f2 f3 g1 g2 g3 (mapTy_of (by kernel_rfl)) P.f12 P.m (InvM need) ?_ ?_ (by decide) ?_ ?_
    · -- at the beginning
      refine ⟨[], 150, rfl, ?_, ?_, ?_, ?_, ?_, by omega, ?_, fun h => by simp at h, ?_, ?_, fun i hi => ?_⟩
      · rw [hsz_push', hsz_put, hsz1]; rfl
      · simp [fset, hsz1]
      · simp [fset, P.f12]
      · simp [fset, P.f3]
      · simp [fset, P.f13]
      · rw [hsz_push', hsz_put, hsz1]; omega
      · rw [hget_push_old (by rw [hsz_put]; exact h27), hget_put', if_pos ⟨rfl, h27⟩]
      · rw [hget_push_old (by rw [hsz_put]; exact h150), hget_put', if_neg (by omega), P.p, List.append_nil]
      · rw [hget_push_old (by rw [hsz_put]; omega), hget_put', if_neg (by omega), P.old i hi]
    · rintro done fr' h' ⟨ks, j, rfl, q1, q2, q3, q4, q5, q6, q7, q8, q9, q10, q11⟩
      exact ⟨by rw [hsz1]; exact q2, q9⟩
    · -- a round
      rintro done fr' h' k v hkv hlen ⟨ks, j, rfl, q1, q2, q3, q4, q5, q6, q7, q8, q9, q10, q11⟩
      have hk : k ∈ rL.map (·.1) := List.mem_map.2 ⟨_, hkv, rfl⟩
      rw [rL_keys] at hk
      obtain ⟨x, _, rfl⟩ := List.mem_map.1 hk
      have hks : ks.length < 14 := by simpa [ints, rL, rKeys, rVals] using hlen
      obtain ⟨fr2, he, k1, k2, k3, k4⟩ := run20 (T := T2) (fr := fset (fset (fset (fset (fset fr' 72 (.tuple #[.bool true, .int .i64 x, v])) 73 (.bool true)) 74 (.tuple #[.int .i64 x, v])) 75 (.int .i64 x)) 18 (.int .i64 x)) (x := x)
        (by simp [fset]; exact q5) (by simp [fset]) q10 (by simp [ints, rP]; omega) (by omega)
      refine ⟨fr2, _, SemI.of_ev he okT2X (drawA T2), ks ++ [x], hsz h' + 1, by simp [ints], ?_, ?_, ?_, ?_, ?_, by omega, ?_, fun _ => ?_, ?_, ?_, fun i hi => ?_⟩
      · rw [hsz_push', hsz_put, hsz_push', q1]; simp; omega
      · rw [k4]; simp [fset]; exact q2
      · rw [k3]; simp [fset]; exact q3
      · rw [k2]; simp [fset]; exact q4
      · rw [k1]; simp; omega
      · rw [hsz_push', hsz_put, hsz_push']; omega
      · rw [hsz_push', hsz_put, hsz_push']
      · rw [hget_push_old (by rw [hsz_put, hsz_push']; omega), hget_put', if_neg (by omega), hget_push_old (by omega)]; exact q9
      · have e : hsz (hput (hpush h' (.cells [.int .i64 x] 1 true true)) j .dead) = hsz h' + 1 := by rw [hsz_put, hsz_push']
        rw [← e, hget_push_new]; simp [ints]
      · rw [hget_push_old (by rw [hsz_put, hsz_push']; omega), hget_put', if_neg (by omega), hget_push_old (by omega)]; exact q11 i hi
    · -- behind it
      rintro done fr' h' hperm ⟨ks, j, rfl, q1, q2, q3, q4, q5, q6, q7, q8, q9, q10, q11⟩
      rw [rL_keys] at hperm
      have hp := ints_inj hperm
      have hl : ks.length = 14 := by rw [hp.length_eq]; rfl
      rw [hl] at q1 q5
      have hj : j = 179 := by have := q8 (by omega); omega
      subst hj
      have hS : rS.Perm (rP ++ ks) := rS_perm.trans (List.Perm.append_left _ hp.symm)
      have hsort := sort44_run (T := T2) rfl (fr := fset (fset fr' 72 (.tuple #[.bool false])) 73 (.bool false)) (h := hput h' 27 (.map rL)) (j := 179) (n := 23) (l := rP ++ ks) (S := rS) (by simp [fset]; exact q5)
        (by rw [hget_put', if_neg (by omega)]; exact q10) (by simp [rP, hl]) (by omega) rS_sorted hS
      refine SemQ.seqs (SemI.of_ev hsort okT2X (drawA T2)) ?_
      obtain ⟨frx, hfrx⟩ : ∃ frx : Fr, frx = fset (fset (fset (fset fr' 72 (.tuple #[.bool false])) 73 (.bool false)) 80 (.slice (some ⟨179, 0, none⟩) 23 FULL)) 81 (.tuple #[]) := ⟨_, rfl⟩
      rw [← hfrx]
      have hp3 := hpost frx
      cases hev : evk (CX T2) 3000 false 109 [.code rest44] (KFr.build 7 (frM need frx)) hM with
      | none => rw [hev] at hp3; cases hp3
      | some r2 =>
        obtain ⟨o2, fr2, h2⟩ := r2
        rw [hev] at hp3
        unfold postLook at hp3
        split at hp3
        · rename_i o3 f3 h3 heq
          cases heq
          simp only [Bool.and_eq_true] at hp3
          obtain ⟨⟨⟨p1, p2⟩, p3⟩, p4⟩ := hp3
          have s0 := SemI.of_evk okT2X (drawA T2) hev
          have hb : ∀ t, (KFr.build 7 (frM need frx)).get t = frM need frx t := fun t => KFr.build_get 7 _ t fun u hu => by
            have : 109 ≤ u := by simp at hu; omega
            unfold frM; rw [if_neg (by omega)]
          rw [show (KFr.build 7 (frM need frx)).get = frM need frx from funext hb] at s0
          have s1 := SemI.temps (fr := frx) s0 (fun t ht => by
            unfold frM
            rw [if_pos ht]
            split
            · rename_i e; subst e; rw [hfrx]; simp [fset, q4]
            · split
              · rename_i e; subst e; rw [hfrx]; simp [fset, q3]
              · split
                · rename_i e; subst e; rw [hfrx]; simp [fset, q5]
                · rfl) (fun t ht => by unfold frM; rw [if_neg (by omega)])
          refine SemQ.dull (h := hput (hput h' 27 (.map rL)) 179 (.cells (ints rS) 1 true false)) s1 (by rw [hM_sz, hsz_put, hsz_put, q1]) (fun i b hb => ?_) ⟨_, _, rfl, ?_⟩
          · rcases hM_get i b hb with h | ⟨h1, h2⟩ | ⟨h1, h2⟩ | ⟨h1, h2⟩
            · exact .inl h
            · right
              rw [hget_put', if_neg (by omega), hget_put', if_neg (by omega), q11 i h1]
              exact h2
            · right; subst h1 h2
              rw [hget_put', if_neg (by omega), hget_put', if_pos ⟨rfl, by omega⟩]
            · right; subst h1 h2
              rw [hget_put', if_pos ⟨rfl, by rw [hsz_put]; omega⟩]
          · simp only [packed, aresult1, eqV_ok p1, eqV_ok p2, eqV_ok p3]
            refine ⟨trivial, h2.drop 11, ?_⟩
            have := eqL_ok (fun _ _ => eqBl_ok) p4
            rw [← this, List.take_append_drop]
        · cases hp3

theorem ok44_of (need a b e : Int) (hpre : preLook need (pre44Run need) = true) (hpost : ∀ fr : Fr, postLook a b e (evk (CX T2) 3000 false 109 [.code rest44] (KFr.build 7 (frM need fr)) hM) = true) : OkA 44 (entX G0 (rEnt need a b e) (ad2 1 2)) := by
  intro args h v h' hx
  refine entX_of (C := CX []) (f := 44) (E := rEnt need a b e) (by decide) ?_ (by simp [rEnt]) hx
  refine FnSemQ.mono (ranged_q need a b e hpre hpost) ?_
  rintro v h' ⟨rfl, js, rfl⟩
  exact ⟨js, [], rfl, by simp [rEnt, mdB, eqL, mdB1, plain, plainD, eqV2, eqV], rfl, rfl, rfl⟩

theorem ok44 : OkA 44 (orX (entX G0 (rEnt 3 100 3 0) (ad2 1 2)) (entX G0 (rEnt 4 0 0 7) (ad2 1 2))) := Ok.or (ok44_of 3 100 3 0 pre3 post3) (ok44_of 4 0 0 7 pre4 post4)

end Go.Proofs.YtamcmocdkcfjkaaGreatDoor
end

/- awake returns true. -/
section
namespace Go.Proofs.YtamcmocdkcfjkaaGreatDoor
open Gl
set_option maxRecDepth 100000

theorem okE {E : Ent} {f : FuncId} (hk : entOK (CX T1) G0 E 4000 f = true) (ad : List Value → Heap → Option (List Nat)) : OkA f (entX G0 E ad) := Ok.ent (C := CX T1) okT1X (drawA T1) hk ad

def TA : List (FuncId × Sp) :=
  [(17, entX G0 ePairs (ad1 0)), (19, entX G0 eAlone (ad1 0)), (23, entX G0 eAnswers (ad1 1)), (24, orX (entX G0 eGivenD (ad1 1)) (entX G0 eGivenE (ad1 1))), (34, entX G0 eSquitter (ad1 1)), (35, entX G0 eReplies (ad1 1)),
   (36, entX G0 eLoad (ad1 1)), (37, entX G0 eSent (ad1 1)), (42, orX (entX G0 eDistA ad0) (entX G0 eDistB ad0)), (43, entX G0 eAgreed (ad2 1 2)), (44, orX (entX G0 (rEnt 3 100 3 0) (ad2 1 2)) (entX G0 (rEnt 4 0 0 7) (ad2 1 2))),
   (50, orX (entX G0 eTrackA (ad2 2 3)) (entX G0 eTrackB (ad2 2 3))), (53, orX (entX G0 eChanA ad0) (entX G0 eChanB ad0)), (54, entX G0 eTuned ad0), (62, entX G0 eLamps (adM 0 3 1)), (64, entX G0 ePassed (adM 0 3 1)), (73, entX G0 ePrint ad0), (74, entX G0 eParse ad0)]

theorem okTA : OkT (CX []) TA :=
  .cons (okE kePairs _) (.cons (okE keAlone _) (.cons (okE keAnswers _) (.cons (Ok.or (okE keGivenD _) (okE keGivenE _)) (.cons (okE keSquitter _) (.cons (okE keReplies _) (.cons (okE keLoad _) (.cons (okE keSent _) (.cons (Ok.or (okE keDistA _) (okE keDistB _))
  (.cons (okE keAgreed _) (.cons ok44 (.cons (Ok.or (okE keTrackA _) (okE keTrackB _)) (.cons (Ok.or (okE keChanA _) (okE keChanB _)) (.cons (okE keTuned _) (.cons (okE keLamps _) (.cons (okE kePassed _) (.cons (okE kePrint _) (.cons (okE keParse _) .nil)))))))))))))))))

def isTrue : Option (Value × Heap) → Bool
  | some (.bool true, _) => true
  | _ => false

theorem awakeRun : isTrue (evkF (CX TA) 4000 15 [] G0) = true := by kernel_rfl

/-- What the evaluator is told of awake. -/
def xAwake (args : List Value) (h : Heap) : Option (Value × Heap) :=
  match args with
  | [] => if (List.range 9).all fun i => match hget G0 i, hget h i with | some b0, some b => eqBl b0 b | _, _ => false then some (.bool true, h) else none
  | _ => none

theorem ok15 : OkA 15 xAwake := by
  intro args h v h' hx
  unfold xAwake at hx
  split at hx
  case h_2 => cases hx
  split at hx
  case isFalse => cases hx
  rename_i hc
  cases hx
  simp only [List.all_eq_true, List.mem_range] at hc
  have same : ∀ i b, hget G0 i = some b → hget h i = some b := by
    intro i b hb
    have hi : i < 9 := (List.getElem?_eq_some_iff.1 hb).1
    have := hc i hi
    rw [hb] at this
    cases hg : hget h i with
    | none => rw [hg] at this; cases this
    | some b' => rw [hg] at this; rw [eqBl_ok this]
  have hr := awakeRun
  cases he : evkF (CX TA) 4000 15 [] G0 with
  | none => rw [he] at hr; cases hr
  | some r =>
    obtain ⟨v, h0⟩ := r
    rw [he] at hr
    unfold isTrue at hr
    split at hr
    · rename_i heq
      cases heq
      have hS := evF_sound (OkT.xok okTA) (drawA TA) (evkF_ok he)
      exact FnSem.frame hS (by rfl) rfl rfl (by decide) (fun i b hb _ => same i b hb) (fun i hi => .inr (same i _ hi))
    · cases hr

end Go.Proofs.YtamcmocdkcfjkaaGreatDoor
end
