/-
  Functions by what they do, out of runs of their bodies: what is made besides is left off.
-/
import Derived.Test.YtamcmocdkcfjkaaGreatDoorKg
import Derived.Test.YtamcmocdkcfjkaaGreatDoorKf
import Derived.Laws.StructEq
set_option linter.all false
/- Functions by what they do, out of runs of their bodies: what is made besides is left off. -/
section
namespace Gl
open Go

mutual
theorem VR.back {ρ ρ' : Rho} (hs : Sub ρ ρ') : ∀ {c a : Value}, VR ρ c a → ∀ {c' : Value}, VR ρ' c' a → VR ρ c' a
  | _, _, .bool b, _, .bool _ => .bool b
  | _, _, .int k n, _, .int _ _ => .int k n
  | _, _, .float k n, _, .float _ _ => .float k n
  | _, _, .complex k a b, _, .complex _ _ _ => .complex k a b
  | _, _, .string s, _, .string _ => .string s
  | _, _, .nilPtr, _, .nilPtr => .nilPtr
  | _, _, .ptr h, _, .ptr h' => by have := hs _ _ h; rw [h'] at this; cases this; exact .ptr h
  | _, _, .nilSlice n c, _, .nilSlice _ _ => .nilSlice n c
  | _, _, .slice h h1 h2 h3 h4, _, .slice h' k1 k2 k3 k4 => by have := hs _ _ h; rw [h'] at this; cases this; exact .slice h k1 k2 k3 k4
  | _, _, .slice h h1 h2 h3 h4, _, .anySlice => absurd rfl h3
  | _, _, .anySlice, _, .slice h' k1 k2 k3 k4 => absurd rfl k3
  | _, _, .anySlice, _, .anySlice => .anySlice
  | _, _, .nilMap, _, .nilMap => .nilMap
  | _, _, .map h, _, .map h' => by have := hs _ _ h; rw [h'] at this; cases this; exact .map h
  | _, _, .nilChan, _, .nilChan => .nilChan
  | _, _, .nilFunc, _, .nilFunc => .nilFunc
  | _, _, .nilIface, _, .nilIface => .nilIface
  | _, _, .iface t h, _, .iface _ h' => .iface t (VR.back hs h h')
  | _, _, .func fn hp hx hc, _, .func _ _ hx' hc' => .func fn hp (VRs.back hs hx hx') (VRs.back hs hc hc')
  | _, _, .func (.yield _) hp hx hc, _, .yield h => by cases hp
  | _, _, .yield h, _, .func (.yield _) hp hx hc => by cases hp
  | _, _, .yield h, _, .yield h' => by have := hs _ _ h; rw [h'] at this; cases this; exact .yield h
  | _, _, .agg h, _, .agg h' => .agg (VRs.back hs h h')
  | _, _, .tuple h, _, .tuple h' => .tuple (VRs.back hs h h')
theorem VRs.back {ρ ρ' : Rho} (hs : Sub ρ ρ') : ∀ {c a : List Value}, VRs ρ c a → ∀ {c' : List Value}, VRs ρ' c' a → VRs ρ c' a
  | _, _, .nil, _, .nil => .nil
  | _, _, .cons h t, _, .cons h' t' => .cons (VR.back hs h h') (VRs.back hs t t')
end

theorem MapR.back {ρ ρ' : Rho} (hs : Sub ρ ρ') : ∀ {es : List MapEntry} {l : List (Value × Value)}, MapR ρ es l → ∀ {es' : List MapEntry}, MapR ρ' es' l → MapR ρ es' l
  | _, _, .nil, _, .nil => .nil
  | _, _, .cons hk hv t, _, .cons hk' hv' t' => .cons (hk.back hs hk') (hv.back hs hv') (MapR.back hs t t')

theorem BR.back {G : List Nat} {ρ ρ' : Rho} (hs : Sub ρ ρ') {heap heap' : Array Obj} {g : Gh} {b : Blk} (h : BR G ρ heap g b) (h' : BR G ρ' heap' g b) : BR G ρ heap' g b := by
  cases b with
  | cells c esz rw full =>
    obtain ⟨c0, e0, fz0, _, h2⟩ := h
    obtain ⟨c1, e1, fz1, k1, k2⟩ := h'
    refine ⟨c1, e1, fz1, k1, { k2 with get := fun k v hk => ?_ }⟩
    obtain ⟨v0, _, q0⟩ := h2.get k v hk
    obtain ⟨v1, p1, q1⟩ := k2.get k v hk
    exact ⟨v1, p1, q0.back hs q1⟩
  | map es =>
    obtain ⟨a, b, h1, h2, h3⟩ := h
    obtain ⟨a', b', k1, k2, k3⟩ := h'
    exact ⟨a', b', k1, h2.back hs k2, k3⟩
  | siter s pos => exact h'
  | loop st pend nt fr ps asg bd =>
    obtain ⟨a, b, c, h1, h2, h3⟩ := h
    obtain ⟨a', b', c', k1, k2, k3⟩ := h'
    exact ⟨a', b', c', k1, ⟨k2.1, fun t => (h2.2 t).back hs (k2.2 t)⟩, k3⟩
  | anyInt => exact h'
  | table c => exact h'
  | dead => trivial

section
variable {C : Ctx}

/-- A call leaves what there was; of what it makes, ks are kept, of the places p. -/
theorem FnSemQ.keep {f : FuncId} {args : List Value} {h : Heap} {ks : List Blk} {v : Value}
    (hS : FnSemQ C f args h fun v0 h' => ∃ js p, h' = h ++ js ∧ (∀ k b, ks[k]? = some b → ∃ b1, js[p k]? = some b1 ∧ BN (Emb (hsz h) (hsz h) (fun i => i) p ks.length) b1 b) ∧
      (∀ k l, k < ks.length → l < ks.length → p k = p l → k = l) ∧ VN (Emb (hsz h) (hsz h) (fun i => i) p ks.length) v0 v) : FnSem C f args h v (h ++ ks) := by
  refine ⟨hS.1, fun ρ w cargs R hcv => ?_⟩
  refine (hS.2 ρ w cargs R hcv).mono fun en w' he => ?_
  obtain ⟨v0, h0', ⟨js, p, rfl, hp, hpi, hv⟩, ρ1, vc, rfl, hvr, R1, S⟩ := he
  obtain ⟨ρ2, hρ2⟩ : ∃ ρ2 : Rho, ∀ i, ρ2 i = if i < hsz h then ρ i else if i - hsz h < ks.length then ρ1 (hsz h + p (i - hsz h)) else none := ⟨_, fun _ => rfl⟩
  have old : ∀ i g, ρ i = some g → i < hsz h := fun i g hi => by
    obtain ⟨b, hb, _⟩ := R.blk i g hi
    exact (List.getElem?_eq_some_iff.1 hb).1
  have sub2 : Sub ρ ρ2 := fun i g hi => by rw [hρ2, if_pos (old i g hi)]; exact hi
  have small1 : ∀ i g, i < hsz h → ρ1 i = some g → ρ i = some g := by
    intro i g hi h1
    cases hr : ρ i with
    | none => have := (S.new i g h1 hr).1; omega
    | some g' => have := S.sub i g' hr; rw [h1] at this; exact this.symm
  have C2 : Carry (Emb (hsz h) (hsz h) (fun i => i) p ks.length) ρ1 ρ2 := by
    rintro i j g (⟨h1, rfl⟩ | ⟨k, h1, rfl, rfl⟩) h2
    · exact sub2 _ _ (small1 _ g h1 h2)
    · rw [hρ2, if_neg (by omega), if_pos (by omega), show hsz h + k - hsz h = k by omega]; exact h2
  have new2 : ∀ i g, ¬ i < hsz h → ρ2 i = some g → ∃ k, k < ks.length ∧ i = hsz h + k ∧ ρ1 (hsz h + p k) = some g := by
    intro i g hi h1
    rw [hρ2, if_neg hi] at h1
    split at h1
    · exact ⟨i - hsz h, by assumption, by omega, h1⟩
    · cases h1
  have kept : ∀ k, k < ks.length → ∃ b b1, ks[k]? = some b ∧ hget (h ++ js) (hsz h + p k) = some b1 ∧ BN (Emb (hsz h) (hsz h) (fun i => i) p ks.length) b1 b ∧ p k < js.length := by
    intro k hk
    obtain ⟨b1, h1, h2⟩ := hp k ks[k] (List.getElem?_eq_getElem hk)
    refine ⟨ks[k], b1, List.getElem?_eq_getElem hk, ?_, h2, (List.getElem?_eq_some_iff.1 h1).1⟩
    rw [hget_append_right (by omega), show hsz h + p k - hsz h = p k by omega]; exact h1
  have getOld : ∀ i, i < hsz h → hget (h ++ ks) i = hget h i := fun i hi => hget_append_left hi
  have getNew : ∀ k, hget (h ++ ks) (hsz h + k) = ks[k]? := fun k => by rw [hget_append_right (by omega), show hsz h + k - hsz h = k by omega]
  have far : ∀ k g b1, k < ks.length → ρ1 (hsz h + p k) = some g → hget (h ++ js) (hsz h + p k) = some b1 → isDead b1 = false → w.heap.size ≤ g.blk := by
    intro k g b1 hk h1 h2 h3
    have hn : ρ (hsz h + p k) = none := by
      cases hr : ρ (hsz h + p k) with
      | none => rfl
      | some g' => have := old _ _ hr; omega
    rcases (S.new _ g h1 hn).2 with h' | ⟨j0, gj, b0, h4, h5, h6, h7⟩
    · exact h'
    · have l0 := old j0 gj h4
      have := R1.inj j0 _ gj g b0 b1 (S.sub _ _ h4) h1 (by rw [hget_append_left l0]; exact h5) h2 h6 h3 h7
      omega
  have R2 : Rep C.G ρ2 w'.heap (h ++ ks) := by
    refine ⟨fun i g hi => ?_, fun i j g g' b b' h1 h2 h3 h4 ho hd hgg => ?_, fun i hi => ?_, fun i g hi => ?_⟩
    · by_cases hl : i < hsz h
      · rw [hρ2, if_pos hl] at hi
        obtain ⟨b, hb, hR⟩ := R.blk i g hi
        refine ⟨b, by rw [getOld i hl]; exact hb, ?_⟩
        obtain ⟨b1, hb1, hR1⟩ := R1.blk i g (S.sub _ _ hi)
        rw [hget_append_left hl, hb] at hb1; cases hb1
        exact (BR.back S.sub hR hR1).mono sub2 rfl
      · obtain ⟨k, hk, rfl, h1⟩ := new2 i g hl hi
        obtain ⟨b, b1, h2, h3, h4, _⟩ := kept k hk
        obtain ⟨b1', h5, h6⟩ := R1.blk _ g h1
        rw [h3] at h5; cases h5
        exact ⟨b, by rw [getNew]; exact h2, BR.turn C2 h4 h6⟩
    · have liveO : ∀ {x : Blk}, owned x = true → isDead x = false := fun {x} h => by cases x <;> first | rfl | cases h
      by_cases li : i < hsz h <;> by_cases lj : j < hsz h
      · rw [hρ2, if_pos li] at h1
        rw [hρ2, if_pos lj] at h2
        rw [getOld i li] at h3
        rw [getOld j lj] at h4
        exact R.inj i j g g' b b' h1 h2 h3 h4 ho hd hgg
      · rw [hρ2, if_pos li] at h1
        obtain ⟨l, hl, rfl, h2'⟩ := new2 j g' lj h2
        obtain ⟨x, x1, k2, k3, k4, _⟩ := kept l hl
        rw [getNew, k2] at h4; cases h4
        have a := far l g' x1 hl h2' k3 (k4.live hd)
        have b := R.lt i g h1
        omega
      · rw [hρ2, if_pos lj] at h2
        obtain ⟨l, hl, rfl, h1'⟩ := new2 i g li h1
        obtain ⟨x, x1, k2, k3, k4, _⟩ := kept l hl
        rw [getNew, k2] at h3; cases h3
        have a := far l g x1 hl h1' k3 (k4.live (liveO ho))
        have b := R.lt j g' h2
        omega
      · obtain ⟨k, hk, rfl, h1'⟩ := new2 i g li h1
        obtain ⟨l, hl, rfl, h2'⟩ := new2 j g' lj h2
        obtain ⟨x, x1, k2, k3, k4, _⟩ := kept k hk
        obtain ⟨y, y1, l2, l3, l4, _⟩ := kept l hl
        rw [getNew, k2] at h3; cases h3
        rw [getNew, l2] at h4; cases h4
        have := R1.inj _ _ g g' x1 y1 h1' h2' k3 l3 (k4.owned ho) (l4.live hd) hgg
        rw [hpi k l hk hl (by omega)]
    · obtain ⟨g, h1, h2⟩ := R.glob i hi
      exact ⟨g, sub2 _ _ h1, h2⟩
    · by_cases hl : i < hsz h
      · rw [hρ2, if_pos hl] at hi
        exact Nat.lt_of_lt_of_le (R.lt i g hi) S.size
      · obtain ⟨k, hk, rfl, h1⟩ := new2 i g hl hi
        exact R1.lt _ g h1
  refine ⟨ρ2, vc, rfl, VR.turn C2 hv hvr, R2, ?_⟩
  refine ⟨sub2, fun i g h1 h2 => ?_, S.size, fun r hr hk => S.keep r hr hk, fun i b' hi hb ho => ?_, fun i b' hi hb ho => ?_, by rw [hsz_append]; omega, fun i h1 h2 => ?_, S.os, S.tape, S.output⟩
  · have hl : ¬ i < hsz h := fun hl => by rw [hρ2, if_pos hl, h2] at h1; cases h1
    refine ⟨by omega, ?_⟩
    obtain ⟨k, hk, rfl, h1'⟩ := new2 i g hl h1
    have hn : ρ (hsz h + p k) = none := by
      cases hr : ρ (hsz h + p k) with
      | none => rfl
      | some g' => have := old _ _ hr; omega
    exact (S.new _ g h1' hn).2
  · rw [getOld i hi] at hb; exact ⟨b', hb, ho⟩
  · rw [getOld i hi] at hb; exact ⟨b', hb, ho⟩
  · rw [hsz_append] at h2
    obtain ⟨b, b1, _, _, _, h3⟩ := kept (i - hsz h) (by omega)
    obtain ⟨g, hg⟩ := S.tot (hsz h + p (i - hsz h)) (by omega) (by rw [hsz_append]; omega)
    exact ⟨g, by rw [hρ2, if_neg (by omega), if_pos (by omega)]; exact hg⟩

/-- A call that only tells a plain value. -/
theorem FnSemQ.pure {f : FuncId} {args : List Value} {h : Heap} {v : Value} (hS : FnSemQ C f args h fun v0 h' => v0 = v ∧ ∃ js, h' = h ++ js) (hv : plain v = true) : FnSem C f args h v h := by
  have := FnSemQ.keep (ks := []) (v := v) (hS.mono fun v0 h' ⟨e1, js, e2⟩ => ⟨js, fun _ => 0, e2, fun k b hk => by simp at hk, fun k l hk => by simp at hk, by subst e1; exact .plain hv⟩)
  rwa [List.append_nil] at this

/-- A call that makes one row of plain cells. -/
theorem FnSemQ.one {f : FuncId} {args : List Value} {h : Heap} {v : Value} {b : Blk} (hb : plainK b = true)
    (hS : FnSemQ C f args h fun v0 h' => ∃ js p, h' = h ++ js ∧ js[p]? = some b ∧ VN (Emb (hsz h) (hsz h) (fun i => i) (fun _ => p) 1) v0 v) : FnSem C f args h v (hpush h b) := by
  refine FnSemQ.keep (ks := [b]) (v := v) (hS.mono fun v0 h' ⟨js, p, e2, e3, e4⟩ => ⟨js, fun _ => p, e2, fun k b' hk => ?_, fun k l hk hl _ => ?_, e4⟩)
  · have hk0 : k = 0 := by
      have := (List.getElem?_eq_some_iff.1 hk).1
      simpa using this
    subst hk0
    simp at hk
    subst hk
    refine ⟨b, e3, ?_⟩
    cases b with
    | cells c e r f => exact .cells _ _ _ (VNs.plain hb)
    | _ => cases hb
  · simp at hk hl; omega

/-- What is asked of a function's end. -/
def Ret (P : Program) (rs : List ResultVar) (RR : Value → Heap → Prop) (o : Out) (fr : Fr) (h : Heap) : Prop :=
  (match o with | .exit _ => False | _ => True) ∧ ∃ vs, aresults P fr h rs = some vs ∧ RR (packed vs) h

theorem FnSemQ.ofRun (hX : XOK C) (hD : DrawOK C) {f : FuncId} {args : List Value} {h : Heap} {B : FnB} {RR : Value → Heap → Prop} (hB : fnB C.G C.P f = some B) (hle : args.length ≤ B.nt)
    (hr : Run C false B.nt [.code B.code] (initFr args) h (Ret C.P B.results RR)) : FnSemQ C f args h RR := by
  obtain ⟨o, fr', h', he, hq⟩ := hr
  refine FnSemQ.of_body hB hle (SemQ.ofI (SemI.of_ev he hX hD) ?_)
  obtain ⟨h1, vs, h2, h3⟩ := hq
  refine ⟨packed vs, h', ?_, h3⟩
  unfold finF
  cases o with
  | normal => simp only [h2]; rfl
  | ret => simp only [h2]; rfl
  | exit id => exact h1.elim

end
end Gl
end

/- Slices of whole numbers, read. -/
section
namespace Gl
open Go

/-- The numbers of a slice. -/
def rdI (h : Heap) (v : Value) : Option (List Int) :=
  match v with
  | .slice none n _ => if n = 0 then some [] else none
  | .slice (some ⟨i, off, none⟩) n c => if n = 0 then some [] else if c = ANY then none else (readCells h i off n).bind intsOf
  | _ => none

theorem readCells_app {h js : Heap} {i off n : Nat} {l : List Value} (hr : readCells h i off n = some l) : readCells (h ++ js) i off n = some l := by
  unfold readCells at hr ⊢
  have : hget (h ++ js) i = hget h i := by
    cases hg : hget h i with
    | none => rw [hg] at hr; cases hr
    | some b => rw [hget_append_left (List.getElem?_eq_some_iff.1 hg).1, hg]
  rw [this]; exact hr

theorem rdI_app {h js : Heap} {v : Value} {l : List Int} (hr : rdI h v = some l) : rdI (h ++ js) v = some l := by
  unfold rdI at hr ⊢
  split at hr
  · exact hr
  · split at hr
    · rename_i hn; simp only [hn, if_true]; exact hr
    · rename_i hn
      simp only [hn, if_false]
      split at hr
      · cases hr
      · rename_i hc
        simp only [hc, if_false]
        cases hrc : readCells h _ _ _ with
        | none => rw [hrc] at hr; cases hr
        | some x => rw [hrc] at hr; rw [readCells_app hrc]; exact hr
  · cases hr

/-- a slice of numbers: what can be said of it -/
theorem rdI_inv {h : Heap} {v : Value} {l : List Int} (hr : rdI h v = some l) :
    (l = [] ∧ ∃ a c, v = .slice a 0 c ∧ ∀ x, a = some x → x.spot = none) ∨ (∃ i off c cs es rw_ full, v = .slice (some ⟨i, off, none⟩) l.length c ∧ c ≠ ANY ∧ hget h i = some (.cells cs es rw_ full) ∧ off + l.length ≤ cs.length ∧ (cs.drop off).take l.length = l.map (.int .i64)) := by
  unfold rdI at hr
  split at hr
  · split at hr
    · rename_i hn; subst hn; cases hr; exact .inl ⟨rfl, _, _, rfl, fun x hx => by cases hx⟩
    · cases hr
  · split at hr
    · rename_i hn; subst hn; cases hr; exact .inl ⟨rfl, _, _, rfl, fun x hx => by cases hx; rfl⟩
    · split at hr
      · cases hr
      · rename_i i off n c hn hc
        cases hrc : readCells h i off n with
        | none => rw [hrc] at hr; cases hr
        | some x =>
          rw [hrc] at hr
          have hx := intsOf_some (by simpa using hr)
          subst hx
          unfold readCells at hrc
          split at hrc
          · rename_i cs es rw_ full hg
            split at hrc
            · rename_i hle
              simp only [Option.some.injEq] at hrc
              have hl : l.length = n := by
                have := congrArg List.length hrc
                simp at this
                omega
              subst hl
              exact .inr ⟨i, off, c, cs, es, rw_, full, rfl, hc, hg, hle, hrc⟩
            · cases hrc
          · cases hrc
  · cases hr

theorem rdI_len {P : Program} {t e sz : Nat} (T : SlTy P t e sz) {h h' : Heap} {v : Value} {l : List Int} (hr : rdI h v = some l) : alen P h' t v = some (.int .i64 l.length) := by
  rcases rdI_inv hr with ⟨rfl, a, c, rfl, ha0⟩ | ⟨i, off, c, cs, es, rw_, full, rfl, _⟩
  · rw [alen_sl T]; rfl
  · rw [alen_sl T]

theorem rdI_src {h : Heap} {v : Value} {l : List Int} (hr : rdI h v = some l) : srcCells h 1 v = some (l.map (.int .i64)) ∧ srcLen v = some l.length := by
  rcases rdI_inv hr with ⟨rfl, a, c, rfl, ha0⟩ | ⟨i, off, c, cs, es, rw_, full, rfl, h1, h2, h3, h4⟩
  · cases a with
    | none => exact ⟨rfl, rfl⟩
    | some a =>
      refine ⟨?_, rfl⟩
      unfold srcCells
      obtain ⟨b, o, s⟩ := a
      cases s with
      | none => rfl
      | some s => exact absurd (ha0 _ rfl) (by simp)
  · refine ⟨?_, rfl⟩
    simp only [srcCells, Nat.mul_one]
    by_cases hn : l.length = 0
    · rw [if_pos hn]
      have := List.eq_nil_of_length_eq_zero hn
      subst this
      rfl
    · rw [if_neg hn, if_neg h1, readCells_of h2 h3, h4]

/-- The address of an element. -/
def ptAt (sz : Nat) (v : Value) (k : Int) : Value :=
  match v with
  | .slice (some ⟨i, off, none⟩) _ _ => .pointer (some ⟨i, off + k.toNat * sz, none⟩)
  | _ => undef

theorem rdI_at {P : Program} {t e T3 : Nat} {ti : TI} (T : SlTy P t e 1) (h3 : tinfo P T3 = some ti) (ha : ti.isAgg = false) {h : Heap} {v : Value} {l : List Int} (hr : rdI h v = some l) (kk : IntKind) (k : Int) (h0 : 0 ≤ k) (h1 : k < l.length) :
    aindexAddr P t v (.int kk k) = some (ptAt 1 v k) ∧ aload P h T3 (ptAt 1 v k) = some (.int .i64 (l.getD k.toNat 0)) := by
  rcases rdI_inv hr with ⟨rfl, a, c, rfl, ha0⟩ | ⟨i, off, c, cs, es, rw_, full, rfl, k1, k2, k3, k4⟩
  · simp at h1; omega
  · refine ⟨aidx_sl T kk i off _ c k h0 h1 k1, ?_⟩
    have hk : k.toNat < l.length := by omega
    refine aload_cell h3 ha k2 ?_
    have := congrArg (·[k.toNat]?) k4
    simp only [List.getElem?_map, List.getElem?_eq_getElem hk, Option.map_some] at this
    rw [List.getElem?_take_of_lt hk, List.getElem?_drop] at this
    rw [Nat.mul_one, this]
    simp [hk]

end Gl
end

/- The rules by which a region's operations are worked out, as one. -/
section
namespace Gl
open Go

def gVal (o : Option Value) (h : Heap) : Option (Value × Heap) := o.map fun v => (v, h)
def gMem (o : Option Heap) : Option (Value × Heap) := o.map fun h' => (undef, h')
noncomputable def gThen (C : Ctx) (ops : Array Oper) (l : List Oper) (d : Option Nat) (fr : Fr) (r : Option (Value × Heap)) : Option (Fr × Heap) :=
  match r with
  | some (v, h') => glRun C ops l (fput fr d v) h'
  | none => none
def gWant (d : Option Oper) (w : Bool) (fr : Fr) : Bool := match d.bind (·.dst) with
  | some t => match fr t with | .bool b => b == w | _ => false
  | none => false
def gPick (c a b : Value) (h : Heap) : Option (Value × Heap) := match c with | .bool t => some (if t then a else b, h) | _ => none
def gNot (v : Value) (h : Heap) : Option (Value × Heap) := match v with | .bool t => some (.bool (!t), h) | _ => (if plain v then (some v).map fun v => (v, h) else none)
def gExt (x : Value) (i : Nat) (h : Heap) : Option (Value × Heap) := match x with | .tuple vs => (vs[i]?).map fun v => (v, h) | _ => none
def gBox (v : Value) (h : Heap) : Option (Value × Heap) := if (cellsV v).all isCell then some (anew h (cellsV v)) else none
noncomputable def gEvF (C : Ctx) (f : FuncId) (X : Option Sp) (args : List Value) (h : Heap) : Option (Value × Heap) := match X with | some g => g args h | none => evF C f args h
noncomputable def gCall (C : Ctx) (v : Value) (args : List Value) (h : Heap) : Option (Value × Heap) := match target v args with | some (.fn f args) => evF C f args h | _ => none

theorem evF_gEvF (C : Ctx) (f : FuncId) (args : List Value) (h : Heap) : evF C f args h = gEvF C f (C.X f) args h := by
  unfold gEvF
  cases hx : C.X f with
  | none => rfl
  | some g => simp only [evF, hx]

section
variable (C : Ctx) (ops : Array Oper) (l : List Oper) (d : Option Nat) (ty : TypeId) (p : String) (a : Array Edge) (g : Option (Nat × Bool)) (fr : Fr) (h : Heap)

theorem GR : (∀ (C : Ctx) (ops : Array Oper) fr h, glRun C ops [] fr h = some (fr, h)) ∧
    (∀ (C : Ctx) (ops : Array Oper) d op ty p a l fr h, glRun C ops (⟨d, op, ty, p, a, none⟩ :: l) fr h = gThen C ops l d fr (opRes C ⟨d, op, ty, p, a, none⟩ fr h)) ∧
    (∀ (C : Ctx) (ops : Array Oper) d op ty p a j w l fr h, glRun C ops (⟨d, op, ty, p, a, some (j, w)⟩ :: l) fr h = if gWant ops[j]? w fr then gThen C ops l d fr (opRes C ⟨d, op, ty, p, a, some (j, w)⟩ fr h) else glRun C ops l (fput fr d undef) h) ∧
    (∀ (C : Ctx) (ops : Array Oper) l d fr v h, gThen C ops l d fr (some (v, h)) = glRun C ops l (fput fr d v) h) ∧
    (∀ (o : Oper) t w fr, o.dst = some t → gWant (some o) w fr = match fr t with | .bool b => b == w | _ => false) ∧
    (∀ fr t v, fput fr (some t) v = fset fr t v) ∧ (∀ fr v, fput fr none v = fr) ∧
    (∀ fr t v j, fset fr t v j = if j = t then v else fr j) ∧
    (∀ fr t, feval fr (.tmp t) = fr t) ∧ (∀ fr v, feval fr (.const v) = v) ∧ (∀ fr g, feval fr (.global g) = .pointer (some ⟨g, 0, none⟩)) ∧ (∀ fr f, feval fr (.func f) = .func (.func f) #[] #[]) ∧
    (∀ v l, initFr (v :: l) 0 = v) ∧ (∀ v l n, initFr (v :: l) (n + 1) = initFr l n) ∧ (∀ n, initFr [] n = undef) := by
  refine ⟨fun _ _ _ _ => rfl, fun _ _ _ _ _ _ _ _ _ _ => rfl, fun _ _ _ _ _ _ _ _ _ _ _ _ => rfl, fun _ _ _ _ _ _ _ => rfl, fun o t w fr ho => ?_, fun _ _ _ => rfl, fun _ _ => rfl, fun _ _ _ _ => rfl, fun _ _ => rfl, fun _ _ => rfl, fun _ _ => rfl, fun _ _ => rfl, fun _ _ => rfl, fun _ _ _ => rfl, fun _ => rfl⟩
  simp only [gWant, Option.bind_some, ho]

theorem GO : (∀ (C : Ctx) d x ty p a g fr h, opRes C ⟨d, .move x, ty, p, a, g⟩ fr h = some (feval fr x, h)) ∧ (∀ (C : Ctx) d x ty p a g fr h, opRes C ⟨d, .assign x, ty, p, a, g⟩ fr h = some (feval fr x, h)) ∧
    (∀ (C : Ctx) d c x y ty p a g fr h, opRes C ⟨d, .pick c x y, ty, p, a, g⟩ fr h = gPick (feval fr c) (feval fr x) (feval fr y) h) ∧ (∀ t a b h, gPick (.bool t) a b h = some (if t then a else b, h)) ∧
    (∀ (C : Ctx) d t x ty p a g fr h, opRes C ⟨d, .box t x, ty, p, a, g⟩ fr h = gBox (feval fr x) h) ∧
    (∀ (C : Ctx) d t n ps ty p a g fr h, opRes C ⟨d, .buildSlice t n ps, ty, p, a, g⟩ fr h = abuildSlice C.P h t n (ps.toList.map fun x => (x.1, feval fr x.2))) ∧
    (∀ (C : Ctx) d t ps ty p a g fr h, opRes C ⟨d, .build t ps, ty, p, a, g⟩ fr h = gVal (abuild C.P t (ps.toList.map fun x => (x.1, feval fr x.2))) h) ∧
    (∀ (C : Ctx) d t x ty p a g fr h, opRes C ⟨d, .load t x, ty, p, a, g⟩ fr h = gVal (aload C.P h t (feval fr x)) h) ∧
    (∀ (C : Ctx) d t x v ty p a g fr h, opRes C ⟨d, .store t x v, ty, p, a, g⟩ fr h = gMem (astore C.P h t (feval fr x) (feval fr v))) ∧
    (∀ (C : Ctx) d o t x y t2 ty p a g fr h, opRes C ⟨d, .binOp o t x y t2, ty, p, a, g⟩ fr h = gVal (abinOp C.P o t (feval fr x) (feval fr y)) h) ∧
    (∀ (C : Ctx) d t b ty p a g fr h, opRes C ⟨d, .unOp .not t b, ty, p, a, g⟩ fr h = if plain (feval fr b) then gVal (pureV C.P (Op.unary .not (feval fr b))) h else none) ∧
    (∀ (C : Ctx) d t x f ty p a g fr h, opRes C ⟨d, .fieldAddr t x f, ty, p, a, g⟩ fr h = gVal (afieldAddr C.P t (feval fr x) f) h) ∧
    (∀ (C : Ctx) d t x f ty p a g fr h, opRes C ⟨d, .field t x f, ty, p, a, g⟩ fr h = gVal (afield C.P t (feval fr x) f) h) ∧
    (∀ (C : Ctx) d t x i ty p a g fr h, opRes C ⟨d, .indexAddr t x i, ty, p, a, g⟩ fr h = gVal (aindexAddr C.P t (feval fr x) (feval fr i)) h) ∧
    (∀ (C : Ctx) d t x i ty p a g fr h, opRes C ⟨d, .index t x i, ty, p, a, g⟩ fr h = gVal (aindex C.P t (feval fr x) (feval fr i)) h) ∧
    (∀ (C : Ctx) d x i ty p a g fr h, opRes C ⟨d, .extract x i, ty, p, a, g⟩ fr h = gExt (feval fr x) i h) ∧
    (∀ (C : Ctx) d t l c ty p a g fr h, opRes C ⟨d, .makeSlice t l c, ty, p, a, g⟩ fr h = amakeSlice C.P h t (feval fr l) (feval fr c)) ∧
    (∀ (C : Ctx) d s t x ty p a g fr h, opRes C ⟨d, .convert s t x, ty, p, a, g⟩ fr h = aconvert C.P h s t (feval fr x)) ∧
    (∀ (C : Ctx) d f args ts ty p a g fr h, opRes C ⟨d, .call ⟨.value (.func f), args, ts⟩, ty, p, a, g⟩ fr h = gEvF C f (C.X f) (args.toList.map (feval fr)) h) ∧
    (∀ (C : Ctx) d t args ts ty p a g fr h, opRes C ⟨d, .call ⟨.value (.tmp t), args, ts⟩, ty, p, a, g⟩ fr h = gCall C (fr t) (args.toList.map (feval fr)) h) ∧
    (∀ (C : Ctx) d b args ts ty p a g fr h, opRes C ⟨d, .call ⟨.builtin b, args, ts⟩, ty, p, a, g⟩ fr h = abuiltin C.P h b ts ty (args.toList.map (feval fr))) ∧
    (∀ (C : Ctx) f (X : Sp) args h, gEvF C f (some X) args h = X args h) ∧
    (∀ v h, gVal (some v) h = some (v, h)) ∧ (∀ h, gMem (some h) = some (undef, h)) ∧
    (∀ (f : Operand → Value) (x : Operand) (l : List Operand), List.map f (x :: l) = f x :: List.map f l) ∧ (∀ (f : Operand → Value), List.map f [] = []) ∧
    (∀ (f : Nat × Operand → Nat × Value) (x : Nat × Operand) (l : List (Nat × Operand)), List.map f (x :: l) = f x :: List.map f l) ∧ (∀ (f : Nat × Operand → Nat × Value), List.map f [] = []) := by
  refine ⟨fun _ _ _ _ _ _ _ _ _ => rfl, fun _ _ _ _ _ _ _ _ _ => rfl, fun _ _ _ _ _ _ _ _ _ _ _ => rfl, fun _ _ _ _ => rfl, fun _ _ _ _ _ _ _ _ _ _ => rfl, fun _ _ _ _ _ _ _ _ _ _ _ => rfl, fun _ _ _ _ _ _ _ _ _ _ => rfl, fun _ _ _ _ _ _ _ _ _ _ => rfl, fun _ _ _ _ _ _ _ _ _ _ _ => rfl,
    fun _ _ _ _ _ _ _ _ _ _ _ _ _ => rfl, fun _ _ _ _ _ _ _ _ _ _ => rfl, fun _ _ _ _ _ _ _ _ _ _ _ => rfl, fun _ _ _ _ _ _ _ _ _ _ _ => rfl, fun _ _ _ _ _ _ _ _ _ _ _ => rfl, fun _ _ _ _ _ _ _ _ _ _ _ => rfl, fun _ _ _ _ _ _ _ _ _ _ => rfl, fun _ _ _ _ _ _ _ _ _ _ _ => rfl, fun _ _ _ _ _ _ _ _ _ _ _ => rfl,
    fun C d f args ts ty p a g fr h => ?_, fun _ _ _ _ _ _ _ _ _ _ _ => rfl, fun _ _ _ _ _ _ _ _ _ _ _ => rfl, fun _ _ _ _ _ => rfl, fun _ _ => rfl, fun _ => rfl, fun _ _ _ => rfl, fun _ => rfl, fun _ _ _ => rfl, fun _ => rfl⟩
  rw [← evF_gEvF]
  simp only [opRes, calleeOf, feval, target, Array.toList_empty, List.append_nil, List.nil_append]

theorem GB1 : (∀ (P : Program) h t ty x, abuiltin P h .len #[t] ty [x] = gVal (alen P h t x) h) ∧ (∀ (P : Program) h t u ty s x, abuiltin P h .append #[t, u] ty [s, x] = aappend P h [t, u] s x) ∧
    (∀ (P : Program) h t u ty s x, abuiltin P h .copy #[t, u] ty [s, x] = acopy P h [t, u] s x) ∧
    (∀ (v : Value) (l : List Value) h, gExt (.tuple ⟨v :: l⟩) 0 h = some (v, h)) ∧ (∀ (u v : Value) (l : List Value) h, gExt (.tuple ⟨u :: v :: l⟩) 1 h = some (v, h)) ∧ (∀ (u u' v : Value) (l : List Value) h, gExt (.tuple ⟨u :: u' :: v :: l⟩) 2 h = some (v, h)) :=
  ⟨fun _ _ _ _ _ => rfl, fun _ _ _ _ _ _ _ => rfl, fun _ _ _ _ _ _ _ => rfl, fun _ _ _ => rfl, fun _ _ _ _ => rfl, fun _ _ _ _ _ => rfl⟩

theorem GN : (∀ (P : Program) t k x y, abinOp P .lss t (.int k x) (.int k y) = some (.bool (decide (x < y)))) ∧ (∀ (P : Program) t k x y, abinOp P .leq t (.int k x) (.int k y) = some (.bool (decide (x ≤ y)))) ∧
    (∀ (P : Program) t k x y, abinOp P .gtr t (.int k x) (.int k y) = some (.bool (decide (x > y)))) ∧ (∀ (P : Program) t k x y, abinOp P .geq t (.int k x) (.int k y) = some (.bool (decide (x ≥ y)))) ∧
    (∀ (P : Program) t k x y, abinOp P .eql t (.int k x) (.int k y) = some (.bool (x == y))) ∧ (∀ (P : Program) t k x y, abinOp P .neq t (.int k x) (.int k y) = some (.bool (x != y))) ∧
    (∀ (P : Program) t k x y, abinOp P .add t (.int k x) (.int k y) = some (.int k (k.wrap (x + y)))) ∧ (∀ (P : Program) t k x y, abinOp P .sub t (.int k x) (.int k y) = some (.int k (k.wrap (x - y)))) ∧
    (∀ (P : Program) t k x y, abinOp P .mul t (.int k x) (.int k y) = some (.int k (k.wrap (x * y)))) ∧
    (∀ (P : Program) t x y, abinOp P .eql t (.string x) (.string y) = some (.bool (x.toList == y.toList))) ∧ (∀ (P : Program) t x y, abinOp P .neq t (.string x) (.string y) = some (.bool (!(x.toList == y.toList)))) ∧
    (∀ b, plain (.bool b) = true) ∧ (∀ (P : Program) b, pureV P (Op.unary .not (.bool b)) = some (.bool (!b))) :=
  ⟨bin_lss, bin_leq, bin_gtr, bin_geq, bin_eql, bin_neq, bin_add, bin_sub, bin_mul, bin_eqlS, bin_neqS, plain_bool, un_not⟩
end
end Gl
end

/- '==' of structs and arrays of plain cells. -/
section
namespace Gl
open Go

section
variable {P : Program}

theorem pr_bind {α β : Type} : ∀ (s : Sem α) (k : α → Sem β), pureRun P (s >>= k) = (pureRun P s).bind fun a => pureRun P (k a) := by
  intro s k
  induction s with
  | pure a => rfl
  | program f ih => exact ih P
  | mark m f ih => exact ih
  | _ => rfl
theorem pr_pure {α : Type} (a : α) : pureRun P (pure a : Sem α) = some a := rfl
theorem pr_underlying {t : TypeId} {u : TypeDesc} (h : P.underlying t = some u) : pureRun P (underlying t) = some u := by
  unfold underlying
  rw [pr_bind]
  show (some P).bind _ = _
  simp only [Option.bind_some, h]
  rfl

/-- A type of one cell that '==' holds cell by cell. -/
def flatU : TypeDesc → Bool
  | .int _ => true
  | .string => true
  | .bool => true
  | _ => false

/-- equal cells -/
def eqC : Value → Value → Option Bool
  | .int k a, .int k' b => if k = k' then some (a == b) else none
  | .string a, .string b => some (a.toList == b.toList)
  | .bool a, .bool b => some (a == b)
  | _, _ => none

def fitsC : TypeDesc → Value → Bool
  | .int _, .int _ _ => true
  | .string, .string _ => true
  | .bool, .bool _ => true
  | _, _ => false

theorem pr_equal {d : Nat} {t : TypeId} {u : TypeDesc} (hu : P.underlying t = some u) {a b : Value} (ha : fitsC u a = true) (hb : fitsC u b = true) : pureRun P (Op.equalIn (d + 1) t a b) = eqC a b := by
  unfold Op.equalIn
  rw [pr_bind, pr_underlying hu]
  simp only [Option.bind_some]
  cases u <;> cases a <;> simp [fitsC] at ha <;> cases b <;> simp [fitsC] at hb
  · rfl
  · simp only [eqC]; split <;> rfl
  · simp only [eqC, beq_toListBytes]; rfl

theorem pr_part {t : TypeId} {u : TypeDesc} (hu : P.underlying t = some u) (hf : flatU u = true) {cs : Array Value} {off : Nat} {v : Value} (hv : cs[off]? = some v) : pureRun P (part t cs off) = some v := by
  have : pureRun P (isAgg t) = some false := by
    unfold isAgg
    rw [pr_bind, pr_underlying hu]
    cases u <;> simp [flatU] at hf <;> rfl
  unfold part
  rw [pr_bind, this]
  simp only [Option.bind_some, Bool.false_eq_true, if_false, hv]
  rfl

/-- lists of cells, cell by cell -/
def eqCs : List Value → List Value → Option Bool
  | [], [] => some true
  | a :: l, b :: m => match eqC a b with
    | some true => eqCs l m
    | some false => some false
    | none => none
  | _, _ => none

/-- the fields lie one behind the other, a cell each -/
def flatFs (P : Program) : List Go.Field → Nat → List Value → List Value → Bool
  | [], _, [], [] => true
  | f :: fs, o, a :: l, b :: m => (f.name != "_") && (f.offset == o) && (match P.underlying f.type with | some u => flatU u && fitsC u a && fitsC u b | none => false) && flatFs P fs (o + 1) l m
  | _, _, _, _ => false

theorem pr_fields {d : Nat} : ∀ {fs : List Go.Field} {o : Nat} {l m : List Value} {xs ys : Array Value}, flatFs P fs o l m = true → xs.toList.drop o = l → ys.toList.drop o = m →
    pureRun P (Op.eqFields (d + 1) xs ys fs) = eqCs l m
  | [], o, [], [], xs, ys, _, _, _ => rfl
  | f :: fs, o, a :: l, b :: m, xs, ys, h, hx, hy => by
    simp only [flatFs, Bool.and_eq_true, bne_iff_ne, beq_iff_eq] at h
    obtain ⟨⟨⟨h1, h2⟩, h3⟩, h4⟩ := h
    split at h3
    · rename_i u hu
      simp only [Bool.and_eq_true] at h3
      have gx : xs[f.offset]? = some a := by
        have := congrArg (·[0]?) hx
        simp at this
        rw [h2, ← Array.getElem?_toList]
        simpa using this
      have gy : ys[f.offset]? = some b := by
        have := congrArg (·[0]?) hy
        simp at this
        rw [h2, ← Array.getElem?_toList]
        simpa using this
      have ih := pr_fields (d := d) (xs := xs) (ys := ys) h4 (by have := congrArg List.tail hx; simpa using this) (by have := congrArg List.tail hy; simpa using this)
      unfold Op.eqFields
      rw [if_pos h1, pr_bind, pr_part hu h3.1.1 gx]
      simp only [Option.bind_some]
      rw [pr_bind, pr_part hu h3.1.1 gy]
      simp only [Option.bind_some]
      rw [pr_bind, pr_equal hu h3.1.2 h3.2]
      unfold eqCs
      cases eqC a b with
      | none => rfl
      | some r => cases r <;> simp [ih, pr_pure]
    · cases h3
  | [], _, _ :: _, _, _, _, h, _, _ => by simp [flatFs] at h
  | [], _, [], _ :: _, _, _, h, _, _ => by simp [flatFs] at h
  | _ :: _, _, [], _, _, _, h, _, _ => by simp [flatFs] at h
  | _ :: _, _, _ :: _, [], _, _, h, _, _ => by simp [flatFs] at h

theorem pr_struct {d : Nat} {t : TypeId} {fs : Array Go.Field} (hu : P.underlying t = some (.struct fs)) (hp : P.stoodInHeld t = false) {xs ys : Array Value} :
    pureRun P (Op.equalIn (d + 1) t (.agg xs) (.agg ys)) = pureRun P (Op.eqFields d xs ys fs.toList) := by
  unfold Op.equalIn
  rw [pr_bind, pr_underlying hu]
  simp only [Option.bind_some]
  rw [pr_bind]
  show ((some P).bind _) = _
  simp only [Option.bind_some, hp, Bool.false_eq_true, if_false]
  rw [← Array.forIn_toList]
  generalize fs.toList = fs
  induction fs with
  | nil => rfl
  | cons f fs ih =>
    simp only [List.forIn_cons, Op.eqFields]
    split
    · simp only [pr_bind]
      cases pureRun P (part f.type xs f.offset) with
      | none => rfl
      | some a =>
        simp only [Option.bind_some]
        cases pureRun P (part f.type ys f.offset) with
        | none => rfl
        | some b =>
          simp only [Option.bind_some]
          cases pureRun P (Op.equalIn d f.type a b) with
          | none => rfl
          | some r =>
            cases r
            · rfl
            · simp only [Option.bind_some, Bool.not_true, Bool.false_eq_true, if_false, pr_bind, pr_pure] at ih ⊢
              exact ih
    · simp only [pr_bind, pr_pure, Option.bind_some] at ih ⊢
      exact ih

/-- The looks at two structs. -/
def structB (P : Program) (t : TypeId) (l m : List Value) : Bool :=
  match P.underlying t with
  | some (.struct fs) => !P.stoodInHeld t && !P.eqGuardType P.depth t && flatFs P fs.toList 0 l m
  | _ => false

theorem pr_guard {op : BinOp} {t : TypeId} {x y : Operand} {xs ys : Array Value} (hm : P.eqGuardType P.depth t = false) : pureRun P (eqGuard op t x y (.agg xs) (.agg ys)) = some () := by
  unfold eqGuard
  cases op <;> simp [pr_bind, pr_pure, pureRun, program, hm]

theorem plain_agg {l : List Value} (h : l.all (fun v => isCell v && plainD 19 v) = true) : plain (.agg ⟨l⟩) = true := by
  simp only [List.all_eq_true, Bool.and_eq_true] at h
  simp only [plain, plainD, List.all_eq_true]
  exact fun v hv => (h v hv).2

theorem eql_struct {t : TypeId} {l m : List Value} (hs : structB P t l m = true) (hl : plain (.agg ⟨l⟩) = true) (hm : plain (.agg ⟨m⟩) = true) {b : Bool} (he : eqCs l m = some b) :
    abinOp P .eql t (.agg ⟨l⟩) (.agg ⟨m⟩) = some (.bool b) ∧ abinOp P .neq t (.agg ⟨l⟩) (.agg ⟨m⟩) = some (.bool (!b)) := by
  unfold structB at hs
  split at hs
  · rename_i fs hu
    simp only [Bool.and_eq_true, Bool.not_eq_true'] at hs
    obtain ⟨⟨h1, h2⟩, h3⟩ := hs
    have hq : pureRun P (Op.equalIn 10000 t (.agg ⟨l⟩) (.agg ⟨m⟩)) = some b := by
      rw [show (10000 : Nat) = 9999 + 1 from rfl, pr_struct hu h1, show (9999 : Nat) = 9998 + 1 from rfl, pr_fields h3 rfl rfl, he]
    constructor
    · unfold abinOp
      rw [if_pos (by simp [hl, hm])]
      unfold pureV
      rw [pr_bind, pr_guard h2]
      simp only [Option.bind_some, binOp]
      rw [pr_bind]
      simp only [Op.equal, Op.maxDepth, hq, Option.bind_some, pr_pure]
      rfl
    · unfold abinOp
      rw [if_pos (by simp [hl, hm])]
      unfold pureV
      rw [pr_bind, pr_guard h2]
      simp only [Option.bind_some, binOp]
      rw [pr_bind]
      simp only [Op.equal, Op.maxDepth, hq, Option.bind_some, pr_pure]
      rfl
  · cases hs

/-! ### Arrays -/
def fitsL (u : TypeDesc) (l : List Value) : Bool := l.all (fitsC u)

theorem pr_items {d : Nat} {e : TypeId} {u : TypeDesc} (hu : P.underlying e = some u) (hf : flatU u = true) {xs ys : Array Value} : ∀ (k i : Nat) {l m : List Value}, xs.toList.drop i = l → ys.toList.drop i = m → l.length = k → m.length = k → fitsL u l = true → fitsL u m = true →
    pureRun P (forIn (List.range' i k) ((none, ()) : Option Bool × PUnit) fun j _ => do
      let a ← part e xs (j * 1)
      let b ← part e ys (j * 1)
      let r ← Op.equalIn (d + 1) e a b
      if (!r) = true then pure (ForInStep.done (some false, ())) else pure (ForInStep.yield (none, ()))) = (eqCs l m).map fun b => if b then (none, ()) else (some false, ())
  | 0, i, [], [], _, _, _, _, _, _ => rfl
  | k + 1, i, a :: l, b :: m, hx, hy, h1, h2, h3, h4 => by
    simp only [fitsL, List.all_cons, Bool.and_eq_true] at h3 h4
    have gx : xs[i * 1]? = some a := by
      have := congrArg (·[0]?) hx
      simp at this
      rw [Nat.mul_one, ← Array.getElem?_toList]
      simpa using this
    have gy : ys[i * 1]? = some b := by
      have := congrArg (·[0]?) hy
      simp at this
      rw [Nat.mul_one, ← Array.getElem?_toList]
      simpa using this
    have ih := pr_items (d := d) hu hf (xs := xs) (ys := ys) k (i + 1) (l := l) (m := m) (by have := congrArg List.tail hx; simpa using this) (by have := congrArg List.tail hy; simpa using this) (by simpa using h1) (by simpa using h2) h3.2 h4.2
    rw [List.range'_succ, List.forIn_cons]
    simp only [pr_bind, pr_part hu hf gx, pr_part hu hf gy, Option.bind_some, pr_equal hu h3.1 h4.1]
    unfold eqCs
    cases eqC a b with
    | none => rfl
    | some r =>
      cases r
      · rfl
      · simp only [Option.bind_some, Bool.not_true, Bool.false_eq_true, if_false, pr_pure]
        exact ih
  | 0, _, _ :: _, _, _, _, h, _, _, _ => by simp at h
  | 0, _, [], _ :: _, _, _, _, h, _, _ => by simp at h
  | k + 1, _, [], _, _, _, h, _, _, _ => by simp at h
  | k + 1, _, _ :: _, [], _, _, _, h, _, _ => by simp at h

def arrayB (P : Program) (t : TypeId) (l m : List Value) : Bool :=
  match P.underlying t with
  | some (.array n e) => (match P.info? e, P.underlying e with | some i, some u => (i.size == 1) && flatU u && fitsL u l && fitsL u m | _, _ => false) && !P.eqGuardType P.depth t && (l.length == n) && (m.length == n)
  | _ => false

theorem eql_array {t : TypeId} {l m : List Value} (hs : arrayB P t l m = true) (hl : plain (.agg ⟨l⟩) = true) (hm : plain (.agg ⟨m⟩) = true) {b : Bool} (he : eqCs l m = some b) :
    abinOp P .eql t (.agg ⟨l⟩) (.agg ⟨m⟩) = some (.bool b) ∧ abinOp P .neq t (.agg ⟨l⟩) (.agg ⟨m⟩) = some (.bool (!b)) := by
  unfold arrayB at hs
  split at hs
  · rename_i n e hu
    simp only [Bool.and_eq_true, Bool.not_eq_true', beq_iff_eq] at hs
    obtain ⟨⟨⟨h1, h2⟩, h3⟩, h4⟩ := hs
    split at h1
    · rename_i i u hi hue
      simp only [Bool.and_eq_true, beq_iff_eq] at h1
      obtain ⟨⟨⟨k1, k2⟩, k3⟩, k4⟩ := h1
      have hsz : pureRun P (Go.sizeOf e) = some 1 := by
        unfold Go.sizeOf typeInfo
        rw [pr_bind, pr_bind]
        show (Option.bind (Option.bind (some P) _) _) = _
        simp only [Option.bind_some, hi]
        rw [← k1]; rfl
      have hq : pureRun P (Op.equalIn 10000 t (.agg ⟨l⟩) (.agg ⟨m⟩)) = some b := by
        rw [show (10000 : Nat) = 9999 + 1 from rfl, Op.equalIn, pr_bind, pr_underlying hu]
        simp only [Option.bind_some]
        rw [pr_bind, hsz]
        simp only [Option.bind_some]
        have hit := pr_items (d := 9998) hue k2 (xs := ⟨l⟩) (ys := ⟨m⟩) n 0 (l := l) (m := m) rfl rfl h3 h4 k3 k4
        rw [he] at hit
        rw [pr_bind]
        simp only [Std.Legacy.Range.forIn_eq_forIn_range', Std.Legacy.Range.size, Nat.sub_zero, Nat.add_sub_cancel, Nat.div_one]
        rw [hit]
        cases b <;> rfl
      constructor
      · unfold abinOp
        rw [if_pos (by simp [hl, hm])]
        unfold pureV
        rw [pr_bind, pr_guard h2]
        simp only [Option.bind_some, binOp]
        rw [pr_bind]
        simp only [Op.equal, Op.maxDepth, hq, Option.bind_some, pr_pure]
        rfl
      · unfold abinOp
        rw [if_pos (by simp [hl, hm])]
        unfold pureV
        rw [pr_bind, pr_guard h2]
        simp only [Option.bind_some, binOp]
        rw [pr_bind]
        simp only [Op.equal, Op.maxDepth, hq, Option.bind_some, pr_pure]
        rfl
    · cases h1
  · cases hs

/-- '==' of bools -/
theorem eql_bool {t : TypeId} (hu : P.underlying t = some .bool) (a b : Bool) : abinOp P .eql t (.bool a) (.bool b) = some (.bool (a == b)) := by
  unfold abinOp
  rw [if_pos (by rfl)]
  unfold pureV
  rw [pr_bind]
  have : pureRun P (eqGuard .eql t (.tmp 0) (.tmp 0) (.bool a) (.bool b)) = some () := rfl
  rw [this]
  simp only [Option.bind_some, binOp]
  rw [pr_bind]
  have hq : pureRun P (Op.equal t (.bool a) (.bool b)) = some (a == b) := pr_equal hu rfl rfl
  rw [hq]
  rfl

theorem eqC_int (k : IntKind) (x y : Int) : eqC (.int k x) (.int k y) = some (decide (x = y)) := by
  simp only [eqC, if_true]
  by_cases h : x = y
  · subst h; simp
  · simp [h]
theorem eqC_str (x y : ByteArray) : eqC (.string x) (.string y) = some (decide (x = y)) := by
  simp only [eqC]
  by_cases h : x = y
  · subst h; simp
  · have : ¬ x.toList = y.toList := by
      intro e
      rw [ByteArray.toList_eq, ByteArray.toList_eq] at e
      apply h
      obtain ⟨⟨a⟩⟩ := x
      obtain ⟨⟨b⟩⟩ := y
      simp at e
      rw [e]
    simp [h, this]
theorem eqCs_cons {a b : Value} {p : Prop} [Decidable p] (h : eqC a b = some (decide p)) {l m : List Value} {q : Prop} [Decidable q] (ht : eqCs l m = some (decide q)) : eqCs (a :: l) (b :: m) = some (decide (p ∧ q)) := by
  unfold eqCs
  rw [h]
  by_cases hp : p <;> simp [hp, ht]
theorem eqCs_nil : eqCs [] [] = some (decide True) := rfl

end
end Gl
end

/- Memory that a call makes, as a row of blocks behind what was there. -/
section
namespace Gl
open Go

/-- Cells, read. -/
def rdN (b : Option Blk) (off n : Nat) : Option Value :=
  match b with
  | some (.cells c _ _ _) => if off + n ≤ c.length then some (.agg ⟨(c.drop off).take n⟩) else none
  | _ => none
def rd1 (b : Option Blk) (off : Nat) : Option Value :=
  match b with
  | some (.cells c _ _ _) => c[off]?
  | _ => none
/-- Cells, written. -/
def wrN (h : Heap) (i : Nat) (b : Option Blk) (off n : Nat) (v : Value) : Option Heap :=
  match b with
  | some (.cells c e true full) => if (cellsV v).length = n ∧ (cellsV v).all isCell = true ∧ off + n ≤ c.length then some (hput h i (.cells (splice c off (cellsV v)) e true full)) else none
  | _ => none

theorem ld_agg {P : Program} {T : TypeId} {ti : TI} (ht : tinfo P T = some ti) (ha : ti.isAgg = true) (h : Heap) (i off : Nat) : aload P h T (.pointer (some ⟨i, off, none⟩)) = rdN (hget h i) off ti.sz := by
  simp only [aload, ht, loadT, ha, if_true, readCells, rdN]
  cases hget h i with
  | none => rfl
  | some b =>
    cases b with
    | cells c e r f => simp only; split <;> simp_all
    | _ => rfl

theorem ld_one {P : Program} {T : TypeId} {ti : TI} (ht : tinfo P T = some ti) (ha : ti.isAgg = false) (h : Heap) (i off : Nat) : aload P h T (.pointer (some ⟨i, off, none⟩)) = rd1 (hget h i) off := by
  simp only [aload, ht, loadT, ha, readCells, rd1, Bool.false_eq_true, if_false]
  cases hget h i with
  | none => rfl
  | some b =>
    cases b with
    | cells c e r f =>
      simp only
      by_cases hl : off < c.length
      · rw [if_pos (by omega), List.drop_eq_getElem_cons hl, List.getElem?_eq_getElem hl]
        rfl
      · rw [if_neg (by omega), List.getElem?_eq_none (by omega)]
    | _ => rfl

theorem st_any {P : Program} {T : TypeId} {ti : TI} (ht : tinfo P T = some ti) (h : Heap) (i off : Nat) (v : Value) : astore P h T (.pointer (some ⟨i, off, none⟩)) v = wrN h i (hget h i) off ti.sz v := by
  simp only [astore, ht, writeCells, wrN]
  cases hget h i with
  | none => simp
  | some b =>
    cases b with
    | cells c e r f =>
      cases r with
      | false => simp
      | true =>
        simp only
        by_cases h1 : (cellsV v).length = ti.sz
        · by_cases h2 : (cellsV v).all isCell = true
          · rw [if_pos ⟨h1, h2⟩, h1]
            by_cases h3 : off + ti.sz ≤ c.length
            · rw [if_pos h3, if_pos ⟨rfl, h2, h3⟩]
            · rw [if_neg h3, if_neg (fun h => h3 h.2.2)]
          · rw [if_neg (fun h => h2 h.2), if_neg (fun h => h2 h.2.1)]
        · rw [if_neg (fun h => h1 h.1), if_neg (fun h => h1 h.1)]
    | _ => simp

def gAlloc (P : Program) (t : TypeId) (h : Heap) : Option (Value × Heap) :=
  match tinfo P t with
  | some ti => match ti.zero with
    | some z => if plain z = true ∧ (cellsV z).all isCell = true then some (anew h (cellsV z)) else none
    | none => none
  | none => none

/-- The memory: what was there, then what was made. -/
theorem hget_app (h l : Heap) (k : Nat) : hget (h ++ l) (hsz h + k) = l[k]? := by
  rw [hget_append_right (by omega), show hsz h + k - hsz h = k by omega]
theorem hget_app0 (h l : Heap) : hget (h ++ l) (hsz h) = l[0]? := hget_app h l 0
theorem hput_app (h l : Heap) (k : Nat) (b : Blk) : hput (h ++ l) (hsz h + k) b = h ++ l.set k b := by
  unfold hput hsz
  rw [List.set_append_right _ _ (by omega), show h.length + k - h.length = k by omega]
theorem hput_app0 (h l : Heap) (b : Blk) : hput (h ++ l) (hsz h) b = h ++ l.set 0 b := hput_app h l 0 b
theorem hpush_app (h l : Heap) (b : Blk) : hpush (h ++ l) b = h ++ (l ++ [b]) := by simp [hpush]
theorem hsz_app (h l : Heap) : hsz (h ++ l) = hsz h + l.length := by simp [hsz]
theorem hget_old {h : Heap} {i : Nat} {b : Blk} (l : Heap) (hi : hget h i = some b) : hget (h ++ l) i = some b := by
  rw [hget_append_left (List.getElem?_eq_some_iff.1 hi).1, hi]

theorem GM : (∀ (C : Ctx) d t ty p a g fr h, opRes C ⟨d, .alloc t, ty, p, a, g⟩ fr h = gAlloc C.P t h) ∧
    (∀ h l k, hget (h ++ l) (hsz h + k) = l[k]?) ∧ (∀ h l, hget (h ++ l) (hsz h) = l[0]?) ∧ (∀ h l k b, hput (h ++ l) (hsz h + k) b = h ++ l.set k b) ∧ (∀ h l b, hput (h ++ l) (hsz h) b = h ++ l.set 0 b) ∧
    (∀ h l b, hpush (h ++ l) b = h ++ (l ++ [b])) ∧ (∀ h l, hsz (h ++ l) = hsz h + l.length) ∧
    (∀ (b : Blk) (l m : Heap), b :: l ++ m = b :: (l ++ m)) ∧ (∀ (l : Heap), [] ++ l = l) ∧ (∀ (b : Blk) (l : Heap), (b :: l).length = l.length + 1) ∧ (([] : Heap).length = 0) ∧
    (∀ (b : Blk) (l : Heap), (b :: l)[0]? = some b) ∧ (∀ (b : Blk) (l : Heap) (k : Nat), (b :: l)[k + 1]? = l[k]?) ∧
    (∀ (b c : Blk) (l : Heap), (b :: l).set 0 c = c :: l) ∧ (∀ (b c : Blk) (l : Heap) k, (b :: l).set (k + 1) c = b :: l.set k c) ∧
    (∀ c e r f off n, rdN (some (.cells c e r f)) off n = if off + n ≤ c.length then some (.agg ⟨(c.drop off).take n⟩) else none) ∧
    (∀ c e r f off, rd1 (some (.cells c e r f)) off = c[off]?) ∧
    (∀ h i c e full off n v, wrN h i (some (.cells c e true full)) off n v = if (cellsV v).length = n ∧ (cellsV v).all isCell = true ∧ off + n ≤ c.length then some (hput h i (.cells (splice c off (cellsV v)) e true full)) else none) ∧
    (∀ (l : List Value), cellsV (.agg ⟨l⟩) = l) ∧ (∀ k n, cellsV (.int k n) = [.int k n]) ∧ (∀ s, cellsV (.string s) = [.string s]) ∧ (∀ b, cellsV (.bool b) = [.bool b]) ∧ (∀ a n c, cellsV (.slice a n c) = [.slice a n c]) :=
  ⟨fun _ _ _ _ _ _ _ _ _ => rfl, hget_app, hget_app0, hput_app, hput_app0, hpush_app, hsz_app, fun _ _ _ => rfl, fun _ => rfl, fun _ _ => rfl, rfl, fun _ _ => rfl, fun _ _ _ => rfl, fun _ _ _ => rfl, fun _ _ _ _ => rfl,
    fun _ _ _ _ _ _ => rfl, fun _ _ _ _ _ => rfl, fun _ _ _ _ _ _ _ _ => rfl, fun _ => rfl, fun _ _ => rfl, fun _ => rfl, fun _ => rfl, fun _ _ _ => rfl⟩

/-- Small rows of values. -/
theorem GV : (∀ (v : Value) (l : List Value), (v :: l).length = l.length + 1) ∧ (([] : List Value).length = 0) ∧ (∀ (v : Value) (l : List Value), (v :: l)[0]? = some v) ∧ (∀ (v : Value) (l : List Value) (k : Nat), (v :: l)[k + 1]? = l[k]?) ∧
    (∀ (v : Value) (l : List Value) k, (v :: l).drop (k + 1) = l.drop k) ∧ (∀ (l : List Value), l.drop 0 = l) ∧ (∀ (v : Value) (l : List Value) k, (v :: l).take (k + 1) = v :: l.take k) ∧ (∀ (l : List Value), l.take 0 = []) ∧
    (∀ (f : Value → Bool) (v : Value) (l : List Value), (v :: l).all f = (f v && l.all f)) ∧ (∀ (f : Value → Bool), ([] : List Value).all f = true) ∧ (∀ k n, isCell (.int k n) = true) ∧ (∀ s, isCell (.string s) = true) ∧ (∀ b, isCell (.bool b) = true) ∧ (∀ a n c, isCell (.slice a n c) = true) ∧
    (∀ (c : List Value) off new, splice c off new = c.take off ++ new ++ c.drop (off + new.length)) ∧ (∀ (v : Value) (l m : List Value), v :: l ++ m = v :: (l ++ m)) ∧ (∀ (l : List Value), [] ++ l = l) :=
  ⟨fun _ _ => rfl, rfl, fun _ _ => rfl, fun _ _ _ => rfl, fun _ _ _ => rfl, fun _ => rfl, fun _ _ _ => rfl, fun _ => rfl, fun _ _ _ => rfl, fun _ => rfl, fun _ _ => rfl, fun _ => rfl, fun _ => rfl, fun _ _ _ => rfl, fun _ _ _ => rfl, fun _ _ _ => rfl, fun _ => rfl⟩

def gRes (a : Option Value) (b : Option (List Value)) : Option (List Value) := match a, b with | some v, some vs => some (v :: vs) | _, _ => none
/-- Results. -/
theorem GX : (∀ P fr h, aresults P fr h [] = some []) ∧ (∀ P fr h r rs, aresults P fr h (r :: rs) = gRes (aresult1 P fr h r) (aresults P fr h rs)) ∧ (∀ v vs, gRes (some v) (some vs) = some (v :: vs)) ∧
    (∀ P fr h t, aresult1 P fr h (.tmp t) = some (fr t)) ∧ (∀ P fr h a t, aresult1 P fr h (.cell a t) = aload P h t (fr a)) := by
  refine ⟨fun _ _ _ => rfl, fun P fr h r rs => ?_, fun _ _ => rfl, fun _ _ _ _ => rfl, fun _ _ _ _ _ => rfl⟩
  cases r <;> rfl

theorem Run.retV {C : Ctx} {rnd : Bool} {nt : Nat} {K : List AItem} {fr : Fr} {h : Heap} {P : Program} {rs : List ResultVar} {vs : List Value} {RR : Value → Heap → Prop} (h1 : aresults P fr h rs = some vs) (h2 : RR (packed vs) h) :
    Run C rnd nt (.code .ret :: K) fr h (Ret P rs RR) := Run.ret ⟨trivial, vs, h1, h2⟩
theorem Run.endV {C : Ctx} {rnd : Bool} {nt : Nat} {fr : Fr} {h : Heap} {P : Program} {rs : List ResultVar} {vs : List Value} {RR : Value → Heap → Prop} (h1 : aresults P fr h rs = some vs) (h2 : RR (packed vs) h) :
    Run C rnd nt [] fr h (Ret P rs RR) := Run.nil ⟨trivial, vs, h1, h2⟩

theorem Ends.exit {C : Ctx} {rnd : Bool} {nt : Nat} {K k' : List AItem} {fr : Fr} {h : Heap} {Q : Out → Fr → Heap → Prop} {id : Nat} (hx : exitA id K = some k') (hr : Run C rnd nt k' fr h Q) : Ends C rnd nt K Q (.exit id) fr h := by
  unfold Ends; simp only [hx]; exact hr
/-- A number, out of a value. -/
def iv : Value → Int
  | .int _ n => n
  | _ => 0
theorem rdI_atN {P : Program} {t e T3 : Nat} {ti : TI} (T : SlTy P t e 1) (h3 : tinfo P T3 = some ti) (ha : ti.isAgg = false) {h : Heap} {v : Value} {l : List Int} (hr : rdI h v = some l) (kk : IntKind) (k : Nat) (h1 : k < l.length) :
    aindexAddr P t v (.int kk (k : Int)) = some (ptAt 1 v k) ∧ aload P h T3 (ptAt 1 v k) = some (.int .i64 (l.getD k 0)) := by
  have := rdI_at T h3 ha hr kk (k : Int) (by omega) (by omega)
  simpa using this

/-- The first number that is not 0. -/
def fnz : List Int → Int
  | [] => 0
  | x :: l => if x = 0 then fnz l else x
theorem fnz_skip : ∀ (l : List Int) (k : Nat), (∀ i, i < k → l.getD i 0 = 0) → fnz l = fnz (l.drop k)
  | l, 0, _ => by simp
  | [], k + 1, _ => by simp
  | x :: l, k + 1, h => by
    have h0 := h 0 (by omega)
    simp at h0
    simp only [fnz, h0, if_true, List.drop_succ_cons]
    exact fnz_skip l k fun i hi => by have := h (i + 1) (by omega); simpa using this
theorem fnz_at {l : List Int} {k : Nat} (hk : k < l.length) (h : ∀ i, i < k → l.getD i 0 = 0) (hn : l.getD k 0 ≠ 0) : fnz l = l.getD k 0 := by
  rw [fnz_skip l k h, List.drop_eq_getElem_cons hk]
  simp only [List.getD_eq_getElem?_getD, List.getElem?_eq_getElem hk, Option.getD_some] at hn ⊢
  simp [fnz, hn]
theorem fnz_none {l : List Int} (h : ∀ i, i < l.length → l.getD i 0 = 0) : fnz l = 0 := by
  rw [fnz_skip l l.length h]; simp [fnz]

/-- A whole row of numbers, read. -/
theorem rdI_row {h : Heap} {i n : Nat} {l : List Int} {es : Nat} {r f : Bool} {c : List Value} (hg : hget h i = some (.cells c es r f)) (hc : c = l.map (.int .i64)) (hn : n = l.length) : rdI h (.slice (some ⟨i, 0, none⟩) n FULL) = some l := by
  subst hc hn
  unfold rdI
  simp only
  split
  · rename_i hl
    have := List.eq_nil_of_length_eq_zero hl
    rw [this]
  · rw [if_neg (by unfold FULL ANY; decide)]
    unfold readCells
    simp only [hg]
    rw [if_pos (by simp), List.drop_zero, List.take_of_length_le (by simp)]
    have : ∀ m : List Int, intsOf (m.map (.int .i64)) = some m := by
      intro m
      induction m with
      | nil => rfl
      | cons x m ih => simp only [List.map_cons, intsOf, ih, Option.map_some]
    simp [this]

theorem Run.app0 {C : Ctx} {rnd : Bool} {nt : Nat} {T : List AItem} {fr : Fr} {h : Heap} {Q : Out → Fr → Heap → Prop} (hr : Run C rnd nt T fr (h ++ []) Q) : Run C rnd nt T fr h Q := by
  rwa [List.append_nil] at hr

end Gl
end
