/-
  Runs of the evaluator, piece by piece: what follows a piece; loops.
-/
import Derived.Test.YtamcmocdkcfjkaaGreatDoorKc
import Derived.IntWalk
import Derived.Test.YtamcmocdkcfjkaaGreatDoorKe
set_option linter.all false
/- Runs of the evaluator, piece by piece: what follows a piece; loops. -/
section
namespace Gl
open Go

/-- What follows a piece that came to r. -/
noncomputable def cont (C : Ctx) (rnd : Bool) (nt : Nat) (r : Out × Fr × Heap) (K : List AItem) : Option (Out × Fr × Heap) :=
  match r.1 with
  | .normal => ev C rnd nt K r.2.1 r.2.2
  | .ret => some (.ret, r.2.1, r.2.2)
  | .exit id => match exitA id K with
    | some k' => ev C rnd nt k' r.2.1 r.2.2
    | none => some (.exit id, r.2.1, r.2.2)

theorem cont_nil (C : Ctx) (rnd : Bool) (nt : Nat) (r : Out × Fr × Heap) : cont C rnd nt r [] = some r := by
  obtain ⟨o, fr, h⟩ := r
  cases o <;> simp [cont, ev_nil, exitA]

theorem exitA_some : ∀ {id : Nat} {k k' : List AItem} (K : List AItem), exitA id k = some k' → exitA id (k ++ K) = some (k' ++ K)
  | id, .inBlock id' :: k, k', K, h => by
    unfold exitA at h
    split at h
    · rename_i e; cases h; subst e; simp [exitA]
    · rename_i e; simp only [List.cons_append, exitA]; rw [if_neg e]; exact exitA_some K h
  | id, .code _ :: k, k', K, h => by unfold exitA at h; simp only [List.cons_append, exitA]; exact exitA_some K h
  | id, .inLoop _ :: k, k', K, h => by unfold exitA at h; simp only [List.cons_append, exitA]; exact exitA_some K h
  | id, .inScope _ :: k, k', K, h => by unfold exitA at h; simp only [List.cons_append, exitA]; exact exitA_some K h
  | id, .ops _ _ _ _ _ :: k, k', K, h => by unfold exitA at h; simp only [List.cons_append, exitA]; exact exitA_some K h
  | id, [], k', K, h => by simp [exitA] at h

theorem exitA_none : ∀ {id : Nat} {k : List AItem} (K : List AItem), exitA id k = none → exitA id (k ++ K) = exitA id K
  | id, .inBlock id' :: k, K, h => by
    unfold exitA at h
    split at h
    · cases h
    · rename_i e; simp only [List.cons_append, exitA]; rw [if_neg e]; exact exitA_none K h
  | id, .code _ :: k, K, h => by unfold exitA at h; simp only [List.cons_append, exitA]; exact exitA_none K h
  | id, .inLoop _ :: k, K, h => by unfold exitA at h; simp only [List.cons_append, exitA]; exact exitA_none K h
  | id, .inScope _ :: k, K, h => by unfold exitA at h; simp only [List.cons_append, exitA]; exact exitA_none K h
  | id, .ops _ _ _ _ _ :: k, K, h => by unfold exitA at h; simp only [List.cons_append, exitA]; exact exitA_none K h
  | id, [], K, h => rfl

theorem ev_app (C : Ctx) : ∀ (rnd : Bool) (nt : Nat) (todo : List AItem) (fr : Fr) (h : Heap) (r : Out × Fr × Heap), ev C rnd nt todo fr h = some r → ∀ K, ev C rnd nt (todo ++ K) fr h = cont C rnd nt r K := by
  refine ev_ind C (fun rnd nt todo fr h r => ∀ K, ev C rnd nt (todo ++ K) fr h = cont C rnd nt r K) ?_
  intro rec ih rnd nt todo fr h r he K
  have self : ∀ {rnd : Bool} {nt : Nat} {todo : List AItem} {fr : Fr} {h : Heap} {q : Out × Fr × Heap}, rec rnd nt todo fr h = some q → ev C rnd nt todo fr h = some q := by
    intro rnd nt todo fr h q hq
    have := ih _ _ _ _ _ _ hq []
    rw [List.append_nil, cont_nil] at this
    exact this
  unfold evG at he
  split at he
  · cases he; rfl
  · rw [List.cons_append, ev_inBlock]; exact ih _ _ _ _ _ _ he K
  · rw [List.cons_append, ev_inLoop]; exact ih _ _ _ _ _ _ he K
  · rw [List.cons_append, ev_inScope]; exact ih _ _ _ _ _ _ he K
  · rw [List.cons_append, ev_skip]; exact ih _ _ _ _ _ _ he K
  · rw [List.cons_append, ev_label]; exact ih _ _ _ _ _ _ he K
  · rw [List.cons_append, ev_seq]; exact ih _ _ _ _ _ _ he K
  · split at he
    · rename_i hc; rw [List.cons_append, ev_cond, hc]; exact ih _ _ _ _ _ _ he K
    · rename_i hc; rw [List.cons_append, ev_cond, hc]; exact ih _ _ _ _ _ _ he K
    · cases he
  · rw [List.cons_append, ev_block]; exact ih _ _ _ _ _ _ he K
  · rw [List.cons_append, ev_def, evG]; exact ih _ _ _ _ _ _ he K
  · rw [List.cons_append, ev_scope]; exact ih _ _ _ _ _ _ he K
  · split at he
    · rename_i hx; rw [List.cons_append, ev_exit, exitA_some K hx]; exact ih _ _ _ _ _ _ he K
    · rename_i hx; cases he; rw [List.cons_append, ev_exit, exitA_none K hx]; rfl
  · cases he; rw [List.cons_append, ev_ret]; rfl
  · rw [List.cons_append, ev_region]; exact ih _ _ _ _ _ _ he K
  · rename_i d ops i es rs k
    rw [List.cons_append]
    split at he
    · rename_i hi
      rw [ev_def, evG]; simp only [hi]; exact ih _ _ _ _ _ _ he K
    · rename_i o hi
      split at he
      · rename_i hw
        split at he
        · rename_i f xs hc
          split at he
          · rename_i f' args ht
            obtain ⟨r1, h1, h2⟩ := bindSome he
            split at h2
            case isFalse => cases h2
            rename_i hl
            split at h1
            · rename_i g hg
              rw [ev_def, evG]; simp only [hi, hw, if_true, hc, ht, hg]; rw [h1]
              show (if lookD d ops o.op fr h r1.2 i es rs = true then _ else none) = _
              rw [if_pos hl]; exact ih _ _ _ _ _ _ h2 K
            · rename_i hX
              split at h1
              · rename_i B hB
                split at h1
                case isFalse => cases h1
                rename_i hle
                obtain ⟨q, h3, h4⟩ := bindSome h1
                rw [ev_def, evG]; simp only [hi, hw, if_true, hc, ht, hX, hB]
                rw [if_pos hle, self h3]
                show (finF C.P B q >>= _) = _
                rw [h4]
                show (if lookD d ops o.op fr h r1.2 i es rs = true then _ else none) = _
                rw [if_pos hl]; exact ih _ _ _ _ _ _ h2 K
              · cases h1
          · rename_i l args ht
            split at he
            · rename_i nt' fr0 ps as bd hy
              split at he
              case isFalse => cases he
              rename_i hdl
              obtain ⟨r1, e1, he⟩ := bindSome he
              split at he
              case isFalse => cases he
              rename_i hn
              obtain ⟨h1, e2, he⟩ := bindSome he
              obtain ⟨r2, e3, he⟩ := bindSome he
              obtain ⟨r3, e4, he⟩ := bindSome he
              rw [ev_def, evG]; simp only [hi, hw, if_true, hc, ht, hy]
              rw [if_pos hdl, self e1]
              show (if outNormal r1.1 = true then _ else none) = _
              rw [if_pos hn, e2]
              show (ev C true nt' [.code bd] r1.2.1 h1 >>= _) = _
              rw [self e3]
              show (roundOff r2.1 r2.2.2 l >>= _) = _
              rw [e4]
              exact ih _ _ _ _ _ _ he K
            · cases he
          · cases he
        · rename_i hc
          obtain ⟨r1, h1, h2⟩ := bindSome he
          split at h2
          case isFalse => cases h2
          rename_i hl
          rw [ev_def, evG]; simp only [hi, hw, if_true, hc]; rw [h1]
          show (if lookD d ops o.op fr h r1.2 i es rs = true then _ else none) = _
          rw [if_pos hl]; exact ih _ _ _ _ _ _ h2 K
      · rename_i hw
        rw [ev_def, evG]; simp only [hi, hw]; exact ih _ _ _ _ _ _ he K
  · rename_i g ps as bd k
    rw [List.cons_append]
    split at he
    case isTrue => cases he
    rename_i hrnd
    split at he
    · rename_i f args ht
      split at he
      · rename_i B hX hB
        obtain ⟨r1, h1, h2⟩ := bindSome he
        split at h1
        case isFalse => cases h1
        rename_i hle
        obtain ⟨q, h3, h4⟩ := bindSome h1
        obtain ⟨x, h5, h6⟩ := bindSome h2
        rw [ev_def, evG]; simp only [ht, hX, hB]
        rw [if_neg hrnd, if_pos hle, self h3]
        show ((finF C.P B q) >>= _) = _
        rw [h4]
        show (loopOff r1.2 (hsz h) >>= _) = _
        rw [h5]
        show ev C rnd nt (x.1 ++ (k ++ K)) fr x.2 = _
        rw [← List.append_assoc]
        exact ih _ _ _ _ _ _ h6 K
      · cases he
    · cases he
  · cases he
  · cases he

/-- A run comes to what Q says. -/
def Run (C : Ctx) (rnd : Bool) (nt : Nat) (todo : List AItem) (fr : Fr) (h : Heap) (Q : Out → Fr → Heap → Prop) : Prop :=
  ∃ o fr' h', ev C rnd nt todo fr h = some (o, fr', h') ∧ Q o fr' h'

/-- What is asked behind a piece that has ended so, K being left to do. -/
def Ends (C : Ctx) (rnd : Bool) (nt : Nat) (K : List AItem) (Q : Out → Fr → Heap → Prop) (o : Out) (fr : Fr) (h : Heap) : Prop :=
  match o with
  | .normal => Run C rnd nt K fr h Q
  | .ret => Q .ret fr h
  | .exit id => match exitA id K with
    | some k' => Run C rnd nt k' fr h Q
    | none => Q (.exit id) fr h

section
variable {C : Ctx} {rnd : Bool} {nt : Nat} {k K : List AItem} {fr : Fr} {h : Heap} {Q : Out → Fr → Heap → Prop}

theorem Run.mono {T : List AItem} {Q' : Out → Fr → Heap → Prop} (hr : Run C rnd nt T fr h Q') (hq : ∀ o fr h, Q' o fr h → Q o fr h) : Run C rnd nt T fr h Q := by
  obtain ⟨o, fr', h', e, q⟩ := hr
  exact ⟨o, fr', h', e, hq _ _ _ q⟩

/-- A piece, then what follows. -/
theorem Run.app {T : List AItem} (hr : Run C rnd nt T fr h (Ends C rnd nt K Q)) : Run C rnd nt (T ++ K) fr h Q := by
  obtain ⟨o, fr', h', e, q⟩ := hr
  have := ev_app C rnd nt T fr h _ e K
  cases o with
  | normal =>
    obtain ⟨o2, fr2, h2, e2, q2⟩ := q
    exact ⟨o2, fr2, h2, this.trans e2, q2⟩
  | ret => exact ⟨.ret, fr', h', this, q⟩
  | exit id =>
    unfold Ends at q
    simp only [cont] at this
    cases hx : exitA id K with
    | none =>
      simp only [hx] at this q
      exact ⟨.exit id, fr', h', this, q⟩
    | some k' =>
      simp only [hx] at this q
      obtain ⟨o2, fr2, h2, e2, q2⟩ := q
      exact ⟨o2, fr2, h2, this.trans e2, q2⟩

theorem Run.head {A : Code} (hr : Run C rnd nt [.code A] fr h (Ends C rnd nt K Q)) : Run C rnd nt (.code A :: K) fr h Q := Run.app (T := [.code A]) hr

theorem Run.of_eq {T T' : List AItem} {fr fr' : Fr} {h h' : Heap} (e : ev C rnd nt T fr h = ev C rnd nt T' fr' h') (hr : Run C rnd nt T' fr' h' Q) : Run C rnd nt T fr h Q := by
  obtain ⟨o, a, b, e', q⟩ := hr
  exact ⟨o, a, b, e.trans e', q⟩

theorem Run.nil (q : Q .normal fr h) : Run C rnd nt [] fr h Q := ⟨_, _, _, ev_nil .., q⟩
theorem Run.ret (q : Q .ret fr h) : Run C rnd nt (.code .ret :: K) fr h Q := ⟨_, _, _, ev_ret .., q⟩
theorem Run.inBlock {id : Nat} (hr : Run C rnd nt K fr h Q) : Run C rnd nt (.inBlock id :: K) fr h Q := Run.of_eq (ev_inBlock ..) hr
theorem Run.inScope {b : Code} (hr : Run C rnd nt K fr h Q) : Run C rnd nt (.inScope b :: K) fr h Q := Run.of_eq (ev_inScope ..) hr
theorem Run.inLoop {b : Code} (hr : Run C rnd nt (.code b :: .inLoop b :: K) fr h Q) : Run C rnd nt (.inLoop b :: K) fr h Q := Run.of_eq (ev_inLoop ..) hr
theorem Run.skip (hr : Run C rnd nt K fr h Q) : Run C rnd nt (.code .skip :: K) fr h Q := Run.of_eq (ev_skip ..) hr
theorem Run.label {l : Nat} (hr : Run C rnd nt K fr h Q) : Run C rnd nt (.code (.label l) :: K) fr h Q := Run.of_eq (ev_label ..) hr
theorem Run.seq {a b : Code} (hr : Run C rnd nt (.code a :: .code b :: K) fr h Q) : Run C rnd nt (.code (.seq a b) :: K) fr h Q := Run.of_eq (ev_seq ..) hr
theorem Run.block {id : Nat} {b : Code} (hr : Run C rnd nt (.code b :: .inBlock id :: K) fr h Q) : Run C rnd nt (.code (.block id b) :: K) fr h Q := Run.of_eq (ev_block ..) hr
theorem Run.scope {b : Code} (hr : Run C rnd nt (.code b :: .inScope b :: K) fr h Q) : Run C rnd nt (.code (.scope b) :: K) fr h Q := Run.of_eq (ev_scope ..) hr
theorem Run.exit {id : Nat} {k' : List AItem} (hx : exitA id K = some k') (hr : Run C rnd nt k' fr h Q) : Run C rnd nt (.code (.exit id) :: K) fr h Q := Run.of_eq (by rw [ev_exit, hx]) hr
theorem Run.exitOut {id : Nat} (hx : exitA id K = none) (q : Q (.exit id) fr h) : Run C rnd nt (.code (.exit id) :: K) fr h Q := ⟨_, _, _, by rw [ev_exit, hx], q⟩
theorem Run.cond {c : Operand} {a b : Code} (t : Bool) (hc : feval fr c = .bool t) (h1 : t = true → Run C rnd nt (.code a :: K) fr h Q) (h2 : t = false → Run C rnd nt (.code b :: K) fr h Q) : Run C rnd nt (.code (.cond c a b) :: K) fr h Q := by
  cases t with
  | true => exact Run.of_eq (by rw [ev_cond, hc]; rfl) (h1 rfl)
  | false => exact Run.of_eq (by rw [ev_cond, hc]; rfl) (h2 rfl)
theorem Run.condP {p : Prop} [Decidable p] {c : Operand} {a b : Code} (hc : feval fr c = .bool (decide p)) (h1 : p → Run C rnd nt (.code a :: K) fr h Q) (h2 : ¬ p → Run C rnd nt (.code b :: K) fr h Q) : Run C rnd nt (.code (.cond c a b) :: K) fr h Q :=
  Run.cond _ hc (fun e => h1 (by simpa using e)) (fun e => h2 (by simpa using e))

theorem Run.condT {c : Operand} {a b : Code} (hc : feval fr c = .bool true) (h1 : Run C rnd nt (.code a :: K) fr h Q) : Run C rnd nt (.code (.cond c a b) :: K) fr h Q := Run.of_eq (by rw [ev_cond, hc]; rfl) h1
theorem Run.condF {c : Operand} {a b : Code} (hc : feval fr c = .bool false) (h1 : Run C rnd nt (.code b :: K) fr h Q) : Run C rnd nt (.code (.cond c a b) :: K) fr h Q := Run.of_eq (by rw [ev_cond, hc]; rfl) h1

/-- A loop: what holds at each round's beginning, and what becomes less. -/
theorem Run.loop {body : Code} (Inv : Fr → Heap → Prop) (μ : Fr → Heap → Nat)
    (step : ∀ fr h, Inv fr h → Run C rnd nt [.code body] fr h fun o fr' h' => match o with | .normal => Inv fr' h' ∧ μ fr' h' < μ fr h | o => Ends C rnd nt K Q o fr' h')
    (h0 : Inv fr h) : Run C rnd nt (.code (.loop body) :: K) fr h Q := by
  refine Run.of_eq (ev_loop ..) ?_
  generalize hm : μ fr h = m
  induction m using Nat.strongRecOn generalizing fr h with
  | _ m ih =>
    refine Run.inLoop (Run.head ?_)
    refine (step fr h h0).mono fun o fr' h' q => ?_
    cases o with
    | normal => exact ih _ (hm ▸ q.2) q.1 rfl
    | ret => exact q
    | exit id => exact q
end

/-- A region's operations, one behind the other. -/
noncomputable def runOps (C : Ctx) (d : Bool) (ops : Array Oper) : List Oper → Nat → List (Nat × Heap × Heap) → List (Nat × Nat) → Fr → Heap → Option (Fr × Heap)
  | [], _, _, _, fr, h => some (fr, h)
  | o :: l, i, es, rs, fr, h =>
    if wantedA ops o fr then
      match opRes C o fr h with
      | some (v, h') => if lookD d ops o.op fr h h' i es rs then runOps C d ops l (i + 1) (grown o.op fr h h' i es rs).1 (grown o.op fr h h' i es rs).2 (fput fr o.dst v) h' else none
      | none => none
    else runOps C d ops l (i + 1) es rs (fput fr o.dst undef) h

theorem runOps_ok {C : Ctx} {d rnd : Bool} {nt : Nat} {ops : Array Oper} {k : List AItem} : ∀ {l : List Oper} {i : Nat} {es : List (Nat × Heap × Heap)} {rs : List (Nat × Nat)} {fr fr' : Fr} {h h' : Heap}, l = ops.toList.drop i →
    runOps C d ops l i es rs fr h = some (fr', h') → ev C rnd nt (.ops d ops i es rs :: k) fr h = ev C rnd nt k fr' h'
  | [], i, es, rs, fr, fr', h, h', hl, hr => by
    cases hr
    refine ev_ops_end (hi := ?_) ..
    have := congrArg List.length hl
    simp at this
    simp; omega
  | o :: l, i, es, rs, fr, fr', h, h', hl, hr => by
    have hi : ops[i]? = some o := by
      have := congrArg (·[0]?) hl
      simp at this
      rw [← Array.getElem?_toList]
      simpa using this.symm
    have hl' : l = ops.toList.drop (i + 1) := by
      have := congrArg List.tail hl
      simpa using this
    unfold runOps at hr
    split at hr
    · rename_i hw
      split at hr
      · rename_i v h1 ho
        split at hr
        · rename_i hd
          rw [ev_ops_step (hi := hi) (hw := hw) (hr := ho) (hd := hd)]
          exact runOps_ok hl' hr
        · cases hr
      · cases hr
    · rename_i hw
      rw [ev_ops_skip (hi := hi) (hw := by simpa using hw)]
      exact runOps_ok hl' hr

/-- A region. -/
theorem Run.region {C : Ctx} {rnd : Bool} {nt : Nat} {K : List AItem} {fr fr' : Fr} {h h' : Heap} {Q : Out → Fr → Heap → Prop} {id : Nat} {ops : List Oper} {d : Bool} (hr : runOps C d ⟨ops⟩ ops 0 [] [] fr h = some (fr', h'))
    (hq : Run C rnd nt K fr' h' Q) : Run C rnd nt (.code (.region id ⟨ops⟩ d) :: K) fr h Q :=
  Run.of_eq (by rw [ev_region]; exact runOps_ok (by simp) hr) hq

/-- The operations of a region that draws no order. -/
noncomputable def glRun (C : Ctx) (ops : Array Oper) : List Oper → Fr → Heap → Option (Fr × Heap)
  | [], fr, h => some (fr, h)
  | o :: l, fr, h =>
    if wantedA ops o fr then
      match opRes C o fr h with
      | some (v, h') => glRun C ops l (fput fr o.dst v) h'
      | none => none
    else glRun C ops l (fput fr o.dst undef) h

theorem glRun_eq {C : Ctx} {ops : Array Oper} : ∀ {l : List Oper} {i : Nat} {es : List (Nat × Heap × Heap)} {rs : List (Nat × Nat)} {fr : Fr} {h : Heap}, runOps C false ops l i es rs fr h = glRun C ops l fr h
  | [], _, _, _, _, _ => rfl
  | o :: l, i, es, rs, fr, h => by
    simp only [runOps, glRun, lookD, Bool.not_false, Bool.true_or, if_true]
    split
    · split
      · exact glRun_eq
      · rfl
    · exact glRun_eq

theorem Run.regionN {C : Ctx} {rnd : Bool} {nt : Nat} {K : List AItem} {fr fr' : Fr} {h h' : Heap} {Q : Out → Fr → Heap → Prop} {id : Nat} {ops : Array Oper} (hr : glRun C ops ops.toList fr h = some (fr', h'))
    (hq : Run C rnd nt K fr' h' Q) : Run C rnd nt (.code (.region id ops false) :: K) fr h Q := Run.region (ops := ops.toList) (glRun_eq.trans hr) hq

end Gl
end

/- What operations come to, by the kinds of data. -/
section
namespace Gl
open Go

/-- A type of slices, so many cells an element. -/
structure SlTy (P : Program) (t e sz : Nat) : Prop where
  ex : ∃ ti te z, tinfo P t = some ti ∧ ti.u = .slice e ∧ tinfo P e = some te ∧ te.sz = sz ∧ 0 < sz ∧ te.bytes < 2 ^ 12 ∧ te.zero = some z ∧ plain z = true ∧ (cellsV z).all isCell = true ∧ (cellsV z).length = sz

/-- The look at it, for the kernel. -/
def slTyB (P : Program) (t e sz : Nat) : Bool :=
  match tinfo P t, tinfo P e with
  | some ti, some te => (match ti.u with | .slice e' => e' == e | _ => false) && (te.sz == sz) && decide (0 < sz) && decide (te.bytes < 2 ^ 12) && (match te.zero with | some z => plain z && (cellsV z).all isCell && ((cellsV z).length == sz) | none => false)
  | _, _ => false
theorem SlTy.of {P : Program} {t e sz : Nat} (h : slTyB P t e sz = true) : SlTy P t e sz := by
  unfold slTyB at h
  split at h
  · rename_i ti te h1 h2
    simp only [Bool.and_eq_true, decide_eq_true_eq, beq_iff_eq] at h
    obtain ⟨⟨⟨⟨k1, k2⟩, k3⟩, k4⟩, k5⟩ := h
    split at k1
    · rename_i e' hu
      simp at k1
      subst k1
      split at k5
      · rename_i z hz
        simp only [Bool.and_eq_true, beq_iff_eq] at k5
        exact ⟨ti, te, z, h1, hu, h2, k2, k3, k4, hz, k5.1.1, k5.1.2, k5.2⟩
      · cases k5
    · cases k1
  · cases h

section
variable {P : Program} {t e sz : Nat}

theorem alen_sl (T : SlTy P t e sz) (h : Heap) (a : Option Addr) (n c : Nat) : alen P h t (.slice a n c) = some (.int .i64 n) := by
  obtain ⟨ti, te, z, h1, h2, _⟩ := T.ex
  simp only [alen, h1, h2]

theorem aidx_sl (T : SlTy P t e sz) (k : IntKind) (i off n c : Nat) (x : Int) (h0 : 0 ≤ x) (h1 : x < n) (hc : c ≠ ANY) : aindexAddr P t (.slice (some ⟨i, off, none⟩) n c) (.int k x) = some (.pointer (some ⟨i, off + x.toNat * sz, none⟩)) := by
  obtain ⟨ti, te, z, k1, k2, k3, k4, _⟩ := T.ex
  simp only [aindexAddr, k1, k2, k3, k4]
  rw [if_pos ⟨h0, h1, hc⟩]

theorem splice_end (l new : List Value) : splice l l.length new = l ++ new := by simp [splice]

/-- append to nil -/
theorem aapp_nil (T : SlTy P t e sz) {h : Heap} {x : Value} {new : List Value} {m : Nat} (h1 : srcCells h sz x = some new) (h2 : srcLen x = some m) (h3 : new.length = m * sz) (h4 : new.all isCell = true) (h5 : 0 < m) (h6 : m < 2 ^ 32) :
    aappend P h [t, t] (.slice none 0 0) x = some (.slice (some ⟨hsz h, 0, none⟩) m FULL, hpush h (.cells new sz true false)) := by
  obtain ⟨ti, te, z, k1, k2, k3, k4, k5, k6, k7, k8, k9, k10⟩ := T.ex
  subst k4
  simp only [aappend, k1, k2, k3]
  rw [if_pos ⟨k5, k6, by simp [k7, k8, k9, k10]⟩]
  simp only [h1, h2]
  rw [if_pos ⟨h3, h4⟩, if_neg (by omega), if_pos h6]

/-- append of nothing to nil -/
theorem aapp_nil0 (T : SlTy P t e sz) {h : Heap} {x : Value} (h1 : srcCells h sz x = some []) (h2 : srcLen x = some 0) :
    aappend P h [t, t] (.slice none 0 0) x = some (.slice none 0 0, h) := by
  obtain ⟨ti, te, z, k1, k2, k3, k4, k5, k6, k7, k8, k9, k10⟩ := T.ex
  subst k4
  simp only [aappend, k1, k2, k3]
  rw [if_pos ⟨k5, k6, by simp [k7, k8, k9, k10]⟩]
  simp only [h1, h2]
  rw [if_pos ⟨by simp, rfl⟩, if_pos (by simp)]

/-- append to an own row that has no further cells known: the old row is given up -/
theorem aapp_own (T : SlTy P t e sz) {h : Heap} {x : Value} {new l : List Value} {i n m : Nat} (h0 : hget h i = some (.cells l sz true false)) (hl : l.length = n * sz) (h1 : srcCells h sz x = some new) (h2 : srcLen x = some m)
    (h3 : new.length = m * sz) (h4 : new.all isCell = true) (h5 : 0 < m) (h6 : n + m < 2 ^ 32) :
    aappend P h [t, t] (.slice (some ⟨i, 0, none⟩) n FULL) x = some (.slice (some ⟨hsz h, 0, none⟩) (n + m) FULL, hpush (hput h i .dead) (.cells (l ++ new) sz true false)) := by
  obtain ⟨ti, te, z, k1, k2, k3, k4, k5, k6, k7, k8, k9, k10⟩ := T.ex
  subst k4
  simp only [aappend, k1, k2, k3]
  rw [if_pos ⟨k5, k6, by simp [k7, k8, k9, k10]⟩]
  simp only [h1, h2]
  rw [if_pos ⟨h3, h4⟩, if_neg (by unfold FULL ANY; decide), if_pos h6]
  simp only [h0, if_true]
  have hpos : 0 < m * te.sz := Nat.mul_pos h5 k5
  rw [if_neg (by simp), if_neg (by rw [hl, Nat.add_mul]; omega), if_neg (by simp), if_pos ⟨by simp, by simp, hl⟩]

/-- append to a made row that is whole (a literal, make): a new row -/
theorem aapp_full (T : SlTy P t e sz) {h : Heap} {x : Value} {new l : List Value} {i n m : Nat} {rw_ : Bool} (h0 : hget h i = some (.cells l sz rw_ true)) (hl : l.length = n * sz) (h1 : srcCells h sz x = some new) (h2 : srcLen x = some m)
    (h3 : new.length = m * sz) (h4 : new.all isCell = true) (h5 : 0 < m) (h6 : n + m < 2 ^ 32) :
    aappend P h [t, t] (.slice (some ⟨i, 0, none⟩) n FULL) x = some (.slice (some ⟨hsz h, 0, none⟩) (n + m) FULL, hpush h (.cells (l ++ new) sz true false)) := by
  obtain ⟨ti, te, z, k1, k2, k3, k4, k5, k6, k7, k8, k9, k10⟩ := T.ex
  subst k4
  simp only [aappend, k1, k2, k3]
  rw [if_pos ⟨k5, k6, by simp [k7, k8, k9, k10]⟩]
  simp only [h1, h2]
  rw [if_pos ⟨h3, h4⟩, if_neg (by unfold FULL ANY; decide), if_pos h6]
  simp only [h0, if_true]
  have hpos : 0 < m * te.sz := Nat.mul_pos h5 k5
  rw [if_neg (by simp), if_neg (by rw [hl, Nat.add_mul]; omega), if_pos (by simp [hl])]
  rw [List.drop_zero, List.take_of_length_le (by omega)]

/-- append of nothing to a row with room -/
theorem aapp_none (T : SlTy P t e sz) {h : Heap} {x : Value} {l : List Value} {i n : Nat} {rw_ full : Bool} (h0 : hget h i = some (.cells l sz rw_ full)) (hl : n * sz ≤ l.length) (h1 : srcCells h sz x = some []) (h2 : srcLen x = some 0) (h6 : n < 2 ^ 32) :
    aappend P h [t, t] (.slice (some ⟨i, 0, none⟩) n FULL) x = some (.slice (some ⟨i, 0, none⟩) n FULL, h) := by
  obtain ⟨ti, te, z, k1, k2, k3, k4, k5, k6, k7, k8, k9, k10⟩ := T.ex
  subst k4
  simp only [aappend, k1, k2, k3]
  rw [if_pos ⟨k5, k6, by simp [k7, k8, k9, k10]⟩]
  simp only [h1, h2]
  rw [if_pos ⟨by simp, rfl⟩, if_neg (by unfold FULL ANY; decide), if_pos (by omega)]
  simp only [h0, if_true]
  rw [if_neg (by simp), if_pos (by simp; exact hl)]
  try rfl

/-! ### Slices that are read -/
theorem readCells_of {h : Heap} {i off n : Nat} {c : List Value} {es : Nat} {r f : Bool} (h0 : hget h i = some (.cells c es r f)) (h1 : off + n ≤ c.length) : readCells h i off n = some ((c.drop off).take n) := by
  unfold readCells; simp only [h0]; rw [if_pos h1]

theorem src_own {h : Heap} {i n : Nat} {c : List Value} {es : Nat} {r f : Bool} (h0 : hget h i = some (.cells c es r f)) (hl : c.length = n * sz) : srcCells h sz (.slice (some ⟨i, 0, none⟩) n FULL) = some c := by
  simp only [srcCells]
  by_cases hn : n = 0
  · subst hn
    simp at hl
    subst hl
    simp
  · rw [if_neg hn, if_neg (by unfold FULL ANY; decide), readCells_of h0 (by omega), List.drop_zero, List.take_of_length_le (by omega)]

/-- One cell, read. -/
theorem aload_cell {T : TypeId} {ti : TI} (ht : tinfo P T = some ti) (ha : ti.isAgg = false) {h : Heap} {i off : Nat} {c : List Value} {es : Nat} {r f : Bool} (h0 : hget h i = some (.cells c es r f)) {v : Value} (hv : c[off]? = some v) :
    aload P h T (.pointer (some ⟨i, off, none⟩)) = some v := by
  have hlt := (List.getElem?_eq_some_iff.1 hv).1
  simp only [aload, ht, loadT, ha]
  rw [if_neg (by simp), readCells_of h0 (by omega)]
  have : (c.drop off).take 1 = [v] := by
    rw [List.drop_eq_getElem_cons hlt, (List.getElem?_eq_some_iff.1 hv).2]
    rfl
  simp [this]

/-! ### Literals of slices -/
theorem fill_row : ∀ (vs done : List Value) (rest : List Value), (∀ v ∈ vs, isCell v = true) → rest.length = vs.length →
    fillA (fun i => some (i * 1, 1)) (done ++ rest) ((vs.zipIdx done.length).map fun p => (p.2, p.1)) = some (done ++ vs)
  | [], done, rest, _, h => by
    simp at h
    subst h
    simp [fillA]
  | v :: vs, done, rest, hv, h => by
    have hc : cellsV v = [v] := by
      have := hv v (by simp)
      unfold cellsV Value.cells
      cases v <;> first | rfl | (simp [isCell] at this)
    cases rest with
    | nil => simp at h
    | cons r rest =>
      simp only [List.zipIdx_cons, List.map_cons, fillA, hc]
      rw [if_neg (by simp)]
      have := fill_row vs (done ++ [v]) rest (fun x hx => hv x (by simp [hx])) (by simpa using h)
      simp only [List.length_append, List.length_cons, List.length_nil, Nat.zero_add, List.append_assoc, List.cons_append, List.nil_append] at this
      rw [← this]
      congr 1
      simp [splice]

theorem abs_row (T : SlTy P t e 1) (h : Heap) (vs : List Value) (hv : vs.all isCell = true) (hn : vs.length ≤ 2 ^ 20) (n : Nat) (parts : List (Nat × Value)) (hnn : n = vs.length) (hp : parts = vs.zipIdx.map fun p => (p.2, p.1)) :
    abuildSlice P h t n parts = some (.slice (some ⟨hsz h, 0, none⟩) n FULL, hpush h (.cells vs 1 true true)) := by
  obtain ⟨ti, te, z, k1, k2, k3, k4, k5, k6, k7, k8, k9, k10⟩ := T.ex
  subst hnn hp
  simp only [abuildSlice, k1, k2, k3, k7]
  rw [if_pos ⟨k8, by omega, by omega, by rw [k4]; omega⟩]
  have hz : (zerosA (cellsV z) vs.length).length = vs.length := by
    unfold zerosA
    simp [k10]
  simp only [List.all_eq_true] at hv
  have := fill_row vs [] (zerosA (cellsV z) vs.length) hv hz
  simp only [List.nil_append, List.length_nil] at this
  simp only [k4, this]
  rw [if_pos (by simpa using hv)]

theorem abs0 (T : SlTy P t e sz) (h : Heap) : abuildSlice P h t 0 [] = some (.slice (some ⟨hsz h, 0, none⟩) 0 FULL, hpush h (.cells [] sz true true)) := by
  obtain ⟨ti, te, z, k1, k2, k3, k4, k5, k6, k7, k8, k9, k10⟩ := T.ex
  subst k4
  simp only [abuildSlice, k1, k2, k3, k7]
  rw [if_pos ⟨k8, by omega, by omega, by omega⟩]
  simp [fillA, zerosA]
theorem abs1 (T : SlTy P t e 1) (h : Heap) (a : Value) (ha : isCell a = true) : abuildSlice P h t 1 [(0, a)] = some (.slice (some ⟨hsz h, 0, none⟩) 1 FULL, hpush h (.cells [a] 1 true true)) :=
  abs_row T h [a] (by simp [ha]) (by simp) _ _ rfl rfl
theorem abs2 (T : SlTy P t e 1) (h : Heap) (a b : Value) (ha : isCell a = true) (hb : isCell b = true) : abuildSlice P h t 2 [(0, a), (1, b)] = some (.slice (some ⟨hsz h, 0, none⟩) 2 FULL, hpush h (.cells [a, b] 1 true true)) :=
  abs_row T h [a, b] (by simp [ha, hb]) (by simp) _ _ rfl rfl
theorem abs3 (T : SlTy P t e 1) (h : Heap) (a b c : Value) (ha : isCell a = true) (hb : isCell b = true) (hc : isCell c = true) : abuildSlice P h t 3 [(0, a), (1, b), (2, c)] = some (.slice (some ⟨hsz h, 0, none⟩) 3 FULL, hpush h (.cells [a, b, c] 1 true true)) :=
  abs_row T h [a, b, c] (by simp [ha, hb, hc]) (by simp) _ _ rfl rfl
end

/-! ### Memory -/
theorem hget_ge {h : Heap} {i : Nat} (hi : hsz h ≤ i) : hget h i = none := List.getElem?_eq_none hi
theorem hsz_putO (h : Heap) (i : Nat) (b : Blk) : hsz (hput h i b) = hsz h := by simp [hsz, hput]
theorem hget_put' (h : Heap) (i j : Nat) (b : Blk) : hget (hput h i b) j = if j = i ∧ i < hsz h then some b else hget h j := by
  unfold hget hput hsz
  rw [List.getElem?_set]
  by_cases e : i = j
  · subst e
    by_cases hl : i < h.length
    · simp [hl]
    · simp [hl]
  · rw [if_neg e, if_neg (by omega)]
theorem hget_push' (h : Heap) (b : Blk) (i : Nat) : hget (hpush h b) i = if i = hsz h then some b else hget h i := by
  unfold hget hpush hsz
  by_cases e : i = h.length
  · subst e; simp
  · rw [if_neg e]
    by_cases hl : i < h.length
    · rw [List.getElem?_append_left hl]
    · rw [List.getElem?_eq_none (by simp; omega), List.getElem?_eq_none (by omega)]
theorem hget_push_old {h : Heap} {b : Blk} {i : Nat} (hi : i < hsz h) : hget (hpush h b) i = hget h i := by rw [hget_push', if_neg (by omega)]
theorem hget_push_new {h : Heap} {b : Blk} : hget (hpush h b) (hsz h) = some b := by rw [hget_push', if_pos rfl]
theorem hsz_push' (h : Heap) (b : Blk) : hsz (hpush h b) = hsz h + 1 := by simp [hsz, hpush]

/-! ### Frames -/
theorem fset_same (fr : Fr) (t : Nat) (v : Value) : fset fr t v t = v := by simp [fset]
theorem fset_ne (fr : Fr) (t j : Nat) (v : Value) (h : j ≠ t) : fset fr t v j = fr j := by simp [fset, h]

/-! ### Operators on whole numbers, bools and strings -/
section
variable (P : Program) (t : TypeId)
theorem bin_lss (k : IntKind) (x y : Int) : abinOp P .lss t (.int k x) (.int k y) = some (.bool (decide (x < y))) := by cases k <;> rfl
theorem bin_leq (k : IntKind) (x y : Int) : abinOp P .leq t (.int k x) (.int k y) = some (.bool (decide (x ≤ y))) := by cases k <;> rfl
theorem bin_gtr (k : IntKind) (x y : Int) : abinOp P .gtr t (.int k x) (.int k y) = some (.bool (decide (x > y))) := by cases k <;> rfl
theorem bin_geq (k : IntKind) (x y : Int) : abinOp P .geq t (.int k x) (.int k y) = some (.bool (decide (x ≥ y))) := by cases k <;> rfl
theorem bin_eql (k : IntKind) (x y : Int) : abinOp P .eql t (.int k x) (.int k y) = some (.bool (x == y)) := by cases k <;> rfl
theorem bin_neq (k : IntKind) (x y : Int) : abinOp P .neq t (.int k x) (.int k y) = some (.bool (x != y)) := by cases k <;> rfl
theorem bin_add (k : IntKind) (x y : Int) : abinOp P .add t (.int k x) (.int k y) = some (.int k (k.wrap (x + y))) := by cases k <;> rfl
theorem bin_sub (k : IntKind) (x y : Int) : abinOp P .sub t (.int k x) (.int k y) = some (.int k (k.wrap (x - y))) := by cases k <;> rfl
theorem bin_mul (k : IntKind) (x y : Int) : abinOp P .mul t (.int k x) (.int k y) = some (.int k (k.wrap (x * y))) := by cases k <;> rfl
theorem bin_eqlS (x y : ByteArray) : abinOp P .eql t (.string x) (.string y) = some (.bool (x.toList == y.toList)) := rfl
theorem bin_neqS (x y : ByteArray) : abinOp P .neq t (.string x) (.string y) = some (.bool (!(x.toList == y.toList))) := rfl
end
theorem plain_bool (b : Bool) : plain (.bool b) = true := rfl
theorem plain_int (k : IntKind) (n : Int) : plain (.int k n) = true := rfl
theorem plain_str (s : ByteArray) : plain (.string s) = true := rfl
theorem un_not (P : Program) (b : Bool) : pureV P (Op.unary .not (.bool b)) = some (.bool (!b)) := rfl

end Gl
end

/- A call that is known at a small memory, at each greater one that holds it: what it makes is laid behind. -/
section
namespace Gl
open Go

mutual
/-- The same value, its addresses named anew. -/
inductive VN (E : Nat → Nat → Prop) : Value → Value → Prop
  | plain {v : Value} (h : plain v = true) : VN E v v
  | ptr {i j off : Nat} (h : E i j) : VN E (.pointer (some ⟨i, off, none⟩)) (.pointer (some ⟨j, off, none⟩))
  | slice {i j off n c : Nat} (h : E i j) : VN E (.slice (some ⟨i, off, none⟩) n c) (.slice (some ⟨j, off, none⟩) n c)
  | any {a b : Addr} : VN E (.slice (some a) 0 ANY) (.slice (some b) 0 ANY)
  | map {i j : Nat} (h : E i j) : VN E (.map (some i)) (.map (some j))
  | func (fn : Fn) (hp : plainFn fn = true) {x y c d : Array Value} (hx : VNs E x.toList y.toList) (hc : VNs E c.toList d.toList) : VN E (.func fn x c) (.func fn y d)
  | agg {x y : Array Value} (h : VNs E x.toList y.toList) : VN E (.agg x) (.agg y)
  | tuple {x y : Array Value} (h : VNs E x.toList y.toList) : VN E (.tuple x) (.tuple y)
inductive VNs (E : Nat → Nat → Prop) : List Value → List Value → Prop
  | nil : VNs E [] []
  | cons {v w : Value} {l m : List Value} (h : VN E v w) (t : VNs E l m) : VNs E (v :: l) (w :: m)
end

theorem VNs.length {E : Nat → Nat → Prop} : ∀ {l m : List Value}, VNs E l m → l.length = m.length
  | _, _, .nil => rfl
  | _, _, .cons _ t => congrArg (· + 1) (VNs.length t)

theorem VNs.plain {E : Nat → Nat → Prop} : ∀ {l : List Value}, l.all Gl.plain = true → VNs E l l
  | [], _ => .nil
  | v :: l, h => by
    simp only [List.all_cons, Bool.and_eq_true] at h
    exact .cons (.plain h.1) (VNs.plain h.2)

theorem VNs.get {E : Nat → Nat → Prop} : ∀ {l m : List Value}, VNs E l m → ∀ {k : Nat} {v : Value}, m[k]? = some v → ∃ w, l[k]? = some w ∧ VN E w v
  | _, _, .nil, k, v, h => by simp at h
  | _, _, .cons h t, 0, v, e => by simp at e; exact ⟨_, rfl, e ▸ h⟩
  | _, _, .cons h t, k + 1, v, e => by simp only [List.getElem?_cons_succ] at e ⊢; exact VNs.get t e

def Carry (E : Nat → Nat → Prop) (ρ1 ρ2 : Rho) : Prop := ∀ i j g, E i j → ρ1 i = some g → ρ2 j = some g

mutual
theorem VR.turn {E : Nat → Nat → Prop} {ρ1 ρ2 : Rho} (hE : Carry E ρ1 ρ2) : ∀ {v w : Value}, VN E v w → ∀ {c : Value}, VR ρ1 c v → VR ρ2 c w
  | _, _, .plain h, c, hr => by rw [hr.plain h]; exact VR.ofPlain h
  | _, _, .ptr h, _, .ptr hg => .ptr (hE _ _ _ h hg)
  | _, _, .slice h, _, .slice hg h1 h2 h3 h4 => .slice (hE _ _ _ h hg) h1 h2 h3 h4
  | _, _, .slice h, _, .anySlice => .anySlice
  | _, _, .any, _, .slice hg h1 h2 h3 h4 => absurd rfl h3
  | _, _, .any, _, .anySlice => .anySlice
  | _, _, .map h, _, .map hg => .map (hE _ _ _ h hg)
  | _, _, .func fn hp hx hc, _, .func _ _ hx' hc' => .func fn hp (VRs.turn hE hx hx') (VRs.turn hE hc hc')
  | _, _, .func (.yield _) hp _ _, _, .yield _ => by cases hp
  | _, _, .agg h, _, .agg h' => .agg (VRs.turn hE h h')
  | _, _, .tuple h, _, .tuple h' => .tuple (VRs.turn hE h h')
theorem VRs.turn {E : Nat → Nat → Prop} {ρ1 ρ2 : Rho} (hE : Carry E ρ1 ρ2) : ∀ {v w : List Value}, VNs E v w → ∀ {c : List Value}, VRs ρ1 c v → VRs ρ2 c w
  | _, _, .nil, _, .nil => .nil
  | _, _, .cons h t, _, .cons h' t' => .cons (VR.turn hE h h') (VRs.turn hE t t')
end

/-- The same block, its addresses named anew. -/
inductive BN (E : Nat → Nat → Prop) : Blk → Blk → Prop
  | cells {c d : List Value} (esz : Nat) (rw full : Bool) (h : VNs E c d) : BN E (.cells c esz rw full) (.cells d esz rw full)
  | anyInt : BN E .anyInt .anyInt
  | table (c : List Value) : BN E (.table c) (.table c)
  | dead {b : Blk} : BN E b .dead

theorem BR.turn {E : Nat → Nat → Prop} {ρ1 ρ2 : Rho} (hE : Carry E ρ1 ρ2) {G : List Nat} {heap : Array Obj} {g : Gh} {b1 b2 : Blk} (hb : BN E b1 b2) (h : BR G ρ1 heap g b1) : BR G ρ2 heap g b2 := by
  cases hb with
  | cells esz rw full hv =>
    obtain ⟨c', e, fz, h1, h2⟩ := h
    refine ⟨c', e, fz, h1, { h2 with len := by rw [← hv.length]; exact h2.len, full := fun hf => by rw [← hv.length]; exact h2.full hf, get := fun k v hk => ?_ }⟩
    obtain ⟨w, hw, hvn⟩ := hv.get hk
    obtain ⟨v', e1, e2⟩ := h2.get k w hw
    exact ⟨v', e1, VR.turn hE hvn e2⟩
  | anyInt => exact h
  | table c => exact h
  | dead => trivial

theorem hget_append_left {h g : Heap} {i : Nat} (hi : i < hsz h) : hget (h ++ g) i = hget h i := by
  unfold hget hsz at *; exact List.getElem?_append_left hi
theorem hget_append_right {h g : Heap} {i : Nat} (hi : hsz h ≤ i) : hget (h ++ g) i = g[i - hsz h]? := by
  unfold hget hsz at *; exact List.getElem?_append_right hi
theorem hsz_append (h g : Heap) : hsz (h ++ g) = hsz h + g.length := by simp [hsz]

theorem BN.owned {E : Nat → Nat → Prop} {b c : Blk} (h : BN E b c) (ho : Gl.owned c = true) : Gl.owned b = true := by
  cases h with
  | cells esz rw full _ => exact ho
  | anyInt => exact ho
  | table _ => exact ho
  | dead => cases ho
theorem BN.live {E : Nat → Nat → Prop} {b c : Blk} (h : BN E b c) (ho : isDead c = false) : isDead b = false := by
  cases h with
  | cells esz rw full _ => exact ho
  | anyInt => exact ho
  | table _ => exact ho
  | dead => cases ho

section
variable {C : Ctx}

/-- What is said of a call that comes to one of some ends. -/
def FnSemQ (C : Ctx) (f : FuncId) (args : List Value) (h : Heap) (R : Value → Heap → Prop) : Prop :=
  (∃ fn, C.P.funcs[f]? = some fn ∧ (fn.name == "runtime.NumGoroutine") = false ∧ fn.body.isNone = false) ∧
  ∀ (ρ : Rho) (w : World) (cargs : Array Value), Rep C.G ρ w.heap h → VRs ρ cargs.toList args →
    Calls C.P f cargs w fun e w' => ∃ v h', R v h' ∧ ∃ ρ' vc, e = .returned vc ∧ VR ρ' vc v ∧ Rep C.G ρ' w'.heap h' ∧ Step ρ w h ρ' w' h'

theorem FnSem.q {f : FuncId} {args : List Value} {h h' : Heap} {v : Value} {R : Value → Heap → Prop} (hS : FnSem C f args h v h') (hr : R v h') : FnSemQ C f args h R :=
  ⟨hS.1, fun ρ w cargs hR hv => (hS.2 ρ w cargs hR hv).mono fun _ _ he => ⟨v, h', hr, he⟩⟩

/-- How addresses of the small memory stand to those of the greater one. -/
def Emb (n0 n : Nat) (e p : Nat → Nat) (m : Nat) (i j : Nat) : Prop := (i < n0 ∧ j = e i) ∨ ∃ k, k < m ∧ i = n0 + p k ∧ j = n + k

theorem FnSemQ.mono {f : FuncId} {args : List Value} {h : Heap} {R R' : Value → Heap → Prop} (hS : FnSemQ C f args h R) (hr : ∀ v h', R v h' → R' v h') : FnSemQ C f args h R' :=
  ⟨hS.1, fun ρ w cargs hR hv => (hS.2 ρ w cargs hR hv).mono fun _ _ ⟨v, h', k1, k2⟩ => ⟨v, h', hr _ _ k1, k2⟩⟩

/-- The call at the small memory h0; the greater one h holds h0's blocks, at the places e. What is kept of what was made: ks, at the places p behind h0. -/
theorem FnSemQ.embed {f : FuncId} {args0 args : List Value} {h0 h : Heap} {ks : List Blk} {v : Value} (e : Nat → Nat)
    (hS : FnSemQ C f args0 h0 fun v0 h0' => ∃ js p, h0' = h0 ++ js ∧ (∀ k b, ks[k]? = some b → ∃ b1, js[p k]? = some b1 ∧ BN (Emb (hsz h0) (hsz h) e p ks.length) b1 b) ∧
      (∀ k l, k < ks.length → l < ks.length → p k = p l → k = l) ∧ VN (Emb (hsz h0) (hsz h) e p ks.length) v0 v)
    (hG : ∀ i ∈ C.G, i < hsz h0 ∧ e i = i)
    (hblk : ∀ i b0, hget h0 i = some b0 → ∃ b, hget h (e i) = some b ∧ BN (fun j i => i < hsz h0 ∧ j = e i) b b0 ∧ (isDead b0 = false → BN (fun i j => i < hsz h0 ∧ j = e i) b0 b))
    (hinj : ∀ i j b b', hget h0 i = some b → hget h0 j = some b' → isDead b = false → isDead b' = false → e i = e j → i = j)
    (hargs : VNs (fun j i => i < hsz h0 ∧ j = e i) args args0) : FnSem C f args h v (h ++ ks) := by
  refine ⟨hS.1, fun ρ w cargs R hcv => ?_⟩
  obtain ⟨ρ0, hρ0⟩ : ∃ ρ0 : Rho, ∀ i, ρ0 i = if i < hsz h0 then ρ (e i) else none := ⟨_, fun _ => rfl⟩
  have at0 : ∀ i, i < hsz h0 → ∃ b0, hget h0 i = some b0 := fun i hi => ⟨_, List.getElem?_eq_getElem hi⟩
  have r0 : ∀ i g, ρ0 i = some g → i < hsz h0 ∧ ρ (e i) = some g := by
    intro i g hi
    rw [hρ0] at hi
    split at hi
    · rename_i hl; exact ⟨hl, hi⟩
    · cases hi
  have C0 : Carry (fun j i => i < hsz h0 ∧ j = e i) ρ ρ0 := by
    rintro j i g ⟨h1, rfl⟩ h2
    rw [hρ0, if_pos h1]; exact h2
  have R0 : Rep C.G ρ0 w.heap h0 := by
    refine ⟨fun i g hi => ?_, fun i j g g' b b' h1 h2 h3 h4 ho hd hgg => ?_, fun i hi => ?_, fun i g hi => R.lt _ g (r0 i g hi).2⟩
    · obtain ⟨hl, hi'⟩ := r0 i g hi
      obtain ⟨b0, hb0⟩ := at0 i hl
      obtain ⟨b, hb, hbn, _⟩ := hblk i b0 hb0
      obtain ⟨b', hb', hR⟩ := R.blk _ g hi'
      rw [hb] at hb'; cases hb'
      exact ⟨b0, hb0, BR.turn C0 hbn hR⟩
    · obtain ⟨x, hx, hxn, _⟩ := hblk i b h3
      obtain ⟨y, hy, hyn, _⟩ := hblk j b' h4
      have := R.inj _ _ g g' x y (r0 i g h1).2 (r0 j g' h2).2 hx hy (hxn.owned ho) (hyn.live hd) hgg
      exact hinj i j b b' h3 h4 (by cases b <;> (first | rfl | cases ho)) hd this
    · obtain ⟨g, h1, h2, h3⟩ := R.glob i hi
      obtain ⟨h4, h5⟩ := hG i hi
      exact ⟨g, by rw [hρ0, if_pos h4, h5]; exact h1, h2, h3⟩
  refine (hS.2 ρ0 w cargs R0 (VRs.turn C0 hargs hcv)).mono fun en w' he => ?_
  obtain ⟨v0, h0', ⟨js, p, rfl, hp, hpi, hv⟩, ρ1, vc, rfl, hvr, R1, S⟩ := he
  obtain ⟨ρ2, hρ2⟩ : ∃ ρ2 : Rho, ∀ i, ρ2 i = if i < hsz h then ρ i else if i - hsz h < ks.length then ρ1 (hsz h0 + p (i - hsz h)) else none := ⟨_, fun _ => rfl⟩
  have old : ∀ i g, ρ i = some g → i < hsz h := fun i g hi => by
    obtain ⟨b, hb, _⟩ := R.blk i g hi
    exact (List.getElem?_eq_some_iff.1 hb).1
  have sub2 : Sub ρ ρ2 := fun i g hi => by rw [hρ2, if_pos (old i g hi)]; exact hi
  have small1 : ∀ i g, i < hsz h0 → ρ1 i = some g → ρ0 i = some g := by
    intro i g hi h1
    cases hr : ρ0 i with
    | none => have := (S.new i g h1 hr).1; omega
    | some g' => have := S.sub i g' hr; rw [h1] at this; exact this.symm
  have C2 : Carry (Emb (hsz h0) (hsz h) e p ks.length) ρ1 ρ2 := by
    rintro i j g (⟨h1, rfl⟩ | ⟨k, h1, rfl, rfl⟩) h2
    · exact sub2 _ _ (r0 i g (small1 i g h1 h2)).2
    · rw [hρ2, if_neg (by omega), if_pos (by omega), show hsz h + k - hsz h = k by omega]; exact h2
  have C2' : Carry (fun i j => i < hsz h0 ∧ j = e i) ρ1 ρ2 := fun i j g h1 h2 => C2 i j g (.inl h1) h2
  have new2 : ∀ i g, ¬ i < hsz h → ρ2 i = some g → ∃ k, k < ks.length ∧ i = hsz h + k ∧ ρ1 (hsz h0 + p k) = some g := by
    intro i g hi h1
    rw [hρ2, if_neg hi] at h1
    split at h1
    · exact ⟨i - hsz h, by assumption, by omega, h1⟩
    · cases h1
  have kept : ∀ k, k < ks.length → ∃ b b1, ks[k]? = some b ∧ hget (h0 ++ js) (hsz h0 + p k) = some b1 ∧ BN (Emb (hsz h0) (hsz h) e p ks.length) b1 b ∧ p k < js.length := by
    intro k hk
    obtain ⟨b1, h1, h2⟩ := hp k ks[k] (List.getElem?_eq_getElem hk)
    refine ⟨ks[k], b1, List.getElem?_eq_getElem hk, ?_, h2, (List.getElem?_eq_some_iff.1 h1).1⟩
    rw [hget_append_right (by omega), show hsz h0 + p k - hsz h0 = p k by omega]; exact h1
  have getOld : ∀ i, i < hsz h → hget (h ++ ks) i = hget h i := fun i hi => hget_append_left hi
  have getNew : ∀ k, hget (h ++ ks) (hsz h + k) = ks[k]? := fun k => by rw [hget_append_right (by omega), show hsz h + k - hsz h = k by omega]
  -- an old block and a new one lie apart
  have far : ∀ k g b1, k < ks.length → ρ1 (hsz h0 + p k) = some g → hget (h0 ++ js) (hsz h0 + p k) = some b1 → isDead b1 = false → w.heap.size ≤ g.blk := by
    intro k g b1 hk h1 h2 h3
    rcases (S.new _ g h1 (by rw [hρ0, if_neg (by omega)])).2 with h | ⟨j0, gj, b0, h4, h5, h6, h7⟩
    · exact h
    · have l0 := (r0 j0 gj h4).1
      have := R1.inj j0 _ gj g b0 b1 (S.sub _ _ h4) h1 (by rw [hget_append_left l0]; exact h5) h2 h6 h3 h7
      omega
  have R2 : Rep C.G ρ2 w'.heap (h ++ ks) := by
    refine ⟨fun i g hi => ?_, fun i j g g' b b' h1 h2 h3 h4 ho hd hgg => ?_, fun i hi => ?_, fun i g hi => ?_⟩
    · by_cases hl : i < hsz h
      · rw [hρ2, if_pos hl] at hi
        obtain ⟨b, hb, hR⟩ := R.blk i g hi
        refine ⟨b, by rw [getOld i hl]; exact hb, ?_⟩
        by_cases hd : isDead b = true
        · cases b <;> simp [isDead] at hd
          trivial
        · by_cases hx : ∃ i0 b0, hget h0 i0 = some b0 ∧ isDead b0 = false ∧ e i0 = i
          · obtain ⟨i0, b0, h1, h2, rfl⟩ := hx
            have l0 : i0 < hsz h0 := (List.getElem?_eq_some_iff.1 h1).1
            obtain ⟨b', hb', _, hbn⟩ := hblk i0 b0 h1
            rw [hb] at hb'; cases hb'
            have hr0 : ρ0 i0 = some g := by rw [hρ0, if_pos l0]; exact hi
            obtain ⟨b1, hb1, hR1⟩ := R1.blk i0 g (S.sub _ _ hr0)
            rw [hget_append_left l0, h1] at hb1; cases hb1
            exact BR.turn C2' (hbn h2) hR1
          · refine hR.mono sub2 (S.keep _ (R.lt i g hi) fun i' g' b' k1 k2 k3 k4 => ?_)
            obtain ⟨x, hx', hxn, _⟩ := hblk i' b' k2
            have := R.inj _ _ g' g x b (r0 i' g' k1).2 hi hx' hb (hxn.owned k3) (by simpa using hd) k4
            exact hx ⟨i', b', k2, (by cases b' <;> first | rfl | cases k3), this⟩
      · obtain ⟨k, hk, rfl, h1⟩ := new2 i g hl hi
        obtain ⟨b, b1, h2, h3, h4, _⟩ := kept k hk
        obtain ⟨b1', h5, h6⟩ := R1.blk _ g h1
        rw [h3] at h5; cases h5
        exact ⟨b, by rw [getNew]; exact h2, BR.turn C2 h4 h6⟩
    · have liveO : ∀ {x : Blk}, owned x = true → isDead x = false := fun {x} h => by cases x <;> first | rfl | cases h
      by_cases li : i < hsz h <;> by_cases lj : j < hsz h
      · rw [hρ2, if_pos li] at h1
        rw [hρ2, if_pos lj] at h2
        rw [getOld i li] at h3
        rw [getOld j lj] at h4
        exact R.inj i j g g' b b' h1 h2 h3 h4 ho hd hgg
      · rw [hρ2, if_pos li] at h1
        obtain ⟨l, hl, rfl, h2'⟩ := new2 j g' lj h2
        obtain ⟨x, x1, k2, k3, k4, _⟩ := kept l hl
        rw [getNew, k2] at h4; cases h4
        have a := far l g' x1 hl h2' k3 (k4.live hd)
        have b := R.lt i g h1
        omega
      · rw [hρ2, if_pos lj] at h2
        obtain ⟨l, hl, rfl, h1'⟩ := new2 i g li h1
        obtain ⟨x, x1, k2, k3, k4, _⟩ := kept l hl
        rw [getNew, k2] at h3; cases h3
        have a := far l g x1 hl h1' k3 (k4.live (liveO ho))
        have b := R.lt j g' h2
        omega
      · obtain ⟨k, hk, rfl, h1'⟩ := new2 i g li h1
        obtain ⟨l, hl, rfl, h2'⟩ := new2 j g' lj h2
        obtain ⟨x, x1, k2, k3, k4, _⟩ := kept k hk
        obtain ⟨y, y1, l2, l3, l4, _⟩ := kept l hl
        rw [getNew, k2] at h3; cases h3
        rw [getNew, l2] at h4; cases h4
        have := R1.inj _ _ g g' x1 y1 h1' h2' k3 l3 (k4.owned ho) (l4.live hd) hgg
        rw [hpi k l hk hl (by omega)]
    · obtain ⟨g, h1, h2⟩ := R.glob i hi
      exact ⟨g, sub2 _ _ h1, h2⟩
    · by_cases hl : i < hsz h
      · rw [hρ2, if_pos hl] at hi
        exact Nat.lt_of_lt_of_le (R.lt i g hi) S.size
      · obtain ⟨k, hk, rfl, h1⟩ := new2 i g hl hi
        exact R1.lt _ g h1
  refine ⟨ρ2, vc, rfl, VR.turn C2 hv hvr, R2, ?_⟩
  refine ⟨sub2, fun i g h1 h2 => ?_, S.size, fun r hr hk => ?_, fun i b' hi hb ho => ?_, fun i b' hi hb ho => ?_, by rw [hsz_append]; omega, fun i h1 h2 => ?_, S.os, S.tape, S.output⟩
  · have hl : ¬ i < hsz h := fun hl => by rw [hρ2, if_pos hl, h2] at h1; cases h1
    refine ⟨by omega, ?_⟩
    obtain ⟨k, hk, rfl, h1'⟩ := new2 i g hl h1
    rcases (S.new _ g h1' (by rw [hρ0, if_neg (by omega)])).2 with h | ⟨j0, gj, b0, h4, h5, h6, h7⟩
    · exact .inl h
    · obtain ⟨x, hx, hxn, _⟩ := hblk j0 b0 h5
      exact .inr ⟨e j0, gj, x, (r0 j0 gj h4).2, hx, hxn.owned h6, h7⟩
  · refine S.keep r hr fun i g b h1 h2 h3 => ?_
    obtain ⟨x, hx, hxn, _⟩ := hblk i b h2
    exact hk _ g x (r0 i g h1).2 hx (hxn.owned h3)
  · rw [getOld i hi] at hb; exact ⟨b', hb, ho⟩
  · rw [getOld i hi] at hb; exact ⟨b', hb, ho⟩
  · rw [hsz_append] at h2
    obtain ⟨b, b1, _, _, _, h3⟩ := kept (i - hsz h) (by omega)
    obtain ⟨g, hg⟩ := S.tot (hsz h0 + p (i - hsz h)) (by omega) (by rw [hsz_append]; omega)
    exact ⟨g, by rw [hρ2, if_neg (by omega), if_pos (by omega)]; exact hg⟩

theorem FnSem.embed {f : FuncId} {args0 args : List Value} {h0 h : Heap} {js ks : List Blk} {v0 v : Value} (hS : FnSem C f args0 h0 v0 (h0 ++ js)) (e p : Nat → Nat)
    (hG : ∀ i ∈ C.G, i < hsz h0 ∧ e i = i)
    (hblk : ∀ i b0, hget h0 i = some b0 → ∃ b, hget h (e i) = some b ∧ BN (fun j i => i < hsz h0 ∧ j = e i) b b0 ∧ (isDead b0 = false → BN (fun i j => i < hsz h0 ∧ j = e i) b0 b))
    (hinj : ∀ i j b b', hget h0 i = some b → hget h0 j = some b' → isDead b = false → isDead b' = false → e i = e j → i = j)
    (hargs : VNs (fun j i => i < hsz h0 ∧ j = e i) args args0)
    (hp : ∀ k b, ks[k]? = some b → ∃ b1, js[p k]? = some b1 ∧ BN (Emb (hsz h0) (hsz h) e p ks.length) b1 b)
    (hpi : ∀ k l, k < ks.length → l < ks.length → p k = p l → k = l)
    (hv : VN (Emb (hsz h0) (hsz h) e p ks.length) v0 v) : FnSem C f args h v (h ++ ks) :=
  FnSemQ.embed e (hS.q ⟨js, p, rfl, hp, hpi, hv⟩) hG hblk hinj hargs

end
end Gl
end
