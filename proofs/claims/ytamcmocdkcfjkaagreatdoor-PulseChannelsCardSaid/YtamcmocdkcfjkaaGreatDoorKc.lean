/-
  The evaluator's steps as rewrite rules, and rules on frames and memory.
-/
import Derived.Test.YtamcmocdkcfjkaaGreatDoorKa
import Derived.Test.YtamcmocdkcfjkaaGreatDoorKb
import Derived.Laws.BytesString
import Derived.RangeFuncLeaves
import Derived.RangeFuncIn
set_option linter.all false
/- The evaluator's steps as rewrite rules, and rules on frames and memory. -/
section
namespace Gl
open Go

section
variable (C : Ctx) (rnd : Bool) (nt : Nat) (k : List AItem) (fr : Fr) (h : Heap)

theorem ev_nil : ev C rnd nt [] fr h = some (.normal, fr, h) := by rw [ev_def, evG]
theorem ev_inBlock (id : Nat) : ev C rnd nt (.inBlock id :: k) fr h = ev C rnd nt k fr h := by rw [ev_def, evG]
theorem ev_inLoop (b : Code) : ev C rnd nt (.inLoop b :: k) fr h = ev C rnd nt (.code b :: .inLoop b :: k) fr h := by rw [ev_def, evG]
theorem ev_inScope (b : Code) : ev C rnd nt (.inScope b :: k) fr h = ev C rnd nt k fr h := by rw [ev_def, evG]
theorem ev_scope (b : Code) : ev C rnd nt (.code (.scope b) :: k) fr h = ev C rnd nt (.code b :: .inScope b :: k) fr h := by rw [ev_def, evG]
theorem ev_skip : ev C rnd nt (.code .skip :: k) fr h = ev C rnd nt k fr h := by rw [ev_def, evG]
theorem ev_label (l : Nat) : ev C rnd nt (.code (.label l) :: k) fr h = ev C rnd nt k fr h := by rw [ev_def, evG]
theorem ev_seq (a b : Code) : ev C rnd nt (.code (.seq a b) :: k) fr h = ev C rnd nt (.code a :: .code b :: k) fr h := by rw [ev_def, evG]
/-- a test, its value given -/
noncomputable def evCond (v : Value) (A B : Option (Out × Fr × Heap)) : Option (Out × Fr × Heap) :=
  match v with | .bool true => A | .bool false => B | _ => none
theorem evCond_bool (b : Bool) (A B : Option (Out × Fr × Heap)) : evCond (.bool b) A B = if b = true then A else B := by cases b <;> rfl
theorem ev_cond (c : Operand) (a b : Code) : ev C rnd nt (.code (.cond c a b) :: k) fr h =
    evCond (feval fr c) (ev C rnd nt (.code a :: k) fr h) (ev C rnd nt (.code b :: k) fr h) := by
  rw [ev_def, evG]; rfl
theorem ev_block (id : Nat) (b : Code) : ev C rnd nt (.code (.block id b) :: k) fr h = ev C rnd nt (.code b :: .inBlock id :: k) fr h := by rw [ev_def, evG]
theorem ev_loop (b : Code) : ev C rnd nt (.code (.loop b) :: k) fr h = ev C rnd nt (.inLoop b :: k) fr h := by rw [ev_inLoop, ev_def, evG]
theorem ev_exit (id : Nat) : ev C rnd nt (.code (.exit id) :: k) fr h = match exitA id k with
    | some k' => ev C rnd nt k' fr h
    | none => some (.exit id, fr, h) := by rw [ev_def, evG]; rfl
theorem ev_ret : ev C rnd nt (.code .ret :: k) fr h = some (.ret, fr, h) := by rw [ev_def, evG]
theorem ev_region (id : Nat) (ops : Array Oper) (d : Bool) : ev C rnd nt (.code (.region id ops d) :: k) fr h = ev C rnd nt (.ops d ops 0 [] [] :: k) fr h := by rw [ev_def, evG]

/-- The call of a function. -/
noncomputable def evF (C : Ctx) (f : FuncId) (args : List Value) (h : Heap) : Option (Value × Heap) :=
  match C.X f with
  | some g => g args h
  | none => match fnB C.G C.P f with
    | some B => if args.length ≤ B.nt then ev C false B.nt [.code B.code] (initFr args) h >>= fun q => finF C.P B q else none
    | none => none

/-- One operation that is no call of yield. -/
noncomputable def opRes (C : Ctx) (o : Oper) (fr : Fr) (h : Heap) : Option (Value × Heap) :=
  match calleeOf o.op with
  | some (f, xs) => match target (feval fr f) (xs.map (feval fr)) with
    | some (.fn f args) => evF C f args h
    | _ => none
  | none => aop C.P o.op o.type fr h

theorem ev_ops_end (d : Bool) (ops : Array Oper) (i : Nat) (es : List (Nat × Heap × Heap)) (rs : List (Nat × Nat)) (hi : ops[i]? = none) :
    ev C rnd nt (.ops d ops i es rs :: k) fr h = ev C rnd nt k fr h := by
  rw [ev_def, evG]; simp only [hi]

theorem ev_ops_skip (d : Bool) (ops : Array Oper) (i : Nat) (es : List (Nat × Heap × Heap)) (rs : List (Nat × Nat)) (o : Oper) (hi : ops[i]? = some o)
    (hw : wantedA ops o fr = false) : ev C rnd nt (.ops d ops i es rs :: k) fr h = ev C rnd nt (.ops d ops (i + 1) es rs :: k) (fput fr o.dst undef) h := by
  rw [ev_def, evG]; simp only [hi, hw]; rfl

theorem ev_ops_step (d : Bool) (ops : Array Oper) (i : Nat) (es : List (Nat × Heap × Heap)) (rs : List (Nat × Nat)) (o : Oper) (v : Value) (h' : Heap)
    (hi : ops[i]? = some o) (hw : wantedA ops o fr = true) (hr : opRes C o fr h = some (v, h')) (hd : lookD d ops o.op fr h h' i es rs = true) :
    ev C rnd nt (.ops d ops i es rs :: k) fr h = ev C rnd nt (.ops d ops (i + 1) (grown o.op fr h h' i es rs).1 (grown o.op fr h h' i es rs).2 :: k) (fput fr o.dst v) h' := by
  rw [ev_def, evG]
  simp only [hi, hw, if_true]
  unfold opRes at hr
  split
  · rename_i f xs hc
    simp only [hc] at hr
    split
    · rename_i f' args ht
      simp only [ht] at hr
      unfold evF at hr
      refine Eq.trans (congrArg (fun x => x >>= _) hr) ?_
      simp [hd]
    · rename_i l args ht
      simp [ht] at hr
    · rename_i ht
      simp [ht] at hr
  · rename_i hc
    simp only [hc] at hr
    rw [hr]
    simp [hd]


/-- Is it a call of a loop's yield? -/
def yieldCall (o : Oper) (fr : Fr) : Bool :=
  match calleeOf o.op with
  | some (f, xs) => match target (feval fr f) (xs.map (feval fr)) with
    | some (.yield _ _) => true
    | _ => false
  | none => false

/-- The same, under a name that hides it from the rules. -/
noncomputable def evYield (C : Ctx) (rnd : Bool) (nt : Nat) (d : Bool) (ops : Array Oper) (i : Nat) (es : List (Nat × Heap × Heap)) (rs : List (Nat × Nat)) (k : List AItem) (fr : Fr) (h : Heap) : Option (Out × Fr × Heap) :=
  ev C rnd nt (.ops d ops i es rs :: k) fr h

/-- Behind an operation. -/
noncomputable def evR (C : Ctx) (rnd : Bool) (nt : Nat) (d : Bool) (ops : Array Oper) (i : Nat) (es : List (Nat × Heap × Heap)) (rs : List (Nat × Nat)) (k : List AItem) (fr : Fr) (h : Heap) (o : Oper) (r : Option (Value × Heap)) : Option (Out × Fr × Heap) :=
  match r with
  | some (v, h') => if lookD d ops o.op fr h h' i es rs then ev C rnd nt (.ops d ops (i + 1) (grown o.op fr h h' i es rs).1 (grown o.op fr h h' i es rs).2 :: k) (fput fr o.dst v) h' else none
  | none => none

noncomputable def evO (C : Ctx) (rnd : Bool) (nt : Nat) (d : Bool) (ops : Array Oper) (i : Nat) (es : List (Nat × Heap × Heap)) (rs : List (Nat × Nat)) (k : List AItem) (fr : Fr) (h : Heap) (o : Option Oper) : Option (Out × Fr × Heap) :=
  match o with
  | none => ev C rnd nt k fr h
  | some o =>
    if wantedA ops o fr then
      if yieldCall o fr then evYield C rnd nt d ops i es rs k fr h
      else evR C rnd nt d ops i es rs k fr h o (opRes C o fr h)
    else ev C rnd nt (.ops d ops (i + 1) es rs :: k) (fput fr o.dst undef) h

theorem ev_ops (d : Bool) (ops : Array Oper) (i : Nat) (es : List (Nat × Heap × Heap)) (rs : List (Nat × Nat)) :
    ev C rnd nt (.ops d ops i es rs :: k) fr h = evO C rnd nt d ops i es rs k fr h ops[i]? := by
  cases hi : ops[i]? with
  | none => rw [ev_ops_end (hi := hi)]; rfl
  | some o =>
    simp only [evO]
    by_cases hw : wantedA ops o fr = true
    · simp only [hw, if_true]
      by_cases hy : yieldCall o fr = true
      · simp only [hy, if_true, evYield]
      · simp only [hy]
        rw [ev_def, evG]
        simp only [hi, hw, if_true]
        unfold yieldCall at hy
        unfold opRes
        split
        · rename_i f xs hc
          simp only [hc] at hy ⊢
          split
          · rename_i f' args ht
            simp only [ht] at hy ⊢
            cases hr : evF C f' args h with
            | none =>
              unfold evF at hr
              refine Eq.trans (congrArg (fun x => x >>= _) hr) ?_
              rfl
            | some r =>
              unfold evF at hr
              refine Eq.trans (congrArg (fun x => x >>= _) hr) ?_
              rfl
          · rename_i l args ht
            simp [ht] at hy
          · rename_i ht
            simp only [ht]; rfl
        · rename_i hc
          simp only [hc] at hy ⊢
          cases aop C.P o.op o.type fr h <;> rfl
    · rw [ev_ops_skip (hi := hi) (hw := by simpa using hw)]
      simp [hw]
end
end Gl
end

/- Conversions, iterators; and all operations together. -/
section
namespace Gl
open Go

section
variable {G : List Nat} {ρ : Rho} {w : World} {h : Heap} {P : Program}

theorem bytesOf_ok : ∀ {l : List Value} {r : List UInt8}, bytesOf l = some r → ∃ ns : List Int, l = ns.map (Value.int .u8) ∧ ∀ s : ByteArray, ns.foldl (fun r n => r.push (UInt8.ofNat n.toNat)) s = ⟨(s.data.toList ++ r).toArray⟩
  | [], r, h => by
    simp [bytesOf] at h; subst h
    exact ⟨[], rfl, fun s => by simp⟩
  | v :: l, r, h => by
    unfold bytesOf at h
    split at h
    · rename_i heq; cases heq
    · rename_i n l' heq
      cases heq
      cases hb : bytesOf l with
      | none => rw [hb] at h; simp at h
      | some r' =>
        rw [hb] at h; simp at h; subst h
        obtain ⟨ns, h1, h2⟩ := bytesOf_ok hb
        refine ⟨n :: ns, by rw [h1]; rfl, fun s => ?_⟩
        rw [List.foldl_cons, h2]
        congr 1
        apply Array.ext'
        simp [ByteArray.push]
    · simp at h

theorem ints_plain : ∀ {c : List Value} {ns : List Int}, VRs ρ c (ns.map (Value.int .u8)) → c = ns.map (Value.int .u8)
  | _, [], .nil => rfl
  | _, n :: ns, .cons h t => by cases h; rw [ints_plain t]; rfl

theorem aconvert_ok (R : Rep G ρ w.heap h) {s d : TypeId} {x cx v : Value} {h' : Heap} (hx : VR ρ cx x) (hc : aconvert P h s d x = some (v, h')) :
    RunTo G P (convert s d cx) ρ w h v h' := by
  unfold aconvert at hc
  split at hc <;> try (simp at hc; done)
  rename_i si di hs hd
  split at hc
  · rename_i e b hdu
    split at hc <;> try (simp at hc; done)
    rename_i te hte
    split at hc <;> try (simp at hc; done)
    rename_i htu
    split at hc <;> simp at hc
    rename_i hcond
    obtain ⟨rfl, rfl⟩ := hc
    cases hx
    -- the row
    obtain ⟨c, hcdef⟩ : ∃ c, c = b.size + w.tape w.drawn (.appendCap b.size 0 e) % (2 ^ 63 - b.size) := ⟨_, rfl⟩
    have hc2 : c < 2 ^ 63 := by
      have := Nat.mod_lt (w.tape w.drawn (.appendCap b.size 0 e)) (show 0 < 2 ^ 63 - b.size by omega)
      omega
    obtain ⟨w1, hw1⟩ : ∃ w1 : World, w1 = { w with drawn := w.drawn + 1 } := ⟨_, rfl⟩
    have hch : (choose (.appendCap b.size 0 e)).run P w = .ok c w1 := by
      simp [choose, Sem.run, Question.forced, Question.cut, hcdef, hw1]
    obtain ⟨row, hrow⟩ : ∃ row : Array Value, row = b.data.map (fun c => Value.int .u8 c.toNat) ++ Array.replicate (c - b.size) (.int .u8 0) := ⟨_, rfl⟩
    have hbs : b.data.size = b.size := rfl
    have hrs : row.size = c := by rw [hrow]; simp [hbs]; omega
    obtain ⟨w2, hw2⟩ : ∃ w2 : World, w2 = ({ w1 with heap := w1.heap.push (.cells row e) } : World).freeze ⟨w.heap.size, row.size, none⟩ 1 := ⟨_, rfl⟩
    have hw2h : w2.heap = w.heap.push (.cells row e (row.size, row.size + 1)) := by
      rw [hw2, hw1]
      simp only [World.freeze]
      rw [if_neg (by decide)]
      apply Array.ext_getElem?
      intro i
      simp only [Array.getElem?_modify, Array.getElem?_push]
      by_cases h1 : w.heap.size = i
      · subst h1; simp
      · rw [if_neg h1]
        split
        · rename_i h2; exact absurd h2.symm h1
        · rfl
    have hbl : (b.data.toList.map fun c => Value.int .u8 c.toNat).length = b.size := by simp
    have htake : row.toList.take b.size = b.data.toList.map fun c => Value.int .u8 c.toNat := by
      rw [hrow, Array.toList_append, List.take_append_of_le_length (by simp), List.take_of_length_le (by simp)]
      simp
    obtain ⟨hR2, hS2⟩ := newCells_ok R row (b.data.toList.map fun c => Value.int .u8 c.toNat) 1 false e (row.size, row.size + 1) (by
      rw [hbl, htake]; exact VRs.map _ _ _ (fun _ _ => .int _ _)) (fun hf => by simp at hf) (fun k hk => by simp; omega) w2 hw2h (by rw [hw2, hw1]; rfl) (by rw [hw2, hw1]; rfl) (by rw [hw2, hw1]; rfl)
    refine ⟨w2, _, .slice (some ⟨w.heap.size, 0, none⟩) b.size c, ?_, ?_, hR2, hS2⟩
    · unfold convert
      simp only [Sem.run_bind, run_und hs, run_und hd, Result.andThen_ok, hdu, run_und hte, htu]
      unfold Conv.stringToBytes
      simp only [Sem.run_bind, hch, Result.andThen_ok, newRow, run_newObj, Sem.run_pure, markStringish, run_shape]
      rw [← hrow]
      have hsh : ({ w1 with heap := w1.heap.push (.cells row e) } : World).shape? w.heap.size = some (e, row.size) := by
        simp only [World.shape?]
        rw [hw1]
        simp only [Array.getElem?_push_size]
      have hw1s : w1.heap.size = w.heap.size := by rw [hw1]
      rw [hw1s, hsh]
      simp only [run_freeze, Result.andThen_ok]
      rw [hw2]
    · refine VR.slice0 (ext_same _ _ _) rfl (by simp [hrs]) hc2
  · rename_i e a n c hsu hdu
    split at hc <;> try (simp at hc; done)
    rename_i te hte
    split at hc <;> try (simp at hc; done)
    rename_i htu
    split at hc <;> try (simp at hc; done)
    rename_i hcond
    split at hc <;> try (simp at hc; done)
    rename_i l hsrc
    split at hc <;> simp at hc
    rename_i hll
    obtain ⟨r, hbo, rfl, rfl⟩ := hc
    obtain ⟨ns, hns, hfold⟩ := bytesOf_ok hbo
    obtain ⟨_, cnew, hcn, hfc⟩ := src_ok (P := P) (m := n) R hx hsrc rfl (by omega)
    rw [hns] at hcn
    have hcn' := ints_plain hcn
    have hfc' := hfc w rfl
    refine RunTo.same R (vc := .string ⟨r.toArray⟩) ?_ (.string _)
    have hconv : ∀ (ca : Option Addr) (cn cc : Nat), cx = .slice ca cn cc → (convert s d cx).run P w = (Conv.bytesToString cx).run P w := by
      intro ca cn cc hcx
      subst hcx
      unfold convert
      simp only [Sem.run_bind, run_und hs, run_und hd, Result.andThen_ok, hsu, hdu]
      cases ca <;> simp only [Sem.run_bind, run_und hte, Result.andThen_ok, htu]
    cases hx with
    | nilSlice =>
      rw [hconv _ _ _ rfl]
      simp only [Conv.bytesToString, Sem.run_pure]
      have hn0 : n = 0 := by simpa using hcond.2
      have : r = [] := by
        have h1 : l.length = 0 := by omega
        have : l = [] := by simpa using h1
        subst this
        simp [bytesOf] at hbo; first | exact hbo | exact hbo.symm
      subst this
      rfl
    | slice hi c1 c2 c3 c4 =>
      rename_i i0 off0 cap0 g0 _
      rw [hconv _ _ _ rfl]
      have hlc : (loadCells ⟨g0.blk, g0.base + off0, none⟩ n).run P w = .ok (ns.map (Value.int .u8)).toArray w := by
        rw [hcn'] at hfc'
        simp only [Builtin.firstCells, Nat.mul_one] at hfc'
        exact hfc'
      rw [run_bytesToString w _ n _ ns hlc, hfold]
      simp
    | anySlice =>
      rw [hconv _ _ _ rfl]
      have hlc : ∀ a : Addr, (loadCells a 0).run P w = .ok (ns.map (Value.int .u8)).toArray w := by
        intro a
        have h1 : l = [] := by
          have : l.length = 0 := by omega
          simpa using this
        rw [h1] at hns
        have : ns = [] := by
          cases ns with
          | nil => rfl
          | cons _ _ => simp at hns
        subst this
        rfl
      rw [run_bytesToString w _ 0 _ ns (hlc _), hfold]
      simp
  · split at hc <;> try (simp at hc; done)
    rename_i hp
    cases hc2 : pureV P _ <;> rw [hc2] at hc <;> simp at hc
    obtain ⟨rfl, rfl⟩ := hc
    rw [hx.plain hp]
    exact pureV_ok R hc2

theorem VRs.mapOps {ev : Operand → Value} {fr : Fr} (l : List Operand) (h : ∀ x ∈ l, VR ρ (ev x) (feval fr x)) : VRs ρ (l.map ev) (l.map (feval fr)) := VRs.map ev (feval fr) l h

/-- What an operation's run comes to, in the machine's words. -/
def OpTo (G : List Nat) (P : Program) (s : Sem Next) (ρ : Rho) (w : World) (h : Heap) (v : Value) (h' : Heap) : Prop :=
  ∃ nx w' ρ' vc, s.run P w = .ok nx w' ∧ (nx = .value vc ∨ nx = .skip ∧ vc = undef) ∧ VR ρ' vc v ∧ Rep G ρ' w'.heap h' ∧ Step ρ w h ρ' w' h'

theorem OpTo.value {s : Sem Value} {v : Value} {h' : Heap} (hr : RunTo G P s ρ w h v h') : OpTo G P (do pure (.value (← s))) ρ w h v h' := by
  obtain ⟨w', ρ', vc, h1, h2, h3, h4⟩ := hr
  exact ⟨.value vc, w', ρ', vc, by simp only [Sem.run_bind, h1, Result.andThen_ok, Sem.run_pure], .inl rfl, h2, h3, h4⟩

theorem OpTo.unit {s : Sem Unit} {h' : Heap} (hr : ∃ w', s.run P w = .ok () w' ∧ Rep G ρ w'.heap h' ∧ Step ρ w h ρ w' h') : OpTo G P (do s; pure .skip) ρ w h undef h' := by
  obtain ⟨w', h1, h2, h3⟩ := hr
  exact ⟨.skip, w', ρ, undef, by simp only [Sem.run_bind, h1, Result.andThen_ok, Sem.run_pure], .inr ⟨rfl, rfl⟩, VR.undef, h2, h3⟩

theorem map_some {α β : Type} {f : α → β} {o : Option α} {b : β} (h : o.map f = some b) : ∃ a, o = some a ∧ f a = b := by
  cases o with
  | none => simp at h
  | some a => exact ⟨a, rfl, by simpa using h⟩

theorem parts_arr (ps : Array (Nat × Operand)) (evc : Operand → Value) : (ps.toList.map fun (i, x) => (i, evc x)).toArray = ps.map fun (i, x) => (i, evc x) := by
  apply Array.ext'; simp

theorem aop_ok (R : Rep G ρ w.heap h) {o : Oper} {evc : Operand → Value} {fr : Fr} {v : Value} {h' : Heap} (hops : ∀ x ∈ o.op.operands, VR ρ (evc x) (feval fr x))
    (ha : aop P o.op o.type fr h = some (v, h')) : OpTo G P (execOp evc o) ρ w h v h' := by
  obtain ⟨dst, op, type, pos, after, guard⟩ := o
  simp only at hops ha
  unfold execOp
  simp only
  cases op with
  | move x =>
    simp [aop] at ha; obtain ⟨rfl, rfl⟩ := ha
    exact ⟨_, w, ρ, _, rfl, .inl rfl, hops x (by simp [Op.operands]), R, Step.refl ρ w h⟩
  | assign x =>
    simp [aop] at ha; obtain ⟨rfl, rfl⟩ := ha
    exact ⟨_, w, ρ, _, rfl, .inl rfl, hops x (by simp [Op.operands]), R, Step.refl ρ w h⟩
  | pick c a b =>
    simp only [aop] at ha
    have hc := hops c (by simp [Op.operands])
    split at ha <;> try (simp at ha; done)
    rename_i t ht
    rw [ht] at hc
    simp at ha; obtain ⟨rfl, rfl⟩ := ha
    cases hcv : evc c <;> rw [hcv] at hc <;> cases hc
    refine ⟨.value (if t then evc a else evc b), w, ρ, _, by simp [hcv, asBool], .inl rfl, ?_, R, Step.refl ρ w h⟩
    cases t
    · exact hops b (by simp [Op.operands])
    · exact hops a (by simp [Op.operands])
  | alloc e =>
    simp only [aop] at ha
    split at ha <;> try (simp at ha; done)
    rename_i ti hti
    split at ha <;> try (simp at ha; done)
    rename_i z hz
    split at ha <;> try (simp at ha; done)
    rename_i hp
    simp only [Option.some.injEq] at ha
    have := OpTo.value (alloc_ok (P := P) R hti hz hp.1)
    rw [ha] at this
    exact this
  | box e x =>
    simp only [aop] at ha
    split at ha <;> try (simp at ha; done)
    simp only [Option.some.injEq] at ha
    have := OpTo.value (newVar_ok (P := P) R e (hops x (by simp [Op.operands])))
    rw [ha] at this
    exact this
  | build t ps =>
    simp only [aop] at ha
    obtain ⟨a, ha1, ha2⟩ := map_some ha
    simp at ha2; obtain ⟨rfl, rfl⟩ := ha2
    obtain ⟨p1, p2⟩ := parts_ok (ρ := ρ) (ps := ps.toList) (evc := evc) (fr := fr) (fun p hp => hops p.2 (by
      simp only [Op.operands, List.mem_toArray, List.mem_map]; exact ⟨p, hp, rfl⟩))
    have := OpTo.value (abuild_ok R p1 p2 ha1)
    rw [parts_arr] at this
    exact this
  | buildSlice t n ps =>
    simp only [aop] at ha
    obtain ⟨p1, p2⟩ := parts_ok (ρ := ρ) (ps := ps.toList) (evc := evc) (fr := fr) (fun p hp => hops p.2 (by
      simp only [Op.operands, List.mem_toArray, List.mem_map]; exact ⟨p, hp, rfl⟩))
    have := OpTo.value (abuildSlice_ok R p1 p2 ha)
    rw [parts_arr] at this
    exact this
  | load t a =>
    simp only [aop] at ha
    obtain ⟨x, ha1, ha2⟩ := map_some ha
    simp at ha2; obtain ⟨rfl, rfl⟩ := ha2
    obtain ⟨vc, h1, h2⟩ := aload_ok R (hops a (by simp [Op.operands])) ha1
    exact OpTo.value (RunTo.same R h1 h2)
  | store t a x =>
    simp only [aop] at ha
    obtain ⟨hh, ha1, ha2⟩ := map_some ha
    simp at ha2; obtain ⟨rfl, rfl⟩ := ha2
    exact OpTo.unit (astore_ok R (hops a (by simp [Op.operands])) (hops x (by simp [Op.operands])) ha1)
  | nilCheck x =>
    simp only [aop] at ha
    split at ha <;> try (simp at ha; done)
    rename_i hs
    simp at ha; obtain ⟨rfl, rfl⟩ := ha
    have hx := hops x (by simp [Op.operands])
    refine ⟨.value (evc x), w, ρ, _, ?_, .inl rfl, hx, R, Step.refl ρ w h⟩
    dsimp only
    generalize evc x = cx at hx ⊢
    generalize feval fr x = ax at hx hs
    clear hops
    cases hx with
    | ptr hi => rfl
    | func fn hp h1 h2 => cases fn <;> first | rfl | (simp [sliceOK] at hs; done)
    | _ => simp [sliceOK] at hs
  | binOp op t x y ty =>
    simp only [aop] at ha
    obtain ⟨u, ha1, ha2⟩ := map_some ha
    simp at ha2; obtain ⟨rfl, rfl⟩ := ha2
    exact OpTo.value (abinOp_ok R (hops x (by simp [Op.operands])) (hops y (by simp [Op.operands])) ha1)
  | unOp op t x =>
    simp only [aop] at ha
    split at ha <;> try (simp at ha; done)
    rename_i hp
    obtain ⟨u, ha1, ha2⟩ := map_some ha
    simp at ha2; obtain ⟨rfl, rfl⟩ := ha2
    dsimp only
    rw [(hops x (by simp [Op.operands])).plain hp]
    exact OpTo.value (pureV_ok R ha1)
  | convert s d x => exact OpTo.value (aconvert_ok R (hops x (by simp [Op.operands])) ha)
  | makeFunc fn first captured =>
    simp only [aop] at ha
    split at ha <;> simp at ha
    rename_i hp
    obtain ⟨rfl, rfl⟩ := ha
    refine OpTo.value (RunTo.same R (vc := .func fn (first.map evc) (captured.map evc)) rfl (.func fn hp ?_ ?_))
    · simpa using VRs.mapOps first.toList (fun x hx => hops x (by simp [Op.operands]; exact .inl (by simpa using hx)))
    · simpa using VRs.mapOps captured.toList (fun x hx => hops x (by simp [Op.operands]; exact .inr (by simpa using hx)))
  | makeMap t r =>
    have mk : RunTo G P (do pure (.map (some (← newObj (.map #[] 0))))) ρ w h (.map (some (hsz h))) (hpush h (.map [])) := by
      obtain ⟨h1, h2⟩ := R.alloc (.map #[] 0) (.map []) ⟨w.heap.size, 0, 0, 0⟩ rfl ⟨#[], 0, by simp, .nil, by simp [Born]⟩ { w with heap := w.heap.push (.map #[] 0) } rfl rfl rfl rfl
      exact ⟨_, _, .map (some w.heap.size), by simp, VR.map (ext_same _ _ _), h1, h2⟩
    simp only [aop] at ha
    split at ha
    · simp at ha; obtain ⟨rfl, rfl⟩ := ha
      refine OpTo.value ?_
      unfold Instr.makeMap
      simpa using mk
    · rename_i x
      split at ha <;> try (simp at ha; done)
      rename_i k n ti hx ht
      split at ha <;> simp at ha
      rename_i kt et hu
      obtain ⟨rfl, rfl⟩ := ha
      have hv := hops x (by simp [Op.operands])
      rw [hx] at hv
      refine OpTo.value ?_
      obtain ⟨w', ρ', vc, m1, m2⟩ := mk
      refine ⟨w', ρ', vc, ?_, m2⟩
      unfold Instr.makeMap
      cases hcv : evc x <;> rw [hcv] at hv <;> cases hv
      simp only [Option.map_some, hcv, Sem.run_bind, run_und ht, hu, Result.andThen_ok, asInt, asIntOf, Sem.run_pure]
      simpa using m1
  | makeSlice t l c => exact OpTo.value (amakeSlice_ok R (hops l (by simp [Op.operands])) (hops c (by simp [Op.operands])) ha)
  | slice t x lo hi mx =>
    simp only [aop] at ha
    split at ha <;> try (simp at ha; done)
    rename_i hmx
    obtain ⟨u, ha1, ha2⟩ := map_some ha
    simp at ha2; obtain ⟨rfl, rfl⟩ := ha2
    have ho : ∀ (o : Option Operand), (∀ y ∈ o.toArray, VR ρ (evc y) (feval fr y)) → OptR ρ (o.map (feval fr)) (o.map evc) := by
      intro o hy
      cases o with
      | none => trivial
      | some y => exact hy y (by simp)
    refine OpTo.value (aslice_ok R (hops x (by simp [Op.operands])) (ho lo fun y hy => hops y ?_) (ho hi fun y hy => hops y ?_) (ho mx fun y hy => hops y ?_) ?_ ha1)
    · simp only [Op.operands, Array.mem_append]; exact .inl (.inl (.inr hy))
    · simp only [Op.operands, Array.mem_append]; exact .inl (.inr hy)
    · simp only [Op.operands, Array.mem_append]; exact .inr hy
    · intro hn
      cases hi with
      | some _ => simp at hn
      | none => cases mx with
        | none => rfl
        | some _ => simp at hmx
  | fieldAddr t x f =>
    simp only [aop] at ha
    obtain ⟨u, ha1, ha2⟩ := map_some ha
    simp at ha2; obtain ⟨rfl, rfl⟩ := ha2
    exact OpTo.value (afieldAddr_ok R (hops x (by simp [Op.operands])) ha1)
  | field t x f =>
    simp only [aop] at ha
    obtain ⟨u, ha1, ha2⟩ := map_some ha
    simp at ha2; obtain ⟨rfl, rfl⟩ := ha2
    exact OpTo.value (afield_ok R (hops x (by simp [Op.operands])) ha1)
  | indexAddr t x i =>
    simp only [aop] at ha
    obtain ⟨u, ha1, ha2⟩ := map_some ha
    simp at ha2; obtain ⟨rfl, rfl⟩ := ha2
    exact OpTo.value (aindexAddr_ok R (hops x (by simp [Op.operands])) (hops i (by simp [Op.operands])) ha1)
  | index t x i =>
    simp only [aop] at ha
    obtain ⟨u, ha1, ha2⟩ := map_some ha
    simp at ha2; obtain ⟨rfl, rfl⟩ := ha2
    exact OpTo.value (aindex_ok R (hops x (by simp [Op.operands])) (hops i (by simp [Op.operands])) ha1)
  | lookup t x k ok =>
    simp only [aop] at ha
    obtain ⟨u, ha1, ha2⟩ := map_some ha
    simp at ha2; obtain ⟨rfl, rfl⟩ := ha2
    exact OpTo.value (alookup_ok R (hops x (by simp [Op.operands])) (hops k (by simp [Op.operands])) ha1)
  | mapUpdate t m k x =>
    simp only [aop] at ha
    obtain ⟨hh, ha1, ha2⟩ := map_some ha
    simp at ha2; obtain ⟨rfl, rfl⟩ := ha2
    exact OpTo.unit (amapUpdate_ok R (hops m (by simp [Op.operands])) (hops k (by simp [Op.operands])) (hops x (by simp [Op.operands])) ha1)
  | range t x =>
    simp only [aop] at ha
    split at ha <;> try (simp at ha; done)
    rename_i ti s ht hx
    split at ha <;> simp at ha
    rename_i hu
    obtain ⟨rfl, rfl⟩ := ha
    have hv := hops x (by simp [Op.operands])
    rw [hx] at hv
    cases hcv : evc x <;> rw [hcv] at hv <;> cases hv
    obtain ⟨h1, h2⟩ := R.alloc (.stringIter s 0) (.siter s 0) ⟨w.heap.size, 0, 0, 0⟩ rfl ⟨by simp, rfl⟩ { w with heap := w.heap.push (.stringIter s 0) } rfl rfl rfl rfl
    refine OpTo.value ⟨_, _, .pointer (some ⟨w.heap.size, 0, none⟩), ?_, VR.ptr0 (ext_same _ _ _) rfl, h1, h2⟩
    rw [hcv]
    unfold Instr.range
    simp [run_und ht, hu]
  | next it st =>
    cases st with
    | false => simp [aop] at ha
    | true =>
    simp only [aop] at ha
    split at ha <;> try (simp at ha; done)
    rename_i i hit
    split at ha <;> try (simp at ha; done)
    rename_i s pos hb
    have hv := hops it (by simp [Op.operands])
    rw [hit] at hv
    cases hcv : evc it <;> rw [hcv] at hv <;> cases hv
    rename_i g hi
    obtain ⟨b, hb', hR⟩ := R.blk i g hi
    rw [hb] at hb'; cases hb'
    obtain ⟨he, hbase⟩ := hR
    have hgo : (getObj g.blk).run P w = .ok (.stringIter s pos) w := by simp [getObj, Sem.run, he]
    split at ha
    · rename_i hlt
      simp at ha; obtain ⟨rfl, rfl⟩ := ha
      have hltb := R.lt i g hi
      obtain ⟨hR2, hS2⟩ := R.update (w' := { w with heap := w.heap.setIfInBounds g.blk (.stringIter s (pos + (Utf8.decode s pos).2)) }) hi hb rfl (by simp)
        (fun r hr => by simp [Array.getElem?_setIfInBounds_ne (Ne.symm hr)]) (b2 := .siter s (pos + (Utf8.decode s pos).2)) ⟨by simp [hltb], hbase⟩ rfl rfl rfl
      refine OpTo.value ⟨_, ρ, .tuple #[.bool true, .int .i64 pos, .int .i32 (Utf8.decode s pos).1], ?_, .tuple (.cons (.bool _) (.cons (.int _ _) (.cons (.int _ _) .nil))), hR2, hS2⟩
      rw [hcv]
      unfold Instr.next
      simp only [hbase, Nat.zero_add, Sem.run_bind, hgo, Result.andThen_ok]
      rw [if_pos hlt]
      simp [setObj, Sem.run, he, goInt]
    · rename_i hlt
      simp at ha; obtain ⟨rfl, rfl⟩ := ha
      refine OpTo.value (RunTo.same R (vc := .tuple #[.bool false]) ?_ (.tuple (.cons (.bool _) .nil)))
      rw [hcv]
      unfold Instr.next
      simp only [hbase, Nat.zero_add, Sem.run_bind, hgo, Result.andThen_ok]
      rw [if_neg hlt]
      rfl
  | extract x i =>
    simp only [aop] at ha
    split at ha <;> try (simp at ha; done)
    rename_i vs hx
    obtain ⟨u, ha1, ha2⟩ := map_some ha
    simp at ha2; obtain ⟨rfl, rfl⟩ := ha2
    have hv := hops x (by simp [Op.operands])
    rw [hx] at hv
    cases hcv : evc x <;> rw [hcv] at hv <;> cases hv
    rename_i cvs hvs
    obtain ⟨vc, e1, e2⟩ := hvs.get i u (by simpa using ha1)
    refine OpTo.value (RunTo.same R (vc := vc) ?_ e2)
    have e1' : cvs[i]? = some vc := by simpa using e1
    rw [hcv]
    simp [Instr.extract, e1']
  | call c =>
    simp only [aop] at ha
    split at ha <;> try (simp at ha; done)
    rename_i b hb
    obtain ⟨callee, args, argTypes⟩ := c
    simp only at hb ha
    subst hb
    have hargs : VRs ρ (args.map evc).toList (args.toList.map (feval fr)) := by
      simpa using VRs.mapOps args.toList (fun x hx => hops x (by simp [Op.operands, Call.operands]; simpa using hx))
    have key : ∀ consts, OpTo G P (builtin b argTypes type consts (args.map evc)) ρ w h v h' := by
      intro consts
      obtain ⟨s, hs1, hs2⟩ := abuiltin_ok (consts := consts) R hargs ha
      have := OpTo.value hs2
      rw [← hs1] at this
      exact this
    exact key _
  | _ => simp [aop] at ha

end
end Gl
end

/- What a run of the evaluator says of the machine: statements, and the small laws. -/
section
namespace Gl
open Go

/-- The fences that stand for nothing: outside of a round, and in one. -/
def FOK (F : Fence) : Prop := F = Fence.wide ∨ ∃ l, F = Fence.wide.inRound l

theorem FOK.fn {F : Fence} (h : FOK F) (f : FuncId) : F.fn f := by rcases h with rfl | ⟨l, rfl⟩ <;> trivial
theorem FOK.fenced {F : Fence} (h : FOK F) (P : Program) (m : Machine) : m.fenced P F := by
  rcases h with rfl | ⟨l, rfl⟩
  · exact fenced_wide P m
  · exact fenced_wide P m
theorem FOK.room {F : Fence} (h : FOK F) (n : Nat) : F.room n := by
  rcases h with rfl | ⟨l, rfl⟩
  · exact room_wide n
  · exact room_wide n
theorem FOK.depth {F : Fence} (h : FOK F) : F.depth = none := by rcases h with rfl | ⟨l, rfl⟩ <;> rfl
theorem FOK.calls {F : Fence} (h : FOK F) {n : Nat} {P : Program} {f : FuncId} {args : Array Value} {w : World} {R : Ending → World → Prop} (hc : CallsIn Fence.wide n P f args w R) : CallsIn F n P f args w R := by
  rcases h with rfl | ⟨l, rfl⟩
  · exact hc
  · exact hc

/-- The marks among the deferred calls: blocks without calls. -/
def DefR (lo : Nat) (w : World) (ds : List Deferred) : Prop :=
  lo ≤ w.heap.size ∧ ∃ bs : List Nat, ds = bs.map (fun D => { target := .collected D, args := #[] }) ∧ bs.Nodup ∧ ∀ D ∈ bs, lo ≤ D ∧ w.heap[D]? = some (.deferred (some []))

theorem DefR.nil (w : World) : DefR w.heap.size w [] := ⟨Nat.le_refl _, [], rfl, List.nodup_nil, fun _ h => by cases h⟩

theorem owned_obj {G : List Nat} {ρ : Rho} {heap : Array Obj} {g : Gh} {b : Blk} (hR : BR G ρ heap g b) (ho : owned b = true) {x : Option (List Deferred)} : heap[g.blk]? ≠ some (.deferred x) := by
  intro he
  cases b with
  | cells c esz rw full => obtain ⟨_, _, _, h, _⟩ := hR; rw [he] at h; cases h
  | map es => obtain ⟨_, _, h, _⟩ := hR; rw [he] at h; cases h
  | siter s pos => obtain ⟨h, _⟩ := hR; rw [he] at h; cases h
  | loop st pend nt fr ps as bd => obtain ⟨_, _, _, h, _⟩ := hR; rw [he] at h; cases h
  | anyInt => cases ho
  | table c => cases ho
  | dead => cases ho

theorem Step.deferred {G : List Nat} {ρ ρ' : Rho} {w w' : World} {h h' : Heap} (R : Rep G ρ w.heap h) (S : Step ρ w h ρ' w' h') {D : Nat} {x : Option (List Deferred)} (hD : w.heap[D]? = some (.deferred x)) :
    w'.heap[D]? = some (.deferred x) := by
  have hlt : D < w.heap.size := (Array.getElem?_eq_some_iff.1 hD).1
  rw [S.keep D hlt fun i g b hi hb ho hg => ?_]
  · exact hD
  · obtain ⟨b', hb', hR⟩ := R.blk i g hi
    rw [hb] at hb'; cases hb'
    exact owned_obj hR ho (hg ▸ hD)

theorem DefR.step {G : List Nat} {ρ ρ' : Rho} {w w' : World} {h h' : Heap} (R : Rep G ρ w.heap h) (S : Step ρ w h ρ' w' h') {lo : Nat} {ds : List Deferred} (hd : DefR lo w ds) : DefR lo w' ds := by
  obtain ⟨h0, bs, h1, h2, h3⟩ := hd
  exact ⟨Nat.le_trans h0 S.size, bs, h1, h2, fun D hD => ⟨(h3 D hD).1, S.deferred R (h3 D hD).2⟩⟩

/-! ### Frames -/

theorem FrR.put {ρ : Rho} {nt : Nat} {a : Act} {fr : Fr} {v vc : Value} {d : Option Nat} (h : FrR ρ nt a.tmps fr) (hv : VR ρ vc v) (hd : ∀ t, d = some t → t < nt) : FrR ρ nt (a.put d vc).tmps (fput fr d v) := by
  cases d with
  | none => exact h
  | some t =>
    have ht := hd t rfl
    refine ⟨by simp [Act.put]; exact h.1, fun j => ?_⟩
    simp only [Act.put, fput, fset]
    by_cases hj : j = t
    · subst hj
      have : j < a.tmps.size := by rw [h.1]; exact ht
      simp [this, hv]
    · rw [if_neg hj]
      have := h.2 j
      simpa [Array.getElem?_setIfInBounds_ne (Ne.symm hj)] using this

theorem Act.put_defers' (a : Act) (d : Option Nat) (v : Value) : (a.put d v).defers = a.defers := by cases d <;> rfl

theorem feval_ok {G : List Nat} {ρ : Rho} {heap : Array Obj} {h : Heap} (R : Rep G ρ heap h) {nt : Nat} {a : Act} {fr : Fr} (hf : FrR ρ nt a.tmps fr) {x : Operand} (hx : okOperand G x = true) : VR ρ (a.eval x) (feval fr x) := by
  cases x with
  | tmp t => exact hf.2 t
  | const v => exact VR.ofPlain hx
  | global g =>
    simp only [okOperand, List.contains_iff_mem] at hx
    obtain ⟨gh, h1, h2, h3⟩ := R.glob g (by simpa using hx)
    have := VR.ptr0 h1 h3
    rwa [h2] at this
  | func f => exact .func _ rfl .nil .nil

theorem wanted_ok {ρ : Rho} {nt : Nat} {a : Act} {fr : Fr} (hf : FrR ρ nt a.tmps fr) (ops : Array Oper) (o : Oper) : Region.wanted o (yielded ops a.tmps) = wantedA ops o fr := by
  unfold Region.wanted wantedA
  cases o.guard with
  | none => rfl
  | some gw =>
    obtain ⟨j, want⟩ := gw
    simp only [yielded]
    cases hd : (ops[j]?).bind (·.dst) with
    | none => simp
    | some t =>
      have hv := hf.2 t
      simp only [Option.bind_some]
      rw [Array.getD_eq_getD_getElem?] at hv
      cases ht : a.tmps[t]? with
      | none =>
        rw [ht] at hv
        simp only [Option.getD_none] at hv
        generalize fr t = x at hv
        cases hv
        rfl
      | some u =>
        rw [ht] at hv
        simp only [Option.getD_some] at hv
        generalize fr t = x at hv
        cases hv <;> first | rfl | (rename_i b; cases b <;> cases want <;> rfl)

/-! ### Items -/

def conc : AItem → Item
  | .code c => .code c
  | .inBlock id => .inBlock id
  | .inLoop b => .inLoop b
  | .inScope b => .inScope b
  | .ops _ ops i _ _ => .inRegion ops ((List.range ops.size).drop i)

def okItem (nt : Nat) (G : List Nat) : AItem → Bool
  | .code c => okCode nt G c
  | .inBlock _ => true
  | .inLoop b => okCode nt G b
  | .inScope b => okCode nt G b
  | .ops .. => false

def okItems (nt : Nat) (G : List Nat) (l : List AItem) : Bool := l.all (okItem nt G)

theorem exit_some : ∀ {id : Nat} {k k' : List AItem} (r : List Item), exitA id k = some k' → exitTo id (k.map conc ++ r) = some (k'.map conc ++ r)
  | id, .inBlock id' :: k, k', r, h => by
    unfold exitA at h
    split at h
    · rename_i he
      cases h; subst he
      simp [conc, exitTo]
    · rename_i he
      simp only [List.map_cons, conc, List.cons_append, exitTo]
      rw [if_neg (by simpa using he)]
      exact exit_some r h
  | id, .code c :: k, k', r, h => by unfold exitA at h; simp only [List.map_cons, conc, List.cons_append, exitTo]; exact exit_some r h
  | id, .inLoop c :: k, k', r, h => by unfold exitA at h; simp only [List.map_cons, conc, List.cons_append, exitTo]; exact exit_some r h
  | id, .inScope c :: k, k', r, h => by unfold exitA at h; simp only [List.map_cons, conc, List.cons_append, exitTo]; exact exit_some r h
  | id, .ops _ _ _ _ _ :: k, k', r, h => by unfold exitA at h; simp only [List.map_cons, conc, List.cons_append, exitTo]; exact exit_some r h
  | id, [], k', r, h => by simp [exitA] at h

theorem exit_none : ∀ {id : Nat} {k : List AItem} (r : List Item), exitA id k = none → exitTo id (k.map conc ++ r) = exitTo id r
  | id, .inBlock id' :: k, r, h => by
    unfold exitA at h
    split at h
    · cases h
    · rename_i he
      simp only [List.map_cons, conc, List.cons_append, exitTo]
      rw [if_neg (by simpa using he)]
      exact exit_none r h
  | id, .code c :: k, r, h => by unfold exitA at h; simp only [List.map_cons, conc, List.cons_append, exitTo]; exact exit_none r h
  | id, .inLoop c :: k, r, h => by unfold exitA at h; simp only [List.map_cons, conc, List.cons_append, exitTo]; exact exit_none r h
  | id, .inScope c :: k, r, h => by unfold exitA at h; simp only [List.map_cons, conc, List.cons_append, exitTo]; exact exit_none r h
  | id, .ops _ _ _ _ _ :: k, r, h => by unfold exitA at h; simp only [List.map_cons, conc, List.cons_append, exitTo]; exact exit_none r h
  | id, [], r, h => rfl

theorem exit_ok {nt : Nat} {G : List Nat} : ∀ {id : Nat} {k k' : List AItem}, exitA id k = some k' → okItems nt G k = true → okItems nt G k' = true
  | id, .inBlock id' :: k, k', h, hk => by
    unfold exitA at h
    simp only [okItems, List.all_cons, Bool.and_eq_true] at hk
    split at h
    · cases h; exact hk.2
    · exact exit_ok h hk.2
  | id, .code c :: k, k', h, hk => by unfold exitA at h; simp only [okItems, List.all_cons, Bool.and_eq_true] at hk; exact exit_ok h hk.2
  | id, .inLoop c :: k, k', h, hk => by unfold exitA at h; simp only [okItems, List.all_cons, Bool.and_eq_true] at hk; exact exit_ok h hk.2
  | id, .inScope c :: k, k', h, hk => by unfold exitA at h; simp only [okItems, List.all_cons, Bool.and_eq_true] at hk; exact exit_ok h hk.2
  | id, .ops _ _ _ _ _ :: k, k', h, hk => by unfold exitA at h; simp only [okItems, List.all_cons, Bool.and_eq_true] at hk; exact exit_ok h hk.2
  | id, [], k', h, hk => by simp [exitA] at h

def outE : Out → Exit
  | .normal => .normal
  | .ret => .ret
  | .exit id => .exit id

/-- What is said of a run: the machine, wherever the abstract memory stands for its memory, comes to what the evaluator comes to. -/
def SemI (C : Ctx) (rnd : Bool) (nt : Nat) (todo : List AItem) (fr : Fr) (h : Heap) (r : Out × Fr × Heap) : Prop :=
  okItems nt C.G todo = true → ∀ F, FOK F → (rnd = false → F = Fence.wide) → ∀ (ρ : Rho) (w : World) (a : Act) (lo : Nat), Rep C.G ρ w.heap h → FrR ρ nt a.tmps fr → DefR lo w a.defers →
    ∀ (b : Frame) (k : List Item) (cs : List Frame), b.roundOf = F.round →
    ∃ (ρ' : Rho) (w' : World) (a' : Act), Rep C.G ρ' w'.heap r.2.2 ∧ Step ρ w h ρ' w' r.2.2 ∧ FrR ρ' nt a'.tmps r.2.1 ∧ DefR lo w' a'.defers ∧ (rnd = true → a'.defers = a.defers) ∧
      ArrivesIn (Machine.fenced C.P F) C.P (lone (b.atR a (todo.map conc ++ k)) cs w) b k cs (outE r.1) a' w'

/-- What is said of an operation. -/
def OpSem (C : Ctx) (o : Oper) (fr : Fr) (h : Heap) (v : Value) (h' : Heap) : Prop :=
  ∀ F, FOK F → ∀ (ρ : Rho) (w : World) (a : Act), Rep C.G ρ w.heap h → (∀ x ∈ o.op.operands, VR ρ (a.eval x) (feval fr x)) →
    ∀ (next : Act → World → Prop) (Q : Exit → Act → World → Prop),
      (∀ ρ' w' vc, Rep C.G ρ' w'.heap h' → Step ρ w h ρ' w' h' → VR ρ' vc v → next (a.put o.dst vc) w') → o.wpIn F 0 C.P a w next Q

/-- What is said of the operations of a region from number i on, in the order of the text, and of what follows. -/
def OpsSem (C : Ctx) (rnd : Bool) (nt : Nat) (ops : Array Oper) (i : Nat) (K : List AItem) (fr : Fr) (h : Heap) (r : Out × Fr × Heap) : Prop :=
  ops.toList.all (okOper nt C.G) = true → ∀ F, FOK F → ∀ (ρ : Rho) (w : World) (a : Act) (lo : Nat), Rep C.G ρ w.heap h → FrR ρ nt a.tmps fr → DefR lo w a.defers →
    ∀ Q : Exit → Act → World → Prop, (∀ a2 w2 ρ2 fr2 h2, Rep C.G ρ2 w2.heap h2 → Step ρ w h ρ2 w2 h2 → FrR ρ2 nt a2.tmps fr2 → DefR lo w2 a2.defers → a2.defers = a.defers → SemI C rnd nt K fr2 h2 r → Q .normal a2 w2) →
    wpOpsIn F 0 C.P ops Q ((List.range ops.size).drop i) a w

/-- The same of a region that draws its order: a run in the order of the text. -/
inductive DTr (C : Ctx) (ops : Array Oper) : Nat → List (Nat × Heap × Heap) → List (Nat × Nat) → Fr → Heap → Fr → Heap → Prop
  | done {i : Nat} {es : List (Nat × Heap × Heap)} {rs : List (Nat × Nat)} {fr : Fr} {h : Heap} (hi : ops[i]? = none) : DTr C ops i es rs fr h fr h
  | skip {i : Nat} {es : List (Nat × Heap × Heap)} {rs : List (Nat × Nat)} {fr fr' : Fr} {h h' : Heap} {o : Oper} (hi : ops[i]? = some o) (hw : wantedA ops o fr = false)
      (t : DTr C ops (i + 1) es rs (fput fr o.dst undef) h fr' h') : DTr C ops i es rs fr h fr' h'
  | step {i : Nat} {es : List (Nat × Heap × Heap)} {rs : List (Nat × Nat)} {fr fr' : Fr} {h h1 h' : Heap} {o : Oper} {v : Value} (hi : ops[i]? = some o) (hw : wantedA ops o fr = true)
      (hs : OpSem C o fr h v h1) (he : isEff o.op = false → aop C.P o.op o.type fr h = some (v, h1)) (hl : lookD true ops o.op fr h h1 i es rs = true)
      (t : DTr C ops (i + 1) (grown o.op fr h h1 i es rs).1 (grown o.op fr h h1 i es rs).2 (fput fr o.dst v) h1 fr' h') : DTr C ops i es rs fr h fr' h'

/-- What is said of a call. -/
def FnSem (C : Ctx) (f : FuncId) (args : List Value) (h : Heap) (v : Value) (h' : Heap) : Prop :=
  (∃ fn, C.P.funcs[f]? = some fn ∧ (fn.name == "runtime.NumGoroutine") = false ∧ fn.body.isNone = false) ∧
  ∀ (ρ : Rho) (w : World) (cargs : Array Value), Rep C.G ρ w.heap h → VRs ρ cargs.toList args →
    Calls C.P f cargs w fun e w' => ∃ ρ' vc, e = .returned vc ∧ VR ρ' vc v ∧ Rep C.G ρ' w'.heap h' ∧ Step ρ w h ρ' w' h'

/-- The functions that are given by what they do, do so. -/
def XOK (C : Ctx) : Prop := ∀ f g, C.X f = some g → ∀ args h v h', g args h = some (v, h') → FnSem C f args h v h'

theorem okOper_dst {nt : Nat} {G : List Nat} {o : Oper} (h : okOper nt G o = true) : ∀ t, o.dst = some t → t < nt := by
  intro t ht
  simp only [okOper, ht, Bool.and_eq_true, decide_eq_true_eq] at h
  exact h.1.1
theorem okOper_ops {nt : Nat} {G : List Nat} {o : Oper} (h : okOper nt G o = true) : ∀ x ∈ o.op.operands, okOperand G x = true := by
  intro x hx
  simp only [okOper, Bool.and_eq_true, List.all_eq_true] at h
  exact h.1.2 x (by simpa using hx)
theorem okOper_nodefer {nt : Nat} {G : List Nat} {o : Oper} (h : okOper nt G o = true) : ∀ c, o.op ≠ .defer c := by
  intro c hc
  simp [okOper, hc] at h

theorem wpIn_intro {F : Fence} (hF : FOK F) {P : Program} {o : Oper} {a : Act} {w : World} {next : Act → World → Prop} {Q : Exit → Act → World → Prop} (hd : ∀ c, o.op ≠ .defer c)
    (h : o.uponIn F 0 P a next Q ((execOp a.eval o).run P w)) : o.wpIn F 0 P a w next Q := by
  refine ⟨fun f _ => hF.fn f, ?_⟩
  rw [Oper.semAt_eq _ _ _ hd]
  exact h

theorem OpSem.of_aop {C : Ctx} {o : Oper} {fr : Fr} {h h' : Heap} {v : Value} (ha : aop C.P o.op o.type fr h = some (v, h')) : OpSem C o fr h v h' := by
  intro F hF ρ w a R hops next Q hn
  obtain ⟨nx, w', ρ', vc, h1, h2, h3, h4, h5⟩ := aop_ok R hops ha
  refine wpIn_intro hF (fun c hc => ?_) ?_
  · rw [hc] at ha; simp [aop] at ha
  · rw [h1]
    rcases h2 with rfl | ⟨rfl, rfl⟩
    · exact hn ρ' w' vc h4 h5 h3
    · exact hn ρ' w' undef h4 h5 h3

/-- Operations without effect make a block at most. -/
theorem aop_calm {P : Program} {op : Op} {ty : TypeId} {fr : Fr} {h h' : Heap} {v : Value} (ha : aop P op ty fr h = some (v, h')) (he : isEff op = false) : h' = h ∨ ∃ b, h' = hpush h b := by
  have mp : ∀ {o : Option Value}, o.map (fun v => (v, h)) = some (v, h') → h' = h ∨ ∃ b, h' = hpush h b := by
    intro o ho
    obtain ⟨a, _, h2⟩ := map_some ho
    cases h2; exact .inl rfl
  cases op with
  | move x => simp only [aop, Option.some.injEq, Prod.mk.injEq] at ha; exact .inl ha.2.symm
  | assign x => simp only [aop, Option.some.injEq, Prod.mk.injEq] at ha; exact .inl ha.2.symm
  | pick c a b =>
    simp only [aop] at ha
    split at ha <;> simp at ha
    exact .inl ha.2.symm
  | alloc e =>
    simp only [aop] at ha
    split at ha <;> try (simp at ha; done)
    split at ha <;> try (simp at ha; done)
    split at ha <;> simp [anew] at ha
    exact .inr ⟨_, ha.2.symm⟩
  | box e x =>
    simp only [aop] at ha
    split at ha <;> simp [anew] at ha
    exact .inr ⟨_, ha.2.symm⟩
  | build t ps => exact mp ha
  | buildSlice t n ps =>
    simp only [aop] at ha
    unfold abuildSlice at ha
    split at ha <;> try (simp at ha; done)
    split at ha <;> try (simp at ha; done)
    split at ha <;> try (simp at ha; done)
    split at ha <;> try (simp at ha; done)
    split at ha <;> try (simp at ha; done)
    split at ha <;> try (simp at ha; done)
    split at ha <;> simp at ha
    exact .inr ⟨_, ha.2.symm⟩
  | load t a => exact mp ha
  | nilCheck x =>
    simp only [aop] at ha
    split at ha <;> simp at ha
    exact .inl ha.2.symm
  | binOp op t x y ty => exact mp ha
  | unOp op t x =>
    simp only [aop] at ha
    split at ha <;> try (simp at ha; done)
    exact mp ha
  | convert s d x =>
    simp only [aop] at ha
    unfold aconvert at ha
    split at ha <;> try (simp at ha; done)
    split at ha
    · split at ha <;> try (simp at ha; done)
      split at ha <;> try (simp at ha; done)
      split at ha <;> simp at ha
      exact .inr ⟨_, ha.2.symm⟩
    · split at ha <;> try (simp at ha; done)
      split at ha <;> try (simp at ha; done)
      split at ha <;> try (simp at ha; done)
      split at ha <;> try (simp at ha; done)
      split at ha <;> try (simp at ha; done)
      obtain ⟨a, _, h2⟩ := map_some ha
      cases h2; exact .inl rfl
    · split at ha <;> try (simp at ha; done)
      exact mp ha
  | makeFunc fn first captured =>
    simp only [aop] at ha
    split at ha <;> simp at ha
    exact .inl ha.2.symm
  | makeMap t r =>
    simp only [aop] at ha
    split at ha
    · simp at ha; exact .inr ⟨_, ha.2.symm⟩
    · split at ha <;> try (simp at ha; done)
      split at ha <;> simp at ha
      exact .inr ⟨_, ha.2.symm⟩
  | makeSlice t l c =>
    simp only [aop] at ha
    unfold amakeSlice at ha
    split at ha <;> try (simp at ha; done)
    split at ha <;> try (simp at ha; done)
    split at ha <;> try (simp at ha; done)
    split at ha <;> try (simp at ha; done)
    split at ha <;> simp at ha
    exact .inr ⟨_, ha.2.symm⟩
  | slice t x lo hi mx =>
    simp only [aop] at ha
    split at ha <;> try (simp at ha; done)
    exact mp ha
  | fieldAddr t x f => exact mp ha
  | field t x f => exact mp ha
  | indexAddr t x i => exact mp ha
  | index t x i => exact mp ha
  | lookup t x k ok => exact mp ha
  | range t x =>
    simp only [aop] at ha
    split at ha <;> try (simp at ha; done)
    split at ha <;> simp at ha
    exact .inr ⟨_, ha.2.symm⟩
  | extract x i =>
    simp only [aop] at ha
    split at ha <;> try (simp at ha; done)
    exact mp ha
  | call c =>
    simp only [aop] at ha
    split at ha <;> try (simp at ha; done)
    rename_i b hb
    simp only [isEff, hb] at he
    unfold abuiltin at ha
    split at ha <;> try (simp at he; done)
    · exact mp ha
    · exact mp ha
    · split at ha <;> try (simp at ha; done)
      exact mp ha
    · split at ha <;> try (simp at ha; done)
      exact mp ha
    · split at ha <;> try (simp at ha; done)
      exact mp ha
    · split at ha <;> try (simp at ha; done)
      exact mp ha
    · split at ha <;> try (simp at ha; done)
      exact mp ha
    · simp at ha
  | next it st => simp [isEff] at he
  | store t a v => simp [isEff] at he
  | mapUpdate t m k x => simp [isEff] at he
  | _ => simp [aop] at ha

end Gl
end

/- The evaluator is sound: code, calls, rounds. -/
section
namespace Gl
open Go

/-- The law of regions that draw their order (proved in its own text). -/
def DrawOK (C : Ctx) : Prop :=
  ∀ (nt : Nat) (ops : Array Oper), drawOk ops = true → ops.toList.all (okOper nt C.G) = true → ∀ (fr fr' : Fr) (h h' : Heap), DTr C ops 0 [] [] fr h fr' h' →
    ∀ F, FOK F → ∀ (ρ : Rho) (w : World) (a : Act), Rep C.G ρ w.heap h → FrR ρ nt a.tmps fr → ∀ t,
    wpOpsIn F 0 C.P ops (fun e a2 w2 => e = .normal ∧ a2.defers = a.defers ∧ ∃ ρ2, Rep C.G ρ2 w2.heap h' ∧ Step ρ w h ρ2 w2 h' ∧ FrR ρ2 nt a2.tmps fr')
      (Region.schedule (C.P.follows .mixedOrders) ops t) a { w with drawn := w.drawn + 1 }

section
variable {C : Ctx}

/-- A result variable's value. -/
def resOf (tmps : Array Value) : ResultVar → Sem Value
  | .tmp t => pure (tmps.getD t undef)
  | .cell a t => do loadVar t (← asAddr (tmps.getD a undef))

theorem results_eq (fn : Func) (tmps : Array Value) : results fn tmps = (do let vs ← fn.results.mapM (resOf tmps); pure (if h : vs.size = 1 then vs[0] else .tuple vs)) := by
  unfold results
  congr 2

theorem results_ok {ρ : Rho} {w : World} {h : Heap} {nt : Nat} {tmps : Array Value} {fr : Fr} (R : Rep C.G ρ w.heap h) (hf : FrR ρ nt tmps fr) (fn : Func) {vs : List Value} (hr : aresults C.P fr h fn.results.toList = some vs) :
    ∃ vc, (results fn tmps).run C.P w = .ok vc w ∧ VR ρ vc (packed vs) := by
  have key : ∀ (l : List ResultVar) (vs : List Value), aresults C.P fr h l = some vs → ∃ cvs : List Value,
      (l.mapM (resOf tmps)).run C.P w = .ok cvs w ∧ VRs ρ cvs vs := by
    intro l
    induction l with
    | nil => intro vs hv; simp [aresults] at hv; subst hv; exact ⟨[], rfl, .nil⟩
    | cons x l ih =>
      intro vs hv
      unfold aresults at hv
      split at hv <;> try (simp at hv; done)
      rename_i v vs' h1 h2
      simp at hv; subst hv
      obtain ⟨cvs, e1, e2⟩ := ih vs' h2
      have hx : ∃ vc, (resOf tmps x).run C.P w = .ok vc w ∧ VR ρ vc v := by
        cases x with
        | tmp t => simp [aresult1] at h1; subst h1; exact ⟨_, rfl, hf.2 t⟩
        | cell a t =>
          simp only [aresult1] at h1
          have hv := hf.2 a
          obtain ⟨vc, f1, f2⟩ := aload_ok (P := C.P) R hv h1
          refine ⟨vc, ?_, f2⟩
          unfold Instr.loadAt at f1
          show (do loadVar t (← asAddr (tmps.getD a undef)) : Sem Value).run C.P w = _
          revert f1
          generalize tmps.getD a undef = cv
          intro f1
          cases cv with
          | pointer p =>
            cases p with
            | none => simp [Instr.sureAddr] at f1
            | some p => simpa [Instr.sureAddr, asAddr] using f1
          | _ => simp [Instr.sureAddr] at f1
      obtain ⟨vc, f1, f2⟩ := hx
      refine ⟨vc :: cvs, ?_, .cons f2 e2⟩
      rw [List.mapM_cons]
      simp only [Sem.run_bind, f1, Result.andThen_ok, e1, Sem.run_pure]
  obtain ⟨cvs, e1, e2⟩ := key _ vs hr
  have hrun : (results fn tmps).run C.P w = .ok (if hh : cvs.toArray.size = 1 then cvs.toArray[0] else .tuple cvs.toArray) w := by
    rw [results_eq, ← Array.toArray_toList (xs := fn.results), List.mapM_toArray]
    simp only [Sem.run_bind, Sem.run_map]
    rw [e1]
    simp
  refine ⟨_, hrun, ?_⟩
  cases e2 with
  | nil => exact .tuple .nil
  | cons hv t =>
    cases t with
    | nil => simpa [packed] using hv
    | cons hv2 t2 =>
      rw [dif_neg (by simp)]
      exact .tuple (.cons hv (.cons hv2 t2))

/-- Marks are taken in at the end of a function. -/
theorem leaves_ok {F : Fence} (hF : FOK F) {P : Program} {fn : Func} {tmps : Array Value} {R : Ending → World → Prop} : ∀ (bs : List Nat) (w : World), bs.Nodup → (∀ D ∈ bs, w.heap[D]? = some (.deferred (some []))) →
    (∀ w' : World, (∀ r, r ∉ bs → w'.heap[r]? = w.heap[r]?) → w'.heap.size = w.heap.size → w'.os = w.os → w'.tape = w.tape → w'.output = w.output → ∃ v, (results fn tmps).run P w' = .ok v w' ∧ R (.returned v) w') →
    LeavesInM F 0 P fn tmps R (bs.map fun D => { target := .collected D, args := #[] }) .returning w
  | [], w, _, _, h => h w (fun _ _ => rfl) rfl rfl rfl rfl
  | D :: bs, w, hn, hd, h => by
    have hD := hd D (by simp)
    simp only [List.nodup_cons] at hn
    refine ⟨by simp, .inl ⟨D, { w with heap := w.heap.setIfInBounds D (.deferred none) }, rfl, ?_, ?_⟩⟩
    · simp [Instr.takeDeferred, getObj, setObj, Sem.run, hD]
    · refine leaves_ok hF bs _ hn.2 (fun D' hD' => ?_) fun w' h1 h2 h3 h4 h5 => ?_
      · have : D ≠ D' := fun e => hn.1 (e ▸ hD')
        simp only [Array.getElem?_setIfInBounds_ne this]
        exact hd D' (by simp [hD'])
      · refine h w' (fun r hr => ?_) (by rw [h2]; simp) h3 h4 h5
        simp only [List.mem_cons, not_or] at hr
        rw [h1 r hr.2]
        simp [Array.getElem?_setIfInBounds_ne (Ne.symm hr.1)]

theorem Rep.marks {G : List Nat} {ρ : Rho} {heap heap' : Array Obj} {h : Heap} (R : Rep G ρ heap h) {bs : List Nat} (hd : ∀ D ∈ bs, heap[D]? = some (.deferred (some []))) (hk : ∀ r, r ∉ bs → heap'[r]? = heap[r]?) (hs : heap'.size = heap.size) :
    Rep G ρ heap' h := by
  refine ⟨fun i g hi => ?_, R.inj, R.glob, fun i g hi => hs ▸ R.lt i g hi⟩
  obtain ⟨b, hb, hR⟩ := R.blk i g hi
  refine ⟨b, hb, ?_⟩
  by_cases hg : g.blk ∈ bs
  · have he := hd _ hg
    cases b with
    | cells c esz rw full => obtain ⟨_, _, _, h, _⟩ := hR; rw [he] at h; cases h
    | map es => obtain ⟨_, _, h, _⟩ := hR; rw [he] at h; cases h
    | siter s pos => obtain ⟨h, _⟩ := hR; rw [he] at h; cases h
    | loop st pend nt fr ps as bd => obtain ⟨_, _, _, h, _⟩ := hR; rw [he] at h; cases h
    | anyInt => obtain ⟨_, _, _, _, h, _⟩ := hR; rw [he] at h; cases h
    | table c => obtain ⟨_, _, h⟩ := hR; rw [he] at h; cases h
    | dead => trivial
  · exact hR.mono (Sub.refl ρ) (hk _ hg)

/-- The frame in which a function begins. -/
theorem init_ok {ρ : Rho} {nt : Nat} {cargs : Array Value} {args : List Value} (hv : VRs ρ cargs.toList args) (hle : args.length ≤ nt) : FrR ρ nt (cargs ++ Array.replicate (nt - cargs.size) undef) (initFr args) := by
  have hl : cargs.size = args.length := by have := hv.length; simpa using this
  refine ⟨by simp; omega, fun t => ?_⟩
  unfold initFr
  rw [Array.getD_eq_getD_getElem?, List.getD_eq_getElem?_getD]
  rcases Nat.lt_or_ge t args.length with ht | ht
  · rw [Array.getElem?_append_left (by omega)]
    obtain ⟨v', e1, e2⟩ := hv.get t args[t] (List.getElem?_eq_getElem ht)
    have e1' : cargs[t]? = some v' := by simpa using e1
    rw [e1', List.getElem?_eq_getElem ht]
    exact e2
  · rw [Array.getElem?_append_right (by omega), List.getElem?_eq_none ht]
    simp only [Option.getD_none]
    rw [Array.getElem?_replicate]
    split <;> exact VR.undef

/-- A function, out of its body. -/
theorem FnSem.of_body {f : FuncId} {args : List Value} {h h' : Heap} {v : Value} {B : FnB} {q : Out × Fr × Heap} (hB : fnB C.G C.P f = some B) (hle : args.length ≤ B.nt) (hs : SemI C false B.nt [.code B.code] (initFr args) h q)
    (hq : finF C.P B q = some (v, h')) : FnSem C f args h v h' := by
  unfold fnB at hB
  split at hB <;> try (simp at hB; done)
  rename_i fn hfn
  split at hB <;> try (simp at hB; done)
  rename_i hname
  split at hB <;> try (simp at hB; done)
  rename_i c hc
  split at hB <;> simp at hB
  rename_i hok
  subst hB
  refine ⟨⟨fn, hfn, by simpa using hname, by rw [hc]; rfl⟩, fun ρ w cargs R hv => ?_⟩
  refine (callsIn_wide (n := 0)).1 (callsIn_of_wp_marks hfn hc trivial ?_)
  intro b k cs hro _ _
  obtain ⟨ρ', w', a', hR', hS, hF', hD, _, harr⟩ := hs (by simp [okItems, okItem, hok]) Fence.wide (.inl rfl) (fun _ => rfl) ρ w { tmps := cargs ++ Array.replicate (fn.ntmps - cargs.size) undef, defers := [] } w.heap.size R (init_ok hv hle) (DefR.nil w) b k cs hro
  have hfin : ∃ vs, aresults C.P q.2.1 q.2.2 fn.results.toList = some vs ∧ packed vs = v ∧ q.2.2 = h' ∧ (q.1 = .normal ∨ q.1 = .ret) := by
    unfold finF at hq
    split at hq <;> try (simp at hq; done)
    rename_i hne
    obtain ⟨vs, h1, h2⟩ := map_some hq
    cases h2
    refine ⟨vs, h1, rfl, rfl, ?_⟩
    cases hq1 : q.1 with
    | normal => exact .inl rfl
    | ret => exact .inr rfl
    | exit id => exact absurd hq1 (hne id)
  obtain ⟨vs, h1, rfl, rfl, h3⟩ := hfin
  obtain ⟨_, bs, hb1, hb2, hb3'⟩ := hD
  have hb3 : ∀ D ∈ bs, w'.heap[D]? = some (.deferred (some [])) := fun D hD => (hb3' D hD).2
  have hleave : LeavesInM Fence.wide 0 C.P fn a'.tmps (fun e w' => ∃ ρ' vc, e = .returned vc ∧ VR ρ' vc (packed vs) ∧ Rep C.G ρ' w'.heap q.2.2 ∧ Step ρ w h ρ' w' q.2.2) a'.defers .returning w' := by
    rw [hb1]
    refine leaves_ok (.inl rfl) bs w' hb2 hb3 fun w2 k1 k2 k3 k4 k5 => ?_
    have hR2 := hR'.marks hb3 k1 k2
    obtain ⟨vc, e1, e2⟩ := results_ok hR2 hF' fn h1
    refine ⟨vc, e1, ρ', vc, rfl, e2, hR2, ?_⟩
    refine { hS with size := by rw [k2]; exact hS.size, keep := fun r hr hk => ?_, os := k3.trans hS.os, tape := k4.trans hS.tape, output := k5.trans hS.output }
    by_cases hrb : r ∈ bs
    · -- the marks are new blocks
      exact absurd (hb3' r hrb).1 (by omega)
    · rw [k1 r hrb]; exact hS.keep r hr hk
  rcases h3 with h3 | h3
  · rw [h3] at harr
    exact ⟨.normal, a', w', hleave, harr⟩
  · rw [h3] at harr
    exact ⟨.ret, a', w', hleave, harr⟩

end
end Gl
end

/- The evaluator is sound: calls, rounds of a range over a function. -/
section
namespace Gl
open Go

section
variable {C : Ctx}

theorem callee_inv {op : Op} {x : Operand} {xs : List Operand} (hc : calleeOf op = some (x, xs)) : ∃ c : Call, op = .call c ∧ c.callee = .value x ∧ xs = c.args.toList := by
  unfold calleeOf at hc
  split at hc <;> try (simp at hc; done)
  rename_i c
  split at hc <;> simp at hc
  rename_i f hf
  obtain ⟨rfl, rfl⟩ := hc
  exact ⟨c, rfl, hf, rfl⟩

theorem run_callFunc {P : Program} {f : FuncId} {fn : Func} (h1 : P.funcs[f]? = some fn) (h2 : (fn.name == "runtime.NumGoroutine") = false) (h3 : fn.body.isNone = false) (args : Array Value) (w : World) :
    (callFunc f args).run P w = .ok (.enter f args) w := by
  unfold callFunc
  simp only [Sem.run_bind, run_program, Result.andThen_ok, h1, h2, h3]
  rfl

/-- A call of a function. -/
theorem OpSem.of_call {o : Oper} {x : Operand} {xs : List Operand} {f : FuncId} {args : List Value} {fr : Fr} {h h' : Heap} {v : Value} (hc : calleeOf o.op = some (x, xs))
    (ht : target (feval fr x) (xs.map (feval fr)) = some (.fn f args)) (hS : FnSem C f args h v h') : OpSem C o fr h v h' := by
  obtain ⟨c, hop, hcal, rfl⟩ := callee_inv hc
  intro F hF ρ w a R hops next Q hn
  refine wpIn_intro hF (fun c' hc' => by rw [hop] at hc'; cases hc') ?_
  have hx := hops x (by rw [hop]; simp [Op.operands, Call.operands, hcal])
  have hargs : VRs ρ (c.args.map a.eval).toList (c.args.toList.map (feval fr)) := by
    simpa using VRs.mapOps c.args.toList (fun y hy => hops y (by rw [hop]; simp [Op.operands, Call.operands, hcal]; exact .inr (by simpa using hy)))
  obtain ⟨⟨fn, f1, f2, f3⟩, hcall⟩ := hS
  -- the function value
  unfold target at ht
  split at ht
  · rename_i f' first captured hv
    simp only [Option.some.injEq, Tgt.fn.injEq] at ht
    obtain ⟨rfl, rfl⟩ := ht
    rw [hv] at hx
    generalize hcv : a.eval x = cx at hx
    cases hx with
    | func fn' hp hx1 hx2 =>
      rename_i cfirst ccapt
      have hrun : (execOp a.eval o).run C.P w = .ok (.enter f' (cfirst ++ c.args.map a.eval ++ ccapt)) w := by
        unfold execOp
        rw [hop]
        simp only [resolve, hcal, hcv, Deferred.ofValue, Sem.run_bind, Sem.run_pure, Result.andThen_ok, invoke]
        exact run_callFunc f1 f2 f3 _ _
      rw [hrun, Oper.uponIn_enter]
      refine ⟨fun hd => (by rw [hF.depth] at hd; cases hd), hF.calls (CallsIn.mono (callsIn_wide.2 (hcall ρ w _ R (by simpa using (hx1.append hargs).append hx2))) ?_)⟩
      rintro e w' ⟨ρ', vc, rfl, h1, h2, h3⟩
      exact hn ρ' w' vc h2 h3 h1
  · split at ht <;> cases ht
  · cases ht

theorem setArgs_ok {ρ : Rho} {nt : Nat} : ∀ {ps : List Nat} {cargs args : List Value} {tmps : Array Value} {fr : Fr}, VRs ρ cargs args → FrR ρ nt tmps fr → (∀ p ∈ ps, p < nt) → cargs.length = ps.length →
    FrR ρ nt ((ps.zip cargs).foldl (fun (t : Array Value) (x : Nat × Value) => t.setIfInBounds x.1 x.2) tmps) (setArgs fr ps args)
  | [], [], _, tmps, fr, hv, hf, _, _ => by cases hv; exact hf
  | p :: ps, _, _, tmps, fr, .cons (v := v) (v' := v') h t, hf, hp, hl => by
    simp only [List.zip_cons_cons, List.foldl_cons, setArgs]
    refine setArgs_ok t ?_ (fun q hq => hp q (by simp [hq])) (by simpa using hl)
    exact FrR.put (a := { tmps := tmps, defers := [] }) (d := some p) hf h (fun t ht => by cases ht; exact hp p (by simp))
  | _ :: _, [], _, _, _, _, _, _, hl => by simp at hl
  | [], _ :: _, _, _, _, _, _, _, hl => by simp at hl

theorem loop_blk {ρ : Rho} {w : World} {h : Heap} {l : Nat} {g : Gh} {st : LoopState} {pend : Option Code} {nt : Nat} {fr : List Value} {ps : List Nat} {as bd : Code} (R : Rep C.G ρ w.heap h) (hl : ρ l = some g)
    (hb : hget h l = some (.loop st pend nt fr ps as bd)) : ∃ fn tmps dfr, w.heap[g.blk]? = some (.loop { state := st, pending := pend, fn := fn, tmps := tmps, params := ps.toArray, assign := as, body := bd, defers := dfr }) ∧ FrR ρ nt tmps (toFr fr) ∧ okLoop C.G nt ps as bd := by
  obtain ⟨b, hb', hR⟩ := R.blk l g hl
  rw [hb] at hb'; cases hb'
  exact hR

theorem run_getLoop {P : Program} {w : World} {r : Nat} {L : Loop} (h : w.heap[r]? = some (.loop L)) : (Instr.getLoop r).run P w = .ok L w := by
  simp [Instr.getLoop, getObj, Sem.run, h]

/-- A loop's record is set anew. -/
theorem setLoop_ok {P : Program} {ρ : Rho} {w : World} {h : Heap} {l : Nat} {g : Gh} {st st2 : LoopState} {pend pend2 : Option Code} {nt : Nat} {fr : List Value} {ps : List Nat} {as bd : Code} {fn : FuncId} {tmps : Array Value} {dfr : Nat} (R : Rep C.G ρ w.heap h) (hl : ρ l = some g)
    (hb : hget h l = some (.loop st pend nt fr ps as bd)) (he : w.heap[g.blk]? = some (.loop { state := st, pending := pend, fn := fn, tmps := tmps, params := ps.toArray, assign := as, body := bd, defers := dfr })) (hf : FrR ρ nt tmps (toFr fr)) (hok : okLoop C.G nt ps as bd) :
    (setObj g.blk (.loop { state := st2, pending := pend2, fn := fn, tmps := tmps, params := ps.toArray, assign := as, body := bd, defers := dfr })).run P w =
      .ok () { w with heap := w.heap.setIfInBounds g.blk (.loop { state := st2, pending := pend2, fn := fn, tmps := tmps, params := ps.toArray, assign := as, body := bd, defers := dfr }) } ∧
    Rep C.G ρ (w.heap.setIfInBounds g.blk (.loop { state := st2, pending := pend2, fn := fn, tmps := tmps, params := ps.toArray, assign := as, body := bd, defers := dfr })) (hput h l (.loop st2 pend2 nt fr ps as bd)) ∧
    Step ρ w h ρ { w with heap := w.heap.setIfInBounds g.blk (.loop { state := st2, pending := pend2, fn := fn, tmps := tmps, params := ps.toArray, assign := as, body := bd, defers := dfr }) } (hput h l (.loop st2 pend2 nt fr ps as bd)) := by
  have hlt := R.lt l g hl
  refine ⟨by simp [setObj, Sem.run, he], ?_⟩
  exact R.update (w' := { w with heap := w.heap.setIfInBounds g.blk _ }) hl hb rfl (by simp) (fun r hr => by simp [Array.getElem?_setIfInBounds_ne (Ne.symm hr)]) ⟨fn, tmps, dfr, by simp [hlt], hf, hok⟩ rfl rfl rfl

/-- One round of a loop: a call of its yield. -/
theorem OpSem.of_yield {o : Oper} {x : Operand} {xs : List Operand} {l : Nat} {args : List Value} {fr : Fr} {h : Heap} {nt' : Nat} {fr0 : List Value} {ps : List Nat} {assign body : Code} {q1 q2 : Out × Fr × Heap} {h1 : Heap} {r3 : Value × Heap}
    (hc : calleeOf o.op = some (x, xs)) (ht : target (feval fr x) (xs.map (feval fr)) = some (.yield l args)) (hy : yieldLoop h l = some (nt', fr0, ps, assign, body)) (hlen : args.length = ps.length)
    (hS1 : SemI C true nt' [.code assign] (setArgs (toFr fr0) ps args) h q1) (hn1 : outNormal q1.1 = true) (hon : roundOn q1.2.2 l = some h1)
    (hS2 : SemI C true nt' [.code body] q1.2.1 h1 q2) (hoff : roundOff q2.1 q2.2.2 l = some r3) : OpSem C o fr h r3.1 r3.2 := by
  obtain ⟨c, hop, hcal, rfl⟩ := callee_inv hc
  intro F hF ρ w a R hops next Q hn
  refine wpIn_intro hF (fun c' hc' => by rw [hop] at hc'; cases hc') ?_
  have hx := hops x (by rw [hop]; simp [Op.operands, Call.operands, hcal])
  have hargs : VRs ρ (c.args.map a.eval).toList (c.args.toList.map (feval fr)) := by
    simpa using VRs.mapOps c.args.toList (fun y hy => hops y (by rw [hop]; simp [Op.operands, Call.operands, hcal]; exact .inr (by simpa using hy)))
  unfold target at ht
  split at ht
  · cases ht
  · rename_i l' first captured hv
    split at ht <;> simp only [Option.some.injEq, Tgt.yield.injEq, reduceCtorEq] at ht
    rename_i hz
    obtain ⟨rfl, rfl⟩ := ht
    rw [hv] at hx
    generalize hcv : a.eval x = cx at hx
    -- the record
    unfold yieldLoop at hy
    split at hy <;> simp only [Option.some.injEq, Prod.mk.injEq, reduceCtorEq] at hy
    rename_i nt1 frr ps1 as1 bd1 hb
    obtain ⟨rfl, rfl, rfl, rfl, rfl⟩ := hy
    have hyv : ∃ g, ρ l' = some g ∧ cx = .func (.yield g.blk) #[] #[] := by
      cases hx with
      | func fn' hp hx1 hx2 => simp [plainFn] at hp
      | yield hl => exact ⟨_, hl, rfl⟩
    obtain ⟨g, hl, rfl⟩ := hyv
    obtain ⟨fn, tmps, dfr, he, hf, hok⟩ := loop_blk R hl hb
    have hsz : (c.args.map a.eval).size = ps1.toArray.size := by
      have := hargs.length
      simp only [List.length_map, Array.length_toList, Array.size_map] at this hlen ⊢
      simpa using hlen
    have hrun : (execOp a.eval o).run C.P w = .ok (.round g.blk fn ((ps1.zip (c.args.map a.eval).toList).foldl (fun (t : Array Value) (x : Nat × Value) => t.setIfInBounds x.1 x.2) tmps) as1 bd1) w := by
      unfold execOp
      rw [hop]
      simp only [resolve, hcal, hcv, Deferred.ofValue, Sem.run_bind, Sem.run_pure, Result.andThen_ok, invoke]
      unfold Instr.yield
      simp only [Sem.run_bind, run_getLoop he, Result.andThen_ok]
      rw [if_neg (by simp [hsz])]
      simp only [Sem.run_pure]
      congr 2
      rw [← Array.foldl_toList]
      simp
    rw [hrun, Oper.uponIn_round]
    refine ⟨fun hd => (by rw [hF.depth] at hd; cases hd), ?_⟩
    -- the round
    have hFr : FrR ρ nt1 _ (setArgs (toFr frr) ps1 (c.args.toList.map (feval fr))) := setArgs_ok hargs hf hok.2.2 (by simpa using hsz)
    have key : RoundIn Fence.wide (0 - 1) C.P g.blk fn ((ps1.zip (c.args.map a.eval).toList).foldl (fun (t : Array Value) (x : Nat × Value) => t.setIfInBounds x.1 x.2) tmps) as1 bd1 w
        (fun e w' => ∃ ρ' vc, e = .returned vc ∧ VR ρ' vc r3.1 ∧ Rep C.G ρ' w'.heap r3.2 ∧ Step ρ w h ρ' w' r3.2) := by
      refine roundIn_of_wpIn trivial ?_
      intro b k cs hro _ _
      obtain ⟨ρ1, w1, a1, hR1, hSt1, hF1, hD1, hdf1, harr1⟩ := hS1 (by simp [okItems, okItem, hok.1]) (Fence.wide.inRound g.blk) (.inr ⟨_, rfl⟩) (fun hh => by cases hh) ρ w
        { tmps := _, defers := [] } w.heap.size R hFr (DefR.nil w) b k cs hro
      have hd1 : a1.defers = [] := hdf1 rfl
      have hq1 : q1.1 = .normal := by cases hq : q1.1 <;> rw [hq] at hn1 <;> simp [outNormal] at hn1 ⊢
      rw [hq1] at harr1
      -- the record, at the round's begin
      unfold roundOn at hon
      split at hon <;> simp only [Option.some.injEq, reduceCtorEq] at hon
      rename_i nt2 fr2 ps2 as2 bd2 hb2
      have hl1 := hSt1.sub _ _ hl
      obtain ⟨fn2, tmps2, dfr2, he2, hf2, hok2⟩ := loop_blk hR1 hl1 hb2
      obtain ⟨s1, s2, s3⟩ := setLoop_ok (C := C) (P := C.P) (st2 := .busy) (pend2 := none) hR1 hl1 hb2 he2 hf2 hok2
      rw [hon] at s2 s3
      obtain ⟨wb, hwb⟩ : ∃ wb : World, wb = { w1 with heap := w1.heap.setIfInBounds g.blk (.loop { state := .busy, pending := none, fn := fn2, tmps := tmps2, params := ps2.toArray, assign := as2, body := bd2, defers := dfr2 }) } := ⟨_, rfl⟩
      rw [← hwb] at s1 s3
      have s2' : Rep C.G ρ1 wb.heap h1 := by rw [hwb]; exact s2
      have hbr : (Instr.beginRound g.blk).run C.P w1 = .ok () wb := by
        unfold Instr.beginRound
        simp only [Sem.run_bind, run_getLoop he2, Result.andThen_ok, s1, Sem.run_pure]
      refine ⟨.normal, a1, w1, ⟨_, hbr, ?_⟩, harr1⟩
      -- the body
      intro b2 k2 cs2 hro2 _ _
      obtain ⟨ρ2, w2, a2, hR2, hSt2, hF2, hD2, hdf2, harr2⟩ := hS2 (by simp [okItems, okItem, hok.2.1]) (Fence.wide.inRound g.blk) (.inr ⟨_, rfl⟩) (fun hh => by cases hh) ρ1 wb a1 wb.heap.size s2' hF1
        (by rw [hd1]; exact DefR.nil wb) b2 k2 cs2 hro2
      have hall : Step ρ w h ρ2 w2 q2.2.2 := Step.trans R (Step.trans R hSt1 s3) hSt2
      unfold roundOff at hoff
      split at hoff <;> try (simp at hoff; done)
      rename_i nt3 fr3 ps3 as3 bd3 hb3
      have hl2 := hall.sub _ _ hl
      obtain ⟨fn3, tmps3, dfr3, he3, hf3, hok3⟩ := loop_blk hR2 hl2 hb3
      have fin : ∀ (st : LoopState) (jump : Option Code) (bv : Bool), r3 = (.bool bv, hput q2.2.2 l' (.loop st jump nt3 fr3 ps3 as3 bd3)) → st = (if jump.isNone then .ready else .done) → bv = jump.isNone →
          ∃ v w', (Instr.endRound g.blk jump).run C.P w2 = .ok v w' ∧ (∃ ρ' vc, Ending.returned v = .returned vc ∧ VR ρ' vc r3.1 ∧ Rep C.G ρ' w'.heap r3.2 ∧ Step ρ w h ρ' w' r3.2) := by
        intro st jump bv h1 h2 h3
        obtain ⟨t1, t2, t3⟩ := setLoop_ok (C := C) (P := C.P) (st2 := st) (pend2 := jump) hR2 hl2 hb3 he3 hf3 hok3
        obtain ⟨we, hwe⟩ : ∃ we : World, we = { w2 with heap := w2.heap.setIfInBounds g.blk (.loop { state := st, pending := jump, fn := fn3, tmps := tmps3, params := ps3.toArray, assign := as3, body := bd3, defers := dfr3 }) } := ⟨_, rfl⟩
        rw [← hwe] at t1 t3
        have t2' : Rep C.G ρ2 we.heap (hput q2.2.2 l' (.loop st jump nt3 fr3 ps3 as3 bd3)) := by rw [hwe]; exact t2
        refine ⟨.bool bv, we, ?_, ρ2, .bool bv, rfl, ?_, ?_, ?_⟩
        · unfold Instr.endRound
          simp only [Sem.run_bind, run_getLoop he3, Result.andThen_ok]
          rw [← h2, t1]
          simp only [Result.andThen_ok, Sem.run_pure, h3]
        · rw [h1]; exact .bool bv
        · rw [h1]; exact t2'
        · rw [h1]; exact Step.trans R hall t3
      refine ⟨outE q2.1, a2, w2, ?_, harr2⟩
      cases ho : q2.1 with
      | normal => rw [ho] at hoff; simp at hoff; exact fin .ready none true hoff.symm rfl rfl
      | ret => rw [ho] at hoff; simp at hoff; exact fin .done (some .ret) false hoff.symm rfl rfl
      | exit id => rw [ho] at hoff; simp at hoff; exact fin .done (some (.exit id)) false hoff.symm rfl rfl
    have key2 : RoundIn F (0 - 1) C.P g.blk fn ((ps1.zip (c.args.map a.eval).toList).foldl (fun (t : Array Value) (x : Nat × Value) => t.setIfInBounds x.1 x.2) tmps) as1 bd1 w
        (fun e w' => ∃ ρ' vc, e = .returned vc ∧ VR ρ' vc r3.1 ∧ Rep C.G ρ' w'.heap r3.2 ∧ Step ρ w h ρ' w' r3.2) := by
      rcases hF with rfl | ⟨l0, rfl⟩
      · exact key
      · exact key
    refine RoundIn.mono key2 ?_
    rintro e w' ⟨ρ', vc, rfl, k1, k2, k3⟩
    exact hn ρ' w' vc k2 k3 k1
  · cases ht

end
end Gl
end

/- The evaluator is sound: all of it, but for the law of regions that draw their order. -/
section
namespace Gl
open Go

section
variable {C : Ctx}

/-- One step of the machine that turns no memory. -/
theorem SemI.head {rnd : Bool} {nt : Nat} {todo todo' : List AItem} {fr : Fr} {h : Heap} {r : Out × Fr × Heap} (hok : okItems nt C.G todo = true → okItems nt C.G todo' = true)
    (hs : okItems nt C.G todo = true → ∀ (ρ : Rho) (w : World) (a : Act) (b : Frame) (k : List Item) (cs : List Frame), Rep C.G ρ w.heap h → FrR ρ nt a.tmps fr → step C.P (lone (b.atR a (todo.map conc ++ k)) cs w) = .next (lone (b.atR a (todo'.map conc ++ k)) cs w))
    (hi : SemI C rnd nt todo' fr h r) : SemI C rnd nt todo fr h r := by
  intro ho F hF hr ρ w a lo R hf hd b k cs hro
  obtain ⟨ρ', w', a', h1, h2, h3, h4, h5, h6⟩ := hi (hok ho) F hF hr ρ w a lo R hf hd b k cs hro
  exact ⟨ρ', w', a', h1, h2, h3, h4, h5, .of_steps (.one (hF.fenced _ _) (hs ho ρ w a b k cs R hf)) h6⟩

theorem okItems_cons {nt : Nat} {G : List Nat} {x : AItem} {k : List AItem} : okItems nt G (x :: k) = true ↔ okItem nt G x = true ∧ okItems nt G k = true := by simp [okItems]

/-- A block of the machine's that has no abstract one. -/
theorem Rep.hidden {G : List Nat} {ρ : Rho} {w : World} {h : Heap} (R : Rep G ρ w.heap h) (o : Obj) : Rep G ρ (w.heap.push o) h ∧ Step ρ w h ρ { w with heap := w.heap.push o } h := by
  have hold : ∀ r, r < w.heap.size → (w.heap.push o)[r]? = w.heap[r]? := fun r hr => by rw [Array.getElem?_push, if_neg (by omega)]
  refine ⟨⟨fun i g hi => ?_, R.inj, R.glob, fun i g hi => ?_⟩, ⟨Sub.refl ρ, fun i g e e' => by simp [e'] at e, by simp, fun r hr _ => hold r hr, fun i b _ e o => ⟨b, e, o⟩, fun i b _ e o => ⟨b, e, o⟩, Nat.le_refl _, fun i h1 h2 => by omega, rfl, rfl, rfl⟩⟩
  · obtain ⟨b, hb, hR⟩ := R.blk i g hi
    exact ⟨b, hb, hR.mono (Sub.refl ρ) (hold _ (R.lt i g hi))⟩
  · have := R.lt i g hi; simp; omega

theorem FrR.cut {ρ : Rho} {nt : Nat} {tmps : Array Value} {fr : Fr} (h : FrR ρ nt tmps fr) : FrR ρ nt tmps (toFr ((List.range nt).map fr)) := by
  refine ⟨h.1, fun t => ?_⟩
  unfold toFr
  rw [List.getD_eq_getElem?_getD, List.getElem?_map]
  rcases Nat.lt_or_ge t nt with ht | ht
  · rw [List.getElem?_range ht]
    exact h.2 t
  · rw [List.getElem?_eq_none (by simpa using ht), Array.getD_eq_getD_getElem?, Array.getElem?_eq_none (by rw [h.1]; exact ht)]
    exact VR.undef

/-- 'for .. := range g { .. }' -/
theorem SemI.range {nt : Nat} {g : Operand} {ps : Array Tmp} {assign body : Code} {k : List AItem} {fr : Fr} {h : Heap} {f : FuncId} {args : List Value} {v : Value} {h' : Heap} {x : List AItem × Heap} {r : Out × Fr × Heap}
    (ht : target (feval fr g) [.func (.yield (hsz h)) #[] #[]] = some (.fn f args)) (hS : FnSem C f args (hpush h (.loop .ready none nt ((List.range nt).map fr) ps.toList assign body)) v h') (hoff : loopOff h' (hsz h) = some x)
    (hi : SemI C false nt (x.1 ++ k) fr x.2 r) : SemI C false nt (.code (.rangeFunc g ps assign body) :: k) fr h r := by
  intro ho F hF hr ρ w a lo R hf hd b kk cs hro
  have hw := hr rfl
  subst hw
  have hro' : b.roundOf = none := hro
  rw [okItems_cons] at ho
  obtain ⟨hoc, hok⟩ := ho
  simp only [okItem, okCode, Bool.and_eq_true, List.all_eq_true, decide_eq_true_eq] at hoc
  obtain ⟨⟨⟨hog, hops⟩, hoa⟩, hob⟩ := hoc
  -- the record is laid
  obtain ⟨w0, hw0⟩ : ∃ w0 : World, w0 = { w with heap := w.heap.push (.deferred (some [])) } := ⟨_, rfl⟩
  obtain ⟨R0', S0⟩ := R.hidden (.deferred (some []))
  rw [← hw0] at S0
  have R0 : Rep C.G ρ w0.heap h := by rw [hw0]; exact R0'
  obtain ⟨w1, hw1⟩ : ∃ w1 : World, w1 = { w0 with heap := w0.heap.push (.loop { state := .ready, pending := none, fn := b.fn, tmps := a.tmps, params := ps, assign := assign, body := body, defers := w.heap.size }) } := ⟨_, rfl⟩
  have hw0s : w0.heap.size = w.heap.size + 1 := by rw [hw0]; simp
  obtain ⟨R1', S1⟩ := R0.alloc (.loop { state := .ready, pending := none, fn := b.fn, tmps := a.tmps, params := ps, assign := assign, body := body, defers := w.heap.size })
    (.loop .ready none nt ((List.range nt).map fr) ps.toList assign body) ⟨w0.heap.size, 0, 0, 0⟩ rfl
    ⟨b.fn, a.tmps, w.heap.size, by simp, hf.cut.mono (ext_sub (R.rho_none (Nat.le_refl _))), hoa, hob, fun p hp => hops p hp⟩ w1 (by rw [hw1]) (by rw [hw1]) (by rw [hw1]) (by rw [hw1])
  have he : (Instr.enterLoop b.fn a.tmps ps assign body b.roundOf).run C.P w = .ok (w0.heap.size, [{ target := .collected w.heap.size, args := #[] }]) w1 := by
    rw [hro']
    unfold Instr.enterLoop
    simp only [Sem.run_bind, run_newObj, Result.andThen_ok, Sem.run_pure]
    rw [hw1, hw0]
  have hsub : Sub ρ (ext ρ (hsz h) ⟨w0.heap.size, 0, 0, 0⟩) := ext_sub (R.rho_none (Nat.le_refl _))
  -- the function
  have hgv := (feval_ok R hf hog).mono hsub
  unfold target at ht
  split at ht
  · rename_i f' first captured hv
    simp only [Option.some.injEq, Tgt.fn.injEq] at ht
    obtain ⟨rfl, rfl⟩ := ht
    rw [hv] at hgv
    generalize hcv : a.eval g = cx at hgv
    cases hgv with
    | func fn' hp hx1 hx2 =>
      rename_i cfirst ccapt
      obtain ⟨⟨fn, f1, f2, f3⟩, hcall⟩ := hS
      have hres : (resolve a.eval (rangeCall g w0.heap.size) 0).run C.P w1 = .ok { target := .fn (.func f') ccapt, args := cfirst ++ #[.func (.yield w0.heap.size) #[] #[]] } w1 := by
        unfold resolve
        simp only [rangeCall, hcv, Deferred.ofValue, Sem.run_pure]
        simp [Act.eval]
      have hinv : (invoke (.fn (.func f') ccapt) (cfirst ++ #[.func (.yield w0.heap.size) #[] #[]])).run C.P w1 = .ok (.enter f' (cfirst ++ #[.func (.yield w0.heap.size) #[] #[]] ++ ccapt)) w1 := by
        simp only [invoke]
        exact run_callFunc f1 f2 f3 _ _
      have henter := stepR_rangeFunc (P := C.P) (b := b) (a := a) (k := k.map conc ++ kk) (cs := cs) (w := w) he hres hinv
      have hy : VR (ext ρ (hsz h) ⟨w0.heap.size, 0, 0, 0⟩) (.func (.yield w0.heap.size) #[] #[]) (.func (.yield (hsz h)) #[] #[]) := VR.yield (ext_same _ _ _)
      have hcalls := callsIn_wide (n := 0) |>.2 (hcall _ w1 (cfirst ++ #[.func (.yield w0.heap.size) #[] #[]] ++ ccapt) R1' (by
        simpa using (hx1.append (.cons hy .nil)).append hx2))
      obtain ⟨e, w3, frx, ⟨ρ3, vc, rfl, _, R3, S3⟩, hsteps, hfn, hleave⟩ := hcalls.2 (b.atR { a with defers := { target := .collected w.heap.size, args := #[] } :: a.defers } (.inRangeFunc w0.heap.size :: (k.map conc ++ kk)) :: cs) (room_wide _)
      -- the record, at the end
      unfold loopOff at hoff
      split at hoff <;> try (simp at hoff; done)
      rename_i st pend nt3 fr3 ps3 as3 bd3 hb3
      have hl3 := S3.sub _ _ (ext_same ρ (hsz h) ⟨w0.heap.size, 0, 0, 0⟩)
      obtain ⟨fn3, tmps3, dfr3, he3, hf3, hok3⟩ := loop_blk R3 hl3 hb3
      simp only at he3
      have hS03 : Step ρ w h ρ3 w3 h' := Step.trans R (Step.trans R S0 S1) S3
      have hnb : st ≠ .busy ∧ x = ((match pend with | none => [] | some .ret => [.code .ret] | some (.exit id) => [.code (.exit id)] | some _ => []), hput h' (hsz h) (.loop .exhausted pend nt3 fr3 ps3 as3 bd3)) ∧
          (pend.map Item.code).toList = (x.1.map conc) ∧ okItems nt C.G x.1 = true := by
        split at hoff
        · cases hoff
        · rename_i hb; simp at hoff; subst hoff; exact ⟨fun e => hb e, rfl, rfl, rfl⟩
        · rename_i hb; simp at hoff; subst hoff; exact ⟨fun e => hb e, rfl, rfl, rfl⟩
        · rename_i hb; simp at hoff; subst hoff; exact ⟨fun e => hb e, rfl, rfl, rfl⟩
        · cases hoff
      obtain ⟨hnb1, hx, hpend, hokx⟩ := hnb
      obtain ⟨t1, t2, t3⟩ := setLoop_ok (C := C) (P := C.P) (st2 := .exhausted) (pend2 := pend) R3 hl3 hb3 he3 hf3 hok3
      obtain ⟨w4, hw4⟩ : ∃ w4 : World, w4 = { w3 with heap := w3.heap.setIfInBounds w0.heap.size (.loop { state := .exhausted, pending := pend, fn := fn3, tmps := tmps3, params := ps3.toArray, assign := as3, body := bd3, defers := dfr3 }) } := ⟨_, rfl⟩
      simp only at t1 t2 t3
      rw [← hw4] at t1 t3
      have hx2e : hput h' (hsz h) (.loop .exhausted pend nt3 fr3 ps3 as3 bd3) = x.2 := by rw [hx]
      rw [hx2e] at t3
      have t2' : Rep C.G ρ3 w4.heap x.2 := by rw [← hx2e, hw4]; exact t2
      have hend : (Instr.endLoop w0.heap.size).run C.P w3 = .ok pend w4 := by
        unfold Instr.endLoop
        simp only [Sem.run_bind, run_getLoop he3, Result.andThen_ok]
        have hbb : (st == LoopState.busy) = false := by cases st <;> first | exact absurd rfl hnb1 | rfl
        rw [hbb]
        simp only [Bool.false_eq_true, if_false, Sem.run_bind, t1, Result.andThen_ok, Sem.run_pure]
      have hS04 : Step ρ w h ρ3 w4 x.2 := Step.trans R hS03 t3
      -- the marks
      have hD4 : DefR lo w4 ({ target := .collected w.heap.size, args := #[] } :: a.defers) := by
        obtain ⟨d0, bs, d1, d2, d3⟩ := hd
        have hdef0 : w0.heap[w.heap.size]? = some (.deferred (some [])) := by rw [hw0]; simp
        have hS14 : Step ρ w0 h ρ3 w4 x.2 := Step.trans R0 (Step.trans R0 S1 S3) t3
        refine ⟨Nat.le_trans d0 hS04.size, w.heap.size :: bs, by simp [d1], ?_, ?_⟩
        · rw [List.nodup_cons]
          refine ⟨fun hm => ?_, d2⟩
          have := (Array.getElem?_eq_some_iff.1 (d3 _ hm).2).1
          omega
        · intro D hD
          simp only [List.mem_cons] at hD
          rcases hD with rfl | hD
          · exact ⟨d0, hS14.deferred R0 hdef0⟩
          · exact ⟨(d3 D hD).1, hS04.deferred R (d3 D hD).2⟩
      -- on
      obtain ⟨ρ5, w5, a5, g1, g2, g3, g4, _, g6⟩ := hi (by simp only [okItems, List.all_append, Bool.and_eq_true] at hokx hok ⊢; exact ⟨hokx, hok⟩) Fence.wide (.inl rfl) (fun _ => rfl) ρ3 w4
        { a with defers := { target := .collected w.heap.size, args := #[] } :: a.defers } lo t2' (hf.mono hS04.sub) hD4 b kk cs hro
      refine ⟨ρ5, w5, a5, g1, Step.trans R hS04 g2, g3, g4, fun hh => (by cases hh), ?_⟩
      refine .of_steps ?_ g6
      have hl : (lone frx (b.atR { a with defers := { target := .collected w.heap.size, args := #[] } :: a.defers } (.inRangeFunc w0.heap.size :: (k.map conc ++ kk)) :: cs) w3).fenced C.P Fence.wide := fenced_wide _ _
      have s1 : StepsIn (Machine.fenced C.P Fence.wide) C.P (lone (b.atR a (((AItem.code (.rangeFunc g ps assign body) :: k).map conc) ++ kk)) cs w) (lone (Frame.enter C.P f' (cfirst ++ #[.func (.yield w0.heap.size) #[] #[]] ++ ccapt) .normal)
          (b.atR { a with defers := { target := .collected w.heap.size, args := #[] } :: a.defers } (.inRangeFunc w0.heap.size :: (k.map conc ++ kk)) :: cs) w1) := .one (fenced_wide _ _) henter
      refine s1.trans (StepsIn.trans hsteps (.head hl (step_leave_returned hleave) ?_))
      rw [finish_atR_inRangeFunc]
      have s2 := stepR_endRangeFunc (P := C.P) (b := b) (a := { a with defers := { target := .collected w.heap.size, args := #[] } :: a.defers }) (k := k.map conc ++ kk) (cs := cs) hend
      rw [hpend, ← List.append_assoc, ← List.map_append] at s2
      exact .one (fenced_wide _ _) s2
  · split at ht <;> cases ht
  · cases ht

end
end Gl
end

/- The evaluator is sound: all of it, but for the law of regions that draw their order. -/
section
namespace Gl
open Go

section
variable {C : Ctx}

theorem SemI.done {rnd : Bool} {nt : Nat} {fr : Fr} {h : Heap} : SemI C rnd nt [] fr h (.normal, fr, h) := by
  intro ho F hF hr ρ w a lo R hf hd b k cs hro
  exact ⟨ρ, w, a, R, Step.refl ρ w h, hf, hd, fun _ => rfl, .refl _⟩

theorem SemI.ret {rnd : Bool} {nt : Nat} {K : List AItem} {fr : Fr} {h : Heap} : SemI C rnd nt (.code .ret :: K) fr h (.ret, fr, h) := by
  intro ho F hF hr ρ w a lo R hf hd b k cs hro
  refine ⟨ρ, w, a, R, Step.refl ρ w h, hf, hd, fun _ => rfl, ?_⟩
  exact ⟨fun hb => ⟨_, .one (hF.fenced _ _) (stepR_ret hb)⟩, fun _ => ⟨_, .refl _⟩⟩

theorem SemI.exitOut {rnd : Bool} {nt : Nat} {id : Nat} {K : List AItem} {fr : Fr} {h : Heap} (hx : exitA id K = none) : SemI C rnd nt (.code (.exit id) :: K) fr h (.exit id, fr, h) := by
  intro ho F hF hr ρ w a lo R hf hd b k cs hro
  refine ⟨ρ, w, a, R, Step.refl ρ w h, hf, hd, fun _ => rfl, ?_⟩
  exact ⟨fun k' hk => .one (hF.fenced _ _) (stepR_exit (k := K.map conc ++ k) (by rw [exit_none k hx]; exact hk)), fun _ hk => ⟨K.map conc ++ k, by rw [exit_none k hx]; exact hk, .refl _⟩⟩

theorem drop_range {n i : Nat} (h : i < n) : (List.range n).drop i = i :: (List.range n).drop (i + 1) := by
  rw [List.drop_eq_getElem_cons (by simpa using h)]; simp

theorem OpsSem.done {rnd : Bool} {nt : Nat} {ops : Array Oper} {i : Nat} {K : List AItem} {fr : Fr} {h : Heap} {r : Out × Fr × Heap} (hi : ops[i]? = none) (hs : SemI C rnd nt K fr h r) : OpsSem C rnd nt ops i K fr h r := by
  intro ho F hF ρ w a lo R hf hd Q hq
  have : ops.size ≤ i := by simpa using hi
  rw [List.drop_eq_nil_of_le (by simpa using this)]
  exact hq a w ρ fr h R (Step.refl ρ w h) hf hd rfl hs

theorem ops_all {nt : Nat} {ops : Array Oper} {i : Nat} {o : Oper} (ho : ops.toList.all (okOper nt C.G) = true) (hi : ops[i]? = some o) : okOper nt C.G o = true := by
  rw [List.all_eq_true] at ho
  exact ho o (by simpa using Array.mem_of_getElem? hi)

theorem OpsSem.skip {rnd : Bool} {nt : Nat} {ops : Array Oper} {i : Nat} {K : List AItem} {fr : Fr} {h : Heap} {r : Out × Fr × Heap} {o : Oper} (hi : ops[i]? = some o) (hw : wantedA ops o fr = false)
    (hs : OpsSem C rnd nt ops (i + 1) K (fput fr o.dst undef) h r) : OpsSem C rnd nt ops i K fr h r := by
  intro ho F hF ρ w a lo R hf hd Q hq
  have hlt : i < ops.size := (Array.getElem?_eq_some_iff.1 hi).1
  rw [drop_range hlt]
  simp only [wpOpsIn, hi, wanted_ok hf ops o, hw, Bool.false_eq_true, if_false]
  refine ⟨fun f _ => hF.fn f, hs ho F hF ρ w _ lo R (hf.put VR.undef (okOper_dst (ops_all ho hi))) (by rw [Act.put_defers']; exact hd) Q ?_⟩
  intro a2 w2 ρ2 fr2 h2 k1 k2 k3 k4 k5 k6
  exact hq a2 w2 ρ2 fr2 h2 k1 k2 k3 k4 (k5.trans (Act.put_defers' ..)) k6

theorem OpsSem.step {rnd : Bool} {nt : Nat} {ops : Array Oper} {i : Nat} {K : List AItem} {fr : Fr} {h h1 : Heap} {v : Value} {r : Out × Fr × Heap} {o : Oper} (hi : ops[i]? = some o) (hw : wantedA ops o fr = true)
    (hop : OpSem C o fr h v h1) (hs : OpsSem C rnd nt ops (i + 1) K (fput fr o.dst v) h1 r) : OpsSem C rnd nt ops i K fr h r := by
  intro ho F hF ρ w a lo R hf hd Q hq
  have hlt : i < ops.size := (Array.getElem?_eq_some_iff.1 hi).1
  rw [drop_range hlt]
  simp only [wpOpsIn, hi, wanted_ok hf ops o, hw, if_true]
  refine hop F hF ρ w a R (fun x hx => feval_ok R hf (okOper_ops (ops_all ho hi) x hx)) _ Q ?_
  intro ρ' w' vc R' S' hv
  refine hs ho F hF ρ' w' _ lo R' ((hf.mono S'.sub).put hv (okOper_dst (ops_all ho hi))) (by rw [Act.put_defers']; exact hd.step R S') Q ?_
  intro a2 w2 ρ2 fr2 h2 k1 k2 k3 k4 k5 k6
  exact hq a2 w2 ρ2 fr2 h2 k1 (Step.trans R S' k2) k3 k4 (k5.trans (Act.put_defers' ..)) k6

theorem SemI.region {rnd : Bool} {nt : Nat} {id : Nat} {ops : Array Oper} {K : List AItem} {fr : Fr} {h : Heap} {r : Out × Fr × Heap} (hs : OpsSem C rnd nt ops 0 K fr h r) : SemI C rnd nt (.code (.region id ops false) :: K) fr h r := by
  intro ho F hF hr ρ w a lo R hf hd b k cs hro
  rw [okItems_cons] at ho
  have hops : ops.toList.all (okOper nt C.G) = true := by
    have := ho.1
    simp only [okItem, okCode, Bool.and_eq_true] at this
    exact this.1
  have hwp := hs hops F hF ρ w a lo R hf hd (fun e a2 w2 => e = .normal ∧ ∃ ρ2 fr2 h2, Rep C.G ρ2 w2.heap h2 ∧ Step ρ w h ρ2 w2 h2 ∧ FrR ρ2 nt a2.tmps fr2 ∧ DefR lo w2 a2.defers ∧ a2.defers = a.defers ∧ SemI C rnd nt K fr2 h2 r)
    (fun a2 w2 ρ2 fr2 h2 k1 k2 k3 k4 k5 k6 => ⟨rfl, ρ2, fr2, h2, k1, k2, k3, k4, k5, k6⟩)
  rw [List.drop_zero] at hwp
  obtain ⟨e, a2, w2, ⟨rfl, ρ2, fr2, h2, k1, k2, k3, k4, k5, k6⟩, harr⟩ := wp_opsIn _ a w hwp b (K.map conc ++ k) cs hro (hF.fn _) (hF.room _)
  obtain ⟨ρ3, w3, a3, g1, g2, g3, g4, g5, g6⟩ := k6 ho.2 F hF hr ρ2 w2 a2 lo k1 k3 k4 b k cs hro
  refine ⟨ρ3, w3, a3, g1, Step.trans R k2 g2, g3, g4, fun hh => (g5 hh).trans k5, ?_⟩
  exact .of_steps (.one (hF.fenced _ _) stepR_region) (.of_steps harr g6)

theorem SemI.regionDraw (hD : DrawOK C) {rnd : Bool} {nt : Nat} {id : Nat} {ops : Array Oper} {K : List AItem} {fr fr' : Fr} {h h' : Heap} {r : Out × Fr × Heap} (ht : DTr C ops 0 [] [] fr h fr' h') (hs : SemI C rnd nt K fr' h' r) :
    SemI C rnd nt (.code (.region id ops true) :: K) fr h r := by
  intro ho F hF hr ρ w a lo R hf hd b k cs hro
  rw [okItems_cons] at ho
  have hok : ops.toList.all (okOper nt C.G) = true ∧ drawOk ops = true := by
    have := ho.1
    simp only [okItem, okCode, Bool.and_eq_true] at this
    exact ⟨this.1, by simpa using this.2⟩
  have hwp := hD nt ops hok.2 hok.1 fr fr' h h' ht F hF ρ w a R hf (w.tape w.drawn (.order b.fn id))
  obtain ⟨e, a2, w2, ⟨rfl, k5, ρ2, k1, k2, k3⟩, harr⟩ := wp_opsIn _ a _ hwp b (K.map conc ++ k) cs hro (hF.fn _) (hF.room _)
  obtain ⟨ρ3, w3, a3, g1, g2, g3, g4, g5, g6⟩ := hs ho.2 F hF hr ρ2 w2 a2 lo k1 k3 (by rw [k5]; exact hd.step R k2) b k cs hro
  refine ⟨ρ3, w3, a3, g1, Step.trans R k2 g2, g3, g4, fun hh => (g5 hh).trans k5, ?_⟩
  exact .of_steps (.one (hF.fenced _ _) stepR_region_draw) (.of_steps harr g6)

/-- What is said of a run. -/
theorem stepR_inScope {P : Program} {b : Frame} {a : Act} {k : List Item} {cs : List Frame} {w : World} {c : Code} : step P (lone (b.atR a (.inScope c :: k)) cs w) = .next (lone (b.atR a k) cs w) :=
  step_lone_go (by simp [stepG, stepG.exec, Frame.atR])
theorem stepR_scope {P : Program} {b : Frame} {a : Act} {k : List Item} {cs : List Frame} {w : World} {c : Code} : step P (lone (b.atR a (.code (.scope c) :: k)) cs w) = .next (lone (b.atR a (.code c :: .inScope c :: k)) cs w) :=
  step_lone_go (by simp [stepG, stepG.exec, Frame.atR])

def Mot (C : Ctx) (rnd : Bool) (nt : Nat) (todo : List AItem) (fr : Fr) (h : Heap) (r : Out × Fr × Heap) : Prop :=
  match todo with
  | .ops true ops i es rs :: K => ∃ fr' h', DTr C ops i es rs fr h fr' h' ∧ SemI C rnd nt K fr' h' r
  | .ops false ops i _ _ :: K => OpsSem C rnd nt ops i K fr h r
  | todo => SemI C rnd nt todo fr h r

theorem Mot.sem {rnd : Bool} {nt : Nat} {todo : List AItem} {fr : Fr} {h : Heap} {r : Out × Fr × Heap} (m : Mot C rnd nt todo fr h r) : SemI C rnd nt todo fr h r := by
  unfold Mot at m
  split at m
  · intro ho; simp [okItems, okItem] at ho
  · intro ho; simp [okItems, okItem] at ho
  · exact m

theorem bind_some {α β : Type} {o : Option α} {f : α → Option β} {b : β} (h : (o >>= f) = some b) : ∃ a, o = some a ∧ f a = some b := by
  cases o with
  | none => cases h
  | some a => exact ⟨a, rfl, h⟩

theorem ev_sound (hX : XOK C) (hD : DrawOK C) : ∀ (rnd : Bool) (nt : Nat) (todo : List AItem) (fr : Fr) (h : Heap) (r : Out × Fr × Heap), ev C rnd nt todo fr h = some r → Mot C rnd nt todo fr h r := by
  refine ev_ind C (Mot C) ?_
  intro ev ih rnd nt todo fr h r hev
  unfold evG at hev
  have is : ∀ (rnd : Bool) (nt : Nat) (todo : List AItem) (fr : Fr) (h : Heap) (r : Out × Fr × Heap), ev rnd nt todo fr h = some r → SemI C rnd nt todo fr h r := fun rnd nt todo fr h r he => (ih rnd nt todo fr h r he).sem
  split at hev
  · cases hev; exact SemI.done
  · exact SemI.head (todo' := _) (fun h => (okItems_cons.1 h).2) (fun _ ρ w a b k cs _ _ => stepR_inBlock) (is _ _ _ _ _ _ hev)
  · exact SemI.head (fun h => by
      simp only [okItems_cons, okItem] at h ⊢
      exact ⟨h.1, h.1, h.2⟩) (fun _ ρ w a b k cs _ _ => stepR_inLoop) (is _ _ _ _ _ _ hev)
  · exact SemI.head (fun h => (okItems_cons.1 h).2) (fun _ ρ w a b k cs _ _ => stepR_inScope) (is _ _ _ _ _ _ hev)
  · exact SemI.head (fun h => (okItems_cons.1 h).2) (fun _ ρ w a b k cs _ _ => stepR_skip) (is _ _ _ _ _ _ hev)
  · exact SemI.head (fun h => (okItems_cons.1 h).2) (fun _ ρ w a b k cs _ _ => stepR_label) (is _ _ _ _ _ _ hev)
  · rename_i a b k
    exact SemI.head (fun h => by
      simp only [okItems_cons, okItem, okCode, Bool.and_eq_true] at h ⊢
      exact ⟨h.1.1, h.1.2, h.2⟩) (fun _ ρ w a b k cs _ _ => stepR_seq) (is _ _ _ _ _ _ hev)
  · rename_i c a b k
    split at hev
    · rename_i hc
      refine SemI.head (fun h => by
        simp only [okItems_cons, okItem, okCode, Bool.and_eq_true] at h ⊢
        exact ⟨h.1.1.2, h.2⟩) (fun ho ρ w a b k cs R hf => ?_) (is _ _ _ _ _ _ hev)
      have hv := feval_ok R hf (x := c) (by simp only [okItems_cons, okItem, okCode, Bool.and_eq_true] at ho; exact ho.1.1.1)
      rw [hc] at hv
      exact stepR_cond (t := true) (by generalize a.eval c = x at hv; cases hv; rfl)
    · rename_i hc
      refine SemI.head (fun h => by
        simp only [okItems_cons, okItem, okCode, Bool.and_eq_true] at h ⊢
        exact ⟨h.1.2, h.2⟩) (fun ho ρ w a b k cs R hf => ?_) (is _ _ _ _ _ _ hev)
      have hv := feval_ok R hf (x := c) (by simp only [okItems_cons, okItem, okCode, Bool.and_eq_true] at ho; exact ho.1.1.1)
      rw [hc] at hv
      exact stepR_cond (t := false) (by generalize a.eval c = x at hv; cases hv; rfl)
    · cases hev
  · exact SemI.head (fun h => by
      simp only [okItems_cons, okItem, okCode] at h ⊢
      exact ⟨h.1, trivial, h.2⟩) (fun _ ρ w a b k cs _ _ => stepR_block) (is _ _ _ _ _ _ hev)
  · exact SemI.head (fun h => by
      simp only [okItems_cons, okItem, okCode] at h ⊢
      exact ⟨h.1, h.1, h.2⟩) (fun _ ρ w a b k cs _ _ => stepR_loop) (is _ _ _ _ _ _ hev)
  · exact SemI.head (fun h => by
      simp only [okItems_cons, okItem, okCode] at h ⊢
      exact ⟨h.1, h.1, h.2⟩) (fun _ ρ w a b k cs _ _ => stepR_scope) (is _ _ _ _ _ _ hev)
  · split at hev
    · rename_i hx
      exact SemI.head (fun h => exit_ok hx (okItems_cons.1 h).2) (fun _ ρ w a b k cs _ _ => stepR_exit (exit_some k hx)) (is _ _ _ _ _ _ hev)
    · rename_i hx
      cases hev
      exact SemI.exitOut hx
  · cases hev; exact SemI.ret
  · rename_i id ops d k
    cases d with
    | false => exact SemI.region (ih _ _ _ _ _ _ hev)
    | true =>
      obtain ⟨fr', h', ht, hs⟩ := ih _ _ _ _ _ _ hev
      exact SemI.regionDraw hD ht hs
  · rename_i d ops i es rs k
    split at hev
    · rename_i hi
      cases d with
      | false => exact OpsSem.done hi (is _ _ _ _ _ _ hev)
      | true => exact ⟨_, _, .done hi, is _ _ _ _ _ _ hev⟩
    · rename_i o hi
      have step : ∀ {v : Value} {h1 : Heap}, wantedA ops o fr = true → OpSem C o fr h v h1 → (isEff o.op = false → aop C.P o.op o.type fr h = some (v, h1)) →
          (if lookD d ops o.op fr h h1 i es rs = true then ev rnd nt (.ops d ops (i + 1) (grown o.op fr h h1 i es rs).1 (grown o.op fr h h1 i es rs).2 :: k) (fput fr o.dst v) h1 else none) = some r →
          Mot C rnd nt (.ops d ops i es rs :: k) fr h r := by
        intro v h1 hw hop he hr
        split at hr
        · rename_i hl
          have hm := ih _ _ _ _ _ _ hr
          cases d with
          | false => exact OpsSem.step hi hw hop hm
          | true =>
            obtain ⟨fr', h', ht, hs⟩ := hm
            exact ⟨fr', h', .step hi hw hop he hl ht, hs⟩
        · cases hr
      split at hev
      · rename_i hw
        split at hev
        · rename_i f xs hc
          have heff : isEff o.op = true := by
            obtain ⟨c, hop, hcal, _⟩ := callee_inv hc
            rw [hop]; simp [isEff, hcal]
          split at hev
          · rename_i f' args ht
            obtain ⟨⟨v, h1⟩, hr1, hr2⟩ := bind_some hev
            refine step hw (OpSem.of_call hc ht ?_) (fun he => by rw [heff] at he; cases he) hr2
            split at hr1
            · rename_i g hg
              exact hX _ _ hg _ _ _ _ hr1
            · split at hr1
              · rename_i B hB
                split at hr1
                case isFalse => cases hr1
                rename_i hle
                obtain ⟨q, hq1, hq2⟩ := bind_some hr1
                exact FnSem.of_body hB hle (is _ _ _ _ _ _ hq1) hq2
              · cases hr1
          · rename_i l args ht
            split at hev
            · rename_i nt' fr0 ps assign body hy
              split at hev
              · rename_i hdl
                obtain ⟨r1, e1, hev⟩ := bind_some hev
                split at hev
                · rename_i hn1
                  obtain ⟨h1, e2, hev⟩ := bind_some hev
                  obtain ⟨r2, e3, hev⟩ := bind_some hev
                  obtain ⟨r3, e4, hev⟩ := bind_some hev
                  have hm := ih _ _ _ _ _ _ hev
                  obtain ⟨rfl, hlen⟩ := hdl
                  exact OpsSem.step hi hw (OpSem.of_yield hc ht hy hlen (is _ _ _ _ _ _ e1) hn1 e2 (is _ _ _ _ _ _ e3) e4) hm
                · cases hev
              · cases hev
            · cases hev
          · cases hev
        · obtain ⟨⟨v, h1⟩, hr1, hr2⟩ := bind_some hev
          exact step hw (OpSem.of_aop hr1) (fun _ => hr1) hr2
      · rename_i hw
        have hm := ih _ _ _ _ _ _ hev
        have hw' : wantedA ops o fr = false := by simpa using hw
        cases d with
        | false => exact OpsSem.skip hi hw' hm
        | true =>
          obtain ⟨fr', h', ht, hs⟩ := hm
          exact ⟨fr', h', .skip hi hw' ht, hs⟩
  · rename_i g ps assign body k
    split at hev
    · cases hev
    · rename_i hrnd
      have hrnd' : rnd = false := by simpa using hrnd
      subst hrnd'
      split at hev
      · rename_i f args ht
        split at hev
        · rename_i B hX0 hB
          obtain ⟨⟨v, h1⟩, hr1, hev⟩ := bind_some hev
          split at hr1
          case isFalse => cases hr1
          rename_i hle
          obtain ⟨q, hq1, hq2⟩ := bind_some hr1
          obtain ⟨x, hx, hev⟩ := bind_some hev
          exact SemI.range ht (FnSem.of_body hB hle (is _ _ _ _ _ _ hq1) hq2) hx (is _ _ _ _ _ _ hev)
        · cases hev
      · cases hev
  · cases hev
  · cases hev

/-- A function, run by the evaluator. -/
theorem evF_sound (hX : XOK C) (hD : DrawOK C) {f : FuncId} {args : List Value} {h h' : Heap} {v : Value} (he : evF C f args h = some (v, h')) : FnSem C f args h v h' := by
  unfold evF at he
  split at he
  · rename_i g hg
    exact hX _ _ hg _ _ _ _ he
  · split at he
    · rename_i B hB
      split at he
      case isFalse => cases he
      rename_i hle
      obtain ⟨q, hq1, hq2⟩ := bind_some he
      exact FnSem.of_body hB hle ((ev_sound hX hD _ _ _ _ _ _ hq1).sem) hq2
    · cases he

end
end Gl
end
