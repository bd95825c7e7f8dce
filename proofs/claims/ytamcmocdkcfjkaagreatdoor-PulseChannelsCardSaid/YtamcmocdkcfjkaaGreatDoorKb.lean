/-
  Further operations: slices, maps, builtins, operators.
-/
import Derived.Test.YtamcmocdkcfjkaaGreatDoorKa
set_option linter.all false
/- Further operations: slices, maps, builtins, operators. -/
section
namespace Gl
open Go

section
variable {G : List Nat} {ρ : Rho} {w : World} {h : Heap} {P : Program}

theorem wrap_small {n : Int} (h0 : 0 ≤ n) (h1 : n < 2 ^ 32) : IntKind.i64.wrap n = n := by
  unfold IntKind.wrap IntKind.bits IntKind.signed
  simp
  omega

theorem amakeSlice_ok (R : Rep G ρ w.heap h) {t : TypeId} {l cl c cc v : Value} {h' : Heap} (hl : VR ρ cl l) (hc : VR ρ cc c) (hm : amakeSlice P h t l c = some (v, h')) :
    RunTo G P (Instr.makeSlice t cl cc) ρ w h v h' := by
  unfold amakeSlice at hm
  split at hm <;> try (simp at hm; done)
  rename_i ti k1 l k2 c ht
  split at hm <;> try (simp at hm; done)
  rename_i e hu
  split at hm <;> try (simp at hm; done)
  rename_i te hte
  split at hm <;> try (simp at hm; done)
  rename_i z hz
  split at hm <;> simp at hm
  rename_i hcond
  obtain ⟨hp, hcell, hsz, hpos, hl0, hlc, hcb, hbb⟩ := hcond
  obtain ⟨rfl, rfl⟩ := hm
  cases hl
  cases hc
  obtain ⟨i, hi1, hi2, hi3, hi4⟩ := run_tinf hte w
  have hwl := wrap_small hl0 (by omega)
  have hwc := wrap_small (show 0 ≤ c by omega) hcb
  obtain ⟨cz, hcz⟩ : ∃ cz, cz = (Array.range (c.toNat * te.sz)).map (fun i => z.cells[i % z.cells.size]!) := ⟨_, rfl⟩
  have hczl : cz.toList = zerosA (cellsV z) c.toNat := by rw [hcz]; exact zeros_eq z _ _ (by rw [hsz]) (by omega)
  have hcs : cz.size = c.toNat * te.sz := by rw [hcz]; simp
  obtain ⟨hR, hS⟩ := newCells_ok R cz (zerosA (cellsV z) c.toNat) te.sz true e (0, 0)
    (by rw [hczl, List.take_of_length_le (Nat.le_refl _)]; exact VRs.flatten (plain_cells_refl hp)) (fun _ => by rw [hcs, zerosA_length, hsz]) (fun k _ => by simp)
    { w with heap := w.heap.push (.cells cz e) } rfl rfl rfl rfl
  have hbytes : ((i.bytes : Int) * c) ≤ 2 ^ 48 := by
    have h1 : (i.bytes : Int) ≤ 2 ^ 12 := by rw [hi4]; omega
    have h2 : (i.bytes : Int) * c ≤ 2 ^ 12 * c := Int.mul_le_mul_of_nonneg_right h1 (by omega)
    omega
  refine ⟨_, _, .slice (some ⟨w.heap.size, 0, none⟩) l.toNat c.toNat, ?_, ?_, hR, hS⟩
  · unfold Instr.makeSlice
    simp only [Sem.run_bind, run_und ht, hu, Result.andThen_ok, asInt, asIntOf, Sem.run_pure, hi1, hwl, hwc]
    have hcond : ¬ ((decide (c < 0) || decide ((i.bytes : Int) * c > 2 ^ 48) || decide (l < 0) || decide (l > c)) = true) := by
      simp only [Bool.or_eq_true, decide_eq_true_eq]; omega
    rw [if_neg hcond]
    simp only [Sem.run_bind, Sem.run_pure, Result.andThen_ok, run_askRoom, run_size hte]
    by_cases hn : c.toNat * te.sz = 0
    · rw [if_pos hn]
      simp only [Sem.run_bind, Sem.run_pure, Result.andThen_ok]
      have hcz0 : cz = (Array.range (c.toNat * te.sz)).map (fun i => (#[] : Array Value)[i % (#[] : Array Value).size]!) := by
        rw [hcz, hn]; simp
      rw [← hcz0]
      simp [newRow]
    · rw [if_neg hn]
      simp only [Sem.run_bind, run_zero hte hz, Result.andThen_ok, Sem.run_pure]
      have : z.cells = z.cells := rfl
      rw [← hcz]
      simp [newRow]
  · exact VR.slice0 (ext_same _ _ _) rfl (by simp; omega) (by omega)

/-! ### Slice expressions -/

/-- An optional value of the machine, and an abstract one. -/
def OptR (ρ : Rho) (a c : Option Value) : Prop := match a, c with | none, none => True | some x, some y => VR ρ y x | _, _ => False
/-- An optional integer. -/
def IntOpt (o : Option Int) (c : Option Value) : Prop := match o with | none => c = none | some n => ∃ k, c = some (.int k n)

theorem optInt_ok {a c : Option Value} {o : Option Int} (hv : OptR ρ a c) (ho : optInt a = some o) : IntOpt o c := by
  unfold OptR at hv
  unfold IntOpt
  unfold optInt at ho
  split at ho
  · simp at ho; subst ho
    cases c with
    | none => rfl
    | some y => exact hv.elim
  · simp at ho; subst ho
    cases c with
    | none => exact hv.elim
    | some y =>
      simp only at hv
      cases hv
      exact ⟨_, rfl⟩
  · simp at ho

theorem run_bound {x : Value} {k : IntKind} {n : Int} {y : Nat} {code : BoundsCode} (hx : x = .int k n) (h0 : 0 ≤ n) (h1 : n ≤ y) : (Instr.sliceBound x y code).run P w = .ok n.toNat w := by
  subst hx
  unfold Instr.sliceBound
  simp only [asIntOf, Sem.run_bind, Sem.run_pure, Result.andThen_ok]
  rw [if_pos ⟨h0, h1⟩]
  rfl

/-- The bounds of a slice expression, all in their ranges. -/
theorem run_bounds {isSlice : Bool} {len cap : Nat} {lo hi mx : Option Int} {clo chi cmx : Option Value}
    (hlo : IntOpt lo clo) (hhi : IntOpt hi chi)
    (hmx : IntOpt mx cmx) (h0 : 0 ≤ lo.getD 0) (h1 : lo.getD 0 ≤ hi.getD len)
    (h2 : hi.getD len ≤ mx.getD cap) (h3 : mx.getD cap ≤ cap) (h4 : hi = none → mx = none) :
    (Instr.sliceBounds isSlice len cap clo chi cmx).run P w = .ok ((lo.getD 0).toNat, (hi.getD len).toNat, (mx.getD cap).toNat) w := by
  unfold Instr.sliceBounds
  unfold IntOpt at hlo hhi hmx
  cases mx with
  | none =>
    simp only at hmx; subst hmx
    simp only [Option.getD_none] at h2 h3 ⊢
    cases hi with
    | none =>
      simp only at hhi; subst hhi
      cases lo with
      | none =>
        simp only at hlo; subst hlo
        simp
      | some l =>
        obtain ⟨k, rfl⟩ := hlo
        simp only [Option.getD_some, Option.getD_none] at h0 h1 ⊢
        simp only [Sem.run_bind, Sem.run_pure, Result.andThen_ok]
        rw [run_bound rfl h0 (by simpa using h1)]
        simp
    | some r =>
      obtain ⟨k, rfl⟩ := hhi
      simp only [Option.getD_some] at h1 h2 ⊢
      cases lo with
      | none =>
        simp only at hlo; subst hlo
        simp only [Option.getD_none] at h0 h1 ⊢
        simp only [Sem.run_bind, Sem.run_pure, Result.andThen_ok]
        rw [run_bound rfl h1 h2]
        simp
      | some l =>
        obtain ⟨k', rfl⟩ := hlo
        simp only [Option.getD_some] at h0 h1 ⊢
        simp only [Sem.run_bind, Sem.run_pure, Result.andThen_ok]
        rw [run_bound rfl (by omega) h2]
        simp only [Result.andThen_ok]
        rw [run_bound rfl h0 (by omega)]
        simp
  | some m =>
    obtain ⟨km, rfl⟩ := hmx
    cases hi with
    | none => exact absurd (h4 rfl) (by simp)
    | some r =>
      obtain ⟨k, rfl⟩ := hhi
      simp only [Option.getD_some] at h1 h2 h3 ⊢
      cases lo with
      | none =>
        simp only at hlo; subst hlo
        simp only [Option.getD_none] at h0 h1 ⊢
        simp only [Sem.run_bind]
        rw [run_bound rfl (by omega) h3]
        simp only [Result.andThen_ok]
        rw [run_bound rfl h1 (by omega)]
        simp
      | some l =>
        obtain ⟨k', rfl⟩ := hlo
        simp only [Option.getD_some] at h0 h1 ⊢
        simp only [Sem.run_bind]
        rw [run_bound rfl (by omega) h3]
        simp only [Result.andThen_ok]
        rw [run_bound rfl (by omega) (by omega)]
        simp only [Result.andThen_ok]
        rw [run_bound rfl h0 (by omega)]
        simp

end
end Gl
end

/- Further operations: slice expressions, maps, lengths. -/
section
namespace Gl
open Go

section
variable {G : List Nat} {ρ : Rho} {w : World} {h : Heap} {P : Program}


theorem optInt_or {hi mx : Option Value} {a b : Option Int} (h1 : optInt hi = some a) (h2 : optInt mx = some b) : a = none ↔ hi = none := by
  cases hi with
  | none => simp [optInt] at h1; simp [h1]
  | some v => cases v <;> simp [optInt] at h1; simp [← h1]

/-- A slice of a slice of which the cap is known from below. -/
theorem asliceS_ok {isS : Bool} {i off sz A len cap' : Nat} {known : Bool} {lo hi mx : Option Int} {clo chi cmx : Option Value} {v : Value} {g : Gh} (hi0 : ρ i = some g)
    (hlo : IntOpt lo clo) (hhi : IntOpt hi chi)
    (hmx : IntOpt mx cmx) (h4 : hi = none → mx = none)
    (hA : A ≤ cap') (hk : known = true → A = cap') (hF : known = false → off + cap' * g.esz = g.room ∧ g.esz = sz) (hsm : cap' < 2 ^ 63)
    (hs : asliceS i off sz A known len lo hi mx = some v) :
    ∃ l r m : Nat, (Instr.sliceBounds isS len cap' clo chi cmx).run P w = .ok (l, r, m) w ∧ l ≤ r ∧ r ≤ m ∧
      VR ρ (.slice (some (if m = l then ⟨g.blk, g.base + off, none⟩ else (⟨g.blk, g.base + off, none⟩ : Addr).add (l * sz))) (r - l) (m - l)) v := by
  unfold asliceS at hs
  simp only at hs
  split at hs <;> try (simp at hs; done)
  rename_i hc
  obtain ⟨h0, h1, h2⟩ := hc
  cases mx with
  | some m =>
    simp only at hs
    split at hs <;> simp at hs
    rename_i hm
    subst hs
    have hb := run_bounds (P := P) (w := w) (isSlice := isS) (len := len) (cap := cap') hlo hhi hmx h0 h1 (by simpa using hm.1) (by simp; omega) h4
    refine ⟨_, _, _, hb, by omega, by simp; omega, ?_⟩
    simp only [Option.getD_some]
    have hcap : ((m - lo.getD 0).toNat) ≠ FULL := by unfold FULL; omega
    have hcap2 : ((m - lo.getD 0).toNat) ≠ ANY := by unfold ANY; omega
    have hcap3 : ((m - lo.getD 0).toNat) < 2 ^ 63 := by omega
    rw [show m.toNat - (lo.getD 0).toNat = (m - lo.getD 0).toNat by omega, show (hi.getD len).toNat - (lo.getD 0).toNat = (hi.getD len - lo.getD 0).toNat by omega]
    by_cases hml : m = lo.getD 0
    · rw [if_pos (by omega), if_pos hml]
      exact VR.slice hi0 (fun h => absurd h hcap) (fun _ => rfl) hcap2 hcap3
    · rw [if_neg (by omega), if_neg hml, add_none, Nat.add_assoc]
      exact VR.slice hi0 (fun h => absurd h hcap) (fun _ => rfl) hcap2 hcap3
  | none =>
    simp only at hs
    have hb := run_bounds (P := P) (w := w) (isSlice := isS) (len := len) (cap := cap') hlo hhi hmx h0 h1 (by simp; omega) (by simp) h4
    refine ⟨_, _, _, hb, by omega, by simp; omega, ?_⟩
    rw [show (hi.getD len).toNat - (lo.getD 0).toNat = (hi.getD len - lo.getD 0).toNat by omega]
    simp only [Option.getD_none, Int.toNat_natCast]
    cases known with
    | true =>
      simp only [if_true, Option.some.injEq] at hs
      subst hs
      have hk' := hk rfl
      subst hk'
      have hcap : (A - (lo.getD 0).toNat) ≠ FULL := by unfold FULL; omega
      have hcap2 : (A - (lo.getD 0).toNat) ≠ ANY := by unfold ANY; omega
      have hcap3 : (A - (lo.getD 0).toNat) < 2 ^ 63 := by omega
      by_cases hml : (A : Int) = lo.getD 0
      · rw [if_pos (by omega), if_pos hml]
        exact VR.slice hi0 (fun h => absurd h hcap) (fun _ => rfl) hcap2 hcap3
      · rw [if_neg (by omega), if_neg hml, add_none, Nat.add_assoc]
        exact VR.slice hi0 (fun h => absurd h hcap) (fun _ => rfl) hcap2 hcap3
    | false =>
      obtain ⟨hF1, hF2⟩ := hF rfl
      simp only [Bool.false_eq_true, if_false] at hs
      split at hs
      · rename_i hl
        simp at hs; subst hs
        rw [if_neg (by omega), add_none, Nat.add_assoc]
        refine VR.slice hi0 (fun _ => ?_) (fun h => absurd rfl h) FULL_ne_ANY (by omega)
        rw [← hF1, ← hF2, Nat.add_assoc, ← Nat.add_mul]
        congr 2
        omega
      · rename_i hl
        simp at hs; subst hs
        rw [show (hi.getD len - lo.getD 0).toNat = 0 by omega]
        exact VR.anySlice

theorem aslice_ok (R : Rep G ρ w.heap h) {t : TypeId} {x cx v : Value} {lo hi mx clo chi cmx : Option Value} (hx : VR ρ cx x)
    (hlo : OptR ρ lo clo) (hhi : OptR ρ hi chi)
    (hmx : OptR ρ mx cmx) (h4 : hi = none → mx = none)
    (hs : aslice P h t x lo hi mx = some v) : RunTo G P (Instr.sliceAt t cx clo chi cmx) ρ w h v h := by
  unfold aslice at hs
  split at hs <;> try (simp at hs; done)
  · rename_i ti s lo' hi' ht e1 e2 e3
    split at hs <;> try (simp at hs; done)
    rename_i hu
    simp only at hs
    split at hs <;> simp at hs
    rename_i hc
    subst hs
    cases hx
    have hl := optInt_ok hlo e1
    have hh := optInt_ok hhi e2
    have hm := optInt_ok hmx e3
    unfold IntOpt at hm
    simp only at hm
    subst hm
    have hb := run_bounds (P := P) (w := w) (isSlice := false) (len := s.size) (cap := s.size) (mx := none) hl hh rfl hc.1 hc.2.1 (by simpa using hc.2.2) (by simp) (fun _ => rfl)
    refine RunTo.same R (vc := .string (s.extract (lo'.getD 0).toNat (hi'.getD s.size).toNat)) ?_ (.string _)
    unfold Instr.sliceAt
    simp only [Sem.run_bind, run_und ht, hu, Result.andThen_ok]
    unfold Instr.slice
    simp only [Sem.run_bind, run_und ht, hu, Result.andThen_ok, Option.isSome_none, Bool.false_eq_true, if_false, hb, Sem.run_pure]
  · rename_i ti lo' hi' mx' ht e1 e2 e3
    split at hs <;> try (simp at hs; done)
    rename_i e hu
    split at hs <;> try (simp at hs; done)
    rename_i te hte
    split at hs <;> simp at hs
    rename_i hc
    subst hs
    cases hx
    have hl := optInt_ok hlo e1
    have hh := optInt_ok hhi e2
    have hm := optInt_ok hmx e3
    have h4' : hi' = none → mx' = none := fun he => by
      have := h4 ((optInt_or e2 e3).1 he)
      subst this
      simp [optInt] at e3; exact e3.symm
    have hmz : mx'.getD ((0 : Nat) : Int) = 0 := by cases mx' <;> simp_all
    have hhz : hi'.getD ((0 : Nat) : Int) = 0 := by cases hi' <;> simp_all
    have hb := run_bounds (P := P) (w := w) (isSlice := true) (len := 0) (cap := 0) (lo := lo') (hi := hi') (mx := mx') hl hh hm (by omega) (by rw [hhz]; omega) (by rw [hhz, hmz]; omega) (by rw [hmz]; omega) h4'
    refine RunTo.same R (vc := .slice none 0 0) ?_ (.nilSlice _ _)
    unfold Instr.sliceAt
    simp only [Sem.run_bind, run_und ht, hu, Result.andThen_ok]
    unfold Instr.slice
    simp only [Sem.run_bind, run_und ht, hu, Result.andThen_ok, hb, run_size hte, Sem.run_pure, hc.1, hhz, hmz]
    simp
  · rename_i ti i off len cap lo' hi' mx' ht e1 e2 e3
    split at hs <;> try (simp at hs; done)
    rename_i e hu
    split at hs <;> try (simp at hs; done)
    rename_i te hte
    have hl := optInt_ok hlo e1
    have hh := optInt_ok hhi e2
    have hm := optInt_ok hmx e3
    have h4' : hi' = none → mx' = none := fun he => by
      have := h4 ((optInt_or e2 e3).1 he)
      subst this
      simp [optInt] at e3; exact e3.symm
    cases hx with
    | slice hi0 c1 c2 c3 hsm =>
      rename_i cap' g
      have fin : ∀ (A : Nat) (known : Bool), A ≤ cap' → (known = true → A = cap') → (known = false → off + cap' * g.esz = g.room ∧ g.esz = te.sz) →
          asliceS i off te.sz A known len lo' hi' mx' = some v → RunTo G P (Instr.sliceAt t (.slice (some ⟨g.blk, g.base + off, none⟩) len cap') clo chi cmx) ρ w h v h := by
        intro A known hA hk hF hs'
        obtain ⟨l, r, m, hb, _, _, hv⟩ := asliceS_ok (P := P) (w := w) (isS := true) (lo := lo') (hi := hi') (mx := mx') hi0 hl hh hm h4' hA hk hF hsm hs'
        refine RunTo.same R ?_ hv
        unfold Instr.sliceAt
        simp only [Sem.run_bind, run_und ht, hu, Result.andThen_ok]
        unfold Instr.slice
        simp only [Sem.run_bind, run_und ht, hu, Result.andThen_ok, hb, run_size hte, Sem.run_pure]
        split <;> simp_all
      split at hs
      · rename_i hcf
        split at hs <;> try (simp at hs; done)
        rename_i A hav
        unfold avail at hav
        split at hav <;> try (simp at hav; done)
        rename_i c esz rw full hb
        split at hav <;> simp at hav
        rename_i hesz
        obtain ⟨b, hb', hR⟩ := R.blk i g hi0
        rw [hb] at hb'; cases hb'
        obtain ⟨c', e', fz, hc', hrow⟩ := hR
        have hF := c1 hcf
        have he : g.esz = te.sz := by rw [hrow.esz]; exact hesz.1
        refine fin A false ?_ (by simp) (fun _ => ⟨hF, he⟩) hs
        rw [← hav]
        refine Nat.div_le_of_le_mul ?_
        rw [he] at hF
        have := hrow.len
        rw [Nat.mul_comm]
        omega
      · rename_i hcf
        exact fin cap true (by rw [c2 hcf]; exact Nat.le_refl _) (fun _ => (c2 hcf).symm) (by simp) hs
    | anySlice =>
      rename_i a cap'
      split at hs
      · rename_i hcf; exact absurd hcf.symm FULL_ne_ANY
      · simp only [if_true] at hs
        split at hs <;> simp at hs
        rename_i hc
        subst hs
        obtain ⟨_, hlz, hhz, hmz⟩ := hc
        cases mx' with
        | some m => simp at hmz
        | none =>
          have hhz' : hi'.getD ((0 : Nat) : Int) = 0 := by cases hi' <;> simp_all
          have hb := run_bounds (P := P) (w := w) (isSlice := true) (len := 0) (cap := cap') (lo := lo') (hi := hi') (mx := none) hl hh hm (by omega) (by rw [hhz']; omega) (by rw [hhz']; simp) (by simp) h4'
          refine RunTo.same R (vc := .slice (some (if cap' = 0 then a else a.add (0 * te.sz))) 0 (cap' - 0)) ?_ ?_
          · unfold Instr.sliceAt
            simp only [Sem.run_bind, run_und ht, hu, Result.andThen_ok]
            unfold Instr.slice
            simp only [Sem.run_bind, run_und ht, hu, Result.andThen_ok, hb, run_size hte, Sem.run_pure, hlz, hhz']
            simp
            split <;> simp_all
          · exact VR.anySlice
  · rename_i ti i off lo' hi' ht e1 e2 e3
    split at hs <;> try (simp at hs; done)
    rename_i n e hu
    split at hs <;> try (simp at hs; done)
    rename_i te hte
    split at hs <;> try (simp at hs; done)
    rename_i hn
    have hl := optInt_ok hlo e1
    have hh := optInt_ok hhi e2
    have hm := optInt_ok hmx e3
    cases hx with
    | ptr hi0 =>
      rename_i g
      obtain ⟨l, r, m, hb, _, _, hv⟩ := asliceS_ok (P := P) (w := w) (isS := false) (lo := lo') (hi := hi') (mx := none) hi0 hl hh hm (fun _ => rfl) (Nat.le_refl n) (fun _ => rfl) (by simp) (by omega) hs
      refine RunTo.same R ?_ hv
      unfold Instr.sliceAt
      simp only [Sem.run_bind, run_und ht, hu, Result.andThen_ok, Instr.sureAddr, Sem.run_pure, hb, run_size hte]

end
end Gl
end

/- Further operations: maps, lengths, append, copy. -/
section
namespace Gl
open Go

section
variable {G : List Nat} {ρ : Rho} {w : World} {h : Heap} {P : Program}

/-! ### Maps -/

theorem MapR.length : ∀ {es : List MapEntry} {l : List (Value × Value)}, MapR ρ es l → es.length = l.length
  | _, _, .nil => rfl
  | _, _, .cons _ _ t => congrArg (· + 1) (MapR.length t)

theorem checkKey_ok {kt : TypeId} {kti : TI} {k : Value} (ht : tinfo P kt = some kti) (hk : keyType kti.u k = true) (b : Bool) (n : Nat) (w : World) : (Instr.checkKey b (n + 1) kt k).run P w = .ok () w := by
  unfold Instr.checkKey
  simp only [Sem.run_bind, run_und ht, Result.andThen_ok]
  revert hk
  cases kti.u <;> cases k <;> simp [keyType]

theorem keyEq_now {d : TypeDesc} {k a : Value} {b : Bool} (hk : keyType d k = true) (he : keyEq k a = some b) : Instr.sameNow d k a = some b := by
  revert hk he
  cases d <;> cases k <;> simp [keyType] <;> cases a <;> simp [keyEq, Instr.sameNow]

theorem key_plain {d : TypeDesc} {k ck : Value} (hk : keyType d k = true) (hv : VR ρ ck k) : ck = k := by
  cases hv <;> first | rfl | (exfalso; revert hk; cases d <;> simp [keyType])

theorem keyEq_plain {k a ca : Value} {b : Bool} (he : keyEq k a = some b) (hv : VR ρ ca a) : ca = a := by
  cases hv <;> first | rfl | (exfalso; revert he; cases k <;> simp [keyEq])

theorem find_ok {d : TypeDesc} {k : Value} (hk : keyType d k = true) : ∀ {es : List MapEntry} {l : List (Value × Value)} (_ : MapR ρ es l) (i : Nat) (r : Option (Nat × Value)), findA k l i = some r →
    match r with
    | none => Instr.findNow d k es i = some none
    | some (j, v) => ∃ (vc : Value) (e : MapEntry), Instr.findNow d k es i = some (some (j, vc)) ∧ VR ρ vc v ∧ i ≤ j ∧ es[j - i]? = some e ∧ Instr.sameNow d k e.key = some true
  | _, _, .nil, i, r, hf => by simp [findA] at hf; subst hf; rfl
  | _, _, .cons (e := e) (k := a) (v := v) hka hv t, i, r, hf => by
    unfold findA at hf
    split at hf
    · rename_i he
      simp at hf; subst hf
      have := keyEq_plain he hka
      have hn := keyEq_now hk he
      rw [← this] at hn
      exact ⟨e.val, e, by simp [Instr.findNow, hn], hv, Nat.le_refl _, by simp, hn⟩
    · rename_i he
      have := keyEq_plain he hka
      have hn := keyEq_now hk he
      rw [← this] at hn
      have ih := find_ok hk t (i + 1) r hf
      cases r with
      | none => simp only at ih ⊢; simp [Instr.findNow, hn, ih]
      | some x =>
        obtain ⟨j, v⟩ := x
        obtain ⟨vc, e', h1, h2, h3, h4, h5⟩ := ih
        refine ⟨vc, e', by simp [Instr.findNow, hn, h1], h2, by omega, ?_, h5⟩
        rw [show j - i = (j - (i + 1)) + 1 by omega, List.getElem?_cons_succ]; exact h4
    · simp at hf

theorem run_findKey {kt : TypeId} {kti : TI} {k : Value} {es : List MapEntry} {r : Option (Nat × Value)} (ht : tinfo P kt = some kti) (hf : Instr.findNow kti.u k es 0 = some r) (w : World) :
    (Instr.findKey kt k es).run P w = .ok r w := by
  unfold Instr.findKey
  simp only [Sem.run_bind, run_und ht, Result.andThen_ok, hf, Sem.run_pure]

theorem run_getMap {r : Nat} {es : Array MapEntry} {c : Nat} (hm : w.heap[r]? = some (.map es c)) : (getObj r).run P w = .ok (.map es c) w := by
  simp [getObj, Sem.run, hm]

/-- What a lookup hands back. -/
def lookRes (ok : Bool) (z : Value) : Option (Option (Nat × Value)) → Value
  | some (some (_, v)) => if ok then .tuple #[v, .bool true] else v
  | _ => if ok then .tuple #[z, .bool false] else z

theorem alookup_ok (R : Rep G ρ w.heap h) {t : TypeId} {m cm k ck v : Value} {ok : Bool} (hm : VR ρ cm m) (hk : VR ρ ck k) (hl : alookup P h t m k ok = some v) :
    RunTo G P (Instr.lookup t cm ck ok) ρ w h v h := by
  unfold alookup at hl
  split at hl <;> try (simp at hl; done)
  rename_i ti r ht
  split at hl <;> try (simp at hl; done)
  rename_i kt et hu
  split at hl <;> try (simp at hl; done)
  rename_i kti eti hkt het
  split at hl <;> try (simp at hl; done)
  rename_i es z hes hz
  split at hl <;> try (simp at hl; done)
  rename_i hc
  have hck := key_plain hc.1 hk
  subst hck
  have key : ∀ (ces : Array MapEntry), MapR ρ ces.toList es → (do
      (Instr.checkKey ces.isEmpty 10000 kt ck)
      let (v, o) ← match ← Instr.findKey kt ck ces.toList with
        | some (_, v) => pure (v, true)
        | none => pure (← zeroValue et, false)
      pure (if ok then .tuple #[v, .bool o] else v) : Sem Value).run P w = .ok (lookRes ok z (Instr.findNow kti.u ck ces.toList 0)) w ∧
      VR ρ (lookRes ok z (Instr.findNow kti.u ck ces.toList 0)) v := by
    intro ces hmr
    split at hl
    · rename_i j v' hf
      obtain ⟨vc, e, h1, h2, _⟩ := find_ok hc.1 hmr 0 _ hf
      simp at hl; subst hl
      refine ⟨?_, ?_⟩
      · simp only [Sem.run_bind, checkKey_ok hkt hc.1, Result.andThen_ok, run_findKey hkt h1, Sem.run_pure, h1, lookRes]
      · simp only [h1, lookRes]
        cases ok
        · exact h2
        · exact .tuple (.cons h2 (.cons (.bool _) .nil))
    · rename_i hf
      have h1 := find_ok hc.1 hmr 0 _ hf
      simp only at h1
      simp at hl; subst hl
      refine ⟨?_, ?_⟩
      · simp only [Sem.run_bind, checkKey_ok hkt hc.1, Result.andThen_ok, run_findKey hkt h1, Sem.run_pure, h1, run_zero het hz, lookRes]
      · simp only [h1, lookRes]
        cases ok
        · exact VR.ofPlain hc.2
        · exact .tuple (.cons (VR.ofPlain hc.2) (.cons (.bool _) .nil))
    · simp at hl
  cases hm with
  | nilMap =>
    simp at hes; subst hes
    obtain ⟨h1, h2⟩ := key #[] .nil
    refine RunTo.same R ?_ h2
    unfold Instr.lookup
    simp only [Sem.run_bind, run_und ht, hu, Result.andThen_ok, Sem.run_pure]
    simp only [Sem.run_bind] at h1
    exact h1
  | map hi =>
    rename_i i g
    simp only at hes
    split at hes <;> simp at hes
    rename_i l hb
    subst hes
    obtain ⟨b, hb', hR⟩ := R.blk i g hi
    rw [hb] at hb'; cases hb'
    obtain ⟨entries, clock, he, hmr⟩ := hR
    obtain ⟨h1, h2⟩ := key entries hmr.1
    refine RunTo.same R ?_ h2
    unfold Instr.lookup
    simp only [Sem.run_bind, run_und ht, hu, Result.andThen_ok, run_getMap he, Sem.run_pure]
    simp only [Sem.run_bind] at h1
    exact h1

theorem Born.set {es : List MapEntry} {clock j : Nat} {e e' : MapEntry} (h : Born es clock) (hj : es[j]? = some e) (he : e'.born = e.born) : Born (es.set j e') clock := by
  refine ⟨fun x hx => ?_, ?_⟩
  · rcases List.mem_or_eq_of_mem_set hx with h1 | rfl
    · exact h.1 x h1
    · rw [he]; exact h.1 e (List.mem_of_getElem? hj)
  · have : (es.set j e').map (·.born) = es.map (·.born) := by
      apply List.ext_getElem?
      intro k
      simp only [List.getElem?_map, List.getElem?_set]
      by_cases e1 : j = k
      · subst e1
        rw [if_pos rfl, hj]
        split
        · simp [he]
        · rename_i hlt
          have := (List.getElem?_eq_some_iff.1 hj).1
          omega
      · rw [if_neg e1]
    rw [this]; exact h.2
theorem Born.push {es : List MapEntry} {clock : Nat} {e : MapEntry} (h : Born es clock) (he : e.born = clock) : Born (es ++ [e]) (clock + 1) := by
  refine ⟨fun x hx => ?_, ?_⟩
  · simp only [List.mem_append, List.mem_singleton] at hx
    rcases hx with hx | rfl
    · have := h.1 x hx; omega
    · omega
  · rw [List.map_append, List.nodup_append]
    refine ⟨h.2, by simp, fun a ha b hb => ?_⟩
    simp only [List.map_cons, List.map_nil, List.mem_singleton] at hb
    simp only [List.mem_map] at ha
    obtain ⟨x, hx, rfl⟩ := ha
    have := h.1 x hx
    omega

theorem MapR.append : ∀ {es es' : List MapEntry} {l l' : List (Value × Value)}, MapR ρ es l → MapR ρ es' l' → MapR ρ (es ++ es') (l ++ l')
  | _, _, _, _, .nil, h => h
  | _, _, _, _, .cons hk hv t, h => .cons hk hv (MapR.append t h)

theorem MapR.set : ∀ {es : List MapEntry} {l : List (Value × Value)} (j : Nat) {e : MapEntry} {k v : Value}, MapR ρ es l → VR ρ e.key k → VR ρ e.val v → MapR ρ (es.set j e) (l.set j (k, v))
  | _, _, _, _, _, _, .nil, _, _ => .nil
  | _, _, 0, _, _, _, .cons _ _ t, hk, hv => .cons hk hv t
  | _, _, j + 1, _, _, _, .cons a b t, hk, hv => .cons a b (MapR.set j t hk hv)

theorem ba_beq_iff (a b : ByteArray) : (a == b) = true ↔ a = b := by
  obtain ⟨a⟩ := a
  obtain ⟨b⟩ := b
  constructor
  · intro h
    have : (a == b) = true := h
    simp at this
    rw [this]
  · intro h
    cases h
    show (a == a) = true
    simp

theorem sameBits_now {d : TypeDesc} {k a : Value} (h : Instr.sameNow d k a = some true) (n : Nat) : Instr.sameBits n a k = true := by
  unfold Instr.sameNow at h
  split at h
  · split at h <;> simp at h
    subst_vars
    cases n <;> simp [Instr.sameBits]
  · simp only [Option.some.injEq] at h
    have := (ba_beq_iff _ _).1 h; subst this
    cases n <;> simpa [Instr.sameBits] using h
  · simp at h; subst h
    cases n <;> simp [Instr.sameBits]
  · simp at h

theorem amapUpdate_ok (R : Rep G ρ w.heap h) {t : TypeId} {m cm k ck v cv : Value} {h' : Heap} (hm : VR ρ cm m) (hk : VR ρ ck k) (hv : VR ρ cv v) (hl : amapUpdate P h t m k v = some h') :
    ∃ w', (Instr.mapUpdate t cm ck cv).run P w = .ok () w' ∧ Rep G ρ w'.heap h' ∧ Step ρ w h ρ w' h' := by
  unfold amapUpdate at hl
  split at hl <;> try (simp at hl; done)
  rename_i ti i ht
  split at hl <;> try (simp at hl; done)
  rename_i kt et hu
  split at hl <;> try (simp at hl; done)
  rename_i kti es hkt hb
  split at hl <;> try (simp at hl; done)
  rename_i hc
  have hck := key_plain hc hk
  subst hck
  cases hm with
  | map hi =>
    rename_i g
    obtain ⟨b, hb', hR⟩ := R.blk i g hi
    rw [hb] at hb'; cases hb'
    obtain ⟨entries, clock, he, hmr, hborn⟩ := hR
    have hlt : g.blk < w.heap.size := R.lt i g hi
    have fin : ∀ (entries' : Array MapEntry) (clock' : Nat) (l' : List (Value × Value)), MapR ρ entries'.toList l' → Born entries'.toList clock' → (∀ w1 : World, (setObj g.blk (.map entries' clock')).run P w = .ok () w1 →
        Rep G ρ w1.heap (hput h i (.map l')) ∧ Step ρ w h ρ w1 (hput h i (.map l'))) ∧ ∃ w1 : World, (setObj g.blk (.map entries' clock')).run P w = .ok () w1 := by
      intro entries' clock' l' hmr' hborn'
      have hrun : (setObj g.blk (.map entries' clock')).run P w = .ok () { w with heap := w.heap.setIfInBounds g.blk (.map entries' clock') } := by
        simp [setObj, Sem.run, he]
      refine ⟨fun w1 hw1 => ?_, _, hrun⟩
      rw [hrun] at hw1
      simp only [Result.ok.injEq, true_and] at hw1
      subst hw1
      refine R.update hi hb rfl (by simp) (fun r hr => by simp [Array.getElem?_setIfInBounds_ne (Ne.symm hr)]) ⟨entries', clock', by simp [hlt], hmr', hborn'⟩ rfl rfl rfl
    split at hl
    · rename_i j v' hf
      obtain ⟨vc, e, h1, h2, h3, h4, h5⟩ := find_ok hc hmr 0 _ hf
      simp at hl; subst hl
      simp only [Nat.sub_zero] at h4
      have hej : entries[j]? = some e := by simpa using h4
      have hjl : j < entries.size := (Array.getElem?_eq_some_iff.1 hej).1
      have hmod : (entries.modify j fun e => { e with key := ck, val := cv }).toList = entries.toList.set j { e with key := ck, val := cv } := by
        apply List.ext_getElem?
        intro k
        rw [List.getElem?_set]
        simp only [Array.getElem?_toList, Array.getElem?_modify]
        by_cases e1 : j = k
        · subst e1
          simp [hjl, (Array.getElem?_eq_some_iff.1 hej).2]
        · simp [e1]
      obtain ⟨hfin, w1, hw1⟩ := fin (entries.modify j fun e => { e with key := ck, val := cv }) clock (es.set j (ck, v)) (by
        rw [hmod]
        exact hmr.set j hk hv) (by
        rw [hmod]
        exact hborn.set (e := e) (by simpa using hej) rfl)
      refine ⟨w1, ?_, hfin w1 hw1⟩
      unfold Instr.mapUpdate
      simp only [Sem.run_bind, run_und ht, hu, Result.andThen_ok, run_getMap he, checkKey_ok hkt hc, run_findKey hkt h1, hej, Option.map_some, Option.getD_some]
      unfold Instr.keyThatStays
      rw [if_pos (sameBits_now h5 10000)]
      simp only [Sem.run_pure, Result.andThen_ok]
      exact hw1
    · rename_i hf
      have h1 := find_ok hc hmr 0 _ hf
      simp only at h1
      simp at hl; subst hl
      obtain ⟨hfin, w1, hw1⟩ := fin (entries.push { key := ck, val := cv, born := clock }) (clock + 1) (es ++ [(ck, v)]) (by
        rw [Array.toList_push]
        exact hmr.append (.cons hk hv .nil)) (by
        rw [Array.toList_push]
        exact hborn.push rfl)
      refine ⟨w1, ?_, hfin w1 hw1⟩
      unfold Instr.mapUpdate
      simp only [Sem.run_bind, run_und ht, hu, Result.andThen_ok, run_getMap he, checkKey_ok hkt hc, run_findKey hkt h1]
      exact hw1
    · simp at hl

end
end Gl
end

/- Further operations: lengths, append, copy. -/
section
namespace Gl
open Go

section
variable {G : List Nat} {ρ : Rho} {w : World} {h : Heap} {P : Program}

theorem alen_ok (R : Rep G ρ w.heap h) {t : TypeId} {ty : TypeId} {x cx v : Value} (hx : VR ρ cx x) (hl : alen P h t x = some v) :
    RunTo G P (Builtin.len_ #[t] ty #[cx]) ρ w h v h := by
  unfold alen at hl
  split at hl <;> try (simp at hl; done)
  rename_i ti ht
  have base : ∀ {n : Int}, v = .int .i64 n → (Builtin.len_ #[t] ty #[cx]).run P w = .ok (.int .i64 n) w → RunTo G P (Builtin.len_ #[t] ty #[cx]) ρ w h v h := by
    intro n hv hr; subst hv; exact RunTo.same R hr (.int _ _)
  unfold Builtin.len_ at base ⊢
  simp only [List.getElem?_toArray, List.getElem?_cons_zero, Sem.run_bind, Sem.run_pure, Result.andThen_ok, run_und ht] at base
  split at hl <;> try (simp at hl; done)
  · rename_i s hu
    simp at hl
    cases hx
    exact base hl.symm (by simp [hu, goInt])
  · rename_i n e hu
    simp at hl
    exact base hl.symm (by simp [hu, goInt])
  · rename_i arr hu
    split at hl <;> try (simp at hl; done)
    rename_i ta hta
    split at hl <;> try (simp at hl; done)
    rename_i n e hua
    simp at hl
    exact base hl.symm (by simp [hu, goInt, run_und hta, hua])
  · rename_i e a n c hu
    simp at hl
    cases hx <;> exact base hl.symm (by simp [hu, goInt])
  · rename_i k e hu
    simp at hl
    cases hx
    exact base hl.symm (by simp [hu, goInt])
  · rename_i k e i hu
    split at hl <;> try (simp at hl; done)
    rename_i es hb
    simp at hl
    cases hx with
    | map hi =>
      rename_i g
      obtain ⟨b, hb', hR⟩ := R.blk i g hi
      rw [hb] at hb'; cases hb'
      obtain ⟨entries, clock, he, hmr⟩ := hR
      have := hmr.1.length
      exact base hl.symm (by simp [hu, goInt, run_getMap he, ← this])

theorem acap_ok (R : Rep G ρ w.heap h) {t : TypeId} {ty : TypeId} {x cx v : Value} (hx : VR ρ cx x) (hl : acap P h t x = some v) :
    RunTo G P (Builtin.cap_ #[t] ty #[cx]) ρ w h v h := by
  unfold acap at hl
  split at hl <;> try (simp at hl; done)
  rename_i ti ht
  have base : ∀ {n : Int}, v = .int .i64 n → (Builtin.cap_ #[t] ty #[cx]).run P w = .ok (.int .i64 n) w → RunTo G P (Builtin.cap_ #[t] ty #[cx]) ρ w h v h := by
    intro n hv hr; subst hv; exact RunTo.same R hr (.int _ _)
  unfold Builtin.cap_ at base ⊢
  simp only [List.getElem?_toArray, List.getElem?_cons_zero, Sem.run_bind, Sem.run_pure, Result.andThen_ok, run_und ht] at base
  split at hl <;> try (simp at hl; done)
  · rename_i e i off n c hu
    cases hx with
    | slice hi c1 c2 c3 c4 =>
      rename_i cap' g
      split at hl
      · rename_i hcf
        split at hl <;> try (simp at hl; done)
        rename_i l esz rw te hb hte
        split at hl <;> simp at hl
        rename_i hc
        obtain ⟨b, hb', hR⟩ := R.blk i g hi
        rw [hb] at hb'; cases hb'
        obtain ⟨c', e', fz, hc', hrow⟩ := hR
        have h1 := c1 hcf
        have h2 := hrow.full rfl
        have h3 := hrow.esz
        have hcap : (l.length - off) / te.sz = cap' := by
          rw [h2, ← h1, h3, hc.2, Nat.add_sub_cancel_left, Nat.mul_div_cancel _ hc.1]
        exact base hl.symm (by simp [hu, goInt, ← hcap])
      · rename_i hcf
        simp at hl
        exact base hl.symm (by simp [hu, goInt, c2 hcf])
    | anySlice =>
      rw [if_neg (Ne.symm FULL_ne_ANY)] at hl
      simp at hl
  · rename_i e hu
    simp at hl
    cases hx
    exact base hl.symm (by simp [hu, goInt])

/-! ### append -/

theorem src_ok (R : Rep G ρ w.heap h) {sz m : Nat} {x cx : Value} {new : List Value} (hx : VR ρ cx x) (hs : srcCells h sz x = some new) (hm : srcLen x = some m) (hl : new.length = m * sz) :
    (∀ w1, (Builtin.lenOf cx).run P w1 = .ok m w1) ∧ ∃ cnew : List Value, VRs ρ cnew new ∧ ∀ w1 : World, w1.heap = w.heap → (Builtin.firstCells sz m cx).run P w1 = .ok cnew.toArray w1 := by
  unfold srcCells at hs
  split at hs <;> try (simp at hs; done)
  · rename_i n c
    split at hs <;> simp at hs
    subst hs
    simp [srcLen] at hm; subst hm
    rename_i hn
    subst hn
    cases hx
    exact ⟨fun _ => rfl, [], .nil, fun _ _ => rfl⟩
  · rename_i i off n c
    simp [srcLen] at hm; subst hm
    split at hs
    · rename_i hn
      simp at hs; subst hs; subst hn
      cases hx with
      | slice hi c1 c2 c3 c4 => exact ⟨fun _ => rfl, [], .nil, fun w1 _ => by simp [Builtin.firstCells, loadCells, loadCellsFrom]⟩
      | anySlice => exact ⟨fun _ => rfl, [], .nil, fun w1 _ => by simp [Builtin.firstCells, loadCells, loadCellsFrom]⟩
    · rename_i hn
      split at hs <;> try (simp at hs; done)
      rename_i hca
      cases hx with
      | slice hi c1 c2 c3 c4 =>
        obtain ⟨cl, h1, h2, h3⟩ := read_ok R hi hs
        refine ⟨fun _ => rfl, cl, h1, fun w1 hw1 => ?_⟩
        simp only [Builtin.firstCells]
        refine loadCells_ok (by rw [h1.length, h2]) (fun j v hj => ?_)
        have := h3 j v hj
        unfold World.cell? at this ⊢
        rw [hw1]; exact this
      | anySlice => exact absurd rfl hca
  · rename_i s
    simp at hs; subst hs
    simp [srcLen] at hm; subst hm
    cases hx
    refine ⟨fun _ => rfl, _, VRs.map (fun b : UInt8 => Value.int .u8 b.toNat) (fun b : UInt8 => Value.int .u8 b.toNat) s.data.toList (fun _ _ => .int _ _), fun w1 _ => ?_⟩
    have hex : (s.extract 0 s.size).data = s.data := by
      rw [ByteArray.data_extract]
      exact Array.extract_size
    simp only [Builtin.firstCells, hex, Sem.run_pure]
    congr 1
    apply Array.ext'
    simp

theorem growBy_le (n : Nat) : ∀ (r c : Nat), c ≤ 2 * n + 800 → Builtin.growBy n r c ≤ 2 * n + 800
  | 0, c, h => h
  | r + 1, c, h => by
    unfold Builtin.growBy
    split
    · exact h
    · exact growBy_le n r _ (by omega)

theorem nextcap_le {need c : Nat} (h : c < need) : Builtin.nextslicecap need c ≤ 2 * need + 800 := by
  unfold Builtin.nextslicecap
  split
  · omega
  · split
    · omega
    · exact growBy_le need 4 c (by omega)

theorem zeroCells_ok (z : Array Value) (n : Nat) : (Builtin.zeroCells z n).size = n * z.size := by simp [Builtin.zeroCells]

/-- A slice that grows into a new row. -/
theorem grow_ok {t xt ty e : TypeId} {ti xi te : TI} {z : Value} {base : Option Addr} {n cap m : Nat} {cx : Value} {cold cnew : List Value} {w : World} (ht : tinfo P t = some ti) (hu : ti.u = .slice e)
    (hxt : tinfo P xt = some xi) (hxu : ∀ k, xi.u ≠ .int k) (hte : tinfo P e = some te) (hz : te.zero = some z) (hzl : (cellsV z).length = te.sz)
    (hb : te.bytes < 2 ^ 12) (hgt : cap < n + m) (hsm : n + m < 2 ^ 32)
    (hlen : ∀ w1, (Builtin.lenOf cx).run P w1 = .ok m w1) (hnew : ∀ w1 : World, w1.heap = w.heap → (Builtin.firstCells te.sz m cx).run P w1 = .ok cnew.toArray w1)
    (hold : ∀ w1 : World, w1.heap = w.heap → (Builtin.firstCells te.sz n (.slice base n cap)).run P w1 = .ok cold.toArray w1)
    (hcl : cold.length = n * te.sz) (hnl : cnew.length = m * te.sz) :
    ∃ (w' : World) (newCap : Nat) (row : Array Value), (Builtin.append_ #[t, xt] ty #[.slice base n cap, cx]).run P w = .ok (.slice (some ⟨w.heap.size, 0, none⟩) (n + m) newCap) w' ∧
      w'.heap = w.heap.push (.cells row e) ∧ row.toList.take (n * te.sz + m * te.sz) = cold ++ cnew ∧ row.size = newCap * te.sz ∧ n + m ≤ newCap ∧ newCap < 2 ^ 63 ∧ w'.os = w.os ∧ w'.tape = w.tape ∧ w'.output = w.output := by
  obtain ⟨i, hi1, hi2, hi3, hi4⟩ := run_tinf hte w
  obtain ⟨w1, hw1⟩ : ∃ w1 : World, w1 = { w with drawn := w.drawn + 1 } := ⟨_, rfl⟩
  obtain ⟨c, hc⟩ : ∃ c, c = (n + m) + w.tape w.drawn (.appendCap (n + m) cap e) % (2 ^ 63 - (n + m)) := ⟨_, rfl⟩
  have hc1 : n + m ≤ c := by omega
  have hc2 : c < 2 ^ 63 := by
    have := Nat.mod_lt (w.tape w.drawn (.appendCap (n + m) cap e)) (show 0 < 2 ^ 63 - (n + m) by omega)
    omega
  have hch : (choose (.appendCap (n + m) cap e)).run P w = .ok c w1 := by
    simp [choose, Sem.run, Question.forced, Question.cut, hc, hw1]
  obtain ⟨j, hj1, hj2, hj3, hj4⟩ := run_tinf hte w1
  have hzs : z.cells.size = te.sz := by rw [← hzl]; simp [cellsV]
  refine ⟨{ w1 with heap := w1.heap.push (.cells (cold.toArray ++ cnew.toArray ++ Builtin.zeroCells z.cells (c - (n + m))) e) }, c, _, ?_, by rw [hw1], ?_, ?_, hc1, hc2, by rw [hw1], by rw [hw1], by rw [hw1]⟩
  · unfold Builtin.append_
    simp only [List.getElem?_toArray, List.getElem?_cons_zero, List.getElem?_cons_succ, Sem.run_bind, Sem.run_pure, Result.andThen_ok, run_und ht, hu, run_size hte, run_und hxt]
    rw [if_neg (by simp)]
    simp only [Sem.run_bind, hlen, Result.andThen_ok]
    rw [if_neg (by omega)]
    have hi64 : ¬ (((n + m : Nat) : Int) > IntKind.i64.max ∧ (false = true ∨ i.bytes = 0)) := by
      intro hh
      have : IntKind.i64.max = 2 ^ 63 - 1 := by decide
      omega
    have hnc := nextcap_le hgt
    have hcap : ¬ (Builtin.nextslicecap (n + m) cap * i.bytes > 2 ^ 48) := by
      have h1 : Builtin.nextslicecap (n + m) cap * i.bytes ≤ (2 * (n + m) + 800) * 2 ^ 12 := Nat.mul_le_mul hnc (by omega)
      omega
    simp only [Sem.run_bind, hi1, Result.andThen_ok]
    rw [if_neg hi64]
    simp only [Sem.run_bind, hi1, Result.andThen_ok]
    rw [if_neg hcap]
    simp only [Sem.run_bind, hch, Result.andThen_ok, hj1, run_askRoom, hold w1 (by rw [hw1]), Bool.not_false, if_true, hnew w1 (by rw [hw1]), run_zero hte hz, Sem.run_pure]
    simp [newRow, hw1]
  · rw [Array.toList_append, Array.toList_append]
    have hln : (cold ++ cnew).length = n * te.sz + m * te.sz := by simp [hcl, hnl]
    simp only []
    rw [List.take_append_of_le_length (by simp; omega), ← hln]
    exact List.take_length
  · simp only [Array.size_append, List.size_toArray, hcl, hnl, zeroCells_ok, hzs]
    rw [← Nat.add_mul, ← Nat.add_mul]
    congr 1
    omega

end
end Gl
end

/- Further operations: append, copy. -/
section
namespace Gl
open Go

section
variable {G : List Nat} {ρ : Rho} {w : World} {h : Heap} {P : Program}

/-- append in place. -/
theorem inplace_ok {t xt ty e : TypeId} {ti xi te : TI} {base : Option Addr} {n cap m : Nat} {cx : Value} {cnew : List Value} {w : World} (ht : tinfo P t = some ti) (hu : ti.u = .slice e)
    (hxt : tinfo P xt = some xi) (hxu : ∀ k, xi.u ≠ .int k) (hte : tinfo P e = some te) (hle : n + m ≤ cap)
    (hlen : ∀ w1, (Builtin.lenOf cx).run P w1 = .ok m w1) (hnew : ∀ w1 : World, w1.heap = w.heap → (Builtin.firstCells te.sz m cx).run P w1 = .ok cnew.toArray w1) :
    (Builtin.append_ #[t, xt] ty #[.slice base n cap, cx]).run P w =
      match base with
      | none => .ok (.slice none (n + m) cap) w
      | some a => ((storeCells (a.add (n * te.sz)) cnew).run P w).andThen fun _ w' => .ok (.slice (some a) (n + m) cap) w' := by
  unfold Builtin.append_
  simp only [List.getElem?_toArray, List.getElem?_cons_zero, List.getElem?_cons_succ, Sem.run_bind, Sem.run_pure, Result.andThen_ok, run_und ht, hu, run_size hte, run_und hxt]
  rw [if_neg (by simp)]
  simp only [Sem.run_bind, hlen, Result.andThen_ok]
  rw [if_pos hle]
  simp only [Bool.not_false, if_true, Sem.run_bind, hnew w rfl, Result.andThen_ok]
  cases base <;> simp

theorem dead_ok (R : Rep G ρ w.heap h) {i : Nat} {g : Gh} {b : Blk} (hi : ρ i = some g) (hb : hget h i = some b) (ho : owned b = true) :
    Rep G ρ w.heap (hput h i .dead) ∧ Step ρ w h ρ w (hput h i .dead) :=
  R.update hi hb ho rfl (fun _ _ => rfl) trivial rfl rfl rfl

/-- The row of an owned block is written behind what is known of it, and known under a new number. -/
theorem regrow_ok (R : Rep G ρ w.heap h) {i : Nat} {g : Gh} {l new cnew : List Value} {esz : Nat} {full : Bool} (hi : ρ i = some g) (hb : hget h i = some (.cells l esz true full)) (hn : VRs ρ cnew new)
    (hcell : new.all isCell = true) (hroom : l.length + new.length ≤ g.room) :
    ∃ w', (storeCells ⟨g.blk, l.length, none⟩ cnew).run P w = .ok () w' ∧ Rep G (ext ρ (hsz h) g) w'.heap (hpush (hput h i .dead) (.cells (l ++ new) esz true false)) ∧
      Step ρ w h (ext ρ (hsz h) g) w' (hpush (hput h i .dead) (.cells (l ++ new) esz true false)) := by
  obtain ⟨b, hb', hR⟩ := R.blk i g hi
  rw [hb] at hb'; cases hb'
  obtain ⟨c', e, fz, hc, hrow⟩ := hR
  obtain ⟨hbase, hwhole⟩ := hrow.whole rfl
  have hnl := hn.length
  obtain ⟨w', c2, h1, h2, h3, h4, h5, h6, h7, h8⟩ := storeCells_ok (P := P) cnew w g.blk l.length 0 c' e fz hc (by omega) (by rw [hn.isCell]; exact hcell)
    (fun k hk1 hk2 => by
      have := hrow.free rfl k (by omega)
      rwa [hbase, Nat.zero_add] at this)
  have hc2 : c2.size = c'.size := by
    have := congrArg List.length h3
    rw [splice_length (by simp; omega)] at this
    simpa using this
  obtain ⟨hRd, hSd⟩ := R.update (w' := w') hi hb rfl h4 h5 (b2 := .dead) trivial h6 h7 h8
  have hnone : ρ (hsz h) = none := R.rho_none (Nat.le_refl _)
  have hsub : Sub ρ (ext ρ (hsz h) g) := ext_sub hnone
  have hilt := hget_lt hb
  refine ⟨w', h1, ⟨?_, ?_, ?_, ?_⟩, ⟨hsub, ?_, hSd.size, ?_, ?_, ?_, ?_, ?_, h6, h7, h8⟩⟩
  · intro j gj hj
    rw [hget_push, hsz_put]
    unfold ext at hj
    split at hj
    · rename_i hjj
      cases hj
      rw [if_pos hjj]
      refine ⟨_, rfl, c2, e, fz, h2, {
        fits := by omega
        len := by simp; omega
        full := fun hf => by simp at hf
        esz := hrow.esz
        get := fun k v hk => by
          rw [hbase, Nat.zero_add]
          have hg : c2[k]? = (splice c'.toList (l.length + 0) cnew)[k]? := by rw [← h3]; simp
          rw [hg, splice_get (by simp; omega)]
          rcases Nat.lt_or_ge k l.length with hkl | hkl
          · rw [if_neg (by omega)]
            rw [List.getElem?_append_left hkl] at hk
            obtain ⟨v', e1, e2⟩ := hrow.get k v hk
            rw [hbase, Nat.zero_add] at e1
            exact ⟨v', by simpa using e1, e2.mono hsub⟩
          · rw [List.getElem?_append_right hkl] at hk
            obtain ⟨v', e1, e2⟩ := hn.get _ v hk
            have hkn := (List.getElem?_eq_some_iff.1 hk).1
            rw [if_pos (by omega)]
            exact ⟨v', e1, e2.mono hsub⟩
        free := hrow.free
        whole := fun _ => ⟨hbase, by omega⟩ }⟩
    · rename_i hjj
      rw [if_neg hjj]
      obtain ⟨bj, hbj, hr⟩ := hRd.blk j gj hj
      exact ⟨bj, hbj, hr.mono hsub rfl⟩
  · intro a b ga gb ba bb ha hb2 hba hbb ho hd hgg
    rw [hget_push, hsz_put] at hba hbb
    unfold ext at ha hb2
    have hdi : ∀ bb, hget (hput h i .dead) i = some bb → isDead bb = true := fun bb hh => by
      rw [hget_put, if_pos rfl, if_pos hilt] at hh; cases hh; rfl
    have hodi : ∀ bb, hget (hput h i .dead) i = some bb → owned bb = false := fun bb hh => by
      rw [hget_put, if_pos rfl, if_pos hilt] at hh; cases hh; rfl
    have hput : ∀ j, j ≠ i → hget (hput h i .dead) j = hget h j := fun j hj => by rw [hget_put, if_neg hj]
    split at ha <;> split at hb2
    · rename_i e1 e2; rw [e1, e2]
    · rename_i e1 e2
      cases ha
      rw [if_neg e2] at hbb
      exfalso
      by_cases hbi : b = i
      · subst hbi; rw [hdi _ hbb] at hd; cases hd
      · rw [hput b hbi] at hbb
        exact hbi (R.inj i b g gb _ bb hi hb2 hb hbb rfl hd hgg).symm
    · rename_i e1 e2
      cases hb2
      rw [if_neg e1] at hba
      exfalso
      by_cases hai : a = i
      · subst hai; rw [hodi _ hba] at ho; cases ho
      · rw [hput a hai] at hba
        exact hai (R.inj a i ga g ba _ ha hi hba hb ho rfl hgg)
    · rename_i e1 e2
      rw [if_neg e1] at hba
      rw [if_neg e2] at hbb
      exact hRd.inj a b ga gb ba bb ha hb2 hba hbb ho hd hgg
  · intro j hj
    obtain ⟨gj, e1, e2⟩ := R.glob j hj
    exact ⟨gj, hsub j gj e1, e2⟩
  · intro j gj hj
    unfold ext at hj
    split at hj
    · cases hj; rw [h4]; exact R.lt i g hi
    · exact hRd.lt j gj hj
  · intro j gj hj hj0
    unfold ext at hj
    split at hj
    · rename_i hjj
      cases hj
      exact ⟨by omega, .inr ⟨i, g, _, hi, hb, rfl, rfl⟩⟩
    · rw [hj0] at hj; cases hj
  · exact hSd.keep
  · intro j bj hj hbj ho
    rw [hget_push, hsz_put, if_neg (by omega)] at hbj
    exact hSd.own j bj hj hbj ho
  · intro j bj hj hbj ho
    rw [hget_push, hsz_put, if_neg (by omega)] at hbj
    exact hSd.dead j bj hj hbj ho
  · rw [hsz_push, hsz_put]; omega
  · intro j h1 h2
    rw [hsz_push, hsz_put] at h2
    have : j = hsz h := by omega
    subst this
    exact ⟨g, ext_same ρ _ g⟩

theorem VRs.ofToList {a : Array Value} {l : List Value} (h : VRs ρ a.toList l) : VRs ρ a.toList l := h

set_option maxHeartbeats 4000000 in
theorem aappend_ok (R : Rep G ρ w.heap h) {ts : Array TypeId} {ty : TypeId} {s cs x cx v : Value} {h' : Heap} (hsv : VR ρ cs s) (hx : VR ρ cx x) (hl : aappend P h ts.toList s x = some (v, h')) :
    RunTo G P (Builtin.append_ ts ty #[cs, cx]) ρ w h v h' := by
  unfold aappend at hl
  split at hl <;> try (simp at hl; done)
  rename_i t xt hts
  have hts' : ts = #[t, xt] := by apply Array.ext'; simpa using hts
  subst hts'
  split at hl <;> try (simp at hl; done)
  rename_i ti xi ht hxt
  split at hl <;> try (simp at hl; done)
  rename_i e hu
  split at hl <;> try (simp at hl; done)
  rename_i te hte hxi
  have hxu : ∀ k, xi.u ≠ .int k := fun k hk => by rw [hk] at hxi; simp at hxi
  rcases hq : te.zero with _ | z
  · simp [hq] at hl
  have hz := hq
  simp only [hq] at hl
  split at hl <;> try (simp at hl; done)
  rename_i hc
  obtain ⟨hpos, hbytes, hz0⟩ := hc
  simp only [Bool.and_eq_true, beq_iff_eq] at hz0
  obtain ⟨⟨hzp, hzc⟩, hzl⟩ := hz0
  split at hl <;> try (simp at hl; done)
  rename_i new m hsrc hsl
  split at hl <;> try (simp at hl; done)
  rename_i hnew
  obtain ⟨hnl, hcell⟩ := hnew
  obtain ⟨hlen, cnew, hcn, hnewr⟩ := src_ok R hx hsrc hsl hnl
  have hcnl : cnew.length = m * te.sz := by rw [hcn.length, hnl]
  -- a new row
  have fresh : ∀ (base : Option Addr) (n cap : Nat) (cold old : List Value), cap < n + m → n + m < 2 ^ 32 → VRs ρ cold old → cold.length = n * te.sz →
      (∀ w1 : World, w1.heap = w.heap → (Builtin.firstCells te.sz n (.slice base n cap)).run P w1 = .ok cold.toArray w1) →
      ∀ (hx : Heap), Rep G ρ w.heap hx → Step ρ w h ρ w hx → hsz hx = hsz h →
      RunTo G P (Builtin.append_ #[t, xt] ty #[.slice base n cap, cx]) ρ w h (.slice (some ⟨hsz h, 0, none⟩) (n + m) FULL) (hpush hx (.cells (old ++ new) te.sz true false)) := by
    intro base n cap cold old hgt hsm hco hcl hold hx hRx hSx hszx
    obtain ⟨w', newCap, row, h1, h2, h3, h4, h5, h6, h7, h8, h9⟩ := grow_ok (ty := ty) (base := base) (n := n) (cap := cap) ht hu hxt hxu hte hz hzl hbytes hgt hsm hlen hnewr hold hcl hcnl
    have hol : (old ++ new).length = n * te.sz + m * te.sz := by rw [List.length_append, ← hco.length, hcl, hnl]
    obtain ⟨hR2, hS2⟩ := newCells_ok hRx row (old ++ new) te.sz false e (0, 0) (by rw [hol, h3]; exact hco.append hcn) (fun hf => by simp at hf) (fun k _ => by simp) w' h2 h7 h8 h9
    refine ⟨w', _, _, h1, ?_, hR2, Step.trans R hSx hS2⟩
    rw [← hszx]
    exact VR.slice0 (ext_same _ _ _) rfl h4.symm h6
  split at hl <;> try (simp at hl; done)
  · -- nil
    cases hsv
    split at hl
    · rename_i hm0
      simp at hl
      obtain ⟨rfl, rfl⟩ := hl
      subst hm0
      refine RunTo.same R (vc := .slice none 0 0) ?_ (.nilSlice _ _)
      rw [inplace_ok ht hu hxt hxu hte (Nat.le_refl _) hlen hnewr]
    · rename_i hm0
      split at hl <;> simp at hl
      rename_i hm32
      obtain ⟨rfl, rfl⟩ := hl
      have := fresh none 0 0 [] [] (by omega) (by omega) .nil (by simp) (fun w1 _ => rfl) h R (Step.refl ρ w h) rfl
      rw [Nat.zero_add, List.nil_append] at this
      exact this
  · rename_i i off n c
    by_cases hca : c = ANY
    · rw [if_pos hca] at hl; cases hl
    rw [if_neg hca] at hl
    by_cases hsm : n + m < 2 ^ 32
    case neg => rw [if_neg hsm] at hl; cases hl
    rw [if_pos hsm] at hl
    split at hl
    case h_2 => cases hl
    rename_i l esz rw full hb
    cases hsv with
    | anySlice => exact absurd rfl hca
    | slice hi c1 c2 c3 c4 =>
      rename_i cap' g
      obtain ⟨b, hb', hR⟩ := R.blk i g hi
      rw [hb] at hb'; cases hb'
      obtain ⟨c', e', fz, hc', hrow⟩ := hR
      have hfits := hrow.fits
      have hlenr := hrow.len
      -- in place
      have inpl : n + m ≤ cap' → (m = 0 → RunTo G P (Builtin.append_ #[t, xt] ty #[.slice (some ⟨g.blk, g.base + off, none⟩) n cap', cx]) ρ w h (.slice (some ⟨i, off, none⟩) n c) h) ∧
          (∀ h2, writeCells h i (off + n * te.sz) new = some h2 → RunTo G P (Builtin.append_ #[t, xt] ty #[.slice (some ⟨g.blk, g.base + off, none⟩) n cap', cx]) ρ w h (.slice (some ⟨i, off, none⟩) (n + m) c) h2) := by
        intro hle
        refine ⟨fun hm0 => ?_, fun h2 hw => ?_⟩
        · subst hm0
          refine RunTo.same R (vc := .slice (some ⟨g.blk, g.base + off, none⟩) n cap') ?_ (.slice hi c1 c2 c3 c4)
          rw [inplace_ok ht hu hxt hxu hte hle hlen hnewr]
          have : cnew = [] := by simpa using hcnl
          subst this
          simp [storeCells]
        · obtain ⟨w', h1, h2', h3⟩ := write_ok (P := P) R hi hw hcn hcell
          refine ⟨w', ρ, .slice (some ⟨g.blk, g.base + off, none⟩) (n + m) cap', ?_, .slice hi c1 c2 c3 c4, h2', h3⟩
          rw [inplace_ok ht hu hxt hxu hte hle hlen hnewr]
          simp only [add_none]
          rw [Nat.add_assoc, h1]
          rfl
      -- what lies in the old place
      have oldc : off + n * te.sz ≤ l.length → ∃ cold, VRs ρ cold ((l.drop off).take (n * te.sz)) ∧ cold.length = n * te.sz ∧
          ∀ w1 : World, w1.heap = w.heap → (Builtin.firstCells te.sz n (.slice (some ⟨g.blk, g.base + off, none⟩) n cap')).run P w1 = .ok cold.toArray w1 := by
        intro hle
        have hr : readCells h i off (n * te.sz) = some ((l.drop off).take (n * te.sz)) := by simp [readCells, hb, hle]
        obtain ⟨cl, e1, e2, e3⟩ := read_ok R hi hr
        refine ⟨cl, e1, e1.length.trans e2, fun w1 hw1 => ?_⟩
        simp only [Builtin.firstCells]
        refine loadCells_ok (by rw [e1.length, e2]) (fun j v hj => ?_)
        have := e3 j v hj
        unfold World.cell? at this ⊢
        rw [hw1]; exact this
      split at hl
      · rename_i hcf
        have hF := c1 hcf
        split at hl
        · cases hl
        rename_i hesz
        have hesz' : g.esz = te.sz := by rw [hrow.esz]; simpa using hesz
        rw [hesz'] at hF
        split at hl
        · rename_i hin
          have hle : n + m ≤ cap' := by
            have : (n + m) * te.sz ≤ cap' * te.sz := by omega
            exact Nat.le_of_mul_le_mul_right this hpos
          obtain ⟨i1, i2⟩ := inpl hle
          subst hcf
          split at hl
          · rename_i hm0
            simp at hl; obtain ⟨rfl, rfl⟩ := hl
            exact i1 hm0
          · cases hw : writeCells h i (off + n * te.sz) new with
            | none => rw [hw] at hl; simp at hl
            | some h2 =>
              rw [hw] at hl; simp at hl; obtain ⟨rfl, rfl⟩ := hl
              exact i2 h2 hw
        · rename_i hout
          split at hl
          · rename_i hfull
            split at hl <;> simp at hl
            rename_i hoff
            obtain ⟨rfl, rfl⟩ := hl
            have hfl := hrow.full hfull
            have hgt : cap' < n + m := by
              refine Nat.lt_of_not_le fun hh => hout ?_
              have : (n + m) * te.sz ≤ cap' * te.sz := Nat.mul_le_mul_right _ hh
              omega
            obtain ⟨cold, o1, o2, o3⟩ := oldc hoff
            exact fresh _ n cap' cold _ hgt hsm o1 o2 o3 h R (Step.refl ρ w h) rfl
          · split at hl <;> simp at hl
            rename_i hgr
            obtain ⟨hrw, hoff0, hll⟩ := hgr
            obtain ⟨rfl, rfl⟩ := hl
            subst hoff0
            rcases Nat.lt_or_ge cap' (n + m) with hgt | hle
            · obtain ⟨cold, o1, o2, o3⟩ := oldc (by omega)
              have hown : owned (.cells l esz rw full) = true := hrw
              obtain ⟨d1, d2⟩ := dead_ok R hi hb hown
              have := fresh _ n cap' cold _ hgt hsm o1 o2 o3 (hput h i .dead) d1 d2 (hsz_put _ _ _)
              have hle2 : (l.drop 0).take (n * te.sz) = l := by rw [List.drop_zero, List.take_of_length_le (by omega)]
              rwa [hle2] at this
            · subst hrw
              have hroom : l.length + new.length ≤ g.room := by
                rw [hll, hnl, ← Nat.add_mul, ← hF]
                have : (n + m) * te.sz ≤ cap' * te.sz := Nat.mul_le_mul_right _ hle
                omega
              obtain ⟨w', h1, h2, h3⟩ := regrow_ok (P := P) R hi hb hcn hcell hroom
              have hbase := (hrow.whole rfl).1
              have hesz2 : esz = te.sz := by simpa using hesz
              subst hesz2
              have hfalse : full = false ∨ full = true := by cases full <;> simp
              refine ⟨w', ext ρ (hsz h) g, .slice (some ⟨g.blk, g.base + 0, none⟩) (n + m) cap', ?_, ?_, h2, h3⟩
              · rw [inplace_ok ht hu hxt hxu hte hle hlen hnewr]
                simp only [add_none, hbase, Nat.zero_add]
                rw [← hll, h1]
                rfl
              · exact VR.slice (ext_same _ _ _) (fun _ => by rw [hesz']; exact hF) (fun hh => absurd rfl hh) FULL_ne_ANY c4
      · rename_i hcf
        have hcc := c2 hcf
        subst hcc
        split at hl
        · rename_i hin
          obtain ⟨i1, i2⟩ := inpl hin
          split at hl
          · rename_i hm0
            simp at hl; obtain ⟨rfl, rfl⟩ := hl
            exact i1 hm0
          · cases hw : writeCells h i (off + n * te.sz) new with
            | none => rw [hw] at hl; simp at hl
            | some h2 =>
              rw [hw] at hl; simp at hl; obtain ⟨rfl, rfl⟩ := hl
              exact i2 h2 hw
        · rename_i hout
          split at hl <;> simp at hl
          rename_i hoff
          obtain ⟨rfl, rfl⟩ := hl
          obtain ⟨cold, o1, o2, o3⟩ := oldc hoff
          exact fresh _ n cap' cold _ (by omega) hsm o1 o2 o3 h R (Step.refl ρ w h) rfl

end
end Gl
end

/- Further operations: copy, operators, conversions; all operations together. -/
section
namespace Gl
open Go

section
variable {G : List Nat} {ρ : Rho} {w : World} {h : Heap} {P : Program}

/-- A run that asks nothing of the world is the same in each. -/
theorem pureRun_ok {α : Type} {s : Sem α} {a : α} (hp : pureRun P s = some a) (w : World) : s.run P w = .ok a w := by
  induction s with
  | pure b => simp [pureRun] at hp; subst hp; rfl
  | program k ih => exact ih P hp
  | mark m k ih => exact ih hp
  | _ => simp [pureRun] at hp

theorem allPlain_eq : ∀ {c l : List Value}, VRs ρ c l → allPlain l = true → c = l
  | _, _, .nil, _ => rfl
  | _, _, .cons h t, hp => by
    simp only [allPlain, List.all_cons, Bool.and_eq_true] at hp
    rw [h.plain hp.1, allPlain_eq t (by simpa [allPlain] using hp.2)]

theorem acopy_ok (R : Rep G ρ w.heap h) {ts : Array TypeId} {ty : TypeId} {d cd s cs v : Value} {h' : Heap} (hd : VR ρ cd d) (hs : VR ρ cs s) (hl : acopy P h ts.toList d s = some (v, h')) :
    RunTo G P (Builtin.copy_ ts ty #[cd, cs]) ρ w h v h' := by
  unfold acopy at hl
  split at hl <;> try (simp at hl; done)
  rename_i t rest hts
  have ht0 : ts[0]? = some t := by
    have : ts.toList[0]? = some t := by rw [hts]; rfl
    simpa using this
  split at hl <;> try (simp at hl; done)
  rename_i ti ht
  split at hl <;> try (simp at hl; done)
  rename_i e hu
  split at hl <;> try (simp at hl; done)
  · rename_i te m hte hsl
    split at hl <;> simp at hl
    rename_i hpos
    obtain ⟨rfl, rfl⟩ := hl
    cases hd
    have hlen : ∀ w1, (Builtin.lenOf cs).run P w1 = .ok m w1 := by
      intro w1
      cases hs <;> simp [srcLen] at hsl <;> subst hsl <;> rfl
    have hfc : (Builtin.firstCells te.sz 0 cs).run P w = .ok #[] w := by
      cases hs <;> simp [srcLen] at hsl <;> simp [Builtin.firstCells, loadCells, loadCellsFrom]
    refine RunTo.same R (vc := .int .i64 0) ?_ (.int _ _)
    unfold Builtin.copy_
    simp only [ht0, List.getElem?_toArray, List.getElem?_cons_zero, List.getElem?_cons_succ, Sem.run_bind, run_und ht, hu, Result.andThen_ok, hlen, run_size hte]
    rw [show Nat.min m 0 = 0 from Nat.min_zero _, hfc]
    simp [goInt]
  · rename_i te m i off n c hte hsl
    split at hl <;> try (simp at hl; done)
    rename_i hca
    split at hl <;> try (simp at hl; done)
    rename_i new hsrc
    split at hl <;> try (simp at hl; done)
    rename_i hnew
    obtain ⟨hnl, hcell⟩ := hnew
    have hca1 : c ≠ ANY := fun hh => hca (.inl hh)
    cases hd with
    | anySlice => exact absurd rfl hca1
    | slice hi c1 c2 c3 c4 =>
      rename_i cap' g
      have hlen : ∀ w1, (Builtin.lenOf cs).run P w1 = .ok m w1 := by
        intro w1
        cases hs <;> simp [srcLen] at hsl <;> subst hsl <;> rfl
      -- the first of them
      have hfirst : ∃ cnew, VRs ρ cnew (new.take (min m n * te.sz)) ∧ (Builtin.firstCells te.sz (min m n) cs).run P w = .ok cnew.toArray w := by
        unfold srcCells at hsrc
        split at hsrc <;> try (simp at hsrc; done)
        · rename_i n' c'
          split at hsrc <;> simp at hsrc
          subst hsrc
          cases hs
          exact ⟨[], by simp; exact .nil, rfl⟩
        · rename_i i' off' n' c'
          simp [srcLen] at hsl; subst hsl
          split at hsrc
          · rename_i hn0
            simp at hsrc; subst hsrc; subst hn0
            cases hs <;> exact ⟨[], by simp; exact .nil, by simp [Builtin.firstCells, loadCells, loadCellsFrom]⟩
          · split at hsrc <;> try (simp at hsrc; done)
            rename_i hca'
            cases hs with
            | anySlice => exact absurd rfl hca'
            | slice hi' d1 d2 d3 d4 =>
              obtain ⟨cl, e1, e2, e3⟩ := read_ok R hi' hsrc
              refine ⟨cl.take (min n' n * te.sz), e1.take _, ?_⟩
              simp only [Builtin.firstCells]
              refine loadCells_ok ?_ (fun j v hj => ?_)
              · rw [List.length_take, e1.length, e2]
                exact Nat.min_eq_left (Nat.mul_le_mul_right _ (Nat.min_le_left _ _))
              · rw [List.getElem?_take] at hj
                split at hj
                · exact e3 j v hj
                · cases hj
        · rename_i s
          simp at hsrc; subst hsrc
          simp [srcLen] at hsl; subst hsl
          cases hs
          have hsz1 : s.size = s.size * te.sz := by rw [← hnl]; simp
          have hml : min s.size n = min s.size n * te.sz := by
            rcases Nat.eq_zero_or_pos s.size with h0 | h0
            · rw [h0]; simp
            · have : te.sz = 1 := by
                have := Nat.eq_of_mul_eq_mul_left h0 (show s.size * te.sz = s.size * 1 by omega)
                exact this
              rw [this, Nat.mul_one]
          refine ⟨_, VRs.take (min s.size n * te.sz) (VRs.map (fun b : UInt8 => Value.int .u8 b.toNat) (fun b : UInt8 => Value.int .u8 b.toNat) s.data.toList (fun _ _ => .int _ _)), ?_⟩
          simp only [Builtin.firstCells, Sem.run_pure]
          congr 1
          apply Array.ext'
          rw [← hml, ByteArray.data_extract]
          simp [List.map_take]
      obtain ⟨cnew, hcn, hfc⟩ := hfirst
      have hrun : ∀ (r : Result Unit), (storeCells ⟨g.blk, g.base + off, none⟩ cnew).run P w = r → (Builtin.copy_ ts ty #[.slice (some ⟨g.blk, g.base + off, none⟩) n cap', cs]).run P w =
          r.andThen fun _ w' => .ok (.int .i64 (min m n : Nat)) w' := by
        intro r hr
        unfold Builtin.copy_
        simp only [ht0, List.getElem?_toArray, List.getElem?_cons_zero, List.getElem?_cons_succ, Sem.run_bind, run_und ht, hu, Result.andThen_ok, hlen, run_size hte]
        rw [show Nat.min m n = min m n from rfl, hfc]
        simp only [Result.andThen_ok, hr, goInt, Sem.run_pure]
      split at hl
      · rename_i hm0
        simp at hl; obtain ⟨rfl, rfl⟩ := hl
        have : cnew = [] := by
          have := hcn.length
          rw [hm0] at this
          simpa using this
        subst this
        refine RunTo.same R (vc := .int .i64 (min m n : Nat)) ?_ ?_
        · rw [hrun (.ok () w) rfl]; rfl
        · rw [hm0]; exact .int _ _
      · cases hw : writeCells h i off (new.take (min m n * te.sz)) with
        | none => rw [hw] at hl; simp at hl
        | some h2 =>
          rw [hw] at hl; simp at hl; obtain ⟨rfl, rfl⟩ := hl
          obtain ⟨w', h1, h2', h3⟩ := write_ok (P := P) R hi hw hcn (by
            rw [List.all_eq_true] at hcell ⊢
            exact fun x hx => hcell x (List.mem_of_mem_take hx))
          refine ⟨w', ρ, .int .i64 (min m n : Nat), ?_, ?_, h2', h3⟩
          · rw [hrun _ h1]; rfl
          · exact .int _ _

theorem pureV_ok (R : Rep G ρ w.heap h) {s : Sem Value} {v : Value} (hp : pureV P s = some v) : RunTo G P s ρ w h v h := by
  unfold pureV at hp
  split at hp <;> try (simp at hp; done)
  rename_i x hx
  split at hp <;> simp at hp
  rename_i hpl
  subst hp
  exact RunTo.same R (pureRun_ok hx w) (VR.ofPlain hpl)

theorem abuiltin_ok (R : Rep G ρ w.heap h) {b : Builtin} {ts : Array TypeId} {ty : TypeId} {consts : Array Bool} {args : List Value} {cargs : Array Value} {v : Value} {h' : Heap}
    (ha : VRs ρ cargs.toList args) (hl : abuiltin P h b ts ty args = some (v, h')) :
    ∃ s : Sem Value, builtin b ts ty consts cargs = (do pure (.value (← s))) ∧ RunTo G P s ρ w h v h' := by
  have hca : cargs = cargs.toList.toArray := by simp
  have pl : ∀ (f : Array TypeId → TypeId → Array Value → Sem Value) (l : List Value), l = args → allPlain l = true → (pureV P (f ts ty l.toArray)).map (fun v => (v, h)) = some (v, h') → RunTo G P (f ts ty cargs) ρ w h v h' := by
    intro f l hle hp hr
    subst hle
    have := allPlain_eq ha hp
    rw [hca, this]
    cases hq : pureV P (f ts ty l.toArray) with
    | none => rw [hq] at hr; simp at hr
    | some x =>
      rw [hq] at hr; simp at hr; obtain ⟨rfl, rfl⟩ := hr
      exact pureV_ok R hq
  unfold abuiltin at hl
  split at hl
  · rename_i x
    refine ⟨_, rfl, ?_⟩
    cases ha' : ts.toList with
    | nil => rw [ha'] at hl; simp at hl
    | cons t rest =>
      cases rest with
      | cons _ _ => rw [ha'] at hl; simp at hl
      | nil =>
        rw [ha'] at hl
        simp only at hl
        have hts : ts = #[t] := by apply Array.ext'; simpa using ha'
        subst hts
        cases hal : alen P h t x with
        | none => rw [hal] at hl; simp at hl
        | some y =>
          rw [hal] at hl; simp at hl; obtain ⟨rfl, rfl⟩ := hl
          obtain ⟨cs, hcs⟩ : ∃ cs, cargs.toList = cs := ⟨_, rfl⟩
          rw [hcs] at ha hca
          cases ha with
          | cons hx t' => cases t'; rw [hca]; exact alen_ok R hx hal
  · rename_i x
    refine ⟨_, rfl, ?_⟩
    cases ha' : ts.toList with
    | nil => rw [ha'] at hl; simp at hl
    | cons t rest =>
      cases rest with
      | cons _ _ => rw [ha'] at hl; simp at hl
      | nil =>
        rw [ha'] at hl
        simp only at hl
        have hts : ts = #[t] := by apply Array.ext'; simpa using ha'
        subst hts
        cases hal : acap P h t x with
        | none => rw [hal] at hl; simp at hl
        | some y =>
          rw [hal] at hl; simp at hl; obtain ⟨rfl, rfl⟩ := hl
          obtain ⟨cs, hcs⟩ : ∃ cs, cargs.toList = cs := ⟨_, rfl⟩
          rw [hcs] at ha hca
          cases ha with
          | cons hx t' => cases t'; rw [hca]; exact acap_ok R hx hal
  · rename_i s x
    refine ⟨_, rfl, ?_⟩
    obtain ⟨cs, hcs⟩ : ∃ cs, cargs.toList = cs := ⟨_, rfl⟩
    rw [hcs] at ha hca
    cases ha with
    | cons hs t' => cases t' with
      | cons hx t'' => cases t''; rw [hca]; exact aappend_ok R hs hx hl
  · rename_i d s
    refine ⟨_, rfl, ?_⟩
    obtain ⟨cs, hcs⟩ : ∃ cs, cargs.toList = cs := ⟨_, rfl⟩
    rw [hcs] at ha hca
    cases ha with
    | cons hd t' => cases t' with
      | cons hs t'' => cases t''; rw [hca]; exact acopy_ok R hd hs hl
  · split at hl <;> try (simp at hl; done)
    exact ⟨_, rfl, pl Builtin.min_ _ rfl (by assumption) hl⟩
  · split at hl <;> try (simp at hl; done)
    exact ⟨_, rfl, pl Builtin.max_ _ rfl (by assumption) hl⟩
  · split at hl <;> try (simp at hl; done)
    exact ⟨_, rfl, pl Builtin.real_ _ rfl (by assumption) hl⟩
  · split at hl <;> try (simp at hl; done)
    exact ⟨_, rfl, pl Builtin.imag_ _ rfl (by assumption) hl⟩
  · split at hl <;> try (simp at hl; done)
    exact ⟨_, rfl, pl Builtin.complex_ _ rfl (by assumption) hl⟩
  · simp at hl

/-! ### Operators -/

theorem nilIn_ok {d : Nat} {t : TypeId} {ti : TI} {x y cx cy : Value} {b : Bool} (ht : tinfo P t = some ti) (hx : VR ρ cx x) (hy : VR ρ cy y) (h1 : nilType ti.u x = true) (hn : nilEq x y = some b) (w : World) :
    (Op.equalIn (d + 1) t cx cy).run P w = .ok b w := by
  unfold Op.equalIn
  simp only [Sem.run_bind, run_und ht, Result.andThen_ok]
  generalize ti.u = D at h1 ⊢
  unfold nilEq at hn
  split at hn
  all_goals first
    | (cases hn; done)
    | (simp only [Option.some.injEq] at hn; subst hn; cases hx <;> cases hy <;> cases D <;> first | (simp [nilType] at h1; done) | rfl)

theorem nil_ok {t : TypeId} {ti : TI} {x y cx cy : Value} {b : Bool} (ht : tinfo P t = some ti) (hx : VR ρ cx x) (hy : VR ρ cy y) (h1 : nilType ti.u x = true) (hn : nilEq x y = some b) (w : World) :
    (Op.equal t cx cy).run P w = .ok b w := nilIn_ok (d := 9999) ht hx hy h1 hn w

theorem guard_nil {op : BinOp} {t : TypeId} {ox oy : Operand} {x cx cy : Value} {d : TypeDesc} (hx : VR ρ cx x) (h1 : nilType d x = true) (w : World) :
    (eqGuard op t ox oy cx cy).run P w = .ok () w := by
  cases hx <;> first
    | (exfalso; revert h1; cases d <;> simp [nilType]; done)
    | (unfold eqGuard; (repeat' split) <;> first | rfl | (exfalso; simp_all; done))

/-- The guard of '==' does not look at its operands' kinds, but for 'nil' written out. -/
theorem guard_ok {op : BinOp} {t : TypeId} {ox oy : Operand} {a b : Value} {w : World} (h : (eqGuard op t (.tmp 0) (.tmp 0) a b).run P w = .ok () w) : (eqGuard op t ox oy a b).run P w = .ok () w := by
  cases a <;> first
    | exact h
    | (cases b <;> first
        | exact h
        | (unfold eqGuard at h ⊢
           by_cases hc : (!(match op with | .eql => true | .neq => true | _ => false)) = true
           · revert hc; cases op <;> intro hc <;> first | rfl | (exfalso; simp at hc; done)
           · revert hc h
             cases op <;> intro h hc <;> first
               | (exfalso; simp at hc; done)
               | ((repeat' split) <;> first | rfl | exact h | (exfalso; simp_all; done))))

theorem abinOp_ok (R : Rep G ρ w.heap h) {op : BinOp} {t : TypeId} {ox oy : Operand} {x y cx cy v : Value} (hx : VR ρ cx x) (hy : VR ρ cy y) (hb : abinOp P op t x y = some v) :
    RunTo G P (do eqGuard op t ox oy cx cy; binOp op t cx cy) ρ w h v h := by
  unfold abinOp at hb
  split at hb
  · rename_i hp
    simp only [Bool.and_eq_true] at hp
    rw [hx.plain hp.1, hy.plain hp.2]
    unfold pureV at hb
    split at hb <;> try (simp at hb; done)
    rename_i u hu
    split at hb <;> simp at hb
    rename_i hpl
    subst hb
    have hr := pureRun_ok hu w
    refine RunTo.same R ?_ (VR.ofPlain hpl)
    simp only [Sem.run_bind] at hr ⊢
    cases hg : (eqGuard op t (.tmp 0) (.tmp 0) x y).run P w with
    | halt e w' => rw [hg] at hr; cases hr
    | ok a w' =>
      -- the guard leaves the world alone
      have hgw : w' = w := by
        have : ∀ (s : Sem Unit), (∀ u, pureRun P (s >>= fun _ => binOp op t x y) = some u → ∃ a, pureRun P s = some a) := by
          intro s
          induction s with
          | pure a => intro u _; exact ⟨a, rfl⟩
          | program k ih => intro u hu; exact ih P u hu
          | mark m k ih => intro u hu; exact ih u hu
          | _ => intro u hu; cases hu
        obtain ⟨a', ha'⟩ := this _ _ hu
        have := pureRun_ok ha' w
        rw [hg] at this
        cases this; rfl
      subst hgw
      rw [guard_ok hg]
      rw [hg] at hr
      exact hr
  · split at hb <;> try (simp at hb; done)
    rename_i ti ht
    split at hb <;> try (simp at hb; done)
    rename_i hn
    simp only [Bool.and_eq_true] at hn
    have hbin : ∀ b, nilEq x y = some b → (op = .eql → (binOp op t cx cy).run P w = .ok (.bool b) w) ∧ (op = .neq → (binOp op t cx cy).run P w = .ok (.bool (!b)) w) := by
      intro b hb
      have he := nil_ok ht hx hy hn.1 hb w
      have hk : binOp .eql t cx cy = (do pure (.bool (← Op.equal t cx cy))) ∧ binOp .neq t cx cy = (do pure (.bool (!(← Op.equal t cx cy)))) := by
        have h1 := hn.1
        revert h1
        generalize ti.u = D
        cases hx <;> cases D <;> simp [nilType] <;> first | exact ⟨rfl, rfl⟩ | (constructor <;> (unfold binOp; rfl))
      refine ⟨fun ho => ?_, fun ho => ?_⟩
      · subst ho; rw [hk.1]; simp only [Sem.run_bind, he, Result.andThen_ok, Sem.run_pure]
      · subst ho; rw [hk.2]; simp only [Sem.run_bind, he, Result.andThen_ok, Sem.run_pure]
    split at hb <;> try (simp at hb; done)
    · rename_i b he
      simp at hb; subst hb
      refine RunTo.same R (vc := .bool b) ?_ (.bool _)
      simp only [Sem.run_bind, guard_nil hx hn.1, Result.andThen_ok]
      exact (hbin b he).1 rfl
    · rename_i b he
      simp at hb; subst hb
      refine RunTo.same R (vc := .bool (!b)) ?_ (.bool _)
      simp only [Sem.run_bind, guard_nil hx hn.1, Result.andThen_ok]
      exact (hbin b he).2 rfl

end
end Gl
end
