/-
  From the row's condition to the evaluator's memory.
-/
import Derived.Test.YtamcmocdkcfjkaaGreatDoorKn
import Derived.ProofKit
import Derived.LaidMore
import Derived.Lay
import Derived.Lib.LaidU8
import Derived.Shelf.Vars
import Derived.HandedShaped
import Derived.Stop.Joined
set_option linter.all false
/- From the row's condition to the evaluator's memory. -/
section
namespace Go.Proofs.YtamcmocdkcfjkaaGreatDoor
open Gl Go.RowKit
set_option maxRecDepth 100000

/-- What the rows list. -/
def LA : List (String × DataW Unit) := [("math/bits.deBruijn32tab", Rows.laid_math_bits_deBruijn32tab), ("math/bits.deBruijn64tab", Rows.laid_math_bits_deBruijn64tab), ("internal/strconv.uint64pow10", Rows.laid_internal_strconv_uint64pow10), ("unicode/utf8.acceptRanges", Rows.laid_unicode_utf8_acceptRanges), ("glideslope/pulse.reasons", Rows.laid_glideslope_pulse_reasons), ("unicode/utf8.first", Rows.laid_unicode_utf8_first)]
def LP : List (String × DataW Unit) := [("math/bits.deBruijn32tab", Rows.laid_math_bits_deBruijn32tab), ("math/bits.deBruijn64tab", Rows.laid_math_bits_deBruijn64tab), ("internal/strconv.uint64pow10", Rows.laid_internal_strconv_uint64pow10), ("unicode/utf8.acceptRanges", Rows.laid_unicode_utf8_acceptRanges), ("unicode/utf8.first", Rows.laid_unicode_utf8_first)]
theorem LA_plain : (LA.filter fun x => x.2.handleName?.isNone) = LP := by kernel_rfl

theorem plain_of {W : World} (h : laidMetH Tryz.prog LA W) : laidMet Tryz.prog LP W := by
  rw [← LA_plain]
  unfold laidMetH at h
  have e : (LA.filter fun x => x.2.handleName?.isSome) = [("glideslope/pulse.reasons", Rows.laid_glideslope_pulse_reasons)] := by kernel_rfl
  rw [e] at h
  exact h.1

theorem var_block {W : World} {n : String} {g : Nat} {cs : Array Value} (hg : Tryz.prog.globalNamed n = some g) (hv : W.var? Tryz.prog n = some cs) : ∃ e fz, W.heap[g]? = some (.cells cs e fz) := by
  unfold World.var? at hv
  rw [hg] at hv
  simp only [Option.bind_some] at hv
  split at hv
  · rename_i c e fz h
    cases hv
    exact ⟨_, _, h⟩
  · cases hv

theorem pow10_block {W : World} (h : laidMetH Tryz.prog LA W) : ∃ e fz, W.heap[3]? = some (.cells (Go.Lib.pow10Tab.map (.int .u64)).toArray e fz) := by
  obtain ⟨g, t, cs, fuel, p, hg, ht, hv, hd⟩ := Lib.laidMet.reads (plain_of h) (n := "internal/strconv.uint64pow10") (d := Rows.laid_internal_strconv_uint64pow10) (by simp [LP])
  obtain rfl := Option.some.inj ((show Tryz.prog.globalNamed "internal/strconv.uint64pow10" = some 3 by kernel_rfl).symm.trans hg)
  obtain rfl := Option.some.inj ((show (Tryz.prog.globals[3]?).map (·.type) = some 336 by kernel_rfl).symm.trans ht)
  have hd' : DataW.trod (fun _ => ()) Tryz.prog W 0 (fun _ => true) false fuel 336 cs.toList = some (Lib.tabData .u64 Lib.pow10Tab, p) := hd
  have hu : ∃ e, Tryz.prog.underlying 336 = some (.array 20 e) ∧ Tryz.prog.underlying e = some (.int .u64) ∧ Tryz.prog.cellsOf e = 1 := by
    refine ⟨(match Tryz.prog.underlying 336 with | some (.array _ e) => e | _ => 0), by kernel_rfl, by kernel_rfl, by kernel_rfl⟩
  obtain ⟨e, h1, h2, h3⟩ := hu
  have hcs := Lib.cells_of_tab h1 h2 h3 (by kernel_rfl) hd'
  obtain ⟨e', fz, hb⟩ := var_block hg hv
  exact ⟨e', fz, by rw [hb, ← hcs]⟩

def nmR (k : UInt8) : List UInt8 := [103, 108, 105, 100, 101, 115, 108, 111, 112, 101, 47, 112, 117, 108, 115, 101, 46, 114, 101, 97, 115, 111, 110, 115, 36, k]
theorem u180 : ∃ f1 f2 : Field, Tryz.prog.underlying 180 = some (.struct #[f1, f2]) ∧ f1.offset = 0 ∧ f2.offset = 1 ∧ Tryz.prog.underlying f1.type = some .string ∧ Tryz.prog.cellsOf f1.type = 1 ∧ Tryz.prog.cellsOf f2.type = 1 ∧ f2.type = 178 := by
  refine ⟨(match Tryz.prog.underlying 180 with | some (.struct fs) => fs.getD 0 default | _ => default), (match Tryz.prog.underlying 180 with | some (.struct fs) => fs.getD 1 default | _ => default), by kernel_rfl, by kernel_rfl, by kernel_rfl, by kernel_rfl, by kernel_rfl, by kernel_rfl, by kernel_rfl⟩

theorem reason_of {W : World} {fuel : Nat} {a b : Value} {l : List UInt8} {k : UInt8} {q : List MemPlace} {f0 : FuncId} (hone : ((List.range Tryz.prog.funcs.size).filter fun f => (Tryz.prog.funcs[f]?).any (·.name.toUTF8.data.toList == nmR k)) = [f0])
    (h : DataW.trod (funcToken Tryz.prog) Tryz.prog W 0 (fun _ => true) true fuel 180 [a, b] = some (.agg [.lit (.string l), .held (nmR k)], q)) : a = .string ⟨l.toArray⟩ ∧ b = .func (.func f0) #[] #[] := by
  obtain ⟨f1, f2, hu, o1, o2, u1, c1, c2, t2⟩ := u180
  obtain ⟨xs, n, rfl, hx, hl, hxl, hall⟩ := DataW.trod_struct hu h
  have h0 := hall 0 f1 rfl
  have h1 := hall 1 f2 rfl
  rw [o1, c1] at h0
  rw [o2, c2] at h1
  have hxs : xs.map (·.1) = [.lit (.string l), .held (nmR k)] := by
    have := congrArg Prod.fst hx
    simpa using this.symm
  obtain ⟨x0, x1, rfl⟩ : ∃ x0 x1, xs = [x0, x1] := by
    have : xs.length = 2 := hxl
    match xs, this with
    | [x0, x1], _ => exact ⟨x0, x1, rfl⟩
  simp at hxs
  have h0' : DataW.trod (funcToken Tryz.prog) Tryz.prog W 0 (fun _ => true) true n f1.type [a] = some x0 := h0
  have h1' : DataW.trod (funcToken Tryz.prog) Tryz.prog W 0 (fun _ => true) true n f2.type [b] = some x1 := h1
  obtain ⟨s, hs, hx0, _⟩ := DataW.trod_string u1 h0'
  constructor
  · cases hs
    rw [hx0] at hxs
    have := hxs.1
    simp at this
    rw [← this]
  · obtain ⟨y, q1⟩ := x1
    have hy : y = .held (nmR k) := hxs.2
    subst hy
    rw [t2] at h1'
    have hf : ∃ ps rs va, Tryz.prog.underlying 178 = some (.func ps rs va) := by
      refine ⟨(match Tryz.prog.underlying 178 with | some (.func a _ _) => a | _ => #[]), (match Tryz.prog.underlying 178 with | some (.func _ b _) => b | _ => #[]), (match Tryz.prog.underlying 178 with | some (.func _ _ c) => c | _ => false), by kernel_rfl⟩
    obtain ⟨ps, rs, va, hf⟩ := hf
    exact func_of_trod hf hone h1'

theorem reasons_block {W : World} (h : laidMetH Tryz.prog LA W) :
    ∃ e fz, W.heap[0]? = some (.cells #[.string ⟨#[100, 101, 97, 100]⟩, .func (.func 285) #[] #[], .string ⟨#[101, 99, 104, 111]⟩, .func (.func 286) #[] #[], .string ⟨#[108, 111, 97, 100]⟩, .func (.func 287) #[] #[]] e fz) := by
  obtain ⟨g, t, cs, fuel, p, hg, ht, hv, hd⟩ := h.funcs (n := "glideslope/pulse.reasons") (d := .agg [.agg [.lit (.string [100, 101, 97, 100]), .iface "func" (.lit (.string (nmR 49)))], .agg [.lit (.string [101, 99, 104, 111]), .iface "func" (.lit (.string (nmR 50)))], .agg [.lit (.string [108, 111, 97, 100]), .iface "func" (.lit (.string (nmR 51)))]]) (by simp [LA, Rows.laid_glideslope_pulse_reasons, nmR])
  obtain rfl := Option.some.inj ((show Tryz.prog.globalNamed "glideslope/pulse.reasons" = some 0 by kernel_rfl).symm.trans hg)
  obtain rfl := Option.some.inj ((show (Tryz.prog.globals[0]?).map (·.type) = some 181 by kernel_rfl).symm.trans ht)
  have hd' : DataW.trod (funcToken Tryz.prog) Tryz.prog W 0 (fun _ => true) true fuel 181 cs.toList = some (.agg [.agg [.lit (.string [100, 101, 97, 100]), .held (nmR 49)], .agg [.lit (.string [101, 99, 104, 111]), .held (nmR 50)], .agg [.lit (.string [108, 111, 97, 100]), .held (nmR 51)]], p) := hd
  have hu : Tryz.prog.underlying 181 = some (.array 3 180) := by kernel_rfl
  have c2 : Tryz.prog.cellsOf 180 = 2 := by kernel_rfl
  have c6 : Tryz.prog.cellsOf 181 = 6 := by kernel_rfl
  have hlen : cs.toList.length = 6 := by
    cases fuel with
    | zero => simp [DataW.trod] at hd'
    | succ f =>
      simp only [DataW.trod, hu, c6] at hd'
      split at hd'
      · assumption
      · cases hd'
  obtain ⟨a0, a1, a2, a3, a4, a5, hcs⟩ : ∃ a0 a1 a2 a3 a4 a5, cs.toList = [a0, a1, a2, a3, a4, a5] := by
    match hc : cs.toList, hlen with
    | [a0, a1, a2, a3, a4, a5], _ => exact ⟨a0, a1, a2, a3, a4, a5, rfl⟩
  rw [hcs] at hd'
  obtain ⟨f0, d0, q0, e0, r0⟩ := Lib.array_elem hu hd' 0 (by omega)
  obtain ⟨f1, d1, q1, e1, r1⟩ := Lib.array_elem hu hd' 1 (by omega)
  obtain ⟨f2, d2, q2, e2, r2⟩ := Lib.array_elem hu hd' 2 (by omega)
  simp at e0 e1 e2
  subst e0 e1 e2
  rw [c2] at r0 r1 r2
  obtain ⟨x0, y0⟩ := reason_of (f0 := 285) (by kernel_rfl) r0
  obtain ⟨x1, y1⟩ := reason_of (f0 := 286) (by kernel_rfl) r1
  obtain ⟨x2, y2⟩ := reason_of (f0 := 287) (by kernel_rfl) r2
  subst x0 y0 x1 y1 x2 y2
  obtain ⟨e, fz, hb⟩ := var_block hg hv
  refine ⟨e, fz, ?_⟩
  rw [hb, ← Array.toArray_toList (xs := cs), hcs]

theorem maxLen_block {W : World} (hsh : W.ShapedOpen Tryz.prog) : ∃ c e fz m, W.heap[2]? = some (.cells c e fz) ∧ c[0]? = some (.int .i64 m) := by
  obtain ⟨m, hm⟩ := cell_of_shapedOpen_int (P := Tryz.prog) (g := 2) (t := 3) (zero := #[.int .i64 0]) (k := .i64) hsh (of_decide_eq_true (by kernel_rfl)) (by kernel_rfl) rfl (by kernel_rfl) (by kernel_rfl) (by kernel_rfl)
  unfold World.cell? at hm
  simp only [Option.isSome_none, Bool.false_eq_true, if_false] at hm
  split at hm
  · rename_i c e fz h
    exact ⟨c, _, _, m, h, hm⟩
  · cases hm

theorem size9 {W : World} (h : laidMetH Tryz.prog LA W) : 9 ≤ W.heap.size := by
  obtain ⟨g, t, cs, fuel, p, hg, ht, hv, hd⟩ := Lib.laidMet.reads (plain_of h) (n := "math/bits.deBruijn64tab") (d := Rows.laid_math_bits_deBruijn64tab) (by simp [LP])
  obtain rfl := Option.some.inj ((show Tryz.prog.globalNamed "math/bits.deBruijn64tab" = some 8 by kernel_rfl).symm.trans hg)
  obtain ⟨e, fz, hb⟩ := var_block hg hv
  have := (Array.getElem?_eq_some_iff.1 hb).1
  omega

/-- Where the package's variables lie. -/
def rho0 : Rho := fun i => if i < 9 then some ⟨i, 0, (match i with | 0 => 6 | _ => 0), (match i with | 0 => 6 | _ => 0)⟩ else none

theorem rep0 {W : World} (h : laidMetH Tryz.prog LA W) (hsh : W.ShapedOpen Tryz.prog) : Rep GA rho0 W.heap G0 := by
  have h9 := size9 h
  refine ⟨fun i g hi => ?_, fun i j g g' b b' h1 h2 h3 h4 ho hd hgg => ?_, fun i hi => ?_, fun i g hi => ?_⟩
  · unfold rho0 at hi
    split at hi
    · rename_i hlt
      cases hi
      match i, hlt with
      | 0, _ =>
        obtain ⟨e, fz, hb⟩ := reasons_block h
        refine ⟨_, rfl, _, e, fz, hb, { fits := by simp, len := by simp, full := fun _ => rfl, esz := rfl, get := fun k v hk => ⟨v, ?_, ?_⟩, free := fun h => (by cases h), whole := fun h => (by cases h) }⟩
        · simpa using hk
        · match k, hk with
          | 0, hk => cases hk; exact .string _
          | 1, hk => cases hk; exact .func _ rfl .nil .nil
          | 2, hk => cases hk; exact .string _
          | 3, hk => cases hk; exact .func _ rfl .nil .nil
          | 4, hk => cases hk; exact .string _
          | 5, hk => cases hk; exact .func _ rfl .nil .nil
          | k + 6, hk => simp at hk
      | 1, _ => exact ⟨_, rfl, trivial⟩
      | 2, _ =>
        obtain ⟨c, e, fz, m, hb, hm⟩ := maxLen_block hsh
        exact ⟨_, rfl, c, e, fz, m, hb, hm⟩
      | 3, _ =>
        obtain ⟨e, fz, hb⟩ := pow10_block h
        exact ⟨_, rfl, e, fz, hb⟩
      | 4, _ => exact ⟨_, rfl, trivial⟩
      | 5, _ => exact ⟨_, rfl, trivial⟩
      | 6, _ => exact ⟨_, rfl, trivial⟩
      | 7, _ => exact ⟨_, rfl, trivial⟩
      | 8, _ => exact ⟨_, rfl, trivial⟩
    · cases hi
  · have hi : i < 9 := (List.getElem?_eq_some_iff.1 h3).1
    exfalso
    match i, hi, h3 with
    | 0, _, h3 => cases h3; cases ho
    | 1, _, h3 => cases h3; cases ho
    | 2, _, h3 => cases h3; cases ho
    | 3, _, h3 => cases h3; cases ho
    | 4, _, h3 => cases h3; cases ho
    | 5, _, h3 => cases h3; cases ho
    | 6, _, h3 => cases h3; cases ho
    | 7, _, h3 => cases h3; cases ho
    | 8, _, h3 => cases h3; cases ho
  · have hlt : i < 9 := by
      have : ∀ x ∈ GA, x < 9 := by decide
      exact this i hi
    exact ⟨_, by unfold rho0; rw [if_pos hlt], rfl, rfl⟩
  · unfold rho0 at hi
    split at hi
    · cases hi; simp only; omega
    · cases hi

theorem gok0 : Gok G0 := by
  unfold Gok xAwake
  exact if_pos (by kernel_rfl)


/-! ### The form's builder, what is listed and the world's shape kept -/
theorem handed {H : Type} {enc : TypeId × Value → H} {os : Os} {f : FuncId} {fn : Func} {s : ChangeSpec} {apart fresh handsOn again : Bool}
    (own : ownKnob Tryz.checked.prog.godebug = none) (started : os.Started) (noInit : Tryz.checked.prog.inits.idxOf? f = none) (hfn : Tryz.checked.prog.funcs[f]? = some fn)
    (witness : ∃ (w : World) (tape : Tape) (i : Input), w.os = os ∧ (w.forCall tape i).Shaped Tryz.checked.prog ∧ i.vars = [] ∧ Input.okWide Tryz.checked.prog (w.forCall tape i) .any w.heap.size f i ∧
      ((s.pre enc Tryz.checked.prog fn [] apart (w.forCall tape i).memory i.args ∧ laidMetH Tryz.prog LA (w.forCall tape i).memory) ∧ sizedMet enc Tryz.checked.prog fn (OpenSpec.ofChange s) apart (w.forCall tape i).memory i.args) ∧ (({} : Assume)).holds Tryz.checked.prog (lone (Frame.enter Tryz.checked.prog f i.args .normal) [] (w.forCall tape i)))
    (contract : ∀ (W : World) (base : Nat) (args : Array Value) (ds gs : List (DataW H)) (before : List MemPlace),
      (∀ (j : Nat) t v, fn.params[j]? = some t → args[j]? = some v → Value.okWide Tryz.checked.prog W .any base t v) →
      DataW.Whole enc Tryz.checked.prog fn.params.toList s.vars apart W args.toList ds gs before →
      (DataW.weightsEach Tryz.checked.prog (fn.params.toList ++ s.plain.varTypes Tryz.checked.prog) (ds ++ gs)).all (· ≤ reachBytes) = true → laidMetH Tryz.prog LA W → W.ShapedOpen Tryz.prog →
      Calls Tryz.checked.prog f args W fun e W' => ∃ v, e = .returned v ∧ s.post enc Tryz.checked.prog fn apart fresh handsOn again W args v W') :
    ReturnsInHanded {} Tryz.checked os f .any (fun w args => (s.pre enc Tryz.checked.prog fn [] apart w args ∧ laidMetH Tryz.prog LA w) ∧ sizedMet enc Tryz.checked.prog fn (OpenSpec.ofChange s) apart w args) (s.post enc Tryz.checked.prog fn apart fresh handsOn again) := by
  refine returnsInHanded_of_calls own started noInit witness ?_
  intro w tape i _ hsh _ hok hpre _
  obtain ⟨_, _, _, fn', hfn', _, _, _, _, hval⟩ := hok
  have e : fn' = fn := Option.some.inj (hfn'.symm.trans hfn)
  subst e
  obtain ⟨⟨⟨ds, gs, before, hw, hc⟩, hx⟩, hz⟩ := hpre
  have hw' := DataW.Whole.of_heap (w' := w.forCall tape i) (by rfl) hw
  refine (contract (w.forCall tape i) w.heap.size i.args ds gs before hval hw' (hz.weights hw) (laidMetH.of_heap (by rfl) hx) hsh).mono fun e W' ⟨v, he, hp⟩ => ?_
  subst he
  exact ChangeSpec.post_blind hp

/-! ### A world in which the listed variables lie so -/
noncomputable def wR (os : Os) : World :=
  let w0 := World.holding Tryz.prog os ⟨#[], #[], []⟩
  { w0 with heap := w0.heap.modify 0 fun
      | .cells _ t frozen => .cells #[.string ⟨#[100, 101, 97, 100]⟩, .func (.func 285) #[] #[], .string ⟨#[101, 99, 104, 111]⟩, .func (.func 286) #[] #[], .string ⟨#[108, 111, 97, 100]⟩, .func (.func 287) #[] #[]] t frozen
      | o => o }
noncomputable def wL (os : Os) : World := (wR os).layVars Tryz.prog LP
theorem wL_os (os : Os) : (wL os).os = os := by
  unfold wL
  rw [World.layVars_os]
  rfl
theorem wL_plain (os : Os) : laidMet Tryz.prog LP (wL os) := by
  have e1 : (LP.filter fun x => (LP.map (·.1)).contains x.1) = LP := List.filter_eq_self.2 fun x hx => List.contains_iff_mem.2 (List.mem_map.2 ⟨x, hx, rfl⟩)
  have e2 : (LP.filter fun x => !(LP.map (·.1)).contains x.1) = [] := List.filter_eq_nil_iff.2 fun x hx => by rw [List.contains_iff_mem.2 (List.mem_map.2 ⟨x, hx, rfl⟩)]; simp
  exact laidMet_layVars (w0 := wR os) (LP.map (·.1)) [] (by rw [e1]; rfl) (by rw [e1]; kernel_rfl) (by rw [e1]; kernel_rfl) (by rw [e2]; exact LaidIn.none)
theorem wL_met (os : Os) (args : Array Value) : laidMetH Tryz.prog LA ((wL os).forCall (fun _ _ => 0) ⟨#[], args, []⟩).memory :=
  laidMetH_of_parts3 (fuel := 8) (by rw [LA_plain]; exact (wL_plain os).of_heap (by simp [World.memory, World.forCall, Input.heap])) (by kernel_rfl) (by kernel_rfl)

end Go.Proofs.YtamcmocdkcfjkaaGreatDoor
end
