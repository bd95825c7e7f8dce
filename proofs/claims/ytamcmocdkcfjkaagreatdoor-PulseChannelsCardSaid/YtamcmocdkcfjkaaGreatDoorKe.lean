/-
  The evaluator for the kernel: with fuel, what is computed worked out at once.
-/
import Derived.Test.YtamcmocdkcfjkaaGreatDoorKc
import Derived.Test.YtamcmocdkcfjkaaGreatDoorKd
import Derived.ProofKit
import Derived.Maps.RangeRun
set_option linter.all false
/- The evaluator for the kernel: with fuel, what is computed worked out at once. -/
section
namespace Gl
open Go

/-! ### Work out at once -/
def fNat {α : Type} (n : Nat) (k : Nat → α) : α := match n with | 0 => k 0 | m + 1 => k (m + 1)
theorem fNat_eq {α : Type} (n : Nat) (k : Nat → α) : fNat n k = k n := by cases n <;> rfl
def fInt {α : Type} (n : Int) (k : Int → α) : α := match n with | .ofNat m => fNat m fun m => k (.ofNat m) | .negSucc m => fNat m fun m => k (.negSucc m)
theorem fInt_eq {α : Type} (n : Int) (k : Int → α) : fInt n k = k n := by cases n <;> simp [fInt, fNat_eq]
def fBool {α : Type} (b : Bool) (k : Bool → α) : α := match b with | true => k true | false => k false
theorem fBool_eq {α : Type} (b : Bool) (k : Bool → α) : fBool b k = k b := by cases b <;> rfl
def fList {α β : Type} (one : β → (β → α) → α) : List β → (List β → α) → α
  | [], k => k []
  | x :: l, k => one x fun x => fList one l fun l => k (x :: l)
theorem fList_eq {α β : Type} {one : β → (β → α) → α} (h : ∀ x k, one x k = k x) : ∀ (l : List β) (k : List β → α), fList one l k = k l
  | [], k => rfl
  | x :: l, k => by rw [fList, h, fList_eq h l]
def fByte {α : Type} (b : UInt8) (k : UInt8 → α) : α := fNat b.toNat fun n => k (UInt8.ofNat n)
theorem fByte_eq {α : Type} (b : UInt8) (k : UInt8 → α) : fByte b k = k b := by simp [fByte, fNat_eq]
def fStr {α : Type} (s : ByteArray) (k : ByteArray → α) : α := fList fByte s.data.toList fun l => k ⟨⟨l⟩⟩
theorem fStr_eq {α : Type} (s : ByteArray) (k : ByteArray → α) : fStr s k = k s := by simp [fStr, fList_eq fByte_eq]
def fAddr {α : Type} (a : Addr) (k : Addr → α) : α := match a with | ⟨b, o, f⟩ => fNat b fun b => fNat o fun o => k ⟨b, o, f⟩
theorem fAddr_eq {α : Type} (a : Addr) (k : Addr → α) : fAddr a k = k a := by cases a; simp [fAddr, fNat_eq]

def fVal {α : Type} : Nat → Value → (Value → α) → α
  | 0, v, k => k v
  | d + 1, v, k => match v with
    | .bool b => fBool b fun b => k (.bool b)
    | .int t n => fInt n fun n => k (.int t n)
    | .string s => fStr s fun s => k (.string s)
    | .pointer (some a) => fAddr a fun a => k (.pointer (some a))
    | .slice (some a) l c => fAddr a fun a => fNat l fun l => fNat c fun c => k (.slice (some a) l c)
    | .slice none l c => fNat l fun l => fNat c fun c => k (.slice none l c)
    | .map (some i) => fNat i fun i => k (.map (some i))
    | .iface t v => fVal d v fun v => k (.iface t v)
    | .func f x c => fList (fVal d) x.toList fun x => fList (fVal d) c.toList fun c => k (.func f ⟨x⟩ ⟨c⟩)
    | .agg x => fList (fVal d) x.toList fun x => k (.agg ⟨x⟩)
    | .tuple x => fList (fVal d) x.toList fun x => k (.tuple ⟨x⟩)
    | v => k v
theorem fVal_eq {α : Type} : ∀ (d : Nat) (v : Value) (k : Value → α), fVal d v k = k v
  | 0, v, k => rfl
  | d + 1, v, k => by
    unfold fVal
    split <;> simp [fBool_eq, fInt_eq, fStr_eq, fAddr_eq, fNat_eq, fVal_eq d, fList_eq (fVal_eq d)]

def fBlk {α : Type} (b : Blk) (k : Blk → α) : α := match b with
  | .cells c e rw full => fList (fVal 4) c fun c => fNat e fun e => k (.cells c e rw full)
  | .map es => fList (fun (p : Value × Value) k => match p with | (a, b) => fVal 4 a fun a => fVal 4 b fun b => k (a, b)) es fun es => k (.map es)
  | .siter s p => fNat p fun p => k (.siter s p)
  | b => k b
theorem fBlk_eq {α : Type} (b : Blk) (k : Blk → α) : fBlk b k = k b := by
  unfold fBlk
  split
  · simp [fList_eq (fVal_eq 4), fNat_eq]
  · rw [fList_eq]
    intro x k
    cases x
    simp [fVal_eq]
  · simp [fNat_eq]
  · rfl

/-- A frame, as a tree. -/
inductive KFr where
  | nil
  | node (l : KFr) (v : Value) (r : KFr)

def KFr.get : KFr → Nat → Value
  | .nil, _ => undef
  | .node l v r, n => match n with
    | 0 => v
    | m + 1 => match m % 2 with
      | 0 => l.get (m / 2)
      | _ + 1 => r.get (m / 2)

def KFr.set {α : Type} : KFr → Nat → Value → (KFr → α) → α → α
  | .nil, _, _, _, e => e
  | .node l v r, n, x, k, e => match n with
    | 0 => k (.node l x r)
    | m + 1 => match m % 2 with
      | 0 => l.set (m / 2) x (fun l => k (.node l v r)) e
      | _ + 1 => r.set (m / 2) x (fun r => k (.node l v r)) e

theorem KFr.set_ok {α : Type} : ∀ {fr : KFr} {n : Nat} {x : Value} {k : KFr → Option α} {r : α}, fr.set n x k none = some r → ∃ fr', fr'.get = fset fr.get n x ∧ k fr' = some r
  | .nil, _, _, _, _, h => by cases h
  | .node l v rr, n, x, k, r, h => by
    unfold KFr.set at h
    have half : ∀ a b : Nat, a / 2 = b / 2 → a % 2 = b % 2 → a = b := by omega
    split at h
    · refine ⟨_, ?_, h⟩
      funext j
      cases j with
      | zero => simp [KFr.get, fset]
      | succ j => simp [KFr.get, fset]
    · rename_i m
      split at h
      · rename_i hm
        obtain ⟨l', h1, h2⟩ := KFr.set_ok h
        refine ⟨_, ?_, h2⟩
        funext j
        cases j with
        | zero => simp [KFr.get, fset]
        | succ j =>
          simp only [KFr.get, fset]
          split
          · rename_i hj
            rw [h1]
            simp only [fset]
            by_cases e : j / 2 = m / 2
            · rw [if_pos e, if_pos (by have := half j m e (by omega); omega)]
            · rw [if_neg e, if_neg (fun e' => e (congrArg (· / 2) (Nat.succ.inj e')))]
          · rename_i q hj
            rw [if_neg (fun e' => by have := Nat.succ.inj e'; subst this; omega)]
      · rename_i q hm
        obtain ⟨l', h1, h2⟩ := KFr.set_ok h
        refine ⟨_, ?_, h2⟩
        funext j
        cases j with
        | zero => simp [KFr.get, fset]
        | succ j =>
          simp only [KFr.get, fset]
          split
          · rename_i hj
            rw [if_neg (fun e' => by have := Nat.succ.inj e'; subst this; omega)]
          · rename_i q' hj
            rw [h1]
            simp only [fset]
            by_cases e : j / 2 = m / 2
            · rw [if_pos e, if_pos (by have := half j m e (by omega); omega)]
            · rw [if_neg e, if_neg (fun e' => e (congrArg (· / 2) (Nat.succ.inj e')))]

/-- A frame with nothing in it; its depth. -/
def KFr.make : Nat → KFr
  | 0 => .nil
  | d + 1 => match KFr.make d with | t => .node t undef t
theorem KFr.make_get : ∀ (d j : Nat), (KFr.make d).get j = undef
  | 0, _ => rfl
  | d + 1, 0 => rfl
  | d + 1, j + 1 => by
    simp only [KFr.make, KFr.get]
    split <;> exact KFr.make_get d _

def KFr.lay {α : Type} : KFr → Nat → List Value → (KFr → Option α) → Option α
  | fr, _, [], k => k fr
  | fr, i, v :: vs, k => fVal 4 v fun v => fr.set i v (fun fr => KFr.lay fr (i + 1) vs k) none
theorem KFr.lay_ok {α : Type} : ∀ {vs : List Value} {fr : KFr} {i : Nat} {k : KFr → Option α} {r : α}, fr.lay i vs k = some r → ∃ fr' : KFr, (∀ j, fr'.get j = if j < i then fr.get j else (vs[j - i]?).getD (fr.get j)) ∧ k fr' = some r
  | [], fr, i, k, r, h => ⟨fr, fun j => by simp, h⟩
  | v :: vs, fr, i, k, r, h => by
    simp only [KFr.lay, fVal_eq] at h
    obtain ⟨fr1, h1, h2⟩ := KFr.set_ok h
    obtain ⟨fr2, h3, h4⟩ := KFr.lay_ok h2
    refine ⟨fr2, fun j => ?_, h4⟩
    rw [h3, h1]
    simp only [fset]
    rcases Nat.lt_trichotomy j i with hj | hj | hj
    · rw [if_pos (by omega), if_neg (by omega), if_pos hj]
    · subst hj; simp
    · rw [if_neg (by omega), if_neg (by omega), if_neg (by omega)]
      obtain ⟨d, rfl⟩ : ∃ d, j = i + 1 + d := ⟨j - (i + 1), by omega⟩
      rw [show i + 1 + d - i = d + 1 by omega, show i + 1 + d - (i + 1) = d by omega]
      simp

/-- The frame that holds these values. -/
def KFr.of {α : Type} (nt : Nat) (vs : List Value) (k : KFr → Option α) : Option α := KFr.lay (KFr.make (Nat.log2 nt + 1)) 0 vs k
theorem KFr.of_ok {α : Type} {nt : Nat} {vs : List Value} {k : KFr → Option α} {r : α} (h : KFr.of nt vs k = some r) : ∃ fr' : KFr, fr'.get = toFr vs ∧ k fr' = some r := by
  obtain ⟨fr', h1, h2⟩ := KFr.lay_ok h
  refine ⟨fr', ?_, h2⟩
  funext j
  rw [h1, if_neg (by omega), KFr.make_get]
  simp [toFr, List.getD_eq_getElem?_getD]

/-- A value, put. -/
def kput {α : Type} (fr : KFr) (d : Option Nat) (v : Value) (k : KFr → Option α) : Option α :=
  match d with
  | none => k fr
  | some t => fVal 4 v fun v => fr.set t v k none
theorem kput_eq {α : Type} {fr : KFr} {d : Option Nat} {v : Value} {k : KFr → Option α} {r : α} (h : kput fr d v k = some r) : ∃ fr', fr'.get = fput fr.get d v ∧ k fr' = some r := by
  cases d with
  | none => exact ⟨fr, rfl, h⟩
  | some t =>
    simp only [kput, fVal_eq] at h
    exact KFr.set_ok h

/-- The memory, one block of it worked out. -/
def fAt {α : Type} : Heap → Nat → (Heap → α) → α
  | [], _, k => k []
  | b :: l, 0, k => fBlk b fun b => k (b :: l)
  | b :: l, n + 1, k => fAt l n fun l => k (b :: l)
theorem fAt_eq {α : Type} : ∀ (h : Heap) (n : Nat) (k : Heap → α), fAt h n k = k h
  | [], _, _ => rfl
  | b :: l, 0, k => by rw [fAt, fBlk_eq]
  | b :: l, n + 1, k => by rw [fAt, fAt_eq l n]

/-- The memory behind an operation, worked out where it turned. -/
def fHeap {α : Type} : Heap → Heap → (Heap → α) → α
  | [], new, k => fList fBlk new k
  | _ :: old, b :: new, k => fBlk b fun b => fHeap old new fun new => k (b :: new)
  | _ :: _, [], k => k []
theorem fHeap_eq {α : Type} : ∀ (old new : Heap) (k : Heap → α), fHeap old new k = k new
  | [], new, k => by rw [fHeap, fList_eq fBlk_eq]
  | _ :: old, b :: new, k => by rw [fHeap, fBlk_eq, fHeap_eq old new]
  | _ :: _, [], k => rfl

/-! ### Equal, surely -/
def eqV : Value → Value → Bool
  | .bool a, .bool b => a == b
  | .int k a, .int k' b => k == k' && a == b
  | .string a, .string b => a.data.toList == b.data.toList
  | .float k a, .float k' b => k == k' && a == b
  | .pointer a, .pointer b => a == b
  | .slice a n c, .slice b n' c' => a == b && n == n' && c == c'
  | .map a, .map b => a == b
  | .nilFunc, .nilFunc => true
  | .nilIface, .nilIface => true
  | _, _ => false
def eqL {β : Type} (one : β → β → Bool) : List β → List β → Bool
  | [], [] => true
  | x :: l, y :: m => one x y && eqL one l m
  | _, _ => false
theorem eqL_ok {β : Type} {one : β → β → Bool} (h : ∀ x y, one x y = true → x = y) : ∀ {l m : List β}, eqL one l m = true → l = m
  | [], [], _ => rfl
  | x :: l, y :: m, e => by
    simp only [eqL, Bool.and_eq_true] at e
    rw [h x y e.1, eqL_ok h e.2]
  | [], _ :: _, e => by simp [eqL] at e
  | _ :: _, [], e => by simp [eqL] at e
theorem eqV_ok : ∀ {a b : Value}, eqV a b = true → a = b := by
  intro a b h
  unfold eqV at h
  split at h <;> simp_all
  rename_i a b
  cases a; cases b
  simp_all

def eqB : Option Blk → Option Blk → Bool
  | none, none => true
  | some (.cells c e r f), some (.cells c' e' r' f') => eqL eqV c c' && e == e' && r == r' && f == f'
  | some (.map l), some (.map l') => eqL (fun (x y : Value × Value) => eqV x.1 y.1 && eqV x.2 y.2) l l'
  | some .dead, some .dead => true
  | some .anyInt, some .anyInt => true
  | some (.table c), some (.table c') => eqL eqV c c'
  | _, _ => false
theorem eqB_ok {a b : Option Blk} (h : eqB a b = true) : a = b := by
  unfold eqB at h
  split at h
  · rfl
  · simp only [Bool.and_eq_true, beq_iff_eq] at h
    obtain ⟨⟨⟨h1, rfl⟩, rfl⟩, rfl⟩ := h
    rw [eqL_ok (fun _ _ => eqV_ok) h1]
  · rw [eqL_ok (fun x y e => ?_) h]
    simp only [Bool.and_eq_true] at e
    exact Prod.ext (eqV_ok e.1) (eqV_ok e.2)
  · rfl
  · rfl
  · rw [eqL_ok (fun _ _ => eqV_ok) h]
  · cases h

def calmK (ops : Array Oper) (es : List (Nat × Heap × Heap)) (rs : List (Nat × Nat)) : Bool :=
  es.all fun e => rs.all fun r => ordered ops e.1 r.1 || eqB (hget e.2.1 r.2) (hget e.2.2 r.2)
theorem calmK_ok {ops : Array Oper} {es : List (Nat × Heap × Heap)} {rs : List (Nat × Nat)} (h : calmK ops es rs = true) : calmB ops es rs = true := by
  unfold calmK at h
  unfold calmB
  simp only [List.all_eq_true, Bool.or_eq_true, decide_eq_true_eq] at h ⊢
  intro e he r hr
  rcases h e he r hr with h | h
  · exact .inr h
  · exact .inl (eqB_ok h)

/-- Which block an operation turns, if but one. -/
def turnAt (fr : Fr) (h : Heap) : Op → Option Nat
  | .store _ a _ => match feval fr a with | .pointer (some a) => some a.block | _ => none
  | .mapUpdate _ m _ _ => match feval fr m with | .map (some i) => some i | _ => none
  | .next it _ => match feval fr it with | .pointer (some a) => some a.block | _ => none
  | .alloc _ | .box .. | .buildSlice .. | .makeMap .. | .makeSlice .. | .range .. | .convert .. => some (hsz h)
  | _ => none
def workAll : Op → Bool
  | .call c => match c.callee with
    | .builtin b => (match b with | .append | .copy | .clear | .delete => true | _ => false)
    | _ => true
  | _ => false
def work {α : Type} (op : Op) (fr : Fr) (h h' : Heap) (k : Heap → α) : α :=
  match turnAt fr h op with
  | some i => fAt h' i k
  | none => if workAll op then fHeap h h' k else k h'
theorem work_eq {α : Type} (op : Op) (fr : Fr) (h h' : Heap) (k : Heap → α) : work op fr h h' k = k h' := by
  unfold work
  split
  · exact fAt_eq ..
  · split
    · exact fHeap_eq ..
    · rfl

/-! ### The evaluator -/
abbrev KRec := Bool → Nat → List AItem → KFr → Heap → Option (Out × KFr × Heap)

def finK (C : Ctx) (B : FnB) : Option (Out × KFr × Heap) → Option (Value × Heap)
  | some (.exit _, _, _) => none
  | some (_, fr, h') => match aresults C.P fr.get h' B.results with
    | some vs => some (packed vs, h')
    | none => none
  | none => none

def callK (C : Ctx) (rec : KRec) (f : FuncId) (args : List Value) (h : Heap) : Option (Value × Heap) :=
  match C.X f with
  | some g => g args h
  | none => match fnB C.G C.P f with
    | some B => if args.length ≤ B.nt then KFr.of B.nt args fun fr => finK C B (rec false B.nt [.code B.code] fr h) else none
    | none => none

/-- Arguments, laid into a frame. -/
def argsK {α : Type} : KFr → List Nat → List Value → (KFr → Option α) → Option α
  | fr, p :: ps, v :: vs, k => kput fr (some p) v fun fr => argsK fr ps vs k
  | fr, [], _, k => k fr
  | fr, _ :: _, [], k => k fr

def yieldK (rec : KRec) (l : Nat) (args : List Value) (h : Heap) : Option (Value × Heap) :=
  match yieldLoop h l with
  | some (nt', fr0, ps, assign, body) =>
    if args.length = ps.length then
      KFr.of nt' fr0 fun fr0 => argsK fr0 ps args fun fr1 =>
      match rec true nt' [.code assign] fr1 h with
      | some (.normal, fr2, h2) => match roundOn h2 l with
        | some h3 => fAt h3 l fun h3 => match rec true nt' [.code body] fr2 h3 with
          | some (o, _, h4) => match roundOff o h4 l with
            | some (v, h5) => fAt h5 l fun h5 => some (v, h5)
            | none => none
          | none => none
        | none => none
      | _ => none
    else none
  | none => none

/-- The operations of a region. -/
def opsK (C : Ctx) (rec : KRec) (d : Bool) (ops : Array Oper) (k : KFr → Heap → Option (Out × KFr × Heap)) : List Oper → Nat → List (Nat × Heap × Heap) → List (Nat × Nat) → KFr → Heap → Option (Out × KFr × Heap)
  | [], _, _, _, fr, h => k fr h
  | o :: rest, i, es, rs, fr, h =>
    if wantedA ops o fr.get then
      match calleeOf o.op with
      | some (f, xs) => match target (feval fr.get f) (xs.map (feval fr.get)) with
        | some (.fn f args) => fList (fVal 4) args fun args => match callK C rec f args h with
          | some (v, h') =>
            if d then (if calmK ops (grown o.op fr.get h h' i es rs).1 (grown o.op fr.get h h' i es rs).2 then
              kput fr o.dst v fun fr' => opsK C rec d ops k rest (i + 1) (grown o.op fr.get h h' i es rs).1 (grown o.op fr.get h h' i es rs).2 fr' h' else none)
            else kput fr o.dst v fun fr' => opsK C rec d ops k rest (i + 1) [] [] fr' h'
          | none => none
        | some (.yield l args) => if d then none else match yieldK rec l args h with
          | some (v, h') => kput fr o.dst v fun fr' => opsK C rec d ops k rest (i + 1) [] [] fr' h'
          | none => none
        | none => none
      | none => match aop C.P o.op o.type fr.get h with
        | some (v, h') => work o.op fr.get h h' fun h' =>
            if d then (if calmK ops (grown o.op fr.get h h' i es rs).1 (grown o.op fr.get h h' i es rs).2 then
              kput fr o.dst v fun fr' => opsK C rec d ops k rest (i + 1) (grown o.op fr.get h h' i es rs).1 (grown o.op fr.get h h' i es rs).2 fr' h' else none)
            else kput fr o.dst v fun fr' => opsK C rec d ops k rest (i + 1) [] [] fr' h'
        | none => none
    else kput fr o.dst undef fun fr' => opsK C rec d ops k rest (i + 1) es rs fr' h

def stepK (C : Ctx) (rec : KRec) (rnd : Bool) (nt : Nat) (todo : List AItem) (fr : KFr) (h : Heap) : Option (Out × KFr × Heap) :=
  match todo with
  | [] => some (.normal, fr, h)
  | .inBlock _ :: k => rec rnd nt k fr h
  | .inScope _ :: k => rec rnd nt k fr h
  | .inLoop b :: k => rec rnd nt (.code b :: .inLoop b :: k) fr h
  | .code c :: k => match c with
    | .skip => rec rnd nt k fr h
    | .label _ => rec rnd nt k fr h
    | .seq a b => rec rnd nt (.code a :: .code b :: k) fr h
    | .cond c a b => match feval fr.get c with
      | .bool true => rec rnd nt (.code a :: k) fr h
      | .bool false => rec rnd nt (.code b :: k) fr h
      | _ => none
    | .block id b => rec rnd nt (.code b :: .inBlock id :: k) fr h
    | .loop b => rec rnd nt (.code b :: .inLoop b :: k) fr h
    | .scope b => rec rnd nt (.code b :: .inScope b :: k) fr h
    | .exit id => match exitA id k with
      | some k' => rec rnd nt k' fr h
      | none => some (.exit id, fr, h)
    | .ret => some (.ret, fr, h)
    | .region _ ops d => opsK C rec d ops (fun fr h => rec rnd nt k fr h) ops.toList 0 [] [] fr h
    | .rangeFunc g ps assign body =>
      if rnd then none else
        fList (fVal 4) ((List.range nt).map fr.get) fun l => match target (feval fr.get g) [.func (.yield (hsz h)) #[] #[]] with
        | some (.fn f args) => fList (fVal 4) args fun args => match C.X f with
          | none => match callK C rec f args (hpush h (.loop .ready none nt l ps.toList assign body)) with
            | some (_, h') => match loopOff h' (hsz h) with
              | some (x, h'') => fAt h'' (hsz h) fun h'' => rec rnd nt (x ++ k) fr h''
              | none => none
            | none => none
          | some _ => none
        | _ => none
    | _ => none
  | .ops .. :: _ => none

def evk (C : Ctx) : Nat → KRec
  | 0 => fun _ _ _ _ _ => none
  | n + 1 => stepK C (evk C n)

def evkF (C : Ctx) (n : Nat) (f : FuncId) (args : List Value) (h : Heap) : Option (Value × Heap) := callK C (evk C n) f args h

end Gl
end

/- The kernel's evaluator says what the evaluator says. -/
section
namespace Gl
open Go

section
variable {C : Ctx}

/-- A run of the kernel's evaluator is one of the evaluator's. -/
def RecOK (C : Ctx) (rec : KRec) : Prop := ∀ rnd nt todo fr h o fr' h', rec rnd nt todo fr h = some (o, fr', h') → ev C rnd nt todo fr.get h = some (o, fr'.get, h')

theorem toFr_init {args : List Value} : toFr args = initFr args := rfl

theorem callK_ok {rec : KRec} (hr : RecOK C rec) {f : FuncId} {args : List Value} {h : Heap} {r : Value × Heap} (hc : callK C rec f args h = some r) : evF C f args h = some r := by
  unfold callK at hc
  unfold evF
  split at hc
  · rename_i g hg; simp only [hg]; exact hc
  · rename_i hX
    simp only [hX]
    split at hc
    · rename_i B hB
      simp only [hB]
      split at hc
      · rename_i hle
        rw [if_pos hle]
        obtain ⟨fr0, hfr0, hc⟩ := KFr.of_ok hc
        unfold finK at hc
        split at hc
        · cases hc
        · rename_i o fr h' hne hrec
          have := hr _ _ _ _ _ _ _ _ hrec
          rw [hfr0, toFr_init] at this
          split at hc
          · rename_i vs hvs
            cases hc
            show (ev C false B.nt [.code B.code] (initFr args) h >>= fun q => finF C.P B q) = _
            rw [this]
            show finF C.P B (o, fr.get, h') = _
            unfold finF
            split
            · rename_i id hid
              exact absurd hid (by intro e; simp only at e; subst e; exact hne _ rfl)
            · rw [hvs]; rfl
          · cases hc
        · cases hc
      · cases hc
    · cases hc

theorem argsK_ok {α : Type} : ∀ {ps : List Nat} {vs : List Value} {fr : KFr} {k : KFr → Option α} {r : α}, argsK fr ps vs k = some r → ∃ fr', fr'.get = setArgs fr.get ps vs ∧ k fr' = some r
  | p :: ps, v :: vs, fr, k, r, h => by
    simp only [argsK] at h
    obtain ⟨fr1, h1, h2⟩ := kput_eq h
    obtain ⟨fr2, h3, h4⟩ := argsK_ok h2
    refine ⟨fr2, ?_, h4⟩
    rw [h3, h1]; rfl
  | [], vs, fr, k, r, h => ⟨fr, by cases vs <;> rfl, by cases vs <;> exact h⟩
  | _ :: _, [], fr, k, r, h => ⟨fr, rfl, h⟩

theorem ev_ops_yield {rnd : Bool} {nt : Nat} {K : List AItem} {fr : Fr} {h h1 : Heap} {ops : Array Oper} {i : Nat} {es : List (Nat × Heap × Heap)} {rs : List (Nat × Nat)} {o : Oper} {x : Operand} {xs : List Operand} {l : Nat} {args : List Value} {nt' : Nat} {fr0 : List Value} {ps : List Nat} {as bd : Code} {r1 r2 : Out × Fr × Heap} {r3 : Value × Heap}
    (hi : ops[i]? = some o) (hw : wantedA ops o fr = true) (hc : calleeOf o.op = some (x, xs)) (ht : target (feval fr x) (xs.map (feval fr)) = some (.yield l args)) (hy : yieldLoop h l = some (nt', fr0, ps, as, bd)) (hl : args.length = ps.length)
    (e1 : ev C true nt' [.code as] (setArgs (toFr fr0) ps args) h = some r1) (hn : outNormal r1.1 = true) (hon : roundOn r1.2.2 l = some h1) (e2 : ev C true nt' [.code bd] r1.2.1 h1 = some r2) (hoff : roundOff r2.1 r2.2.2 l = some r3) :
    ev C rnd nt (.ops false ops i es rs :: K) fr h = ev C rnd nt (.ops false ops (i + 1) es rs :: K) (fput fr o.dst r3.1) r3.2 := by
  rw [ev_def, evG]
  simp only [hi, hw, if_true, hc, ht, hy]
  rw [if_pos (by simp [hl]), e1]
  show (if outNormal r1.1 = true then _ else none) = _
  rw [if_pos hn, hon]
  show (ev C true nt' [.code bd] r1.2.1 h1 >>= _) = _
  rw [e2]
  show (roundOff r2.1 r2.2.2 l >>= _) = _
  rw [hoff]
  rfl

theorem opsK_ok {rec : KRec} (hr : RecOK C rec) {d rnd : Bool} {nt : Nat} {ops : Array Oper} {k : KFr → Heap → Option (Out × KFr × Heap)} {K : List AItem} {r : Out × KFr × Heap}
    (hk : ∀ fr h, k fr h = some r → ev C rnd nt K fr.get h = some (r.1, r.2.1.get, r.2.2)) :
    ∀ (rest : List Oper) (i : Nat) (es : List (Nat × Heap × Heap)) (rs : List (Nat × Nat)) (fr : KFr) (h : Heap), rest = ops.toList.drop i → opsK C rec d ops k rest i es rs fr h = some r →
      ∀ es2 rs2, (d = true → es2 = es ∧ rs2 = rs) → ev C rnd nt (.ops d ops i es2 rs2 :: K) fr.get h = some (r.1, r.2.1.get, r.2.2)
  | [], i, es, rs, fr, h, hd, ho, es2, rs2, he => by
    have hi : ops[i]? = none := by
      have := congrArg List.length hd
      simp at this
      simp; omega
    rw [ev_ops_end (hi := hi)]
    exact hk fr h ho
  | o :: rest, i, es, rs, fr, h, hd, ho, es2, rs2, he => by
    have hi : ops[i]? = some o := by
      have := congrArg (fun l => l[0]?) hd
      simpa using this.symm
    have hrest : rest = ops.toList.drop (i + 1) := by
      have := congrArg List.tail hd
      simpa using this
    unfold opsK at ho
    -- behind an operation
    have step : ∀ {v : Value} {h' : Heap}, wantedA ops o fr.get = true → opRes C o fr.get h = some (v, h') →
        (if d then (if calmK ops (grown o.op fr.get h h' i es rs).1 (grown o.op fr.get h h' i es rs).2 then
              kput fr o.dst v fun fr' => opsK C rec d ops k rest (i + 1) (grown o.op fr.get h h' i es rs).1 (grown o.op fr.get h h' i es rs).2 fr' h' else none)
            else kput fr o.dst v fun fr' => opsK C rec d ops k rest (i + 1) [] [] fr' h') = some r →
        ev C rnd nt (.ops d ops i es2 rs2 :: K) fr.get h = some (r.1, r.2.1.get, r.2.2) := by
      intro v h' hw hres hh
      cases d with
      | false =>
        simp only [Bool.false_eq_true, if_false] at hh
        obtain ⟨fr', h1, h2⟩ := kput_eq hh
        rw [ev_ops_step (hi := hi) (hw := hw) (hr := hres) (hd := by simp [lookD]), ← h1]
        exact opsK_ok hr hk rest (i + 1) [] [] fr' h' hrest h2 _ _ (fun h => by cases h)
      | true =>
        obtain ⟨rfl, rfl⟩ := he rfl
        simp only [if_true] at hh
        split at hh
        · rename_i hcalm
          obtain ⟨fr', h1, h2⟩ := kput_eq hh
          rw [ev_ops_step (hi := hi) (hw := hw) (hr := hres) (hd := by simp [lookD, calmK_ok hcalm]), ← h1]
          exact opsK_ok hr hk rest (i + 1) _ _ fr' h' hrest h2 _ _ (fun _ => ⟨rfl, rfl⟩)
        · cases hh
    split at ho
    · rename_i hw
      split at ho
      · rename_i f xs hc
        split at ho
        · rename_i f' args ht
          rw [fList_eq (fVal_eq 4)] at ho
          split at ho
          · rename_i v h' hcall
            refine step hw ?_ ho
            unfold opRes
            simp only [hc, ht]
            exact callK_ok hr hcall
          · cases ho
        · rename_i l args ht
          cases d with
          | true => simp at ho
          | false =>
            simp only [Bool.false_eq_true, if_false] at ho
            split at ho
            · rename_i v h' hy
              obtain ⟨fr', h1, h2⟩ := kput_eq ho
              unfold yieldK at hy
              split at hy
              · rename_i nt' fr0 ps as bd hyl
                split at hy
                · rename_i hlen
                  obtain ⟨frb, b1, b2⟩ := KFr.of_ok hy
                  obtain ⟨fr1, a1, a2⟩ := argsK_ok b2
                  rw [b1] at a1
                  split at a2
                  · rename_i fr2 h2' e1
                    split at a2
                    · rename_i h3 hon
                      rw [fAt_eq] at a2
                      split at a2
                      · rename_i o2 fr3 h4 e2
                        split at a2
                        · rename_i v5 h5 hoff
                          rw [fAt_eq] at a2
                          cases a2
                          have q1 := hr _ _ _ _ _ _ _ _ e1
                          have q2 := hr _ _ _ _ _ _ _ _ e2
                          rw [a1] at q1
                          rw [ev_ops_yield (hi := hi) (hw := hw) (hc := hc) (ht := ht) (hy := hyl) (hl := hlen) (e1 := q1) (hn := rfl) (hon := hon) (e2 := q2) (hoff := hoff), ← h1]
                          exact opsK_ok hr hk rest (i + 1) [] [] fr' h' hrest h2 _ _ (fun h => by cases h)
                        · cases a2
                      · cases a2
                    · cases a2
                  · cases a2
                · cases hy
              · cases hy
            · cases ho
        · cases ho
      · rename_i hc
        split at ho
        · rename_i v h' ha
          have hres : opRes C o fr.get h = some (v, h') := by
            unfold opRes
            simp only [hc]
            exact ha
          rw [work_eq] at ho
          exact step hw hres ho
        · cases ho
    · rename_i hw
      obtain ⟨fr', h1, h2⟩ := kput_eq ho
      rw [ev_ops_skip (hi := hi) (hw := by simpa using hw), ← h1]
      exact opsK_ok hr hk rest (i + 1) es rs fr' h hrest h2 es2 rs2 he

theorem stepK_ok {rec : KRec} (hr : RecOK C rec) : RecOK C (stepK C rec) := by
  intro rnd nt todo fr h o fr' h' he
  unfold stepK at he
  split at he
  · cases he; exact ev_nil ..
  · rw [ev_inBlock]; exact hr _ _ _ _ _ _ _ _ he
  · rw [ev_inScope]; exact hr _ _ _ _ _ _ _ _ he
  · rw [ev_inLoop]; exact hr _ _ _ _ _ _ _ _ he
  · rename_i c k
    split at he
    · rw [ev_skip]; exact hr _ _ _ _ _ _ _ _ he
    · rw [ev_label]; exact hr _ _ _ _ _ _ _ _ he
    · rw [ev_seq]; exact hr _ _ _ _ _ _ _ _ he
    · rw [ev_cond]
      split at he
      · rename_i hc; rw [hc]; exact hr _ _ _ _ _ _ _ _ he
      · rename_i hc; rw [hc]; exact hr _ _ _ _ _ _ _ _ he
      · cases he
    · rw [ev_block]; exact hr _ _ _ _ _ _ _ _ he
    · rw [ev_loop, ev_inLoop]; exact hr _ _ _ _ _ _ _ _ he
    · rw [ev_scope]; exact hr _ _ _ _ _ _ _ _ he
    · rw [ev_exit]
      split at he
      · rename_i hx; simp only [hx]; exact hr _ _ _ _ _ _ _ _ he
      · rename_i hx; simp only [hx]; cases he; rfl
    · rw [ev_ret]; cases he; rfl
    · rename_i id ops d
      rw [ev_region]
      exact opsK_ok hr (r := (o, fr', h')) (fun fr2 h2 h => hr _ _ _ _ _ _ _ _ h) _ 0 [] [] fr h (by simp) he [] [] (fun _ => ⟨rfl, rfl⟩)
    · rename_i g ps as bd
      cases rnd with
      | true => simp at he
      | false =>
        simp only [Bool.false_eq_true, if_false] at he
        rw [fList_eq (fVal_eq 4)] at he
        · split at he
          · rename_i f args ht
            rw [fList_eq (fVal_eq 4)] at he
            split at he
            · rename_i hX
              split at he
              · rename_i v h1 hcall
                split at he
                · rename_i x h2 hoff
                  rw [fAt_eq] at he
                  have hcall := callK_ok hr hcall
                  have hrest := hr _ _ _ _ _ _ _ _ he
                  rw [ev_def, evG]
                  simp only [ht, hX]
                  unfold evF at hcall
                  simp only [hX] at hcall
                  split at hcall
                  · rename_i B hB
                    simp only [hB]
                    simp only [Bool.false_eq_true, if_false]
                    refine Eq.trans (congrArg (fun x => x >>= _) hcall) ?_
                    show (loopOff h1 (hsz h) >>= _) = _
                    rw [hoff]
                    exact hrest
                  · cases hcall
                · cases he
              · cases he
            · cases he
          · cases he
    · cases he
  · cases he

theorem evk_ok : ∀ n, RecOK C (evk C n)
  | 0 => fun _ _ _ _ _ _ _ _ h => by cases h
  | n + 1 => stepK_ok (evk_ok n)

theorem evkF_ok {n : Nat} {f : FuncId} {args : List Value} {h : Heap} {r : Value × Heap} (hc : evkF C n f args h = some r) : evF C f args h = some r := callK_ok (evk_ok n) hc

end
end Gl
end

/- The ends: a call on a part of the memory; what a call leaves as it was; the row's last line. -/
section
namespace Gl
open Go

section
variable {C : Ctx}

/-- A block that nobody owns, without an address in it. -/
def plainB : Blk → Bool
  | .cells c _ rw _ => !rw && c.all plain
  | .anyInt => true
  | .table _ => true
  | .dead => true
  | _ => false

theorem plainB_owned {b : Blk} (h : plainB b = true) : owned b = false := by
  cases b <;> simp [plainB, owned] at h ⊢
  exact h.1

theorem plainB_BR {G : List Nat} {ρ ρ' : Rho} {heap : Array Obj} {g : Gh} {b : Blk} (hp : plainB b = true) (h : BR G ρ heap g b) : BR G ρ' heap g b := by
  cases b with
  | cells c esz rw full =>
    obtain ⟨c', e, fz, h1, h2⟩ := h
    refine ⟨c', e, fz, h1, { h2 with get := fun k v hk => ?_ }⟩
    obtain ⟨v', e1, e2⟩ := h2.get k v hk
    have hv : plain v = true := by
      simp only [plainB, Bool.and_eq_true, List.all_eq_true] at hp
      exact hp.2 v (List.mem_of_getElem? hk)
    have := e2.plain hv
    subst this
    exact ⟨v', e1, VR.ofPlain hv⟩
  | anyInt => exact h
  | table c => exact h
  | dead => trivial
  | _ => simp [plainB] at hp

/-- Nothing that was there has turned. -/
theorem Step.below {ρ ρ' : Rho} {w w' : World} {h h' : Heap} (S : Step ρ w h ρ' w' h') (hn : ∀ i b, hget h i = some b → owned b = false) : ∀ r, r < w.heap.size → w'.heap[r]? = w.heap[r]? := by
  intro r hr
  refine S.keep r hr fun i g b _ hb ho => ?_
  rw [hn i b hb] at ho; cases ho

/-- A call that is known at a small memory without owned blocks, at each greater one: it leaves all as it was. -/
theorem FnSem.frame {f : FuncId} {args : List Value} {h0 h0' : Heap} {v : Value} (hS : FnSem C f args h0 v h0') (hp : h0.all plainB = true) (hv : plain v = true) (ha : args.all plain = true)
    (hG : ∀ i ∈ C.G, i < hsz h0) {h : Heap} (hh : ∀ i b, hget h0 i = some b → isDead b = false → hget h i = some b) (hdead : ∀ i, hget h0 i = some .dead → i ∉ C.G ∨ hget h i = some .dead) : FnSem C f args h v h := by
  refine ⟨hS.1, fun ρ w cargs R hargs => ?_⟩
  have pB : ∀ i b, hget h0 i = some b → plainB b = true := fun i b hb => by
    simp only [List.all_eq_true] at hp
    exact hp b (List.mem_of_getElem? hb)
  -- what is known of the small memory
  obtain ⟨ρ0, hρ0⟩ : ∃ ρ0 : Rho, ρ0 = fun i => match hget h0 i with
    | some .dead => if i ∈ C.G then ρ i else none
    | some _ => ρ i
    | none => none := ⟨_, rfl⟩
  have rsub : ∀ i g, ρ0 i = some g → ρ i = some g ∧ ∃ b, hget h0 i = some b ∧ hget h i = some b := by
    intro i g hi
    rw [hρ0] at hi
    simp only at hi
    split at hi
    · rename_i hb
      split at hi
      · rename_i hG'
        exact ⟨hi, _, hb, (hdead i hb).resolve_left (fun h => h hG')⟩
      · cases hi
    · rename_i b hne hb
      exact ⟨hi, b, hb, hh i b hb (by cases b <;> first | rfl | exact absurd rfl hne)⟩
    · cases hi
  have R0 : Rep C.G ρ0 w.heap h0 := by
    refine ⟨fun i g hi => ?_, fun i j g g' b b' h1 h2 h3 h4 ho => ?_, fun i hi => ?_, fun i g hi => R.lt i g (rsub i g hi).1⟩
    · obtain ⟨h1, b, hb, hb'⟩ := rsub i g hi
      obtain ⟨b2, hb2, hR⟩ := R.blk i g h1
      rw [hb'] at hb2; cases hb2
      exact ⟨b, hb, plainB_BR (pB i b hb) hR⟩
    · rw [plainB_owned (pB i b h3)] at ho; cases ho
    · obtain ⟨g, h1, h2⟩ := R.glob i hi
      refine ⟨g, ?_, h2⟩
      obtain ⟨b, hb⟩ : ∃ b, hget h0 i = some b := ⟨_, List.getElem?_eq_getElem (hG i hi)⟩
      rw [hρ0]
      simp only [hb]
      cases b <;> first | exact h1 | (simp only; rw [if_pos hi]; exact h1)
  have hargs' : VRs ρ0 cargs.toList args := by
    have : ∀ (c a : List Value), VRs ρ c a → a.all plain = true → VRs ρ0 c a := by
      intro c a h
      induction c generalizing a with
      | nil => intro _; cases h; exact .nil
      | cons x c ih =>
        intro hp'
        cases h with
        | cons h1 h2 =>
          simp only [List.all_cons, Bool.and_eq_true] at hp'
          have := h1.plain hp'.1
          subst this
          exact .cons (VR.ofPlain hp'.1) (ih _ h2 hp'.2)
    exact this _ _ hargs ha
  refine (hS.2 ρ0 w cargs R0 hargs').mono fun e w' he => ?_
  obtain ⟨ρ', vc, rfl, hvr, R', S'⟩ := he
  have hvc := hvr.plain hv
  subst hvc
  have hbel := S'.below fun i b hb => plainB_owned (pB i b hb)
  refine ⟨ρ, vc, rfl, VR.ofPlain hv, ?_, ?_⟩
  · refine ⟨fun i g hi => ?_, R.inj, R.glob, fun i g hi => Nat.lt_of_lt_of_le (R.lt i g hi) S'.size⟩
    obtain ⟨b, hb, hR⟩ := R.blk i g hi
    exact ⟨b, hb, hR.mono (Sub.refl ρ) (hbel _ (R.lt i g hi))⟩
  · exact ⟨Sub.refl ρ, fun i g e e' => by simp [e'] at e, S'.size, fun r hr _ => hbel r hr, fun i b _ e o => ⟨b, e, o⟩, fun i b _ e o => ⟨b, e, o⟩, Nat.le_refl _, fun i h1 h2 => by omega, S'.os, S'.tape, S'.output⟩

/-- What a call of the machine's comes to, when nothing that came in is owned. -/
theorem FnSem.calls {f : FuncId} {args : List Value} {h h' : Heap} {b : Bool} (hS : FnSem C f args h (.bool b) h') (hn : ∀ i b, hget h i = some b → owned b = false) {ρ : Rho} {w : World} {cargs : Array Value} (R : Rep C.G ρ w.heap h) (hv : VRs ρ cargs.toList args) :
    Calls C.P f cargs w fun e w' => e = .returned (.bool b) ∧ Go.RowKit.Below w.heap.size w w' := by
  refine (hS.2 ρ w cargs R hv).mono fun e w' he => ?_
  obtain ⟨ρ', vc, rfl, hvr, R', S'⟩ := he
  cases hvr
  exact ⟨rfl, S'.os, S'.tape, S'.output, S'.size, S'.below hn⟩

end
end Gl
end

/- A loop over a map: whichever the order. -/
section
namespace Gl
open Go

section
variable {C : Ctx}

theorem owned_live {b : Blk} (h : owned b = true) : isDead b = false := by cases b <;> simp [owned, isDead] at h ⊢

/-- What is known lies elsewhere. -/
def Away (ρ : Rho) (h : Heap) (r : Nat) : Prop := ∀ j g b, ρ j = some g → hget h j = some b → isDead b = false → g.blk ≠ r

theorem Step.away {G : List Nat} {ρ ρ' : Rho} {w w' : World} {h h' : Heap} (R : Rep G ρ w.heap h) (S : Step ρ w h ρ' w' h') {r : Nat} (ha : Away ρ h r) (hr : r < w.heap.size) : Away ρ' h' r := by
  intro j g b hj hb hd he
  cases hρ : ρ j with
  | some g0 =>
    have := S.sub j g0 hρ
    rw [hj] at this; cases this
    obtain ⟨b0, hb0, hd0⟩ := S.dead j b (R.rho_lt hρ) hb hd
    exact ha j g b0 hρ hb0 hd0 he
  | none =>
    rcases (S.new j g hj hρ).2 with h1 | ⟨j0, g0, b0, h1, h2, h3, h4⟩
    · omega
    · exact ha j0 g0 b0 h1 h2 (owned_live h3) (h4.trans he)

theorem Step.stay {ρ ρ' : Rho} {w w' : World} {h h' : Heap} (S : Step ρ w h ρ' w' h') {r : Nat} (ha : Away ρ h r) (hr : r < w.heap.size) : w'.heap[r]? = w.heap[r]? :=
  S.keep r hr fun i g b h1 h2 h3 => ha i g b h1 h2 (owned_live h3)

/-- A block that stands for nothing is turned. -/
theorem Rep.turn {G : List Nat} {ρ : Rho} {heap heap' : Array Obj} {h : Heap} {r : Nat} (R : Rep G ρ heap h) (ha : Away ρ h r) (hs : heap'.size = heap.size) (hk : ∀ q, q ≠ r → heap'[q]? = heap[q]?) : Rep G ρ heap' h := by
  refine ⟨fun i g hi => ?_, R.inj, R.glob, fun i g hi => by rw [hs]; exact R.lt i g hi⟩
  obtain ⟨b, hb, hR⟩ := R.blk i g hi
  refine ⟨b, hb, ?_⟩
  by_cases hd : isDead b = true
  · cases b <;> simp [isDead] at hd
    trivial
  · exact hR.mono (Sub.refl ρ) (hk _ (ha i g b hi hb (by simpa using hd)))

/-- A dead block is known again. -/
theorem Rep.wake {G : List Nat} {ρ : Rho} {heap : Array Obj} {h : Heap} {m : Nat} {gm : Gh} {b : Blk} (R : Rep G ρ heap h) (hm : ρ m = some gm) (hb : hget h m = some .dead) (ha : Away ρ h gm.blk) (hR : BR G ρ heap gm b) : Rep G ρ heap (hput h m b) := by
  have hlt := hget_lt hb
  have hget2 : ∀ j, hget (hput h m b) j = if j = m then some b else hget h j := fun j => by
    rw [hget_put]; split <;> simp_all
  refine ⟨fun i g hi => ?_, fun i j g g' bi bj hi hj hbi hbj ho hd hgg => ?_, R.glob, R.lt⟩
  · rw [hget2]
    by_cases e : i = m
    · subst e
      rw [hm] at hi; cases hi
      exact ⟨b, by rw [if_pos rfl], hR⟩
    · rw [if_neg e]; exact R.blk i g hi
  · rw [hget2] at hbi hbj
    by_cases e1 : i = m <;> by_cases e2 : j = m
    · rw [e1, e2]
    · subst e1
      rw [if_neg e2] at hbj
      rw [hm] at hi; cases hi
      exact absurd hgg.symm (ha j g' bj hj hbj hd)
    · subst e2
      rw [if_neg e1] at hbi
      rw [hm] at hj; cases hj
      exact absurd hgg (ha i g bi hi hbi (owned_live ho))
    · rw [if_neg e1] at hbi
      rw [if_neg e2] at hbj
      exact R.inj i j g g' bi bj hi hj hbi hbj ho hd hgg

theorem MapR.get {ρ : Rho} : ∀ {es : List MapEntry} {l : List (Value × Value)}, MapR ρ es l → ∀ {j : Nat} {e : MapEntry}, es[j]? = some e → ∃ k v, l[j]? = some (k, v) ∧ VR ρ e.key k ∧ VR ρ e.val v
  | _, _, .nil, j, e, h => by simp at h
  | _, _, .cons hk hv t, 0, e, h => by simp at h; subst h; exact ⟨_, _, rfl, hk, hv⟩
  | _, _, .cons hk hv t, j + 1, e, h => by simp only [List.getElem?_cons_succ] at h ⊢; exact MapR.get t h

/-- Operations, one behind the other. -/
theorem wpOps_step {F : Fence} {ops : Array Oper} {Q : Exit → Act → World → Prop} {i : Nat} {rest : List Nat} {a : Act} {w : World} {o : Oper} (ho : ops[i]? = some o) (hg : o.guard = none) (h : o.wpIn F 0 C.P a w (wpOpsIn F 0 C.P ops Q rest) Q) :
    wpOpsIn F 0 C.P ops Q (i :: rest) a w := by
  simp only [wpOpsIn, ho, Region.wanted, hg, if_true]
  exact h

theorem wp_value {o : Oper} {a : Act} {w w' : World} {v : Value} {next : Act → World → Prop} {Q : Exit → Act → World → Prop} (hd : ∀ c, o.op ≠ .defer c) (hr : (execOp a.eval o).run C.P w = .ok (.value v) w') (hn : next (a.put o.dst v) w') :
    o.wpIn Fence.wide 0 C.P a w next Q := by
  refine wpIn_intro (.inl rfl) hd ?_
  rw [hr]
  exact hn

/-- The state of a loop over a map: the map and the walker, hidden; the places seen. -/
structure Iter (ρ : Rho) (w : World) (h : Heap) (m i : Nat) (gm gi : Gh) (es : Array MapEntry) (clock : Nat) (seen : Array Nat) : Prop where
  im : ρ m = some gm
  ii : ρ i = some gi
  base : gi.base = 0
  map : w.heap[gm.blk]? = some (.map es clock)
  iter : w.heap[gi.blk]? = some (.mapIter (some gm.blk) clock seen clock)
  am : Away ρ h gm.blk
  ai : Away ρ h gi.blk
  ne : gm.blk ≠ gi.blk

theorem Iter.step {G : List Nat} {ρ ρ' : Rho} {w w' : World} {h h' : Heap} {m i : Nat} {gm gi : Gh} {es : Array MapEntry} {clock : Nat} {seen : Array Nat} (I : Iter ρ w h m i gm gi es clock seen) (R : Rep G ρ w.heap h) (S : Step ρ w h ρ' w' h') :
    Iter ρ' w' h' m i gm gi es clock seen := by
  have l1 := (Array.getElem?_eq_some_iff.1 I.map).1
  have l2 := (Array.getElem?_eq_some_iff.1 I.iter).1
  exact ⟨S.sub _ _ I.im, S.sub _ _ I.ii, I.base, (S.stay I.am l1).trans I.map, (S.stay I.ai l2).trans I.iter, S.away R I.am l1, S.away R I.ai l2, I.ne⟩

/-- What is said of a run that comes to one of some ends. -/
def SemQ (C : Ctx) (rnd : Bool) (nt : Nat) (todo : List AItem) (fr : Fr) (h : Heap) (Q : Out → Fr → Heap → Prop) : Prop :=
  okItems nt C.G todo = true → ∀ F, FOK F → (rnd = false → F = Fence.wide) → ∀ (ρ : Rho) (w : World) (a : Act) (lo : Nat), Rep C.G ρ w.heap h → FrR ρ nt a.tmps fr → DefR lo w a.defers →
    ∀ (b : Frame) (k : List Item) (cs : List Frame), b.roundOf = F.round →
    ∃ (o : Out) (f2 : Fr) (h2 : Heap), Q o f2 h2 ∧ ∃ (ρ' : Rho) (w' : World) (a' : Act), Rep C.G ρ' w'.heap h2 ∧ Step ρ w h ρ' w' h2 ∧ FrR ρ' nt a'.tmps f2 ∧ DefR lo w' a'.defers ∧ (rnd = true → a'.defers = a.defers) ∧
      ArrivesIn (Machine.fenced C.P F) C.P (lone (b.atR a (todo.map conc ++ k)) cs w) b k cs (outE o) a' w'

theorem SemQ.ofI {rnd : Bool} {nt : Nat} {todo : List AItem} {fr : Fr} {h : Heap} {r : Out × Fr × Heap} {Q : Out → Fr → Heap → Prop} (hs : SemI C rnd nt todo fr h r) (hq : Q r.1 r.2.1 r.2.2) : SemQ C rnd nt todo fr h Q :=
  fun ho F hF hr ρ w a lo R hf hd b k cs hro => ⟨r.1, r.2.1, r.2.2, hq, hs ho F hF hr ρ w a lo R hf hd b k cs hro⟩

/-- The code of a loop over a map. -/
def mapCode (i17 i18 i19 idB idC tb : Nat) (o1 o2 o3 o4 o5 o6 o7 : Oper) (body : Code) : Code :=
  .seq (.region i17 #[o1, o2] false) (.block idB (.loop (.seq (.region i18 #[o3, o4] false) (.seq (.cond (.tmp tb) .skip (.exit idB)) (.block idC (.seq (.region i19 #[o5, o6, o7] false) body))))))

set_option maxHeartbeats 1000000 in
theorem SemQ.mapLoop {nt tsrc tm ti tn tb te tk tv idB idC i17 i18 i19 : Nat} {ty : TypeId} {o1 o2 o3 o4 o5 o6 o7 : Oper} {body : Code} {K : List AItem} {fr : Fr} {h : Heap} {m : Nat} {L : List (Value × Value)} {Q : Out → Fr → Heap → Prop}
    (e1 : o1.op = .move (.tmp tsrc)) (d1 : o1.dst = some tm) (g1 : o1.guard = none) (e2 : o2.op = .range ty (.tmp tm)) (d2 : o2.dst = some ti) (g2 : o2.guard = none)
    (e3 : o3.op = .next (.tmp ti) false) (d3 : o3.dst = some tn) (g3 : o3.guard = none) (e4 : o4.op = .extract (.tmp tn) 0) (d4 : o4.dst = some tb) (g4 : o4.guard = none)
    (e5 : o5.op = .entry (.tmp ti)) (d5 : o5.dst = some te) (g5 : o5.guard = none) (e6 : o6.op = .extract (.tmp te) 0) (d6 : o6.dst = some tk) (g6 : o6.guard = none) (e7 : o7.op = .assign (.tmp tk)) (d7 : o7.dst = some tv) (g7 : o7.guard = none)
    (hty : ∃ x kt et, tinfo C.P ty = some x ∧ x.u = .map kt et) (hsrc : fr tsrc = .map (some m)) (hm : hget h m = some (.map L))
    (Inv : List Value → Fr → Heap → Prop)
    (h0 : Inv [] (fset (fset fr tm (.map (some m))) ti (.pointer (some ⟨hsz h, 0, none⟩))) (hpush (hput h m .dead) .dead))
    (hti : ∀ done fr' h', Inv done fr' h' → fr' ti = .pointer (some ⟨hsz h, 0, none⟩) ∧ hget h' m = some .dead)
    (hne : ti ≠ tn ∧ ti ≠ tb)
    (hbody : ∀ done fr' h' k v, (k, v) ∈ L → done.length < L.length → Inv done fr' h' → ∃ fr2 h2,
      SemI C false nt [.code body] (fset (fset (fset (fset (fset fr' tn (.tuple #[.bool true, k, v])) tb (.bool true)) te (.tuple #[k, v])) tk k) tv k) h' (.normal, fr2, h2) ∧ Inv (done ++ [k]) fr2 h2)
    (hend : ∀ done fr' h', done.Perm (L.map (·.1)) → Inv done fr' h' → SemQ C false nt K (fset (fset fr' tn (.tuple #[.bool false])) tb (.bool false)) (hput h' m (.map L)) Q) :
    SemQ C false nt (.code (mapCode i17 i18 i19 idB idC tb o1 o2 o3 o4 o5 o6 o7 body) :: K) fr h Q := by
  intro ho F hF hr ρ w a lo R hf hd b k cs hro
  have hw := hr rfl
  subst hw
  have hro' : b.roundOf = none := hro
  rw [okItems_cons] at ho
  obtain ⟨hoc, hoK⟩ := ho
  simp only [okItem, mapCode, okCode, Bool.and_eq_true] at hoc
  obtain ⟨⟨ho17, _⟩, ⟨ho18, _⟩, ⟨_, _⟩, ⟨ho19, _⟩, hob⟩ := hoc
  simp only [List.all_cons, List.all_nil, Bool.and_true, Bool.and_eq_true] at ho17 ho18 ho19
  have lt1 := okOper_dst ho17.1 tm d1
  have lt2 := okOper_dst ho17.2 ti d2
  have lt3 := okOper_dst ho18.1 tn d3
  have lt4 := okOper_dst ho18.2 tb d4
  have lt5 := okOper_dst ho19.1 te d5
  have lt6 := okOper_dst ho19.2.1 tk d6
  have lt7 := okOper_dst ho19.2.2 tv d7
  obtain ⟨x, kt, et, hx, hu⟩ := hty
  -- the map
  have hvm := hf.2 tsrc
  rw [hsrc] at hvm
  obtain ⟨gm, hgm, hcm⟩ : ∃ gm, ρ m = some gm ∧ a.tmps.getD tsrc undef = .map (some gm.blk) := by
    generalize a.tmps.getD tsrc undef = c at hvm
    cases hvm with
    | map hi => exact ⟨_, hi, rfl⟩
  obtain ⟨bm, hbm, hRm⟩ := R.blk m gm hgm
  rw [hm] at hbm; cases hbm
  obtain ⟨es, clock, hes, hmr, hborn⟩ := hRm
  have hmlt : gm.blk < w.heap.size := R.lt m gm hgm
  -- the walker is laid
  obtain ⟨w1, hw1⟩ : ∃ w1 : World, w1 = { w with heap := w.heap.push (.mapIter (some gm.blk) clock #[] clock) } := ⟨_, rfl⟩
  obtain ⟨RA, SA⟩ := R.update (w' := w) hgm hm rfl rfl (fun _ _ => rfl) (b2 := .dead) trivial rfl rfl rfl
  have hszA : hsz (hput h m .dead) = hsz h := hsz_put ..
  obtain ⟨RB, SB⟩ := RA.alloc (.mapIter (some gm.blk) clock #[] clock) .dead ⟨w.heap.size, 0, 0, 0⟩ rfl trivial w1 (by rw [hw1]) (by rw [hw1]) (by rw [hw1]) (by rw [hw1])
  rw [hszA] at RB SB
  have S1 := Step.trans R SA SB
  have hnone : ρ (hsz h) = none := R.rho_none (Nat.le_refl _)
  have hawm : Away ρ h gm.blk → False := fun hh => hh m gm _ hgm hm rfl rfl
  have awA : Away ρ (hput h m .dead) gm.blk := by
    intro j g bj hj hb hd he
    rw [hget_put] at hb
    by_cases e : j = m
    · subst e
      rw [if_pos rfl, if_pos (hget_lt hm)] at hb
      cases hb; cases hd
    · rw [if_neg e] at hb
      exact e (R.inj m j gm g _ bj hgm hj hm hb rfl hd he.symm).symm
  have I1 : Iter (ext ρ (hsz h) ⟨w.heap.size, 0, 0, 0⟩) w1 (hpush (hput h m .dead) .dead) m (hsz h) gm ⟨w.heap.size, 0, 0, 0⟩ es clock #[] := by
    refine ⟨ext_sub hnone _ _ hgm, ext_same _ _ _, rfl, ?_, ?_, SB.away RA awA hmlt, ?_, ?_⟩
    · rw [hw1]; simp only; rw [Array.getElem?_push, if_neg (by omega)]; exact hes
    · rw [hw1]; simp
    · intro j g bj hj hb hd he
      rw [hget_push, hszA] at hb
      unfold ext at hj
      split at hj
      · rename_i e
        rw [if_pos e] at hb; cases hb; cases hd
      · have := R.lt j g hj
        simp only at he
        omega
    · simp only; omega
  obtain ⟨a1, ha1⟩ : ∃ a1 : Act, a1 = (a.put (some tm) (.map (some gm.blk))).put (some ti) (.pointer (some ⟨w.heap.size, 0, none⟩)) := ⟨_, rfl⟩
  have hf1 : FrR (ext ρ (hsz h) ⟨w.heap.size, 0, 0, 0⟩) nt a1.tmps (fset (fset fr tm (.map (some m))) ti (.pointer (some ⟨hsz h, 0, none⟩))) := by
    rw [ha1]
    have q1 := ((hf.mono (ext_sub (g := ⟨w.heap.size, 0, 0, 0⟩) hnone)).put (a := a) (d := some tm) (v := .map (some m)) (vc := .map (some gm.blk)) (.map (ext_sub hnone _ _ hgm)) (fun t ht => by cases ht; exact lt1))
    have q2 := q1.put (a := a.put (some tm) (.map (some gm.blk))) (d := some ti) (v := .pointer (some ⟨hsz h, 0, none⟩)) (vc := .pointer (some ⟨w.heap.size, 0, none⟩)) (VR.ptr (g := ⟨w.heap.size, 0, 0, 0⟩) (off := 0) (ext_same _ _ _)) (fun t ht => by cases ht; exact lt2)
    exact q2
  have hat : a.tmps.size = nt := hf.1
  -- the first region
  have hwp1 : wpOpsIn Fence.wide 0 C.P #[o1, o2] (fun e a2 w2 => e = .normal ∧ a2 = a1 ∧ w2 = w1) (List.range 2) a w := by
    refine wpOps_step (o := o1) rfl g1 (wp_value (v := .map (some gm.blk)) (w' := w) (fun c hc => by rw [e1] at hc; cases hc) ?_ ?_)
    · unfold execOp; rw [e1]; simp only [Act.eval, hcm, Sem.run_pure]
    · refine wpOps_step (o := o2) rfl g2 (wp_value (v := .pointer (some ⟨w.heap.size, 0, none⟩)) (w' := w1) (fun c hc => by rw [e2] at hc; cases hc) ?_ ?_)
      · have : (a.put o1.dst (.map (some gm.blk))).eval (.tmp tm) = .map (some gm.blk) := by
          rw [d1]; simp [Act.put, Act.eval, hat, lt1]
        unfold execOp; rw [e2]
        simp only [this, Instr.range, Sem.run_bind, run_und hx, Result.andThen_ok, hu, getObj, Sem.run, hes, Result.andThen, newObj, Sem.run_pure]
        rw [hw1]
      · simp only [wpOpsIn]
        rw [d1, d2]
        exact ⟨trivial, ha1.symm, trivial⟩
  obtain ⟨tl, htl⟩ : ∃ tl : List Item, tl = K.map conc ++ k := ⟨_, rfl⟩
  obtain ⟨B, hB⟩ : ∃ B : Code, B = .seq (.region i18 #[o3, o4] false) (.seq (.cond (.tmp tb) .skip (.exit idB)) (.block idC (.seq (.region i19 #[o5, o6, o7] false) body))) := ⟨_, rfl⟩
  obtain ⟨_, a1', w1', ⟨rfl, q1, q2⟩, harr1⟩ := wp_opsIn _ a w hwp1 b (.code (.block idB (.loop B)) :: tl) cs hro trivial (room_wide _)
  rw [q1, q2] at harr1
  have hextract : ∀ {o : Oper} {t : Nat} {v0 : Value} {vs : Array Value} (a2 : Act) (w2 : World), o.op = .extract (.tmp t) 0 → a2.eval (.tmp t) = .tuple vs → vs[0]? = some v0 → (execOp a2.eval o).run C.P w2 = .ok (.value v0) w2 := by
    intro o t v0 vs a2 w2 h1 h2 h3
    unfold execOp; rw [h1]
    simp only [h2, Instr.extract, h3, Sem.run_bind, Sem.run_pure, Result.andThen_ok]
  have hget : ∀ (a2 : Act) (t : Nat) (v : Value), t < a2.tmps.size → (a2.put (some t) v).eval (.tmp t) = v := by
    intro a2 t v ht
    simp [Act.put, Act.eval, ht]
  have hgetne : ∀ (a2 : Act) (t u : Nat) (v : Value), t ≠ u → (a2.put (some t) v).eval (.tmp u) = a2.eval (.tmp u) := by
    intro a2 t u v hne
    simp [Act.put, Act.eval, Array.getElem?_setIfInBounds_ne hne]
  have hsize : ∀ (a2 : Act) (t : Nat) (v : Value), (a2.put (some t) v).tmps.size = a2.tmps.size := by
    intro a2 t v; simp [Act.put]
  -- the rounds
  have loop : ∀ (n : Nat) (js : List Nat) (done : List Value) (seen : Array Nat) (ρn : Rho) (wn : World) (an : Act) (frn : Fr) (hn : Heap), es.size - js.length = n → js.Nodup → (∀ j ∈ js, j < es.size) →
      seen.toList = js.map (fun j => (es[j]?.map (·.born)).getD 0) → done = js.map (fun j => (L[j]?.map (·.1)).getD undef) → Inv done frn hn → Rep C.G ρn wn.heap hn → Step ρ w h ρn wn hn → FrR ρn nt an.tmps frn → DefR lo wn an.defers →
      Iter ρn wn hn m (hsz h) gm ⟨w.heap.size, 0, 0, 0⟩ es clock seen →
      ∃ (o : Out) (f2 : Fr) (h2 : Heap), Q o f2 h2 ∧ ∃ (ρ' : Rho) (w' : World) (a' : Act), Rep C.G ρ' w'.heap h2 ∧ Step ρ w h ρ' w' h2 ∧ FrR ρ' nt a'.tmps f2 ∧ DefR lo w' a'.defers ∧
        ArrivesIn (Machine.fenced C.P Fence.wide) C.P (lone (b.atR an (.code B :: .inLoop B :: .inBlock idB :: tl)) cs wn) b k cs (outE o) a' w' := by
    intro n
    induction n using Nat.strongRecOn with
    | ind n ih =>
    intro js done seen ρn wn an frn hn hcount hnd hlt hseen hdone hInv Rn Sn hfn hdn In
    have hft := hti done frn hn hInv
    have hti' : an.eval (.tmp ti) = .pointer (some ⟨w.heap.size, 0, none⟩) := by
      have hv := hfn.2 ti
      rw [hft.1] at hv
      show an.tmps.getD ti undef = _
      generalize an.tmps.getD ti undef = c at hv
      cases hv with
      | ptr hi =>
        rw [In.ii] at hi; cases hi
        rfl
    have hant : an.tmps.size = nt := hfn.1
    -- what is seen, and what is left
    have hseenmem : ∀ j (hj : j < es.size), es[j].born ∈ seen.toList ↔ j ∈ js := by
      intro j hj
      rw [hseen]
      simp only [List.mem_map]
      constructor
      · rintro ⟨j', hj', he⟩
        have hl' := hlt j' hj'
        rw [Array.getElem?_eq_getElem hl'] at he
        simp only [Option.map_some, Option.getD_some] at he
        have hnd2 := hborn.2
        unfold List.Nodup at hnd2
        rw [List.pairwise_iff_getElem] at hnd2
        rcases Nat.lt_trichotomy j' j with h1 | h1 | h1
        · exact (hnd2 j' j (by simpa using hl') (by simpa using hj) h1 (by simp only [List.getElem_map, Array.getElem_toList]; exact he)).elim
        · subst h1; exact hj'
        · exact (hnd2 j j' (by simpa using hj) (by simpa using hl') h1 (by simp only [List.getElem_map, Array.getElem_toList]; exact he.symm)).elim
      · intro hm
        exact ⟨j, hm, by rw [Array.getElem?_eq_getElem hj]; rfl⟩
    have hLlen : L.length = es.size := by have := hmr.length; simpa using this.symm
    have pre : StepsIn (Machine.fenced C.P Fence.wide) C.P (lone (b.atR an (.code B :: .inLoop B :: .inBlock idB :: tl)) cs wn)
        (lone (b.atR an (.inRegion #[o3, o4] (List.range 2) :: .code (.seq (.cond (.tmp tb) .skip (.exit idB)) (.block idC (.seq (.region i19 #[o5, o6, o7] false) body))) :: .inLoop B :: .inBlock idB :: tl)) cs wn) := by
      have : lone (b.atR an (.code B :: .inLoop B :: .inBlock idB :: tl)) cs wn = lone (b.atR an (.code (.seq (.region i18 #[o3, o4] false) (.seq (.cond (.tmp tb) .skip (.exit idB)) (.block idC (.seq (.region i19 #[o5, o6, o7] false) body)))) :: .inLoop B :: .inBlock idB :: tl)) cs wn := by rw [hB]
      rw [this]
      exact (StepsIn.one (fenced_wide _ _) stepR_seq).trans (.one (fenced_wide _ _) stepR_region)
    rcases run_next_at (P := C.P) wn o3.type w.heap.size gm.blk clock clock seen es clock In.iter In.map hborn.1 (Nat.le_refl _) with ⟨hleft, hrun⟩ | ⟨e, hel, w2, hw2, hrun⟩
    · -- nothing is left
      obtain ⟨a2, ha2⟩ : ∃ a2 : Act, a2 = (an.put (some tn) (.tuple #[.bool false])).put (some tb) (.bool false) := ⟨_, rfl⟩
      have hwp : wpOpsIn Fence.wide 0 C.P #[o3, o4] (fun e a' w' => e = .normal ∧ a' = a2 ∧ w' = wn) (List.range 2) an wn := by
        refine wpOps_step (o := o3) rfl g3 (wp_value (v := .tuple #[.bool false]) (w' := wn) (fun c hc => by rw [e3] at hc; cases hc) ?_ ?_)
        · unfold execOp; rw [e3]; simp only [hti', Sem.run_bind, hrun, Result.andThen_ok, Sem.run_pure]
        · rw [d3]
          refine wpOps_step (o := o4) rfl g4 (wp_value (v := .bool false) (w' := wn) (fun c hc => by rw [e4] at hc; cases hc) (hextract _ _ e4 (hget an tn _ (by rw [hant]; exact lt3)) rfl) ?_)
          rw [d4]
          simp only [wpOpsIn]
          exact ⟨trivial, ha2.symm, trivial⟩
      obtain ⟨_, x1, x2, ⟨rfl, y1, y2⟩, harr⟩ := wp_opsIn _ an wn hwp b (.code (.seq (.cond (.tmp tb) .skip (.exit idB)) (.block idC (.seq (.region i19 #[o5, o6, o7] false) body))) :: .inLoop B :: .inBlock idB :: tl) cs hro trivial (room_wide _)
      rw [y1, y2] at harr
      have hf2 : FrR ρn nt a2.tmps (fset (fset frn tn (.tuple #[.bool false])) tb (.bool false)) := by
        rw [ha2]
        have q := hfn.put (d := some tn) (v := .tuple #[.bool false]) (vc := .tuple #[.bool false]) (.tuple (.cons (.bool _) .nil)) (fun t ht => by cases ht; exact lt3)
        exact q.put (a := an.put (some tn) (.tuple #[.bool false])) (d := some tb) (v := .bool false) (vc := .bool false) (.bool _) (fun t ht => by cases ht; exact lt4)
      -- all places are seen
      have hall : ∀ j, j < es.size → j ∈ js := by
        intro j hj
        rw [← hseenmem j hj]
        apply Classical.byContradiction
        intro hns
        have : es[j] ∈ leftOf es seen := by
          unfold leftOf
          rw [Array.mem_filter]
          refine ⟨Array.getElem_mem hj, ?_⟩
          rw [Bool.not_eq_true', ← Bool.not_eq_true, Array.contains_iff_mem]
          exact fun hh => hns (Array.mem_def.1 hh)
        have h0 : leftOf es seen = #[] := Array.eq_empty_of_size_eq_zero hleft
        rw [h0] at this
        simp at this
      have hperm : done.Perm (L.map (·.1)) := by
        have p1 : js.Perm (List.range es.size) := by
          rw [List.perm_ext_iff_of_nodup hnd List.nodup_range]
          intro j
          rw [List.mem_range]
          exact ⟨hlt j, hall j⟩
        have p2 := p1.map (fun j => (L[j]?.map (·.1)).getD undef)
        rw [← hdone] at p2
        have : (List.range es.size).map (fun j => (L[j]?.map (·.1)).getD undef) = L.map (·.1) := by
          apply List.ext_getElem
          · simp [hLlen]
          · intro i h1 h2
            simp only [List.length_map] at h2
            simp [List.getElem?_eq_getElem h2]
        rwa [this] at p2
      have hwk : Rep C.G ρn wn.heap (hput hn m (.map L)) := Rn.wake In.im hft.2 In.am ⟨es, clock, In.map, hmr.mono Sn.sub, hborn⟩
      have hSw : Step ρ w h ρn wn (hput hn m (.map L)) := by
        refine { Sn with own := fun i b' hi hb' ho' => ?_, dead := fun i b' hi hb' hd' => ?_, hsize := by rw [hsz_put]; exact Sn.hsize, new := Sn.new, tot := fun i h1 h2 => Sn.tot i h1 (by rwa [hsz_put] at h2) }
        · rw [hget_put] at hb'
          split at hb'
          · rename_i hi'
            exact ⟨_, by rw [hi']; exact hm, rfl⟩
          · exact Sn.own i b' hi hb' ho'
        · rw [hget_put] at hb'
          split at hb'
          · rename_i hi'
            exact ⟨_, by rw [hi']; exact hm, rfl⟩
          · exact Sn.dead i b' hi hb' hd'
      obtain ⟨oQ, fQ, hpQ, hQ, ρ5, w5, a5, z1, z2, z3, z4, _, z6⟩ := hend done frn hn hperm hInv hoK Fence.wide (.inl rfl) (fun _ => rfl) ρn wn a2 lo hwk hf2 (by rw [ha2, Act.put_defers', Act.put_defers']; exact hdn) b k cs hro
      refine ⟨oQ, fQ, hpQ, hQ, ρ5, w5, a5, z1, Step.trans R hSw z2, z3, z4, ?_⟩
      refine .of_steps pre (.of_steps harr ?_)
      have htb : a2.eval (.tmp tb) = .bool false := by rw [ha2]; exact hget _ tb _ (by rw [hsize, hant]; exact lt4)
      refine .of_steps ((StepsIn.one (fenced_wide _ _) stepR_seq).trans ((StepsIn.one (fenced_wide _ _) (stepR_cond (t := false) htb)).trans (.one (fenced_wide _ _) (stepR_exit (k' := tl) ?_)))) ?_
      · simp [exitTo]
      · rw [htl]; exact z6
    · -- one entry more
      have hemem : e ∈ es ∧ e.born ∉ seen.toList := by
        have : e ∈ leftOf es seen := by simpa using hel
        unfold leftOf at this
        rw [Array.mem_filter] at this
        refine ⟨this.1, fun hh => ?_⟩
        have h2 := this.2
        rw [Bool.not_eq_true', ← Bool.not_eq_true, Array.contains_iff_mem] at h2
        exact h2 (Array.mem_def.2 hh)
      obtain ⟨j, hj, hje⟩ := Array.getElem_of_mem hemem.1
      have hjn : j ∉ js := fun hh => hemem.2 (by rw [← hje]; exact (hseenmem j hj).2 hh)
      obtain ⟨key, val, hL, hvk, hvv⟩ := MapR.get (hmr.mono Sn.sub) (j := j) (e := e) (by rw [Array.getElem?_toList, Array.getElem?_eq_getElem hj, hje])
      -- the world behind the step
      have hw2h : w2.heap = wn.heap := by rcases hw2 with rfl | rfl <;> rfl
      obtain ⟨w3, hw3⟩ : ∃ w3 : World, w3 = Go.ChangeMaps.setBlock w2 w.heap.size (.mapIter (some gm.blk) clock (seen.push e.born) clock) := ⟨_, rfl⟩
      rw [← hw3] at hrun
      have hh3 : w3.heap = wn.heap.setIfInBounds w.heap.size (.mapIter (some gm.blk) clock (seen.push e.born) clock) := by rw [hw3]; unfold Go.ChangeMaps.setBlock; rw [hw2h]
      have hilt : w.heap.size < wn.heap.size := (Array.getElem?_eq_some_iff.1 In.iter).1
      have hk3 : ∀ q, q ≠ w.heap.size → w3.heap[q]? = wn.heap[q]? := fun q hq => by rw [hh3, Array.getElem?_setIfInBounds_ne (Ne.symm hq)]
      have R3 : Rep C.G ρn w3.heap hn := Rn.turn In.ai (by rw [hh3]; simp) hk3
      have hos3 : w3.os = wn.os ∧ w3.tape = wn.tape ∧ w3.output = wn.output := by rw [hw3]; rcases hw2 with rfl | rfl <;> exact ⟨rfl, rfl, rfl⟩
      have S3 : Step ρ w h ρn w3 hn := { Sn with
        size := by rw [hh3]; simpa using Sn.size
        keep := fun q hq hkq => by rw [hk3 q (by omega)]; exact Sn.keep q hq hkq
        os := hos3.1.trans Sn.os
        tape := hos3.2.1.trans Sn.tape
        output := hos3.2.2.trans Sn.output }
      have I3 : Iter ρn w3 hn m (hsz h) gm ⟨w.heap.size, 0, 0, 0⟩ es clock (seen.push e.born) :=
        ⟨In.im, In.ii, rfl, (hk3 _ In.ne).trans In.map, by simp only; rw [hh3]; simp [hilt], In.am, In.ai, In.ne⟩
      obtain ⟨a2, ha2⟩ : ∃ a2 : Act, a2 = (an.put (some tn) (.tuple #[.bool true, e.key, e.val])).put (some tb) (.bool true) := ⟨_, rfl⟩
      have hwp : wpOpsIn Fence.wide 0 C.P #[o3, o4] (fun e a' w' => e = .normal ∧ a' = a2 ∧ w' = w3) (List.range 2) an wn := by
        refine wpOps_step (o := o3) rfl g3 (wp_value (v := .tuple #[.bool true, e.key, e.val]) (w' := w3) (fun c hc => by rw [e3] at hc; cases hc) ?_ ?_)
        · unfold execOp; rw [e3]; simp only [hti', Sem.run_bind, hrun, Result.andThen_ok, Sem.run_pure]
        · rw [d3]
          refine wpOps_step (o := o4) rfl g4 (wp_value (v := .bool true) (w' := w3) (fun c hc => by rw [e4] at hc; cases hc) (hextract _ _ e4 (hget an tn _ (by rw [hant]; exact lt3)) rfl) ?_)
          rw [d4]
          simp only [wpOpsIn]
          exact ⟨trivial, ha2.symm, trivial⟩
      obtain ⟨_, x1, x2, ⟨rfl, y1, y2⟩, harr⟩ := wp_opsIn _ an wn hwp b (.code (.seq (.cond (.tmp tb) .skip (.exit idB)) (.block idC (.seq (.region i19 #[o5, o6, o7] false) body))) :: .inLoop B :: .inBlock idB :: tl) cs hro trivial (room_wide _)
      rw [y1, y2] at harr
      have hf2 : FrR ρn nt a2.tmps (fset (fset frn tn (.tuple #[.bool true, key, val])) tb (.bool true)) := by
        rw [ha2]
        have q := hfn.put (d := some tn) (v := .tuple #[.bool true, key, val]) (vc := .tuple #[.bool true, e.key, e.val]) (.tuple (.cons (.bool _) (.cons hvk (.cons hvv .nil)))) (fun t ht => by cases ht; exact lt3)
        exact q.put (a := an.put (some tn) (.tuple #[.bool true, e.key, e.val])) (d := some tb) (v := .bool true) (vc := .bool true) (.bool _) (fun t ht => by cases ht; exact lt4)
      have htb : a2.eval (.tmp tb) = .bool true := by rw [ha2]; exact hget _ tb _ (by rw [hsize, hant]; exact lt4)
      have hti2 : a2.eval (.tmp ti) = .pointer (some ⟨w.heap.size, 0, none⟩) := by rw [ha2, hgetne _ _ _ _ (Ne.symm hne.2), hgetne _ _ _ _ (Ne.symm hne.1)]; exact hti'
      -- the key
      obtain ⟨a3, ha3⟩ : ∃ a3 : Act, a3 = ((a2.put (some te) (.tuple #[e.key, e.val])).put (some tk) e.key).put (some tv) e.key := ⟨_, rfl⟩
      have hs2 : a2.tmps.size = nt := hf2.1
      have hentry := run_entry_at (P := C.P) w3 w.heap.size gm.blk clock seen es clock e I3.iter I3.map (by simpa using hemem.1) hborn.2
      have hwp2 : wpOpsIn Fence.wide 0 C.P #[o5, o6, o7] (fun e a' w' => e = .normal ∧ a' = a3 ∧ w' = w3) (List.range 3) a2 w3 := by
        refine wpOps_step (o := o5) rfl g5 (wp_value (v := .tuple #[e.key, e.val]) (w' := w3) (fun c hc => by rw [e5] at hc; cases hc) ?_ ?_)
        · unfold execOp; rw [e5]; simp only [hti2, Sem.run_bind, hentry, Result.andThen_ok, Sem.run_pure]
        · rw [d5]
          refine wpOps_step (o := o6) rfl g6 (wp_value (v := e.key) (w' := w3) (fun c hc => by rw [e6] at hc; cases hc) (hextract _ _ e6 (hget a2 te _ (by rw [hs2]; exact lt5)) rfl) ?_)
          rw [d6]
          refine wpOps_step (o := o7) rfl g7 (wp_value (v := e.key) (w' := w3) (fun c hc => by rw [e7] at hc; cases hc) ?_ ?_)
          · unfold execOp; rw [e7]; simp only [hget _ tk _ (show tk < (a2.put (some te) (.tuple #[e.key, e.val])).tmps.size by rw [hsize, hs2]; exact lt6), Sem.run_pure]
          · rw [d7]
            simp only [wpOpsIn]
            exact ⟨trivial, ha3.symm, trivial⟩
      obtain ⟨_, x3, x4, ⟨rfl, y3, y4⟩, harr2⟩ := wp_opsIn _ a2 w3 hwp2 b (.code body :: .inBlock idC :: .inLoop B :: .inBlock idB :: tl) cs hro trivial (room_wide _)
      rw [y3, y4] at harr2
      have hf3 : FrR ρn nt a3.tmps (fset (fset (fset (fset (fset frn tn (.tuple #[.bool true, key, val])) tb (.bool true)) te (.tuple #[key, val])) tk key) tv key) := by
        rw [ha3]
        have q1 := hf2.put (d := some te) (v := .tuple #[key, val]) (vc := .tuple #[e.key, e.val]) (.tuple (.cons hvk (.cons hvv .nil))) (fun t ht => by cases ht; exact lt5)
        have q2 := q1.put (a := a2.put (some te) (.tuple #[e.key, e.val])) (d := some tk) (v := key) (vc := e.key) hvk (fun t ht => by cases ht; exact lt6)
        exact q2.put (a := (a2.put (some te) (.tuple #[e.key, e.val])).put (some tk) e.key) (d := some tv) (v := key) (vc := e.key) hvk (fun t ht => by cases ht; exact lt7)
      have hle : (j :: js).length ≤ es.size := by
        have hnd' : (j :: js).Nodup := List.nodup_cons.2 ⟨hjn, hnd⟩
        have hsub : (j :: js) ⊆ List.range es.size := fun q hq => by
          simp only [List.mem_cons] at hq
          rcases hq with rfl | hq
          · simpa using hj
          · simpa using hlt q hq
        have := List.Nodup.length_le_of_subset hnd' hsub
        simpa using this
      obtain ⟨fr4, h4, hsem, hInv4⟩ := hbody done frn hn key val (List.mem_of_getElem? hL) (by rw [hdone, List.length_map]; simp only [List.length_cons] at hle; omega) hInv
      have hdef3 : DefR lo w3 a3.defers := by
        rw [ha3, ha2]
        simp only [Act.put_defers']
        obtain ⟨d0, bs, d1, d2, d3⟩ := hdn
        refine ⟨by rw [hh3]; simpa using d0, bs, d1, d2, fun Dd hD => ⟨(d3 Dd hD).1, ?_⟩⟩
        rw [hk3 Dd (fun hq => ?_)]
        · exact (d3 Dd hD).2
        · have := (d3 Dd hD).2
          rw [hq, In.iter] at this; cases this
      obtain ⟨ρ4, w4, a4, z1, z2, z3, z4, _, z6⟩ := hsem (by simp only [okItems, List.all_cons, List.all_nil, Bool.and_true, okItem]; exact hob) Fence.wide (.inl rfl) (fun _ => rfl) ρn w3 a3 lo R3 hf3 hdef3 b (.inBlock idC :: .inLoop B :: .inBlock idB :: tl) cs hro
      obtain ⟨oQ, fQ, hpQ, hQ, ρ5, w5, a5, v1, v2, v3, v4, v5⟩ := ih (es.size - (j :: js).length) (by
          simp only [List.length_cons] at hle ⊢
          omega) (js ++ [j]) (done ++ [key]) (seen.push e.born) ρ4 w4 a4 fr4 h4 (by simp) (by
            rw [List.nodup_append]
            exact ⟨hnd, by simp, fun a' ha' b' hb' => by simp at hb'; subst hb'; exact fun he => hjn (he ▸ ha')⟩) (fun q hq => by
              simp only [List.mem_append, List.mem_singleton] at hq
              rcases hq with hq | rfl
              · exact hlt q hq
              · exact hj) (by rw [Array.toList_push, hseen, List.map_append]; simp [Array.getElem?_eq_getElem hj, hje]) (by rw [hdone, List.map_append]; simp [hL]) hInv4 z1 (Step.trans R S3 z2) z3 z4 (I3.step R3 z2)
      refine ⟨oQ, fQ, hpQ, hQ, ρ5, w5, a5, v1, v2, v3, v4, ?_⟩
      refine .of_steps pre (.of_steps harr ?_)
      refine .of_steps ((StepsIn.one (fenced_wide _ _) stepR_seq).trans ((StepsIn.one (fenced_wide _ _) (stepR_cond (t := true) htb)).trans ((StepsIn.one (fenced_wide _ _) stepR_skip).trans ((StepsIn.one (fenced_wide _ _) stepR_block).trans ((StepsIn.one (fenced_wide _ _) stepR_seq).trans (.one (fenced_wide _ _) stepR_region)))))) ?_
      refine .of_steps harr2 (.of_steps z6 ?_)
      exact .of_steps ((StepsIn.one (fenced_wide _ _) stepR_inBlock).trans (.one (fenced_wide _ _) stepR_inLoop)) v5
  obtain ⟨oQ, fQ, hpQ, hQ, ρ', w', a', k1, k2, k3, k4, k5⟩ := loop es.size [] [] #[] _ w1 a1 _ _ (by simp) (by simp) (by simp) rfl rfl h0 RB S1 hf1 (by rw [ha1, Act.put_defers', Act.put_defers']; exact hd.step R S1) I1
  refine ⟨oQ, fQ, hpQ, hQ, ρ', w', a', k1, k2, k3, k4, fun hh => (by cases hh), ?_⟩
  have s1 : StepsIn (Machine.fenced C.P Fence.wide) C.P (lone (b.atR a ((.code (mapCode i17 i18 i19 idB idC tb o1 o2 o3 o4 o5 o6 o7 body) :: K).map conc ++ k)) cs w) (lone (b.atR a (.inRegion #[o1, o2] (List.range 2) :: .code (.block idB (.loop B)) :: tl)) cs w) := by
    have e : ((AItem.code (mapCode i17 i18 i19 idB idC tb o1 o2 o3 o4 o5 o6 o7 body) :: K).map conc ++ k) = .code (.seq (.region i17 #[o1, o2] false) (.block idB (.loop B))) :: tl := by
      rw [htl, hB]; rfl
    rw [e]
    exact (StepsIn.one (fenced_wide _ _) stepR_seq).trans (.one (fenced_wide _ _) stepR_region)
  refine .of_steps s1 (.of_steps harr1 (.of_steps (StepsIn.trans (.one (fenced_wide _ _) stepR_block) (.one (fenced_wide _ _) stepR_loop)) k5))

/-- One part, then the rest. -/
theorem SemI.andThen {nt : Nat} {todo K : List AItem} {fr fr1 : Fr} {h h1 : Heap} {r : Out × Fr × Heap} (s1 : SemI C false nt todo fr h (.normal, fr1, h1)) (s2 : SemI C false nt K fr1 h1 r) : SemI C false nt (todo ++ K) fr h r := by
  intro ho F hF hr ρ w a lo R hf hd b k cs hro
  simp only [okItems, List.all_append, Bool.and_eq_true] at ho
  obtain ⟨ρ1, w1, a1, k1, k2, k3, k4, _, k6⟩ := s1 ho.1 F hF hr ρ w a lo R hf hd b (K.map conc ++ k) cs hro
  obtain ⟨ρ2, w2, a2, g1, g2, g3, g4, _, g6⟩ := s2 ho.2 F hF hr ρ1 w1 a1 lo k1 k3 k4 b k cs hro
  refine ⟨ρ2, w2, a2, g1, Step.trans R k2 g2, g3, g4, fun hh => (by cases hh), ?_⟩
  have e : (todo ++ K).map conc ++ k = todo.map conc ++ (K.map conc ++ k) := by rw [List.map_append, List.append_assoc]
  rw [e]
  exact .of_steps k6 g6

theorem SemI.seqs {nt : Nat} {A B : Code} {K : List AItem} {fr fr1 : Fr} {h h1 : Heap} {r : Out × Fr × Heap} (s1 : SemI C false nt [.code A] fr h (.normal, fr1, h1)) (s2 : SemI C false nt (.code B :: K) fr1 h1 r) : SemI C false nt (.code (.seq A B) :: K) fr h r := by
  refine SemI.head (todo' := .code A :: .code B :: K) (fun ho => ?_) (fun _ ρ w a b k cs _ _ => stepR_seq) (SemI.andThen (todo := [.code A]) s1 s2)
  simp only [okItems_cons, okItem, okCode, Bool.and_eq_true] at ho ⊢
  exact ⟨ho.1.1, ho.1.2, ho.2⟩

/-- The two parts of a pair are one after the other. -/
theorem SemI.assoc {nt : Nat} {A B : Code} {K : List AItem} {fr : Fr} {h : Heap} {r : Out × Fr × Heap} (s : SemI C false nt (.code A :: .code B :: K) fr h r) : SemI C false nt (.code (.seq A B) :: K) fr h r := by
  refine SemI.head (todo' := .code A :: .code B :: K) (fun ho => ?_) (fun _ ρ w a b k cs _ _ => stepR_seq) s
  simp only [okItems_cons, okItem, okCode, Bool.and_eq_true] at ho ⊢
  exact ⟨ho.1.1, ho.1.2, ho.2⟩

theorem SemQ.andThen {nt : Nat} {todo K : List AItem} {fr fr1 : Fr} {h h1 : Heap} {Q : Out → Fr → Heap → Prop} (s1 : SemI C false nt todo fr h (.normal, fr1, h1)) (s2 : SemQ C false nt K fr1 h1 Q) : SemQ C false nt (todo ++ K) fr h Q := by
  intro ho F hF hr ρ w a lo R hf hd b k cs hro
  simp only [okItems, List.all_append, Bool.and_eq_true] at ho
  obtain ⟨ρ1, w1, a1, k1, k2, k3, k4, _, k6⟩ := s1 ho.1 F hF hr ρ w a lo R hf hd b (K.map conc ++ k) cs hro
  obtain ⟨o2, f2, h2, hQ, ρ2, w2, a2, g1, g2, g3, g4, _, g6⟩ := s2 ho.2 F hF hr ρ1 w1 a1 lo k1 k3 k4 b k cs hro
  refine ⟨o2, f2, h2, hQ, ρ2, w2, a2, g1, Step.trans R k2 g2, g3, g4, fun hh => (by cases hh), ?_⟩
  have e : (todo ++ K).map conc ++ k = todo.map conc ++ (K.map conc ++ k) := by rw [List.map_append, List.append_assoc]
  rw [e]
  exact .of_steps k6 g6

theorem SemQ.assoc {nt : Nat} {A B : Code} {K : List AItem} {fr : Fr} {h : Heap} {Q : Out → Fr → Heap → Prop} (s : SemQ C false nt (.code A :: .code B :: K) fr h Q) : SemQ C false nt (.code (.seq A B) :: K) fr h Q := by
  intro ho F hF hr ρ w a lo R hf hd b k cs hro
  have ho' : okItems nt C.G (.code A :: .code B :: K) = true := by
    simp only [okItems_cons, okItem, okCode, Bool.and_eq_true] at ho ⊢
    exact ⟨ho.1.1, ho.1.2, ho.2⟩
  obtain ⟨o2, f2, h2, hQ, ρ2, w2, a2, g1, g2, g3, g4, g5, g6⟩ := s ho' F hF hr ρ w a lo R hf hd b k cs hro
  have hw := hr rfl
  subst hw
  refine ⟨o2, f2, h2, hQ, ρ2, w2, a2, g1, g2, g3, g4, g5, .of_steps (.one (fenced_wide _ _) stepR_seq) g6⟩

theorem SemQ.mono {rnd : Bool} {nt : Nat} {todo : List AItem} {fr : Fr} {h : Heap} {Q Q' : Out → Fr → Heap → Prop} (s : SemQ C rnd nt todo fr h Q) (hq : ∀ o f h, Q o f h → Q' o f h) : SemQ C rnd nt todo fr h Q' := by
  intro ho F hF hr ρ w a lo R hf hd b k cs hro
  obtain ⟨o2, f2, h2, hQ, g⟩ := s ho F hF hr ρ w a lo R hf hd b k cs hro
  exact ⟨o2, f2, h2, hq _ _ _ hQ, g⟩

end
end Gl
end
