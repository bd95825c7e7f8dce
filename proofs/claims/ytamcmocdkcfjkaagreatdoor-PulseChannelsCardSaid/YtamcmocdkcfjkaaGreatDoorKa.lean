/-
  A deterministic evaluator over the model's own code, on an abstract memory: the definitions.
-/
import Derived.CallsIn
import Derived.OrdersIn
import Derived.KernelRfl
import Derived.Laws.Cells
import Derived.Below
import Derived.Laws.Build
set_option linter.all false
/- A deterministic evaluator over the model's own code, on an abstract memory: the definitions. -/
section
namespace Gl
open Go

/-- The cap of an abstract slice that reaches to the end of its row. -/
@[irreducible] def FULL : Nat := 2 ^ 64
/-- The cap of an abstract empty slice of which the place is not known. -/
@[irreducible] def ANY : Nat := 2 ^ 65

abbrev Fr := Nat → Value

/-- A frame out of a list. -/
def toFr (l : List Value) : Fr := fun j => l.getD j undef

/-- An abstract block. -/
inductive Blk where
  /-- cells; 'esz': of so many cells is an element; 'rw': nobody else owns it; 'full': the row has no further cells. -/
  | cells (c : List Value) (esz : Nat) (rw full : Bool)
  | map (es : List (Value × Value))
  | siter (s : ByteArray) (pos : Nat)
  | loop (st : LoopState) (pend : Option Code) (nt : Nat) (fr : List Value) (ps : List Nat) (assign body : Code)
  /-- some whole number, nobody's own -/
  | anyInt
  /-- a whole row of plain values, nobody's own -/
  | table (c : List Value)
  | dead

abbrev Heap := List Blk

def hsz (h : Heap) : Nat := h.length
def hget (h : Heap) (i : Nat) : Option Blk := h[i]?
def hpush (h : Heap) (b : Blk) : Heap := h ++ [b]
def hput (h : Heap) (i : Nat) (b : Blk) : Heap := h.set i b

def fset (fr : Fr) (t : Nat) (v : Value) : Fr := fun j => if j = t then v else fr j
def fput (fr : Fr) (d : Option Nat) (v : Value) : Fr := match d with | some t => fset fr t v | none => fr

/-- A function value without an address. -/
def plainFn : Fn → Bool
  | .yield _ => false
  | _ => true

/-- A value without an address in it (a fuel for nesting). -/
def plainD : Nat → Value → Bool
  | 0, _ => false
  | n + 1, v => match v with
    | .bool _ | .int _ _ | .float _ _ | .complex _ _ _ | .string _ | .nilFunc | .nilIface => true
    | .pointer a => a.isNone
    | .slice a _ _ => a.isNone
    | .map r => r.isNone
    | .chan r => r.isNone
    | .func fn x c => plainFn fn && x.toList.all (plainD n) && c.toList.all (plainD n)
    | .iface _ v => plainD n v
    | .agg cs => cs.toList.all (plainD n)
    | .tuple vs => vs.toList.all (plainD n)
def plain (v : Value) : Bool := plainD 20 v

def feval (fr : Fr) : Operand → Value
  | .tmp t => fr t
  | .const v => v
  | .global g => .pointer (some ⟨g, 0, none⟩)
  | .func f => .func (.func f) #[] #[]

/-- What the evaluator asks of a type. -/
structure TI where
  u : TypeDesc
  sz : Nat
  zero : Option Value
  bytes : Nat

def TI.isAgg (t : TI) : Bool := match t.u with | .struct _ | .array _ _ => true | _ => false

def tinfo (P : Program) (t : TypeId) : Option TI :=
  match P.info? t, P.underlying t with
  | some i, some u => some ⟨u, i.size, i.zero, i.bytes⟩
  | _, _ => none

/-- A run that asks nothing of the world. -/
def pureRun {α : Type} (P : Program) : Sem α → Option α
  | .pure a => some a
  | .program k => pureRun P (k P)
  | .mark _ k => pureRun P k
  | _ => none

/-- Its value, if there is no address in it. -/
def pureV (P : Program) (s : Sem Value) : Option Value :=
  match pureRun P s with
  | some v => if plain v then some v else none
  | none => none

/-! ### Memory -/

def readCells (h : Heap) (i off n : Nat) : Option (List Value) :=
  match hget h i with
  | some (.cells c _ _ _) => if off + n ≤ c.length then some ((c.drop off).take n) else none
  | _ => none

/-- Cells 'new' in place of those from 'off' on. -/
def splice (c : List Value) (off : Nat) (new : List Value) : List Value := c.take off ++ new ++ c.drop (off + new.length)

def writeCells (h : Heap) (i off : Nat) (new : List Value) : Option Heap :=
  match hget h i with
  | some (.cells c e true full) => if off + new.length ≤ c.length then some (hput h i (.cells (splice c off new) e true full)) else none
  | _ => none

def loadT (t : TI) (h : Heap) (i off : Nat) : Option Value :=
  if t.isAgg then (readCells h i off t.sz).map fun l => .agg l.toArray
  else match readCells h i off 1 with
    | some [v] => some v
    | _ => none

def aload (P : Program) (h : Heap) (t : TypeId) (a : Value) : Option Value :=
  match tinfo P t, a with
  | some ti, .pointer (some ⟨i, off, none⟩) => loadT ti h i off
  | _, _ => none

def cellsV (v : Value) : List Value := v.cells.toList

def isCell : Value → Bool
  | .agg _ => false
  | .tuple _ => false
  | _ => true

def astore (P : Program) (h : Heap) (t : TypeId) (a v : Value) : Option Heap :=
  match tinfo P t, a with
  | some ti, .pointer (some ⟨i, off, none⟩) =>
    if (cellsV v).length = ti.sz ∧ (cellsV v).all isCell = true then writeCells h i off (cellsV v) else none
  | _, _ => none

/-- A new variable, or row. -/
def anew (h : Heap) (c : List Value) : Value × Heap := (.pointer (some ⟨hsz h, 0, none⟩), hpush h (.cells c c.length true true))

def fillA (place : Nat → Option (Nat × Nat)) (cells : List Value) : List (Nat × Value) → Option (List Value)
  | [] => some cells
  | (i, v) :: rest =>
    match place i with
    | none => none
    | some (off, size) =>
      if (cellsV v).length ≠ size ∨ off + (cellsV v).length > cells.length then none
      else fillA place (splice cells off (cellsV v)) rest

def fieldPlaces (P : Program) (fs : Array Go.Field) (i : Nat) : Option (Nat × Nat) :=
  match fs[i]? with
  | some f => (tinfo P f.type).map fun t => (f.offset, t.sz)
  | none => none

def abuild (P : Program) (t : TypeId) (parts : List (Nat × Value)) : Option Value :=
  match tinfo P t with
  | some ti => match ti.zero, ti.u with
    | some z, .struct fs => if plain z && fs.toList.all (fun f => (tinfo P f.type).isSome) then (fillA (fieldPlaces P fs) (cellsV z) parts).map fun l => .agg l.toArray else none
    | some z, .array _ e => match tinfo P e with
      | some te => if plain z then (fillA (fun i => some (i * te.sz, te.sz)) (cellsV z) parts).map fun l => .agg l.toArray else none
      | none => none
    | _, _ => none
  | none => none

def zerosA (z : List Value) (n : Nat) : List Value := (List.replicate n z).flatten

def abuildSlice (P : Program) (h : Heap) (t : TypeId) (len : Nat) (parts : List (Nat × Value)) : Option (Value × Heap) :=
  match tinfo P t with
  | some ti => match ti.u with
    | .slice e => match tinfo P e with
      | some te => match te.zero with
        | some z =>
          if plain z = true ∧ te.sz = (cellsV z).length ∧ 0 < te.sz ∧ len * te.sz ≤ 2 ^ 24 then
            match fillA (fun i => some (i * te.sz, te.sz)) (zerosA (cellsV z) len) parts with
            | some l => if l.all isCell then some (.slice (some ⟨hsz h, 0, none⟩) len FULL, hpush h (.cells l te.sz true true)) else none
            | none => none
          else none
        | none => none
      | none => none
    | _ => none
  | none => none

def apart (t : TI) (cs : List Value) (off : Nat) : Option Value :=
  if t.isAgg then (if off + t.sz ≤ cs.length then some (.agg ((cs.drop off).take t.sz).toArray) else none)
  else cs[off]?

def afield (P : Program) (t : TypeId) (x : Value) (f : Nat) : Option Value :=
  match tinfo P t, x with
  | some ti, .agg cs => match ti.u with
    | .struct fs => match fs[f]? with
      | some fd => match tinfo P fd.type with
        | some tf => apart tf cs.toList fd.offset
        | none => none
      | none => none
    | _ => none
  | _, _ => none

def aindex (P : Program) (t : TypeId) (x i : Value) : Option Value :=
  match tinfo P t, x, i with
  | some ti, .agg cs, .int _ n => match ti.u with
    | .array len e => match tinfo P e with
      | some te => if 0 ≤ n ∧ n < len then apart te cs.toList (n.toNat * te.sz) else none
      | none => none
    | _ => none
  | some ti, .string s, .int _ n => match ti.u with
    | .string => if 0 ≤ n then (s[n.toNat]?).map fun b => .int .u8 b.toNat else none
    | _ => none
  | _, _, _ => none

def afieldAddr (P : Program) (t : TypeId) (a : Value) (f : Nat) : Option Value :=
  match tinfo P t, a with
  | some ti, .pointer (some ⟨i, off, none⟩) => match ti.u with
    | .struct fs => match fs[f]? with
      | some fd => match tinfo P fd.type with
        | some tf => if 0 < tf.sz then some (.pointer (some ⟨i, off + fd.offset, none⟩)) else none
        | none => none
      | none => none
    | _ => none
  | _, _ => none

def aindexAddr (P : Program) (t : TypeId) (x ix : Value) : Option Value :=
  match tinfo P t, x, ix with
  | some ti, .pointer (some ⟨i, off, none⟩), .int _ n => match ti.u with
    | .array len e => match tinfo P e with
      | some te => if 0 ≤ n ∧ n < len then some (.pointer (some ⟨i, off + n.toNat * te.sz, none⟩)) else none
      | none => none
    | _ => none
  | some ti, .slice (some ⟨i, off, none⟩) len cap, .int _ n => match ti.u with
    | .slice e => match tinfo P e with
      | some te => if 0 ≤ n ∧ n < len ∧ cap ≠ ANY then some (.pointer (some ⟨i, off + n.toNat * te.sz, none⟩)) else none
      | none => none
    | _ => none
  | _, _, _ => none

def amakeSlice (P : Program) (h : Heap) (t : TypeId) (l c : Value) : Option (Value × Heap) :=
  match tinfo P t, l, c with
  | some ti, .int _ l, .int _ c => match ti.u with
    | .slice e => match tinfo P e with
      | some te => match te.zero with
        | some z =>
          if plain z = true ∧ (cellsV z).all isCell = true ∧ te.sz = (cellsV z).length ∧ 0 < te.sz ∧ 0 ≤ l ∧ l ≤ c ∧ c < 2 ^ 32 ∧ te.bytes < 2 ^ 12 then
            some (.slice (some ⟨hsz h, 0, none⟩) l.toNat FULL, hpush h (.cells (zerosA (cellsV z) c.toNat) te.sz true true))
          else none
        | none => none
      | none => none
    | _ => none
  | _, _, _ => none

def optInt : Option Value → Option (Option Int)
  | none => some none
  | some (.int _ n) => some (some n)
  | some _ => none

/-- How many elements surely lie from an address on. -/
def avail (h : Heap) (i off sz : Nat) : Option Nat :=
  match hget h i with
  | some (.cells c esz _ _) => if esz = sz ∧ 0 < sz then some ((c.length - off) / sz) else none
  | _ => none

/-- A slice of a slice, of which the cap is surely 'A' or more (it is just A if 'known'). -/
def asliceS (i off sz : Nat) (A : Nat) (known : Bool) (len : Nat) (lo hi mx : Option Int) : Option Value :=
  let l := lo.getD 0
  let r := hi.getD len
  if 0 ≤ l ∧ l ≤ r ∧ r ≤ A then
    match mx with
    | some m => if r ≤ m ∧ m ≤ A then
        some (.slice (some ⟨i, (if m = l then off else off + l.toNat * sz), none⟩) (r - l).toNat (m - l).toNat) else none
    | none =>
      if known then some (.slice (some ⟨i, (if (A : Int) = l then off else off + l.toNat * sz), none⟩) (r - l).toNat (A - l.toNat))
      else if l < A then some (.slice (some ⟨i, off + l.toNat * sz, none⟩) (r - l).toNat FULL)
      else some (.slice (some ⟨i, off, none⟩) 0 ANY)
  else none

def aslice (P : Program) (h : Heap) (t : TypeId) (x : Value) (lo hi mx : Option Value) : Option Value :=
  match tinfo P t, x, optInt lo, optInt hi, optInt mx with
  | some ti, .string s, some lo, some hi, some none => match ti.u with
    | .string =>
      let l := lo.getD 0
      let r := hi.getD s.size
      if 0 ≤ l ∧ l ≤ r ∧ r ≤ s.size then some (.string (s.extract l.toNat r.toNat)) else none
    | _ => none
  | some ti, .slice none 0 0, some lo, some hi, some mx => match ti.u with
    | .slice e => match tinfo P e with
      | some _ => if lo.getD 0 = 0 ∧ hi.getD 0 = 0 ∧ mx.getD 0 = 0 then some (.slice none 0 0) else none
      | none => none
    | _ => none
  | some ti, .slice (some ⟨i, off, none⟩) len cap, some lo, some hi, some mx => match ti.u with
    | .slice e => match tinfo P e with
      | some te =>
        if cap = FULL then match avail h i off te.sz with
          | some A => asliceS i off te.sz A false len lo hi mx
          | none => none
        else if cap = ANY then
          if len = 0 ∧ lo.getD 0 = 0 ∧ hi.getD 0 = 0 ∧ mx.isNone = true then some (.slice (some ⟨i, off, none⟩) 0 ANY) else none
        else asliceS i off te.sz cap true len lo hi mx
      | none => none
    | _ => none
  | some ti, .pointer (some ⟨i, off, none⟩), some lo, some hi, some none => match ti.u with
    | .array n e => match tinfo P e with
      | some te => if n < 2 ^ 32 then asliceS i off te.sz n true n lo hi none else none
      | none => none
    | _ => none
  | _, _, _, _, _ => none

/-! ### Maps -/
def keyEq : Value → Value → Option Bool
  | .int k a, .int k' b => if k = k' then some (a == b) else none
  | .string a, .string b => some (a == b)
  | .bool a, .bool b => some (a == b)
  | _, _ => none

/-- The place of a key, and its value. -/
def findA (k : Value) : List (Value × Value) → Nat → Option (Option (Nat × Value))
  | [], _ => some none
  | (a, v) :: es, i => match keyEq k a with
    | some true => some (some (i, v))
    | some false => findA k es (i + 1)
    | none => none

def keyType (d : TypeDesc) (k : Value) : Bool :=
  match d, k with
  | .int _, .int _ _ | .string, .string _ | .bool, .bool _ => true
  | _, _ => false

def alookup (P : Program) (h : Heap) (t : TypeId) (m k : Value) (ok : Bool) : Option Value :=
  match tinfo P t, m with
  | some ti, .map r => match ti.u with
    | .map kt et => match tinfo P kt, tinfo P et with
      | some kti, some eti => match (match r with | none => some [] | some i => match hget h i with | some (.map es) => some es | _ => none), eti.zero with
        | some es, some z => if keyType kti.u k = true ∧ plain z = true then
            match findA k es 0 with
            | some (some (_, v)) => some (if ok then .tuple #[v, .bool true] else v)
            | some none => some (if ok then .tuple #[z, .bool false] else z)
            | none => none
          else none
        | _, _ => none
      | _, _ => none
    | _ => none
  | _, _ => none

def amapUpdate (P : Program) (h : Heap) (t : TypeId) (m k v : Value) : Option Heap :=
  match tinfo P t, m with
  | some ti, .map (some i) => match ti.u with
    | .map kt _ => match tinfo P kt, hget h i with
      | some kti, some (.map es) => if keyType kti.u k = true then
          match findA k es 0 with
          | some (some (j, _)) => some (hput h i (.map (es.set j (k, v))))
          | some none => some (hput h i (.map (es ++ [(k, v)])))
          | none => none
        else none
      | _, _ => none
    | _ => none
  | _, _ => none

/-! ### Builtins -/
def alen (P : Program) (h : Heap) (t : TypeId) (x : Value) : Option Value :=
  match tinfo P t with
  | some ti => match ti.u, x with
    | .string, .string s => some (.int .i64 s.size)
    | .array n _, _ => some (.int .i64 n)
    | .pointer arr, _ => match tinfo P arr with
      | some ta => match ta.u with | .array n _ => some (.int .i64 n) | _ => none
      | none => none
    | .slice _, .slice _ n _ => some (.int .i64 n)
    | .map _ _, .map none => some (.int .i64 0)
    | .map _ _, .map (some i) => match hget h i with | some (.map es) => some (.int .i64 es.length) | _ => none
    | _, _ => none
  | none => none

def acap (P : Program) (h : Heap) (t : TypeId) (x : Value) : Option Value :=
  match tinfo P t with
  | some ti => match ti.u, x with
    | .slice e, .slice (some ⟨i, off, none⟩) _ c =>
      if c = FULL then match hget h i, tinfo P e with
        | some (.cells l esz _ true), some te => if 0 < te.sz ∧ esz = te.sz then some (.int .i64 ((l.length - off) / te.sz : Nat)) else none
        | _, _ => none
      else if c = ANY then none else some (.int .i64 c)
    | .slice _, .slice none 0 0 => some (.int .i64 0)
    | _, _ => none
  | none => none

/-- The cells of a slice, or the bytes of a string. -/
def srcCells (h : Heap) (sz : Nat) : Value → Option (List Value)
  | .slice none n _ => if n = 0 then some [] else none
  | .slice (some ⟨i, off, none⟩) n c => if n = 0 then some [] else if c = ANY then none else readCells h i off (n * sz)
  | .string s => some (s.data.toList.map fun b => .int .u8 b.toNat)
  | _ => none

def srcLen : Value → Option Nat
  | .slice _ n _ => some n
  | .string s => some s.size
  | _ => none

/-- append: into known cells; into a new row; or the old row is given up. -/
def aappend (P : Program) (h : Heap) (ts : List TypeId) (s x : Value) : Option (Value × Heap) :=
  match ts with
  | [t, xt] => match tinfo P t, tinfo P xt with
    | some ti, some xi => match ti.u with
      | .slice e => match tinfo P e, (match xi.u with | .int _ => true | _ => false) with
        | some te, false =>
          if 0 < te.sz ∧ te.bytes < 2 ^ 12 ∧ (match te.zero with | some z => plain z && (cellsV z).all isCell && ((cellsV z).length == te.sz) | none => false) = true then
            match srcCells h te.sz x, srcLen x with
            | some new, some m =>
              if new.length = m * te.sz ∧ new.all isCell = true then
                match s with
                | .slice none 0 0 =>
                  if m = 0 then some (.slice none 0 0, h)
                  else if m < 2 ^ 32 then some (.slice (some ⟨hsz h, 0, none⟩) m FULL, hpush h (.cells new te.sz true false))
                  else none
                | .slice (some ⟨i, off, none⟩) n c =>
                  if c = ANY then none
                  else if n + m < 2 ^ 32 then
                    match hget h i with
                    | some (.cells l esz rw full) =>
                      if c = FULL then
                        if esz ≠ te.sz then none else
                        if off + (n + m) * te.sz ≤ l.length then
                          if m = 0 then some (.slice (some ⟨i, off, none⟩) n FULL, h)
                          else (writeCells h i (off + n * te.sz) new).map fun h' => (.slice (some ⟨i, off, none⟩) (n + m) FULL, h')
                        else if full then
                          if off + n * te.sz ≤ l.length then
                            some (.slice (some ⟨hsz h, 0, none⟩) (n + m) FULL, hpush h (.cells ((l.drop off).take (n * te.sz) ++ new) te.sz true false))
                          else none
                        else if rw = true ∧ off = 0 ∧ l.length = n * te.sz then
                          some (.slice (some ⟨hsz h, 0, none⟩) (n + m) FULL, hpush (hput h i .dead) (.cells (l ++ new) te.sz true false))
                        else none
                      else
                        if n + m ≤ c then
                          if m = 0 then some (.slice (some ⟨i, off, none⟩) n c, h)
                          else (writeCells h i (off + n * te.sz) new).map fun h' => (.slice (some ⟨i, off, none⟩) (n + m) c, h')
                        else if off + n * te.sz ≤ l.length then
                          some (.slice (some ⟨hsz h, 0, none⟩) (n + m) FULL, hpush h (.cells ((l.drop off).take (n * te.sz) ++ new) te.sz true false))
                        else none
                    | _ => none
                  else none
                | _ => none
              else none
            | _, _ => none
          else none
        | _, _ => none
      | _ => none
    | _, _ => none
  | _ => none

def acopy (P : Program) (h : Heap) (ts : List TypeId) (d s : Value) : Option (Value × Heap) :=
  match ts with
  | t :: _ => match tinfo P t with
    | some ti => match ti.u with
      | .slice e => match tinfo P e, srcLen s, d with
        | some te, some m, .slice none 0 0 => if 0 < te.sz then some (.int .i64 0, h) else none
        | some te, some m, .slice (some ⟨i, off, none⟩) n c =>
          if c = ANY ∨ te.sz = 0 then none
          else match srcCells h te.sz s with
            | some new =>
              if new.length = m * te.sz ∧ new.all isCell = true then
                if min m n = 0 then some (.int .i64 0, h)
                else (writeCells h i off (new.take (min m n * te.sz))).map fun h' => (.int .i64 (min m n : Nat), h')
              else none
            | none => none
        | _, _, _ => none
      | _ => none
    | none => none
  | [] => none

def allPlain (l : List Value) : Bool := l.all plain

/-- min, max, real, imag, complex: on values without addresses. -/
def abuiltin (P : Program) (h : Heap) (b : Builtin) (ts : Array TypeId) (type : TypeId) (args : List Value) : Option (Value × Heap) :=
  match b, args with
  | .len, [x] => (match ts.toList with | [t] => alen P h t x | _ => none).map fun v => (v, h)
  | .cap, [x] => (match ts.toList with | [t] => acap P h t x | _ => none).map fun v => (v, h)
  | .append, [s, x] => aappend P h ts.toList s x
  | .copy, [d, s] => acopy P h ts.toList d s
  | .min, l => if allPlain l then (pureV P (Builtin.min_ ts type l.toArray)).map fun v => (v, h) else none
  | .max, l => if allPlain l then (pureV P (Builtin.max_ ts type l.toArray)).map fun v => (v, h) else none
  | .real, l => if allPlain l then (pureV P (Builtin.real_ ts type l.toArray)).map fun v => (v, h) else none
  | .imag, l => if allPlain l then (pureV P (Builtin.imag_ ts type l.toArray)).map fun v => (v, h) else none
  | .complex, l => if allPlain l then (pureV P (Builtin.complex_ ts type l.toArray)).map fun v => (v, h) else none
  | _, _ => none

/-! ### Operators -/
/-- '==' with nil. -/
def nilEq : Value → Value → Option Bool
  | .pointer none, .pointer b => some b.isNone
  | .pointer (some _), .pointer none => some false
  | .slice none _ _, .slice b _ _ => some b.isNone
  | .slice (some _) _ _, .slice none _ _ => some false
  | .map none, .map b => some b.isNone
  | .map (some _), .map none => some false
  | .nilFunc, .nilFunc => some true
  | .nilFunc, .func _ _ _ => some false
  | .func _ _ _, .nilFunc => some false
  | _, _ => none

def nilType (d : TypeDesc) (x : Value) : Bool :=
  match d, x with
  | .pointer _, .pointer _ | .slice _, .slice _ _ _ | .map _ _, .map _ | .func _ _ _, .nilFunc | .func _ _ _, .func _ _ _ => true
  | _, _ => false

def abinOp (P : Program) (op : BinOp) (t : TypeId) (x y : Value) : Option Value :=
  if plain x && plain y then
    pureV P (do eqGuard op t (.tmp 0) (.tmp 0) x y; binOp op t x y)
  else match tinfo P t with
    | some ti => if nilType ti.u x && nilType ti.u y then
        match op, nilEq x y with
        | .eql, some b => some (.bool b)
        | .neq, some b => some (.bool !b)
        | _, _ => none
      else none
    | none => none

def bytesOf : List Value → Option (List UInt8)
  | [] => some []
  | .int .u8 n :: l => (bytesOf l).map fun r => UInt8.ofNat n.toNat :: r
  | _ :: _ => none

def aconvert (P : Program) (h : Heap) (s d : TypeId) (x : Value) : Option (Value × Heap) :=
  match tinfo P s, tinfo P d with
  | some si, some di => match si.u, di.u, x with
    | _, .slice e, .string b => match tinfo P e with
      | some te => match te.u with
        | .int .u8 => if te.sz = 1 ∧ b.size < 2 ^ 32 then some (.slice (some ⟨hsz h, 0, none⟩) b.size FULL, hpush h (.cells (b.data.toList.map fun c => .int .u8 c.toNat) 1 true false)) else none
        | _ => none
      | none => none
    | .slice e, .string, .slice a n c => match tinfo P e with
      | some te => match te.u with
        | .int .u8 => if te.sz = 1 ∧ (a.isSome = true ∨ n = 0) then match srcCells h 1 (.slice a n c) with
            | some l => if l.length = n then (bytesOf l).map fun r => (.string ⟨r.toArray⟩, h) else none
            | none => none
          else none
        | _ => none
      | none => none
    | _, _, x => if plain x then (pureV P (convert s d x)).map fun v => (v, h) else none
  | _, _ => none

def sliceOK : Value → Bool
  | .pointer (some _) => true
  | .func (.func _) _ _ => true
  | _ => false

/-- All operations but calls of functions. -/
def aop (P : Program) (op : Op) (type : TypeId) (fr : Fr) (h : Heap) : Option (Value × Heap) :=
  match op with
  | .move x | .assign x => some (feval fr x, h)
  | .pick c a b => match feval fr c with
    | .bool t => some (if t then feval fr a else feval fr b, h)
    | _ => none
  | .alloc e => match tinfo P e with
    | some ti => match ti.zero with
      | some z => if plain z = true ∧ (cellsV z).all isCell = true then some (anew h (cellsV z)) else none
      | none => none
    | none => none
  | .box _ x => if (cellsV (feval fr x)).all isCell then some (anew h (cellsV (feval fr x))) else none
  | .build t ps => (abuild P t (ps.toList.map fun (i, x) => (i, feval fr x))).map fun v => (v, h)
  | .buildSlice t n ps => abuildSlice P h t n (ps.toList.map fun (i, x) => (i, feval fr x))
  | .load t a => (aload P h t (feval fr a)).map fun v => (v, h)
  | .store t a v => (astore P h t (feval fr a) (feval fr v)).map fun h' => (undef, h')
  | .nilCheck x => if sliceOK (feval fr x) then some (feval fr x, h) else none
  | .binOp op t x y _ => (abinOp P op t (feval fr x) (feval fr y)).map fun v => (v, h)
  | .unOp op _ x => if plain (feval fr x) then (pureV P (Op.unary op (feval fr x))).map fun v => (v, h) else none
  | .convert s d x => aconvert P h s d (feval fr x)
  | .makeFunc fn first captured => if plainFn fn then some (.func fn (first.map (feval fr)) (captured.map (feval fr)), h) else none
  | .makeMap t r => match r with
    | none => some (.map (some (hsz h)), hpush h (.map []))
    | some x => match feval fr x, tinfo P t with
      | .int _ _, some ti => match ti.u with
        | .map _ _ => some (.map (some (hsz h)), hpush h (.map []))
        | _ => none
      | _, _ => none
  | .makeSlice t l c => amakeSlice P h t (feval fr l) (feval fr c)
  | .slice t x lo hi mx => if hi.isSome || mx.isNone then (aslice P h t (feval fr x) (lo.map (feval fr)) (hi.map (feval fr)) (mx.map (feval fr))).map fun v => (v, h) else none
  | .fieldAddr t x f => (afieldAddr P t (feval fr x) f).map fun v => (v, h)
  | .field t x f => (afield P t (feval fr x) f).map fun v => (v, h)
  | .indexAddr t x i => (aindexAddr P t (feval fr x) (feval fr i)).map fun v => (v, h)
  | .index t x i => (aindex P t (feval fr x) (feval fr i)).map fun v => (v, h)
  | .lookup t x k ok => (alookup P h t (feval fr x) (feval fr k) ok).map fun v => (v, h)
  | .mapUpdate t m k v => (amapUpdate P h t (feval fr m) (feval fr k) (feval fr v)).map fun h' => (undef, h')
  | .range t x => match tinfo P t, feval fr x with
    | some ti, .string s => match ti.u with
      | .string => some (.pointer (some ⟨hsz h, 0, none⟩), hpush h (.siter s 0))
      | _ => none
    | _, _ => none
  | .next it true => match feval fr it with
    | .pointer (some ⟨i, 0, none⟩) => match hget h i with
      | some (.siter s pos) => if pos < s.size then
          some (.tuple #[.bool true, .int .i64 pos, .int .i32 (Utf8.decode s pos).1], hput h i (.siter s (pos + (Utf8.decode s pos).2)))
        else some (.tuple #[.bool false], h)
      | _ => none
    | _ => none
  | .extract x i => match feval fr x with
    | .tuple vs => (vs[i]?).map fun v => (v, h)
    | _ => none
  | .call c => match c.callee with
    | .builtin b => abuiltin P h b c.argTypes type (c.args.toList.map (feval fr))
    | _ => none
  | _ => none

/-! ### The evaluator -/

/-! ### Looks at code, once for all -/

/-- Which operations turn the memory that is there (calls among them). -/
def isEff : Op → Bool
  | .store .. | .mapUpdate .. | .insert .. | .entryStore .. | .mapEntry .. | .next .. => true
  | .call c => match c.callee with
    | .builtin b => match b with | .append | .copy | .clear | .delete => true | .len | .cap | .min | .max | .real | .imag | .complex => false | _ => true
    | _ => true
  | _ => false

def okOperand (G : List Nat) : Operand → Bool
  | .const v => plain v
  | .global g => G.contains g
  | _ => true

def okOper (nt : Nat) (G : List Nat) (o : Oper) : Bool :=
  (match o.dst with | some d => decide (d < nt) | none => true) && o.op.operands.toList.all (okOperand G) && (match o.op with | .defer _ => false | _ => true)

/-- Does an operation come before another one in every order? -/
def pre (ops : Array Oper) (i j : Nat) : Bool := ((Region.before ops).getD j 0).testBit i
def ordered (ops : Array Oper) (i j : Nat) : Bool := pre ops (min i j) (max i j)

/-- The temporaries that an operation names. -/
def namesOf (o : Oper) : List Nat := o.dst.toList ++ o.op.operands.toList.filterMap fun x => match x with | .tmp t => some t | _ => none

/-- A region that draws its order: edges lead back, temporaries and guards are ordered, and so are all effects. -/
def drawOk (ops : Array Oper) : Bool :=
  (ops.toList.zipIdx.all fun x =>
    x.1.after.toList.all (fun e => !(Region.binds .any e) || decide (e.on < x.2)) &&
    (match x.1.guard with
      | none => true
      | some (j, _) => x.1.after.toList.any (fun e => e.on == j && Region.binds .any e) &&
        ops.toList.zipIdx.all fun z => z.2 == j || (match z.1.dst, (ops[j]?).bind (·.dst) with | some a, some b => a != b | _, _ => true))) &&
  (ops.toList.zipIdx.all fun y => ops.toList.zipIdx.all fun x => x.2 == y.2 || (match x.1.dst with | some d => !(namesOf y.1).contains d | none => true) || ordered ops x.2 y.2) &&
  (ops.toList.zipIdx.all fun y => ops.toList.zipIdx.all fun x => !(isEff x.1.op && isEff y.1.op && decide (x.2 < y.2)) || pre ops x.2 y.2)

def okCode (nt : Nat) (G : List Nat) : Code → Bool
  | .region _ ops d => ops.toList.all (okOper nt G) && (!d || drawOk ops)
  | .seq a b => okCode nt G a && okCode nt G b
  | .cond c a b => okOperand G c && okCode nt G a && okCode nt G b
  | .block _ b => okCode nt G b
  | .loop b => okCode nt G b
  | .scope b => okCode nt G b
  | .rangeFunc g ps a b => okOperand G g && ps.toList.all (fun p => decide (p < nt)) && okCode nt G a && okCode nt G b
  | _ => true

/-- What is known of a function: how many temporaries, its code, its result variables. -/
structure FnB where
  nt : Nat
  code : Code
  results : List ResultVar

def fnB (G : List Nat) (P : Program) (f : FuncId) : Option FnB :=
  match P.funcs[f]? with
  | some fn => if fn.name == "runtime.NumGoroutine" then none else
    match fn.body with
    | some c => if okCode fn.ntmps G c then some ⟨fn.ntmps, c, fn.results.toList⟩ else none
    | none => none
  | none => none

structure Ctx where
  P : Program
  /-- the package-level variables that are known -/
  G : List Nat
  /-- functions that are given by what they do -/
  X : FuncId → Option (List Value → Heap → Option (Value × Heap))

inductive AItem where
  | code (c : Code)
  | inBlock (id : Nat)
  | inLoop (body : Code)
  | inScope (body : Code)
  /-- operations from number i on; effects done (number, memory before and behind), places read (number, block) -/
  | ops (draw : Bool) (ops : Array Oper) (i : Nat) (es : List (Nat × Heap × Heap)) (rs : List (Nat × Nat))

inductive Out where
  | normal
  | ret
  | exit (id : Nat)

def exitA (id : Nat) : List AItem → Option (List AItem)
  | .inBlock id' :: k => if id' = id then some k else exitA id k
  | _ :: k => exitA id k
  | [] => none

def initFr (args : List Value) : Fr := fun j => args.getD j undef

def aresult1 (P : Program) (fr : Fr) (h : Heap) : ResultVar → Option Value
  | .tmp t => some (fr t)
  | .cell a t => aload P h t (fr a)

def aresults (P : Program) (fr : Fr) (h : Heap) : List ResultVar → Option (List Value)
  | [] => some []
  | r :: rs => match aresult1 P fr h r, aresults P fr h rs with
    | some v, some vs => some (v :: vs)
    | _, _ => none

def packed : List Value → Value
  | [v] => v
  | vs => .tuple vs.toArray

def wantedA (ops : Array Oper) (o : Oper) (fr : Fr) : Bool :=
  match o.guard with
  | none => true
  | some (j, want) => match (ops[j]?).bind (·.dst) with
    | some t => match fr t with | .bool b => b == want | _ => false
    | none => false

/-- The blocks that an operation without effect reads. -/
def readsOf (fr : Fr) : Op → List Nat
  | .load _ a => match feval fr a with | .pointer (some a) => [a.block] | _ => []
  | .lookup _ m _ _ => match feval fr m with | .map (some i) => [i] | _ => []
  | .convert _ _ x => match feval fr x with | .slice (some a) _ _ => [a.block] | _ => []
  | .slice _ x _ _ _ => match feval fr x with | .slice (some a) _ _ => [a.block] | .pointer (some a) => [a.block] | _ => []
  | .call c => match c.args.toList.map (feval fr) with
    | [.map (some i)] => [i]
    | [.slice (some a) _ _] => [a.block]
    | _ => []
  | _ => []

open Classical in
/-- What was read lies as it did before and behind each effect that may come before or behind. -/
noncomputable def calmB (ops : Array Oper) (es : List (Nat × Heap × Heap)) (rs : List (Nat × Nat)) : Bool :=
  es.all fun e => rs.all fun r => decide (hget e.2.1 r.2 = hget e.2.2 r.2 ∨ ordered ops e.1 r.1 = true)

/-- What stands in a region that draws, behind one more operation. -/
def grown (op : Op) (fr : Fr) (h h' : Heap) (i : Nat) (es : List (Nat × Heap × Heap)) (rs : List (Nat × Nat)) : List (Nat × Heap × Heap) × List (Nat × Nat) :=
  if isEff op then ((i, h, h') :: es, rs)
  else (es, (readsOf fr op).map (fun b => (i, b)) ++ (if hsz h' = hsz h then [] else [(i, hsz h)]) ++ rs)

def yieldLoop (h : Heap) (l : Nat) : Option (Nat × List Value × List Nat × Code × Code) :=
  match hget h l with
  | some (.loop .ready none nt fr ps assign body) => some (nt, fr, ps, assign, body)
  | _ => none

def setArgs (fr : Fr) : List Nat → List Value → Fr
  | p :: ps, v :: vs => setArgs (fset fr p v) ps vs
  | _, _ => fr

/-- The function and the arguments of a call of a function value. -/
def calleeOf : Op → Option (Operand × List Operand)
  | .call c => match c.callee with
    | .value f => some (f, c.args.toList)
    | _ => none
  | _ => none

/-- What a call's function value comes to: a function, with all its arguments; or a round of a loop. -/
inductive Tgt where
  | fn (f : FuncId) (args : List Value)
  | yield (l : Nat) (args : List Value)

def target (v : Value) (args : List Value) : Option Tgt :=
  match v with
  | .func (.func f) first captured => some (.fn f (first.toList ++ args ++ captured.toList))
  | .func (.yield l) first captured => if first.size = 0 ∧ captured.size = 0 then some (.yield l args) else none
  | _ => none

/-- What a function's body comes to. -/
def finF (P : Program) (B : FnB) (r : Out × Fr × Heap) : Option (Value × Heap) :=
  match r.1 with
  | .exit _ => none
  | _ => (aresults P r.2.1 r.2.2 B.results).map fun vs => (packed vs, r.2.2)

/-- The looks at a region that draws, behind an operation. -/
noncomputable def lookD (d : Bool) (ops : Array Oper) (op : Op) (fr : Fr) (h h' : Heap) (i : Nat) (es : List (Nat × Heap × Heap)) (rs : List (Nat × Nat)) : Bool :=
  !d || calmB ops (grown op fr h h' i es rs).1 (grown op fr h h' i es rs).2

/-- A loop's record, when a round begins. -/
def roundOn (h : Heap) (l : Nat) : Option Heap :=
  match hget h l with
  | some (.loop .ready none nt fr ps as bd) => some (hput h l (.loop .busy none nt fr ps as bd))
  | _ => none

/-- A loop's record, when a round has ended, and what the function that goes over the loop is told. -/
def roundOff (o : Out) (h : Heap) (l : Nat) : Option (Value × Heap) :=
  match hget h l with
  | some (.loop .busy none nt fr ps as bd) => match o with
    | .normal => some (.bool true, hput h l (.loop .ready none nt fr ps as bd))
    | .ret => some (.bool false, hput h l (.loop .done (some .ret) nt fr ps as bd))
    | .exit id => some (.bool false, hput h l (.loop .done (some (.exit id)) nt fr ps as bd))
  | _ => none

def outNormal : Out → Bool
  | .normal => true
  | _ => false

/-- Behind the function that went over a loop: what is left to do first. -/
def loopOff (h : Heap) (l : Nat) : Option (List AItem × Heap) :=
  match hget h l with
  | some (.loop st pend nt fr ps as bd) =>
    match st, pend with
    | .busy, _ => none
    | _, none => some ([], hput h l (.loop .exhausted none nt fr ps as bd))
    | _, some .ret => some ([.code .ret], hput h l (.loop .exhausted (some .ret) nt fr ps as bd))
    | _, some (.exit id) => some ([.code (.exit id)], hput h l (.loop .exhausted (some (.exit id)) nt fr ps as bd))
    | _, some _ => none
  | _ => none

abbrev Rec := Bool → Nat → List AItem → Fr → Heap → Option (Out × Fr × Heap)

/-- One step of the evaluator, the rest given. -/
noncomputable def evG (C : Ctx) (rec : Rec) (rnd : Bool) (nt : Nat) (todo : List AItem) (fr : Fr) (h : Heap) : Option (Out × Fr × Heap) :=
  match todo with
  | [] => some (.normal, fr, h)
  | .inBlock _ :: k => rec rnd nt k fr h
  | .inLoop b :: k => rec rnd nt (.code b :: .inLoop b :: k) fr h
  | .inScope _ :: k => rec rnd nt k fr h
  | .code .skip :: k => rec rnd nt k fr h
  | .code (.label _) :: k => rec rnd nt k fr h
  | .code (.seq a b) :: k => rec rnd nt (.code a :: .code b :: k) fr h
  | .code (.cond c a b) :: k => match feval fr c with
    | .bool true => rec rnd nt (.code a :: k) fr h
    | .bool false => rec rnd nt (.code b :: k) fr h
    | _ => none
  | .code (.block id b) :: k => rec rnd nt (.code b :: .inBlock id :: k) fr h
  | .code (.loop b) :: k => rec rnd nt (.code b :: .inLoop b :: k) fr h
  | .code (.scope b) :: k => rec rnd nt (.code b :: .inScope b :: k) fr h
  | .code (.exit id) :: k => match exitA id k with
    | some k' => rec rnd nt k' fr h
    | none => some (.exit id, fr, h)
  | .code .ret :: _ => some (.ret, fr, h)
  | .code (.region _ ops d) :: k => rec rnd nt (.ops d ops 0 [] [] :: k) fr h
  | .ops d ops i es rs :: k => match ops[i]? with
    | none => rec rnd nt k fr h
    | some o =>
      if wantedA ops o fr then
        match calleeOf o.op with
        | some (f, xs) => match target (feval fr f) (xs.map (feval fr)) with
          | some (.fn f args) =>
            (match C.X f with
              | some g => g args h
              | none => match fnB C.G C.P f with
                | some B => if args.length ≤ B.nt then rec false B.nt [.code B.code] (initFr args) h >>= fun q => finF C.P B q else none
                | none => none) >>= fun r =>
            if lookD d ops o.op fr h r.2 i es rs then rec rnd nt (.ops d ops (i + 1) (grown o.op fr h r.2 i es rs).1 (grown o.op fr h r.2 i es rs).2 :: k) (fput fr o.dst r.1) r.2 else none
          | some (.yield l args) =>
            match yieldLoop h l with
            | some (nt', fr0, ps, assign, body) =>
              if d = false ∧ args.length = ps.length then
                rec true nt' [.code assign] (setArgs (toFr fr0) ps args) h >>= fun r1 =>
                if outNormal r1.1 then
                  roundOn r1.2.2 l >>= fun h1 =>
                  rec true nt' [.code body] r1.2.1 h1 >>= fun r2 =>
                  roundOff r2.1 r2.2.2 l >>= fun r3 =>
                  rec rnd nt (.ops d ops (i + 1) es rs :: k) (fput fr o.dst r3.1) r3.2
                else none
              else none
            | none => none
          | none => none
        | none => aop C.P o.op o.type fr h >>= fun r =>
            if lookD d ops o.op fr h r.2 i es rs then rec rnd nt (.ops d ops (i + 1) (grown o.op fr h r.2 i es rs).1 (grown o.op fr h r.2 i es rs).2 :: k) (fput fr o.dst r.1) r.2 else none
      else rec rnd nt (.ops d ops (i + 1) es rs :: k) (fput fr o.dst undef) h
  | .code (.rangeFunc g ps assign body) :: k =>
    if rnd then none else
    match target (feval fr g) [.func (.yield (hsz h)) #[] #[]] with
    | some (.fn f args) => match C.X f, fnB C.G C.P f with
      | none, some B =>
        (if args.length ≤ B.nt then rec false B.nt [.code B.code] (initFr args) (hpush h (.loop .ready none nt ((List.range nt).map fr) ps.toList assign body)) >>= fun q => finF C.P B q else none) >>= fun r =>
        loopOff r.2 (hsz h) >>= fun x => rec rnd nt (x.1 ++ k) fr x.2
      | _, _ => none
    | _ => none
  | .code (.goto _) :: _ => none
  | .code (.refuse _) :: _ => none

noncomputable def evN (C : Ctx) : Nat → Rec
  | 0 => fun _ _ _ _ _ => none
  | n + 1 => evG C (evN C n)

open Classical in
/-- The evaluator: what it comes to with enough fuel. -/
noncomputable def ev (C : Ctx) (rnd : Bool) (nt : Nat) (todo : List AItem) (fr : Fr) (h : Heap) : Option (Out × Fr × Heap) :=
  if e : ∃ n r, evN C n rnd nt todo fr h = some r then evN C e.choose rnd nt todo fr h else none

/-! ### It is a fixed point -/
abbrev Ask := Bool × Nat × List AItem × Fr × Heap × Out × Fr × Heap
def Rec.has (rec : Rec) (x : Ask) : Prop := rec x.1 x.2.1 x.2.2.1 x.2.2.2.1 x.2.2.2.2.1 = some x.2.2.2.2.2
/-- It rests on these answers alone. -/
def RestsOn (C : Ctx) (S : List Ask) (rnd : Bool) (nt : Nat) (todo : List AItem) (fr : Fr) (h : Heap) (r : Out × Fr × Heap) : Prop :=
  ∀ rec : Rec, (∀ x ∈ S, rec.has x) → evG C rec rnd nt todo fr h = some r

theorem bindSome {α β : Type} {o : Option α} {f : α → Option β} {b : β} (h : (o >>= f) = some b) : ∃ a, o = some a ∧ f a = some b := by
  cases o with
  | none => cases h
  | some a => exact ⟨a, rfl, h⟩

theorem evG_fin (C : Ctx) (rec : Rec) (rnd : Bool) (nt : Nat) (todo : List AItem) (fr : Fr) (h : Heap) (r : Out × Fr × Heap) (he : evG C rec rnd nt todo fr h = some r) :
    ∃ S : List Ask, (∀ x ∈ S, rec.has x) ∧ RestsOn C S rnd nt todo fr h r := by
  have one : ∀ {rnd' : Bool} {nt' : Nat} {todo' : List AItem} {fr' : Fr} {h' : Heap} {r' : Out × Fr × Heap}, rec rnd' nt' todo' fr' h' = some r' → (∀ rec' : Rec, rec' rnd' nt' todo' fr' h' = some r' → evG C rec' rnd nt todo fr h = some r) →
      ∃ S : List Ask, (∀ x ∈ S, rec.has x) ∧ RestsOn C S rnd nt todo fr h r := by
    intro rnd' nt' todo' fr' h' r' h1 h2
    refine ⟨[(rnd', nt', todo', fr', h', r')], fun x hx => ?_, fun rec' hr => h2 rec' (hr (rnd', nt', todo', fr', h', r') (by simp))⟩
    simp at hx; subst hx; exact h1
  have two : ∀ {rnd' rnd2 : Bool} {nt' nt2 : Nat} {todo' todo2 : List AItem} {fr' fr2 : Fr} {h' h2' : Heap} {r' r2 : Out × Fr × Heap}, rec rnd' nt' todo' fr' h' = some r' → rec rnd2 nt2 todo2 fr2 h2' = some r2 →
      (∀ rec' : Rec, rec' rnd' nt' todo' fr' h' = some r' → rec' rnd2 nt2 todo2 fr2 h2' = some r2 → evG C rec' rnd nt todo fr h = some r) →
      ∃ S : List Ask, (∀ x ∈ S, rec.has x) ∧ RestsOn C S rnd nt todo fr h r := by
    intro rnd' rnd2 nt' nt2 todo' todo2 fr' fr2 h' h2' r' r2 h1 h1' h2
    refine ⟨[(rnd', nt', todo', fr', h', r'), (rnd2, nt2, todo2, fr2, h2', r2)], fun x hx => ?_, fun rec' hr => h2 rec' (hr (rnd', nt', todo', fr', h', r') (by simp)) (hr (rnd2, nt2, todo2, fr2, h2', r2) (by simp))⟩
    simp at hx
    rcases hx with rfl | rfl
    · exact h1
    · exact h1'
  have three : ∀ {rnd' rnd2 rnd3 : Bool} {nt' nt2 nt3 : Nat} {todo' todo2 todo3 : List AItem} {fr' fr2 fr3 : Fr} {h' h2' h3' : Heap} {r' r2 r3 : Out × Fr × Heap}, rec rnd' nt' todo' fr' h' = some r' → rec rnd2 nt2 todo2 fr2 h2' = some r2 → rec rnd3 nt3 todo3 fr3 h3' = some r3 →
      (∀ rec' : Rec, rec' rnd' nt' todo' fr' h' = some r' → rec' rnd2 nt2 todo2 fr2 h2' = some r2 → rec' rnd3 nt3 todo3 fr3 h3' = some r3 → evG C rec' rnd nt todo fr h = some r) →
      ∃ S : List Ask, (∀ x ∈ S, rec.has x) ∧ RestsOn C S rnd nt todo fr h r := by
    intro rnd' rnd2 rnd3 nt' nt2 nt3 todo' todo2 todo3 fr' fr2 fr3 h' h2' h3' r' r2 r3 h1 h1' h1'' h2
    refine ⟨[(rnd', nt', todo', fr', h', r'), (rnd2, nt2, todo2, fr2, h2', r2), (rnd3, nt3, todo3, fr3, h3', r3)], fun x hx => ?_, fun rec' hr => h2 rec' (hr (rnd', nt', todo', fr', h', r') (by simp)) (hr (rnd2, nt2, todo2, fr2, h2', r2) (by simp)) (hr (rnd3, nt3, todo3, fr3, h3', r3) (by simp))⟩
    simp at hx
    rcases hx with rfl | rfl | rfl
    · exact h1
    · exact h1'
    · exact h1''
  unfold evG at he
  split at he
  · exact ⟨[], by simp, fun rec' _ => by unfold evG; exact he⟩
  · exact one he fun rec' e => by unfold evG; exact e
  · exact one he fun rec' e => by unfold evG; exact e
  · exact one he fun rec' e => by unfold evG; exact e
  · exact one he fun rec' e => by unfold evG; exact e
  · exact one he fun rec' e => by unfold evG; exact e
  · exact one he fun rec' e => by unfold evG; exact e
  · split at he
    · rename_i hc; exact one he fun rec' e => by unfold evG; simp only [hc]; exact e
    · rename_i hc; exact one he fun rec' e => by unfold evG; simp only [hc]; exact e
    · cases he
  · exact one he fun rec' e => by unfold evG; exact e
  · exact one he fun rec' e => by unfold evG; exact e
  · exact one he fun rec' e => by unfold evG; exact e
  · split at he
    · rename_i hx; exact one he fun rec' e => by unfold evG; simp only [hx]; exact e
    · rename_i hx; exact ⟨[], by simp, fun rec' _ => by unfold evG; simp only [hx]; exact he⟩
  · exact ⟨[], by simp, fun rec' _ => by unfold evG; exact he⟩
  · exact one he fun rec' e => by unfold evG; exact e
  · rename_i d ops i es rs k
    split at he
    · rename_i hi
      exact one he fun rec' e => by unfold evG; simp only [hi]; exact e
    · rename_i o hi
      split at he
      · rename_i hw
        split at he
        · rename_i f xs hc
          split at he
          · rename_i f' args ht
            obtain ⟨r1, h1, h2⟩ := bindSome he
            split at h2
            case isFalse => cases h2
            rename_i hl
            split at h1
            · rename_i g hg
              exact one h2 fun rec' e => by
                unfold evG; simp only [hi, hw, if_true, hc, ht, hg]; rw [h1]
                show (if lookD d ops o.op fr h r1.2 i es rs = true then _ else none) = _
                rw [if_pos hl]; exact e
            · rename_i hX
              split at h1
              · rename_i B hB
                split at h1
                case isFalse => cases h1
                rename_i hle
                obtain ⟨q, h3, h4⟩ := bindSome h1
                exact two h3 h2 fun rec' e1 e2 => by
                  unfold evG; simp only [hi, hw, if_true, hc, ht, hX, hB]
                  rw [if_pos hle, e1]
                  show (finF C.P B q >>= _) = _
                  rw [h4]
                  show (if lookD d ops o.op fr h r1.2 i es rs = true then _ else none) = _
                  rw [if_pos hl]; exact e2
              · cases h1
          · rename_i l args ht
            split at he
            · rename_i nt' fr0 ps as bd hy
              split at he
              case isFalse => cases he
              rename_i hdl
              obtain ⟨r1, e1, he⟩ := bindSome he
              split at he
              case isFalse => cases he
              rename_i hn
              obtain ⟨h1, e2, he⟩ := bindSome he
              obtain ⟨r2, e3, he⟩ := bindSome he
              obtain ⟨r3, e4, he⟩ := bindSome he
              exact three e1 e3 he fun rec' k1 k2 k3 => by
                unfold evG; simp only [hi, hw, if_true, hc, ht, hy]
                rw [if_pos hdl, k1]
                show (if outNormal r1.1 = true then _ else none) = _
                rw [if_pos hn, e2]
                show (rec' true nt' [.code bd] r1.2.1 h1 >>= _) = _
                rw [k2]
                show (roundOff r2.1 r2.2.2 l >>= _) = _
                rw [e4]
                exact k3
            · cases he
          · cases he
        · rename_i hc
          obtain ⟨r1, h1, h2⟩ := bindSome he
          split at h2
          case isFalse => cases h2
          rename_i hl
          exact one h2 fun rec' e => by
            unfold evG; simp only [hi, hw, if_true, hc]; rw [h1]
            show (if lookD d ops o.op fr h r1.2 i es rs = true then _ else none) = _
            rw [if_pos hl]; exact e
      · rename_i hw
        exact one he fun rec' e => by unfold evG; simp only [hi, hw]; exact e
  · rename_i g ps as bd k
    split at he
    case isTrue => cases he
    rename_i hrnd
    split at he
    · rename_i f args ht
      split at he
      · rename_i B hX hB
        obtain ⟨r1, h1, h2⟩ := bindSome he
        split at h1
        case isFalse => cases h1
        rename_i hle
        obtain ⟨q, h3, h4⟩ := bindSome h1
        obtain ⟨x, h5, h6⟩ := bindSome h2
        exact two h3 h6 fun rec' e1 e2 => by
          unfold evG; simp only [ht, hX, hB]
          rw [if_neg hrnd, if_pos hle, e1]
          show ((finF C.P B q) >>= _) = _
          rw [h4]
          show (loopOff r1.2 (hsz h) >>= _) = _
          rw [h5]
          exact e2
      · cases he
    · cases he
  · cases he
  · cases he

theorem evG_mono {C : Ctx} {rec rec' : Rec} (hr : ∀ rnd nt todo fr h r, rec rnd nt todo fr h = some r → rec' rnd nt todo fr h = some r) {rnd : Bool} {nt : Nat} {todo : List AItem} {fr : Fr} {h : Heap} {r : Out × Fr × Heap}
    (he : evG C rec rnd nt todo fr h = some r) : evG C rec' rnd nt todo fr h = some r := by
  obtain ⟨S, h1, h2⟩ := evG_fin C rec rnd nt todo fr h r he
  exact h2 rec' fun x hx => hr _ _ _ _ _ _ (h1 x hx)

theorem evN_succ {C : Ctx} : ∀ (n : Nat) {rnd : Bool} {nt : Nat} {todo : List AItem} {fr : Fr} {h : Heap} {r : Out × Fr × Heap}, evN C n rnd nt todo fr h = some r → evN C (n + 1) rnd nt todo fr h = some r
  | 0, _, _, _, _, _, _, he => by cases he
  | n + 1, _, _, _, _, _, _, he => evG_mono (fun _ _ _ _ _ _ => evN_succ n) he

theorem evN_mono {C : Ctx} {n m : Nat} (hnm : n ≤ m) {rnd : Bool} {nt : Nat} {todo : List AItem} {fr : Fr} {h : Heap} {r : Out × Fr × Heap} (he : evN C n rnd nt todo fr h = some r) : evN C m rnd nt todo fr h = some r := by
  induction hnm with
  | refl => exact he
  | step _ ih => exact evN_succ _ ih

theorem ev_some {C : Ctx} {rnd : Bool} {nt : Nat} {todo : List AItem} {fr : Fr} {h : Heap} {r : Out × Fr × Heap} : ev C rnd nt todo fr h = some r ↔ ∃ n, evN C n rnd nt todo fr h = some r := by
  unfold ev
  constructor
  · intro he
    split at he
    · exact ⟨_, he⟩
    · cases he
  · rintro ⟨n, hn⟩
    have e : ∃ n r, evN C n rnd nt todo fr h = some r := ⟨n, r, hn⟩
    rw [dif_pos e]
    obtain ⟨r', hr'⟩ := e.choose_spec
    have h1 := evN_mono (Nat.le_max_left e.choose n) hr'
    have h2 := evN_mono (Nat.le_max_right e.choose n) hn
    rw [h1] at h2
    rw [hr', h2]

theorem ev_def (C : Ctx) (rnd : Bool) (nt : Nat) (todo : List AItem) (fr : Fr) (h : Heap) : ev C rnd nt todo fr h = evG C (ev C) rnd nt todo fr h := by
  have key : ∀ r, ev C rnd nt todo fr h = some r ↔ evG C (ev C) rnd nt todo fr h = some r := by
    intro r
    constructor
    · intro he
      obtain ⟨n, hn⟩ := ev_some.1 he
      cases n with
      | zero => cases hn
      | succ n => exact evG_mono (fun _ _ _ _ _ _ h => ev_some.2 ⟨n, h⟩) hn
    · intro he
      obtain ⟨S, h1, h2⟩ := evG_fin C (ev C) rnd nt todo fr h r he
      have : ∃ n, ∀ x ∈ S, Rec.has (evN C n) x := by
        clear h2
        induction S with
        | nil => exact ⟨0, by simp⟩
        | cons x S ih =>
          obtain ⟨n, hn⟩ := ih fun y hy => h1 y (by simp [hy])
          obtain ⟨m, hm⟩ := ev_some.1 (h1 x (by simp))
          refine ⟨max n m, fun y hy => ?_⟩
          simp only [List.mem_cons] at hy
          rcases hy with rfl | hy
          · exact evN_mono (Nat.le_max_right n m) hm
          · exact evN_mono (Nat.le_max_left n m) (hn y hy)
      obtain ⟨n, hn⟩ := this
      exact ev_some.2 ⟨n + 1, h2 _ hn⟩
  cases h1 : ev C rnd nt todo fr h with
  | some r => exact ((key r).1 h1).symm
  | none =>
    cases h2 : evG C (ev C) rnd nt todo fr h with
    | none => rfl
    | some r => rw [(key r).2 h2] at h1; cases h1

/-- What is kept by a step holds of whatever it comes to. -/
theorem ev_ind (C : Ctx) (M : Bool → Nat → List AItem → Fr → Heap → Out × Fr × Heap → Prop)
    (hM : ∀ rec : Rec, (∀ rnd nt todo fr h r, rec rnd nt todo fr h = some r → M rnd nt todo fr h r) → ∀ rnd nt todo fr h r, evG C rec rnd nt todo fr h = some r → M rnd nt todo fr h r) :
    ∀ rnd nt todo fr h r, ev C rnd nt todo fr h = some r → M rnd nt todo fr h r := by
  intro rnd nt todo fr h r he
  obtain ⟨n, hn⟩ := ev_some.1 he
  have : ∀ n rnd nt todo fr h r, evN C n rnd nt todo fr h = some r → M rnd nt todo fr h r := by
    intro n
    induction n with
    | zero => intro _ _ _ _ _ _ h; cases h
    | succ n ih => exact fun rnd nt todo fr h r he => hM _ ih rnd nt todo fr h r he
  exact this n rnd nt todo fr h r hn

end Gl
end

/- What an abstract memory says of a world: values, blocks, frames; and the laws of this relation. -/
section
namespace Gl
open Go

theorem FULL_ne_ANY : FULL ≠ ANY := by unfold FULL ANY; decide

/-- Where an abstract block lies: a row, from a cell on, so many cells, of so many an element. -/
structure Gh where
  blk : Nat
  base : Nat
  room : Nat
  esz : Nat

abbrev Rho := Nat → Option Gh

mutual
/-- A value of the machine, and that of the evaluator. -/
inductive VR (ρ : Rho) : Value → Value → Prop
  | bool (b : Bool) : VR ρ (.bool b) (.bool b)
  | int (k : IntKind) (n : Int) : VR ρ (.int k n) (.int k n)
  | float (k : FloatKind) (n : Nat) : VR ρ (.float k n) (.float k n)
  | complex (k : FloatKind) (a b : Nat) : VR ρ (.complex k a b) (.complex k a b)
  | string (s : ByteArray) : VR ρ (.string s) (.string s)
  | nilPtr : VR ρ (.pointer none) (.pointer none)
  | ptr {i off : Nat} {g : Gh} (h : ρ i = some g) : VR ρ (.pointer (some ⟨g.blk, g.base + off, none⟩)) (.pointer (some ⟨i, off, none⟩))
  | nilSlice (n c : Nat) : VR ρ (.slice none n c) (.slice none n c)
  | slice {i off len cap cap' : Nat} {g : Gh} (h : ρ i = some g) (h1 : cap = FULL → off + cap' * g.esz = g.room) (h2 : cap ≠ FULL → cap' = cap) (h3 : cap ≠ ANY) (h4 : cap' < 2 ^ 63) :
      VR ρ (.slice (some ⟨g.blk, g.base + off, none⟩) len cap') (.slice (some ⟨i, off, none⟩) len cap)
  | anySlice {a b : Addr} {cap' : Nat} : VR ρ (.slice (some a) 0 cap') (.slice (some b) 0 ANY)
  | nilMap : VR ρ (.map none) (.map none)
  | map {i : Nat} {g : Gh} (h : ρ i = some g) : VR ρ (.map (some g.blk)) (.map (some i))
  | nilChan : VR ρ (.chan none) (.chan none)
  | nilFunc : VR ρ .nilFunc .nilFunc
  | nilIface : VR ρ .nilIface .nilIface
  | iface (t : TypeId) {v v' : Value} (h : VR ρ v v') : VR ρ (.iface t v) (.iface t v')
  | func (fn : Fn) (hp : plainFn fn = true) {x x' c c' : Array Value} (hx : VRs ρ x.toList x'.toList) (hc : VRs ρ c.toList c'.toList) : VR ρ (.func fn x c) (.func fn x' c')
  | yield {l : Nat} {g : Gh} (h : ρ l = some g) : VR ρ (.func (.yield g.blk) #[] #[]) (.func (.yield l) #[] #[])
  | agg {x x' : Array Value} (h : VRs ρ x.toList x'.toList) : VR ρ (.agg x) (.agg x')
  | tuple {x x' : Array Value} (h : VRs ρ x.toList x'.toList) : VR ρ (.tuple x) (.tuple x')
inductive VRs (ρ : Rho) : List Value → List Value → Prop
  | nil : VRs ρ [] []
  | cons {v v' : Value} {l l' : List Value} (h : VR ρ v v') (t : VRs ρ l l') : VRs ρ (v :: l) (v' :: l')
end

def Sub (ρ ρ' : Rho) : Prop := ∀ i g, ρ i = some g → ρ' i = some g

theorem Sub.refl (ρ : Rho) : Sub ρ ρ := fun _ _ h => h
theorem Sub.trans {a b c : Rho} (h : Sub a b) (k : Sub b c) : Sub a c := fun i g e => k i g (h i g e)

mutual
theorem VR.mono {ρ ρ' : Rho} (hs : Sub ρ ρ') : ∀ {c a : Value}, VR ρ c a → VR ρ' c a
  | _, _, .bool b => .bool b
  | _, _, .int k n => .int k n
  | _, _, .float k n => .float k n
  | _, _, .complex k a b => .complex k a b
  | _, _, .string s => .string s
  | _, _, .nilPtr => .nilPtr
  | _, _, .ptr h => .ptr (hs _ _ h)
  | _, _, .nilSlice n c => .nilSlice n c
  | _, _, .slice h h1 h2 h3 h4 => .slice (hs _ _ h) h1 h2 h3 h4
  | _, _, .anySlice => .anySlice
  | _, _, .nilMap => .nilMap
  | _, _, .map h => .map (hs _ _ h)
  | _, _, .nilChan => .nilChan
  | _, _, .nilFunc => .nilFunc
  | _, _, .nilIface => .nilIface
  | _, _, .iface t h => .iface t (VR.mono hs h)
  | _, _, .func fn hp hx hc => .func fn hp (VRs.mono hs hx) (VRs.mono hs hc)
  | _, _, .yield h => .yield (hs _ _ h)
  | _, _, .agg h => .agg (VRs.mono hs h)
  | _, _, .tuple h => .tuple (VRs.mono hs h)
theorem VRs.mono {ρ ρ' : Rho} (hs : Sub ρ ρ') : ∀ {c a : List Value}, VRs ρ c a → VRs ρ' c a
  | _, _, .nil => .nil
  | _, _, .cons h t => .cons (VR.mono hs h) (VRs.mono hs t)
end

section lists
variable {ρ : Rho}

theorem VRs.length : ∀ {c a : List Value}, VRs ρ c a → c.length = a.length
  | _, _, .nil => rfl
  | _, _, .cons _ t => congrArg (· + 1) (VRs.length t)

theorem VRs.get : ∀ {c a : List Value} (_ : VRs ρ c a) (k : Nat) (v : Value), a[k]? = some v → ∃ v', c[k]? = some v' ∧ VR ρ v' v
  | _, _, .nil, k, v, h => by simp at h
  | _, _, .cons h t, 0, v, e => by simp at e; exact ⟨_, rfl, e ▸ h⟩
  | _, _, .cons h t, k + 1, v, e => by simp only [List.getElem?_cons_succ] at e ⊢; exact VRs.get t k v e

theorem VRs.of_get : ∀ {c a : List Value}, c.length = a.length → (∀ (k : Nat) (v : Value), a[k]? = some v → ∃ v', c[k]? = some v' ∧ VR ρ v' v) → VRs ρ c a
  | [], [], _, _ => .nil
  | x :: c, y :: a, h, hg => by
    obtain ⟨v', e, hv⟩ := hg 0 y rfl
    simp at e
    exact .cons (e ▸ hv) (VRs.of_get (by simpa using h) fun k v hk => hg (k + 1) v (by simpa using hk))
  | [], _ :: _, h, _ => by simp at h
  | _ :: _, [], h, _ => by simp at h

theorem VRs.append : ∀ {c a c' a' : List Value}, VRs ρ c a → VRs ρ c' a' → VRs ρ (c ++ c') (a ++ a')
  | _, _, _, _, .nil, h => h
  | _, _, _, _, .cons h t, h' => .cons h (VRs.append t h')

theorem VRs.take : ∀ {c a : List Value} (n : Nat), VRs ρ c a → VRs ρ (c.take n) (a.take n)
  | _, _, 0, _ => by simp; exact .nil
  | _, _, n + 1, .nil => .nil
  | _, _, n + 1, .cons h t => .cons h (VRs.take n t)

theorem VRs.drop : ∀ {c a : List Value} (n : Nat), VRs ρ c a → VRs ρ (c.drop n) (a.drop n)
  | _, _, 0, h => h
  | _, _, n + 1, .nil => .nil
  | _, _, n + 1, .cons _ t => VRs.drop n t

theorem VRs.splice {c a c' a' : List Value} (h : VRs ρ c a) (n : Nat) (h' : VRs ρ c' a') : VRs ρ (Gl.splice c n c') (Gl.splice a n a') := by
  unfold Gl.splice
  rw [h'.length]
  exact ((h.take n).append h').append (h.drop _)

theorem VRs.set : ∀ {c a : List Value} (n : Nat) {x y : Value}, VRs ρ c a → VR ρ x y → VRs ρ (c.set n x) (a.set n y)
  | _, _, _, _, _, .nil, _ => .nil
  | _, _, 0, _, _, .cons _ t, hv => .cons hv t
  | _, _, n + 1, _, _, .cons h t, hv => .cons h (VRs.set n t hv)

theorem VRs.isCell : ∀ {c a : List Value}, VRs ρ c a → c.all Gl.isCell = a.all Gl.isCell
  | _, _, .nil => rfl
  | _, _, .cons h t => by
    simp only [List.all_cons, VRs.isCell t]
    congr 1
    cases h <;> rfl

theorem VRs.map {α : Type} (f g : α → Value) : ∀ (l : List α), (∀ x ∈ l, VR ρ (f x) (g x)) → VRs ρ (l.map f) (l.map g)
  | [], _ => .nil
  | x :: l, h => .cons (h x (by simp)) (VRs.map f g l fun y hy => h y (by simp [hy]))

theorem VR.cells {c a : Value} (h : VR ρ c a) : VRs ρ (cellsV c) (cellsV a) := by
  cases h
  case agg h => exact h
  all_goals first
    | (refine VRs.cons ?_ .nil; constructor <;> assumption)
    | (refine VRs.cons ?_ .nil; constructor)

end lists

mutual
theorem plain_eq {ρ : Rho} : ∀ {c a : Value}, VR ρ c a → ∀ n, plainD n a = true → c = a
  | _, _, .bool _, _, _ => rfl
  | _, _, .int _ _, _, _ => rfl
  | _, _, .float _ _, _, _ => rfl
  | _, _, .complex _ _ _, _, _ => rfl
  | _, _, .string _, _, _ => rfl
  | _, _, .nilPtr, _, _ => rfl
  | _, _, .ptr h, n, hp => by cases n <;> simp [plainD] at hp
  | _, _, .nilSlice _ _, _, _ => rfl
  | _, _, .slice h h1 h2 h3 h4, n, hp => by cases n <;> simp [plainD] at hp
  | _, _, .anySlice, n, hp => by cases n <;> simp [plainD] at hp
  | _, _, .nilMap, _, _ => rfl
  | _, _, .map h, n, hp => by cases n <;> simp [plainD] at hp
  | _, _, .nilChan, _, _ => rfl
  | _, _, .nilFunc, _, _ => rfl
  | _, _, .nilIface, _, _ => rfl
  | _, _, .iface t h, n, hp => by
    cases n with
    | zero => simp [plainD] at hp
    | succ n => simp only [plainD] at hp; rw [plain_eq h n hp]
  | _, _, .func fn hf hx hc, n, hp => by
    cases n with
    | zero => simp [plainD] at hp
    | succ n =>
      simp only [plainD, Bool.and_eq_true] at hp
      have h1 := plains_eq hx n hp.1.2
      have h2 := plains_eq hc n hp.2
      simp only [Array.toList_inj] at h1 h2
      rw [h1, h2]
  | _, _, .yield h, n, hp => by cases n <;> simp [plainD, plainFn] at hp
  | _, _, .agg h, n, hp => by
    cases n with
    | zero => simp [plainD] at hp
    | succ n =>
      simp only [plainD] at hp
      have h1 := plains_eq h n hp
      simp only [Array.toList_inj] at h1
      rw [h1]
  | _, _, .tuple h, n, hp => by
    cases n with
    | zero => simp [plainD] at hp
    | succ n =>
      simp only [plainD] at hp
      have h1 := plains_eq h n hp
      simp only [Array.toList_inj] at h1
      rw [h1]
theorem plains_eq {ρ : Rho} : ∀ {c a : List Value}, VRs ρ c a → ∀ n, a.all (plainD n) = true → c = a
  | _, _, .nil, _, _ => rfl
  | _, _, .cons h t, n, hp => by
    simp only [List.all_cons, Bool.and_eq_true] at hp
    rw [plain_eq h n hp.1, plains_eq t n hp.2]
end

theorem VR.plain {ρ : Rho} {c a : Value} (h : VR ρ c a) (hp : plain a = true) : c = a := plain_eq h 20 hp

theorem plain_refl {ρ : Rho} : ∀ (n : Nat) (a : Value), plainD n a = true → VR ρ a a
  | 0, _, h => by simp [plainD] at h
  | n + 1, a, h => by
    have hs : ∀ l : List Value, l.all (plainD n) = true → VRs ρ l l := by
      intro l
      induction l with
      | nil => exact fun _ => .nil
      | cons x l ih => exact fun hl => by simp only [List.all_cons, Bool.and_eq_true] at hl; exact .cons (plain_refl n x hl.1) (ih hl.2)
    cases a with
    | bool b => exact .bool b
    | int k n => exact .int k n
    | float k n => exact .float k n
    | complex k a b => exact .complex k a b
    | string s => exact .string s
    | pointer a => simp [plainD] at h; subst h; exact .nilPtr
    | slice a l c => simp [plainD] at h; subst h; exact .nilSlice l c
    | map r => simp [plainD] at h; subst h; exact .nilMap
    | chan r => simp [plainD] at h; subst h; exact .nilChan
    | func fn x c =>
      simp only [plainD, Bool.and_eq_true] at h
      exact .func fn h.1.1 (hs _ h.1.2) (hs _ h.2)
    | nilFunc => exact .nilFunc
    | iface t v => exact .iface t (plain_refl n v (by simpa [plainD] using h))
    | nilIface => exact .nilIface
    | agg cs => exact .agg (hs _ (by simpa [plainD] using h))
    | tuple vs => exact .tuple (hs _ (by simpa [plainD] using h))

theorem VR.ofPlain {ρ : Rho} {a : Value} (hp : Gl.plain a = true) : VR ρ a a := plain_refl 20 a hp

theorem VR.undef {ρ : Rho} : VR ρ Go.undef Go.undef := .tuple .nil

/-! ### Blocks -/

def owned : Blk → Bool
  | .cells _ _ rw _ => rw
  | .anyInt => false
  | .table _ => false
  | .dead => false
  | _ => true

def isDead : Blk → Bool
  | .dead => true
  | _ => false

/-- Frames: the temporaries. -/
def FrR (ρ : Rho) (nt : Nat) (tmps : Array Value) (fr : Fr) : Prop := tmps.size = nt ∧ ∀ t, VR ρ (tmps.getD t Go.undef) (fr t)

inductive MapR (ρ : Rho) : List MapEntry → List (Value × Value) → Prop
  | nil : MapR ρ [] []
  | cons {e : MapEntry} {k v : Value} {es : List MapEntry} {l : List (Value × Value)} (hk : VR ρ e.key k) (hv : VR ρ e.val v) (t : MapR ρ es l) : MapR ρ (e :: es) ((k, v) :: l)

/-- The row behind a block of cells. -/
structure RowR (ρ : Rho) (g : Gh) (c : List Value) (esz : Nat) (rw full : Bool) (c' : Array Value) (fz : Nat × Nat) : Prop where
  fits : g.base + g.room ≤ c'.size
  len : c.length ≤ g.room
  full : full = true → c.length = g.room
  esz : g.esz = esz
  get : ∀ k v, c[k]? = some v → ∃ v', c'[g.base + k]? = some v' ∧ VR ρ v' v
  free : rw = true → ∀ k, k < g.room → (decide (fz.1 ≤ g.base + k) && decide (g.base + k < fz.2)) = false
  whole : rw = true → g.base = 0 ∧ c'.size = g.room

/-- The stamps of a map's entries. -/
def Born (es : List MapEntry) (clock : Nat) : Prop := (∀ e ∈ es, e.born < clock) ∧ (es.map (·.born)).Nodup

/-- A loop's code is looked at. -/
def okLoop (G : List Nat) (nt : Nat) (ps : List Nat) (as bd : Code) : Prop := okCode nt G as = true ∧ okCode nt G bd = true ∧ ∀ p ∈ ps, p < nt

def BR (G : List Nat) (ρ : Rho) (heap : Array Obj) (g : Gh) : Blk → Prop
  | .cells c esz rw full => ∃ c' e fz, heap[g.blk]? = some (.cells c' e fz) ∧ RowR ρ g c esz rw full c' fz
  | .map es => ∃ entries clock, heap[g.blk]? = some (.map entries clock) ∧ MapR ρ entries.toList es ∧ Born entries.toList clock
  | .siter s pos => heap[g.blk]? = some (.stringIter s pos) ∧ g.base = 0
  | .loop st pend nt fr ps as bd => ∃ fn tmps dfr, heap[g.blk]? = some (.loop { state := st, pending := pend, fn := fn, tmps := tmps, params := ps.toArray, assign := as, body := bd, defers := dfr }) ∧ FrR ρ nt tmps (toFr fr) ∧ okLoop G nt ps as bd
  | .anyInt => ∃ c' e fz m, heap[g.blk]? = some (.cells c' e fz) ∧ c'[g.base]? = some (.int .i64 m)
  | .table c => ∃ e fz, heap[g.blk]? = some (.cells c.toArray e fz)
  | .dead => True

theorem MapR.mono {ρ ρ' : Rho} (hs : Sub ρ ρ') : ∀ {es : List MapEntry} {l : List (Value × Value)}, MapR ρ es l → MapR ρ' es l
  | _, _, .nil => .nil
  | _, _, .cons hk hv t => .cons (hk.mono hs) (hv.mono hs) (MapR.mono hs t)

theorem FrR.mono {ρ ρ' : Rho} (hs : Sub ρ ρ') {nt : Nat} {tmps : Array Value} {fr : Fr} (h : FrR ρ nt tmps fr) : FrR ρ' nt tmps fr :=
  ⟨h.1, fun t => (h.2 t).mono hs⟩

theorem RowR.mono {ρ ρ' : Rho} (hs : Sub ρ ρ') {g : Gh} {c : List Value} {esz : Nat} {rw full : Bool} {c' : Array Value} {fz : Nat × Nat}
    (h : RowR ρ g c esz rw full c' fz) : RowR ρ' g c esz rw full c' fz :=
  { h with get := fun k v e => let ⟨v', e', hv⟩ := h.get k v e; ⟨v', e', hv.mono hs⟩ }

theorem BR.mono {G : List Nat} {ρ ρ' : Rho} (hs : Sub ρ ρ') {heap heap' : Array Obj} {g : Gh} {b : Blk} (h : BR G ρ heap g b) (he : heap'[g.blk]? = heap[g.blk]?) : BR G ρ' heap' g b := by
  cases b with
  | cells c esz rw full => obtain ⟨c', e, fz, h1, h2⟩ := h; exact ⟨c', e, fz, he.trans h1, h2.mono hs⟩
  | map es => obtain ⟨a, b, h1, h2, h3⟩ := h; exact ⟨a, b, he.trans h1, h2.mono hs, h3⟩
  | siter s pos => exact ⟨he.trans h.1, h.2⟩
  | loop st pend nt fr ps as bd => obtain ⟨a, b, c, h1, h2, h3⟩ := h; exact ⟨a, b, c, he.trans h1, h2.mono hs, h3⟩
  | anyInt => obtain ⟨c', e, fz, m, h1, h2⟩ := h; exact ⟨c', e, fz, m, he.trans h1, h2⟩
  | table c => obtain ⟨e, fz, h1⟩ := h; exact ⟨e, fz, he.trans h1⟩
  | dead => trivial

/-- The abstract memory h, laid out by ρ, says what the heap holds. 'G': the package-level variables that are known. -/
structure Rep (G : List Nat) (ρ : Rho) (heap : Array Obj) (h : Heap) : Prop where
  blk : ∀ i g, ρ i = some g → ∃ b, hget h i = some b ∧ BR G ρ heap g b
  inj : ∀ i j g g' b b', ρ i = some g → ρ j = some g' → hget h i = some b → hget h j = some b' → owned b = true → isDead b' = false → g.blk = g'.blk → i = j
  glob : ∀ i ∈ G, ∃ g, ρ i = some g ∧ g.blk = i ∧ g.base = 0
  lt : ∀ i g, ρ i = some g → g.blk < heap.size

/-- One step: what was there and is nobody's own has not turned. -/
structure Step (ρ : Rho) (w : World) (h : Heap) (ρ' : Rho) (w' : World) (h' : Heap) : Prop where
  sub : Sub ρ ρ'
  new : ∀ i g, ρ' i = some g → ρ i = none → hsz h ≤ i ∧ (w.heap.size ≤ g.blk ∨ ∃ j gj b, ρ j = some gj ∧ hget h j = some b ∧ owned b = true ∧ gj.blk = g.blk)
  size : w.heap.size ≤ w'.heap.size
  keep : ∀ r, r < w.heap.size → (∀ i g b, ρ i = some g → hget h i = some b → owned b = true → g.blk ≠ r) → w'.heap[r]? = w.heap[r]?
  own : ∀ i b', i < hsz h → hget h' i = some b' → owned b' = true → ∃ b, hget h i = some b ∧ owned b = true
  dead : ∀ i b', i < hsz h → hget h' i = some b' → isDead b' = false → ∃ b, hget h i = some b ∧ isDead b = false
  hsize : hsz h ≤ hsz h'
  tot : ∀ i, hsz h ≤ i → i < hsz h' → ∃ g, ρ' i = some g
  os : w'.os = w.os
  tape : w'.tape = w.tape
  output : w'.output = w.output

/-! ### Memory words -/
theorem hget_push (h : Heap) (b : Blk) (i : Nat) : hget (hpush h b) i = if i = hsz h then some b else hget h i := by
  unfold hget hpush hsz
  split
  · subst_vars; simp
  · rename_i hne
    rcases Nat.lt_or_gt_of_ne hne with h1 | h1
    · rw [List.getElem?_append_left h1]
    · rw [List.getElem?_eq_none (by simp; omega), List.getElem?_eq_none (by omega)]
theorem hsz_push (h : Heap) (b : Blk) : hsz (hpush h b) = hsz h + 1 := by simp [hsz, hpush]
theorem hsz_put (h : Heap) (i : Nat) (b : Blk) : hsz (hput h i b) = hsz h := by simp [hsz, hput]
theorem hget_put (h : Heap) (i : Nat) (b : Blk) (j : Nat) : hget (hput h i b) j = if j = i then (if i < hsz h then some b else none) else hget h j := by
  unfold hget hput hsz
  rw [List.getElem?_set]
  by_cases e : i = j
  · subst e; simp
  · rw [if_neg e, if_neg (Ne.symm e)]
theorem hget_lt {h : Heap} {i : Nat} {b : Blk} (e : hget h i = some b) : i < hsz h := (List.getElem?_eq_some_iff.1 e).1
theorem hget_none {h : Heap} {i : Nat} (e : hsz h ≤ i) : hget h i = none := List.getElem?_eq_none e

theorem Rep.rho_lt {G : List Nat} {ρ : Rho} {heap : Array Obj} {h : Heap} (R : Rep G ρ heap h) {i : Nat} {g : Gh} (e : ρ i = some g) : i < hsz h :=
  let ⟨_, hb, _⟩ := R.blk i g e
  hget_lt hb

theorem Rep.rho_none {G : List Nat} {ρ : Rho} {heap : Array Obj} {h : Heap} (R : Rep G ρ heap h) {i : Nat} (e : hsz h ≤ i) : ρ i = none := by
  cases hr : ρ i with
  | none => rfl
  | some g => exact absurd (R.rho_lt hr) (by omega)

theorem Step.refl (ρ : Rho) (w : World) (h : Heap) : Step ρ w h ρ w h :=
  ⟨Sub.refl ρ, fun i g e e' => by simp [e'] at e, Nat.le_refl _, fun _ _ _ => rfl, fun i b _ e o => ⟨b, e, o⟩, fun i b _ e o => ⟨b, e, o⟩, Nat.le_refl _, fun i h1 h2 => by omega, rfl, rfl, rfl⟩

theorem Step.trans {G : List Nat} {ρ ρ' ρ'' : Rho} {w w' w'' : World} {h h' h'' : Heap} (R : Rep G ρ w.heap h) (a : Step ρ w h ρ' w' h') (b : Step ρ' w' h' ρ'' w'' h'') : Step ρ w h ρ'' w'' h'' := {
  sub := a.sub.trans b.sub
  new := fun i g e e' => by
    cases hr : ρ' i with
    | some g' =>
      have := b.sub i g' hr
      rw [e] at this; cases this
      exact a.new i g hr e'
    | none =>
      obtain ⟨h1, h2⟩ := b.new i g e hr
      refine ⟨Nat.le_trans a.hsize h1, ?_⟩
      rcases h2 with h2 | ⟨j, gj, bj, hj, hb, ho, hg⟩
      · exact .inl (Nat.le_trans a.size h2)
      · cases hrj : ρ j with
        | some gj' =>
          have := a.sub j gj' hrj
          rw [hj] at this; cases this
          obtain ⟨b0, hb0, ho0⟩ := a.own j bj (R.rho_lt hrj) hb ho
          exact .inr ⟨j, gj, b0, hrj, hb0, ho0, hg⟩
        | none =>
          rcases (a.new j gj hj hrj).2 with h3 | ⟨j', gj', b', hj', hb', ho', hg'⟩
          · exact .inl (hg ▸ h3)
          · exact .inr ⟨j', gj', b', hj', hb', ho', hg'.trans hg⟩
  size := Nat.le_trans a.size b.size
  keep := fun r hr hk => by
    rw [← a.keep r hr hk]
    refine b.keep r (Nat.lt_of_lt_of_le hr a.size) ?_
    intro i g bi hi hb ho hg
    cases hri : ρ i with
    | some g' =>
      have := a.sub i g' hri
      rw [hi] at this; cases this
      obtain ⟨b0, hb0, ho0⟩ := a.own i bi (R.rho_lt hri) hb ho
      exact hk i g b0 hri hb0 ho0 hg
    | none =>
      rcases (a.new i g hi hri).2 with h3 | ⟨j', gj', b', hj', hb', ho', hg'⟩
      · omega
      · exact hk j' gj' b' hj' hb' ho' (hg'.trans hg)
  own := fun i b'' hi hb ho => by
    obtain ⟨b1, hb1, ho1⟩ := b.own i b'' (Nat.lt_of_lt_of_le hi a.hsize) hb ho
    exact a.own i b1 hi hb1 ho1
  dead := fun i b'' hi hb ho => by
    obtain ⟨b1, hb1, ho1⟩ := b.dead i b'' (Nat.lt_of_lt_of_le hi a.hsize) hb ho
    exact a.dead i b1 hi hb1 ho1
  hsize := Nat.le_trans a.hsize b.hsize
  tot := fun i h1 h2 => by
    rcases Nat.lt_or_ge i (hsz h') with h3 | h3
    · obtain ⟨g, hg⟩ := a.tot i h1 h3
      exact ⟨g, b.sub i g hg⟩
    · exact b.tot i h3 h2
  os := b.os.trans a.os
  tape := b.tape.trans a.tape
  output := b.output.trans a.output }

/-- A draw turns nothing. -/
theorem Step.drew {ρ : Rho} {w : World} {h : Heap} (n : Nat) : Step ρ w h ρ { w with drawn := n } h :=
  ⟨Sub.refl ρ, fun i g e e' => by simp [e'] at e, Nat.le_refl _, fun _ _ _ => rfl, fun i b _ e o => ⟨b, e, o⟩, fun i b _ e o => ⟨b, e, o⟩, Nat.le_refl _, fun i h1 h2 => by omega, rfl, rfl, rfl⟩

def ext (ρ : Rho) (i : Nat) (g : Gh) : Rho := fun j => if j = i then some g else ρ j

theorem ext_same (ρ : Rho) (i : Nat) (g : Gh) : ext ρ i g i = some g := by simp [ext]
theorem ext_sub {ρ : Rho} {i : Nat} {g : Gh} (h : ρ i = none) : Sub ρ (ext ρ i g) := fun j g' e => by
  unfold ext
  split
  · subst_vars; rw [h] at e; cases e
  · exact e

/-- A new block of the machine's, and a new abstract one. -/
theorem Rep.alloc {G : List Nat} {ρ : Rho} {w : World} {h : Heap} (R : Rep G ρ w.heap h) (o : Obj) (b : Blk) (g : Gh) (hg : g.blk = w.heap.size)
    (hb : BR G (ext ρ (hsz h) g) (w.heap.push o) g b) (w' : World) (hw : w'.heap = w.heap.push o) (h1 : w'.os = w.os) (h2 : w'.tape = w.tape) (h3 : w'.output = w.output) :
    Rep G (ext ρ (hsz h) g) w'.heap (hpush h b) ∧ Step ρ w h (ext ρ (hsz h) g) w' (hpush h b) := by
  have hn : ρ (hsz h) = none := R.rho_none (Nat.le_refl _)
  have hsub : Sub ρ (ext ρ (hsz h) g) := ext_sub hn
  have hold : ∀ r, r < w.heap.size → (w.heap.push o)[r]? = w.heap[r]? := fun r hr => by rw [Array.getElem?_push, if_neg (by omega)]
  have hcase : ∀ i g', ext ρ (hsz h) g i = some g' → (i = hsz h ∧ g' = g) ∨ (i ≠ hsz h ∧ ρ i = some g') := fun i g' e => by
    unfold ext at e
    split at e
    · rename_i hi; exact .inl ⟨hi, by cases e; rfl⟩
    · rename_i hi; exact .inr ⟨hi, e⟩
  refine ⟨⟨?_, ?_, ?_, ?_⟩, ⟨hsub, ?_, ?_, ?_, ?_, ?_, ?_, ?_, h1, h2, h3⟩⟩
  · intro i g' e
    rw [hw]
    rcases hcase i g' e with ⟨rfl, rfl⟩ | ⟨hi, e'⟩
    · exact ⟨b, by rw [hget_push, if_pos rfl], hb⟩
    · obtain ⟨b', hb', hr⟩ := R.blk i g' e'
      exact ⟨b', by rw [hget_push, if_neg hi]; exact hb', hr.mono hsub (hold _ (R.lt i g' e'))⟩
  · intro i j gi gj bi bj ei ej hbi hbj ho hd hgg
    rw [hget_push] at hbi hbj
    rcases hcase i gi ei with ⟨rfl, rfl⟩ | ⟨hi, ei'⟩ <;> rcases hcase j gj ej with ⟨rfl, rfl⟩ | ⟨hj, ej'⟩
    · rfl
    · have := R.lt j gj ej'; omega
    · have := R.lt i gi ei'; omega
    · rw [if_neg hi] at hbi
      rw [if_neg hj] at hbj
      exact R.inj i j gi gj bi bj ei' ej' hbi hbj ho hd hgg
  · intro i hi
    obtain ⟨g', e, h4⟩ := R.glob i hi
    exact ⟨g', hsub i g' e, h4⟩
  · intro i g' e
    rw [hw, Array.size_push]
    rcases hcase i g' e with ⟨rfl, rfl⟩ | ⟨hi, e'⟩
    · omega
    · have := R.lt i g' e'; omega
  · intro i g' e e'
    rcases hcase i g' e with ⟨rfl, rfl⟩ | ⟨hi, e''⟩
    · exact ⟨Nat.le_refl _, .inl (by omega)⟩
    · rw [e'] at e''; cases e''
  · rw [hw, Array.size_push]; omega
  · intro r hr _
    rw [hw]; exact hold r hr
  · intro i b' hi hb' ho
    rw [hget_push, if_neg (by omega)] at hb'
    exact ⟨b', hb', ho⟩
  · intro i b' hi hb' ho
    rw [hget_push, if_neg (by omega)] at hb'
    exact ⟨b', hb', ho⟩
  · rw [hsz_push]; omega
  · intro i h1 h2
    rw [hsz_push] at h2
    have : i = hsz h := by omega
    subst this
    exact ⟨g, ext_same ρ _ g⟩

/-- One owned block is turned. -/
theorem Rep.update {G : List Nat} {ρ : Rho} {w w' : World} {h : Heap} (R : Rep G ρ w.heap h) {i : Nat} {g : Gh} {b b2 : Blk} (hi : ρ i = some g) (hb : hget h i = some b)
    (ho : owned b = true) (hs : w'.heap.size = w.heap.size) (hk : ∀ r, r ≠ g.blk → w'.heap[r]? = w.heap[r]?) (hb2 : BR G ρ w'.heap g b2)
    (h1 : w'.os = w.os) (h2 : w'.tape = w.tape) (h3 : w'.output = w.output) :
    Rep G ρ w'.heap (hput h i b2) ∧ Step ρ w h ρ w' (hput h i b2) := by
  have hlt := hget_lt hb
  have hget2 : ∀ j, hget (hput h i b2) j = if j = i then some b2 else hget h j := fun j => by
    rw [hget_put]; split <;> simp_all
  refine ⟨⟨?_, ?_, R.glob, ?_⟩, ⟨Sub.refl ρ, fun j g' e e' => by simp [e'] at e, by omega, ?_, ?_, ?_, by rw [hsz_put]; omega, fun j h1 h2 => by rw [hsz_put] at h2; omega, h1, h2, h3⟩⟩
  · intro j g' e
    by_cases hj : j = i
    · subst hj
      rw [hi] at e; cases e
      exact ⟨b2, by rw [hget2, if_pos rfl], hb2⟩
    · obtain ⟨bj, hbj, hr⟩ := R.blk j g' e
      refine ⟨bj, by rw [hget2, if_neg hj]; exact hbj, ?_⟩
      by_cases hd : isDead bj = true
      · cases bj <;> simp [isDead] at hd
        trivial
      · have : g'.blk ≠ g.blk := fun hgg => hj (R.inj i j g g' b bj hi e hb hbj ho (by simpa using hd) hgg.symm).symm
        exact hr.mono (Sub.refl ρ) (hk _ this)
  · intro i' j' gi gj bi bj ei ej hbi hbj hoi hd hgg
    rw [hget2] at hbi hbj
    by_cases hi' : i' = i <;> by_cases hj' : j' = i
    · rw [hi', hj']
    · subst hi'
      rw [hi] at ei; cases ei
      rw [if_neg hj'] at hbj
      exact R.inj i' j' g gj b bj hi ej hb hbj ho hd hgg
    · subst hj'
      rw [if_neg hi'] at hbi
      rw [hi] at ej; cases ej
      have hdb : isDead b = false := by cases b <;> simp [owned, isDead] at ho ⊢
      exact R.inj i' j' gi g bi b ei hi hbi hb hoi hdb hgg
    · rw [if_neg hi'] at hbi
      rw [if_neg hj'] at hbj
      exact R.inj i' j' gi gj bi bj ei ej hbi hbj hoi hd hgg
  · intro j g' e; rw [hs]; exact R.lt j g' e
  · intro r _ hr
    exact hk r (fun e => hr i g b hi hb ho e.symm)
  · intro j b' hj hb' ho'
    rw [hget2] at hb'
    by_cases e : j = i
    · subst e; exact ⟨b, hb, ho⟩
    · rw [if_neg e] at hb'; exact ⟨b', hb', ho'⟩
  · intro j b' hj hb' ho'
    rw [hget2] at hb'
    by_cases e : j = i
    · subst e; exact ⟨b, hb, by cases b <;> simp [owned, isDead] at ho ⊢⟩
    · rw [if_neg e] at hb'; exact ⟨b', hb', ho'⟩

end Gl
end

/- The operations on memory: what the evaluator says of them, the machine does. -/
section
namespace Gl
open Go

section
variable {P : Program}

theorem run_und {t : TypeId} {ti : TI} (h : tinfo P t = some ti) (w : World) : (underlying t).run P w = .ok ti.u w := by
  unfold tinfo at h
  split at h <;> simp at h
  rename_i i u hi hu
  subst h
  simp [underlying, hu]

theorem run_tinf {t : TypeId} {ti : TI} (h : tinfo P t = some ti) (w : World) :
    ∃ i, (typeInfo t).run P w = .ok i w ∧ i.size = ti.sz ∧ i.zero = ti.zero ∧ i.bytes = ti.bytes := by
  unfold tinfo at h
  split at h <;> simp at h
  rename_i i u hi hu
  subst h
  exact ⟨i, by simp [typeInfo, hi], rfl, rfl, rfl⟩

theorem run_size {t : TypeId} {ti : TI} (h : tinfo P t = some ti) (w : World) : (Go.sizeOf t).run P w = .ok ti.sz w := by
  obtain ⟨i, h1, h2, _⟩ := run_tinf h w
  simp [Go.sizeOf, h1, h2]

theorem run_zero {t : TypeId} {ti : TI} {z : Value} (h : tinfo P t = some ti) (hz : ti.zero = some z) (w : World) : (zeroValue t).run P w = .ok z w := by
  obtain ⟨i, h1, _, h2, _⟩ := run_tinf h w
  simp [zeroValue, h1, h2, hz]

theorem run_agg {t : TypeId} {ti : TI} (h : tinfo P t = some ti) (w : World) : (isAgg t).run P w = .ok ti.isAgg w := by
  unfold isAgg
  simp only [Sem.run_bind, run_und h, Result.andThen_ok, TI.isAgg]
  cases ti.u <;> rfl

end

theorem add_none (r o n : Nat) : (⟨r, o, none⟩ : Addr).add n = ⟨r, o + n, none⟩ := by
  unfold Addr.add; split <;> simp_all

theorem cell_at {w : World} {r : Nat} {c : Array Value} {e : TypeId} {fz : Nat × Nat} (h : w.heap[r]? = some (.cells c e fz)) (o : Nat) : w.cell? ⟨r, o, none⟩ = c[o]? := by
  simp [World.cell?, h]

section
variable {G : List Nat} {ρ : Rho} {w : World} {h : Heap} {P : Program}

theorem read_ok (R : Rep G ρ w.heap h) {i off n : Nat} {g : Gh} {l : List Value} (hi : ρ i = some g) (hr : readCells h i off n = some l) :
    ∃ cl, VRs ρ cl l ∧ l.length = n ∧ ∀ j v, cl[j]? = some v → w.cell? ⟨g.blk, g.base + off + j, none⟩ = some v := by
  unfold readCells at hr
  split at hr <;> try (simp at hr; done)
  rename_i c esz rw full hb
  split at hr <;> simp at hr
  rename_i hle
  obtain ⟨b, hb', hR⟩ := R.blk i g hi
  rw [hb] at hb'; cases hb'
  obtain ⟨c', e, fz, hc, hrow⟩ := hR
  have hln : l.length = n := by rw [← hr]; simp; omega
  have key : ∀ (k : Nat) (v : Value), l[k]? = some v → ∃ v', c'[g.base + off + k]? = some v' ∧ VR ρ v' v := by
    intro k v hk
    have hk' : c[off + k]? = some v := by
      rw [← hr, List.getElem?_take] at hk
      split at hk
      · rwa [List.getElem?_drop] at hk
      · cases hk
    obtain ⟨v', h1, h2⟩ := hrow.get _ v hk'
    exact ⟨v', by rw [Nat.add_assoc]; exact h1, h2⟩
  have hsz : g.base + off + n ≤ c'.size := by have := hrow.fits; have := hrow.len; omega
  refine ⟨(c'.toList.drop (g.base + off)).take n, VRs.of_get ?_ ?_, hln, ?_⟩
  · simp [hln]; omega
  · intro k v hk
    obtain ⟨v', h1, h2⟩ := key k v hk
    have hkn : k < n := by
      have := (List.getElem?_eq_some_iff.1 hk).1; omega
    refine ⟨v', ?_, h2⟩
    rw [List.getElem?_take, if_pos hkn, List.getElem?_drop]
    simpa using h1
  · intro j v hj
    rw [cell_at hc]
    rw [List.getElem?_take] at hj
    split at hj
    · rw [List.getElem?_drop] at hj
      simpa using hj
    · cases hj

theorem loadCells_ok {r o n : Nat} {cl : List Value} (hn : cl.length = n) (h : ∀ (j : Nat) (v : Value), cl[j]? = some v → w.cell? ⟨r, o + j, none⟩ = some v) :
    (loadCells ⟨r, o, none⟩ n).run P w = .ok cl.toArray w := by
  subst hn
  exact run_loadCells_list w _ cl fun j v hj => by rw [add_none]; exact h j v hj

theorem loadT_ok (R : Rep G ρ w.heap h) {t : TypeId} {ti : TI} {i off : Nat} {g : Gh} {v : Value} (ht : tinfo P t = some ti) (hi : ρ i = some g) (hl : loadT ti h i off = some v) :
    ∃ vc, (loadVar t ⟨g.blk, g.base + off, none⟩).run P w = .ok vc w ∧ VR ρ vc v := by
  unfold loadT at hl
  unfold loadVar
  simp only [Sem.run_bind, run_agg ht, Result.andThen_ok]
  split at hl
  · rename_i ha
    simp only [ha, if_true]
    cases hr : readCells h i off ti.sz with
    | none => rw [hr] at hl; simp at hl
    | some l =>
      rw [hr] at hl; simp at hl
      obtain ⟨cl, h1, h2, h3⟩ := read_ok R hi hr
      have hlc := loadCells_ok (P := P) (h1.length.trans h2) h3
      refine ⟨.agg cl.toArray, ?_, ?_⟩
      · simp only [Sem.run_bind, run_size ht, Result.andThen_ok, hlc, Sem.run_pure]
      · subst hl
        exact .agg (by simpa using h1)
  · rename_i ha
    simp only [ha]
    split at hl <;> try (simp at hl; done)
    rename_i x hr
    simp at hl
    subst hl
    obtain ⟨cl, h1, h2, h3⟩ := read_ok R hi hr
    obtain ⟨v', e1, e2⟩ := h1.get 0 x rfl
    have := h3 0 v' e1
    refine ⟨v', ?_, e2⟩
    simp only [Nat.add_zero] at this
    simp [this]

theorem aload_ok (R : Rep G ρ w.heap h) {t : TypeId} {a ca v : Value} (hv : VR ρ ca a) (hl : aload P h t a = some v) :
    ∃ vc, (Instr.loadAt t ca).run P w = .ok vc w ∧ VR ρ vc v := by
  unfold aload at hl
  split at hl <;> try (simp at hl; done)
  rename_i ti i off ht
  cases hv with
  | ptr hi =>
    obtain ⟨vc, h1, h2⟩ := loadT_ok R ht hi hl
    exact ⟨vc, by simp [Instr.loadAt, Instr.sureAddr, h1], h2⟩

/-! ### Stores -/

theorem splice_length {c new : List Value} {off : Nat} (h : off + new.length ≤ c.length) : (splice c off new).length = c.length := by
  unfold splice; simp; omega

theorem splice_get {c new : List Value} {off k : Nat} (h : off + new.length ≤ c.length) :
    (splice c off new)[k]? = if off ≤ k ∧ k < off + new.length then new[k - off]? else c[k]? := by
  unfold splice
  rw [List.append_assoc]
  rcases Nat.lt_or_ge k off with hk | hk
  · rw [List.getElem?_append_left (by simp; omega), List.getElem?_take, if_pos hk, if_neg (by omega)]
  · rw [List.getElem?_append_right (by simp; omega)]
    simp only [List.length_take]
    have e : min off c.length = off := by omega
    rw [e]
    rcases Nat.lt_or_ge (k - off) new.length with hl | hl
    · rw [List.getElem?_append_left hl, if_pos (by omega)]
    · rw [List.getElem?_append_right hl, List.getElem?_drop, if_neg (by omega)]
      congr 1; omega

theorem splice_cons {c vs : List Value} {n : Nat} {v : Value} (h : n + 1 + vs.length ≤ c.length) : splice (c.set n v) (n + 1) vs = splice c n (v :: vs) := by
  apply List.ext_getElem?
  intro k
  rw [splice_get (by simp; omega), splice_get (by simp; omega)]
  simp only [List.length_cons]
  by_cases h1 : n + 1 ≤ k ∧ k < n + 1 + vs.length
  · rw [if_pos h1, if_pos (by omega), show k - n = (k - (n + 1)) + 1 by omega, List.getElem?_cons_succ]
  · rw [if_neg h1]
    by_cases h2 : k = n
    · subst h2
      rw [if_pos (by omega), List.getElem?_set_self (by omega)]
      simp
    · rw [if_neg (by omega), List.getElem?_set_ne (Ne.symm h2)]


theorem oneCell_of {v : Value} (h : isCell v = true) : v.oneCell' = true := by cases v <;> simp_all [isCell, Value.oneCell']

/-- Cells in a row, one after the other. -/
theorem storeCells_ok : ∀ (vs : List Value) (w : World) (r o i : Nat) (c : Array Value) (e : TypeId) (fz : Nat × Nat), w.heap[r]? = some (.cells c e fz) → o + i + vs.length ≤ c.size →
    vs.all isCell = true → (∀ k, o + i ≤ k → k < o + i + vs.length → (decide (fz.1 ≤ k) && decide (k < fz.2)) = false) →
    ∃ w' c', (storeCells ⟨r, o, none⟩ vs i).run P w = .ok () w' ∧ w'.heap[r]? = some (.cells c' e fz) ∧ c'.toList = splice c.toList (o + i) vs ∧ w'.heap.size = w.heap.size ∧
      (∀ k, k ≠ r → w'.heap[k]? = w.heap[k]?) ∧ w'.os = w.os ∧ w'.tape = w.tape ∧ w'.output = w.output
  | [], w, r, o, i, c, e, fz, hc, _, _, _ => ⟨w, c, rfl, hc, by simp [splice], rfl, fun _ _ => rfl, rfl, rfl, rfl⟩
  | v :: vs, w, r, o, i, c, e, fz, hc, hle, hcell, hfree => by
    simp only [List.all_cons, Bool.and_eq_true] at hcell
    simp only [List.length_cons] at hle hfree
    have hcl : w.cell? ⟨r, o + i, none⟩ = some c[o + i] := by rw [cell_at hc]; exact Array.getElem?_eq_getElem _
    have hfz : w.frozen? ⟨r, o + i, none⟩ = false := by
      simp only [World.frozen?, hc]
      exact hfree (o + i) (Nat.le_refl _) (by omega)
    obtain ⟨w1, hw1⟩ : ∃ w1, w1 = w.setCell ⟨r, o + i, none⟩ v := ⟨_, rfl⟩
    have hc1 : w1.heap[r]? = some (.cells (c.setIfInBounds (o + i) v) e fz) := by
      rw [hw1]; simp [World.setCell, Array.getElem?_modify, hc]
    have ho1 : ∀ k, k ≠ r → w1.heap[k]? = w.heap[k]? := fun k hk => by
      rw [hw1]; simp only [World.setCell, Array.getElem?_modify]; rw [if_neg (fun e => hk e.symm)]
    obtain ⟨w', c', h1, h2, h3, h4, h5, h6, h7, h8⟩ := storeCells_ok vs w1 r o (i + 1) _ e fz hc1 (by simp; omega) hcell.2 (fun k hk1 hk2 => hfree k (by omega) (by omega))
    refine ⟨w', c', ?_, h2, ?_, ?_, fun k hk => (h5 k hk).trans (ho1 k hk), ?_, ?_, ?_⟩
    · simp only [storeCells, add_none, Sem.run_bind, run_store P w _ _ _ (oneCell_of hcell.1), hcl, hfz, Result.andThen_ok]
      rw [← hw1]; exact h1
    · rw [h3]
      rw [Array.toList_setIfInBounds, show o + (i + 1) = o + i + 1 by omega, splice_cons (by simp; omega)]
    · rw [h4, hw1]; simp [World.setCell]
    · rw [h6, hw1]; rfl
    · rw [h7, hw1]; rfl
    · rw [h8, hw1]; rfl

/-- Cells are written in an owned block. -/
theorem write_ok (R : Rep G ρ w.heap h) {i off : Nat} {g : Gh} {new cnew : List Value} {h' : Heap} (hi : ρ i = some g) (hw : writeCells h i off new = some h') (hn : VRs ρ cnew new)
    (hcell : new.all isCell = true) :
    ∃ w', (storeCells ⟨g.blk, g.base + off, none⟩ cnew).run P w = .ok () w' ∧ Rep G ρ w'.heap h' ∧ Step ρ w h ρ w' h' := by
  unfold writeCells at hw
  split at hw <;> try (simp at hw; done)
  rename_i c esz full hb
  split at hw <;> simp at hw
  rename_i hle
  obtain ⟨b, hb', hR⟩ := R.blk i g hi
  rw [hb] at hb'; cases hb'
  obtain ⟨c', e, fz, hc, hrow⟩ := hR
  have hfits := hrow.fits
  have hlen := hrow.len
  have hnl := hn.length
  obtain ⟨w', c2, h1, h2, h3, h4, h5, h6, h7, h8⟩ := storeCells_ok (P := P) cnew w g.blk (g.base + off) 0 c' e fz hc (by omega) (by rw [hn.isCell]; exact hcell)
    (fun k hk1 hk2 => by
      have := hrow.free rfl (k - g.base) (by omega)
      rwa [show g.base + (k - g.base) = k by omega] at this)
  have hc2 : c2.size = c'.size := by
    have := congrArg List.length h3
    rw [splice_length (by simp; omega)] at this
    simpa using this
  subst hw
  obtain ⟨hR', hS⟩ := R.update (w' := w') hi hb rfl h4 h5 (b2 := .cells (splice c off new) esz true full) ⟨c2, e, fz, h2, {
      fits := by omega
      len := by rw [splice_length hle]; omega
      full := fun hf => by rw [splice_length hle]; exact hrow.full hf
      esz := hrow.esz
      get := fun k v hk => by
        rw [splice_get hle] at hk
        have hg : ∀ (j : Nat), c2[j]? = (splice c'.toList (g.base + off + 0) cnew)[j]? := fun j => by rw [← h3]; simp
        rw [hg, splice_get (by simp; omega)]
        by_cases hin : off ≤ k ∧ k < off + new.length
        · rw [if_pos hin] at hk
          rw [if_pos (by omega)]
          obtain ⟨v', e1, e2⟩ := hn.get _ v hk
          exact ⟨v', by rw [show g.base + k - (g.base + off + 0) = k - off by omega]; exact e1, e2⟩
        · rw [if_neg hin] at hk
          rw [if_neg (by omega)]
          simpa using hrow.get k v hk
      free := hrow.free
      whole := fun ht => by rw [hc2]; exact hrow.whole ht }⟩ h6 h7 h8
  exact ⟨w', h1, hR', hS⟩

theorem astore_ok (R : Rep G ρ w.heap h) {t : TypeId} {a ca v vc : Value} {h' : Heap} (ha : VR ρ ca a) (hv : VR ρ vc v) (hs : astore P h t a v = some h') :
    ∃ w', (Instr.storeAt t ca vc).run P w = .ok () w' ∧ Rep G ρ w'.heap h' ∧ Step ρ w h ρ w' h' := by
  unfold astore at hs
  split at hs <;> try (simp at hs; done)
  rename_i ti i off ht
  split at hs <;> try (simp at hs; done)
  rename_i hc
  cases ha with
  | ptr hi =>
    obtain ⟨w', h1, h2, h3⟩ := write_ok (P := P) R hi hs hv.cells hc.2
    refine ⟨w', ?_, h2, h3⟩
    have hsz : vc.cells.size = ti.sz := by
      have := hv.cells.length
      unfold cellsV at this
      have h0 := hc.1
      unfold cellsV at h0
      simp at this h0
      omega
    unfold Instr.storeAt storeVar
    simp only [Instr.sureAddr, Sem.run_bind, Sem.run_pure, Result.andThen_ok, run_size ht, hsz, ne_eq, not_true_eq_false, if_false]
    exact h1

end
end Gl
end

/- The operations that make memory, and those that only compute: what the evaluator says of them, the machine does. -/
section
namespace Gl
open Go

/-- A run comes to a value and a memory that the abstract ones stand for. -/
def RunTo (G : List Nat) (P : Program) (s : Sem Value) (ρ : Rho) (w : World) (h : Heap) (v : Value) (h' : Heap) : Prop :=
  ∃ w' ρ' vc, s.run P w = .ok vc w' ∧ VR ρ' vc v ∧ Rep G ρ' w'.heap h' ∧ Step ρ w h ρ' w' h'

section
variable {G : List Nat} {ρ : Rho} {w : World} {h : Heap} {P : Program}

theorem RunTo.same {s : Sem Value} {v vc : Value} (R : Rep G ρ w.heap h) (hr : s.run P w = .ok vc w) (hv : VR ρ vc v) : RunTo G P s ρ w h v h :=
  ⟨w, ρ, vc, hr, hv, R, Step.refl ρ w h⟩

theorem newCells_ok (R : Rep G ρ w.heap h) (cl : Array Value) (c : List Value) (esz : Nat) (full : Bool) (e : TypeId) (fz : Nat × Nat)
    (hv : VRs ρ (cl.toList.take c.length) c) (hfull : full = true → c.length = cl.size) (hfz : ∀ k, k < cl.size → (decide (fz.1 ≤ k) && decide (k < fz.2)) = false)
    (w' : World) (hw : w'.heap = w.heap.push (.cells cl e fz)) (h1 : w'.os = w.os) (h2 : w'.tape = w.tape) (h3 : w'.output = w.output) :
    Rep G (ext ρ (hsz h) ⟨w.heap.size, 0, cl.size, esz⟩) w'.heap (hpush h (.cells c esz true full)) ∧
      Step ρ w h (ext ρ (hsz h) ⟨w.heap.size, 0, cl.size, esz⟩) w' (hpush h (.cells c esz true full)) := by
  have hsub : Sub ρ (ext ρ (hsz h) ⟨w.heap.size, 0, cl.size, esz⟩) := ext_sub (R.rho_none (Nat.le_refl _))
  have hln : c.length ≤ cl.size := by have := hv.length; simp at this; omega
  refine R.alloc (.cells cl e fz) (.cells c esz true full) ⟨w.heap.size, 0, cl.size, esz⟩ rfl ?_ w' hw h1 h2 h3
  refine ⟨cl, e, fz, by simp, ?_⟩
  exact {
    fits := by simp
    len := hln
    full := hfull
    esz := rfl
    get := fun k v hk => by
      obtain ⟨v', e1, e2⟩ := hv.get k v hk
      rw [List.getElem?_take] at e1
      split at e1
      · exact ⟨v', by simpa using e1, e2.mono hsub⟩
      · cases e1
    free := fun _ k hk => by simpa using hfz k hk
    whole := fun _ => ⟨rfl, rfl⟩ }

theorem VR.ptr0 {i : Nat} {g : Gh} (h : ρ i = some g) (hb : g.base = 0) : VR ρ (.pointer (some ⟨g.blk, 0, none⟩)) (.pointer (some ⟨i, 0, none⟩)) := by
  have := VR.ptr (off := 0) h
  rwa [hb] at this

theorem newVar_ok (R : Rep G ρ w.heap h) (t : TypeId) {v vc : Value} (hv : VR ρ vc v) :
    RunTo G P (do pure (.pointer (some (← newVar t vc)))) ρ w h (anew h (cellsV v)).1 (anew h (cellsV v)).2 := by
  have hc := hv.cells
  have hl := hc.length
  obtain ⟨h1, h2⟩ := newCells_ok R vc.cells (cellsV v) (cellsV v).length true t (0, 0) (by rw [← hl, List.take_of_length_le (by simp [cellsV])]; exact hc)
    (fun _ => by rw [← hl]; simp [cellsV]) (fun k _ => by simp) { w with heap := w.heap.push (.cells vc.cells t) } rfl rfl rfl rfl
  refine ⟨_, _, _, by simp [newVar, newRow]; rfl, ?_, h1, h2⟩
  exact VR.ptr0 (ext_same _ _ _) rfl

theorem alloc_ok (R : Rep G ρ w.heap h) {t : TypeId} {ti : TI} {z : Value} (ht : tinfo P t = some ti) (hz : ti.zero = some z) (hp : plain z = true) :
    RunTo G P (Instr.alloc t true (.tuple #[])) ρ w h (anew h (cellsV z)).1 (anew h (cellsV z)).2 := by
  obtain ⟨w', ρ', vc, h1, h2⟩ := newVar_ok (P := P) R t (VR.ofPlain hp)
  refine ⟨w', ρ', vc, ?_, h2⟩
  unfold Instr.alloc
  simp only [Sem.run_bind, run_zero ht hz, Result.andThen_ok]
  simpa using h1

/-! ### Values put together -/

theorem foldl_splice : ∀ (vs : List Value) (cells : Array Value) (off j : Nat), off + j + vs.length ≤ cells.size →
    (((vs.zipIdx j).foldl (fun cs (x : Value × Nat) => cs.setIfInBounds (off + x.2) x.1) cells)).toList = splice cells.toList (off + j) vs
  | [], cells, off, j, _ => by simp [splice]
  | v :: vs, cells, off, j, hl => by
    simp only [List.length_cons] at hl
    rw [List.zipIdx_cons, List.foldl_cons, foldl_splice vs _ off (j + 1) (by simp; omega)]
    simp only [Array.toList_setIfInBounds]
    rw [show off + (j + 1) = off + j + 1 by omega, splice_cons (by simp; omega)]

theorem fill_ok {placec : Nat → Option (Nat × Nat)} {place : Nat → Option (Nat × Nat)} (hp : ∀ i x, place i = some x → placec i = some x) :
    ∀ {parts cparts : List (Nat × Value)} {cells : List Value} {ccells : Array Value} {out : List Value},
    cparts.length = parts.length → (∀ (k i : Nat) (v : Value), parts[k]? = some (i, v) → ∃ vc, cparts[k]? = some (i, vc) ∧ VR ρ vc v) → VRs ρ ccells.toList cells → fillA place cells parts = some out →
    ∃ cout, Instr.fill placec ccells cparts = some cout ∧ VRs ρ cout.toList out
  | [], cparts, cells, ccells, out, hl, hg, hc, hf => by
    have : cparts = [] := by simpa using hl
    subst this
    simp only [fillA, Option.some.injEq] at hf
    subst hf
    exact ⟨ccells, rfl, hc⟩
  | (i, v) :: parts, cparts, cells, ccells, out, hl, hg, hc, hf => by
    obtain ⟨vc, e, hv⟩ := hg 0 i v rfl
    cases cparts with
    | nil => simp at e
    | cons p cparts =>
      simp at e; subst e
      simp only [fillA] at hf
      cases hpl : place i with
      | none => rw [hpl] at hf; simp at hf
      | some x =>
        obtain ⟨off, size⟩ := x
        rw [hpl] at hf
        simp only at hf
        split at hf <;> try (simp at hf; done)
        rename_i hcond
        have hvl : (cellsV vc).length = (cellsV v).length := hv.cells.length
        have hcl : ccells.size = cells.length := by have := hc.length; simpa using this
        have hvs : vc.cells.size = (cellsV v).length := by rw [← hvl]; simp [cellsV]
        have hcond' : (cellsV v).length = size ∧ off + (cellsV v).length ≤ cells.length := by
          constructor
          · exact Classical.byContradiction fun h => hcond (.inl h)
          · exact Nat.le_of_not_lt fun h => hcond (.inr h)
        obtain ⟨cc2, hcc2⟩ : ∃ cc2, cc2 = vc.cells.zipIdx.foldl (fun cs (c, j) => cs.setIfInBounds (off + j) c) ccells := ⟨_, rfl⟩
        have hsp : cc2.toList = splice ccells.toList off (cellsV vc) := by
          rw [hcc2, ← Array.foldl_toList, Array.toList_zipIdx]
          exact foldl_splice (cellsV vc) ccells off 0 (by rw [hvl]; omega)
        obtain ⟨cout, h1, h2⟩ := fill_ok hp (cparts := cparts) (ccells := cc2) (by simpa using hl) (fun k i v hk => hg (k + 1) i v (by simpa using hk))
          (by rw [hsp]; exact hc.splice off hv.cells) hf
        refine ⟨cout, ?_, h2⟩
        simp only [Instr.fill, hp i _ hpl, hvs, hcond'.1, hcl]
        rw [if_neg (by simp; omega), ← hcc2]
        exact h1

theorem parts_ok {ps : List (Nat × Operand)} {evc : Operand → Value} {fr : Fr} (h : ∀ p ∈ ps, VR ρ (evc p.2) (feval fr p.2)) :
    (ps.map fun (i, x) => (i, evc x)).length = (ps.map fun (i, x) => (i, feval fr x)).length ∧
    ∀ (k i : Nat) (v : Value), (ps.map fun (i, x) => (i, feval fr x))[k]? = some (i, v) → ∃ vc, (ps.map fun (i, x) => (i, evc x))[k]? = some (i, vc) ∧ VR ρ vc v := by
  refine ⟨by simp, fun k i v hk => ?_⟩
  rw [List.getElem?_map] at hk ⊢
  cases hp : ps[k]? with
  | none => rw [hp] at hk; simp at hk
  | some p =>
    rw [hp] at hk
    simp at hk
    obtain ⟨rfl, rfl⟩ := hk
    exact ⟨evc p.2, by simp, h p (List.mem_of_getElem? hp)⟩

/-- The places of a struct's fields. -/
theorem run_places (fs : Array Go.Field) (hall : ∀ f ∈ fs, (tinfo P f.type).isSome) (w : World) :
    ∃ places : Array (Nat × Nat), (fs.mapM fun f => do pure (f.offset, ← Go.sizeOf f.type) : Sem (Array (Nat × Nat))).run P w = .ok places w ∧ ∀ i x, fieldPlaces P fs i = some x → places[i]? = some x := by
  obtain ⟨fs⟩ := fs
  rw [List.mapM_toArray]
  have key : ∀ (l : List Go.Field), (∀ f ∈ l, (tinfo P f.type).isSome) → ∃ places : List (Nat × Nat),
      (l.mapM fun f => do pure (f.offset, ← Go.sizeOf f.type) : Sem (List (Nat × Nat))).run P w = .ok places w ∧ ∀ (i : Nat) x, fieldPlaces P l.toArray i = some x → places[i]? = some x := by
    intro l
    induction l with
    | nil => intro _; exact ⟨[], rfl, fun i x hx => by simp [fieldPlaces] at hx⟩
    | cons f l ih =>
      intro hl
      obtain ⟨places, h1, h2⟩ := ih fun g hg => hl g (by simp [hg])
      obtain ⟨tf, htf⟩ := Option.isSome_iff_exists.1 (hl f (by simp))
      refine ⟨(f.offset, tf.sz) :: places, ?_, ?_⟩
      · simp only [List.mapM_cons, Sem.run_bind, run_size htf, Result.andThen_ok, Sem.run_pure, h1]
      · intro i x hx
        cases i with
        | zero => simp [fieldPlaces, htf] at hx; simp [hx]
        | succ i => simp only [List.getElem?_cons_succ]; exact h2 i x (by simpa [fieldPlaces] using hx)
  obtain ⟨places, h1, h2⟩ := key fs (fun f hf => hall f (by simpa using hf))
  exact ⟨places.toArray, by simp only [Sem.run_map, h1, Result.andThen_ok], fun i x hx => by simpa using h2 i x hx⟩

end
end Gl
end

/- Further operations: aggregates, addresses, slices. -/
section
namespace Gl
open Go

section
variable {G : List Nat} {ρ : Rho} {w : World} {h : Heap} {P : Program}

theorem abuild_ok (R : Rep G ρ w.heap h) {t : TypeId} {parts cparts : List (Nat × Value)} {v : Value} (hl : cparts.length = parts.length)
    (hg : ∀ (k i : Nat) (v : Value), parts[k]? = some (i, v) → ∃ vc, cparts[k]? = some (i, vc) ∧ VR ρ vc v) (hb : abuild P t parts = some v) :
    RunTo G P (Instr.build t cparts.toArray) ρ w h v h := by
  unfold abuild at hb
  split at hb <;> try (simp at hb; done)
  rename_i ti ht
  split at hb <;> try (simp at hb; done)
  · rename_i z fs hz hu
    split at hb <;> try (simp at hb; done)
    rename_i hc
    simp only [Bool.and_eq_true, List.all_eq_true] at hc
    obtain ⟨places, h1, h2⟩ := run_places (P := P) fs (fun f hf => hc.2 f (by simpa using hf)) w
    cases hf : fillA (fieldPlaces P fs) (cellsV z) parts with
    | none => rw [hf] at hb; simp at hb
    | some l =>
      rw [hf] at hb; simp at hb; subst hb
      obtain ⟨cout, h3, h4⟩ := fill_ok (placec := (places[·]?)) h2 hl hg (ccells := z.cells) (VR.cells (VR.ofPlain hc.1)) hf
      refine RunTo.same R (vc := .agg cout) ?_ (.agg (by simpa using h4))
      unfold Instr.build
      simp only [Sem.run_bind, run_zero ht hz, Result.andThen_ok, run_und ht, hu, h1, h3, Sem.run_pure]
  · rename_i z n e hz hu
    split at hb <;> try (simp at hb; done)
    rename_i te hte
    split at hb <;> try (simp at hb; done)
    rename_i hc
    cases hf : fillA (fun i => some (i * te.sz, te.sz)) (cellsV z) parts with
    | none => rw [hf] at hb; simp at hb
    | some l =>
      rw [hf] at hb; simp at hb; subst hb
      obtain ⟨cout, h3, h4⟩ := fill_ok (placec := fun i => some (i * te.sz, te.sz)) (fun i x hx => hx) hl hg (ccells := z.cells) (VR.cells (VR.ofPlain hc)) hf
      refine RunTo.same R (vc := .agg cout) ?_ (.agg (by simpa using h4))
      unfold Instr.build
      simp only [Sem.run_bind, run_zero ht hz, Result.andThen_ok, run_und ht, hu, run_size hte, h3, Sem.run_pure]

theorem zerosA_length (z : List Value) (n : Nat) : (zerosA z n).length = n * z.length := by
  unfold zerosA
  induction n with
  | zero => simp
  | succ n ih => simp [List.replicate_succ, Nat.succ_mul] at ih ⊢; omega

theorem zerosA_get (z : List Value) : ∀ (n k : Nat), k < n * z.length → (zerosA z n)[k]? = z[k % z.length]?
  | 0, k, h => by simp at h
  | n + 1, k, h => by
    unfold zerosA
    rw [List.replicate_succ, List.flatten_cons]
    rcases Nat.lt_or_ge k z.length with hk | hk
    · rw [List.getElem?_append_left hk, Nat.mod_eq_of_lt hk]
    · rw [List.getElem?_append_right hk]
      have := zerosA_get z n (k - z.length) (by rw [Nat.succ_mul] at h; omega)
      unfold zerosA at this
      rw [this, Nat.mod_eq_sub_mod hk]

/-- The machine's zeros. -/
theorem zeros_eq (z : Value) (n m : Nat) (hm : m = n * (cellsV z).length) (hz : 0 < (cellsV z).length) :
    ((Array.range m).map (fun i => z.cells[i % z.cells.size]!)).toList = zerosA (cellsV z) n := by
  have hcz : z.cells.size = (cellsV z).length := by simp [cellsV]
  apply List.ext_getElem?
  intro k
  rw [hcz]
  rcases Nat.lt_or_ge k m with hk | hk
  · rw [zerosA_get _ n k (by omega)]
    have hlt : k % (cellsV z).length < (cellsV z).length := Nat.mod_lt _ hz
    have hlt' : k % (cellsV z).length < z.cells.size := by omega
    simp only [Array.toList_map, List.getElem?_map, Array.toList_range, List.getElem?_range hk, Option.map_some]
    rw [getElem!_pos z.cells _ hlt']
    simp [cellsV]
  · rw [List.getElem?_eq_none (by simp; omega), List.getElem?_eq_none (by rw [zerosA_length]; omega)]

theorem plain_cells_refl {z : Value} (hp : plain z = true) : VRs ρ (cellsV z) (cellsV z) := (VR.ofPlain hp).cells

theorem VRs.flatten : ∀ {n : Nat} {z : List Value}, VRs ρ z z → VRs ρ (zerosA z n) (zerosA z n)
  | 0, _, _ => by simp [zerosA]; exact .nil
  | n + 1, z, h => by
    have := VRs.flatten (n := n) h
    unfold zerosA at this ⊢
    rw [List.replicate_succ, List.flatten_cons]
    exact h.append this

theorem VR.slice0 {i len cap' : Nat} {g : Gh} (h : ρ i = some g) (hb : g.base = 0) (hc : cap' * g.esz = g.room) (hb2 : cap' < 2 ^ 63) :
    VR ρ (.slice (some ⟨g.blk, 0, none⟩) len cap') (.slice (some ⟨i, 0, none⟩) len FULL) := by
  have := VR.slice (off := 0) (len := len) (cap := FULL) (cap' := cap') h (fun _ => by omega) (fun h => absurd rfl h) FULL_ne_ANY hb2
  rwa [hb] at this

theorem abuildSlice_ok (R : Rep G ρ w.heap h) {t : TypeId} {n : Nat} {parts cparts : List (Nat × Value)} {v : Value} {h' : Heap} (hl : cparts.length = parts.length)
    (hg : ∀ (k i : Nat) (v : Value), parts[k]? = some (i, v) → ∃ vc, cparts[k]? = some (i, vc) ∧ VR ρ vc v) (hb : abuildSlice P h t n parts = some (v, h')) :
    RunTo G P (Instr.buildSlice t n cparts.toArray) ρ w h v h' := by
  unfold abuildSlice at hb
  split at hb <;> try (simp at hb; done)
  rename_i ti ht
  split at hb <;> try (simp at hb; done)
  rename_i e hu
  split at hb <;> try (simp at hb; done)
  rename_i te hte
  split at hb <;> try (simp at hb; done)
  rename_i z hz
  split at hb <;> try (simp at hb; done)
  rename_i hc
  obtain ⟨hp, hsz, hpos, hle⟩ := hc
  split at hb <;> try (simp at hb; done)
  rename_i l hf
  split at hb <;> simp at hb
  rename_i hcell
  obtain ⟨rfl, rfl⟩ := hb
  have hzl : ∀ m, m = n * (cellsV z).length → ((Array.range m).map (fun i => z.cells[i % z.cells.size]!)).toList = zerosA (cellsV z) n := fun m hm => zeros_eq z n m hm (by omega)
  obtain ⟨cz, hcz⟩ : ∃ cz, cz = (Array.range (n * te.sz)).map (fun i => z.cells[i % z.cells.size]!) := ⟨_, rfl⟩
  have hczl : cz.toList = zerosA (cellsV z) n := by rw [hcz]; exact hzl _ (by rw [hsz])
  obtain ⟨cout, h3, h4⟩ := fill_ok (placec := fun i => some (i * te.sz, te.sz)) (fun i x hx => hx) hl hg (ccells := cz) (by rw [hczl]; exact VRs.flatten (plain_cells_refl hp)) hf
  have hsl : l.length = n * te.sz := by
    have h5 := h4.length
    have key : ∀ (ps : List (Nat × Value)) (c l : List Value), fillA (fun i => some (i * te.sz, te.sz)) c ps = some l → l.length = c.length := by
      intro ps
      induction ps with
      | nil => intro c l hh; simp [fillA] at hh; rw [hh]
      | cons p ps ih =>
        intro c l hh
        obtain ⟨i, x⟩ := p
        simp only [fillA] at hh
        split at hh <;> try (simp at hh; done)
        rename_i hcnd
        rw [ih _ _ hh, splice_length]
        exact Nat.le_of_not_lt fun hx => hcnd (.inr hx)
    rw [key _ _ _ hf, zerosA_length, hsz]
  have hcs : cout.size = l.length := by have := h4.length; simpa using this
  obtain ⟨hR, hS⟩ := newCells_ok R cout l te.sz true e (0, 0) (by rw [List.take_of_length_le (by simp; omega)]; exact h4) (fun _ => hcs.symm) (fun k _ => by simp)
    { w with heap := w.heap.push (.cells cout e) } rfl rfl rfl rfl
  refine ⟨_, _, .slice (some ⟨w.heap.size, 0, none⟩) n n, ?_, ?_, hR, hS⟩
  · unfold Instr.buildSlice
    simp only [Sem.run_bind, run_und ht, hu, Result.andThen_ok, run_size hte]
    rw [if_neg (by omega)]
    by_cases hn : n * te.sz = 0
    · rw [if_pos hn]
      simp only [Sem.run_bind, Sem.run_pure, Result.andThen_ok]
      have hcz0 : cz = (Array.range (n * te.sz)).map (fun i => (#[] : Array Value)[i % (#[] : Array Value).size]!) := by
        rw [hcz, hn]; simp
      rw [← hcz0, h3]
      simp [newRow]
    · rw [if_neg hn]
      simp only [Sem.run_bind, run_zero hte hz, Result.andThen_ok, Sem.run_pure]
      rw [← hcz, h3]
      simp [newRow]
  · exact VR.slice0 (ext_same _ _ _) rfl (by simp; omega) (by have := Nat.le_mul_of_pos_right n hpos; omega)

theorem apart_ok {t : TypeId} {ti : TI} {cs ccs : Array Value} {off : Nat} {v : Value} (ht : tinfo P t = some ti) (hv : VRs ρ ccs.toList cs.toList) (hp : apart ti cs.toList off = some v) (w : World) :
    ∃ vc, (part t ccs off).run P w = .ok vc w ∧ VR ρ vc v := by
  unfold apart at hp
  unfold part
  simp only [Sem.run_bind, run_agg ht, Result.andThen_ok]
  split at hp
  · rename_i ha
    split at hp <;> simp at hp
    rename_i hle
    subst hp
    refine ⟨.agg (ccs.extract off (off + ti.sz)), by simp only [ha, if_true, Sem.run_bind, run_size ht, Result.andThen_ok, Sem.run_pure], .agg ?_⟩
    have := (hv.drop off).take ti.sz
    simpa [Array.toList_extract, List.extract] using this
  · rename_i ha
    obtain ⟨vc, h1, h2⟩ := hv.get off v hp
    refine ⟨vc, ?_, h2⟩
    have h1' : ccs[off]? = some vc := by simpa using h1
    simp only [ha, Bool.false_eq_true, if_false, h1', Sem.run_pure]

theorem afield_ok (R : Rep G ρ w.heap h) {t : TypeId} {x cx v : Value} {f : Nat} (hx : VR ρ cx x) (hf : afield P t x f = some v) : RunTo G P (Instr.field t cx f) ρ w h v h := by
  unfold afield at hf
  split at hf <;> try (simp at hf; done)
  rename_i ti cs ht
  split at hf <;> try (simp at hf; done)
  rename_i fs hu
  split at hf <;> try (simp at hf; done)
  rename_i fd hfd
  split at hf <;> try (simp at hf; done)
  rename_i tf htf
  cases hx with
  | agg hvs =>
    obtain ⟨vc, h1, h2⟩ := apart_ok htf hvs hf w
    refine RunTo.same R (vc := vc) ?_ h2
    unfold Instr.field
    simp only [Sem.run_bind, run_und ht, hu, Result.andThen_ok, hfd, asAgg, Sem.run_pure, h1]

theorem aindex_ok (R : Rep G ρ w.heap h) {t : TypeId} {x cx i ci v : Value} (hx : VR ρ cx x) (hi : VR ρ ci i) (hf : aindex P t x i = some v) : RunTo G P (Instr.index t cx ci) ρ w h v h := by
  unfold aindex at hf
  split at hf <;> try (simp at hf; done)
  · rename_i ti cs k n ht
    split at hf <;> try (simp at hf; done)
    rename_i len e hu
    split at hf <;> try (simp at hf; done)
    rename_i te hte
    split at hf <;> try (simp at hf; done)
    rename_i hb
    cases hi
    cases hx with
    | agg hvs =>
      obtain ⟨vc, h1, h2⟩ := apart_ok hte hvs hf w
      refine RunTo.same R (vc := vc) ?_ h2
      unfold Instr.index
      simp only [asIntOf, Sem.run_bind, Sem.run_pure, Result.andThen_ok, run_und ht, hu]
      rw [if_pos hb]
      simp only [Sem.run_bind, run_size hte, Result.andThen_ok, h1]
  · rename_i ti s k n ht
    split at hf <;> try (simp at hf; done)
    rename_i hu
    split at hf <;> try (simp at hf; done)
    rename_i hb
    cases hi
    cases hx
    cases hs : s[n.toNat]? with
    | none => rw [hs] at hf; simp at hf
    | some b =>
      rw [hs] at hf; simp at hf; subst hf
      refine RunTo.same R (vc := .int .u8 b.toNat) ?_ (.int _ _)
      unfold Instr.index
      simp only [asIntOf, Sem.run_bind, Sem.run_pure, Result.andThen_ok, run_und ht, hu]
      rw [if_pos hb, hs]
      rfl

theorem afieldAddr_ok (R : Rep G ρ w.heap h) {t : TypeId} {x cx v : Value} {f : Nat} (hx : VR ρ cx x) (hf : afieldAddr P t x f = some v) : RunTo G P (Instr.fieldAt t cx f) ρ w h v h := by
  unfold afieldAddr at hf
  split at hf <;> try (simp at hf; done)
  rename_i ti i off ht
  split at hf <;> try (simp at hf; done)
  rename_i fs hu
  split at hf <;> try (simp at hf; done)
  rename_i fd hfd
  split at hf <;> try (simp at hf; done)
  rename_i tf htf
  split at hf <;> simp at hf
  rename_i hpos
  subst hf
  cases hx with
  | ptr hi =>
    refine RunTo.same R (vc := .pointer (some ⟨_, _, none⟩)) ?_ (VR.ptr (off := off + fd.offset) hi)
    unfold Instr.fieldAt fieldPlace
    simp only [Sem.run_bind, run_und ht, hu, Result.andThen_ok, hfd, Instr.sureAddr, Sem.run_pure, run_size htf]
    rw [if_neg (by omega)]
    simp only [Sem.run_pure, Result.andThen_ok, add_none, Nat.add_assoc]

theorem aindexAddr_ok (R : Rep G ρ w.heap h) {t : TypeId} {x cx i ci v : Value} (hx : VR ρ cx x) (hi : VR ρ ci i) (hf : aindexAddr P t x i = some v) : RunTo G P (Instr.indexAt t cx ci) ρ w h v h := by
  unfold aindexAddr at hf
  split at hf <;> try (simp at hf; done)
  · rename_i ti i off k n ht
    split at hf <;> try (simp at hf; done)
    rename_i len e hu
    split at hf <;> try (simp at hf; done)
    rename_i te hte
    split at hf <;> simp at hf
    rename_i hb
    subst hf
    cases hi
    cases hx with
    | ptr hi =>
      refine RunTo.same R (vc := .pointer (some ⟨_, _, none⟩)) ?_ (VR.ptr (off := off + n.toNat * te.sz) hi)
      unfold Instr.indexAt
      simp only [asIntOf, Sem.run_bind, Sem.run_pure, Result.andThen_ok, run_und ht, hu, Instr.sureAddr]
      rw [if_pos hb]
      simp only [Sem.run_bind, run_size hte, Result.andThen_ok, Sem.run_pure, add_none, Nat.add_assoc]
  · rename_i ti i off len cap k n ht
    split at hf <;> try (simp at hf; done)
    rename_i e hu
    split at hf <;> try (simp at hf; done)
    rename_i te hte
    split at hf <;> simp at hf
    rename_i hb
    subst hf
    cases hi
    cases hx with
    | slice hi h1 h2 h3 h4 =>
      refine RunTo.same R (vc := .pointer (some ⟨_, _, none⟩)) ?_ (VR.ptr (off := off + n.toNat * te.sz) hi)
      unfold Instr.indexAt
      simp only [asIntOf, Sem.run_bind, Sem.run_pure, Result.andThen_ok, run_und ht, hu]
      rw [if_pos ⟨hb.1, hb.2.1⟩]
      simp only [Sem.run_bind, run_size hte, Result.andThen_ok, Sem.run_pure, add_none, Nat.add_assoc]
    | anySlice => exact absurd rfl hb.2.2

end
end Gl
end
