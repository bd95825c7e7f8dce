/-
  The seat's program: what the evaluator is told of it.
-/
import Derived.Test.YtamcmocdkcfjkaaGreatDoorKg
import Derived.Test.YtamcmocdkcfjkaaGreatDoorShelf
import Derived.Test.YtamcmocdkcfjkaaGreatDoorRows
set_option linter.all false
/- The seat's program: what the evaluator is told of it. -/
section
namespace Go.Proofs.YtamcmocdkcfjkaaGreatDoor
open Gl

/-- The package's variables that are known. -/
def GA : List Nat := [0, 1, 2, 3, 4, 5, 6, 7, 8]
noncomputable def CX (T : List (FuncId × Sp)) : Ctx := { P := Tryz.prog, G := GA, X := tlook T }
theorem CX_P (T : List (FuncId × Sp)) : (CX T).P = Tryz.prog := rfl
theorem CX_G (T : List (FuncId × Sp)) : (CX T).G = GA := rfl
theorem CX_X (T : List (FuncId × Sp)) (f : FuncId) : (CX T).X f = tlook T f := rfl
abbrev OkA (f : FuncId) (g : Sp) : Prop := Ok (CX []) f g

theorem body105 : HasBody (CX []).P 105 := ⟨Tryz.f105, Tryz.func105, by kernel_rfl, by kernel_rfl⟩
theorem body137 : HasBody (CX []).P 137 := ⟨Tryz.f137, Tryz.func137, by kernel_rfl, by kernel_rfl⟩
theorem body138 : HasBody (CX []).P 138 := ⟨Tryz.f138, Tryz.func138, by kernel_rfl, by kernel_rfl⟩
theorem body139 : HasBody (CX []).P 139 := ⟨Tryz.f139, Tryz.func139, by kernel_rfl, by kernel_rfl⟩
theorem body127 : HasBody (CX []).P 127 := ⟨Tryz.f127, Tryz.func127, by kernel_rfl, by kernel_rfl⟩

theorem ok105 : OkA 105 xSort := fun _ _ _ _ hx => xSort_ok body105 (fun blk off cap zs w h1 h2 h3 => Tryz.slices_Sort_int blk off cap zs w h1 h2 h3) hx
theorem ok137 : OkA 137 (xItoa 3) := fun _ _ _ _ hx => xItoa_ok (name := "internal/strconv.uint64pow10") body137 (by simp [CX, GA]) (by kernel_rfl) (fun n h1 h2 w ht => Tryz.strconv_Itoa n h1 h2 w ht) hx
theorem ok138 : OkA 138 (xCut 2) := fun _ _ _ _ hx => xCut_ok body138 (by simp [CX, GA]) (fun s sep m w h1 h2 => Tryz.strings_Cut s sep m w h1 h2) hx
theorem ok139 : OkA 139 (xSplit 2) := fun _ _ _ _ hx => xSplit_ok body139 (by simp [CX, GA]) (fun s sep m w h1 h2 h3 => Tryz.strings_Split s sep m w h1 h2 h3) hx
theorem ok127 : OkA 127 xJoin := fun _ _ _ _ hx => xJoin_ok body127 (fun a c sep w => Tryz.strings_Join_none a c sep w) (fun bk o c xs sep w h1 h2 h3 h4 h5 => Tryz.strings_Join bk o c xs sep w h1 h2 h3 h4 h5) hx

def T0 : List (FuncId × Sp) := [(105, xSort), (137, xItoa 3), (138, xCut 2), (139, xSplit 2), (127, xJoin)]
theorem okT0 : OkT (CX []) T0 := .cons ok105 (.cons ok137 (.cons ok138 (.cons ok139 (.cons ok127 .nil))))

/-- without the sort, which the kernel does not run -/
def T1 : List (FuncId × Sp) := [(137, xItoa 3), (138, xCut 2), (139, xSplit 2), (127, xJoin)]
theorem okT1 : OkT (CX []) T1 := .cons ok137 (.cons ok138 (.cons ok139 (.cons ok127 .nil)))

theorem body106 : HasBody (CX []).P 106 := ⟨Tryz.f106, Tryz.func106, by kernel_rfl, by kernel_rfl⟩
theorem body102 : HasBody (CX []).P 102 := ⟨Tryz.f102, Tryz.func102, by kernel_rfl, by kernel_rfl⟩
theorem body195 : HasBody (CX []).P 195 := ⟨Tryz.f195, Tryz.func195, by kernel_rfl, by kernel_rfl⟩
theorem ok106 : OkA 106 xCompact := fun _ _ _ _ hx => xCompact_ok body106 (fun a cap w => Tryz.slices_Compact_int_empty a cap w) (fun blk off cap zs w h1 h2 h3 => Tryz.slices_Compact_int blk off cap zs w h1 h2 h3) hx
theorem ok102 : OkA 102 xSearch := fun _ _ _ _ hx => xSearch_ok body102 (fun b off n c zs x w h1 h2 h3 h4 => Tryz.slices_BinarySearch_int b off n c zs x w h1 h2 h3 h4) hx
theorem ok195 : OkA 195 xCompare := fun _ _ _ _ hx => xCompare_ok body195 (fun x y w => Tryz.cmp_Compare_int x y w) hx
def T2 : List (FuncId × Sp) := (106, xCompact) :: T0
theorem okT2 : OkT (CX []) T2 := .cons ok106 okT0

theorem mixedA : Tryz.prog.follows .mixedOrders = true := by kernel_rfl
theorem drawA (T : List (FuncId × Sp)) : DrawOK (CX T) := drawOK (C := CX T) mixedA

/-- The package's variables, as they lie. -/
def G0 : Heap := [.cells [.string ⟨#[100, 101, 97, 100]⟩, .func (.func 285) #[] #[], .string ⟨#[101, 99, 104, 111]⟩, .func (.func 286) #[] #[], .string ⟨#[108, 111, 97, 100]⟩, .func (.func 287) #[] #[]] 6 false true, .dead, .anyInt, .table (Go.Lib.pow10Tab.map (.int .u64)), .dead, .dead, .dead, .dead, .dead]

end Go.Proofs.YtamcmocdkcfjkaaGreatDoor
end
