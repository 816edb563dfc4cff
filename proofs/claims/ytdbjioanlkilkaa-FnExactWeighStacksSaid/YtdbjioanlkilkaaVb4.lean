/-
  DERIVED. Several texts of ours in one: VtA, VtI, VtX, VtMk, VtNumP, VtPU, VtName, VcR, VgFrame.
-/
import Derived.Test.YtdbjioanlkilkaaVb0
import Derived.Test.YtdbjioanlkilkaaVb1
import Derived.Test.YtdbjioanlkilkaaVb2
import Derived.Test.YtdbjioanlkilkaaVb3
import Derived.Test.YtdbjioanlkilkaaProg
import Derived.KernelRfl
import Derived.ProofKit
import Derived.OpenShut
import Derived.Below
import Derived.ChangeSame
import Derived.Carry
import Derived.Deep.Slices
import Derived.Deep.Fields
set_option linter.unusedSimpArgs false
set_option linter.unusedVariables false
/-
  DERIVED. The seat's table of types, as VcB wants it. Made by program (mk_tab.py).
-/
namespace Go.Proofs.Ytdbjioanlkilkaa
open Go.Vc
def td2 : TyD := { kind := 4, size := 1, bytes := 8, z := [.int .i64 0], ik := some .i64 } -- int64
def td3 : TyD := { kind := 4, size := 1, bytes := 8, z := [.int .i64 0], ik := some .i64 } -- int
def td4 : TyD := { kind := 5, size := 1, bytes := 1, z := [.bool false] } -- bool
def td5 : TyD := { kind := 4, size := 1, bytes := 1, z := [.int .u8 0], ik := some .u8 } -- uint8
def td9 : TyD := { kind := 2, size := 1, bytes := 16, z := [.string ⟨#[]⟩] } -- string
def td12 : TyD := { kind := 4, size := 1, bytes := 8, z := [.int .u64 0], ik := some .u64 } -- uintptr
def td21 : TyD := { kind := 4, size := 1, bytes := 4, z := [.int .i32 0], ik := some .i32 } -- int32
def td22 : TyD := { kind := 1, size := 1, bytes := 24, z := [.slice none 0 0], elem := 97 } -- []laws.Line
def td23 : TyD := { kind := 1, size := 1, bytes := 24, z := [.slice none 0 0], elem := 3 } -- []int
def td25 : TyD := { kind := 1, size := 1, bytes := 24, z := [.slice none 0 0], elem := 100 } -- []impl.Frame
def td27 : TyD := { kind := 1, size := 1, bytes := 24, z := [.slice none 0 0], elem := 103 } -- []impl.Line
def td37 : TyD := { kind := 1, size := 1, bytes := 24, z := [.slice none 0 0], elem := 5 } -- []uint8
def td39 : TyD := { kind := 1, size := 1, bytes := 24, z := [.slice none 0 0], elem := 187 } -- []impl.Node
def td41 : TyD := { kind := 3, size := 1, bytes := 24, z := [.slice none 0 0], offs := [(0, 1)] } -- impl.Stacks
def td43 : TyD := { kind := 3, size := 2, bytes := 48, z := [.slice none 0 0, .slice none 0 0], offs := [(0, 1), (1, 1)] } -- impl.Profile
def td46 : TyD := { kind := 1, size := 1, bytes := 24, z := [.slice none 0 0], elem := 125 } -- []impl.TreeNode
def td49 : TyD := { kind := 1, size := 1, bytes := 24, z := [.slice none 0 0], elem := 52 } -- []impl.Box
def td52 : TyD := { kind := 3, size := 4, bytes := 32, z := [.int .i64 0, .int .i64 0, .int .i64 0, .int .i64 0], offs := [(0, 1), (1, 1), (2, 1), (3, 1)], eqs := [4, 4, 4, 4] } -- impl.Box
def td55 : TyD := { kind := 1, size := 1, bytes := 24, z := [.slice none 0 0], elem := 127 } -- [][]laws.Frame
def td59 : TyD := { kind := 1, size := 1, bytes := 24, z := [.slice none 0 0], elem := 25 } -- [][]impl.Frame
def td66 : TyD := { kind := 1, size := 1, bytes := 24, z := [.slice none 0 0], elem := 217 } -- []laws.Image
def td68 : TyD := { kind := 3, size := 3, bytes := 72, z := [.slice none 0 0, .slice none 0 0, .slice none 0 0], offs := [(0, 1), (1, 1), (2, 1)] } -- laws.Space
def td69 : TyD := { kind := 1, size := 1, bytes := 24, z := [.slice none 0 0], elem := 197 } -- []laws.Machine
def td71 : TyD := { kind := 3, size := 7, bytes := 120, z := [.slice none 0 0, .slice none 0 0, .slice none 0 0, .slice none 0 0, .int .i64 0, .int .i64 0, .int .i64 0], offs := [(0, 3), (3, 1), (4, 1), (5, 1), (6, 1)] } -- laws.Process
def td73 : TyD := { kind := 3, size := 4, bytes := 32, z := [.int .i64 0, .int .i64 0, .int .i64 0, .int .i64 0], offs := [(0, 1), (1, 1), (2, 1), (3, 1)], eqs := [4, 4, 4, 4] } -- laws.Timer
def td74 : TyD := { kind := 1, size := 1, bytes := 24, z := [.slice none 0 0], elem := 9 } -- []string
def td76 : TyD := { kind := 3, size := 4, bytes := 48, z := [.int .i64 0, .slice none 0 0, .int .i64 0, .int .i64 0], offs := [(0, 1), (1, 1), (2, 1), (3, 1)] } -- laws.Ring
def td78 : TyD := { kind := 3, size := 18, bytes := 224, z := [.slice none 0 0, .slice none 0 0, .slice none 0 0, .slice none 0 0, .int .i64 0, .int .i64 0, .int .i64 0, .int .i64 0, .int .i64 0, .int .i64 0, .int .i64 0, .int .i64 0, .slice none 0 0, .int .i64 0, .int .i64 0, .int .i64 0, .int .i64 0, .int .i64 0], offs := [(0, 7), (7, 4), (11, 4), (15, 1), (16, 1), (17, 1)] } -- laws.Session
def td81 : TyD := { kind := 1, size := 1, bytes := 24, z := [.slice none 0 0], elem := 201 } -- []impl.Image
def td83 : TyD := { kind := 3, size := 3, bytes := 72, z := [.slice none 0 0, .slice none 0 0, .slice none 0 0], offs := [(0, 1), (1, 1), (2, 1)] } -- impl.Space
def td84 : TyD := { kind := 1, size := 1, bytes := 24, z := [.slice none 0 0], elem := 174 } -- []impl.Machine
def td86 : TyD := { kind := 3, size := 7, bytes := 120, z := [.slice none 0 0, .slice none 0 0, .slice none 0 0, .slice none 0 0, .int .i64 0, .int .i64 0, .int .i64 0], offs := [(0, 3), (3, 1), (4, 1), (5, 1), (6, 1)] } -- impl.Process
def td87 : TyD := { kind := 3, size := 4, bytes := 32, z := [.int .i64 0, .int .i64 0, .int .i64 0, .int .i64 0], offs := [(0, 1), (1, 1), (2, 1), (3, 1)], eqs := [4, 4, 4, 4] } -- impl.Timer
def td88 : TyD := { kind := 3, size := 4, bytes := 48, z := [.int .i64 0, .slice none 0 0, .int .i64 0, .int .i64 0], offs := [(0, 1), (1, 1), (2, 1), (3, 1)] } -- impl.Ring
def td90 : TyD := { kind := 3, size := 18, bytes := 224, z := [.slice none 0 0, .slice none 0 0, .slice none 0 0, .slice none 0 0, .int .i64 0, .int .i64 0, .int .i64 0, .int .i64 0, .int .i64 0, .int .i64 0, .int .i64 0, .int .i64 0, .slice none 0 0, .int .i64 0, .int .i64 0, .int .i64 0, .int .i64 0, .int .i64 0], offs := [(0, 7), (7, 4), (11, 4), (15, 1), (16, 1), (17, 1)] } -- impl.Session
def td95 : TyD := { kind := 1, size := 1, bytes := 24, z := [.slice none 0 0], elem := 181 } -- []laws.Tok
def td97 : TyD := { kind := 3, size := 4, bytes := 72, z := [.int .i64 0, .string ⟨#[]⟩, .slice none 0 0, .slice none 0 0], offs := [(0, 1), (1, 1), (2, 1), (3, 1)] } -- laws.Line
def td100 : TyD := { kind := 3, size := 2, bytes := 24, z := [.string ⟨#[]⟩, .int .i64 0], offs := [(0, 1), (1, 1)], eqs := [2, 4] } -- impl.Frame
def td101 : TyD := { kind := 1, size := 1, bytes := 24, z := [.slice none 0 0], elem := 149 } -- []impl.Tok
def td103 : TyD := { kind := 3, size := 4, bytes := 72, z := [.int .i64 0, .string ⟨#[]⟩, .slice none 0 0, .slice none 0 0], offs := [(0, 1), (1, 1), (2, 1), (3, 1)] } -- impl.Line
def td113 : TyD := { kind := 1, size := 1, bytes := 24, z := [.slice none 0 0], elem := 118 } -- []impl.Entry
def td115 : TyD := { kind := 1, size := 1, bytes := 24, z := [.slice none 0 0], elem := 74 } -- [][]string
def td118 : TyD := { kind := 3, size := 2, bytes := 24, z := [.string ⟨#[]⟩, .int .i64 0], offs := [(0, 1), (1, 1)], eqs := [2, 4] } -- impl.Entry
def td125 : TyD := { kind := 3, size := 4, bytes := 40, z := [.int .i64 0, .string ⟨#[]⟩, .int .i64 0, .int .i64 0], offs := [(0, 1), (1, 1), (2, 1), (3, 1)], eqs := [4, 2, 4, 4] } -- impl.TreeNode
def td127 : TyD := { kind := 1, size := 1, bytes := 24, z := [.slice none 0 0], elem := 162 } -- []laws.Frame
def td149 : TyD := { kind := 3, size := 3, bytes := 32, z := [.int .i64 0, .int .i64 0, .string ⟨#[]⟩], offs := [(0, 1), (1, 1), (2, 1)], eqs := [4, 4, 2] } -- impl.Tok
def td151 : TyD := { kind := 3, size := 3, bytes := 40, z := [.slice none 0 0, .int .i64 0, .int .i64 0], offs := [(0, 1), (1, 1), (2, 1)] } -- spec.l01Cur
def td162 : TyD := { kind := 3, size := 2, bytes := 24, z := [.string ⟨#[]⟩, .int .i64 0], offs := [(0, 1), (1, 1)], eqs := [2, 4] } -- laws.Frame
def td174 : TyD := { kind := 3, size := 7, bytes := 88, z := [.int .i64 0, .int .i64 0, .int .i64 0, .slice none 0 0, .slice none 0 0, .int .i64 0, .int .i64 0], offs := [(0, 1), (1, 1), (2, 1), (3, 1), (4, 1), (5, 1), (6, 1)] } -- impl.Machine
def td181 : TyD := { kind := 3, size := 3, bytes := 32, z := [.int .i64 0, .int .i64 0, .string ⟨#[]⟩], offs := [(0, 1), (1, 1), (2, 1)], eqs := [4, 4, 2] } -- laws.Tok
def td187 : TyD := { kind := 3, size := 3, bytes := 32, z := [.int .i64 0, .string ⟨#[]⟩, .int .i64 0], offs := [(0, 1), (1, 2)], eqs := [4, 2, 4] } -- impl.Node
def td197 : TyD := { kind := 3, size := 7, bytes := 88, z := [.int .i64 0, .int .i64 0, .int .i64 0, .slice none 0 0, .slice none 0 0, .int .i64 0, .int .i64 0], offs := [(0, 1), (1, 1), (2, 1), (3, 1), (4, 1), (5, 1), (6, 1)] } -- laws.Machine
def td199 : TyD := { kind := 1, size := 1, bytes := 24, z := [.slice none 0 0], elem := 206 } -- []impl.Symbol
def td201 : TyD := { kind := 3, size := 2, bytes := 40, z := [.string ⟨#[]⟩, .slice none 0 0], offs := [(0, 1), (1, 1)] } -- impl.Image
def td206 : TyD := { kind := 3, size := 3, bytes := 32, z := [.string ⟨#[]⟩, .int .i64 0, .int .i64 0], offs := [(0, 1), (1, 1), (2, 1)], eqs := [2, 4, 4] } -- impl.Symbol
def td212 : TyD := { kind := 4, size := 1, bytes := 8, z := [.int .u64 0], ik := some .u64 } -- uint
def td215 : TyD := { kind := 1, size := 1, bytes := 24, z := [.slice none 0 0], elem := 231 } -- []laws.Symbol
def td217 : TyD := { kind := 3, size := 2, bytes := 40, z := [.string ⟨#[]⟩, .slice none 0 0], offs := [(0, 1), (1, 1)] } -- laws.Image
def td218 : TyD := { kind := 1, size := 1, bytes := 24, z := [.slice none 0 0], elem := 225 } -- []impl.Op
def td225 : TyD := { kind := 3, size := 2, bytes := 16, z := [.int .i64 0, .int .i64 0], offs := [(0, 1), (1, 1)], eqs := [4, 4] } -- impl.Op
def td231 : TyD := { kind := 3, size := 3, bytes := 32, z := [.string ⟨#[]⟩, .int .i64 0, .int .i64 0], offs := [(0, 1), (1, 1), (2, 1)], eqs := [2, 4, 4] } -- laws.Symbol
def td242 : TyD := { kind := 4, size := 1, bytes := 4, z := [.int .u32 0], ik := some .u32 } -- uint32
def tys : List (Nat × TyD) := [(2, td2), (3, td3), (4, td4), (5, td5), (9, td9), (12, td12), (21, td21), (22, td22), (23, td23), (25, td25), (27, td27), (37, td37), (39, td39), (41, td41), (43, td43), (46, td46), (49, td49), (52, td52), (55, td55), (59, td59), (66, td66), (68, td68), (69, td69), (71, td71), (73, td73), (74, td74), (76, td76), (78, td78), (81, td81), (83, td83), (84, td84), (86, td86), (87, td87), (88, td88), (90, td90), (95, td95), (97, td97), (100, td100), (101, td101), (103, td103), (113, td113), (115, td115), (118, td118), (125, td125), (127, td127), (149, td149), (151, td151), (162, td162), (174, td174), (181, td181), (187, td187), (197, td197), (199, td199), (201, td201), (206, td206), (212, td212), (215, td215), (217, td217), (218, td218), (225, td225), (231, td231), (242, td242)]
theorem ty2 : lk 2 tys = some { kind := 4, size := 1, bytes := 8, z := [.int .i64 0], ik := some .i64 } := rfl
theorem tok2 : TyOk Try.prog 2 td2 := ⟨by kernel_rfl, by show _ = _; kernel_rfl, by decide, .inl rfl⟩
theorem ty3 : lk 3 tys = some { kind := 4, size := 1, bytes := 8, z := [.int .i64 0], ik := some .i64 } := rfl
theorem tok3 : TyOk Try.prog 3 td3 := ⟨by kernel_rfl, by show _ = _; kernel_rfl, by decide, .inl rfl⟩
theorem ty4 : lk 4 tys = some { kind := 5, size := 1, bytes := 1, z := [.bool false] } := rfl
theorem tok4 : TyOk Try.prog 4 td4 := ⟨by kernel_rfl, by show _ = _; kernel_rfl, by decide, .inl rfl⟩
theorem ty5 : lk 5 tys = some { kind := 4, size := 1, bytes := 1, z := [.int .u8 0], ik := some .u8 } := rfl
theorem tok5 : TyOk Try.prog 5 td5 := ⟨by kernel_rfl, by show _ = _; kernel_rfl, by decide, .inl rfl⟩
theorem ty9 : lk 9 tys = some { kind := 2, size := 1, bytes := 16, z := [.string ⟨#[]⟩] } := rfl
theorem tok9 : TyOk Try.prog 9 td9 := ⟨by kernel_rfl, by show _ = _; kernel_rfl, by decide, .inl rfl⟩
theorem ty12 : lk 12 tys = some { kind := 4, size := 1, bytes := 8, z := [.int .u64 0], ik := some .u64 } := rfl
theorem tok12 : TyOk Try.prog 12 td12 := ⟨by kernel_rfl, by show _ = _; kernel_rfl, by decide, .inl rfl⟩
theorem ty21 : lk 21 tys = some { kind := 4, size := 1, bytes := 4, z := [.int .i32 0], ik := some .i32 } := rfl
theorem tok21 : TyOk Try.prog 21 td21 := ⟨by kernel_rfl, by show _ = _; kernel_rfl, by decide, .inl rfl⟩
theorem ty22 : lk 22 tys = some { kind := 1, size := 1, bytes := 24, z := [.slice none 0 0], elem := 97 } := rfl
theorem tok22 : TyOk Try.prog 22 td22 := ⟨by kernel_rfl, by show _ = _; kernel_rfl, by decide, .inl rfl⟩
theorem ty23 : lk 23 tys = some { kind := 1, size := 1, bytes := 24, z := [.slice none 0 0], elem := 3 } := rfl
theorem tok23 : TyOk Try.prog 23 td23 := ⟨by kernel_rfl, by show _ = _; kernel_rfl, by decide, .inl rfl⟩
theorem ty25 : lk 25 tys = some { kind := 1, size := 1, bytes := 24, z := [.slice none 0 0], elem := 100 } := rfl
theorem tok25 : TyOk Try.prog 25 td25 := ⟨by kernel_rfl, by show _ = _; kernel_rfl, by decide, .inl rfl⟩
theorem ty27 : lk 27 tys = some { kind := 1, size := 1, bytes := 24, z := [.slice none 0 0], elem := 103 } := rfl
theorem tok27 : TyOk Try.prog 27 td27 := ⟨by kernel_rfl, by show _ = _; kernel_rfl, by decide, .inl rfl⟩
theorem ty37 : lk 37 tys = some { kind := 1, size := 1, bytes := 24, z := [.slice none 0 0], elem := 5 } := rfl
theorem tok37 : TyOk Try.prog 37 td37 := ⟨by kernel_rfl, by show _ = _; kernel_rfl, by decide, .inl rfl⟩
theorem ty39 : lk 39 tys = some { kind := 1, size := 1, bytes := 24, z := [.slice none 0 0], elem := 187 } := rfl
theorem tok39 : TyOk Try.prog 39 td39 := ⟨by kernel_rfl, by show _ = _; kernel_rfl, by decide, .inl rfl⟩
theorem ty41 : lk 41 tys = some { kind := 3, size := 1, bytes := 24, z := [.slice none 0 0], offs := [(0, 1)] } := rfl
theorem tok41 : TyOk Try.prog 41 td41 := ⟨by kernel_rfl, by show _ = _; kernel_rfl, by decide, .inl rfl⟩
theorem ty43 : lk 43 tys = some { kind := 3, size := 2, bytes := 48, z := [.slice none 0 0, .slice none 0 0], offs := [(0, 1), (1, 1)] } := rfl
theorem tok43 : TyOk Try.prog 43 td43 := ⟨by kernel_rfl, by show _ = _; kernel_rfl, by decide, .inl rfl⟩
theorem ty46 : lk 46 tys = some { kind := 1, size := 1, bytes := 24, z := [.slice none 0 0], elem := 125 } := rfl
theorem tok46 : TyOk Try.prog 46 td46 := ⟨by kernel_rfl, by show _ = _; kernel_rfl, by decide, .inl rfl⟩
theorem ty49 : lk 49 tys = some { kind := 1, size := 1, bytes := 24, z := [.slice none 0 0], elem := 52 } := rfl
theorem tok49 : TyOk Try.prog 49 td49 := ⟨by kernel_rfl, by show _ = _; kernel_rfl, by decide, .inl rfl⟩
theorem ty52 : lk 52 tys = some { kind := 3, size := 4, bytes := 32, z := [.int .i64 0, .int .i64 0, .int .i64 0, .int .i64 0], offs := [(0, 1), (1, 1), (2, 1), (3, 1)], eqs := [4, 4, 4, 4] } := rfl
theorem tok52 : TyOk Try.prog 52 td52 := ⟨by kernel_rfl, by show _ = _; kernel_rfl, by decide, .inr ⟨by kernel_rfl, by kernel_rfl, rfl⟩⟩
theorem ty55 : lk 55 tys = some { kind := 1, size := 1, bytes := 24, z := [.slice none 0 0], elem := 127 } := rfl
theorem tok55 : TyOk Try.prog 55 td55 := ⟨by kernel_rfl, by show _ = _; kernel_rfl, by decide, .inl rfl⟩
theorem ty59 : lk 59 tys = some { kind := 1, size := 1, bytes := 24, z := [.slice none 0 0], elem := 25 } := rfl
theorem tok59 : TyOk Try.prog 59 td59 := ⟨by kernel_rfl, by show _ = _; kernel_rfl, by decide, .inl rfl⟩
theorem ty66 : lk 66 tys = some { kind := 1, size := 1, bytes := 24, z := [.slice none 0 0], elem := 217 } := rfl
theorem tok66 : TyOk Try.prog 66 td66 := ⟨by kernel_rfl, by show _ = _; kernel_rfl, by decide, .inl rfl⟩
theorem ty68 : lk 68 tys = some { kind := 3, size := 3, bytes := 72, z := [.slice none 0 0, .slice none 0 0, .slice none 0 0], offs := [(0, 1), (1, 1), (2, 1)] } := rfl
theorem tok68 : TyOk Try.prog 68 td68 := ⟨by kernel_rfl, by show _ = _; kernel_rfl, by decide, .inl rfl⟩
theorem ty69 : lk 69 tys = some { kind := 1, size := 1, bytes := 24, z := [.slice none 0 0], elem := 197 } := rfl
theorem tok69 : TyOk Try.prog 69 td69 := ⟨by kernel_rfl, by show _ = _; kernel_rfl, by decide, .inl rfl⟩
theorem ty71 : lk 71 tys = some { kind := 3, size := 7, bytes := 120, z := [.slice none 0 0, .slice none 0 0, .slice none 0 0, .slice none 0 0, .int .i64 0, .int .i64 0, .int .i64 0], offs := [(0, 3), (3, 1), (4, 1), (5, 1), (6, 1)] } := rfl
theorem tok71 : TyOk Try.prog 71 td71 := ⟨by kernel_rfl, by show _ = _; kernel_rfl, by decide, .inl rfl⟩
theorem ty73 : lk 73 tys = some { kind := 3, size := 4, bytes := 32, z := [.int .i64 0, .int .i64 0, .int .i64 0, .int .i64 0], offs := [(0, 1), (1, 1), (2, 1), (3, 1)], eqs := [4, 4, 4, 4] } := rfl
theorem tok73 : TyOk Try.prog 73 td73 := ⟨by kernel_rfl, by show _ = _; kernel_rfl, by decide, .inr ⟨by kernel_rfl, by kernel_rfl, rfl⟩⟩
theorem ty74 : lk 74 tys = some { kind := 1, size := 1, bytes := 24, z := [.slice none 0 0], elem := 9 } := rfl
theorem tok74 : TyOk Try.prog 74 td74 := ⟨by kernel_rfl, by show _ = _; kernel_rfl, by decide, .inl rfl⟩
theorem ty76 : lk 76 tys = some { kind := 3, size := 4, bytes := 48, z := [.int .i64 0, .slice none 0 0, .int .i64 0, .int .i64 0], offs := [(0, 1), (1, 1), (2, 1), (3, 1)] } := rfl
theorem tok76 : TyOk Try.prog 76 td76 := ⟨by kernel_rfl, by show _ = _; kernel_rfl, by decide, .inl rfl⟩
theorem ty78 : lk 78 tys = some { kind := 3, size := 18, bytes := 224, z := [.slice none 0 0, .slice none 0 0, .slice none 0 0, .slice none 0 0, .int .i64 0, .int .i64 0, .int .i64 0, .int .i64 0, .int .i64 0, .int .i64 0, .int .i64 0, .int .i64 0, .slice none 0 0, .int .i64 0, .int .i64 0, .int .i64 0, .int .i64 0, .int .i64 0], offs := [(0, 7), (7, 4), (11, 4), (15, 1), (16, 1), (17, 1)] } := rfl
theorem tok78 : TyOk Try.prog 78 td78 := ⟨by kernel_rfl, by show _ = _; kernel_rfl, by decide, .inl rfl⟩
theorem ty81 : lk 81 tys = some { kind := 1, size := 1, bytes := 24, z := [.slice none 0 0], elem := 201 } := rfl
theorem tok81 : TyOk Try.prog 81 td81 := ⟨by kernel_rfl, by show _ = _; kernel_rfl, by decide, .inl rfl⟩
theorem ty83 : lk 83 tys = some { kind := 3, size := 3, bytes := 72, z := [.slice none 0 0, .slice none 0 0, .slice none 0 0], offs := [(0, 1), (1, 1), (2, 1)] } := rfl
theorem tok83 : TyOk Try.prog 83 td83 := ⟨by kernel_rfl, by show _ = _; kernel_rfl, by decide, .inl rfl⟩
theorem ty84 : lk 84 tys = some { kind := 1, size := 1, bytes := 24, z := [.slice none 0 0], elem := 174 } := rfl
theorem tok84 : TyOk Try.prog 84 td84 := ⟨by kernel_rfl, by show _ = _; kernel_rfl, by decide, .inl rfl⟩
theorem ty86 : lk 86 tys = some { kind := 3, size := 7, bytes := 120, z := [.slice none 0 0, .slice none 0 0, .slice none 0 0, .slice none 0 0, .int .i64 0, .int .i64 0, .int .i64 0], offs := [(0, 3), (3, 1), (4, 1), (5, 1), (6, 1)] } := rfl
theorem tok86 : TyOk Try.prog 86 td86 := ⟨by kernel_rfl, by show _ = _; kernel_rfl, by decide, .inl rfl⟩
theorem ty87 : lk 87 tys = some { kind := 3, size := 4, bytes := 32, z := [.int .i64 0, .int .i64 0, .int .i64 0, .int .i64 0], offs := [(0, 1), (1, 1), (2, 1), (3, 1)], eqs := [4, 4, 4, 4] } := rfl
theorem tok87 : TyOk Try.prog 87 td87 := ⟨by kernel_rfl, by show _ = _; kernel_rfl, by decide, .inr ⟨by kernel_rfl, by kernel_rfl, rfl⟩⟩
theorem ty88 : lk 88 tys = some { kind := 3, size := 4, bytes := 48, z := [.int .i64 0, .slice none 0 0, .int .i64 0, .int .i64 0], offs := [(0, 1), (1, 1), (2, 1), (3, 1)] } := rfl
theorem tok88 : TyOk Try.prog 88 td88 := ⟨by kernel_rfl, by show _ = _; kernel_rfl, by decide, .inl rfl⟩
theorem ty90 : lk 90 tys = some { kind := 3, size := 18, bytes := 224, z := [.slice none 0 0, .slice none 0 0, .slice none 0 0, .slice none 0 0, .int .i64 0, .int .i64 0, .int .i64 0, .int .i64 0, .int .i64 0, .int .i64 0, .int .i64 0, .int .i64 0, .slice none 0 0, .int .i64 0, .int .i64 0, .int .i64 0, .int .i64 0, .int .i64 0], offs := [(0, 7), (7, 4), (11, 4), (15, 1), (16, 1), (17, 1)] } := rfl
theorem tok90 : TyOk Try.prog 90 td90 := ⟨by kernel_rfl, by show _ = _; kernel_rfl, by decide, .inl rfl⟩
theorem ty95 : lk 95 tys = some { kind := 1, size := 1, bytes := 24, z := [.slice none 0 0], elem := 181 } := rfl
theorem tok95 : TyOk Try.prog 95 td95 := ⟨by kernel_rfl, by show _ = _; kernel_rfl, by decide, .inl rfl⟩
theorem ty97 : lk 97 tys = some { kind := 3, size := 4, bytes := 72, z := [.int .i64 0, .string ⟨#[]⟩, .slice none 0 0, .slice none 0 0], offs := [(0, 1), (1, 1), (2, 1), (3, 1)] } := rfl
theorem tok97 : TyOk Try.prog 97 td97 := ⟨by kernel_rfl, by show _ = _; kernel_rfl, by decide, .inl rfl⟩
theorem ty100 : lk 100 tys = some { kind := 3, size := 2, bytes := 24, z := [.string ⟨#[]⟩, .int .i64 0], offs := [(0, 1), (1, 1)], eqs := [2, 4] } := rfl
theorem tok100 : TyOk Try.prog 100 td100 := ⟨by kernel_rfl, by show _ = _; kernel_rfl, by decide, .inr ⟨by kernel_rfl, by kernel_rfl, rfl⟩⟩
theorem ty101 : lk 101 tys = some { kind := 1, size := 1, bytes := 24, z := [.slice none 0 0], elem := 149 } := rfl
theorem tok101 : TyOk Try.prog 101 td101 := ⟨by kernel_rfl, by show _ = _; kernel_rfl, by decide, .inl rfl⟩
theorem ty103 : lk 103 tys = some { kind := 3, size := 4, bytes := 72, z := [.int .i64 0, .string ⟨#[]⟩, .slice none 0 0, .slice none 0 0], offs := [(0, 1), (1, 1), (2, 1), (3, 1)] } := rfl
theorem tok103 : TyOk Try.prog 103 td103 := ⟨by kernel_rfl, by show _ = _; kernel_rfl, by decide, .inl rfl⟩
theorem ty113 : lk 113 tys = some { kind := 1, size := 1, bytes := 24, z := [.slice none 0 0], elem := 118 } := rfl
theorem tok113 : TyOk Try.prog 113 td113 := ⟨by kernel_rfl, by show _ = _; kernel_rfl, by decide, .inl rfl⟩
theorem ty115 : lk 115 tys = some { kind := 1, size := 1, bytes := 24, z := [.slice none 0 0], elem := 74 } := rfl
theorem tok115 : TyOk Try.prog 115 td115 := ⟨by kernel_rfl, by show _ = _; kernel_rfl, by decide, .inl rfl⟩
theorem ty118 : lk 118 tys = some { kind := 3, size := 2, bytes := 24, z := [.string ⟨#[]⟩, .int .i64 0], offs := [(0, 1), (1, 1)], eqs := [2, 4] } := rfl
theorem tok118 : TyOk Try.prog 118 td118 := ⟨by kernel_rfl, by show _ = _; kernel_rfl, by decide, .inr ⟨by kernel_rfl, by kernel_rfl, rfl⟩⟩
theorem ty125 : lk 125 tys = some { kind := 3, size := 4, bytes := 40, z := [.int .i64 0, .string ⟨#[]⟩, .int .i64 0, .int .i64 0], offs := [(0, 1), (1, 1), (2, 1), (3, 1)], eqs := [4, 2, 4, 4] } := rfl
theorem tok125 : TyOk Try.prog 125 td125 := ⟨by kernel_rfl, by show _ = _; kernel_rfl, by decide, .inr ⟨by kernel_rfl, by kernel_rfl, rfl⟩⟩
theorem ty127 : lk 127 tys = some { kind := 1, size := 1, bytes := 24, z := [.slice none 0 0], elem := 162 } := rfl
theorem tok127 : TyOk Try.prog 127 td127 := ⟨by kernel_rfl, by show _ = _; kernel_rfl, by decide, .inl rfl⟩
theorem ty149 : lk 149 tys = some { kind := 3, size := 3, bytes := 32, z := [.int .i64 0, .int .i64 0, .string ⟨#[]⟩], offs := [(0, 1), (1, 1), (2, 1)], eqs := [4, 4, 2] } := rfl
theorem tok149 : TyOk Try.prog 149 td149 := ⟨by kernel_rfl, by show _ = _; kernel_rfl, by decide, .inr ⟨by kernel_rfl, by kernel_rfl, rfl⟩⟩
theorem ty151 : lk 151 tys = some { kind := 3, size := 3, bytes := 40, z := [.slice none 0 0, .int .i64 0, .int .i64 0], offs := [(0, 1), (1, 1), (2, 1)] } := rfl
theorem tok151 : TyOk Try.prog 151 td151 := ⟨by kernel_rfl, by show _ = _; kernel_rfl, by decide, .inl rfl⟩
theorem ty162 : lk 162 tys = some { kind := 3, size := 2, bytes := 24, z := [.string ⟨#[]⟩, .int .i64 0], offs := [(0, 1), (1, 1)], eqs := [2, 4] } := rfl
theorem tok162 : TyOk Try.prog 162 td162 := ⟨by kernel_rfl, by show _ = _; kernel_rfl, by decide, .inr ⟨by kernel_rfl, by kernel_rfl, rfl⟩⟩
theorem ty174 : lk 174 tys = some { kind := 3, size := 7, bytes := 88, z := [.int .i64 0, .int .i64 0, .int .i64 0, .slice none 0 0, .slice none 0 0, .int .i64 0, .int .i64 0], offs := [(0, 1), (1, 1), (2, 1), (3, 1), (4, 1), (5, 1), (6, 1)] } := rfl
theorem tok174 : TyOk Try.prog 174 td174 := ⟨by kernel_rfl, by show _ = _; kernel_rfl, by decide, .inl rfl⟩
theorem ty181 : lk 181 tys = some { kind := 3, size := 3, bytes := 32, z := [.int .i64 0, .int .i64 0, .string ⟨#[]⟩], offs := [(0, 1), (1, 1), (2, 1)], eqs := [4, 4, 2] } := rfl
theorem tok181 : TyOk Try.prog 181 td181 := ⟨by kernel_rfl, by show _ = _; kernel_rfl, by decide, .inr ⟨by kernel_rfl, by kernel_rfl, rfl⟩⟩
theorem ty187 : lk 187 tys = some { kind := 3, size := 3, bytes := 32, z := [.int .i64 0, .string ⟨#[]⟩, .int .i64 0], offs := [(0, 1), (1, 2)], eqs := [4, 2, 4] } := rfl
theorem tok187 : TyOk Try.prog 187 td187 := ⟨by kernel_rfl, by show _ = _; kernel_rfl, by decide, .inr ⟨by kernel_rfl, by kernel_rfl, rfl⟩⟩
theorem ty197 : lk 197 tys = some { kind := 3, size := 7, bytes := 88, z := [.int .i64 0, .int .i64 0, .int .i64 0, .slice none 0 0, .slice none 0 0, .int .i64 0, .int .i64 0], offs := [(0, 1), (1, 1), (2, 1), (3, 1), (4, 1), (5, 1), (6, 1)] } := rfl
theorem tok197 : TyOk Try.prog 197 td197 := ⟨by kernel_rfl, by show _ = _; kernel_rfl, by decide, .inl rfl⟩
theorem ty199 : lk 199 tys = some { kind := 1, size := 1, bytes := 24, z := [.slice none 0 0], elem := 206 } := rfl
theorem tok199 : TyOk Try.prog 199 td199 := ⟨by kernel_rfl, by show _ = _; kernel_rfl, by decide, .inl rfl⟩
theorem ty201 : lk 201 tys = some { kind := 3, size := 2, bytes := 40, z := [.string ⟨#[]⟩, .slice none 0 0], offs := [(0, 1), (1, 1)] } := rfl
theorem tok201 : TyOk Try.prog 201 td201 := ⟨by kernel_rfl, by show _ = _; kernel_rfl, by decide, .inl rfl⟩
theorem ty206 : lk 206 tys = some { kind := 3, size := 3, bytes := 32, z := [.string ⟨#[]⟩, .int .i64 0, .int .i64 0], offs := [(0, 1), (1, 1), (2, 1)], eqs := [2, 4, 4] } := rfl
theorem tok206 : TyOk Try.prog 206 td206 := ⟨by kernel_rfl, by show _ = _; kernel_rfl, by decide, .inr ⟨by kernel_rfl, by kernel_rfl, rfl⟩⟩
theorem ty212 : lk 212 tys = some { kind := 4, size := 1, bytes := 8, z := [.int .u64 0], ik := some .u64 } := rfl
theorem tok212 : TyOk Try.prog 212 td212 := ⟨by kernel_rfl, by show _ = _; kernel_rfl, by decide, .inl rfl⟩
theorem ty215 : lk 215 tys = some { kind := 1, size := 1, bytes := 24, z := [.slice none 0 0], elem := 231 } := rfl
theorem tok215 : TyOk Try.prog 215 td215 := ⟨by kernel_rfl, by show _ = _; kernel_rfl, by decide, .inl rfl⟩
theorem ty217 : lk 217 tys = some { kind := 3, size := 2, bytes := 40, z := [.string ⟨#[]⟩, .slice none 0 0], offs := [(0, 1), (1, 1)] } := rfl
theorem tok217 : TyOk Try.prog 217 td217 := ⟨by kernel_rfl, by show _ = _; kernel_rfl, by decide, .inl rfl⟩
theorem ty218 : lk 218 tys = some { kind := 1, size := 1, bytes := 24, z := [.slice none 0 0], elem := 225 } := rfl
theorem tok218 : TyOk Try.prog 218 td218 := ⟨by kernel_rfl, by show _ = _; kernel_rfl, by decide, .inl rfl⟩
theorem ty225 : lk 225 tys = some { kind := 3, size := 2, bytes := 16, z := [.int .i64 0, .int .i64 0], offs := [(0, 1), (1, 1)], eqs := [4, 4] } := rfl
theorem tok225 : TyOk Try.prog 225 td225 := ⟨by kernel_rfl, by show _ = _; kernel_rfl, by decide, .inr ⟨by kernel_rfl, by kernel_rfl, rfl⟩⟩
theorem ty231 : lk 231 tys = some { kind := 3, size := 3, bytes := 32, z := [.string ⟨#[]⟩, .int .i64 0, .int .i64 0], offs := [(0, 1), (1, 1), (2, 1)], eqs := [2, 4, 4] } := rfl
theorem tok231 : TyOk Try.prog 231 td231 := ⟨by kernel_rfl, by show _ = _; kernel_rfl, by decide, .inr ⟨by kernel_rfl, by kernel_rfl, rfl⟩⟩
theorem ty242 : lk 242 tys = some { kind := 4, size := 1, bytes := 4, z := [.int .u32 0], ik := some .u32 } := rfl
theorem tok242 : TyOk Try.prog 242 td242 := ⟨by kernel_rfl, by show _ = _; kernel_rfl, by decide, .inl rfl⟩
theorem tysOk : ∀ T d, lk T tys = some d → TyOk Try.prog T d := fun T d h => by
  have hm := lk_mem h
  simp only [tys, List.mem_cons, Prod.mk.injEq, List.not_mem_nil, or_false] at hm
  rcases hm with ⟨rfl, rfl⟩ | ⟨rfl, rfl⟩ | ⟨rfl, rfl⟩ | ⟨rfl, rfl⟩ | ⟨rfl, rfl⟩ | ⟨rfl, rfl⟩ | ⟨rfl, rfl⟩ | ⟨rfl, rfl⟩ | ⟨rfl, rfl⟩ | ⟨rfl, rfl⟩ | ⟨rfl, rfl⟩ | ⟨rfl, rfl⟩ | ⟨rfl, rfl⟩ | ⟨rfl, rfl⟩ | ⟨rfl, rfl⟩ | ⟨rfl, rfl⟩ | ⟨rfl, rfl⟩ | ⟨rfl, rfl⟩ | ⟨rfl, rfl⟩ | ⟨rfl, rfl⟩ | ⟨rfl, rfl⟩ | ⟨rfl, rfl⟩ | ⟨rfl, rfl⟩ | ⟨rfl, rfl⟩ | ⟨rfl, rfl⟩ | ⟨rfl, rfl⟩ | ⟨rfl, rfl⟩ | ⟨rfl, rfl⟩ | ⟨rfl, rfl⟩ | ⟨rfl, rfl⟩ | ⟨rfl, rfl⟩ | ⟨rfl, rfl⟩ | ⟨rfl, rfl⟩ | ⟨rfl, rfl⟩ | ⟨rfl, rfl⟩ | ⟨rfl, rfl⟩ | ⟨rfl, rfl⟩ | ⟨rfl, rfl⟩ | ⟨rfl, rfl⟩ | ⟨rfl, rfl⟩ | ⟨rfl, rfl⟩ | ⟨rfl, rfl⟩ | ⟨rfl, rfl⟩ | ⟨rfl, rfl⟩ | ⟨rfl, rfl⟩ | ⟨rfl, rfl⟩ | ⟨rfl, rfl⟩ | ⟨rfl, rfl⟩ | ⟨rfl, rfl⟩ | ⟨rfl, rfl⟩ | ⟨rfl, rfl⟩ | ⟨rfl, rfl⟩ | ⟨rfl, rfl⟩ | ⟨rfl, rfl⟩ | ⟨rfl, rfl⟩ | ⟨rfl, rfl⟩ | ⟨rfl, rfl⟩ | ⟨rfl, rfl⟩ | ⟨rfl, rfl⟩ | ⟨rfl, rfl⟩ | ⟨rfl, rfl⟩ | ⟨rfl, rfl⟩
  · exact tok2
  · exact tok3
  · exact tok4
  · exact tok5
  · exact tok9
  · exact tok12
  · exact tok21
  · exact tok22
  · exact tok23
  · exact tok25
  · exact tok27
  · exact tok37
  · exact tok39
  · exact tok41
  · exact tok43
  · exact tok46
  · exact tok49
  · exact tok52
  · exact tok55
  · exact tok59
  · exact tok66
  · exact tok68
  · exact tok69
  · exact tok71
  · exact tok73
  · exact tok74
  · exact tok76
  · exact tok78
  · exact tok81
  · exact tok83
  · exact tok84
  · exact tok86
  · exact tok87
  · exact tok88
  · exact tok90
  · exact tok95
  · exact tok97
  · exact tok100
  · exact tok101
  · exact tok103
  · exact tok113
  · exact tok115
  · exact tok118
  · exact tok125
  · exact tok127
  · exact tok149
  · exact tok151
  · exact tok162
  · exact tok174
  · exact tok181
  · exact tok187
  · exact tok197
  · exact tok199
  · exact tok201
  · exact tok206
  · exact tok212
  · exact tok215
  · exact tok217
  · exact tok218
  · exact tok225
  · exact tok231
  · exact tok242
theorem tyAll : lk 2 tys = some { kind := 4, size := 1, bytes := 8, z := [.int .i64 0], ik := some .i64 } ∧ lk 3 tys = some { kind := 4, size := 1, bytes := 8, z := [.int .i64 0], ik := some .i64 } ∧ lk 4 tys = some { kind := 5, size := 1, bytes := 1, z := [.bool false] } ∧ lk 5 tys = some { kind := 4, size := 1, bytes := 1, z := [.int .u8 0], ik := some .u8 } ∧ lk 9 tys = some { kind := 2, size := 1, bytes := 16, z := [.string ⟨#[]⟩] } ∧ lk 12 tys = some { kind := 4, size := 1, bytes := 8, z := [.int .u64 0], ik := some .u64 } ∧ lk 21 tys = some { kind := 4, size := 1, bytes := 4, z := [.int .i32 0], ik := some .i32 } ∧ lk 22 tys = some { kind := 1, size := 1, bytes := 24, z := [.slice none 0 0], elem := 97 } ∧ lk 23 tys = some { kind := 1, size := 1, bytes := 24, z := [.slice none 0 0], elem := 3 } ∧ lk 25 tys = some { kind := 1, size := 1, bytes := 24, z := [.slice none 0 0], elem := 100 } ∧ lk 27 tys = some { kind := 1, size := 1, bytes := 24, z := [.slice none 0 0], elem := 103 } ∧ lk 37 tys = some { kind := 1, size := 1, bytes := 24, z := [.slice none 0 0], elem := 5 } ∧ lk 39 tys = some { kind := 1, size := 1, bytes := 24, z := [.slice none 0 0], elem := 187 } ∧ lk 41 tys = some { kind := 3, size := 1, bytes := 24, z := [.slice none 0 0], offs := [(0, 1)] } ∧ lk 43 tys = some { kind := 3, size := 2, bytes := 48, z := [.slice none 0 0, .slice none 0 0], offs := [(0, 1), (1, 1)] } ∧ lk 46 tys = some { kind := 1, size := 1, bytes := 24, z := [.slice none 0 0], elem := 125 } ∧ lk 49 tys = some { kind := 1, size := 1, bytes := 24, z := [.slice none 0 0], elem := 52 } ∧ lk 52 tys = some { kind := 3, size := 4, bytes := 32, z := [.int .i64 0, .int .i64 0, .int .i64 0, .int .i64 0], offs := [(0, 1), (1, 1), (2, 1), (3, 1)], eqs := [4, 4, 4, 4] } ∧ lk 55 tys = some { kind := 1, size := 1, bytes := 24, z := [.slice none 0 0], elem := 127 } ∧ lk 59 tys = some { kind := 1, size := 1, bytes := 24, z := [.slice none 0 0], elem := 25 } ∧ lk 66 tys = some { kind := 1, size := 1, bytes := 24, z := [.slice none 0 0], elem := 217 } ∧ lk 68 tys = some { kind := 3, size := 3, bytes := 72, z := [.slice none 0 0, .slice none 0 0, .slice none 0 0], offs := [(0, 1), (1, 1), (2, 1)] } ∧ lk 69 tys = some { kind := 1, size := 1, bytes := 24, z := [.slice none 0 0], elem := 197 } ∧ lk 71 tys = some { kind := 3, size := 7, bytes := 120, z := [.slice none 0 0, .slice none 0 0, .slice none 0 0, .slice none 0 0, .int .i64 0, .int .i64 0, .int .i64 0], offs := [(0, 3), (3, 1), (4, 1), (5, 1), (6, 1)] } ∧ lk 73 tys = some { kind := 3, size := 4, bytes := 32, z := [.int .i64 0, .int .i64 0, .int .i64 0, .int .i64 0], offs := [(0, 1), (1, 1), (2, 1), (3, 1)], eqs := [4, 4, 4, 4] } ∧ lk 74 tys = some { kind := 1, size := 1, bytes := 24, z := [.slice none 0 0], elem := 9 } ∧ lk 76 tys = some { kind := 3, size := 4, bytes := 48, z := [.int .i64 0, .slice none 0 0, .int .i64 0, .int .i64 0], offs := [(0, 1), (1, 1), (2, 1), (3, 1)] } ∧ lk 78 tys = some { kind := 3, size := 18, bytes := 224, z := [.slice none 0 0, .slice none 0 0, .slice none 0 0, .slice none 0 0, .int .i64 0, .int .i64 0, .int .i64 0, .int .i64 0, .int .i64 0, .int .i64 0, .int .i64 0, .int .i64 0, .slice none 0 0, .int .i64 0, .int .i64 0, .int .i64 0, .int .i64 0, .int .i64 0], offs := [(0, 7), (7, 4), (11, 4), (15, 1), (16, 1), (17, 1)] } ∧ lk 81 tys = some { kind := 1, size := 1, bytes := 24, z := [.slice none 0 0], elem := 201 } ∧ lk 83 tys = some { kind := 3, size := 3, bytes := 72, z := [.slice none 0 0, .slice none 0 0, .slice none 0 0], offs := [(0, 1), (1, 1), (2, 1)] } ∧ lk 84 tys = some { kind := 1, size := 1, bytes := 24, z := [.slice none 0 0], elem := 174 } ∧ lk 86 tys = some { kind := 3, size := 7, bytes := 120, z := [.slice none 0 0, .slice none 0 0, .slice none 0 0, .slice none 0 0, .int .i64 0, .int .i64 0, .int .i64 0], offs := [(0, 3), (3, 1), (4, 1), (5, 1), (6, 1)] } ∧ lk 87 tys = some { kind := 3, size := 4, bytes := 32, z := [.int .i64 0, .int .i64 0, .int .i64 0, .int .i64 0], offs := [(0, 1), (1, 1), (2, 1), (3, 1)], eqs := [4, 4, 4, 4] } ∧ lk 88 tys = some { kind := 3, size := 4, bytes := 48, z := [.int .i64 0, .slice none 0 0, .int .i64 0, .int .i64 0], offs := [(0, 1), (1, 1), (2, 1), (3, 1)] } ∧ lk 90 tys = some { kind := 3, size := 18, bytes := 224, z := [.slice none 0 0, .slice none 0 0, .slice none 0 0, .slice none 0 0, .int .i64 0, .int .i64 0, .int .i64 0, .int .i64 0, .int .i64 0, .int .i64 0, .int .i64 0, .int .i64 0, .slice none 0 0, .int .i64 0, .int .i64 0, .int .i64 0, .int .i64 0, .int .i64 0], offs := [(0, 7), (7, 4), (11, 4), (15, 1), (16, 1), (17, 1)] } ∧ lk 95 tys = some { kind := 1, size := 1, bytes := 24, z := [.slice none 0 0], elem := 181 } ∧ lk 97 tys = some { kind := 3, size := 4, bytes := 72, z := [.int .i64 0, .string ⟨#[]⟩, .slice none 0 0, .slice none 0 0], offs := [(0, 1), (1, 1), (2, 1), (3, 1)] } ∧ lk 100 tys = some { kind := 3, size := 2, bytes := 24, z := [.string ⟨#[]⟩, .int .i64 0], offs := [(0, 1), (1, 1)], eqs := [2, 4] } ∧ lk 101 tys = some { kind := 1, size := 1, bytes := 24, z := [.slice none 0 0], elem := 149 } ∧ lk 103 tys = some { kind := 3, size := 4, bytes := 72, z := [.int .i64 0, .string ⟨#[]⟩, .slice none 0 0, .slice none 0 0], offs := [(0, 1), (1, 1), (2, 1), (3, 1)] } ∧ lk 113 tys = some { kind := 1, size := 1, bytes := 24, z := [.slice none 0 0], elem := 118 } ∧ lk 115 tys = some { kind := 1, size := 1, bytes := 24, z := [.slice none 0 0], elem := 74 } ∧ lk 118 tys = some { kind := 3, size := 2, bytes := 24, z := [.string ⟨#[]⟩, .int .i64 0], offs := [(0, 1), (1, 1)], eqs := [2, 4] } ∧ lk 125 tys = some { kind := 3, size := 4, bytes := 40, z := [.int .i64 0, .string ⟨#[]⟩, .int .i64 0, .int .i64 0], offs := [(0, 1), (1, 1), (2, 1), (3, 1)], eqs := [4, 2, 4, 4] } ∧ lk 127 tys = some { kind := 1, size := 1, bytes := 24, z := [.slice none 0 0], elem := 162 } ∧ lk 149 tys = some { kind := 3, size := 3, bytes := 32, z := [.int .i64 0, .int .i64 0, .string ⟨#[]⟩], offs := [(0, 1), (1, 1), (2, 1)], eqs := [4, 4, 2] } ∧ lk 151 tys = some { kind := 3, size := 3, bytes := 40, z := [.slice none 0 0, .int .i64 0, .int .i64 0], offs := [(0, 1), (1, 1), (2, 1)] } ∧ lk 162 tys = some { kind := 3, size := 2, bytes := 24, z := [.string ⟨#[]⟩, .int .i64 0], offs := [(0, 1), (1, 1)], eqs := [2, 4] } ∧ lk 174 tys = some { kind := 3, size := 7, bytes := 88, z := [.int .i64 0, .int .i64 0, .int .i64 0, .slice none 0 0, .slice none 0 0, .int .i64 0, .int .i64 0], offs := [(0, 1), (1, 1), (2, 1), (3, 1), (4, 1), (5, 1), (6, 1)] } ∧ lk 181 tys = some { kind := 3, size := 3, bytes := 32, z := [.int .i64 0, .int .i64 0, .string ⟨#[]⟩], offs := [(0, 1), (1, 1), (2, 1)], eqs := [4, 4, 2] } ∧ lk 187 tys = some { kind := 3, size := 3, bytes := 32, z := [.int .i64 0, .string ⟨#[]⟩, .int .i64 0], offs := [(0, 1), (1, 2)], eqs := [4, 2, 4] } ∧ lk 197 tys = some { kind := 3, size := 7, bytes := 88, z := [.int .i64 0, .int .i64 0, .int .i64 0, .slice none 0 0, .slice none 0 0, .int .i64 0, .int .i64 0], offs := [(0, 1), (1, 1), (2, 1), (3, 1), (4, 1), (5, 1), (6, 1)] } ∧ lk 199 tys = some { kind := 1, size := 1, bytes := 24, z := [.slice none 0 0], elem := 206 } ∧ lk 201 tys = some { kind := 3, size := 2, bytes := 40, z := [.string ⟨#[]⟩, .slice none 0 0], offs := [(0, 1), (1, 1)] } ∧ lk 206 tys = some { kind := 3, size := 3, bytes := 32, z := [.string ⟨#[]⟩, .int .i64 0, .int .i64 0], offs := [(0, 1), (1, 1), (2, 1)], eqs := [2, 4, 4] } ∧ lk 212 tys = some { kind := 4, size := 1, bytes := 8, z := [.int .u64 0], ik := some .u64 } ∧ lk 215 tys = some { kind := 1, size := 1, bytes := 24, z := [.slice none 0 0], elem := 231 } ∧ lk 217 tys = some { kind := 3, size := 2, bytes := 40, z := [.string ⟨#[]⟩, .slice none 0 0], offs := [(0, 1), (1, 1)] } ∧ lk 218 tys = some { kind := 1, size := 1, bytes := 24, z := [.slice none 0 0], elem := 225 } ∧ lk 225 tys = some { kind := 3, size := 2, bytes := 16, z := [.int .i64 0, .int .i64 0], offs := [(0, 1), (1, 1)], eqs := [4, 4] } ∧ lk 231 tys = some { kind := 3, size := 3, bytes := 32, z := [.string ⟨#[]⟩, .int .i64 0, .int .i64 0], offs := [(0, 1), (1, 1), (2, 1)], eqs := [2, 4, 4] } ∧ lk 242 tys = some { kind := 4, size := 1, bytes := 4, z := [.int .u32 0], ik := some .u32 } := ⟨rfl, rfl, rfl, rfl, rfl, rfl, rfl, rfl, rfl, rfl, rfl, rfl, rfl, rfl, rfl, rfl, rfl, rfl, rfl, rfl, rfl, rfl, rfl, rfl, rfl, rfl, rfl, rfl, rfl, rfl, rfl, rfl, rfl, rfl, rfl, rfl, rfl, rfl, rfl, rfl, rfl, rfl, rfl, rfl, rfl, rfl, rfl, rfl, rfl, rfl, rfl, rfl, rfl, rfl, rfl, rfl, rfl, rfl, rfl, rfl, rfl, rfl⟩
end Go.Proofs.Ytdbjioanlkilkaa

namespace Go.Proofs.Ytdbjioanlkilkaa
open Go.Vc
attribute [local go_sem] St.runR St.runW St.stepV offV St.step St.stepU St.stepG mkCond guardB St.prK St.pr St.prLen St.eff St.callE St.callD St.callF St.callL aI aB aS aR aC St.isM St.argL Ctr.pure Ctr.lend Ctr.move Ctr.isL Ctr.wri pur len lentBy St.lentV St.lent1 nthS argsR restOf obsR pairs swapL unObs backL St.resL erL SV.ren1 SV.up SV.up2 Ob.up St.fzL cellIds partIds St.intoRow SV.ownId St.fz SV.fz1 St.prep St.mvL St.mv SV.re1 rnOk St.prEq vals eqCells scEq Value.kd St.prStr St.prCut cutR St.bnd St.prMin St.bld isShift outL retL outJ oR oC oE oD SV.upq SV.isSl SV.shut St.ev St.get St.put St.new St.kill SV.kill SV.kill1 Ob.kill St.app St.wrt St.rowsOf St.res St.killL lk er argsL SV.strip SV.need SV.share SV.share1 SV.owns SV.owns1 SV.owns2 SV.good SV.good1 SV.rok SV.rok1 SV.rok2 SV.isV SV.isV2 nodupN SV.cells SV.one SV.pur Ob.pb partsIn rowsIn splice cellsAt dstOk scal2 scal1 thenK blockK retK outK outs okC okL okA okT nilC nilL nilA nilT keepC keepL keepA keepT St.runG St.dltK St.least St.clean St.final St.hide offK badS badO SV.refs SV.leaf SV.leaf2 Ob.refs dlOk fpAt Go.Vc.cover tups SV.ofAgg St.out outC subL St.has rng wr Value.oneCell' Option.isSome_some Option.isSome_none List.nil_append Bool.false_eq_true List.map_cons List.map_nil List.all_cons List.all_nil List.length_cons List.length_nil List.drop_zero List.drop_succ_cons List.take_succ_cons List.take_zero List.drop_nil List.take_nil List.getElem?_cons_zero List.getElem?_cons_succ List.getElem?_nil List.cons_append List.nil_append List.append_nil List.append_assoc List.flatMap_cons List.flatMap_nil List.contains_cons List.contains_nil List.set_cons_zero List.set_cons_succ List.getElem?_toArray Option.getD_some Option.getD_none Option.map_some Option.map_none Option.bind_some Option.some.injEq Prod.mk.injEq if_true if_false true_and and_true and_self and_false false_and Bool.and_false Bool.false_and Bool.or_true Bool.true_or Bool.or_false Bool.false_or ne_eq not_true_eq_false not_false_eq_true decide_true decide_false List.mem_cons List.not_mem_nil List.filter_cons List.filter_nil List.any_cons List.any_nil List.isEmpty_nil List.isEmpty_cons Option.getD_none or_false false_or true_or or_true forall_eq_or_imp forall_eq reduceCtorEq exists_eq exists_eq' exists_eq_left' exists_eq_left exists_eq_right exists_eq_right' imp_self implies_true Bool.and_true Bool.true_and Bool.and_self beq_self_eq_true List.replicate_succ List.replicate_zero forall_const false_implies pickB_or pickB_and beqT beqF Int.toNat_natCast List.length_map List.length_replicate ge_iff_le gt_iff_lt decide_eq_true_eq decide_eq_false_iff_not Bool.and_eq_true Bool.or_eq_true Bool.not_eq_true' Bool.not_eq_false' condG List.toList_toArray Bool.or_eq_false_iff Bool.and_eq_false_iff Int.not_lt Int.not_le beq_iff_eq beq_eq_false_iff_ne bne_iff_ne bne_eq_false_iff_eq ne_eq Bool.not_true Bool.not_false exists_and_left
section
open Go.Vc
set_option linter.unusedSimpArgs false
set_option linter.unusedVariables false
set_option maxHeartbeats 1000000
attribute [local irreducible] Go.Vc.WP
noncomputable def cx0 : Cx := { P := Try.prog, tys := tys, C := [], hty := tysOk, hC := COk.nil _ }
theorem cx0_t : cx0.tys = tys := rfl
theorem cx0_c : cx0.C = [] := rfl
attribute [local go_sem] cx0_t cx0_c

def encI (x : Int) : List SV := [.v (.int .i64 x)]
theorem encI_inj {L M : List Int} : L.map encI = M.map encI ↔ L = M := by
  exact List.map_inj_right (fun a b h => by simpa [encI] using h)

def decI (rows : List (List SV)) : List Int := rows.map fun r => match r with
  | [.v (.int _ n)] => n
  | _ => 0
theorem decI_enc (L : List Int) : decI (L.map encI) = L := by
  unfold decI
  rw [List.map_map]
  exact List.map_id'' (fun _ => rfl) L
theorem encI_decI {L : List Int} : (decI (L.map encI)).map encI = L.map encI := by rw [decI_enc]

theorem isV_I {e s : Nat} (L : List Int) : (Ob.sl e s (L.map encI)).isV := by
  intro row hr c hc
  obtain ⟨n, _, rfl⟩ := List.mem_map.1 hr
  simp [encI] at hc
  exact ⟨_, hc⟩
theorem isV_It {e s : Nat} (L : List Int) : (Ob.sl e s (L.map encI)).isV ↔ True := iff_true_intro (isV_I L)
def k60 : Ctr := pur (fun args => (aI args 0, aI args 1, aI args 2)) (fun x => [.v (.int .i64 x.1), .v (.int .i64 x.2.1), .v (.int .i64 x.2.2)]) (fun _ => True)
  (fun _ x => .v (.bool (decide (x.2.1 ≤ x.1) && decide (x.1 ≤ x.2.2)))) (fun _ _ => [])
theorem c60 : Cn Try.prog 55 k60 := by
  refine Cn.pur Try.func55 (by kernel_rfl) rfl fun d x _ => ?_
  obtain ⟨n, lo, hi⟩ := x
  refine Holds.go (c := cx0) Try.func55 rfl Try.results55 Try.ntmps55 (by omega) (by simp) rfl ?_
  intro X0 w0
  (repeat' (first | refine WP.seq ?_ | refine WP.block ?_ | ((first | refine WP.region ?_ | refine WP.condW ?_ | refine WP.ret ?_ | refine WP.exit ?_ | refine WP.skip ?_); simp only [go_sem, tyAll, Nat.reduceAdd, Nat.reduceLT, Nat.reduceLeDiff, Nat.reduceEqDiff, Nat.reduceMul, Nat.reduceSub, Nat.reduceGT, reduceIte, Int.reduceNeg, Int.reduceToNat]) |  refine And.intro ?_ ?_ | intro _))
theorem c58 : Cn Try.prog 71 k60 := by
  refine Cn.pur Try.func71 (by kernel_rfl) rfl fun d x _ => ?_
  obtain ⟨n, lo, hi⟩ := x
  refine Holds.go (c := cx0) Try.func71 rfl Try.results71 Try.ntmps71 (by omega) (by simp) rfl ?_
  intro X0 w0
  (repeat' (first | refine WP.seq ?_ | refine WP.block ?_ | ((first | refine WP.region ?_ | refine WP.condW ?_ | refine WP.ret ?_ | refine WP.exit ?_ | refine WP.skip ?_); simp only [go_sem, tyAll, Nat.reduceAdd, Nat.reduceLT, Nat.reduceLeDiff, Nat.reduceEqDiff, Nat.reduceMul, Nat.reduceSub, Nat.reduceGT, reduceIte, Int.reduceNeg, Int.reduceToNat]) |  refine And.intro ?_ ?_ | intro _))

def k15 : Ctr := pur (fun args => decI (aR args 0)) (fun L => [.sl 1 (L.map encI)]) (fun L => L.length ≤ 2097152) (fun d _ => .own d) (fun d L => [(d, .sl 3 1 (L.map encI))])
theorem c15 : Cn Try.prog 10 k15 := by
  refine Cn.pur Try.func10 (by kernel_rfl) rfl fun d L hL => ?_
  refine Holds.go (c := cx0) Try.func10 rfl Try.results10 Try.ntmps10 (by omega) (by simp) rfl ?_
  intro X0 w0
  (repeat' (first | refine WP.seq ?_ | refine WP.block ?_ | ((first | refine WP.region ?_ | refine WP.condW ?_ | refine WP.ret ?_ | refine WP.exit ?_ | refine WP.skip ?_); simp only [go_sem, tyAll, Nat.reduceAdd, Nat.reduceLT, Nat.reduceLeDiff, Nat.reduceEqDiff, Nat.reduceMul, Nat.reduceSub, Nat.reduceGT, reduceIte, Int.reduceNeg, Int.reduceToNat]) |  refine And.intro ?_ ?_ | intro _))
  · omega
  · omega
  · omega
  refine WP.loop (fun k : Nat => ⟨[(0, .sl 1 (L.map encI)), (3, .own 7), (4, .v (.int .i64 k))], [(7, .sl 3 1 (filled encI [.v (.int .i64 0)] L k))]⟩) (fun k => k ≤ L.length) (fun k => L.length - k) 0 (by omega) ?_ ?_
  · rw [filled_zero]; simp only [go_sem, tyAll, Nat.reduceAdd, Nat.reduceLT, Nat.reduceLeDiff, Nat.reduceEqDiff, Nat.reduceMul, Nat.reduceSub, Nat.reduceGT, reduceIte, Int.reduceNeg, Int.reduceToNat]; rfl
  intro k hk
  by_cases hlt : k < L.length
  · have h1 := rowAt_map encI L k hlt
    have h2 := filled_len encI [.v (.int .i64 0)] L k hk
    have h3 := filled_row encI [.v (.int .i64 0)] L k hlt
    have h4 := filled_set encI [.v (.int .i64 0)] L k hlt
    rw [encI] at h4
    (repeat' (first | refine WP.seq ?_ | refine WP.block ?_ | ((first | refine WP.region ?_ | refine WP.condW ?_ | refine WP.ret ?_ | refine WP.exit ?_ | refine WP.skip ?_); simp only [go_sem, h1, h2, h3, h4, encI, tyAll, Nat.reduceAdd, Nat.reduceLT, Nat.reduceLeDiff, Nat.reduceEqDiff, Nat.reduceMul, Nat.reduceSub, Nat.reduceGT, reduceIte, Int.reduceNeg, Int.reduceToNat]) |  refine And.intro ?_ ?_ | intro _))
    all_goals first | omega | skip
    exact ⟨k + 1, by omega, by omega, rfl, rfl⟩
  · have h2 := filled_len encI [.v (.int .i64 0)] L k hk
    have h5 : filled encI [.v (.int .i64 0)] L k = L.map encI := by rw [show k = L.length by omega]; exact filled_all _ _ _
    (repeat' (first | refine WP.seq ?_ | refine WP.block ?_ | ((first | refine WP.region ?_ | refine WP.condW ?_ | refine WP.ret ?_ | refine WP.exit ?_ | refine WP.skip ?_); simp only [go_sem, h2, h5, tyAll, Nat.reduceAdd, Nat.reduceLT, Nat.reduceLeDiff, Nat.reduceEqDiff, Nat.reduceMul, Nat.reduceSub, Nat.reduceGT, reduceIte, Int.reduceNeg, Int.reduceToNat]) |  refine And.intro ?_ ?_ | intro _))
    all_goals first | omega | skip

def k17 : Ctr := pur (fun args => (decI (aR args 0), decI (aR args 1))) (fun x => [.sl 1 (x.1.map encI), .sl 1 (x.2.map encI)]) (fun x => x.1.length ≤ 4398046511104) (fun _ x => .v (.bool (decide (x.1 = x.2)))) (fun _ _ => [])
theorem c17 : Cn Try.prog 14 k17 := by
  refine Cn.pur Try.func14 (by kernel_rfl) rfl fun d x hL => ?_
  obtain ⟨L, M⟩ := x
  simp only at hL ⊢
  refine Holds.go (c := cx0) Try.func14 rfl Try.results14 Try.ntmps14 (by omega) (by simp) rfl ?_
  intro X0 w0
  (repeat' (first | refine WP.seq ?_ | refine WP.block ?_ | ((first | refine WP.region ?_ | refine WP.condW ?_ | refine WP.ret ?_ | refine WP.exit ?_ | refine WP.skip ?_); simp only [go_sem, tyAll, Nat.reduceAdd, Nat.reduceLT, Nat.reduceLeDiff, Nat.reduceEqDiff, Nat.reduceMul, Nat.reduceSub, Nat.reduceGT, reduceIte, Int.reduceNeg, Int.reduceToNat]) |  refine And.intro ?_ ?_ | intro _))
  · simp; intro h; subst h; simp_all
  have hlen : L.length = M.length := by omega
  refine WP.loop (fun k : Nat => ⟨[(0, .sl 1 (L.map encI)), (1, .sl 1 (M.map encI)), (5, .v (.int .i64 k))], []⟩) (fun k => k ≤ L.length ∧ L.take k = M.take k) (fun k => L.length - k) 0 (by simp) ?_ ?_
  · simp only [go_sem, tyAll, Nat.reduceAdd, Nat.reduceLT, Nat.reduceLeDiff, Nat.reduceEqDiff, Nat.reduceMul, Nat.reduceSub, Nat.reduceGT, reduceIte, Int.reduceNeg, Int.reduceToNat]; rfl
  intro k ⟨hk, ht⟩
  by_cases hlt : k < L.length
  · have h1 := rowAt_map encI L k hlt
    have h2 := rowAt_map encI M k (by omega)
    (repeat' (first | refine WP.seq ?_ | refine WP.block ?_ | ((first | refine WP.region ?_ | refine WP.condW ?_ | refine WP.ret ?_ | refine WP.exit ?_ | refine WP.skip ?_); simp only [go_sem, h1, h2, encI, tyAll, Nat.reduceAdd, Nat.reduceLT, Nat.reduceLeDiff, Nat.reduceEqDiff, Nat.reduceMul, Nat.reduceSub, Nat.reduceGT, reduceIte, Int.reduceNeg, Int.reduceToNat]) | (refine WP.drawW 9 (by kernel_rfl) (by kernel_rfl) ?_; simp only [go_sem, h1, h2, encI, tyAll, Nat.reduceAdd, Nat.reduceLT, Nat.reduceLeDiff, Nat.reduceEqDiff, Nat.reduceMul, Nat.reduceSub, Nat.reduceGT, reduceIte, Int.reduceNeg, Int.reduceToNat]) |  refine And.intro ?_ ?_ | intro _))
    all_goals first | omega | skip
    · rename_i hne
      rw [show decide (L = M) = false from decide_eq_false fun e => by subst e; exact hne rfl]
    · rename_i he
      refine ⟨k + 1, ⟨by omega, ?_⟩, by omega, rfl⟩
      rw [List.take_succ_eq_append_getElem hlt, List.take_succ_eq_append_getElem (by omega : k < M.length), ht, he]
  · (repeat' (first | refine WP.seq ?_ | refine WP.block ?_ | ((first | refine WP.region ?_ | refine WP.condW ?_ | refine WP.ret ?_ | refine WP.exit ?_ | refine WP.skip ?_); simp only [go_sem, tyAll, Nat.reduceAdd, Nat.reduceLT, Nat.reduceLeDiff, Nat.reduceEqDiff, Nat.reduceMul, Nat.reduceSub, Nat.reduceGT, reduceIte, Int.reduceNeg, Int.reduceToNat]) |  refine And.intro ?_ ?_ | intro _))
    all_goals first | omega | skip
    rw [show decide (L = M) = true from decide_eq_true ?_]
    rw [show k = L.length by omega, List.take_length, hlen, List.take_length] at ht
    exact ht

def marksI (k : Int) (n : Nat) : List Int := (List.range n).map fun i : Nat => k + (i : Int)
theorem marksI_len (k : Int) (n : Nat) : (marksI k n).length = n := by simp [marksI]
theorem marksI_get (k : Int) (n i : Nat) (h : i < (marksI k n).length) : (marksI k n)[i] = k + i := by simp [marksI]
/-- the first k of them replaced -/
def halfI (L : List Int) (k0 : Int) (k : Nat) : List Int := marksI k0 k ++ L.drop k
theorem halfI_len (L : List Int) (k0 : Int) (k : Nat) (h : k ≤ L.length) : (halfI L k0 k).length = L.length := by simp [halfI, marksI_len]; omega
theorem halfI_set (L : List Int) (k0 : Int) (k : Nat) (h : k < L.length) : ((halfI L k0 k).map encI).set k (encI (k0 + k)) = (halfI L k0 (k + 1)).map encI := by
  rw [← List.map_set]
  congr 1
  unfold halfI
  rw [List.set_append, if_neg (by simp [marksI_len]), marksI_len, Nat.sub_self, List.drop_eq_getElem_cons h, List.set_cons_zero]
  simp [marksI, List.range_succ]

def k18 : Ctr := len [0] [] (fun args obs => (decI (oR obs 1000000), aI args 1)) (fun x => [.own 1000000, .v (.int .i64 x.2)]) (fun x => [(1000000, .sl 3 1 (x.1.map encI))]) (fun x => x.1.length ≤ 4398046511104 ∧ 0 ≤ x.2 ∧ x.2 ≤ 500000000000000)
  (fun _ x => .v (.int .i64 (x.2 + x.1.length))) (fun _ _ => []) (fun x => [(1000000, .sl 3 1 ((marksI x.2 x.1.length).map encI))])
theorem c18 : Cn Try.prog 16 k18 := by
  refine Cn.len Try.func16 (by kernel_rfl) rfl fun d x hd h => ?_
  obtain ⟨L, k0⟩ := x
  obtain ⟨hL, h0, h1⟩ := h
  simp only at hL h0 h1 ⊢
  refine HoldsL.go (c := cx0) Try.func16 rfl Try.results16 Try.ntmps16 (by omega) (by simp) rfl (by simp) (by simp [SV.owns2, SV.owns, SV.owns1]) (by simp) rfl rfl (by simp) ?_
  intro X0 M w0
  (repeat' (first | refine WP.seq ?_ | refine WP.block ?_ | ((first | refine WP.region ?_ | refine WP.condW ?_ | refine WP.ret ?_ | refine WP.exit ?_ | refine WP.skip ?_); simp only [go_sem, tyAll, Nat.reduceAdd, Nat.reduceLT, Nat.reduceLeDiff, Nat.reduceEqDiff, Nat.reduceMul, Nat.reduceSub, Nat.reduceGT, reduceIte, Int.reduceNeg, Int.reduceToNat]) |  refine And.intro ?_ ?_ | intro _))
  refine WP.loop (fun k : Nat => ⟨[(0, .own 1000000), (1, .v (.int .i64 (k0 + k))), (5, .v (.int .i64 k))], [(1000000, .sl 3 1 ((halfI L k0 k).map encI))]⟩) (fun k => k ≤ L.length) (fun k => L.length - k) 0 (by omega) ?_ ?_
  · have e : halfI L k0 0 = L := by simp [halfI, marksI]
    rw [e]; simp only [go_sem, tyAll, Nat.reduceAdd, Nat.reduceLT, Nat.reduceLeDiff, Nat.reduceEqDiff, Nat.reduceMul, Nat.reduceSub, Nat.reduceGT, reduceIte, Int.reduceNeg, Int.reduceToNat]; simp
  intro k hk
  have h2 := halfI_len L k0 k hk
  by_cases hlt : k < L.length
  · have h3 := halfI_set L k0 k hlt
    rw [encI] at h3
    have h4 := rowAt_map encI (halfI L k0 k) k (by omega)
    (repeat' (first | refine WP.seq ?_ | refine WP.block ?_ | ((first | refine WP.region ?_ | refine WP.condW ?_ | refine WP.ret ?_ | refine WP.exit ?_ | refine WP.skip ?_); simp only [go_sem, h2, h3, h4, encI, tyAll, Nat.reduceAdd, Nat.reduceLT, Nat.reduceLeDiff, Nat.reduceEqDiff, Nat.reduceMul, Nat.reduceSub, Nat.reduceGT, reduceIte, Int.reduceNeg, Int.reduceToNat]) |  refine And.intro ?_ ?_ | intro _))
    all_goals first | omega | skip
    refine ⟨k + 1, by omega, by omega, ⟨?_, rfl⟩, rfl⟩
    rw [show k0 + (k : Int) + 1 = k0 + ((k + 1 : Nat) : Int) by omega]
  · have h5 : halfI L k0 k = marksI k0 L.length := by rw [show k = L.length by omega]; simp [halfI]
    have h6 := marksI_len k0 L.length
    (repeat' (first | refine WP.seq ?_ | refine WP.block ?_ | ((first | refine WP.region ?_ | refine WP.condW ?_ | refine WP.ret ?_ | refine WP.exit ?_ | refine WP.skip ?_); simp only [go_sem, h2, h5, h6, tyAll, Nat.reduceAdd, Nat.reduceLT, Nat.reduceLeDiff, Nat.reduceEqDiff, Nat.reduceMul, Nat.reduceSub, Nat.reduceGT, reduceIte, Int.reduceNeg, Int.reduceToNat]) |  refine And.intro ?_ ?_ | intro _))
    all_goals first | omega | skip
    rw [show k = L.length by omega]
def k19 : Ctr := pur (fun args => (decI (aR args 0), aI args 1)) (fun x => [.sl 1 (x.1.map encI), .v (.int .i64 x.2)]) (fun x => x.1.length ≤ 4398046511104 ∧ 0 ≤ x.2 ∧ x.2 ≤ 500000000000000)
  (fun _ x => .v (.int .i64 (if x.1 = marksI x.2 x.1.length then x.2 + x.1.length else -1))) (fun _ _ => [])
theorem c19 : Cn Try.prog 65 k19 := by
  refine Cn.pur Try.func65 (by kernel_rfl) rfl fun d x h => ?_
  obtain ⟨L, k0⟩ := x
  obtain ⟨hL, h0, h1⟩ := h
  simp only at hL h0 h1 ⊢
  refine Holds.go (c := cx0) Try.func65 rfl Try.results65 Try.ntmps65 (by omega) (by simp) rfl ?_
  intro X0 w0
  (repeat' (first | refine WP.seq ?_ | refine WP.block ?_ | ((first | refine WP.region ?_ | refine WP.condW ?_ | refine WP.ret ?_ | refine WP.exit ?_ | refine WP.skip ?_); simp only [go_sem, tyAll, Nat.reduceAdd, Nat.reduceLT, Nat.reduceLeDiff, Nat.reduceEqDiff, Nat.reduceMul, Nat.reduceSub, Nat.reduceGT, reduceIte, Int.reduceNeg, Int.reduceToNat]) |  refine And.intro ?_ ?_ | intro _))
  refine WP.loop (fun k : Nat => ⟨[(0, .sl 1 (L.map encI)), (1, .v (.int .i64 (k0 + k))), (5, .v (.int .i64 k))], []⟩) (fun k => k ≤ L.length ∧ L.take k = marksI k0 k) (fun k => L.length - k) 0 (by simp [marksI]) ?_ ?_
  · simp only [go_sem, tyAll, Nat.reduceAdd, Nat.reduceLT, Nat.reduceLeDiff, Nat.reduceEqDiff, Nat.reduceMul, Nat.reduceSub, Nat.reduceGT, reduceIte, Int.reduceNeg, Int.reduceToNat]; simp
  intro k ⟨hk, ht⟩
  by_cases hlt : k < L.length
  · have h3 := rowAt_map encI L k hlt
    (repeat' (first | refine WP.seq ?_ | refine WP.block ?_ | ((first | refine WP.region ?_ | refine WP.condW ?_ | refine WP.ret ?_ | refine WP.exit ?_ | refine WP.skip ?_); simp only [go_sem, h3, encI, tyAll, Nat.reduceAdd, Nat.reduceLT, Nat.reduceLeDiff, Nat.reduceEqDiff, Nat.reduceMul, Nat.reduceSub, Nat.reduceGT, reduceIte, Int.reduceNeg, Int.reduceToNat]) |  refine And.intro ?_ ?_ | intro _))
    all_goals first | omega | skip
    · rename_i hne
      rw [if_neg]
      intro e
      apply hne
      have : L[k] = (marksI k0 L.length)[k]'(by rw [marksI_len]; exact hlt) := by congr 1
      rw [this, marksI_get]
    · rename_i he
      refine ⟨k + 1, ⟨by omega, ?_⟩, by omega, ?_, rfl⟩
      · rw [List.take_succ_eq_append_getElem hlt, ht, he]; simp [marksI, List.range_succ]
      · rw [show k0 + (k : Int) + 1 = k0 + ((k + 1 : Nat) : Int) by omega]
  · (repeat' (first | refine WP.seq ?_ | refine WP.block ?_ | ((first | refine WP.region ?_ | refine WP.condW ?_ | refine WP.ret ?_ | refine WP.exit ?_ | refine WP.skip ?_); simp only [go_sem, tyAll, Nat.reduceAdd, Nat.reduceLT, Nat.reduceLeDiff, Nat.reduceEqDiff, Nat.reduceMul, Nat.reduceSub, Nat.reduceGT, reduceIte, Int.reduceNeg, Int.reduceToNat]) |  refine And.intro ?_ ?_ | intro _))
    all_goals first | omega | skip
    rw [show k = L.length by omega, List.take_length] at ht
    rw [if_pos ht, show k = L.length by omega]
end
end Go.Proofs.Ytdbjioanlkilkaa
/-
  DERIVED. Plain lists: the first place where something holds.
-/
namespace Go.Proofs.Ytdbjioanlkilkaa
set_option linter.unusedVariables false
def firstIdx {α : Type} (p : α → Bool) (L : List α) : Int := match L.findIdx? p with
  | some i => (i : Int)
  | none => -1
theorem firstIdx_hit {α : Type} {p : α → Bool} {L : List α} {k : Nat} (hk : k < L.length) (h : ∀ i (hi : i < L.length), i < k → p L[i] = false) (hp : p L[k] = true) : firstIdx p L = k := by
  unfold firstIdx
  have : L.findIdx? p = some k := by
    rw [List.findIdx?_eq_some_iff_getElem]
    exact ⟨hk, hp, fun j hj => by simp [h j (by omega) hj]⟩
  rw [this]
theorem firstIdx_none {α : Type} {p : α → Bool} {L : List α} (h : ∀ i (hi : i < L.length), p L[i] = false) : firstIdx p L = -1 := by
  unfold firstIdx
  have : L.findIdx? p = none := by
    rw [List.findIdx?_eq_none_iff]
    intro x hx
    obtain ⟨i, hi, rfl⟩ := List.mem_iff_getElem.1 hx
    exact h i hi
  rw [this]

/-- what is left of a measure behind a list of sizes -/
def szGo : List Nat → Int → Int
  | [], r => r
  | n :: l, r => if r - n < 0 then -1 else szGo l (r - n)
theorem szGo_drop (L : List Nat) (k : Nat) (r : Int) (h : k < L.length) : szGo (L.drop k) r = if r - (L[k] : Int) < 0 then -1 else szGo (L.drop (k + 1)) (r - (L[k] : Int)) := by
  rw [List.drop_eq_getElem_cons h]; rfl
theorem szGo_ok : ∀ (L : List Nat) (r : Int), 0 ≤ r → 0 ≤ szGo L r → ∀ n ∈ L, (n : Int) ≤ r
  | [], _, _, _, n, hn => by cases hn
  | m :: l, r, h0, h, n, hn => by
    unfold szGo at h
    split at h
    · omega
    · rename_i h2
      rcases List.mem_cons.1 hn with rfl | hn
      · omega
      · have := szGo_ok l (r - m) (by omega) h n hn
        omega
/-! what a function value has captured -/
open Go.Vc in
def capS (args : List SV) (i : Nat) : ByteArray := match args[i]? with
  | some (.rptr _ [[.v (.string s)]] _ _) => s
  | some (.fn _ [.rptr _ [[.v (.string s)]] _ _]) => s
  | _ => ⟨#[]⟩
open Go.Vc in
def capI (args : List SV) (i : Nat) : Int := match args[i]? with
  | some (.rptr _ [[.v (.int .i64 n)]] _ _) => n
  | some (.fn _ [.rptr _ [[.v (.int .i64 n)]] _ _]) => n
  | _ => 0
end Go.Proofs.Ytdbjioanlkilkaa

namespace Go.Proofs.Ytdbjioanlkilkaa
open Go.Vc
attribute [local go_sem] St.runR St.runW St.stepV offV St.step St.stepU St.stepG mkCond guardB St.prK St.pr St.prLen St.eff St.callE St.callD St.callF St.callL aI aB aS aR aC St.isM St.argL Ctr.pure Ctr.lend Ctr.move Ctr.isL Ctr.wri pur len lentBy St.lentV St.lent1 nthS argsR restOf obsR pairs swapL unObs backL St.resL erL SV.ren1 SV.up SV.up2 Ob.up St.fzL cellIds partIds St.intoRow SV.ownId St.fz SV.fz1 St.prep St.mvL St.mv SV.re1 rnOk St.prEq vals eqCells scEq Value.kd St.prStr St.prCut cutR St.bnd St.prMin St.bld isShift outL retL outJ oR oC oE oD SV.upq SV.isSl SV.shut St.ev St.get St.put St.new St.kill SV.kill SV.kill1 Ob.kill St.app St.wrt St.rowsOf St.res St.killL lk er argsL SV.strip SV.need SV.share SV.share1 SV.owns SV.owns1 SV.owns2 SV.good SV.good1 SV.rok SV.rok1 SV.rok2 SV.isV SV.isV2 nodupN SV.cells SV.one SV.pur Ob.pb partsIn rowsIn splice cellsAt dstOk scal2 scal1 thenK blockK retK outK outs okC okL okA okT nilC nilL nilA nilT keepC keepL keepA keepT St.runG St.dltK St.least St.clean St.final St.hide offK badS badO SV.refs SV.leaf SV.leaf2 Ob.refs dlOk fpAt Go.Vc.cover tups SV.ofAgg St.out outC subL St.has rng wr Value.oneCell' Option.isSome_some Option.isSome_none List.nil_append Bool.false_eq_true List.map_cons List.map_nil List.all_cons List.all_nil List.length_cons List.length_nil List.drop_zero List.drop_succ_cons List.take_succ_cons List.take_zero List.drop_nil List.take_nil List.getElem?_cons_zero List.getElem?_cons_succ List.getElem?_nil List.cons_append List.nil_append List.append_nil List.append_assoc List.flatMap_cons List.flatMap_nil List.contains_cons List.contains_nil List.set_cons_zero List.set_cons_succ List.getElem?_toArray Option.getD_some Option.getD_none Option.map_some Option.map_none Option.bind_some Option.some.injEq Prod.mk.injEq if_true if_false true_and and_true and_self and_false false_and Bool.and_false Bool.false_and Bool.or_true Bool.true_or Bool.or_false Bool.false_or ne_eq not_true_eq_false not_false_eq_true decide_true decide_false List.mem_cons List.not_mem_nil List.filter_cons List.filter_nil List.any_cons List.any_nil List.isEmpty_nil List.isEmpty_cons Option.getD_none or_false false_or true_or or_true forall_eq_or_imp forall_eq reduceCtorEq exists_eq exists_eq' exists_eq_left' exists_eq_left exists_eq_right exists_eq_right' imp_self implies_true Bool.and_true Bool.true_and Bool.and_self beq_self_eq_true List.replicate_succ List.replicate_zero forall_const false_implies pickB_or pickB_and beqT beqF Int.toNat_natCast List.length_map List.length_replicate ge_iff_le gt_iff_lt decide_eq_true_eq decide_eq_false_iff_not Bool.and_eq_true Bool.or_eq_true Bool.not_eq_true' Bool.not_eq_false' condG List.toList_toArray Bool.or_eq_false_iff Bool.and_eq_false_iff Int.not_lt Int.not_le beq_iff_eq beq_eq_false_iff_ne bne_iff_ne bne_eq_false_iff_eq ne_eq Bool.not_true Bool.not_false exists_and_left
section
open Go.Vc
set_option linter.unusedSimpArgs false
set_option linter.unusedVariables false
set_option maxHeartbeats 1000000
set_option maxRecDepth 10000
attribute [local irreducible] Go.Vc.WP
attribute [local go_sem] cx0_t cx0_c
theorem rowAt_set (rows : List (List SV)) (i : Nat) (r : List SV) (h : i < rows.length) : Go.Vc.rowAt (rows.set i r) i = r := by
  unfold Go.Vc.rowAt
  rw [List.getElem?_set_self h]; rfl
theorem lt_ediv (k : Int) (h : 0 < k) : k / 10 < k := by omega
/-- the decimal digits of a number above 0 -/
def decB : Nat → List UInt8
  | 0 => []
  | k + 1 => decB ((k + 1) / 10) ++ [UInt8.ofNat (48 + (k + 1) % 10)]
decreasing_by omega
theorem decB_pos (k : Nat) (h : 0 < k) : decB k = decB (k / 10) ++ [UInt8.ofNat (48 + k % 10)] := by
  cases k with
  | zero => omega
  | succ k => rw [decB]
theorem decB_len : ∀ (n k : Nat), k < 10 ^ n → (decB k).length ≤ n
  | 0, k, h => by have : k = 0 := by simpa using h
                  subst this; simp [decB]
  | n + 1, k, h => by
    rcases Nat.eq_zero_or_pos k with h0 | h0
    · subst h0; simp [decB]
    · rw [decB_pos k h0, List.length_append]
      have := decB_len n (k / 10) (by rw [Nat.pow_succ] at h; omega)
      simp only [List.length_cons, List.length_nil]; omega
def bts (l : List UInt8) : ByteArray := ⟨l.toArray⟩
def markT (k : Int) : ByteArray := if k ≤ 0 then ⟨#[109, 48]⟩ else ⟨#[109]⟩ ++ bts (decB k.toNat)
theorem bts_append (a b : List UInt8) : bts a ++ bts b = bts (a ++ b) := by
  unfold bts
  apply ByteArray.ext
  simp
theorem bts_size (a : List UInt8) : (bts a).size = a.length := by simp [bts, ByteArray.size]
theorem strOf_one (n : Int) (h0 : 0 ≤ n) (h1 : n ≤ 9) : strOf [[.v (.int .u8 (48 + n))]] = bts [UInt8.ofNat (48 + n.toNat)] := by
  have e : (48 + n).toNat = 48 + n.toNat := by omega
  have e2 : Go.Vc.byteOf [.v (.int .u8 (48 + n))] = UInt8.ofNat (48 + n.toNat) := by show UInt8.ofNat (48 + n).toNat = _; rw [e]
  unfold strOf bts
  rw [List.map_cons, List.map_nil, e2]
def kmarkT : Ctr := pur (fun args => aI args 0) (fun k => [.v (.int .i64 k)]) (fun k => k ≤ 1000000000000000) (fun _ k => .v (.string (markT k))) (fun _ _ => [])
theorem cmarkT : Cn Try.prog 46 kmarkT := by
  refine Cn.pur Try.func46 (by kernel_rfl) rfl fun d x hx => ?_
  refine Holds.go (c := cx0) Try.func46 rfl Try.results46 Try.ntmps46 (by omega) (by simp) rfl ?_
  intro X0 w0
  (repeat' (first | refine WP.seq ?_ | refine WP.block ?_ | ((first | refine WP.region ?_ | refine WP.condW ?_ | refine WP.ret ?_ | refine WP.exit ?_ | refine WP.skip ?_); simp only [go_sem, tyAll, Nat.reduceAdd, Nat.reduceLT, Nat.reduceLeDiff, Nat.reduceEqDiff, Nat.reduceMul, Nat.reduceSub, Nat.reduceGT, reduceIte, Int.reduceNeg, Int.reduceToNat]) |  refine And.intro ?_ ?_ | intro _))
  all_goals first | omega | skip
  · rename_i h; simp [markT, h]
  rename_i h
  refine WP.loop (fun s : Nat × List UInt8 => ⟨[(0, .v (.int .i64 (s.1 : Int))), (3, .v (.string (bts s.2)))], []⟩) (fun s => decB s.1 ++ s.2 = decB x.toNat ∧ s.2.length ≤ 20 ∧ s.1 < 10000000000000000) (fun s => s.1) (x.toNat, []) ⟨by simp, by simp, by simp only; omega⟩ ?_ ?_
  · have : (x.toNat : Int) = x := by omega
    simp only [go_sem, this, tyAll, Nat.reduceAdd, Nat.reduceLT, Nat.reduceLeDiff, Nat.reduceEqDiff, Nat.reduceMul, Nat.reduceSub, Nat.reduceGT, reduceIte, Int.reduceNeg, Int.reduceToNat]; (first | rfl | exact ⟨rfl, rfl⟩ | exact ⟨rfl, rfl, rfl⟩ | exact ⟨rfl, rfl, rfl, rfl⟩ | exact ⟨rfl, rfl, rfl, rfl, rfl⟩ | exact ⟨⟨rfl, rfl⟩, rfl⟩ | simp)
  rintro ⟨k, out⟩ ⟨hk, hl, hb⟩
  simp only at hk hl hb ⊢
  have hlx : (decB x.toNat).length ≤ 16 := decB_len 16 _ (by omega)
  have hlk : out.length ≤ 16 := by rw [← hk, List.length_append] at hlx; omega
  by_cases hpos : 0 < k
  · have hm : (k : Int).tmod 10 = ((k % 10 : Nat) : Int) := by rw [Int.tmod_eq_emod_of_nonneg (by omega)]; omega
    have hd : (k : Int).tdiv 10 = ((k / 10 : Nat) : Int) := by rw [Int.tdiv_eq_ediv_of_nonneg (by omega)]; omega
    have hw : IntKind.u8.wrap (48 + ((k % 10 : Nat) : Int)) = 48 + ((k % 10 : Nat) : Int) := by
      have : k % 10 < 10 := Nat.mod_lt _ (by omega)
      simp only [IntKind.wrap, IntKind.bits, IntKind.signed, Bool.false_and, Bool.false_eq_true, if_false]
      omega
    have hs := strOf_one ((k % 10 : Nat) : Int) (by omega) (by omega)
    have hc := bts_append [UInt8.ofNat (48 + k % 10)] out
    have hz := bts_size [UInt8.ofNat (48 + k % 10)]
    have hz2 := bts_size out
    rw [Int.toNat_natCast] at hs
    (repeat' (first | refine WP.seq ?_ | refine WP.block ?_ | ((first | refine WP.region ?_ | refine WP.condW ?_ | refine WP.ret ?_ | refine WP.exit ?_ | refine WP.skip ?_); simp only [go_sem, hm, hd, hw, hs, hc, hz, hz2, tyAll, Nat.reduceAdd, Nat.reduceLT, Nat.reduceLeDiff, Nat.reduceEqDiff, Nat.reduceMul, Nat.reduceSub, Nat.reduceGT, reduceIte, Int.reduceNeg, Int.reduceToNat]) |  refine And.intro ?_ ?_ | intro _))
    all_goals first | omega | skip
    · exact ⟨_, rfl⟩
    · refine ⟨(k / 10, UInt8.ofNat (48 + k % 10) :: out), ⟨?_, by simp only [List.length_cons]; omega, by simp only; omega⟩, by simp only; omega, rfl, rfl⟩
      simp only
      rw [← hk, decB_pos k hpos, List.append_assoc]; rfl
  · have hk0 : k = 0 := by omega
    subst hk0
    have hout : out = decB x.toNat := by rw [← hk]; simp [decB]
    have hz2 := bts_size out
    have hz3 : ByteArray.size ⟨#[109]⟩ = 1 := rfl
    (repeat' (first | refine WP.seq ?_ | refine WP.block ?_ | ((first | refine WP.region ?_ | refine WP.condW ?_ | refine WP.ret ?_ | refine WP.exit ?_ | refine WP.skip ?_); simp only [go_sem, hz2, hz3, tyAll, Nat.reduceAdd, Nat.reduceLT, Nat.reduceLeDiff, Nat.reduceEqDiff, Nat.reduceMul, Nat.reduceSub, Nat.reduceGT, reduceIte, Int.reduceNeg, Int.reduceToNat]) |  refine And.intro ?_ ?_ | intro _))
    all_goals first | omega | skip
    rw [markT, if_neg (by omega), hout]
theorem markT_size (k : Int) (h : k ≤ 1000000000000000) : (markT k).size ≤ 17 := by
  unfold markT
  split
  · decide
  · have h1 := decB_len 16 k.toNat (by omega)
    have h2 : ByteArray.size ⟨#[109]⟩ = 1 := rfl
    rw [ByteArray.size_append, bts_size, h2]
    omega

/-! ## lists of strings -/
def encS (x : ByteArray) : List SV := [.v (.string x)]
def oneS : List SV → ByteArray
  | [.v (.string n)] => n
  | _ => ⟨#[]⟩
def decS (rows : List (List SV)) : List ByteArray := rows.map oneS
theorem oneS_enc (x : ByteArray) : oneS (encS x) = x := rfl
theorem decS_enc (L : List ByteArray) : decS (L.map encS) = L := by
  unfold decS
  rw [List.map_map]
  exact List.map_id'' oneS_enc L
theorem isV_S {e s : Nat} (L : List ByteArray) : (Ob.sl e s (L.map encS)).isV ↔ True := iff_true_intro (by
  intro row hr c hc
  obtain ⟨n, _, rfl⟩ := List.mem_map.1 hr
  simp [encS] at hc
  exact ⟨_, hc⟩)
end
end Go.Proofs.Ytdbjioanlkilkaa
/-
  DERIVED. Decimal numbers in plain Lean.
-/
namespace Go.Proofs.Ytdbjioanlkilkaa
set_option linter.unusedVariables false
def dig (c : UInt8) : Bool := decide (48 ≤ c.toNat) && decide (c.toNat ≤ 57)
theorem dig_iff {c : UInt8} : dig c = true ↔ 48 ≤ c.toNat ∧ c.toNat ≤ 57 := by simp [dig]
def valL (l : List UInt8) : Nat := l.foldl (fun n c => 10 * n + (c.toNat - 48)) 0
theorem valL_snoc (l : List UInt8) (c : UInt8) : valL (l ++ [c]) = 10 * valL l + (c.toNat - 48) := by simp [valL]
theorem ofNat_dig {c : UInt8} (h : dig c = true) : UInt8.ofNat (48 + (c.toNat - 48)) = c := by
  have := dig_iff.1 h
  rw [show 48 + (c.toNat - 48) = c.toNat by omega]
  exact UInt8.ofNat_toNat
theorem valL_lt : ∀ (n : Nat) (l : List UInt8), l.length = n → l.all dig = true → valL l < 10 ^ n
  | 0, l, h, _ => by have := List.eq_nil_of_length_eq_zero h; subst this; simp [valL]
  | n + 1, l, h, hd => by
    have hne : l ≠ [] := by intro e; subst e; simp at h
    have e := (List.dropLast_concat_getLast hne).symm
    rw [e] at hd ⊢
    rw [List.all_append, Bool.and_eq_true] at hd
    have ih := valL_lt n l.dropLast (by simp [h]) hd.1
    have hc : dig (l.getLast hne) = true := by simpa using hd.2
    have := dig_iff.1 hc
    rw [valL_snoc, Nat.pow_succ]
    omega
theorem decB_valL : ∀ (n : Nat) (l : List UInt8), l.length = n + 1 → l.all dig = true → l.head? ≠ some 48 → decB (valL l) = l ∧ 0 < valL l
  | 0, l, h, hd, hh => by
    match l, h with
    | [c], _ =>
      have hc : dig c = true := by simpa using hd
      have h1 := dig_iff.1 hc
      have hne : c.toNat ≠ 48 := by
        intro e
        apply hh
        simp only [List.head?_cons, Option.some.injEq]
        exact UInt8.toNat_inj.1 e
      have hv : valL [c] = c.toNat - 48 := by simp [valL]
      rw [hv]
      have h0 : 0 < c.toNat - 48 := by omega
      refine ⟨?_, h0⟩
      rw [decB_pos _ h0, show (c.toNat - 48) / 10 = 0 by omega, show (c.toNat - 48) % 10 = c.toNat - 48 by omega, ofNat_dig hc]
      simp [decB]
  | n + 1, l, h, hd, hh => by
    have hne : l ≠ [] := by intro e; subst e; simp at h
    have e := (List.dropLast_concat_getLast hne).symm
    have hlen : l.dropLast.length = n + 1 := by simp [h]
    have hd' := hd
    rw [e, List.all_append, Bool.and_eq_true] at hd'
    have hh' : l.dropLast.head? ≠ some 48 := by
      intro e2
      apply hh
      rw [e, List.head?_append, e2]; rfl
    obtain ⟨i1, i2⟩ := decB_valL n l.dropLast hlen hd'.1 hh'
    have hc : dig (l.getLast hne) = true := by simpa using hd'.2
    have h1 := dig_iff.1 hc
    have hv : valL l = 10 * valL l.dropLast + ((l.getLast hne).toNat - 48) := by
      have := valL_snoc l.dropLast (l.getLast hne)
      rwa [← e] at this
    have hpos : 0 < valL l := by omega
    refine ⟨?_, hpos⟩
    rw [decB_pos _ hpos, show valL l / 10 = valL l.dropLast by omega, show valL l % 10 = (l.getLast hne).toNat - 48 by omega, ofNat_dig hc, i1]
    exact e.symm
/-- the decimal text of a number -/
def fmtL (n : Nat) : List UInt8 := if n = 0 then [48] else decB n
theorem valL_zero_head (l : List UInt8) : valL (48 :: l) = valL l := by simp [valL]
theorem fmtL_valL (l : List UInt8) (hd : l.all dig = true) : fmtL (valL l) = l ↔ (l ≠ [] ∧ ¬ (1 < l.length ∧ l.head? = some 48)) := by
  constructor
  · intro h
    refine ⟨fun e => by subst e; simp [valL, fmtL] at h, fun ⟨h1, h2⟩ => ?_⟩
    match l, h2 with
    | c :: t, h2 =>
      simp only [List.head?_cons, Option.some.injEq] at h2
      subst h2
      simp only [List.all_cons, Bool.and_eq_true] at hd
      have hlt := valL_lt t.length t rfl hd.2
      rw [valL_zero_head] at h
      unfold fmtL at h
      split at h
      · have := congrArg List.length h
        simp only [List.length_cons, List.length_nil] at this h1; omega
      · have h3 := decB_len t.length (valL t) hlt
        rw [h] at h3
        simp only [List.length_cons] at h3
        omega
  · rintro ⟨h1, h2⟩
    by_cases hh : l.head? = some 48
    · match l, hh with
      | c :: t, hh =>
        simp only [List.head?_cons, Option.some.injEq] at hh
        subst hh
        have ht : t = [] := by
          have : t.length = 0 := by
            rcases Nat.eq_zero_or_pos t.length with h | h
            · exact h
            · exact absurd ⟨by simp; omega, rfl⟩ h2
          exact List.eq_nil_of_length_eq_zero this
        subst ht
        simp [valL, fmtL]
    · have hlen : ∃ n, l.length = n + 1 := ⟨l.length - 1, by have := List.length_pos_iff.2 h1; omega⟩
      obtain ⟨n, hn⟩ := hlen
      obtain ⟨a, b⟩ := decB_valL n l hn hd hh
      unfold fmtL
      rw [if_neg (by omega)]; exact a

/-! ## of byte arrays -/
def valN (s : ByteArray) (k : Nat) : Nat := valL (s.data.toList.take k)
theorem valN_zero (s : ByteArray) : valN s 0 = 0 := by simp [valN, valL]
theorem valN_succ (s : ByteArray) (k : Nat) (h : k < s.size) : valN s (k + 1) = 10 * valN s k + (s[k]!.toNat - 48) := by
  unfold valN
  have h' : k < s.data.toList.length := by simpa using h
  rw [List.take_succ_eq_append_getElem h', valL_snoc]
  congr 2
  rw [getElem!_pos s k h]
  rfl
theorem allDig {s : ByteArray} (h : ∀ i, i < s.size → dig s[i]! = true) : s.data.toList.all dig = true := by
  rw [List.all_eq_true]
  intro c hc
  obtain ⟨i, hi, rfl⟩ := List.mem_iff_getElem.1 hc
  have hi' : i < s.size := by simpa using hi
  have := h i hi'
  rw [getElem!_pos s i hi'] at this
  exact this
theorem valN_lt {s : ByteArray} (k : Nat) (hk : k ≤ s.size) (h : ∀ i, i < k → dig s[i]! = true) : valN s k < 10 ^ k := by
  refine valL_lt k _ (by simp; omega) ?_
  rw [List.all_eq_true]
  intro c hc
  obtain ⟨i, hi, rfl⟩ := List.mem_iff_getElem.1 hc
  have hi' : i < k := by simp at hi; omega
  have := h i hi'
  rw [getElem!_pos s i (by omega)] at this
  rw [List.getElem_take]
  exact this
theorem pow_le10 (k : Nat) (h : k ≤ 10) : 10 ^ k ≤ 10000000000 := by
  have : 10 ^ k ≤ 10 ^ 10 := Nat.pow_le_pow_right (by omega) h
  omega
def parseU (s : ByteArray) : Option Nat :=
  if s.size ≠ 0 ∧ s.size ≤ 10 ∧ ¬ (1 < s.size ∧ s[0]! = 48) ∧ s.data.toList.all dig = true ∧ valN s s.size ≤ 1000000000 then some (valN s s.size) else none
theorem valN_all (s : ByteArray) : valN s s.size = valL s.data.toList := by
  unfold valN
  rw [List.take_of_length_le (by simp)]
theorem bts_list (s : ByteArray) : bts s.data.toList = s := by
  unfold bts; simp
theorem bts_inj {a b : List UInt8} (h : bts a = bts b) : a = b := by
  unfold bts at h
  injection h with h
  exact Array.toList_inj.2 h |> fun e => by simpa using e
theorem head_get (s : ByteArray) (h : 0 < s.size) : s.data.toList.head? = some s[0]! := by
  rw [getElem!_pos s 0 h, List.head?_eq_getElem?, List.getElem?_eq_getElem (by simpa using h)]
  rfl
theorem fmt_text {s : ByteArray} (hd : ∀ i, i < s.size → dig s[i]! = true) : bts (fmtL (valN s s.size)) = s ↔ (s.size ≠ 0 ∧ ¬ (1 < s.size ∧ s[0]! = 48)) := by
  have h1 := fmtL_valL s.data.toList (allDig hd)
  rw [← valN_all] at h1
  have e : bts (fmtL (valN s s.size)) = s ↔ fmtL (valN s s.size) = s.data.toList := by
    constructor
    · intro h
      exact bts_inj (by rw [h, bts_list])
    · intro h; rw [h, bts_list]
  rw [e, h1]
  have hsz : s.data.toList.length = s.size := by simp
  constructor
  · rintro ⟨a, b⟩
    have h0 : s.size ≠ 0 := fun e => a (List.eq_nil_of_length_eq_zero (by omega))
    refine ⟨h0, fun ⟨c, d⟩ => b ⟨by omega, by rw [head_get s (by omega), d]⟩⟩
  · rintro ⟨a, b⟩
    refine ⟨fun e => a (by rw [← hsz, e]; rfl), fun ⟨c, d⟩ => b ⟨by omega, ?_⟩⟩
    rw [head_get s (by omega)] at d
    simpa using d
theorem parseU_bad {s : ByteArray} {i : Nat} (h : i < s.size) (hb : dig s[i]! = false) : parseU s = none := by
  unfold parseU
  rw [if_neg]
  rintro ⟨_, _, _, hd, _⟩
  rw [List.all_eq_true] at hd
  have := hd s[i]! (by rw [getElem!_pos s i h]; exact Array.getElem_mem_toList (by exact h))
  rw [this] at hb; cases hb
theorem parseU_ok {s : ByteArray} (hd : ∀ i, i < s.size → dig s[i]! = true) (h1 : s.size ≠ 0) (h2 : s.size ≤ 10) (h3 : ¬ (1 < s.size ∧ s[0]! = 48)) (h4 : valN s s.size ≤ 1000000000) : parseU s = some (valN s s.size) := by
  unfold parseU
  rw [if_pos ⟨h1, h2, h3, allDig hd, h4⟩]
theorem parseU_none {s : ByteArray} (h : s.size = 0 ∨ 10 < s.size ∨ (1 < s.size ∧ s[0]! = 48) ∨ 1000000000 < valN s s.size) : parseU s = none := by
  unfold parseU
  rw [if_neg]
  rintro ⟨a, b, c, d, e⟩
  rcases h with h | h | h | h
  · exact a h
  · omega
  · exact c h
  · omega
end Go.Proofs.Ytdbjioanlkilkaa

namespace Go.Proofs.Ytdbjioanlkilkaa
open Go.Vc
attribute [local go_sem] St.runR St.runW St.stepV offV St.step St.stepU St.stepG mkCond guardB St.prK St.pr St.prLen St.eff St.callE St.callD St.callF St.callL aI aB aS aR aC St.isM St.argL Ctr.pure Ctr.lend Ctr.move Ctr.isL Ctr.wri pur len lentBy St.lentV St.lent1 nthS argsR restOf obsR pairs swapL unObs backL St.resL erL SV.ren1 SV.up SV.up2 Ob.up St.fzL cellIds partIds St.intoRow SV.ownId St.fz SV.fz1 St.prep St.mvL St.mv SV.re1 rnOk St.prEq vals eqCells scEq Value.kd St.prStr St.prCut cutR St.bnd St.prMin St.bld isShift outL retL outJ oR oC oE oD SV.upq SV.isSl SV.shut St.ev St.get St.put St.new St.kill SV.kill SV.kill1 Ob.kill St.app St.wrt St.rowsOf St.res St.killL lk er argsL SV.strip SV.need SV.share SV.share1 SV.owns SV.owns1 SV.owns2 SV.good SV.good1 SV.rok SV.rok1 SV.rok2 SV.isV SV.isV2 nodupN SV.cells SV.one SV.pur Ob.pb partsIn rowsIn splice cellsAt dstOk scal2 scal1 thenK blockK retK outK outs okC okL okA okT nilC nilL nilA nilT keepC keepL keepA keepT St.runG St.dltK St.least St.clean St.final St.hide offK badS badO SV.refs SV.leaf SV.leaf2 Ob.refs dlOk fpAt Go.Vc.cover tups SV.ofAgg St.out outC subL St.has rng wr Value.oneCell' Option.isSome_some Option.isSome_none List.nil_append Bool.false_eq_true List.map_cons List.map_nil List.all_cons List.all_nil List.length_cons List.length_nil List.drop_zero List.drop_succ_cons List.take_succ_cons List.take_zero List.drop_nil List.take_nil List.getElem?_cons_zero List.getElem?_cons_succ List.getElem?_nil List.cons_append List.nil_append List.append_nil List.append_assoc List.flatMap_cons List.flatMap_nil List.contains_cons List.contains_nil List.set_cons_zero List.set_cons_succ List.getElem?_toArray Option.getD_some Option.getD_none Option.map_some Option.map_none Option.bind_some Option.some.injEq Prod.mk.injEq if_true if_false true_and and_true and_self and_false false_and Bool.and_false Bool.false_and Bool.or_true Bool.true_or Bool.or_false Bool.false_or ne_eq not_true_eq_false not_false_eq_true decide_true decide_false List.mem_cons List.not_mem_nil List.filter_cons List.filter_nil List.any_cons List.any_nil List.isEmpty_nil List.isEmpty_cons Option.getD_none or_false false_or true_or or_true forall_eq_or_imp forall_eq reduceCtorEq exists_eq exists_eq' exists_eq_left' exists_eq_left exists_eq_right exists_eq_right' imp_self implies_true Bool.and_true Bool.true_and Bool.and_self beq_self_eq_true List.replicate_succ List.replicate_zero forall_const false_implies pickB_or pickB_and beqT beqF Int.toNat_natCast List.length_map List.length_replicate ge_iff_le gt_iff_lt decide_eq_true_eq decide_eq_false_iff_not Bool.and_eq_true Bool.or_eq_true Bool.not_eq_true' Bool.not_eq_false' condG List.toList_toArray Bool.or_eq_false_iff Bool.and_eq_false_iff Int.not_lt Int.not_le beq_iff_eq beq_eq_false_iff_ne bne_iff_ne bne_eq_false_iff_eq ne_eq Bool.not_true Bool.not_false exists_and_left
section
open Go.Vc
set_option linter.unusedSimpArgs false
set_option linter.unusedVariables false
set_option maxHeartbeats 1000000
set_option maxRecDepth 10000
attribute [local irreducible] Go.Vc.WP
attribute [local go_sem] cx0_t cx0_c
theorem wrapU8 {n : Int} (h0 : 0 ≤ n) (h1 : n ≤ 255) : IntKind.u8.wrap n = n := by
  simp only [IntKind.wrap, IntKind.bits, IntKind.signed, Bool.false_and, Bool.false_eq_true, if_false]
  omega
def kFigure : Ctr := pur (fun args => aI args 0) (fun x => [.v (.int .i64 x)]) (fun x => 0 ≤ x ∧ x ≤ 15) (fun _ x => .v (.int .u8 (if x < 10 then 48 + x else 87 + x))) (fun _ _ => [])
theorem cFigure : Cn Try.prog 148 kFigure := by
  refine Cn.pur Try.func148 (by kernel_rfl) rfl fun d x hx => ?_
  refine Holds.go (c := cx0) Try.func148 rfl Try.results148 Try.ntmps148 (by omega) (by simp) rfl ?_
  intro X0 w0
  have h1 : IntKind.u8.wrap (48 + x) = 48 + x := wrapU8 (by omega) (by omega)
  have h2 : IntKind.u8.wrap (97 + x - 10) = 97 + x - 10 := wrapU8 (by omega) (by omega)
  (repeat' (first | refine WP.seq ?_ | refine WP.block ?_ | ((first | refine WP.region ?_ | refine WP.condW ?_ | refine WP.ret ?_ | refine WP.exit ?_ | refine WP.skip ?_); simp only [go_sem, h1, h2, tyAll, Nat.reduceAdd, Nat.reduceLT, Nat.reduceLeDiff, Nat.reduceEqDiff, Nat.reduceMul, Nat.reduceSub, Nat.reduceGT, reduceIte, Int.reduceNeg, Int.reduceToNat]) |  refine And.intro ?_ ?_ | intro _))
  all_goals first | omega | skip
  · rename_i h; rw [if_pos h]
  · rename_i h; rw [if_neg (by omega), show 97 + x - 10 = 87 + x by omega]
section
noncomputable def cxFi : Cx := { P := Try.prog, tys := tys, C := [(148, kFigure)], hty := tysOk, hC := COk.cons cFigure (COk.nil _) }
theorem cxFi_t : cxFi.tys = tys := rfl
theorem cxFi_c : cxFi.C = [(148, kFigure)] := rfl
attribute [local go_sem] cxFi_t cxFi_c kFigure
def kFmt : Ctr := pur (fun args => aI args 0) (fun x => [.v (.int .i64 x)]) (fun x => 0 ≤ x ∧ x ≤ 1000000000000000) (fun _ x => .v (.string (bts (fmtL x.toNat)))) (fun _ _ => [])
theorem cFmtS : Cn Try.prog 125 kFmt := by
  refine Cn.pur Try.func125 (by kernel_rfl) rfl fun d x hx => ?_
  refine Holds.go (c := cxFi) Try.func125 rfl Try.results125 Try.ntmps125 (by omega) (by simp) rfl ?_
  intro X0 w0
  (repeat' (first | refine WP.seq ?_ | refine WP.block ?_ | ((first | refine WP.region ?_ | refine WP.condW ?_ | refine WP.ret ?_ | refine WP.exit ?_ | refine WP.skip ?_); simp only [go_sem, tyAll, Nat.reduceAdd, Nat.reduceLT, Nat.reduceLeDiff, Nat.reduceEqDiff, Nat.reduceMul, Nat.reduceSub, Nat.reduceGT, reduceIte, Int.reduceNeg, Int.reduceToNat]) |  refine And.intro ?_ ?_ | intro _))
  all_goals first | omega | skip
  · rename_i h; subst h; rfl
  rename_i hne
  have hf : fmtL x.toNat = decB x.toNat := if_neg (by omega)
  refine WP.loop (fun s : Nat × List UInt8 => ⟨[(0, .v (.int .i64 (s.1 : Int))), (3, .v (.bool false)), (4, .v (.string (bts s.2)))], []⟩) (fun s => decB s.1 ++ s.2 = decB x.toNat ∧ s.2.length ≤ 20 ∧ s.1 < 10000000000000000) (fun s => s.1) (x.toNat, []) ⟨by simp, by simp, by simp only; omega⟩ ?_ ?_
  · have h1 : (x.toNat : Int) = x := by omega
    have h2 : decide (x < 0) = false := by simp; omega
    simp only [go_sem, h1, h2, tyAll, Nat.reduceAdd, Nat.reduceLT, Nat.reduceLeDiff, Nat.reduceEqDiff, Nat.reduceMul, Nat.reduceSub, Nat.reduceGT, reduceIte, Int.reduceNeg, Int.reduceToNat]; (first | rfl | exact ⟨rfl, rfl⟩ | exact ⟨rfl, rfl, rfl⟩ | exact ⟨rfl, rfl, rfl, rfl⟩ | exact ⟨rfl, rfl, rfl, rfl, rfl⟩ | exact ⟨⟨rfl, rfl⟩, rfl⟩ | simp)
  rintro ⟨k, out⟩ ⟨hk, hl, hb⟩
  simp only at hk hl hb ⊢
  have hlx : (decB x.toNat).length ≤ 16 := decB_len 16 _ (by omega)
  have hlk : out.length ≤ 16 := by rw [← hk, List.length_append] at hlx; omega
  by_cases hpos : 0 < k
  · have hm : (k : Int).tmod 10 = ((k % 10 : Nat) : Int) := by rw [Int.tmod_eq_emod_of_nonneg (by omega)]; omega
    have hd : (k : Int).tdiv 10 = ((k / 10 : Nat) : Int) := by rw [Int.tdiv_eq_ediv_of_nonneg (by omega)]; omega
    have hi : (if ((k % 10 : Nat) : Int) < 10 then 48 + ((k % 10 : Nat) : Int) else 87 + ((k % 10 : Nat) : Int)) = 48 + ((k % 10 : Nat) : Int) := if_pos (by omega)
    have hs := strOf_one ((k % 10 : Nat) : Int) (by omega) (by omega)
    have hc := bts_append [UInt8.ofNat (48 + k % 10)] out
    have hz := bts_size [UInt8.ofNat (48 + k % 10)]
    have hz2 := bts_size out
    rw [Int.toNat_natCast] at hs
    (repeat' (first | refine WP.seq ?_ | refine WP.block ?_ | ((first | refine WP.region ?_ | refine WP.condW ?_ | refine WP.ret ?_ | refine WP.exit ?_ | refine WP.skip ?_); simp only [go_sem, hm, hd, hi, hs, hc, hz, hz2, tyAll, Nat.reduceAdd, Nat.reduceLT, Nat.reduceLeDiff, Nat.reduceEqDiff, Nat.reduceMul, Nat.reduceSub, Nat.reduceGT, reduceIte, Int.reduceNeg, Int.reduceToNat]) |  refine And.intro ?_ ?_ | intro _))
    all_goals first | omega | exact ⟨_, rfl⟩ | skip
    refine ⟨(k / 10, UInt8.ofNat (48 + k % 10) :: out), ⟨?_, by simp only [List.length_cons]; omega, by simp only; omega⟩, by simp only; omega, by (first | rfl | exact ⟨rfl, rfl⟩ | exact ⟨rfl, rfl, rfl⟩ | exact ⟨rfl, rfl, rfl, rfl⟩ | exact ⟨rfl, rfl, rfl, rfl, rfl⟩ | exact ⟨⟨rfl, rfl⟩, rfl⟩ | simp)⟩
    simp only
    rw [← hk, decB_pos k hpos, List.append_assoc]; rfl
  · have hk0 : k = 0 := by omega
    subst hk0
    have hout : out = decB x.toNat := by rw [← hk]; simp [decB]
    (repeat' (first | refine WP.seq ?_ | refine WP.block ?_ | ((first | refine WP.region ?_ | refine WP.condW ?_ | refine WP.ret ?_ | refine WP.exit ?_ | refine WP.skip ?_); simp only [go_sem, tyAll, Nat.reduceAdd, Nat.reduceLT, Nat.reduceLeDiff, Nat.reduceEqDiff, Nat.reduceMul, Nat.reduceSub, Nat.reduceGT, reduceIte, Int.reduceNeg, Int.reduceToNat]) |  refine And.intro ?_ ?_ | intro _))
    all_goals first | omega | skip
    all_goals rw [hf, hout]
end
def numR (o : Option Nat) : SV := .tup [.v (.int .i64 ((o.getD 0 : Nat) : Int)), .v (.bool o.isSome)]
theorem numR_eq (o : Option Nat) : numR o = .tup [.v (.int .i64 ((o.getD 0 : Nat) : Int)), .v (.bool o.isSome)] := rfl
def kParseU : Ctr := pur (fun args => aS args 0) (fun s => [.v (.string s)]) (fun s => s.size ≤ 1099511627776) (fun _ s => .tup [.v (.int .i64 (((parseU s).getD 0 : Nat) : Int)), .v (.bool (parseU s).isSome)]) (fun _ _ => [])
theorem numBad {s : ByteArray} (h : parseU s = none) : SV.v (.int .i64 0) = SV.v (.int .i64 (((parseU s).getD 0 : Nat) : Int)) ∧ SV.v (.bool false) = SV.v (.bool (parseU s).isSome) := by rw [h]; exact ⟨rfl, rfl⟩
theorem numOk {s : ByteArray} {n : Nat} (h : parseU s = some n) : SV.v (.int .i64 (n : Int)) = SV.v (.int .i64 (((parseU s).getD 0 : Nat) : Int)) ∧ SV.v (.bool true) = SV.v (.bool (parseU s).isSome) := by rw [h]; exact ⟨rfl, rfl⟩
theorem valN_bound {s : ByteArray} (k : Nat) (hk : k ≤ s.size) (hs : s.size ≤ 10) (h : ∀ i, i < k → dig s[i]! = true) : valN s k < 10000000000 := by
  have h1 := valN_lt k hk h
  have h2 := pow_le10 k (by omega)
  omega
section
noncomputable def cxPu : Cx := { P := Try.prog, tys := tys, C := [(125, kFmt)], hty := tysOk, hC := COk.cons cFmtS (COk.nil _) }
theorem cxPu_t : cxPu.tys = tys := rfl
theorem cxPu_c : cxPu.C = [(125, kFmt)] := rfl
attribute [local go_sem] cxPu_t cxPu_c kFmt
theorem cParseUS : Cn Try.prog 127 kParseU := by
  refine Cn.pur Try.func127 (by kernel_rfl) rfl fun d x hx => ?_
  refine Holds.go (c := cxPu) Try.func127 rfl Try.results127 Try.ntmps127 (by omega) (by simp) rfl ?_
  intro X0 w0
  (repeat' (first | refine WP.seq ?_ | refine WP.block ?_ | ((first | refine WP.region ?_ | refine WP.condW ?_ | refine WP.ret ?_ | refine WP.exit ?_ | refine WP.skip ?_); simp only [go_sem, tyAll, Nat.reduceAdd, Nat.reduceLT, Nat.reduceLeDiff, Nat.reduceEqDiff, Nat.reduceMul, Nat.reduceSub, Nat.reduceGT, reduceIte, Int.reduceNeg, Int.reduceToNat]) |  refine And.intro ?_ ?_ | intro _))
  all_goals first | omega | skip
  · exact (numBad (parseU_none (.inr (.inl (by omega))))).1
  · exact (numBad (parseU_none (.inr (.inl (by omega))))).2
  rename_i hlen
  refine WP.loop (fun k : Nat => ⟨[(0, .v (.string x)), (4, .v (.int .i64 (valN x k : Int))), (5, .v (.int .i64 k))], []⟩) (fun k => k ≤ x.size ∧ ∀ i, i < k → dig x[i]! = true) (fun k => x.size - k) 0 (by simp) ?_ ?_
  · (simp only [go_sem, valN_zero, tyAll, Nat.reduceAdd, Nat.reduceLT, Nat.reduceLeDiff, Nat.reduceEqDiff, Nat.reduceMul, Nat.reduceSub, Nat.reduceGT, reduceIte, Int.reduceNeg, Int.reduceToNat] <;> (first | rfl | exact ⟨rfl, rfl⟩ | exact ⟨rfl, rfl, rfl⟩ | exact ⟨rfl, rfl, rfl, rfl⟩ | exact ⟨rfl, rfl, rfl, rfl, rfl⟩ | exact ⟨⟨rfl, rfl⟩, rfl⟩ | simp))
  intro k ⟨hk, hdk⟩
  have hv := valN_bound k hk (by omega) hdk
  by_cases hlt : k < x.size
  · have hs := valN_succ x k hlt
    (repeat' (first | refine WP.seq ?_ | refine WP.block ?_ | ((first | refine WP.region ?_ | refine WP.condW ?_ | refine WP.ret ?_ | refine WP.exit ?_ | refine WP.skip ?_); simp only [go_sem, tyAll, Nat.reduceAdd, Nat.reduceLT, Nat.reduceLeDiff, Nat.reduceEqDiff, Nat.reduceMul, Nat.reduceSub, Nat.reduceGT, reduceIte, Int.reduceNeg, Int.reduceToNat]) |  refine And.intro ?_ ?_ | intro _))
    all_goals first | omega | skip
    · exact (numBad (parseU_bad hlt (by rw [Bool.eq_false_iff]; intro hc; have := dig_iff.1 hc; omega))).1
    · exact (numBad (parseU_bad hlt (by rw [Bool.eq_false_iff]; intro hc; have := dig_iff.1 hc; omega))).2
    · rename_i h
      have hd : dig x[k]! = true := dig_iff.2 (by omega)
      refine ⟨k + 1, ⟨by omega, fun i hi => ?_⟩, by omega, ?_⟩
      · rcases Nat.lt_or_ge i k with h' | h'
        · exact hdk i h'
        · rw [show i = k by omega]; exact hd
      · rw [show (10 * (valN x k : Int) + (x[k]!.toNat : Int) - 48) = (valN x (k + 1) : Int) by omega]; (first | rfl | exact ⟨rfl, rfl⟩ | exact ⟨rfl, rfl, rfl⟩ | exact ⟨rfl, rfl, rfl, rfl⟩ | exact ⟨rfl, rfl, rfl, rfl, rfl⟩ | exact ⟨⟨rfl, rfl⟩, rfl⟩ | simp)
  · have hke : k = x.size := by omega
    subst hke
    have ht := fmt_text hdk
    (repeat' (first | refine WP.seq ?_ | refine WP.block ?_ | ((first | refine WP.region ?_ | refine WP.condW ?_ | refine WP.ret ?_ | refine WP.exit ?_ | refine WP.skip ?_); simp only [go_sem, tyAll, Nat.reduceAdd, Nat.reduceLT, Nat.reduceLeDiff, Nat.reduceEqDiff, Nat.reduceMul, Nat.reduceSub, Nat.reduceGT, reduceIte, Int.reduceNeg, Int.reduceToNat]) |  refine And.intro ?_ ?_ | intro _))
    all_goals first | omega | skip
    iterate 2
      · rename_i h
        have hb : parseU x = none := by
          apply parseU_none
          rcases h with h | h
          · exact .inr (.inr (.inr (by omega)))
          · rw [ht] at h
            by_cases h0 : x.size = 0
            · exact .inl h0
            · by_cases h1 : 1 < x.size ∧ x[0]! = 48
              · exact .inr (.inr (.inl h1))
              · exact absurd ⟨h0, h1⟩ h
        first | exact (numBad hb).1 | exact (numBad hb).2
    iterate 2
      · rename_i h
        obtain ⟨h2, h3⟩ := h
        obtain ⟨h4, h5⟩ := ht.1 h3
        have hg := parseU_ok hdk h4 (by omega) h5 (by omega)
        first | exact (numOk hg).1 | exact (numOk hg).2
theorem toNat48 {c : UInt8} : (c.toNat : Int) = 48 ↔ c = 48 := by
  constructor
  · intro h; exact UInt8.toNat_inj.1 (by show c.toNat = 48; omega)
  · rintro rfl; rfl
end
def aU (args : List SV) (i : Nat) : UInt8 := UInt8.ofNat (aI args i).toNat
theorem toNatEq {a b : UInt8} : (a.toNat : Int) = (b.toNat : Int) ↔ a = b := by
  constructor
  · intro h; exact UInt8.toNat_inj.1 (by omega)
  · rintro rfl; rfl
end
section
open Go.Vc
set_option linter.unusedSimpArgs false
set_option linter.unusedVariables false
set_option maxHeartbeats 1000000
set_option maxRecDepth 10000
attribute [local irreducible] Go.Vc.WP
attribute [local go_sem] cx0_t cx0_c k60
noncomputable def cxBt2 : Cx := { P := Try.prog, tys := tys, C := [(55, k60), (71, k60)], hty := tysOk, hC := COk.cons c60 (COk.cons c58 (COk.nil _)) }
theorem cxBt2_t : cxBt2.tys = tys := rfl
theorem cxBt2_c : cxBt2.C = [(55, k60), (71, k60)] := rfl
attribute [local go_sem] cxBt2_t cxBt2_c

def letter (c : UInt8) : Bool := decide (97 ≤ c.toNat) && decide (c.toNat ≤ 122)
def nameOk (s : ByteArray) : Bool := (s.data.toList.all letter) && decide (1 ≤ s.size) && decide (s.size ≤ 8)
theorem nameOk_bad {s : ByteArray} {k : Nat} (h : k < s.size) (hb : letter s[k]! = false) : nameOk s = false := by
  unfold nameOk
  have : s.data.toList.all letter = false := by
    rw [Bool.eq_false_iff]
    intro hall
    have h1 := List.all_eq_true.1 hall s[k]! (by
      rw [getElem!_pos s k h]
      exact Array.getElem_mem_toList (by exact h))
    rw [h1] at hb; cases hb
  simp [this]
theorem nameOk_all {s : ByteArray} (h : ∀ i, i < s.size → letter s[i]! = true) : nameOk s = (decide ((1 : Int) ≤ s.size) && decide ((s.size : Int) ≤ 8)) := by
  unfold nameOk
  have : s.data.toList.all letter = true := by
    rw [List.all_eq_true]
    intro c hc
    obtain ⟨i, hi, rfl⟩ := List.mem_iff_getElem.1 hc
    have hi' : i < s.size := by simpa using hi
    have := h i hi'
    rw [getElem!_pos s i hi'] at this
    exact this
  rw [this, Bool.true_and]
  congr 1 <;> · apply decide_eq_decide.2; omega
def kNameOk : Ctr := pur (fun args => aS args 0) (fun s => [.v (.string s)]) (fun s => s.size ≤ 1099511627776) (fun _ s => .v (.bool (nameOk s))) (fun _ _ => [])
theorem cNameOkS : Cn Try.prog 124 kNameOk := by
  refine Cn.pur Try.func124 (by kernel_rfl) rfl fun d s hL => ?_
  refine Holds.go (c := cxBt2) Try.func124 rfl Try.results124 Try.ntmps124 (by omega) (by simp) rfl ?_
  intro X0 w0
  (repeat' (first | refine WP.seq ?_ | refine WP.block ?_ | ((first | refine WP.region ?_ | refine WP.condW ?_ | refine WP.ret ?_ | refine WP.exit ?_ | refine WP.skip ?_); simp only [go_sem, tyAll, Nat.reduceAdd, Nat.reduceLT, Nat.reduceLeDiff, Nat.reduceEqDiff, Nat.reduceMul, Nat.reduceSub, Nat.reduceGT, reduceIte, Int.reduceNeg, Int.reduceToNat]) |  refine And.intro ?_ ?_ | intro _))
  refine WP.loop (fun k : Nat => ⟨[(0, .v (.string s)), (3, .v (.int .i64 k))], []⟩) (fun k => k ≤ s.size ∧ ∀ i, i < k → letter s[i]! = true) (fun k => s.size - k) 0 (by simp) ?_ ?_
  · simp only [go_sem, tyAll, Nat.reduceAdd, Nat.reduceLT, Nat.reduceLeDiff, Nat.reduceEqDiff, Nat.reduceMul, Nat.reduceSub, Nat.reduceGT, reduceIte, Int.reduceNeg, Int.reduceToNat]; first | exact ⟨rfl, rfl⟩ | rfl
  intro k ⟨hk, hf⟩
  by_cases hlt : k < s.size
  · (repeat' (first | refine WP.seq ?_ | refine WP.block ?_ | ((first | refine WP.region ?_ | refine WP.condW ?_ | refine WP.ret ?_ | refine WP.exit ?_ | refine WP.skip ?_); simp only [go_sem, tyAll, Nat.reduceAdd, Nat.reduceLT, Nat.reduceLeDiff, Nat.reduceEqDiff, Nat.reduceMul, Nat.reduceSub, Nat.reduceGT, reduceIte, Int.reduceNeg, Int.reduceToNat]) |  refine And.intro ?_ ?_ | intro _))
    all_goals first | omega | skip
    · rename_i hh
      rw [nameOk_bad hlt (by rw [Bool.eq_false_iff]; intro hc; simp [letter] at hc; omega)]
    · rename_i hh
      refine ⟨k + 1, ⟨by omega, fun i hik => ?_⟩, by omega, rfl⟩
      rcases Nat.lt_or_ge i k with h | h
      · exact hf i h
      · have : i = k := by omega
        subst this
        simp [letter]; omega
  · (repeat' (first | refine WP.seq ?_ | refine WP.block ?_ | ((first | refine WP.region ?_ | refine WP.condW ?_ | refine WP.ret ?_ | refine WP.exit ?_ | refine WP.skip ?_); simp only [go_sem, tyAll, Nat.reduceAdd, Nat.reduceLT, Nat.reduceLeDiff, Nat.reduceEqDiff, Nat.reduceMul, Nat.reduceSub, Nat.reduceGT, reduceIte, Int.reduceNeg, Int.reduceToNat]) |  refine And.intro ?_ ?_ | intro _))
    all_goals first | omega | skip
    rw [nameOk_all fun i hi => hf i (by omega)]

theorem cNameOkI : Cn Try.prog 96 kNameOk := by
  refine Cn.pur Try.func96 (by kernel_rfl) rfl fun d s hL => ?_
  refine Holds.go (c := cxBt2) Try.func96 rfl Try.results96 Try.ntmps96 (by omega) (by simp) rfl ?_
  intro X0 w0
  (repeat' (first | refine WP.seq ?_ | refine WP.block ?_ | ((first | refine WP.region ?_ | refine WP.condW ?_ | refine WP.ret ?_ | refine WP.exit ?_ | refine WP.skip ?_); simp only [go_sem, tyAll, Nat.reduceAdd, Nat.reduceLT, Nat.reduceLeDiff, Nat.reduceEqDiff, Nat.reduceMul, Nat.reduceSub, Nat.reduceGT, reduceIte, Int.reduceNeg, Int.reduceToNat]) |  refine And.intro ?_ ?_ | intro _))
  refine WP.loop (fun k : Nat => ⟨[(0, .v (.string s)), (3, .v (.int .i64 k))], []⟩) (fun k => k ≤ s.size ∧ ∀ i, i < k → letter s[i]! = true) (fun k => s.size - k) 0 (by simp) ?_ ?_
  · simp only [go_sem, tyAll, Nat.reduceAdd, Nat.reduceLT, Nat.reduceLeDiff, Nat.reduceEqDiff, Nat.reduceMul, Nat.reduceSub, Nat.reduceGT, reduceIte, Int.reduceNeg, Int.reduceToNat]; first | exact ⟨rfl, rfl⟩ | rfl
  intro k ⟨hk, hf⟩
  by_cases hlt : k < s.size
  · (repeat' (first | refine WP.seq ?_ | refine WP.block ?_ | ((first | refine WP.region ?_ | refine WP.condW ?_ | refine WP.ret ?_ | refine WP.exit ?_ | refine WP.skip ?_); simp only [go_sem, tyAll, Nat.reduceAdd, Nat.reduceLT, Nat.reduceLeDiff, Nat.reduceEqDiff, Nat.reduceMul, Nat.reduceSub, Nat.reduceGT, reduceIte, Int.reduceNeg, Int.reduceToNat]) |  refine And.intro ?_ ?_ | intro _))
    all_goals first | omega | skip
    · rename_i hh
      rw [nameOk_bad hlt (by rw [Bool.eq_false_iff]; intro hc; simp [letter] at hc; omega)]
    · rename_i hh
      refine ⟨k + 1, ⟨by omega, fun i hik => ?_⟩, by omega, rfl⟩
      rcases Nat.lt_or_ge i k with h | h
      · exact hf i h
      · have : i = k := by omega
        subst this
        simp [letter]; omega
  · (repeat' (first | refine WP.seq ?_ | refine WP.block ?_ | ((first | refine WP.region ?_ | refine WP.condW ?_ | refine WP.ret ?_ | refine WP.exit ?_ | refine WP.skip ?_); simp only [go_sem, tyAll, Nat.reduceAdd, Nat.reduceLT, Nat.reduceLeDiff, Nat.reduceEqDiff, Nat.reduceMul, Nat.reduceSub, Nat.reduceGT, reduceIte, Int.reduceNeg, Int.reduceToNat]) |  refine And.intro ?_ ?_ | intro _))
    all_goals first | omega | skip
    rw [nameOk_all fun i hi => hf i (by omega)]
end
end Go.Proofs.Ytdbjioanlkilkaa
/-
  DERIVED. From what a row says of its arguments to values that stand for lists, and from a contract to what a row says behind the call.
-/
namespace Go.Vc
open Go.RowKit Go.WideShapes Go.ChangeShapes Go.Deep
set_option linter.unusedVariables false

section
variable {H : Type} {enc : TypeId × Value → H} {P : Program} {w : World}

/-- a row of cells that is read -/
def Cells (w : World) (row : List SV) (cs : List Value) : Prop :=
  row.length = cs.length ∧ ∀ (k : Nat) (c : SV) (u : Value), row[k]? = some c → cs[k]? = some u → u.oneCell' = true ∧ Rp w (fun _ => False) c u

/-- what is read of type t stands for some a -/
def Dec (H : Type) (enc : TypeId × Value → H) (P : Program) (w : World) (t : TypeId) {α : Type} (e : α → List SV) (wf : α → Prop) : Prop :=
  ∀ (base : Nat) (sp : Nat → Bool) (held : Bool) (n : Nat) (cs : List Value) (y : DataW H × List MemPlace), DataW.trod enc P w base sp held n t cs = some y → ∃ a : α, wf a ∧ Cells w (e a) cs

theorem cells_one_v {v : Value} (h : v.oneCell' = true) : Cells w [.v v] [v] := ⟨rfl, fun k c u hc hu => by
  cases k with
  | zero => simp at hc hu; subst hc hu; exact ⟨h, .v _⟩
  | succ k => simp at hc⟩

theorem Dec.int {t : TypeId} {k : IntKind} (ht : P.underlying t = some (.int k)) : Dec H enc P w t (fun n : Int => [.v (.int k n)]) (fun n => k.min ≤ n ∧ n ≤ k.max) := by
  intro base sp held n cs y h
  obtain ⟨m, rfl, rfl, hw⟩ := DataW.trod_int ht h
  exact ⟨m, by simpa [Lit.wf] using hw, cells_one_v rfl⟩
theorem Dec.bool {t : TypeId} (ht : P.underlying t = some .bool) : Dec H enc P w t (fun b : Bool => [.v (.bool b)]) (fun _ => True) := by
  intro base sp held n cs y h
  obtain ⟨m, rfl, rfl⟩ := DataW.trod_bool ht h
  exact ⟨m, trivial, cells_one_v rfl⟩
theorem Dec.string {t : TypeId} (ht : P.underlying t = some .string) : Dec H enc P w t (fun s : ByteArray => [.v (.string s)]) (fun s => s.size ≤ maxLen) := by
  intro base sp held n cs y h
  obtain ⟨m, rfl, rfl, hw⟩ := DataW.trod_string ht h
  exact ⟨m, hw, cells_one_v rfl⟩

theorem choose_list {α : Type} {p : Nat → α → Prop} : ∀ n : Nat, (∀ i, i < n → ∃ a, p i a) → ∃ L : List α, L.length = n ∧ ∀ i a, L[i]? = some a → p i a
  | 0, _ => ⟨[], rfl, by simp⟩
  | n + 1, h => by
    obtain ⟨L, hl, hp⟩ := choose_list n (fun i hi => h i (by omega))
    obtain ⟨a, ha⟩ := h n (by omega)
    refine ⟨L ++ [a], by simp [hl], fun i b hi => ?_⟩
    rw [List.getElem?_append] at hi
    split at hi
    · exact hp i b hi
    · rename_i hge
      have : i = n := by
        have := (List.getElem?_eq_some_iff.1 hi).1
        simp at this; omega
      subst this
      rw [hl] at hi
      simp at hi
      subst hi
      exact ha

theorem spot_none {a : Addr} {u : Value} (h : w.cell? a = some u) : a.spot = none ∧ a.block < w.heap.size := by
  unfold World.cell? at h
  split at h
  · rename_i c _ _ hh
    refine ⟨?_, lt_of_heap hh⟩
    split at h
    · cases h
    · rename_i hs; simpa using hs
  · cases h
theorem addr_add {a : Addr} (h : a.spot = none) (n : Nat) : a.add n = ⟨a.block, a.off + n, none⟩ := by
  obtain ⟨b, o, s⟩ := a
  simp only at h
  subst h
  unfold Addr.add
  split
  · rename_i hn; subst hn; rfl
  · rfl

theorem Dec.slice {t e : TypeId} {s : Nat} {α : Type} {en : α → List SV} {wf : α → Prop} (ht : P.underlying t = some (.slice e)) (hs : P.cellsOf e = s) (hs0 : 0 < s) (hd : Dec H enc P w e en wf) (hen : ∀ a, (en a).length = s) :
    Dec H enc P w t (fun L : List α => [.sl s (L.map en)]) (fun L => L.length ≤ maxLen ∧ ∀ a ∈ L, wf a) := by
  intro base sp held n cs y h
  rcases open_slice ht h with ⟨rfl, _⟩ | ⟨a, len, cap, m, n', D, Pl, rfl, _, hlc, hcm, hm, _, hcell⟩
  · exact ⟨[], by simp, rfl, fun k c u hc hu => by
      cases k with
      | zero => simp at hc hu; subst hc hu; exact ⟨rfl, .nil s _ _⟩
      | succ k => simp at hc⟩
  have hlm : len ≤ m := by rw [hm]; split <;> omega
  have key : ∀ i, i < len → ∃ x : α, wf x ∧ ∃ cs', w.cells? base (a.add (i * s)) s = some cs' ∧ Cells w (en x) cs' := fun i hi => by
    obtain ⟨cs', h1, h2⟩ := hcell i (by omega)
    rw [hs] at h1
    obtain ⟨x, hx, hc⟩ := hd _ _ _ _ _ _ h2
    exact ⟨x, hx, cs', h1, hc⟩
  obtain ⟨L, hl, hL⟩ := choose_list len key
  refine ⟨L, ⟨by unfold maxLen at hcm ⊢; omega, fun x hx => ?_⟩, rfl, fun k c u hc hu => ?_⟩
  · obtain ⟨i, hi⟩ := List.mem_iff_getElem?.1 hx
    exact (hL i x hi).1
  cases k with
  | succ k => simp at hc
  | zero =>
    simp at hc hu
    subst hc hu
    refine ⟨rfl, ?_⟩
    rcases Nat.eq_zero_or_pos len with h0 | h0
    · have : L = [] := List.eq_nil_of_length_eq_zero (by omega)
      subst this
      subst h0
      exact .nil s _ _
    · have hspot : a.spot = none ∧ a.block < w.heap.size := by
        have hx : L[0]? = some (L[0]'(by omega)) := List.getElem?_eq_getElem (by omega)
        obtain ⟨_, cs', h1, _⟩ := hL 0 _ hx
        obtain ⟨_, hcl, hat⟩ := World.cells?_some h1
        have := hat 0 hs0
        have hv : cs'[0]? = some (cs'[0]'(by omega)) := List.getElem?_eq_getElem (by omega)
        rw [hv] at this
        simpa [Addr.add] using spot_none this
      have hav : a = ⟨a.block, a.off, none⟩ := by
        obtain ⟨b, o, sp⟩ := a
        simp only at hspot
        rw [hspot.1]
      have cell : ∀ (i k : Nat) (row : List SV) (c : SV), (L.map en)[i]? = some row → row[k]? = some c → ∃ u, w.cell? ⟨a.block, a.off + (i * s + k), none⟩ = some u ∧ u.oneCell' = true ∧ Rp w (fun _ => False) c u := fun i k row c hr hc => by
        rw [List.getElem?_map] at hr
        cases hx : L[i]? with
        | none => rw [hx] at hr; cases hr
        | some x =>
          rw [hx] at hr
          simp only [Option.map_some, Option.some.injEq] at hr
          subst hr
          obtain ⟨_, cs', h1, h2, h3⟩ := hL i x hx
          obtain ⟨_, hcl, hat⟩ := World.cells?_some h1
          have hk : k < s := by rw [← hen x]; exact (List.getElem?_eq_some_iff.1 hc).1
          have hv : cs'[k]? = some (cs'[k]'(by omega)) := List.getElem?_eq_getElem (by omega)
          have := hat k hk
          rw [hv, addr_add hspot.1, addr_add (by rfl)] at this
          simp only at this
          rw [Nat.add_assoc] at this
          obtain ⟨h4, h5⟩ := h3 k c _ hc hv
          exact ⟨_, this, h4, h5⟩
      have hll : (L.map en).length = len := by simp [hl]
      have := Rp.sl (w := w) (X := fun _ => False) (s := s) (rows := L.map en) a.block a.off cap (fun i k => (w.cell? ⟨a.block, a.off + (i * s + k), none⟩).getD undef) (fun h => h) hspot.2 (by omega) (fun i row hr => by
          rw [List.getElem?_map] at hr
          cases hx : L[i]? with
          | none => rw [hx] at hr; cases hr
          | some x => rw [hx] at hr; simp only [Option.map_some, Option.some.injEq] at hr; subst hr; exact hen x) (fun i k row c hr hc => by
          obtain ⟨u, h1, _⟩ := cell i k row c hr hc; rw [h1]; rfl) (fun i k row c hr hc => by
          obtain ⟨u, h1, h2, _⟩ := cell i k row c hr hc; rw [h1]; exact h2) (fun i k row c hr hc => by
          obtain ⟨u, h1, _, h2⟩ := cell i k row c hr hc; rw [h1]; exact h2)
      rw [← hav, hll] at this
      exact this

/-- a struct's fields, each one cell -/
theorem trod_fields {t : TypeId} {fs : Array Field} {base n : Nat} {sp : Nat → Bool} {held : Bool} {cs : List Value} {y : DataW H × List MemPlace} (ht : P.underlying t = some (.struct fs)) (hone : oneCellFields P fs = true) (hC : P.cellsOf t = fs.size)
    (h : DataW.trod enc P w base sp held n t cs = some y) : cs.length = fs.size ∧ ∀ (j : Nat) (f : Field), fs[j]? = some f → ∃ (v : Value) (n' : Nat) (z : DataW H × List MemPlace), cs[j]? = some v ∧ DataW.trod enc P w base sp held n' f.type [v] = some z := by
  obtain ⟨ys, n', _, _, hlen, hyl, hf⟩ := DataW.trod_struct ht h
  refine ⟨hlen.trans hC, fun j f hj => ?_⟩
  obtain ⟨ho, hk⟩ := hone_of hone j f hj
  have hjl : j < fs.size := (Array.getElem?_eq_some_iff.1 hj).1
  have hv : cs[j]? = some (cs[j]'(by omega)) := List.getElem?_eq_getElem (by omega)
  have h1 := hf j f hj
  rw [ho, hk] at h1
  have hone' : (cs.drop j).take 1 = [cs[j]'(by omega)] := by
    rw [List.drop_eq_getElem_cons (by omega)]
    rfl
  rw [hone'] at h1
  have hys : ys[j]? = some (ys[j]'(by omega)) := List.getElem?_eq_getElem (by omega)
  exact ⟨_, n', _, hv, h1.trans hys⟩
theorem cells_vs {row : List SV} {cs : List Value} (h : row = cs.map .v) (h1 : ∀ u ∈ cs, u.oneCell' = true) : Cells w row cs := by
  subst h
  refine ⟨by simp, fun k c u hc hu => ?_⟩
  rw [List.getElem?_map, hu] at hc
  simp only [Option.map_some, Option.some.injEq] at hc
  subst hc
  exact ⟨h1 u (List.mem_of_getElem? hu), .v _⟩
theorem list_of_get {cs vs : List Value} (hl : cs.length = vs.length) (h : ∀ (j : Nat) (v : Value), vs[j]? = some v → cs[j]? = some v) : cs = vs := by
  apply List.ext_getElem?
  intro j
  cases hv : vs[j]? with
  | some v => exact h j v hv
  | none =>
    rw [List.getElem?_eq_none_iff] at hv ⊢
    omega

/-- an argument that is one cell -/
theorem Dec.arg {t : TypeId} {α : Type} {sv : α → SV} {wf : α → Prop} (hd : Dec H enc P w t (fun a => [sv a]) wf) {v : Value} (hv : v.oneCell' = true) {base : Nat} {sp : Nat → Bool} {held : Bool} {d : DataW H} {p : List MemPlace} (h : DataW.Trod enc P w base sp held t v d p) :
    ∃ a, wf a ∧ R w (fun _ => False) (fun _ => nilB) (sv a) v := by
  obtain ⟨n, hn⟩ := h
  obtain ⟨a, ha, hl, hc⟩ := hd _ _ _ _ _ _ hn
  rw [cells_one hv] at hl hc
  exact ⟨a, ha, .p (hc 0 _ _ rfl rfl).2⟩
/-- .. that is a struct -/
theorem Dec.argS {t : TypeId} {α : Type} {e : α → List SV} {wf : α → Prop} (hd : Dec H enc P w t e wf) {us : Array Value} {base : Nat} {sp : Nat → Bool} {held : Bool} {d : DataW H} {p : List MemPlace} (h : DataW.Trod enc P w base sp held t (.agg us) d p) :
    ∃ a, wf a ∧ R w (fun _ => False) (fun _ => nilB) (.agg (e a)) (.agg us) := by
  obtain ⟨n, hn⟩ := h
  obtain ⟨a, ha, hl, hc⟩ := hd _ _ _ _ _ _ hn
  have e1 : us = us.toList.toArray := by simp
  refine ⟨a, ha, ?_⟩
  rw [e1]
  exact .p (.agg hl fun k c u h1 h2 => (hc k c u h1 h2).2)

theorem okWide_slice1 {base : Nat} {r : Reach} {t e : TypeId} {v : Value} (ht : P.underlying t = some (.slice e)) (h : Value.okWide P w r base t v) : v.oneCell' = true := by
  obtain ⟨a, l, c, rfl⟩ := okWide_slice ht h; rfl
theorem okWide_int1 {base : Nat} {r : Reach} {t : TypeId} {k : IntKind} {v : Value} (ht : P.underlying t = some (.int k)) (h : Value.okWide P w r base t v) : v.oneCell' = true := by
  obtain ⟨a, rfl⟩ := okWide_int ht h; rfl
theorem okWide_string1 {base : Nat} {r : Reach} {t : TypeId} {v : Value} (ht : P.underlying t = some .string) (h : Value.okWide P w r base t v) : v.oneCell' = true := by
  obtain ⟨a, rfl⟩ := okWide_string ht h; rfl
theorem okWide_bool1 {base : Nat} {r : Reach} {t : TypeId} {v : Value} (ht : P.underlying t = some .bool) (h : Value.okWide P w r base t v) : v.oneCell' = true := by
  obtain ⟨a, rfl⟩ := okWide_bool ht h; rfl

/-- what a contract gives of a call with a scalar result -/
theorem Holds.calls {f : FuncId} {args : List SV} {x : Value} (h : Holds P f args (.v x) []) (hG : Grd P w) {vs : List Value} (hl : vs.length = args.length) (ha : ∀ (i : Nat) (c : SV) (u : Value), args[i]? = some c → vs[i]? = some u → R w (fun _ => False) (fun _ => nilB) c u) :
    Calls P f vs.toArray w fun e w' => e = .returned x ∧ Below w.heap.size w w' :=
  (h w (fun _ => False) vs hG (fun _ hf => hf.elim) hl ha).mono fun e w' hp => by
    obtain ⟨v, β, rfl, hb, _, hR, _⟩ := hp
    have := hR.v_inv
    subst this
    exact ⟨rfl, hb⟩
end

section
variable {H : Type} {enc : TypeId × Value → H} {P : Program}
theorem post_of_below {f : Func} {s : ChangeSpec} {apart fresh handsOn again : Bool} {W W' : World} {args : Array Value} {v : Value} {ds gs : List (DataW H)} {before pa pv : List MemPlace}
    (hW : DataW.Whole enc P f.params.toList s.vars apart W args.toList ds gs before)
    (hres : ∀ (b : Nat) (sp : Nat → Bool) (hd : Bool), DataW.TrodAll enc P W' b sp hd f.resultTypes.toList (v.resultList f.resultTypes.size) (s.fn H (ds ++ gs)).results [])
    (hargs : ∀ sp : Nat → Bool, (∀ p ∈ before, sp p.block = true) → DataW.TrodAll enc P W' 0 sp true f.params.toList args.toList (s.fn H (ds ++ gs)).args pa)
    (hvars : ∀ sp : Nat → Bool, (∀ p ∈ before, sp p.block = true) → DataW.TrodVars enc P W' sp s.vars (s.fn H (ds ++ gs)).vars pv)
    (hps : before = pa ++ pv) (hb : Below W.heap.size W W')
    (hok : ∀ (j : Nat) (t : TypeId) (r : Value), f.resultTypes[j]? = some t → (v.resultList f.resultTypes.size)[j]? = some r → Value.okWide P W' .any 0 t r) :
    s.post enc P f apart fresh handsOn again W args v W' := by
  have hlt : ∀ p ∈ before, p.block < W.heap.size := fun p hp => hW.lt p hp
  have hold : ∀ p ∈ before, (fun b => decide (b < W.heap.size)) p.block = true := fun p hp => by simpa using hlt p hp
  refine ⟨ds, gs, before, [], pa, pv, hW, hres _ _ _, hargs _ hold, hvars _ hold, World.keptBut_mono (fun p hp => ⟨hp, ?_⟩) (hb.frame (· ∈ before)), fun _ => ?_⟩
  · rw [hps, List.mem_append] at hp
    exact Or.inr hp
  · obtain ⟨_, _, _, _, _, hz, hn⟩ := hW
    refine ⟨hok, _, _, ([] ++ pa) ++ pv, ⟨[] ++ pa, pv, trodAll_append (hargs _ (fun _ _ => rfl)) (hres _ _ _), hvars _ (fun _ _ => rfl), rfl, ?_, ?_⟩, ?_⟩
    · intro b off hp
      have hin : MemPlace.cell b off ∈ before := by rw [hps]; simpa using hp
      rw [hb.frozen (hlt _ hin)]
      exact hz b off hin
    · intro ha
      have := hn ha
      rw [hps] at this
      simpa using this
    · intro p hp _
      rw [hps]
      simpa using hp

/-- the arguments read behind the call as they did before -/
theorem below_args {W W' : World} (hl : laidOutB P = true) (hb : Below W.heap.size W W') (sp : Nat → Bool) : ∀ {ts : List TypeId} {vs : List Value} {ds : List (DataW H)} {ps : List MemPlace}, (ts.all fun t => P.readableRec t && decide (t < P.types.size)) = true →
    DataW.TrodAll enc P W 0 (fun _ => true) true ts vs ds ps → (∀ x ∈ ps, x.block < W.heap.size) → (∀ p ∈ ps, sp p.block = true) → DataW.TrodAll enc P W' 0 sp true ts vs ds ps
  | [], [], [], _, _, h, _, _ => h
  | [], [], _ :: _, _, _, h, _, _ => h.elim
  | [], _ :: _, _, _, _, h, _, _ => h.elim
  | _ :: _, [], _, _, _, h, _, _ => h.elim
  | _ :: _, _ :: _, [], _, _, h, _, _ => h.elim
  | t :: ts, v :: vs, d :: ds, ps, hr, h, hlt, hsp => by
    obtain ⟨p, q, h1, h2, rfl⟩ := h
    simp only [List.all_cons, Bool.and_eq_true, decide_eq_true_eq] at hr
    refine ⟨p, q, ?_, below_args hl hb sp hr.2 h2 (fun x hx => hlt x (by simp [hx])) (fun x hx => hsp x (by simp [hx])), rfl⟩
    exact WideElems.Trod_stays hl hr.1.1 hr.1.2 h1 (fun x hx => hb.same (hlt x (by simp [hx]))) (fun x hx => hsp x (by simp [hx]))

/-- **From a call that answers a bool and leaves what was there as it was, to what the row says.** -/
theorem law_post {tb : TypeId} {f : Func} {s : ChangeSpec} {apart fresh handsOn again : Bool} {W W' : World} {args : Array Value} {b : Bool} {ds gs : List (DataW H)} {before : List MemPlace} (hl : laidOutB P = true)
    (hW : DataW.Whole enc P f.params.toList s.vars apart W args.toList ds gs before) (hvs : s.vars = []) (hrt : f.resultTypes = #[tb]) (htb : P.underlying tb = some .bool) (hread : (f.params.toList.all fun t => P.readableRec t && decide (t < P.types.size)) = true)
    (hres : (s.fn H (ds ++ gs)).results = [.lit (.bool b)]) (hargs : (s.fn H (ds ++ gs)).args = ds) (hvars : (s.fn H (ds ++ gs)).vars = []) (hb : Below W.heap.size W W') :
    s.post enc P f apart fresh handsOn again W args (.bool b) W' := by
  have hW' := hW
  obtain ⟨p, q, hA, hV, rfl, hfz, hnd⟩ := hW
  rw [hvs] at hV
  obtain ⟨rfl, rfl⟩ := trodVars_none hV
  have hlt : ∀ x ∈ p, x.block < W.heap.size := fun x hx => hW'.lt x (by simp [hx])
  refine post_of_below (pa := p) (pv := []) hW' (fun bb sp hd => ?_) (fun sp hsp => ?_) (fun sp hsp => ?_) rfl hb (fun j t r h1 h2 => ?_)
  · rw [hres, hrt]
    exact trodAll_cons_mk (shut_bool htb _) trodAll_mk0
  · rw [hargs]
    exact below_args hl hb sp hread hA hlt (fun x hx => hsp x (by simp [hx]))
  · rw [hvars, hvs]; rfl
  · exact ok_one hrt rfl (okWide_bool_mk htb _) j t r h1 h2
end
end Go.Vc

namespace Go.Proofs.Ytdbjioanlkilkaa
open Go.Vc
attribute [local go_sem] St.runR St.runW St.stepV offV St.step St.stepU St.stepG mkCond guardB St.prK St.pr St.prLen St.eff St.callE St.callD St.callF St.callL aI aB aS aR aC St.isM St.argL Ctr.pure Ctr.lend Ctr.move Ctr.isL Ctr.wri pur len lentBy St.lentV St.lent1 nthS argsR restOf obsR pairs swapL unObs backL St.resL erL SV.ren1 SV.up SV.up2 Ob.up St.fzL cellIds partIds St.intoRow SV.ownId St.fz SV.fz1 St.prep St.mvL St.mv SV.re1 rnOk St.prEq vals eqCells scEq Value.kd St.prStr St.prCut cutR St.bnd St.prMin St.bld isShift outL retL outJ oR oC oE oD SV.upq SV.isSl SV.shut St.ev St.get St.put St.new St.kill SV.kill SV.kill1 Ob.kill St.app St.wrt St.rowsOf St.res St.killL lk er argsL SV.strip SV.need SV.share SV.share1 SV.owns SV.owns1 SV.owns2 SV.good SV.good1 SV.rok SV.rok1 SV.rok2 SV.isV SV.isV2 nodupN SV.cells SV.one SV.pur Ob.pb partsIn rowsIn splice cellsAt dstOk scal2 scal1 thenK blockK retK outK outs okC okL okA okT nilC nilL nilA nilT keepC keepL keepA keepT St.runG St.dltK St.least St.clean St.final St.hide offK badS badO SV.refs SV.leaf SV.leaf2 Ob.refs dlOk fpAt Go.Vc.cover tups SV.ofAgg St.out outC subL St.has rng wr Value.oneCell' Option.isSome_some Option.isSome_none List.nil_append Bool.false_eq_true List.map_cons List.map_nil List.all_cons List.all_nil List.length_cons List.length_nil List.drop_zero List.drop_succ_cons List.take_succ_cons List.take_zero List.drop_nil List.take_nil List.getElem?_cons_zero List.getElem?_cons_succ List.getElem?_nil List.cons_append List.nil_append List.append_nil List.append_assoc List.flatMap_cons List.flatMap_nil List.contains_cons List.contains_nil List.set_cons_zero List.set_cons_succ List.getElem?_toArray Option.getD_some Option.getD_none Option.map_some Option.map_none Option.bind_some Option.some.injEq Prod.mk.injEq if_true if_false true_and and_true and_self and_false false_and Bool.and_false Bool.false_and Bool.or_true Bool.true_or Bool.or_false Bool.false_or ne_eq not_true_eq_false not_false_eq_true decide_true decide_false List.mem_cons List.not_mem_nil List.filter_cons List.filter_nil List.any_cons List.any_nil List.isEmpty_nil List.isEmpty_cons Option.getD_none or_false false_or true_or or_true forall_eq_or_imp forall_eq reduceCtorEq exists_eq exists_eq' exists_eq_left' exists_eq_left exists_eq_right exists_eq_right' imp_self implies_true Bool.and_true Bool.true_and Bool.and_self beq_self_eq_true List.replicate_succ List.replicate_zero forall_const false_implies pickB_or pickB_and beqT beqF Int.toNat_natCast List.length_map List.length_replicate ge_iff_le gt_iff_lt decide_eq_true_eq decide_eq_false_iff_not Bool.and_eq_true Bool.or_eq_true Bool.not_eq_true' Bool.not_eq_false' condG List.toList_toArray Bool.or_eq_false_iff Bool.and_eq_false_iff Int.not_lt Int.not_le beq_iff_eq beq_eq_false_iff_ne bne_iff_ne bne_eq_false_iff_eq ne_eq Bool.not_true Bool.not_false exists_and_left
section
open Go.Vc
set_option linter.unusedSimpArgs false
set_option linter.unusedVariables false
set_option maxHeartbeats 1000000
attribute [local irreducible] Go.Vc.WP
attribute [local go_sem] cx0_t cx0_c

structure Frame where
  name : ByteArray
  line : Int
deriving DecidableEq
def encFrame (x : Frame) : List SV := [.v (.string x.name), .v (.int .i64 x.line)]
def oneFrame : List SV → Frame
  | [.v (.string name), .v (.int _ line)] => ⟨name, line⟩
  | _ => ⟨⟨#[]⟩, 0⟩
def decFrame (rows : List (List SV)) : List Frame := rows.map oneFrame
theorem oneFrame_enc (x : Frame) : oneFrame (encFrame x) = x := rfl
theorem decFrame_enc (L : List Frame) : decFrame (L.map encFrame) = L := by
  unfold decFrame
  rw [List.map_map]
  exact List.map_id'' oneFrame_enc L
theorem isV_Frame {e s : Nat} (L : List Frame) : (Ob.sl e s (L.map encFrame)).isV ↔ True := iff_true_intro (by
  intro row hr c hc
  obtain ⟨n, _, rfl⟩ := List.mem_map.1 hr
  simp only [encFrame, List.mem_cons, List.not_mem_nil, or_false] at hc
  rcases hc with rfl | rfl <;> exact ⟨_, rfl⟩)
def zerFrame : List SV := [.v (.string ⟨#[]⟩), .v (.int .i64 0)]

def ktoFrame : Ctr := pur (fun args => oneFrame (aC args 0)) (fun x => [.agg (encFrame x)]) (fun _ => True) (fun _ x => .agg (encFrame x)) (fun _ _ => [])
theorem ctoFrame : Cn Try.prog 100 ktoFrame := by
  refine Cn.pur Try.func100 (by kernel_rfl) rfl fun d x _ => ?_
  refine Holds.go (c := cx0) Try.func100 rfl Try.results100 Try.ntmps100 (by omega) (by simp) rfl ?_
  intro X0 w0
  unfold encFrame
  (repeat' (first | refine WP.seq ?_ | refine WP.block ?_ | ((first | refine WP.region ?_ | refine WP.condW ?_ | refine WP.ret ?_ | refine WP.exit ?_ | refine WP.skip ?_); simp only [go_sem, tyAll, Nat.reduceAdd, Nat.reduceLT, Nat.reduceLeDiff, Nat.reduceEqDiff, Nat.reduceMul, Nat.reduceSub, Nat.reduceGT, reduceIte, Int.reduceNeg, Int.reduceToNat]) |  refine And.intro ?_ ?_ | intro _))
  all_goals first | omega | exact ⟨_, _, rfl, _, _, rfl, rfl⟩ | skip

def keqFrame : Ctr := pur (fun args => (oneFrame (aC args 0), oneFrame (aC args 1))) (fun x => [.agg (encFrame x.1), .agg (encFrame x.2)]) (fun _ => True) (fun _ x => .v (.bool (decide (x.1 = x.2)))) (fun _ _ => [])
theorem ceqFrame : Cn Try.prog 44 keqFrame := by
  refine Cn.pur Try.func44 (by kernel_rfl) rfl fun d x _ => ?_
  obtain ⟨⟨a0, a1⟩, ⟨b0, b1⟩⟩ := x
  refine Holds.go (c := cx0) Try.func44 rfl Try.results44 Try.ntmps44 (by omega) (by simp) rfl ?_
  intro X0 w0
  simp only [encFrame]
  (repeat' (first | refine WP.seq ?_ | refine WP.block ?_ | ((first | refine WP.region ?_ | refine WP.condW ?_ | refine WP.ret ?_ | refine WP.exit ?_ | refine WP.skip ?_); simp only [go_sem, tyAll, Nat.reduceAdd, Nat.reduceLT, Nat.reduceLeDiff, Nat.reduceEqDiff, Nat.reduceMul, Nat.reduceSub, Nat.reduceGT, reduceIte, Int.reduceNeg, Int.reduceToNat]) |  refine And.intro ?_ ?_ | intro _))
  all_goals simp_all

def kszFrame : Ctr := pur (fun args => (oneFrame (aC args 0), aI args 1)) (fun x => [.agg (encFrame x.1), .v (.int .i64 x.2)]) (fun x => x.1.name.size ≤ maxLen ∧ 0 ≤ x.2 ∧ x.2 ≤ 1048576)
  (fun _ x => .v (.int .i64 (if x.2 - x.1.name.size < 0 then -1 else x.2 - x.1.name.size))) (fun _ _ => [])
theorem cszFrame : Cn Try.prog 97 kszFrame := by
  refine Cn.pur Try.func97 (by kernel_rfl) rfl fun d x h => ?_
  obtain ⟨x, left⟩ := x
  obtain ⟨hL, h0, h1⟩ := h
  simp only at hL h0 h1 ⊢
  have hm : maxLen = 9223372036854775807 := rfl
  refine Holds.go (c := cx0) Try.func97 rfl Try.results97 Try.ntmps97 (by omega) (by simp) rfl ?_
  intro X0 w0
  simp only [encFrame]
  (repeat' (first | refine WP.seq ?_ | refine WP.block ?_ | ((first | refine WP.region ?_ | refine WP.condW ?_ | refine WP.ret ?_ | refine WP.exit ?_ | refine WP.skip ?_); simp only [go_sem, tyAll, Nat.reduceAdd, Nat.reduceLT, Nat.reduceLeDiff, Nat.reduceEqDiff, Nat.reduceMul, Nat.reduceSub, Nat.reduceGT, reduceIte, Int.reduceNeg, Int.reduceToNat]) |  refine And.intro ?_ ?_ | intro _))
  all_goals first | omega | skip
  · rename_i h; rw [if_pos h]
  · rename_i h; rw [if_neg (by omega)]

section
open Go.RowKit Go.WideShapes Go.ChangeShapes Go.Deep
theorem rowFrame {H : Type} {enc : TypeId × Value → H} {w : World} : Dec H enc Try.prog w 162 encFrame (fun x => (x.name.size ≤ maxLen) ∧ (IntKind.i64.min ≤ x.line ∧ x.line ≤ IntKind.i64.max)) := by
  intro base sp held n cs y h
  obtain ⟨hlen, hf⟩ := trod_fields Try.underlying162 (by kernel_rfl) (by kernel_rfl) h
  obtain ⟨v0, n0, z0, e0, t0⟩ := hf 0 _ rfl
  obtain ⟨m0, q0, _, w0⟩ := DataW.trod_string Try.underlying9 t0
  simp only [List.cons.injEq, and_true] at q0
  subst q0
  obtain ⟨v1, n1, z1, e1, t1⟩ := hf 1 _ rfl
  obtain ⟨m1, q1, _, w1⟩ := DataW.trod_int Try.underlying3 t1
  simp only [List.cons.injEq, and_true] at q1
  subst q1
  have hcs : cs = [.string m0, .int .i64 m1] := list_of_get hlen (fun j v hj => by
    match j, hj with
    | 0, hj => simp at hj; subst hj; exact e0
    | 1, hj => simp at hj; subst hj; exact e1
    | (j + 2), hj => simp at hj)
  exact ⟨⟨m0, m1⟩, ⟨w0, by simpa [Lit.wf] using w1⟩, cells_vs (by rw [hcs]; rfl) (by rw [hcs]; intro u hu; simp only [List.mem_cons, List.not_mem_nil, or_false] at hu; rcases hu with rfl | rfl <;> rfl)⟩
end
end
end Go.Proofs.Ytdbjioanlkilkaa
