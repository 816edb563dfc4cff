/-
  DERIVED. Several texts of ours in one: VtA, VtI, VtX, VtMk, VpOp, VtOp, VtDis, VcR.
-/
import Derived.Test.YtdbjioanlkilkaaVx0
import Derived.Test.YtdbjioanlkilkaaVx1
import Derived.Test.YtdbjioanlkilkaaVx2
import Derived.Test.YtdbjioanlkilkaaVx3
import Derived.Test.YtdbjioanlkilkaaProg
import Derived.KernelRfl
import Derived.ProofKit
import Derived.OpenShut
import Derived.Below
import Derived.ChangeSame
import Derived.Carry
import Derived.Deep.Slices
import Derived.Deep.Fields
set_option linter.unusedSimpArgs false
set_option linter.unusedVariables false
/-
  DERIVED. The seat's table of types, as VcB wants it. Made by program (mk_tab.py).
-/
namespace Go.Proofs.Ytdbjioanlkilkaa
open Go.Vc
def td2 : TyD := { kind := 4, size := 1, bytes := 8, z := [.int .i64 0], ik := some .i64 } -- int64
def td3 : TyD := { kind := 4, size := 1, bytes := 8, z := [.int .i64 0], ik := some .i64 } -- int
def td4 : TyD := { kind := 5, size := 1, bytes := 1, z := [.bool false] } -- bool
def td5 : TyD := { kind := 4, size := 1, bytes := 1, z := [.int .u8 0], ik := some .u8 } -- uint8
def td9 : TyD := { kind := 2, size := 1, bytes := 16, z := [.string ⟨#[]⟩] } -- string
def td12 : TyD := { kind := 4, size := 1, bytes := 8, z := [.int .u64 0], ik := some .u64 } -- uintptr
def td21 : TyD := { kind := 4, size := 1, bytes := 4, z := [.int .i32 0], ik := some .i32 } -- int32
def td22 : TyD := { kind := 1, size := 1, bytes := 24, z := [.slice none 0 0], elem := 97 } -- []laws.Line
def td23 : TyD := { kind := 1, size := 1, bytes := 24, z := [.slice none 0 0], elem := 3 } -- []int
def td25 : TyD := { kind := 1, size := 1, bytes := 24, z := [.slice none 0 0], elem := 100 } -- []impl.Frame
def td27 : TyD := { kind := 1, size := 1, bytes := 24, z := [.slice none 0 0], elem := 103 } -- []impl.Line
def td37 : TyD := { kind := 1, size := 1, bytes := 24, z := [.slice none 0 0], elem := 5 } -- []uint8
def td39 : TyD := { kind := 1, size := 1, bytes := 24, z := [.slice none 0 0], elem := 187 } -- []impl.Node
def td41 : TyD := { kind := 3, size := 1, bytes := 24, z := [.slice none 0 0], offs := [(0, 1)] } -- impl.Stacks
def td43 : TyD := { kind := 3, size := 2, bytes := 48, z := [.slice none 0 0, .slice none 0 0], offs := [(0, 1), (1, 1)] } -- impl.Profile
def td46 : TyD := { kind := 1, size := 1, bytes := 24, z := [.slice none 0 0], elem := 125 } -- []impl.TreeNode
def td49 : TyD := { kind := 1, size := 1, bytes := 24, z := [.slice none 0 0], elem := 52 } -- []impl.Box
def td52 : TyD := { kind := 3, size := 4, bytes := 32, z := [.int .i64 0, .int .i64 0, .int .i64 0, .int .i64 0], offs := [(0, 1), (1, 1), (2, 1), (3, 1)], eqs := [4, 4, 4, 4] } -- impl.Box
def td55 : TyD := { kind := 1, size := 1, bytes := 24, z := [.slice none 0 0], elem := 127 } -- [][]laws.Frame
def td59 : TyD := { kind := 1, size := 1, bytes := 24, z := [.slice none 0 0], elem := 25 } -- [][]impl.Frame
def td66 : TyD := { kind := 1, size := 1, bytes := 24, z := [.slice none 0 0], elem := 217 } -- []laws.Image
def td68 : TyD := { kind := 3, size := 3, bytes := 72, z := [.slice none 0 0, .slice none 0 0, .slice none 0 0], offs := [(0, 1), (1, 1), (2, 1)] } -- laws.Space
def td69 : TyD := { kind := 1, size := 1, bytes := 24, z := [.slice none 0 0], elem := 197 } -- []laws.Machine
def td71 : TyD := { kind := 3, size := 7, bytes := 120, z := [.slice none 0 0, .slice none 0 0, .slice none 0 0, .slice none 0 0, .int .i64 0, .int .i64 0, .int .i64 0], offs := [(0, 3), (3, 1), (4, 1), (5, 1), (6, 1)] } -- laws.Process
def td73 : TyD := { kind := 3, size := 4, bytes := 32, z := [.int .i64 0, .int .i64 0, .int .i64 0, .int .i64 0], offs := [(0, 1), (1, 1), (2, 1), (3, 1)], eqs := [4, 4, 4, 4] } -- laws.Timer
def td74 : TyD := { kind := 1, size := 1, bytes := 24, z := [.slice none 0 0], elem := 9 } -- []string
def td76 : TyD := { kind := 3, size := 4, bytes := 48, z := [.int .i64 0, .slice none 0 0, .int .i64 0, .int .i64 0], offs := [(0, 1), (1, 1), (2, 1), (3, 1)] } -- laws.Ring
def td78 : TyD := { kind := 3, size := 18, bytes := 224, z := [.slice none 0 0, .slice none 0 0, .slice none 0 0, .slice none 0 0, .int .i64 0, .int .i64 0, .int .i64 0, .int .i64 0, .int .i64 0, .int .i64 0, .int .i64 0, .int .i64 0, .slice none 0 0, .int .i64 0, .int .i64 0, .int .i64 0, .int .i64 0, .int .i64 0], offs := [(0, 7), (7, 4), (11, 4), (15, 1), (16, 1), (17, 1)] } -- laws.Session
def td81 : TyD := { kind := 1, size := 1, bytes := 24, z := [.slice none 0 0], elem := 201 } -- []impl.Image
def td83 : TyD := { kind := 3, size := 3, bytes := 72, z := [.slice none 0 0, .slice none 0 0, .slice none 0 0], offs := [(0, 1), (1, 1), (2, 1)] } -- impl.Space
def td84 : TyD := { kind := 1, size := 1, bytes := 24, z := [.slice none 0 0], elem := 174 } -- []impl.Machine
def td86 : TyD := { kind := 3, size := 7, bytes := 120, z := [.slice none 0 0, .slice none 0 0, .slice none 0 0, .slice none 0 0, .int .i64 0, .int .i64 0, .int .i64 0], offs := [(0, 3), (3, 1), (4, 1), (5, 1), (6, 1)] } -- impl.Process
def td87 : TyD := { kind := 3, size := 4, bytes := 32, z := [.int .i64 0, .int .i64 0, .int .i64 0, .int .i64 0], offs := [(0, 1), (1, 1), (2, 1), (3, 1)], eqs := [4, 4, 4, 4] } -- impl.Timer
def td88 : TyD := { kind := 3, size := 4, bytes := 48, z := [.int .i64 0, .slice none 0 0, .int .i64 0, .int .i64 0], offs := [(0, 1), (1, 1), (2, 1), (3, 1)] } -- impl.Ring
def td90 : TyD := { kind := 3, size := 18, bytes := 224, z := [.slice none 0 0, .slice none 0 0, .slice none 0 0, .slice none 0 0, .int .i64 0, .int .i64 0, .int .i64 0, .int .i64 0, .int .i64 0, .int .i64 0, .int .i64 0, .int .i64 0, .slice none 0 0, .int .i64 0, .int .i64 0, .int .i64 0, .int .i64 0, .int .i64 0], offs := [(0, 7), (7, 4), (11, 4), (15, 1), (16, 1), (17, 1)] } -- impl.Session
def td95 : TyD := { kind := 1, size := 1, bytes := 24, z := [.slice none 0 0], elem := 181 } -- []laws.Tok
def td97 : TyD := { kind := 3, size := 4, bytes := 72, z := [.int .i64 0, .string ⟨#[]⟩, .slice none 0 0, .slice none 0 0], offs := [(0, 1), (1, 1), (2, 1), (3, 1)] } -- laws.Line
def td100 : TyD := { kind := 3, size := 2, bytes := 24, z := [.string ⟨#[]⟩, .int .i64 0], offs := [(0, 1), (1, 1)], eqs := [2, 4] } -- impl.Frame
def td101 : TyD := { kind := 1, size := 1, bytes := 24, z := [.slice none 0 0], elem := 149 } -- []impl.Tok
def td103 : TyD := { kind := 3, size := 4, bytes := 72, z := [.int .i64 0, .string ⟨#[]⟩, .slice none 0 0, .slice none 0 0], offs := [(0, 1), (1, 1), (2, 1), (3, 1)] } -- impl.Line
def td113 : TyD := { kind := 1, size := 1, bytes := 24, z := [.slice none 0 0], elem := 118 } -- []impl.Entry
def td115 : TyD := { kind := 1, size := 1, bytes := 24, z := [.slice none 0 0], elem := 74 } -- [][]string
def td118 : TyD := { kind := 3, size := 2, bytes := 24, z := [.string ⟨#[]⟩, .int .i64 0], offs := [(0, 1), (1, 1)], eqs := [2, 4] } -- impl.Entry
def td125 : TyD := { kind := 3, size := 4, bytes := 40, z := [.int .i64 0, .string ⟨#[]⟩, .int .i64 0, .int .i64 0], offs := [(0, 1), (1, 1), (2, 1), (3, 1)], eqs := [4, 2, 4, 4] } -- impl.TreeNode
def td127 : TyD := { kind := 1, size := 1, bytes := 24, z := [.slice none 0 0], elem := 162 } -- []laws.Frame
def td149 : TyD := { kind := 3, size := 3, bytes := 32, z := [.int .i64 0, .int .i64 0, .string ⟨#[]⟩], offs := [(0, 1), (1, 1), (2, 1)], eqs := [4, 4, 2] } -- impl.Tok
def td151 : TyD := { kind := 3, size := 3, bytes := 40, z := [.slice none 0 0, .int .i64 0, .int .i64 0], offs := [(0, 1), (1, 1), (2, 1)] } -- spec.l01Cur
def td162 : TyD := { kind := 3, size := 2, bytes := 24, z := [.string ⟨#[]⟩, .int .i64 0], offs := [(0, 1), (1, 1)], eqs := [2, 4] } -- laws.Frame
def td174 : TyD := { kind := 3, size := 7, bytes := 88, z := [.int .i64 0, .int .i64 0, .int .i64 0, .slice none 0 0, .slice none 0 0, .int .i64 0, .int .i64 0], offs := [(0, 1), (1, 1), (2, 1), (3, 1), (4, 1), (5, 1), (6, 1)] } -- impl.Machine
def td181 : TyD := { kind := 3, size := 3, bytes := 32, z := [.int .i64 0, .int .i64 0, .string ⟨#[]⟩], offs := [(0, 1), (1, 1), (2, 1)], eqs := [4, 4, 2] } -- laws.Tok
def td187 : TyD := { kind := 3, size := 3, bytes := 32, z := [.int .i64 0, .string ⟨#[]⟩, .int .i64 0], offs := [(0, 1), (1, 2)], eqs := [4, 2, 4] } -- impl.Node
def td197 : TyD := { kind := 3, size := 7, bytes := 88, z := [.int .i64 0, .int .i64 0, .int .i64 0, .slice none 0 0, .slice none 0 0, .int .i64 0, .int .i64 0], offs := [(0, 1), (1, 1), (2, 1), (3, 1), (4, 1), (5, 1), (6, 1)] } -- laws.Machine
def td199 : TyD := { kind := 1, size := 1, bytes := 24, z := [.slice none 0 0], elem := 206 } -- []impl.Symbol
def td201 : TyD := { kind := 3, size := 2, bytes := 40, z := [.string ⟨#[]⟩, .slice none 0 0], offs := [(0, 1), (1, 1)] } -- impl.Image
def td206 : TyD := { kind := 3, size := 3, bytes := 32, z := [.string ⟨#[]⟩, .int .i64 0, .int .i64 0], offs := [(0, 1), (1, 1), (2, 1)], eqs := [2, 4, 4] } -- impl.Symbol
def td212 : TyD := { kind := 4, size := 1, bytes := 8, z := [.int .u64 0], ik := some .u64 } -- uint
def td215 : TyD := { kind := 1, size := 1, bytes := 24, z := [.slice none 0 0], elem := 231 } -- []laws.Symbol
def td217 : TyD := { kind := 3, size := 2, bytes := 40, z := [.string ⟨#[]⟩, .slice none 0 0], offs := [(0, 1), (1, 1)] } -- laws.Image
def td218 : TyD := { kind := 1, size := 1, bytes := 24, z := [.slice none 0 0], elem := 225 } -- []impl.Op
def td225 : TyD := { kind := 3, size := 2, bytes := 16, z := [.int .i64 0, .int .i64 0], offs := [(0, 1), (1, 1)], eqs := [4, 4] } -- impl.Op
def td231 : TyD := { kind := 3, size := 3, bytes := 32, z := [.string ⟨#[]⟩, .int .i64 0, .int .i64 0], offs := [(0, 1), (1, 1), (2, 1)], eqs := [2, 4, 4] } -- laws.Symbol
def td242 : TyD := { kind := 4, size := 1, bytes := 4, z := [.int .u32 0], ik := some .u32 } -- uint32
def tys : List (Nat × TyD) := [(2, td2), (3, td3), (4, td4), (5, td5), (9, td9), (12, td12), (21, td21), (22, td22), (23, td23), (25, td25), (27, td27), (37, td37), (39, td39), (41, td41), (43, td43), (46, td46), (49, td49), (52, td52), (55, td55), (59, td59), (66, td66), (68, td68), (69, td69), (71, td71), (73, td73), (74, td74), (76, td76), (78, td78), (81, td81), (83, td83), (84, td84), (86, td86), (87, td87), (88, td88), (90, td90), (95, td95), (97, td97), (100, td100), (101, td101), (103, td103), (113, td113), (115, td115), (118, td118), (125, td125), (127, td127), (149, td149), (151, td151), (162, td162), (174, td174), (181, td181), (187, td187), (197, td197), (199, td199), (201, td201), (206, td206), (212, td212), (215, td215), (217, td217), (218, td218), (225, td225), (231, td231), (242, td242)]
theorem ty2 : lk 2 tys = some { kind := 4, size := 1, bytes := 8, z := [.int .i64 0], ik := some .i64 } := rfl
theorem tok2 : TyOk Try.prog 2 td2 := ⟨by kernel_rfl, by show _ = _; kernel_rfl, by decide, .inl rfl⟩
theorem ty3 : lk 3 tys = some { kind := 4, size := 1, bytes := 8, z := [.int .i64 0], ik := some .i64 } := rfl
theorem tok3 : TyOk Try.prog 3 td3 := ⟨by kernel_rfl, by show _ = _; kernel_rfl, by decide, .inl rfl⟩
theorem ty4 : lk 4 tys = some { kind := 5, size := 1, bytes := 1, z := [.bool false] } := rfl
theorem tok4 : TyOk Try.prog 4 td4 := ⟨by kernel_rfl, by show _ = _; kernel_rfl, by decide, .inl rfl⟩
theorem ty5 : lk 5 tys = some { kind := 4, size := 1, bytes := 1, z := [.int .u8 0], ik := some .u8 } := rfl
theorem tok5 : TyOk Try.prog 5 td5 := ⟨by kernel_rfl, by show _ = _; kernel_rfl, by decide, .inl rfl⟩
theorem ty9 : lk 9 tys = some { kind := 2, size := 1, bytes := 16, z := [.string ⟨#[]⟩] } := rfl
theorem tok9 : TyOk Try.prog 9 td9 := ⟨by kernel_rfl, by show _ = _; kernel_rfl, by decide, .inl rfl⟩
theorem ty12 : lk 12 tys = some { kind := 4, size := 1, bytes := 8, z := [.int .u64 0], ik := some .u64 } := rfl
theorem tok12 : TyOk Try.prog 12 td12 := ⟨by kernel_rfl, by show _ = _; kernel_rfl, by decide, .inl rfl⟩
theorem ty21 : lk 21 tys = some { kind := 4, size := 1, bytes := 4, z := [.int .i32 0], ik := some .i32 } := rfl
theorem tok21 : TyOk Try.prog 21 td21 := ⟨by kernel_rfl, by show _ = _; kernel_rfl, by decide, .inl rfl⟩
theorem ty22 : lk 22 tys = some { kind := 1, size := 1, bytes := 24, z := [.slice none 0 0], elem := 97 } := rfl
theorem tok22 : TyOk Try.prog 22 td22 := ⟨by kernel_rfl, by show _ = _; kernel_rfl, by decide, .inl rfl⟩
theorem ty23 : lk 23 tys = some { kind := 1, size := 1, bytes := 24, z := [.slice none 0 0], elem := 3 } := rfl
theorem tok23 : TyOk Try.prog 23 td23 := ⟨by kernel_rfl, by show _ = _; kernel_rfl, by decide, .inl rfl⟩
theorem ty25 : lk 25 tys = some { kind := 1, size := 1, bytes := 24, z := [.slice none 0 0], elem := 100 } := rfl
theorem tok25 : TyOk Try.prog 25 td25 := ⟨by kernel_rfl, by show _ = _; kernel_rfl, by decide, .inl rfl⟩
theorem ty27 : lk 27 tys = some { kind := 1, size := 1, bytes := 24, z := [.slice none 0 0], elem := 103 } := rfl
theorem tok27 : TyOk Try.prog 27 td27 := ⟨by kernel_rfl, by show _ = _; kernel_rfl, by decide, .inl rfl⟩
theorem ty37 : lk 37 tys = some { kind := 1, size := 1, bytes := 24, z := [.slice none 0 0], elem := 5 } := rfl
theorem tok37 : TyOk Try.prog 37 td37 := ⟨by kernel_rfl, by show _ = _; kernel_rfl, by decide, .inl rfl⟩
theorem ty39 : lk 39 tys = some { kind := 1, size := 1, bytes := 24, z := [.slice none 0 0], elem := 187 } := rfl
theorem tok39 : TyOk Try.prog 39 td39 := ⟨by kernel_rfl, by show _ = _; kernel_rfl, by decide, .inl rfl⟩
theorem ty41 : lk 41 tys = some { kind := 3, size := 1, bytes := 24, z := [.slice none 0 0], offs := [(0, 1)] } := rfl
theorem tok41 : TyOk Try.prog 41 td41 := ⟨by kernel_rfl, by show _ = _; kernel_rfl, by decide, .inl rfl⟩
theorem ty43 : lk 43 tys = some { kind := 3, size := 2, bytes := 48, z := [.slice none 0 0, .slice none 0 0], offs := [(0, 1), (1, 1)] } := rfl
theorem tok43 : TyOk Try.prog 43 td43 := ⟨by kernel_rfl, by show _ = _; kernel_rfl, by decide, .inl rfl⟩
theorem ty46 : lk 46 tys = some { kind := 1, size := 1, bytes := 24, z := [.slice none 0 0], elem := 125 } := rfl
theorem tok46 : TyOk Try.prog 46 td46 := ⟨by kernel_rfl, by show _ = _; kernel_rfl, by decide, .inl rfl⟩
theorem ty49 : lk 49 tys = some { kind := 1, size := 1, bytes := 24, z := [.slice none 0 0], elem := 52 } := rfl
theorem tok49 : TyOk Try.prog 49 td49 := ⟨by kernel_rfl, by show _ = _; kernel_rfl, by decide, .inl rfl⟩
theorem ty52 : lk 52 tys = some { kind := 3, size := 4, bytes := 32, z := [.int .i64 0, .int .i64 0, .int .i64 0, .int .i64 0], offs := [(0, 1), (1, 1), (2, 1), (3, 1)], eqs := [4, 4, 4, 4] } := rfl
theorem tok52 : TyOk Try.prog 52 td52 := ⟨by kernel_rfl, by show _ = _; kernel_rfl, by decide, .inr ⟨by kernel_rfl, by kernel_rfl, rfl⟩⟩
theorem ty55 : lk 55 tys = some { kind := 1, size := 1, bytes := 24, z := [.slice none 0 0], elem := 127 } := rfl
theorem tok55 : TyOk Try.prog 55 td55 := ⟨by kernel_rfl, by show _ = _; kernel_rfl, by decide, .inl rfl⟩
theorem ty59 : lk 59 tys = some { kind := 1, size := 1, bytes := 24, z := [.slice none 0 0], elem := 25 } := rfl
theorem tok59 : TyOk Try.prog 59 td59 := ⟨by kernel_rfl, by show _ = _; kernel_rfl, by decide, .inl rfl⟩
theorem ty66 : lk 66 tys = some { kind := 1, size := 1, bytes := 24, z := [.slice none 0 0], elem := 217 } := rfl
theorem tok66 : TyOk Try.prog 66 td66 := ⟨by kernel_rfl, by show _ = _; kernel_rfl, by decide, .inl rfl⟩
theorem ty68 : lk 68 tys = some { kind := 3, size := 3, bytes := 72, z := [.slice none 0 0, .slice none 0 0, .slice none 0 0], offs := [(0, 1), (1, 1), (2, 1)] } := rfl
theorem tok68 : TyOk Try.prog 68 td68 := ⟨by kernel_rfl, by show _ = _; kernel_rfl, by decide, .inl rfl⟩
theorem ty69 : lk 69 tys = some { kind := 1, size := 1, bytes := 24, z := [.slice none 0 0], elem := 197 } := rfl
theorem tok69 : TyOk Try.prog 69 td69 := ⟨by kernel_rfl, by show _ = _; kernel_rfl, by decide, .inl rfl⟩
theorem ty71 : lk 71 tys = some { kind := 3, size := 7, bytes := 120, z := [.slice none 0 0, .slice none 0 0, .slice none 0 0, .slice none 0 0, .int .i64 0, .int .i64 0, .int .i64 0], offs := [(0, 3), (3, 1), (4, 1), (5, 1), (6, 1)] } := rfl
theorem tok71 : TyOk Try.prog 71 td71 := ⟨by kernel_rfl, by show _ = _; kernel_rfl, by decide, .inl rfl⟩
theorem ty73 : lk 73 tys = some { kind := 3, size := 4, bytes := 32, z := [.int .i64 0, .int .i64 0, .int .i64 0, .int .i64 0], offs := [(0, 1), (1, 1), (2, 1), (3, 1)], eqs := [4, 4, 4, 4] } := rfl
theorem tok73 : TyOk Try.prog 73 td73 := ⟨by kernel_rfl, by show _ = _; kernel_rfl, by decide, .inr ⟨by kernel_rfl, by kernel_rfl, rfl⟩⟩
theorem ty74 : lk 74 tys = some { kind := 1, size := 1, bytes := 24, z := [.slice none 0 0], elem := 9 } := rfl
theorem tok74 : TyOk Try.prog 74 td74 := ⟨by kernel_rfl, by show _ = _; kernel_rfl, by decide, .inl rfl⟩
theorem ty76 : lk 76 tys = some { kind := 3, size := 4, bytes := 48, z := [.int .i64 0, .slice none 0 0, .int .i64 0, .int .i64 0], offs := [(0, 1), (1, 1), (2, 1), (3, 1)] } := rfl
theorem tok76 : TyOk Try.prog 76 td76 := ⟨by kernel_rfl, by show _ = _; kernel_rfl, by decide, .inl rfl⟩
theorem ty78 : lk 78 tys = some { kind := 3, size := 18, bytes := 224, z := [.slice none 0 0, .slice none 0 0, .slice none 0 0, .slice none 0 0, .int .i64 0, .int .i64 0, .int .i64 0, .int .i64 0, .int .i64 0, .int .i64 0, .int .i64 0, .int .i64 0, .slice none 0 0, .int .i64 0, .int .i64 0, .int .i64 0, .int .i64 0, .int .i64 0], offs := [(0, 7), (7, 4), (11, 4), (15, 1), (16, 1), (17, 1)] } := rfl
theorem tok78 : TyOk Try.prog 78 td78 := ⟨by kernel_rfl, by show _ = _; kernel_rfl, by decide, .inl rfl⟩
theorem ty81 : lk 81 tys = some { kind := 1, size := 1, bytes := 24, z := [.slice none 0 0], elem := 201 } := rfl
theorem tok81 : TyOk Try.prog 81 td81 := ⟨by kernel_rfl, by show _ = _; kernel_rfl, by decide, .inl rfl⟩
theorem ty83 : lk 83 tys = some { kind := 3, size := 3, bytes := 72, z := [.slice none 0 0, .slice none 0 0, .slice none 0 0], offs := [(0, 1), (1, 1), (2, 1)] } := rfl
theorem tok83 : TyOk Try.prog 83 td83 := ⟨by kernel_rfl, by show _ = _; kernel_rfl, by decide, .inl rfl⟩
theorem ty84 : lk 84 tys = some { kind := 1, size := 1, bytes := 24, z := [.slice none 0 0], elem := 174 } := rfl
theorem tok84 : TyOk Try.prog 84 td84 := ⟨by kernel_rfl, by show _ = _; kernel_rfl, by decide, .inl rfl⟩
theorem ty86 : lk 86 tys = some { kind := 3, size := 7, bytes := 120, z := [.slice none 0 0, .slice none 0 0, .slice none 0 0, .slice none 0 0, .int .i64 0, .int .i64 0, .int .i64 0], offs := [(0, 3), (3, 1), (4, 1), (5, 1), (6, 1)] } := rfl
theorem tok86 : TyOk Try.prog 86 td86 := ⟨by kernel_rfl, by show _ = _; kernel_rfl, by decide, .inl rfl⟩
theorem ty87 : lk 87 tys = some { kind := 3, size := 4, bytes := 32, z := [.int .i64 0, .int .i64 0, .int .i64 0, .int .i64 0], offs := [(0, 1), (1, 1), (2, 1), (3, 1)], eqs := [4, 4, 4, 4] } := rfl
theorem tok87 : TyOk Try.prog 87 td87 := ⟨by kernel_rfl, by show _ = _; kernel_rfl, by decide, .inr ⟨by kernel_rfl, by kernel_rfl, rfl⟩⟩
theorem ty88 : lk 88 tys = some { kind := 3, size := 4, bytes := 48, z := [.int .i64 0, .slice none 0 0, .int .i64 0, .int .i64 0], offs := [(0, 1), (1, 1), (2, 1), (3, 1)] } := rfl
theorem tok88 : TyOk Try.prog 88 td88 := ⟨by kernel_rfl, by show _ = _; kernel_rfl, by decide, .inl rfl⟩
theorem ty90 : lk 90 tys = some { kind := 3, size := 18, bytes := 224, z := [.slice none 0 0, .slice none 0 0, .slice none 0 0, .slice none 0 0, .int .i64 0, .int .i64 0, .int .i64 0, .int .i64 0, .int .i64 0, .int .i64 0, .int .i64 0, .int .i64 0, .slice none 0 0, .int .i64 0, .int .i64 0, .int .i64 0, .int .i64 0, .int .i64 0], offs := [(0, 7), (7, 4), (11, 4), (15, 1), (16, 1), (17, 1)] } := rfl
theorem tok90 : TyOk Try.prog 90 td90 := ⟨by kernel_rfl, by show _ = _; kernel_rfl, by decide, .inl rfl⟩
theorem ty95 : lk 95 tys = some { kind := 1, size := 1, bytes := 24, z := [.slice none 0 0], elem := 181 } := rfl
theorem tok95 : TyOk Try.prog 95 td95 := ⟨by kernel_rfl, by show _ = _; kernel_rfl, by decide, .inl rfl⟩
theorem ty97 : lk 97 tys = some { kind := 3, size := 4, bytes := 72, z := [.int .i64 0, .string ⟨#[]⟩, .slice none 0 0, .slice none 0 0], offs := [(0, 1), (1, 1), (2, 1), (3, 1)] } := rfl
theorem tok97 : TyOk Try.prog 97 td97 := ⟨by kernel_rfl, by show _ = _; kernel_rfl, by decide, .inl rfl⟩
theorem ty100 : lk 100 tys = some { kind := 3, size := 2, bytes := 24, z := [.string ⟨#[]⟩, .int .i64 0], offs := [(0, 1), (1, 1)], eqs := [2, 4] } := rfl
theorem tok100 : TyOk Try.prog 100 td100 := ⟨by kernel_rfl, by show _ = _; kernel_rfl, by decide, .inr ⟨by kernel_rfl, by kernel_rfl, rfl⟩⟩
theorem ty101 : lk 101 tys = some { kind := 1, size := 1, bytes := 24, z := [.slice none 0 0], elem := 149 } := rfl
theorem tok101 : TyOk Try.prog 101 td101 := ⟨by kernel_rfl, by show _ = _; kernel_rfl, by decide, .inl rfl⟩
theorem ty103 : lk 103 tys = some { kind := 3, size := 4, bytes := 72, z := [.int .i64 0, .string ⟨#[]⟩, .slice none 0 0, .slice none 0 0], offs := [(0, 1), (1, 1), (2, 1), (3, 1)] } := rfl
theorem tok103 : TyOk Try.prog 103 td103 := ⟨by kernel_rfl, by show _ = _; kernel_rfl, by decide, .inl rfl⟩
theorem ty113 : lk 113 tys = some { kind := 1, size := 1, bytes := 24, z := [.slice none 0 0], elem := 118 } := rfl
theorem tok113 : TyOk Try.prog 113 td113 := ⟨by kernel_rfl, by show _ = _; kernel_rfl, by decide, .inl rfl⟩
theorem ty115 : lk 115 tys = some { kind := 1, size := 1, bytes := 24, z := [.slice none 0 0], elem := 74 } := rfl
theorem tok115 : TyOk Try.prog 115 td115 := ⟨by kernel_rfl, by show _ = _; kernel_rfl, by decide, .inl rfl⟩
theorem ty118 : lk 118 tys = some { kind := 3, size := 2, bytes := 24, z := [.string ⟨#[]⟩, .int .i64 0], offs := [(0, 1), (1, 1)], eqs := [2, 4] } := rfl
theorem tok118 : TyOk Try.prog 118 td118 := ⟨by kernel_rfl, by show _ = _; kernel_rfl, by decide, .inr ⟨by kernel_rfl, by kernel_rfl, rfl⟩⟩
theorem ty125 : lk 125 tys = some { kind := 3, size := 4, bytes := 40, z := [.int .i64 0, .string ⟨#[]⟩, .int .i64 0, .int .i64 0], offs := [(0, 1), (1, 1), (2, 1), (3, 1)], eqs := [4, 2, 4, 4] } := rfl
theorem tok125 : TyOk Try.prog 125 td125 := ⟨by kernel_rfl, by show _ = _; kernel_rfl, by decide, .inr ⟨by kernel_rfl, by kernel_rfl, rfl⟩⟩
theorem ty127 : lk 127 tys = some { kind := 1, size := 1, bytes := 24, z := [.slice none 0 0], elem := 162 } := rfl
theorem tok127 : TyOk Try.prog 127 td127 := ⟨by kernel_rfl, by show _ = _; kernel_rfl, by decide, .inl rfl⟩
theorem ty149 : lk 149 tys = some { kind := 3, size := 3, bytes := 32, z := [.int .i64 0, .int .i64 0, .string ⟨#[]⟩], offs := [(0, 1), (1, 1), (2, 1)], eqs := [4, 4, 2] } := rfl
theorem tok149 : TyOk Try.prog 149 td149 := ⟨by kernel_rfl, by show _ = _; kernel_rfl, by decide, .inr ⟨by kernel_rfl, by kernel_rfl, rfl⟩⟩
theorem ty151 : lk 151 tys = some { kind := 3, size := 3, bytes := 40, z := [.slice none 0 0, .int .i64 0, .int .i64 0], offs := [(0, 1), (1, 1), (2, 1)] } := rfl
theorem tok151 : TyOk Try.prog 151 td151 := ⟨by kernel_rfl, by show _ = _; kernel_rfl, by decide, .inl rfl⟩
theorem ty162 : lk 162 tys = some { kind := 3, size := 2, bytes := 24, z := [.string ⟨#[]⟩, .int .i64 0], offs := [(0, 1), (1, 1)], eqs := [2, 4] } := rfl
theorem tok162 : TyOk Try.prog 162 td162 := ⟨by kernel_rfl, by show _ = _; kernel_rfl, by decide, .inr ⟨by kernel_rfl, by kernel_rfl, rfl⟩⟩
theorem ty174 : lk 174 tys = some { kind := 3, size := 7, bytes := 88, z := [.int .i64 0, .int .i64 0, .int .i64 0, .slice none 0 0, .slice none 0 0, .int .i64 0, .int .i64 0], offs := [(0, 1), (1, 1), (2, 1), (3, 1), (4, 1), (5, 1), (6, 1)] } := rfl
theorem tok174 : TyOk Try.prog 174 td174 := ⟨by kernel_rfl, by show _ = _; kernel_rfl, by decide, .inl rfl⟩
theorem ty181 : lk 181 tys = some { kind := 3, size := 3, bytes := 32, z := [.int .i64 0, .int .i64 0, .string ⟨#[]⟩], offs := [(0, 1), (1, 1), (2, 1)], eqs := [4, 4, 2] } := rfl
theorem tok181 : TyOk Try.prog 181 td181 := ⟨by kernel_rfl, by show _ = _; kernel_rfl, by decide, .inr ⟨by kernel_rfl, by kernel_rfl, rfl⟩⟩
theorem ty187 : lk 187 tys = some { kind := 3, size := 3, bytes := 32, z := [.int .i64 0, .string ⟨#[]⟩, .int .i64 0], offs := [(0, 1), (1, 2)], eqs := [4, 2, 4] } := rfl
theorem tok187 : TyOk Try.prog 187 td187 := ⟨by kernel_rfl, by show _ = _; kernel_rfl, by decide, .inr ⟨by kernel_rfl, by kernel_rfl, rfl⟩⟩
theorem ty197 : lk 197 tys = some { kind := 3, size := 7, bytes := 88, z := [.int .i64 0, .int .i64 0, .int .i64 0, .slice none 0 0, .slice none 0 0, .int .i64 0, .int .i64 0], offs := [(0, 1), (1, 1), (2, 1), (3, 1), (4, 1), (5, 1), (6, 1)] } := rfl
theorem tok197 : TyOk Try.prog 197 td197 := ⟨by kernel_rfl, by show _ = _; kernel_rfl, by decide, .inl rfl⟩
theorem ty199 : lk 199 tys = some { kind := 1, size := 1, bytes := 24, z := [.slice none 0 0], elem := 206 } := rfl
theorem tok199 : TyOk Try.prog 199 td199 := ⟨by kernel_rfl, by show _ = _; kernel_rfl, by decide, .inl rfl⟩
theorem ty201 : lk 201 tys = some { kind := 3, size := 2, bytes := 40, z := [.string ⟨#[]⟩, .slice none 0 0], offs := [(0, 1), (1, 1)] } := rfl
theorem tok201 : TyOk Try.prog 201 td201 := ⟨by kernel_rfl, by show _ = _; kernel_rfl, by decide, .inl rfl⟩
theorem ty206 : lk 206 tys = some { kind := 3, size := 3, bytes := 32, z := [.string ⟨#[]⟩, .int .i64 0, .int .i64 0], offs := [(0, 1), (1, 1), (2, 1)], eqs := [2, 4, 4] } := rfl
theorem tok206 : TyOk Try.prog 206 td206 := ⟨by kernel_rfl, by show _ = _; kernel_rfl, by decide, .inr ⟨by kernel_rfl, by kernel_rfl, rfl⟩⟩
theorem ty212 : lk 212 tys = some { kind := 4, size := 1, bytes := 8, z := [.int .u64 0], ik := some .u64 } := rfl
theorem tok212 : TyOk Try.prog 212 td212 := ⟨by kernel_rfl, by show _ = _; kernel_rfl, by decide, .inl rfl⟩
theorem ty215 : lk 215 tys = some { kind := 1, size := 1, bytes := 24, z := [.slice none 0 0], elem := 231 } := rfl
theorem tok215 : TyOk Try.prog 215 td215 := ⟨by kernel_rfl, by show _ = _; kernel_rfl, by decide, .inl rfl⟩
theorem ty217 : lk 217 tys = some { kind := 3, size := 2, bytes := 40, z := [.string ⟨#[]⟩, .slice none 0 0], offs := [(0, 1), (1, 1)] } := rfl
theorem tok217 : TyOk Try.prog 217 td217 := ⟨by kernel_rfl, by show _ = _; kernel_rfl, by decide, .inl rfl⟩
theorem ty218 : lk 218 tys = some { kind := 1, size := 1, bytes := 24, z := [.slice none 0 0], elem := 225 } := rfl
theorem tok218 : TyOk Try.prog 218 td218 := ⟨by kernel_rfl, by show _ = _; kernel_rfl, by decide, .inl rfl⟩
theorem ty225 : lk 225 tys = some { kind := 3, size := 2, bytes := 16, z := [.int .i64 0, .int .i64 0], offs := [(0, 1), (1, 1)], eqs := [4, 4] } := rfl
theorem tok225 : TyOk Try.prog 225 td225 := ⟨by kernel_rfl, by show _ = _; kernel_rfl, by decide, .inr ⟨by kernel_rfl, by kernel_rfl, rfl⟩⟩
theorem ty231 : lk 231 tys = some { kind := 3, size := 3, bytes := 32, z := [.string ⟨#[]⟩, .int .i64 0, .int .i64 0], offs := [(0, 1), (1, 1), (2, 1)], eqs := [2, 4, 4] } := rfl
theorem tok231 : TyOk Try.prog 231 td231 := ⟨by kernel_rfl, by show _ = _; kernel_rfl, by decide, .inr ⟨by kernel_rfl, by kernel_rfl, rfl⟩⟩
theorem ty242 : lk 242 tys = some { kind := 4, size := 1, bytes := 4, z := [.int .u32 0], ik := some .u32 } := rfl
theorem tok242 : TyOk Try.prog 242 td242 := ⟨by kernel_rfl, by show _ = _; kernel_rfl, by decide, .inl rfl⟩
theorem tysOk : ∀ T d, lk T tys = some d → TyOk Try.prog T d := fun T d h => by
  have hm := lk_mem h
  simp only [tys, List.mem_cons, Prod.mk.injEq, List.not_mem_nil, or_false] at hm
  rcases hm with ⟨rfl, rfl⟩ | ⟨rfl, rfl⟩ | ⟨rfl, rfl⟩ | ⟨rfl, rfl⟩ | ⟨rfl, rfl⟩ | ⟨rfl, rfl⟩ | ⟨rfl, rfl⟩ | ⟨rfl, rfl⟩ | ⟨rfl, rfl⟩ | ⟨rfl, rfl⟩ | ⟨rfl, rfl⟩ | ⟨rfl, rfl⟩ | ⟨rfl, rfl⟩ | ⟨rfl, rfl⟩ | ⟨rfl, rfl⟩ | ⟨rfl, rfl⟩ | ⟨rfl, rfl⟩ | ⟨rfl, rfl⟩ | ⟨rfl, rfl⟩ | ⟨rfl, rfl⟩ | ⟨rfl, rfl⟩ | ⟨rfl, rfl⟩ | ⟨rfl, rfl⟩ | ⟨rfl, rfl⟩ | ⟨rfl, rfl⟩ | ⟨rfl, rfl⟩ | ⟨rfl, rfl⟩ | ⟨rfl, rfl⟩ | ⟨rfl, rfl⟩ | ⟨rfl, rfl⟩ | ⟨rfl, rfl⟩ | ⟨rfl, rfl⟩ | ⟨rfl, rfl⟩ | ⟨rfl, rfl⟩ | ⟨rfl, rfl⟩ | ⟨rfl, rfl⟩ | ⟨rfl, rfl⟩ | ⟨rfl, rfl⟩ | ⟨rfl, rfl⟩ | ⟨rfl, rfl⟩ | ⟨rfl, rfl⟩ | ⟨rfl, rfl⟩ | ⟨rfl, rfl⟩ | ⟨rfl, rfl⟩ | ⟨rfl, rfl⟩ | ⟨rfl, rfl⟩ | ⟨rfl, rfl⟩ | ⟨rfl, rfl⟩ | ⟨rfl, rfl⟩ | ⟨rfl, rfl⟩ | ⟨rfl, rfl⟩ | ⟨rfl, rfl⟩ | ⟨rfl, rfl⟩ | ⟨rfl, rfl⟩ | ⟨rfl, rfl⟩ | ⟨rfl, rfl⟩ | ⟨rfl, rfl⟩ | ⟨rfl, rfl⟩ | ⟨rfl, rfl⟩ | ⟨rfl, rfl⟩ | ⟨rfl, rfl⟩ | ⟨rfl, rfl⟩
  · exact tok2
  · exact tok3
  · exact tok4
  · exact tok5
  · exact tok9
  · exact tok12
  · exact tok21
  · exact tok22
  · exact tok23
  · exact tok25
  · exact tok27
  · exact tok37
  · exact tok39
  · exact tok41
  · exact tok43
  · exact tok46
  · exact tok49
  · exact tok52
  · exact tok55
  · exact tok59
  · exact tok66
  · exact tok68
  · exact tok69
  · exact tok71
  · exact tok73
  · exact tok74
  · exact tok76
  · exact tok78
  · exact tok81
  · exact tok83
  · exact tok84
  · exact tok86
  · exact tok87
  · exact tok88
  · exact tok90
  · exact tok95
  · exact tok97
  · exact tok100
  · exact tok101
  · exact tok103
  · exact tok113
  · exact tok115
  · exact tok118
  · exact tok125
  · exact tok127
  · exact tok149
  · exact tok151
  · exact tok162
  · exact tok174
  · exact tok181
  · exact tok187
  · exact tok197
  · exact tok199
  · exact tok201
  · exact tok206
  · exact tok212
  · exact tok215
  · exact tok217
  · exact tok218
  · exact tok225
  · exact tok231
  · exact tok242
theorem tyAll : lk 2 tys = some { kind := 4, size := 1, bytes := 8, z := [.int .i64 0], ik := some .i64 } ∧ lk 3 tys = some { kind := 4, size := 1, bytes := 8, z := [.int .i64 0], ik := some .i64 } ∧ lk 4 tys = some { kind := 5, size := 1, bytes := 1, z := [.bool false] } ∧ lk 5 tys = some { kind := 4, size := 1, bytes := 1, z := [.int .u8 0], ik := some .u8 } ∧ lk 9 tys = some { kind := 2, size := 1, bytes := 16, z := [.string ⟨#[]⟩] } ∧ lk 12 tys = some { kind := 4, size := 1, bytes := 8, z := [.int .u64 0], ik := some .u64 } ∧ lk 21 tys = some { kind := 4, size := 1, bytes := 4, z := [.int .i32 0], ik := some .i32 } ∧ lk 22 tys = some { kind := 1, size := 1, bytes := 24, z := [.slice none 0 0], elem := 97 } ∧ lk 23 tys = some { kind := 1, size := 1, bytes := 24, z := [.slice none 0 0], elem := 3 } ∧ lk 25 tys = some { kind := 1, size := 1, bytes := 24, z := [.slice none 0 0], elem := 100 } ∧ lk 27 tys = some { kind := 1, size := 1, bytes := 24, z := [.slice none 0 0], elem := 103 } ∧ lk 37 tys = some { kind := 1, size := 1, bytes := 24, z := [.slice none 0 0], elem := 5 } ∧ lk 39 tys = some { kind := 1, size := 1, bytes := 24, z := [.slice none 0 0], elem := 187 } ∧ lk 41 tys = some { kind := 3, size := 1, bytes := 24, z := [.slice none 0 0], offs := [(0, 1)] } ∧ lk 43 tys = some { kind := 3, size := 2, bytes := 48, z := [.slice none 0 0, .slice none 0 0], offs := [(0, 1), (1, 1)] } ∧ lk 46 tys = some { kind := 1, size := 1, bytes := 24, z := [.slice none 0 0], elem := 125 } ∧ lk 49 tys = some { kind := 1, size := 1, bytes := 24, z := [.slice none 0 0], elem := 52 } ∧ lk 52 tys = some { kind := 3, size := 4, bytes := 32, z := [.int .i64 0, .int .i64 0, .int .i64 0, .int .i64 0], offs := [(0, 1), (1, 1), (2, 1), (3, 1)], eqs := [4, 4, 4, 4] } ∧ lk 55 tys = some { kind := 1, size := 1, bytes := 24, z := [.slice none 0 0], elem := 127 } ∧ lk 59 tys = some { kind := 1, size := 1, bytes := 24, z := [.slice none 0 0], elem := 25 } ∧ lk 66 tys = some { kind := 1, size := 1, bytes := 24, z := [.slice none 0 0], elem := 217 } ∧ lk 68 tys = some { kind := 3, size := 3, bytes := 72, z := [.slice none 0 0, .slice none 0 0, .slice none 0 0], offs := [(0, 1), (1, 1), (2, 1)] } ∧ lk 69 tys = some { kind := 1, size := 1, bytes := 24, z := [.slice none 0 0], elem := 197 } ∧ lk 71 tys = some { kind := 3, size := 7, bytes := 120, z := [.slice none 0 0, .slice none 0 0, .slice none 0 0, .slice none 0 0, .int .i64 0, .int .i64 0, .int .i64 0], offs := [(0, 3), (3, 1), (4, 1), (5, 1), (6, 1)] } ∧ lk 73 tys = some { kind := 3, size := 4, bytes := 32, z := [.int .i64 0, .int .i64 0, .int .i64 0, .int .i64 0], offs := [(0, 1), (1, 1), (2, 1), (3, 1)], eqs := [4, 4, 4, 4] } ∧ lk 74 tys = some { kind := 1, size := 1, bytes := 24, z := [.slice none 0 0], elem := 9 } ∧ lk 76 tys = some { kind := 3, size := 4, bytes := 48, z := [.int .i64 0, .slice none 0 0, .int .i64 0, .int .i64 0], offs := [(0, 1), (1, 1), (2, 1), (3, 1)] } ∧ lk 78 tys = some { kind := 3, size := 18, bytes := 224, z := [.slice none 0 0, .slice none 0 0, .slice none 0 0, .slice none 0 0, .int .i64 0, .int .i64 0, .int .i64 0, .int .i64 0, .int .i64 0, .int .i64 0, .int .i64 0, .int .i64 0, .slice none 0 0, .int .i64 0, .int .i64 0, .int .i64 0, .int .i64 0, .int .i64 0], offs := [(0, 7), (7, 4), (11, 4), (15, 1), (16, 1), (17, 1)] } ∧ lk 81 tys = some { kind := 1, size := 1, bytes := 24, z := [.slice none 0 0], elem := 201 } ∧ lk 83 tys = some { kind := 3, size := 3, bytes := 72, z := [.slice none 0 0, .slice none 0 0, .slice none 0 0], offs := [(0, 1), (1, 1), (2, 1)] } ∧ lk 84 tys = some { kind := 1, size := 1, bytes := 24, z := [.slice none 0 0], elem := 174 } ∧ lk 86 tys = some { kind := 3, size := 7, bytes := 120, z := [.slice none 0 0, .slice none 0 0, .slice none 0 0, .slice none 0 0, .int .i64 0, .int .i64 0, .int .i64 0], offs := [(0, 3), (3, 1), (4, 1), (5, 1), (6, 1)] } ∧ lk 87 tys = some { kind := 3, size := 4, bytes := 32, z := [.int .i64 0, .int .i64 0, .int .i64 0, .int .i64 0], offs := [(0, 1), (1, 1), (2, 1), (3, 1)], eqs := [4, 4, 4, 4] } ∧ lk 88 tys = some { kind := 3, size := 4, bytes := 48, z := [.int .i64 0, .slice none 0 0, .int .i64 0, .int .i64 0], offs := [(0, 1), (1, 1), (2, 1), (3, 1)] } ∧ lk 90 tys = some { kind := 3, size := 18, bytes := 224, z := [.slice none 0 0, .slice none 0 0, .slice none 0 0, .slice none 0 0, .int .i64 0, .int .i64 0, .int .i64 0, .int .i64 0, .int .i64 0, .int .i64 0, .int .i64 0, .int .i64 0, .slice none 0 0, .int .i64 0, .int .i64 0, .int .i64 0, .int .i64 0, .int .i64 0], offs := [(0, 7), (7, 4), (11, 4), (15, 1), (16, 1), (17, 1)] } ∧ lk 95 tys = some { kind := 1, size := 1, bytes := 24, z := [.slice none 0 0], elem := 181 } ∧ lk 97 tys = some { kind := 3, size := 4, bytes := 72, z := [.int .i64 0, .string ⟨#[]⟩, .slice none 0 0, .slice none 0 0], offs := [(0, 1), (1, 1), (2, 1), (3, 1)] } ∧ lk 100 tys = some { kind := 3, size := 2, bytes := 24, z := [.string ⟨#[]⟩, .int .i64 0], offs := [(0, 1), (1, 1)], eqs := [2, 4] } ∧ lk 101 tys = some { kind := 1, size := 1, bytes := 24, z := [.slice none 0 0], elem := 149 } ∧ lk 103 tys = some { kind := 3, size := 4, bytes := 72, z := [.int .i64 0, .string ⟨#[]⟩, .slice none 0 0, .slice none 0 0], offs := [(0, 1), (1, 1), (2, 1), (3, 1)] } ∧ lk 113 tys = some { kind := 1, size := 1, bytes := 24, z := [.slice none 0 0], elem := 118 } ∧ lk 115 tys = some { kind := 1, size := 1, bytes := 24, z := [.slice none 0 0], elem := 74 } ∧ lk 118 tys = some { kind := 3, size := 2, bytes := 24, z := [.string ⟨#[]⟩, .int .i64 0], offs := [(0, 1), (1, 1)], eqs := [2, 4] } ∧ lk 125 tys = some { kind := 3, size := 4, bytes := 40, z := [.int .i64 0, .string ⟨#[]⟩, .int .i64 0, .int .i64 0], offs := [(0, 1), (1, 1), (2, 1), (3, 1)], eqs := [4, 2, 4, 4] } ∧ lk 127 tys = some { kind := 1, size := 1, bytes := 24, z := [.slice none 0 0], elem := 162 } ∧ lk 149 tys = some { kind := 3, size := 3, bytes := 32, z := [.int .i64 0, .int .i64 0, .string ⟨#[]⟩], offs := [(0, 1), (1, 1), (2, 1)], eqs := [4, 4, 2] } ∧ lk 151 tys = some { kind := 3, size := 3, bytes := 40, z := [.slice none 0 0, .int .i64 0, .int .i64 0], offs := [(0, 1), (1, 1), (2, 1)] } ∧ lk 162 tys = some { kind := 3, size := 2, bytes := 24, z := [.string ⟨#[]⟩, .int .i64 0], offs := [(0, 1), (1, 1)], eqs := [2, 4] } ∧ lk 174 tys = some { kind := 3, size := 7, bytes := 88, z := [.int .i64 0, .int .i64 0, .int .i64 0, .slice none 0 0, .slice none 0 0, .int .i64 0, .int .i64 0], offs := [(0, 1), (1, 1), (2, 1), (3, 1), (4, 1), (5, 1), (6, 1)] } ∧ lk 181 tys = some { kind := 3, size := 3, bytes := 32, z := [.int .i64 0, .int .i64 0, .string ⟨#[]⟩], offs := [(0, 1), (1, 1), (2, 1)], eqs := [4, 4, 2] } ∧ lk 187 tys = some { kind := 3, size := 3, bytes := 32, z := [.int .i64 0, .string ⟨#[]⟩, .int .i64 0], offs := [(0, 1), (1, 2)], eqs := [4, 2, 4] } ∧ lk 197 tys = some { kind := 3, size := 7, bytes := 88, z := [.int .i64 0, .int .i64 0, .int .i64 0, .slice none 0 0, .slice none 0 0, .int .i64 0, .int .i64 0], offs := [(0, 1), (1, 1), (2, 1), (3, 1), (4, 1), (5, 1), (6, 1)] } ∧ lk 199 tys = some { kind := 1, size := 1, bytes := 24, z := [.slice none 0 0], elem := 206 } ∧ lk 201 tys = some { kind := 3, size := 2, bytes := 40, z := [.string ⟨#[]⟩, .slice none 0 0], offs := [(0, 1), (1, 1)] } ∧ lk 206 tys = some { kind := 3, size := 3, bytes := 32, z := [.string ⟨#[]⟩, .int .i64 0, .int .i64 0], offs := [(0, 1), (1, 1), (2, 1)], eqs := [2, 4, 4] } ∧ lk 212 tys = some { kind := 4, size := 1, bytes := 8, z := [.int .u64 0], ik := some .u64 } ∧ lk 215 tys = some { kind := 1, size := 1, bytes := 24, z := [.slice none 0 0], elem := 231 } ∧ lk 217 tys = some { kind := 3, size := 2, bytes := 40, z := [.string ⟨#[]⟩, .slice none 0 0], offs := [(0, 1), (1, 1)] } ∧ lk 218 tys = some { kind := 1, size := 1, bytes := 24, z := [.slice none 0 0], elem := 225 } ∧ lk 225 tys = some { kind := 3, size := 2, bytes := 16, z := [.int .i64 0, .int .i64 0], offs := [(0, 1), (1, 1)], eqs := [4, 4] } ∧ lk 231 tys = some { kind := 3, size := 3, bytes := 32, z := [.string ⟨#[]⟩, .int .i64 0, .int .i64 0], offs := [(0, 1), (1, 1), (2, 1)], eqs := [2, 4, 4] } ∧ lk 242 tys = some { kind := 4, size := 1, bytes := 4, z := [.int .u32 0], ik := some .u32 } := ⟨rfl, rfl, rfl, rfl, rfl, rfl, rfl, rfl, rfl, rfl, rfl, rfl, rfl, rfl, rfl, rfl, rfl, rfl, rfl, rfl, rfl, rfl, rfl, rfl, rfl, rfl, rfl, rfl, rfl, rfl, rfl, rfl, rfl, rfl, rfl, rfl, rfl, rfl, rfl, rfl, rfl, rfl, rfl, rfl, rfl, rfl, rfl, rfl, rfl, rfl, rfl, rfl, rfl, rfl, rfl, rfl, rfl, rfl, rfl, rfl, rfl, rfl⟩
end Go.Proofs.Ytdbjioanlkilkaa

namespace Go.Proofs.Ytdbjioanlkilkaa
open Go.Vc
attribute [local go_sem] St.runR St.runW St.stepV offV St.step St.stepU St.stepG mkCond guardB St.prK St.pr St.prLen St.eff St.callE St.callD St.callF St.callL aI aB aS aR aC St.isM St.argL Ctr.pure Ctr.lend Ctr.move Ctr.isL Ctr.wri pur len lentBy St.lentV St.lent1 nthS argsR restOf obsR pairs swapL unObs backL St.resL erL SV.ren1 SV.up SV.up2 Ob.up St.fzL cellIds partIds St.intoRow SV.ownId St.fz SV.fz1 St.prep St.mvL St.mv SV.re1 rnOk St.prEq vals eqCells scEq Value.kd St.prStr St.prCut cutR St.bnd St.prMin St.bld isShift outL retL outJ oR oC St.ev St.get St.put St.new St.kill SV.kill SV.kill1 Ob.kill St.app St.wrt St.rowsOf St.res St.killL lk er argsL SV.strip SV.need SV.share SV.share1 SV.owns SV.owns1 SV.owns2 SV.good SV.good1 SV.rok SV.rok1 SV.rok2 SV.isV SV.isV2 nodupN SV.cells SV.one SV.pur Ob.pb partsIn rowsIn splice cellsAt dstOk scal2 scal1 thenK blockK retK outK outs okC okL okA okT nilC nilL nilA nilT keepC keepL keepA keepT St.runG St.dltK St.least St.clean St.final St.hide offK badS badO SV.refs SV.leaf SV.leaf2 Ob.refs dlOk fpAt Go.Vc.cover tups SV.ofAgg St.out outC subL St.has rng wr Value.oneCell' Option.isSome_some Option.isSome_none List.nil_append Bool.false_eq_true List.map_cons List.map_nil List.all_cons List.all_nil List.length_cons List.length_nil List.drop_zero List.drop_succ_cons List.take_succ_cons List.take_zero List.drop_nil List.take_nil List.getElem?_cons_zero List.getElem?_cons_succ List.getElem?_nil List.cons_append List.nil_append List.append_nil List.append_assoc List.flatMap_cons List.flatMap_nil List.contains_cons List.contains_nil List.set_cons_zero List.set_cons_succ List.getElem?_toArray Option.getD_some Option.getD_none Option.map_some Option.map_none Option.bind_some Option.some.injEq Prod.mk.injEq if_true if_false true_and and_true and_self and_false false_and Bool.and_false Bool.false_and Bool.or_true Bool.true_or Bool.or_false Bool.false_or ne_eq not_true_eq_false not_false_eq_true decide_true decide_false List.mem_cons List.not_mem_nil List.filter_cons List.filter_nil List.any_cons List.any_nil List.isEmpty_nil List.isEmpty_cons Option.getD_none or_false false_or true_or or_true forall_eq_or_imp forall_eq reduceCtorEq exists_eq exists_eq' exists_eq_left' exists_eq_left exists_eq_right exists_eq_right' imp_self implies_true Bool.and_true Bool.true_and Bool.and_self beq_self_eq_true List.replicate_succ List.replicate_zero forall_const false_implies pickB_or pickB_and beqT beqF Int.toNat_natCast List.length_map List.length_replicate ge_iff_le gt_iff_lt decide_eq_true_eq decide_eq_false_iff_not Bool.and_eq_true Bool.or_eq_true Bool.not_eq_true' Bool.not_eq_false' condG List.toList_toArray Bool.or_eq_false_iff Bool.and_eq_false_iff Int.not_lt Int.not_le beq_iff_eq beq_eq_false_iff_ne bne_iff_ne bne_eq_false_iff_eq ne_eq Bool.not_true Bool.not_false exists_and_left
section
open Go.Vc
set_option linter.unusedSimpArgs false
set_option linter.unusedVariables false
set_option maxHeartbeats 1000000
attribute [local irreducible] Go.Vc.WP
noncomputable def cx0 : Cx := { P := Try.prog, tys := tys, C := [], hty := tysOk, hC := COk.nil _ }
theorem cx0_t : cx0.tys = tys := rfl
theorem cx0_c : cx0.C = [] := rfl
attribute [local go_sem] cx0_t cx0_c

def encI (x : Int) : List SV := [.v (.int .i64 x)]
theorem encI_inj {L M : List Int} : L.map encI = M.map encI ↔ L = M := by
  exact List.map_inj_right (fun a b h => by simpa [encI] using h)

def decI (rows : List (List SV)) : List Int := rows.map fun r => match r with
  | [.v (.int _ n)] => n
  | _ => 0
theorem decI_enc (L : List Int) : decI (L.map encI) = L := by
  unfold decI
  rw [List.map_map]
  exact List.map_id'' (fun _ => rfl) L
theorem encI_decI {L : List Int} : (decI (L.map encI)).map encI = L.map encI := by rw [decI_enc]

theorem isV_I {e s : Nat} (L : List Int) : (Ob.sl e s (L.map encI)).isV := by
  intro row hr c hc
  obtain ⟨n, _, rfl⟩ := List.mem_map.1 hr
  simp [encI] at hc
  exact ⟨_, hc⟩
theorem isV_It {e s : Nat} (L : List Int) : (Ob.sl e s (L.map encI)).isV ↔ True := iff_true_intro (isV_I L)
def k60 : Ctr := pur (fun args => (aI args 0, aI args 1, aI args 2)) (fun x => [.v (.int .i64 x.1), .v (.int .i64 x.2.1), .v (.int .i64 x.2.2)]) (fun _ => True)
  (fun _ x => .v (.bool (decide (x.2.1 ≤ x.1) && decide (x.1 ≤ x.2.2)))) (fun _ _ => [])
theorem c60 : Cn Try.prog 55 k60 := by
  refine Cn.pur Try.func55 (by kernel_rfl) rfl fun d x _ => ?_
  obtain ⟨n, lo, hi⟩ := x
  refine Holds.go (c := cx0) Try.func55 rfl Try.results55 Try.ntmps55 (by omega) (by simp) rfl ?_
  intro X0 w0
  (repeat' (first | refine WP.seq ?_ | refine WP.block ?_ | ((first | refine WP.region ?_ | refine WP.condW ?_ | refine WP.ret ?_ | refine WP.exit ?_ | refine WP.skip ?_); simp only [go_sem, tyAll, Nat.reduceAdd, Nat.reduceLT, Nat.reduceLeDiff, Nat.reduceEqDiff, Nat.reduceMul, Nat.reduceSub, Nat.reduceGT, reduceIte, Int.reduceNeg, Int.reduceToNat]) |  refine And.intro ?_ ?_ | intro _))
theorem c58 : Cn Try.prog 71 k60 := by
  refine Cn.pur Try.func71 (by kernel_rfl) rfl fun d x _ => ?_
  obtain ⟨n, lo, hi⟩ := x
  refine Holds.go (c := cx0) Try.func71 rfl Try.results71 Try.ntmps71 (by omega) (by simp) rfl ?_
  intro X0 w0
  (repeat' (first | refine WP.seq ?_ | refine WP.block ?_ | ((first | refine WP.region ?_ | refine WP.condW ?_ | refine WP.ret ?_ | refine WP.exit ?_ | refine WP.skip ?_); simp only [go_sem, tyAll, Nat.reduceAdd, Nat.reduceLT, Nat.reduceLeDiff, Nat.reduceEqDiff, Nat.reduceMul, Nat.reduceSub, Nat.reduceGT, reduceIte, Int.reduceNeg, Int.reduceToNat]) |  refine And.intro ?_ ?_ | intro _))

def k15 : Ctr := pur (fun args => decI (aR args 0)) (fun L => [.sl 1 (L.map encI)]) (fun L => L.length ≤ 2097152) (fun d _ => .own d) (fun d L => [(d, .sl 3 1 (L.map encI))])
theorem c15 : Cn Try.prog 10 k15 := by
  refine Cn.pur Try.func10 (by kernel_rfl) rfl fun d L hL => ?_
  refine Holds.go (c := cx0) Try.func10 rfl Try.results10 Try.ntmps10 (by omega) (by simp) rfl ?_
  intro X0 w0
  (repeat' (first | refine WP.seq ?_ | refine WP.block ?_ | ((first | refine WP.region ?_ | refine WP.condW ?_ | refine WP.ret ?_ | refine WP.exit ?_ | refine WP.skip ?_); simp only [go_sem, tyAll, Nat.reduceAdd, Nat.reduceLT, Nat.reduceLeDiff, Nat.reduceEqDiff, Nat.reduceMul, Nat.reduceSub, Nat.reduceGT, reduceIte, Int.reduceNeg, Int.reduceToNat]) |  refine And.intro ?_ ?_ | intro _))
  · omega
  · omega
  · omega
  refine WP.loop (fun k : Nat => ⟨[(0, .sl 1 (L.map encI)), (3, .own 7), (4, .v (.int .i64 k))], [(7, .sl 3 1 (filled encI [.v (.int .i64 0)] L k))]⟩) (fun k => k ≤ L.length) (fun k => L.length - k) 0 (by omega) ?_ ?_
  · rw [filled_zero]; simp only [go_sem, tyAll, Nat.reduceAdd, Nat.reduceLT, Nat.reduceLeDiff, Nat.reduceEqDiff, Nat.reduceMul, Nat.reduceSub, Nat.reduceGT, reduceIte, Int.reduceNeg, Int.reduceToNat]; rfl
  intro k hk
  by_cases hlt : k < L.length
  · have h1 := rowAt_map encI L k hlt
    have h2 := filled_len encI [.v (.int .i64 0)] L k hk
    have h3 := filled_row encI [.v (.int .i64 0)] L k hlt
    have h4 := filled_set encI [.v (.int .i64 0)] L k hlt
    rw [encI] at h4
    (repeat' (first | refine WP.seq ?_ | refine WP.block ?_ | ((first | refine WP.region ?_ | refine WP.condW ?_ | refine WP.ret ?_ | refine WP.exit ?_ | refine WP.skip ?_); simp only [go_sem, h1, h2, h3, h4, encI, tyAll, Nat.reduceAdd, Nat.reduceLT, Nat.reduceLeDiff, Nat.reduceEqDiff, Nat.reduceMul, Nat.reduceSub, Nat.reduceGT, reduceIte, Int.reduceNeg, Int.reduceToNat]) |  refine And.intro ?_ ?_ | intro _))
    all_goals first | omega | skip
    exact ⟨k + 1, by omega, by omega, rfl, rfl⟩
  · have h2 := filled_len encI [.v (.int .i64 0)] L k hk
    have h5 : filled encI [.v (.int .i64 0)] L k = L.map encI := by rw [show k = L.length by omega]; exact filled_all _ _ _
    (repeat' (first | refine WP.seq ?_ | refine WP.block ?_ | ((first | refine WP.region ?_ | refine WP.condW ?_ | refine WP.ret ?_ | refine WP.exit ?_ | refine WP.skip ?_); simp only [go_sem, h2, h5, tyAll, Nat.reduceAdd, Nat.reduceLT, Nat.reduceLeDiff, Nat.reduceEqDiff, Nat.reduceMul, Nat.reduceSub, Nat.reduceGT, reduceIte, Int.reduceNeg, Int.reduceToNat]) |  refine And.intro ?_ ?_ | intro _))
    all_goals first | omega | skip

def k17 : Ctr := pur (fun args => (decI (aR args 0), decI (aR args 1))) (fun x => [.sl 1 (x.1.map encI), .sl 1 (x.2.map encI)]) (fun x => x.1.length ≤ 4398046511104) (fun _ x => .v (.bool (decide (x.1 = x.2)))) (fun _ _ => [])
theorem c17 : Cn Try.prog 14 k17 := by
  refine Cn.pur Try.func14 (by kernel_rfl) rfl fun d x hL => ?_
  obtain ⟨L, M⟩ := x
  simp only at hL ⊢
  refine Holds.go (c := cx0) Try.func14 rfl Try.results14 Try.ntmps14 (by omega) (by simp) rfl ?_
  intro X0 w0
  (repeat' (first | refine WP.seq ?_ | refine WP.block ?_ | ((first | refine WP.region ?_ | refine WP.condW ?_ | refine WP.ret ?_ | refine WP.exit ?_ | refine WP.skip ?_); simp only [go_sem, tyAll, Nat.reduceAdd, Nat.reduceLT, Nat.reduceLeDiff, Nat.reduceEqDiff, Nat.reduceMul, Nat.reduceSub, Nat.reduceGT, reduceIte, Int.reduceNeg, Int.reduceToNat]) |  refine And.intro ?_ ?_ | intro _))
  · simp; intro h; subst h; simp_all
  have hlen : L.length = M.length := by omega
  refine WP.loop (fun k : Nat => ⟨[(0, .sl 1 (L.map encI)), (1, .sl 1 (M.map encI)), (5, .v (.int .i64 k))], []⟩) (fun k => k ≤ L.length ∧ L.take k = M.take k) (fun k => L.length - k) 0 (by simp) ?_ ?_
  · simp only [go_sem, tyAll, Nat.reduceAdd, Nat.reduceLT, Nat.reduceLeDiff, Nat.reduceEqDiff, Nat.reduceMul, Nat.reduceSub, Nat.reduceGT, reduceIte, Int.reduceNeg, Int.reduceToNat]; rfl
  intro k ⟨hk, ht⟩
  by_cases hlt : k < L.length
  · have h1 := rowAt_map encI L k hlt
    have h2 := rowAt_map encI M k (by omega)
    (repeat' (first | refine WP.seq ?_ | refine WP.block ?_ | ((first | refine WP.region ?_ | refine WP.condW ?_ | refine WP.ret ?_ | refine WP.exit ?_ | refine WP.skip ?_); simp only [go_sem, h1, h2, encI, tyAll, Nat.reduceAdd, Nat.reduceLT, Nat.reduceLeDiff, Nat.reduceEqDiff, Nat.reduceMul, Nat.reduceSub, Nat.reduceGT, reduceIte, Int.reduceNeg, Int.reduceToNat]) | (refine WP.drawW 9 (by kernel_rfl) (by kernel_rfl) ?_; simp only [go_sem, h1, h2, encI, tyAll, Nat.reduceAdd, Nat.reduceLT, Nat.reduceLeDiff, Nat.reduceEqDiff, Nat.reduceMul, Nat.reduceSub, Nat.reduceGT, reduceIte, Int.reduceNeg, Int.reduceToNat]) |  refine And.intro ?_ ?_ | intro _))
    all_goals first | omega | skip
    · rename_i hne
      rw [show decide (L = M) = false from decide_eq_false fun e => by subst e; exact hne rfl]
    · rename_i he
      refine ⟨k + 1, ⟨by omega, ?_⟩, by omega, rfl⟩
      rw [List.take_succ_eq_append_getElem hlt, List.take_succ_eq_append_getElem (by omega : k < M.length), ht, he]
  · (repeat' (first | refine WP.seq ?_ | refine WP.block ?_ | ((first | refine WP.region ?_ | refine WP.condW ?_ | refine WP.ret ?_ | refine WP.exit ?_ | refine WP.skip ?_); simp only [go_sem, tyAll, Nat.reduceAdd, Nat.reduceLT, Nat.reduceLeDiff, Nat.reduceEqDiff, Nat.reduceMul, Nat.reduceSub, Nat.reduceGT, reduceIte, Int.reduceNeg, Int.reduceToNat]) |  refine And.intro ?_ ?_ | intro _))
    all_goals first | omega | skip
    rw [show decide (L = M) = true from decide_eq_true ?_]
    rw [show k = L.length by omega, List.take_length, hlen, List.take_length] at ht
    exact ht

def marksI (k : Int) (n : Nat) : List Int := (List.range n).map fun i : Nat => k + (i : Int)
theorem marksI_len (k : Int) (n : Nat) : (marksI k n).length = n := by simp [marksI]
theorem marksI_get (k : Int) (n i : Nat) (h : i < (marksI k n).length) : (marksI k n)[i] = k + i := by simp [marksI]
/-- the first k of them replaced -/
def halfI (L : List Int) (k0 : Int) (k : Nat) : List Int := marksI k0 k ++ L.drop k
theorem halfI_len (L : List Int) (k0 : Int) (k : Nat) (h : k ≤ L.length) : (halfI L k0 k).length = L.length := by simp [halfI, marksI_len]; omega
theorem halfI_set (L : List Int) (k0 : Int) (k : Nat) (h : k < L.length) : ((halfI L k0 k).map encI).set k (encI (k0 + k)) = (halfI L k0 (k + 1)).map encI := by
  rw [← List.map_set]
  congr 1
  unfold halfI
  rw [List.set_append, if_neg (by simp [marksI_len]), marksI_len, Nat.sub_self, List.drop_eq_getElem_cons h, List.set_cons_zero]
  simp [marksI, List.range_succ]

def k18 : Ctr := len [0] [] (fun args obs => (decI (oR obs 1000000), aI args 1)) (fun x => [.own 1000000, .v (.int .i64 x.2)]) (fun x => [(1000000, .sl 3 1 (x.1.map encI))]) (fun x => x.1.length ≤ 4398046511104 ∧ 0 ≤ x.2 ∧ x.2 ≤ 500000000000000)
  (fun _ x => .v (.int .i64 (x.2 + x.1.length))) (fun _ _ => []) (fun x => [(1000000, .sl 3 1 ((marksI x.2 x.1.length).map encI))])
theorem c18 : Cn Try.prog 16 k18 := by
  refine Cn.len Try.func16 (by kernel_rfl) rfl fun d x hd h => ?_
  obtain ⟨L, k0⟩ := x
  obtain ⟨hL, h0, h1⟩ := h
  simp only at hL h0 h1 ⊢
  refine HoldsL.go (c := cx0) Try.func16 rfl Try.results16 Try.ntmps16 (by omega) (by simp) rfl (by simp) (by simp [SV.owns2, SV.owns, SV.owns1]) (by simp) rfl rfl (by simp) ?_
  intro X0 M w0
  (repeat' (first | refine WP.seq ?_ | refine WP.block ?_ | ((first | refine WP.region ?_ | refine WP.condW ?_ | refine WP.ret ?_ | refine WP.exit ?_ | refine WP.skip ?_); simp only [go_sem, tyAll, Nat.reduceAdd, Nat.reduceLT, Nat.reduceLeDiff, Nat.reduceEqDiff, Nat.reduceMul, Nat.reduceSub, Nat.reduceGT, reduceIte, Int.reduceNeg, Int.reduceToNat]) |  refine And.intro ?_ ?_ | intro _))
  refine WP.loop (fun k : Nat => ⟨[(0, .own 1000000), (1, .v (.int .i64 (k0 + k))), (5, .v (.int .i64 k))], [(1000000, .sl 3 1 ((halfI L k0 k).map encI))]⟩) (fun k => k ≤ L.length) (fun k => L.length - k) 0 (by omega) ?_ ?_
  · have e : halfI L k0 0 = L := by simp [halfI, marksI]
    rw [e]; simp only [go_sem, tyAll, Nat.reduceAdd, Nat.reduceLT, Nat.reduceLeDiff, Nat.reduceEqDiff, Nat.reduceMul, Nat.reduceSub, Nat.reduceGT, reduceIte, Int.reduceNeg, Int.reduceToNat]; simp
  intro k hk
  have h2 := halfI_len L k0 k hk
  by_cases hlt : k < L.length
  · have h3 := halfI_set L k0 k hlt
    rw [encI] at h3
    have h4 := rowAt_map encI (halfI L k0 k) k (by omega)
    (repeat' (first | refine WP.seq ?_ | refine WP.block ?_ | ((first | refine WP.region ?_ | refine WP.condW ?_ | refine WP.ret ?_ | refine WP.exit ?_ | refine WP.skip ?_); simp only [go_sem, h2, h3, h4, encI, tyAll, Nat.reduceAdd, Nat.reduceLT, Nat.reduceLeDiff, Nat.reduceEqDiff, Nat.reduceMul, Nat.reduceSub, Nat.reduceGT, reduceIte, Int.reduceNeg, Int.reduceToNat]) |  refine And.intro ?_ ?_ | intro _))
    all_goals first | omega | skip
    refine ⟨k + 1, by omega, by omega, ⟨?_, rfl⟩, rfl⟩
    rw [show k0 + (k : Int) + 1 = k0 + ((k + 1 : Nat) : Int) by omega]
  · have h5 : halfI L k0 k = marksI k0 L.length := by rw [show k = L.length by omega]; simp [halfI]
    have h6 := marksI_len k0 L.length
    (repeat' (first | refine WP.seq ?_ | refine WP.block ?_ | ((first | refine WP.region ?_ | refine WP.condW ?_ | refine WP.ret ?_ | refine WP.exit ?_ | refine WP.skip ?_); simp only [go_sem, h2, h5, h6, tyAll, Nat.reduceAdd, Nat.reduceLT, Nat.reduceLeDiff, Nat.reduceEqDiff, Nat.reduceMul, Nat.reduceSub, Nat.reduceGT, reduceIte, Int.reduceNeg, Int.reduceToNat]) |  refine And.intro ?_ ?_ | intro _))
    all_goals first | omega | skip
    rw [show k = L.length by omega]
def k19 : Ctr := pur (fun args => (decI (aR args 0), aI args 1)) (fun x => [.sl 1 (x.1.map encI), .v (.int .i64 x.2)]) (fun x => x.1.length ≤ 4398046511104 ∧ 0 ≤ x.2 ∧ x.2 ≤ 500000000000000)
  (fun _ x => .v (.int .i64 (if x.1 = marksI x.2 x.1.length then x.2 + x.1.length else -1))) (fun _ _ => [])
theorem c19 : Cn Try.prog 65 k19 := by
  refine Cn.pur Try.func65 (by kernel_rfl) rfl fun d x h => ?_
  obtain ⟨L, k0⟩ := x
  obtain ⟨hL, h0, h1⟩ := h
  simp only at hL h0 h1 ⊢
  refine Holds.go (c := cx0) Try.func65 rfl Try.results65 Try.ntmps65 (by omega) (by simp) rfl ?_
  intro X0 w0
  (repeat' (first | refine WP.seq ?_ | refine WP.block ?_ | ((first | refine WP.region ?_ | refine WP.condW ?_ | refine WP.ret ?_ | refine WP.exit ?_ | refine WP.skip ?_); simp only [go_sem, tyAll, Nat.reduceAdd, Nat.reduceLT, Nat.reduceLeDiff, Nat.reduceEqDiff, Nat.reduceMul, Nat.reduceSub, Nat.reduceGT, reduceIte, Int.reduceNeg, Int.reduceToNat]) |  refine And.intro ?_ ?_ | intro _))
  refine WP.loop (fun k : Nat => ⟨[(0, .sl 1 (L.map encI)), (1, .v (.int .i64 (k0 + k))), (5, .v (.int .i64 k))], []⟩) (fun k => k ≤ L.length ∧ L.take k = marksI k0 k) (fun k => L.length - k) 0 (by simp [marksI]) ?_ ?_
  · simp only [go_sem, tyAll, Nat.reduceAdd, Nat.reduceLT, Nat.reduceLeDiff, Nat.reduceEqDiff, Nat.reduceMul, Nat.reduceSub, Nat.reduceGT, reduceIte, Int.reduceNeg, Int.reduceToNat]; simp
  intro k ⟨hk, ht⟩
  by_cases hlt : k < L.length
  · have h3 := rowAt_map encI L k hlt
    (repeat' (first | refine WP.seq ?_ | refine WP.block ?_ | ((first | refine WP.region ?_ | refine WP.condW ?_ | refine WP.ret ?_ | refine WP.exit ?_ | refine WP.skip ?_); simp only [go_sem, h3, encI, tyAll, Nat.reduceAdd, Nat.reduceLT, Nat.reduceLeDiff, Nat.reduceEqDiff, Nat.reduceMul, Nat.reduceSub, Nat.reduceGT, reduceIte, Int.reduceNeg, Int.reduceToNat]) |  refine And.intro ?_ ?_ | intro _))
    all_goals first | omega | skip
    · rename_i hne
      rw [if_neg]
      intro e
      apply hne
      have : L[k] = (marksI k0 L.length)[k]'(by rw [marksI_len]; exact hlt) := by congr 1
      rw [this, marksI_get]
    · rename_i he
      refine ⟨k + 1, ⟨by omega, ?_⟩, by omega, ?_, rfl⟩
      · rw [List.take_succ_eq_append_getElem hlt, ht, he]; simp [marksI, List.range_succ]
      · rw [show k0 + (k : Int) + 1 = k0 + ((k + 1 : Nat) : Int) by omega]
  · (repeat' (first | refine WP.seq ?_ | refine WP.block ?_ | ((first | refine WP.region ?_ | refine WP.condW ?_ | refine WP.ret ?_ | refine WP.exit ?_ | refine WP.skip ?_); simp only [go_sem, tyAll, Nat.reduceAdd, Nat.reduceLT, Nat.reduceLeDiff, Nat.reduceEqDiff, Nat.reduceMul, Nat.reduceSub, Nat.reduceGT, reduceIte, Int.reduceNeg, Int.reduceToNat]) |  refine And.intro ?_ ?_ | intro _))
    all_goals first | omega | skip
    rw [show k = L.length by omega, List.take_length] at ht
    rw [if_pos ht, show k = L.length by omega]
end
end Go.Proofs.Ytdbjioanlkilkaa
/-
  DERIVED. Plain lists: the first place where something holds.
-/
namespace Go.Proofs.Ytdbjioanlkilkaa
set_option linter.unusedVariables false
def firstIdx {α : Type} (p : α → Bool) (L : List α) : Int := match L.findIdx? p with
  | some i => (i : Int)
  | none => -1
theorem firstIdx_hit {α : Type} {p : α → Bool} {L : List α} {k : Nat} (hk : k < L.length) (h : ∀ i (hi : i < L.length), i < k → p L[i] = false) (hp : p L[k] = true) : firstIdx p L = k := by
  unfold firstIdx
  have : L.findIdx? p = some k := by
    rw [List.findIdx?_eq_some_iff_getElem]
    exact ⟨hk, hp, fun j hj => by simp [h j (by omega) hj]⟩
  rw [this]
theorem firstIdx_none {α : Type} {p : α → Bool} {L : List α} (h : ∀ i (hi : i < L.length), p L[i] = false) : firstIdx p L = -1 := by
  unfold firstIdx
  have : L.findIdx? p = none := by
    rw [List.findIdx?_eq_none_iff]
    intro x hx
    obtain ⟨i, hi, rfl⟩ := List.mem_iff_getElem.1 hx
    exact h i hi
  rw [this]

/-- what is left of a measure behind a list of sizes -/
def szGo : List Nat → Int → Int
  | [], r => r
  | n :: l, r => if r - n < 0 then -1 else szGo l (r - n)
theorem szGo_drop (L : List Nat) (k : Nat) (r : Int) (h : k < L.length) : szGo (L.drop k) r = if r - (L[k] : Int) < 0 then -1 else szGo (L.drop (k + 1)) (r - (L[k] : Int)) := by
  rw [List.drop_eq_getElem_cons h]; rfl
theorem szGo_ok : ∀ (L : List Nat) (r : Int), 0 ≤ r → 0 ≤ szGo L r → ∀ n ∈ L, (n : Int) ≤ r
  | [], _, _, _, n, hn => by cases hn
  | m :: l, r, h0, h, n, hn => by
    unfold szGo at h
    split at h
    · omega
    · rename_i h2
      rcases List.mem_cons.1 hn with rfl | hn
      · omega
      · have := szGo_ok l (r - m) (by omega) h n hn
        omega
/-! what a function value has captured -/
open Go.Vc in
def capS (args : List SV) (i : Nat) : ByteArray := match args[i]? with
  | some (.rptr _ [[.v (.string s)]] _ _) => s
  | some (.fn _ [.rptr _ [[.v (.string s)]] _ _]) => s
  | _ => ⟨#[]⟩
open Go.Vc in
def capI (args : List SV) (i : Nat) : Int := match args[i]? with
  | some (.rptr _ [[.v (.int .i64 n)]] _ _) => n
  | some (.fn _ [.rptr _ [[.v (.int .i64 n)]] _ _]) => n
  | _ => 0
end Go.Proofs.Ytdbjioanlkilkaa

namespace Go.Proofs.Ytdbjioanlkilkaa
open Go.Vc
attribute [local go_sem] St.runR St.runW St.stepV offV St.step St.stepU St.stepG mkCond guardB St.prK St.pr St.prLen St.eff St.callE St.callD St.callF St.callL aI aB aS aR aC St.isM St.argL Ctr.pure Ctr.lend Ctr.move Ctr.isL Ctr.wri pur len lentBy St.lentV St.lent1 nthS argsR restOf obsR pairs swapL unObs backL St.resL erL SV.ren1 SV.up SV.up2 Ob.up St.fzL cellIds partIds St.intoRow SV.ownId St.fz SV.fz1 St.prep St.mvL St.mv SV.re1 rnOk St.prEq vals eqCells scEq Value.kd St.prStr St.prCut cutR St.bnd St.prMin St.bld isShift outL retL outJ oR oC St.ev St.get St.put St.new St.kill SV.kill SV.kill1 Ob.kill St.app St.wrt St.rowsOf St.res St.killL lk er argsL SV.strip SV.need SV.share SV.share1 SV.owns SV.owns1 SV.owns2 SV.good SV.good1 SV.rok SV.rok1 SV.rok2 SV.isV SV.isV2 nodupN SV.cells SV.one SV.pur Ob.pb partsIn rowsIn splice cellsAt dstOk scal2 scal1 thenK blockK retK outK outs okC okL okA okT nilC nilL nilA nilT keepC keepL keepA keepT St.runG St.dltK St.least St.clean St.final St.hide offK badS badO SV.refs SV.leaf SV.leaf2 Ob.refs dlOk fpAt Go.Vc.cover tups SV.ofAgg St.out outC subL St.has rng wr Value.oneCell' Option.isSome_some Option.isSome_none List.nil_append Bool.false_eq_true List.map_cons List.map_nil List.all_cons List.all_nil List.length_cons List.length_nil List.drop_zero List.drop_succ_cons List.take_succ_cons List.take_zero List.drop_nil List.take_nil List.getElem?_cons_zero List.getElem?_cons_succ List.getElem?_nil List.cons_append List.nil_append List.append_nil List.append_assoc List.flatMap_cons List.flatMap_nil List.contains_cons List.contains_nil List.set_cons_zero List.set_cons_succ List.getElem?_toArray Option.getD_some Option.getD_none Option.map_some Option.map_none Option.bind_some Option.some.injEq Prod.mk.injEq if_true if_false true_and and_true and_self and_false false_and Bool.and_false Bool.false_and Bool.or_true Bool.true_or Bool.or_false Bool.false_or ne_eq not_true_eq_false not_false_eq_true decide_true decide_false List.mem_cons List.not_mem_nil List.filter_cons List.filter_nil List.any_cons List.any_nil List.isEmpty_nil List.isEmpty_cons Option.getD_none or_false false_or true_or or_true forall_eq_or_imp forall_eq reduceCtorEq exists_eq exists_eq' exists_eq_left' exists_eq_left exists_eq_right exists_eq_right' imp_self implies_true Bool.and_true Bool.true_and Bool.and_self beq_self_eq_true List.replicate_succ List.replicate_zero forall_const false_implies pickB_or pickB_and beqT beqF Int.toNat_natCast List.length_map List.length_replicate ge_iff_le gt_iff_lt decide_eq_true_eq decide_eq_false_iff_not Bool.and_eq_true Bool.or_eq_true Bool.not_eq_true' Bool.not_eq_false' condG List.toList_toArray Bool.or_eq_false_iff Bool.and_eq_false_iff Int.not_lt Int.not_le beq_iff_eq beq_eq_false_iff_ne bne_iff_ne bne_eq_false_iff_eq ne_eq Bool.not_true Bool.not_false exists_and_left
section
open Go.Vc
set_option linter.unusedSimpArgs false
set_option linter.unusedVariables false
set_option maxHeartbeats 1000000
set_option maxRecDepth 10000
attribute [local irreducible] Go.Vc.WP
attribute [local go_sem] cx0_t cx0_c
theorem rowAt_set (rows : List (List SV)) (i : Nat) (r : List SV) (h : i < rows.length) : Go.Vc.rowAt (rows.set i r) i = r := by
  unfold Go.Vc.rowAt
  rw [List.getElem?_set_self h]; rfl
theorem lt_ediv (k : Int) (h : 0 < k) : k / 10 < k := by omega
/-- the decimal digits of a number above 0 -/
def decB : Nat → List UInt8
  | 0 => []
  | k + 1 => decB ((k + 1) / 10) ++ [UInt8.ofNat (48 + (k + 1) % 10)]
decreasing_by omega
theorem decB_pos (k : Nat) (h : 0 < k) : decB k = decB (k / 10) ++ [UInt8.ofNat (48 + k % 10)] := by
  cases k with
  | zero => omega
  | succ k => rw [decB]
theorem decB_len : ∀ (n k : Nat), k < 10 ^ n → (decB k).length ≤ n
  | 0, k, h => by have : k = 0 := by simpa using h
                  subst this; simp [decB]
  | n + 1, k, h => by
    rcases Nat.eq_zero_or_pos k with h0 | h0
    · subst h0; simp [decB]
    · rw [decB_pos k h0, List.length_append]
      have := decB_len n (k / 10) (by rw [Nat.pow_succ] at h; omega)
      simp only [List.length_cons, List.length_nil]; omega
def bts (l : List UInt8) : ByteArray := ⟨l.toArray⟩
def markT (k : Int) : ByteArray := if k ≤ 0 then ⟨#[109, 48]⟩ else ⟨#[109]⟩ ++ bts (decB k.toNat)
theorem bts_append (a b : List UInt8) : bts a ++ bts b = bts (a ++ b) := by
  unfold bts
  apply ByteArray.ext
  simp
theorem bts_size (a : List UInt8) : (bts a).size = a.length := by simp [bts, ByteArray.size]
theorem strOf_one (n : Int) (h0 : 0 ≤ n) (h1 : n ≤ 9) : strOf [[.v (.int .u8 (48 + n))]] = bts [UInt8.ofNat (48 + n.toNat)] := by
  have e : (48 + n).toNat = 48 + n.toNat := by omega
  have e2 : Go.Vc.byteOf [.v (.int .u8 (48 + n))] = UInt8.ofNat (48 + n.toNat) := by show UInt8.ofNat (48 + n).toNat = _; rw [e]
  unfold strOf bts
  rw [List.map_cons, List.map_nil, e2]
def kmarkT : Ctr := pur (fun args => aI args 0) (fun k => [.v (.int .i64 k)]) (fun k => k ≤ 1000000000000000) (fun _ k => .v (.string (markT k))) (fun _ _ => [])
theorem cmarkT : Cn Try.prog 46 kmarkT := by
  refine Cn.pur Try.func46 (by kernel_rfl) rfl fun d x hx => ?_
  refine Holds.go (c := cx0) Try.func46 rfl Try.results46 Try.ntmps46 (by omega) (by simp) rfl ?_
  intro X0 w0
  (repeat' (first | refine WP.seq ?_ | refine WP.block ?_ | ((first | refine WP.region ?_ | refine WP.condW ?_ | refine WP.ret ?_ | refine WP.exit ?_ | refine WP.skip ?_); simp only [go_sem, tyAll, Nat.reduceAdd, Nat.reduceLT, Nat.reduceLeDiff, Nat.reduceEqDiff, Nat.reduceMul, Nat.reduceSub, Nat.reduceGT, reduceIte, Int.reduceNeg, Int.reduceToNat]) |  refine And.intro ?_ ?_ | intro _))
  all_goals first | omega | skip
  · rename_i h; simp [markT, h]
  rename_i h
  refine WP.loop (fun s : Nat × List UInt8 => ⟨[(0, .v (.int .i64 (s.1 : Int))), (3, .v (.string (bts s.2)))], []⟩) (fun s => decB s.1 ++ s.2 = decB x.toNat ∧ s.2.length ≤ 20 ∧ s.1 < 10000000000000000) (fun s => s.1) (x.toNat, []) ⟨by simp, by simp, by simp only; omega⟩ ?_ ?_
  · have : (x.toNat : Int) = x := by omega
    simp only [go_sem, this, tyAll, Nat.reduceAdd, Nat.reduceLT, Nat.reduceLeDiff, Nat.reduceEqDiff, Nat.reduceMul, Nat.reduceSub, Nat.reduceGT, reduceIte, Int.reduceNeg, Int.reduceToNat]; (first | rfl | exact ⟨rfl, rfl⟩ | exact ⟨rfl, rfl, rfl⟩ | exact ⟨rfl, rfl, rfl, rfl⟩ | exact ⟨rfl, rfl, rfl, rfl, rfl⟩ | exact ⟨⟨rfl, rfl⟩, rfl⟩ | simp)
  rintro ⟨k, out⟩ ⟨hk, hl, hb⟩
  simp only at hk hl hb ⊢
  have hlx : (decB x.toNat).length ≤ 16 := decB_len 16 _ (by omega)
  have hlk : out.length ≤ 16 := by rw [← hk, List.length_append] at hlx; omega
  by_cases hpos : 0 < k
  · have hm : (k : Int).tmod 10 = ((k % 10 : Nat) : Int) := by rw [Int.tmod_eq_emod_of_nonneg (by omega)]; omega
    have hd : (k : Int).tdiv 10 = ((k / 10 : Nat) : Int) := by rw [Int.tdiv_eq_ediv_of_nonneg (by omega)]; omega
    have hw : IntKind.u8.wrap (48 + ((k % 10 : Nat) : Int)) = 48 + ((k % 10 : Nat) : Int) := by
      have : k % 10 < 10 := Nat.mod_lt _ (by omega)
      simp only [IntKind.wrap, IntKind.bits, IntKind.signed, Bool.false_and, Bool.false_eq_true, if_false]
      omega
    have hs := strOf_one ((k % 10 : Nat) : Int) (by omega) (by omega)
    have hc := bts_append [UInt8.ofNat (48 + k % 10)] out
    have hz := bts_size [UInt8.ofNat (48 + k % 10)]
    have hz2 := bts_size out
    rw [Int.toNat_natCast] at hs
    (repeat' (first | refine WP.seq ?_ | refine WP.block ?_ | ((first | refine WP.region ?_ | refine WP.condW ?_ | refine WP.ret ?_ | refine WP.exit ?_ | refine WP.skip ?_); simp only [go_sem, hm, hd, hw, hs, hc, hz, hz2, tyAll, Nat.reduceAdd, Nat.reduceLT, Nat.reduceLeDiff, Nat.reduceEqDiff, Nat.reduceMul, Nat.reduceSub, Nat.reduceGT, reduceIte, Int.reduceNeg, Int.reduceToNat]) |  refine And.intro ?_ ?_ | intro _))
    all_goals first | omega | skip
    · exact ⟨_, rfl⟩
    · refine ⟨(k / 10, UInt8.ofNat (48 + k % 10) :: out), ⟨?_, by simp only [List.length_cons]; omega, by simp only; omega⟩, by simp only; omega, rfl, rfl⟩
      simp only
      rw [← hk, decB_pos k hpos, List.append_assoc]; rfl
  · have hk0 : k = 0 := by omega
    subst hk0
    have hout : out = decB x.toNat := by rw [← hk]; simp [decB]
    have hz2 := bts_size out
    have hz3 : ByteArray.size ⟨#[109]⟩ = 1 := rfl
    (repeat' (first | refine WP.seq ?_ | refine WP.block ?_ | ((first | refine WP.region ?_ | refine WP.condW ?_ | refine WP.ret ?_ | refine WP.exit ?_ | refine WP.skip ?_); simp only [go_sem, hz2, hz3, tyAll, Nat.reduceAdd, Nat.reduceLT, Nat.reduceLeDiff, Nat.reduceEqDiff, Nat.reduceMul, Nat.reduceSub, Nat.reduceGT, reduceIte, Int.reduceNeg, Int.reduceToNat]) |  refine And.intro ?_ ?_ | intro _))
    all_goals first | omega | skip
    rw [markT, if_neg (by omega), hout]
theorem markT_size (k : Int) (h : k ≤ 1000000000000000) : (markT k).size ≤ 17 := by
  unfold markT
  split
  · decide
  · have h1 := decB_len 16 k.toNat (by omega)
    have h2 : ByteArray.size ⟨#[109]⟩ = 1 := rfl
    rw [ByteArray.size_append, bts_size, h2]
    omega

/-! ## lists of strings -/
def encS (x : ByteArray) : List SV := [.v (.string x)]
def oneS : List SV → ByteArray
  | [.v (.string n)] => n
  | _ => ⟨#[]⟩
def decS (rows : List (List SV)) : List ByteArray := rows.map oneS
theorem oneS_enc (x : ByteArray) : oneS (encS x) = x := rfl
theorem decS_enc (L : List ByteArray) : decS (L.map encS) = L := by
  unfold decS
  rw [List.map_map]
  exact List.map_id'' oneS_enc L
theorem isV_S {e s : Nat} (L : List ByteArray) : (Ob.sl e s (L.map encS)).isV ↔ True := iff_true_intro (by
  intro row hr c hc
  obtain ⟨n, _, rfl⟩ := List.mem_map.1 hr
  simp [encS] at hc
  exact ⟨_, hc⟩)
end
end Go.Proofs.Ytdbjioanlkilkaa
/-
  DERIVED. Plain: instructions: how wide an argument is, how an instruction is read from bytes, what bytes hold.
-/
namespace Go.Proofs.Ytdbjioanlkilkaa
set_option linter.unusedVariables false
set_option linter.unusedSimpArgs false
open Go.Pl Go.Vc
def argW (c : Int) : Int × Bool :=
  if c = 0 then (4, true) else if c = 1 ∨ c = 2 ∨ c = 3 ∨ c = 4 ∨ c = 10 ∨ c = 11 then (2, true) else if c = 16 then (2, false) else if c = 12 ∨ c = 13 ∨ c = 14 ∨ c = 15 then (1, false) else (0, false)
theorem argW_bd (c : Int) : 0 ≤ (argW c).1 ∧ (argW c).1 ≤ 4 ∧ (argW c).1 ≠ 3 ∧ ((argW c).2 = true → 2 ≤ (argW c).1) := by
  unfold argW
  split
  · simp
  · split
    · simp
    · split
      · simp
      · split <;> simp
def opSize (c : Int) : Int := if 0 ≤ c ∧ c ≤ 17 then (argW c).1 + 1 else 0
theorem opSize_bd (c : Int) : 0 ≤ opSize c ∧ opSize c ≤ 5 := by
  have := argW_bd c
  unfold opSize
  split <;> omega
/-- the byte at a place -/
def byt (s : ByteArray) (k : Nat) : Int := ((s[k]!).toNat : Int)
theorem byt_bd (s : ByteArray) (k : Nat) : 0 ≤ byt s k ∧ byt s k ≤ 255 := by
  unfold byt
  have := (s[k]!).toNat_lt
  omega
/-- k bytes behind a place, least first -/
def leI (s : ByteArray) (at_ : Nat) : Nat → Int
  | 0 => 0
  | k + 1 => leI s at_ k + byt s (at_ + 1 + k) * 2 ^ (8 * k)
theorem leI_bd (s : ByteArray) (at_ : Nat) : ∀ k, 0 ≤ leI s at_ k ∧ leI s at_ k < 2 ^ (8 * k)
  | 0 => by simp [leI]
  | k + 1 => by
    have ih := leI_bd s at_ k
    have hb := byt_bd s (at_ + 1 + k)
    have hp : (0 : Int) < 2 ^ (8 * k) := Int.pow_pos (by omega)
    have e : (2 : Int) ^ (8 * (k + 1)) = 256 * 2 ^ (8 * k) := by
      rw [show 8 * (k + 1) = 8 * k + 8 by omega, Int.pow_add]; omega
    have h1 : 0 ≤ byt s (at_ + 1 + k) * 2 ^ (8 * k) := Int.mul_nonneg hb.1 (by omega)
    have h2 : byt s (at_ + 1 + k) * 2 ^ (8 * k) ≤ 255 * 2 ^ (8 * k) := Int.mul_le_mul_of_nonneg_right hb.2 (by omega)
    rw [leI, e]
    omega
theorem shL8 {c : Int} (h0 : 0 ≤ c) (h1 : c ≤ 255) {k : Nat} (hk : k ≤ 3) : shL .i64 c (8 * (k : Int)) = c * 2 ^ (8 * k) := by
  unfold shL
  have e : min (8 * (k : Int)).toNat IntKind.i64.bits = 8 * k := by
    show min (8 * (k : Int)).toNat 64 = 8 * k
    omega
  rw [e]
  have hp : (2 : Int) ^ (8 * k) ≤ 2 ^ 24 := by
    match k, hk with
    | 0, _ => decide
    | 1, _ => decide
    | 2, _ => decide
    | 3, _ => decide
  have hp0 : (0 : Int) < 2 ^ (8 * k) := Int.pow_pos (by omega)
  have h2 : c * 2 ^ (8 * k) ≤ 255 * 2 ^ (8 * k) := Int.mul_le_mul_of_nonneg_right h1 (by omega)
  have h3 : 0 ≤ c * 2 ^ (8 * k) := Int.mul_nonneg h0 (by omega)
  exact IntWalk.i64_in _ ⟨by omega, by omega⟩
theorem or8 {a c : Int} {k : Nat} (hk : k ≤ 3) (a0 : 0 ≤ a) (a1 : a < 2 ^ (8 * k)) (h0 : 0 ≤ c) (h1 : c ≤ 255) : bitOr .i64 a (c * 2 ^ (8 * k)) = a + c * 2 ^ (8 * k) := by
  obtain ⟨x, rfl⟩ := Int.eq_ofNat_of_zero_le a0
  obtain ⟨y, rfl⟩ := Int.eq_ofNat_of_zero_le h0
  have hp : 2 ^ (8 * k) ≤ 2 ^ 24 := Nat.pow_le_pow_right (by omega) (by omega)
  have hx : x < 2 ^ (8 * k) := by
    have : ((x : Nat) : Int) < ((2 ^ (8 * k) : Nat) : Int) := by push_cast; exact a1
    omega
  have hy : y ≤ 255 := by omega
  have e1 : ((y : Int) * 2 ^ (8 * k)) = ((y * 2 ^ (8 * k) : Nat) : Int) := by push_cast; rfl
  have hyb : y * 2 ^ (8 * k) ≤ 255 * 2 ^ 24 := Nat.mul_le_mul hy hp
  rw [e1]
  unfold bitOr
  have ex : (BitVec.ofInt IntKind.i64.bits (x : Int)).toNat = x := by
    show (BitVec.ofInt 64 (x : Int)).toNat = x
    rw [BitVec.toNat_ofInt]; omega
  have ey : (BitVec.ofInt IntKind.i64.bits ((y * 2 ^ (8 * k) : Nat) : Int)).toNat = y * 2 ^ (8 * k) := by
    show (BitVec.ofInt 64 ((y * 2 ^ (8 * k) : Nat) : Int)).toNat = _
    rw [BitVec.toNat_ofInt]; omega
  rw [BitVec.toNat_or, ex, ey]
  have : x ||| y * 2 ^ (8 * k) = x + y * 2 ^ (8 * k) := by
    have := Nat.shiftLeft_add_eq_or_of_lt hx y
    rw [Nat.shiftLeft_eq] at this
    rw [Nat.or_comm, ← this, Nat.add_comm]
  rw [this]
  rw [show IntKind.i64.wrap ((x + y * 2 ^ (8 * k) : Nat) : Int) = ((x + y * 2 ^ (8 * k) : Nat) : Int) from IntWalk.i64_in _ ⟨by omega, by omega⟩]
  push_cast; rfl
structure Op where
  code : Int
  arg : Int
deriving DecidableEq
/-- the argument behind a place, with its sign -/
def argV (s : ByteArray) (k : Nat) (n : Nat) (sg : Bool) : Int := if sg = true ∧ 2 ^ (8 * n - 1) ≤ leI s k n then leI s k n - 2 ^ (8 * n) else leI s k n
/-- an instruction at a place, and its size -/
def decOp (s : ByteArray) (k : Int) : Option (Op × Int) :=
  if 0 ≤ k ∧ k < s.size then
    (if opSize (byt s k.toNat) ≠ 0 ∧ k + opSize (byt s k.toNat) ≤ s.size then
      some (⟨byt s k.toNat, argV s k.toNat (argW (byt s k.toNat)).1.toNat (argW (byt s k.toNat)).2⟩, opSize (byt s k.toNat)) else none)
  else none
end Go.Proofs.Ytdbjioanlkilkaa

namespace Go.Proofs.Ytdbjioanlkilkaa
open Go.Vc
attribute [local go_sem] St.runR St.runW St.stepV offV St.step St.stepU St.stepG mkCond guardB St.prK St.pr St.prLen St.eff St.callE St.callD St.callF St.callL aI aB aS aR aC St.isM St.argL Ctr.pure Ctr.lend Ctr.move Ctr.isL Ctr.wri pur len lentBy St.lentV St.lent1 nthS argsR restOf obsR pairs swapL unObs backL St.resL erL SV.ren1 SV.up SV.up2 Ob.up St.fzL cellIds partIds St.intoRow SV.ownId St.fz SV.fz1 St.prep St.mvL St.mv SV.re1 rnOk St.prEq vals eqCells scEq Value.kd St.prStr St.prCut cutR St.bnd St.prMin St.bld isShift outL retL outJ oR oC St.ev St.get St.put St.new St.kill SV.kill SV.kill1 Ob.kill St.app St.wrt St.rowsOf St.res St.killL lk er argsL SV.strip SV.need SV.share SV.share1 SV.owns SV.owns1 SV.owns2 SV.good SV.good1 SV.rok SV.rok1 SV.rok2 SV.isV SV.isV2 nodupN SV.cells SV.one SV.pur Ob.pb partsIn rowsIn splice cellsAt dstOk scal2 scal1 thenK blockK retK outK outs okC okL okA okT nilC nilL nilA nilT keepC keepL keepA keepT St.runG St.dltK St.least St.clean St.final St.hide offK badS badO SV.refs SV.leaf SV.leaf2 Ob.refs dlOk fpAt Go.Vc.cover tups SV.ofAgg St.out outC subL St.has rng wr Value.oneCell' Option.isSome_some Option.isSome_none List.nil_append Bool.false_eq_true List.map_cons List.map_nil List.all_cons List.all_nil List.length_cons List.length_nil List.drop_zero List.drop_succ_cons List.take_succ_cons List.take_zero List.drop_nil List.take_nil List.getElem?_cons_zero List.getElem?_cons_succ List.getElem?_nil List.cons_append List.nil_append List.append_nil List.append_assoc List.flatMap_cons List.flatMap_nil List.contains_cons List.contains_nil List.set_cons_zero List.set_cons_succ List.getElem?_toArray Option.getD_some Option.getD_none Option.map_some Option.map_none Option.bind_some Option.some.injEq Prod.mk.injEq if_true if_false true_and and_true and_self and_false false_and Bool.and_false Bool.false_and Bool.or_true Bool.true_or Bool.or_false Bool.false_or ne_eq not_true_eq_false not_false_eq_true decide_true decide_false List.mem_cons List.not_mem_nil List.filter_cons List.filter_nil List.any_cons List.any_nil List.isEmpty_nil List.isEmpty_cons Option.getD_none or_false false_or true_or or_true forall_eq_or_imp forall_eq reduceCtorEq exists_eq exists_eq' exists_eq_left' exists_eq_left exists_eq_right exists_eq_right' imp_self implies_true Bool.and_true Bool.true_and Bool.and_self beq_self_eq_true List.replicate_succ List.replicate_zero forall_const false_implies pickB_or pickB_and beqT beqF Int.toNat_natCast List.length_map List.length_replicate ge_iff_le gt_iff_lt decide_eq_true_eq decide_eq_false_iff_not Bool.and_eq_true Bool.or_eq_true Bool.not_eq_true' Bool.not_eq_false' condG List.toList_toArray Bool.or_eq_false_iff Bool.and_eq_false_iff Int.not_lt Int.not_le beq_iff_eq beq_eq_false_iff_ne bne_iff_ne bne_eq_false_iff_eq ne_eq Bool.not_true Bool.not_false exists_and_left
section
open Go.Vc
set_option linter.unusedSimpArgs false
set_option linter.unusedVariables false
set_option maxHeartbeats 1000000
set_option maxRecDepth 10000
attribute [local irreducible] Go.Vc.WP
attribute [local go_sem] cx0_t cx0_c
open Go.Pl
def kArgW : Ctr := pur (fun args => aI args 0) (fun c => [.v (.int .i64 c)]) (fun _ => True) (fun _ c => .tup [.v (.int .i64 (argW c).1), .v (.bool (argW c).2)]) (fun _ _ => [])
section
noncomputable def cxAwI : Cx := { P := Try.prog, tys := tys, C := [], hty := tysOk, hC := COk.nil _ }
theorem cxAwI_t : cxAwI.tys = tys := rfl
theorem cxAwI_c : cxAwI.C = [] := rfl
attribute [local go_sem] cxAwI_t cxAwI_c 
theorem cArgWI : Cn Try.prog 164 kArgW := by
  refine Cn.pur Try.func164 (by kernel_rfl) rfl fun d x hx => ?_
  rename Int => c
  refine Holds.go (c := cxAwI) Try.func164 rfl Try.results164 Try.ntmps164 (by omega) (by simp) rfl ?_
  intro X0 w0
  (repeat' (first | refine WP.seq ?_ | refine WP.block ?_ | ((first | refine WP.region ?_ | refine WP.condW ?_ | refine WP.ret ?_ | refine WP.exit ?_ | refine WP.skip ?_); simp only [go_sem, tyAll, Nat.reduceAdd, Nat.reduceLT, Nat.reduceLeDiff, Nat.reduceEqDiff, Nat.reduceMul, Nat.reduceSub, Nat.reduceGT, reduceIte, Int.reduceNeg, Int.reduceToNat]) |  refine And.intro ?_ ?_ | intro _))
  all_goals first | (unfold argW; simp_all; done) | skip
  all_goals trace_state
end
section
noncomputable def cxAwS : Cx := { P := Try.prog, tys := tys, C := [], hty := tysOk, hC := COk.nil _ }
theorem cxAwS_t : cxAwS.tys = tys := rfl
theorem cxAwS_c : cxAwS.C = [] := rfl
attribute [local go_sem] cxAwS_t cxAwS_c 
theorem cArgWS : Cn Try.prog 160 kArgW := by
  refine Cn.pur Try.func160 (by kernel_rfl) rfl fun d x hx => ?_
  rename Int => c
  refine Holds.go (c := cxAwS) Try.func160 rfl Try.results160 Try.ntmps160 (by omega) (by simp) rfl ?_
  intro X0 w0
  (repeat' (first | refine WP.seq ?_ | refine WP.block ?_ | ((first | refine WP.region ?_ | refine WP.condW ?_ | refine WP.ret ?_ | refine WP.exit ?_ | refine WP.skip ?_); simp only [go_sem, tyAll, Nat.reduceAdd, Nat.reduceLT, Nat.reduceLeDiff, Nat.reduceEqDiff, Nat.reduceMul, Nat.reduceSub, Nat.reduceGT, reduceIte, Int.reduceNeg, Int.reduceToNat]) |  refine And.intro ?_ ?_ | intro _))
  all_goals first | (unfold argW; simp_all; done) | skip
  all_goals trace_state
end
def kOpSize : Ctr := pur (fun args => aI args 0) (fun c => [.v (.int .i64 c)]) (fun _ => True) (fun _ c => .v (.int .i64 (opSize c))) (fun _ _ => [])
section
noncomputable def cxOsI : Cx := { P := Try.prog, tys := tys, C := [(55, k60), (164, kArgW)], hty := tysOk, hC := COk.cons c60 (COk.cons cArgWI (COk.nil _)) }
theorem cxOsI_t : cxOsI.tys = tys := rfl
theorem cxOsI_c : cxOsI.C = [(55, k60), (164, kArgW)] := rfl
attribute [local go_sem] cxOsI_t cxOsI_c k60 kArgW
theorem cOpSizeI : Cn Try.prog 163 kOpSize := by
  refine Cn.pur Try.func163 (by kernel_rfl) rfl fun d x hx => ?_
  rename Int => c
  have hw := argW_bd c
  refine Holds.go (c := cxOsI) Try.func163 rfl Try.results163 Try.ntmps163 (by omega) (by simp) rfl ?_
  intro X0 w0
  by_cases h : 0 ≤ c ∧ c ≤ 17
  · have e : opSize c = (argW c).1 + 1 := if_pos h
    rw [e]
    (repeat' (first | refine WP.seq ?_ | refine WP.block ?_ | ((first | refine WP.region ?_ | refine WP.condW ?_ | refine WP.ret ?_ | refine WP.exit ?_ | refine WP.skip ?_); simp only [go_sem, h, tyAll, Nat.reduceAdd, Nat.reduceLT, Nat.reduceLeDiff, Nat.reduceEqDiff, Nat.reduceMul, Nat.reduceSub, Nat.reduceGT, reduceIte, Int.reduceNeg, Int.reduceToNat]) |  refine And.intro ?_ ?_ | intro _))
    all_goals first | omega | skip
    all_goals trace_state
  · have e : opSize c = 0 := if_neg h
    rw [e]
    (repeat' (first | refine WP.seq ?_ | refine WP.block ?_ | ((first | refine WP.region ?_ | refine WP.condW ?_ | refine WP.ret ?_ | refine WP.exit ?_ | refine WP.skip ?_); simp only [go_sem, h, tyAll, Nat.reduceAdd, Nat.reduceLT, Nat.reduceLeDiff, Nat.reduceEqDiff, Nat.reduceMul, Nat.reduceSub, Nat.reduceGT, reduceIte, Int.reduceNeg, Int.reduceToNat]) |  refine And.intro ?_ ?_ | intro _))
    all_goals first | omega | skip
    all_goals trace_state
end
section
noncomputable def cxOsS : Cx := { P := Try.prog, tys := tys, C := [(71, k60), (160, kArgW)], hty := tysOk, hC := COk.cons c58 (COk.cons cArgWS (COk.nil _)) }
theorem cxOsS_t : cxOsS.tys = tys := rfl
theorem cxOsS_c : cxOsS.C = [(71, k60), (160, kArgW)] := rfl
attribute [local go_sem] cxOsS_t cxOsS_c k60 kArgW
theorem cOpSizeS : Cn Try.prog 161 kOpSize := by
  refine Cn.pur Try.func161 (by kernel_rfl) rfl fun d x hx => ?_
  rename Int => c
  have hw := argW_bd c
  refine Holds.go (c := cxOsS) Try.func161 rfl Try.results161 Try.ntmps161 (by omega) (by simp) rfl ?_
  intro X0 w0
  by_cases h : 0 ≤ c ∧ c ≤ 17
  · have e : opSize c = 1 + (argW c).1 := by rw [show opSize c = (argW c).1 + 1 from if_pos h]; omega
    rw [e]
    (repeat' (first | refine WP.seq ?_ | refine WP.block ?_ | ((first | refine WP.region ?_ | refine WP.condW ?_ | refine WP.ret ?_ | refine WP.exit ?_ | refine WP.skip ?_); simp only [go_sem, h, tyAll, Nat.reduceAdd, Nat.reduceLT, Nat.reduceLeDiff, Nat.reduceEqDiff, Nat.reduceMul, Nat.reduceSub, Nat.reduceGT, reduceIte, Int.reduceNeg, Int.reduceToNat]) |  refine And.intro ?_ ?_ | intro _))
    all_goals first | omega | skip
    all_goals trace_state
  · have e : opSize c = 0 := if_neg h
    rw [e]
    (repeat' (first | refine WP.seq ?_ | refine WP.block ?_ | ((first | refine WP.region ?_ | refine WP.condW ?_ | refine WP.ret ?_ | refine WP.exit ?_ | refine WP.skip ?_); simp only [go_sem, h, tyAll, Nat.reduceAdd, Nat.reduceLT, Nat.reduceLeDiff, Nat.reduceEqDiff, Nat.reduceMul, Nat.reduceSub, Nat.reduceGT, reduceIte, Int.reduceNeg, Int.reduceToNat]) |  refine And.intro ?_ ?_ | intro _))
    all_goals first | omega | skip
    all_goals trace_state
end
def encOp (x : Op) : List SV := [.v (.int .i64 x.code), .v (.int .i64 x.arg)]
def zOp : Op := ⟨0, 0⟩
def kDecOp : Ctr := pur (fun args => (aS args 0, aI args 1)) (fun x => [.v (.string x.1), .v (.int .i64 x.2)]) (fun x => x.1.size ≤ 4398046511104)
  (fun _ x => .tup [.agg [.v (.int .i64 (((decOp x.1 x.2).map (·.1)).getD zOp).code), .v (.int .i64 (((decOp x.1 x.2).map (·.1)).getD zOp).arg)], .v (.int .i64 (((decOp x.1 x.2).map (·.2)).getD 0)), .v (.bool (decOp x.1 x.2).isSome)]) (fun _ _ => [])
theorem pow8 {n : Nat} (h : n ≤ 4) : (2 : Int) ^ (8 * n) ≤ 4294967296 ∧ 0 < (2 : Int) ^ (8 * n) := by
  match n, h with
  | 0, _ => decide
  | 1, _ => decide
  | 2, _ => decide
  | 3, _ => decide
  | 4, _ => decide
theorem shl1 {m : Nat} (h : m ≤ 32) : shL .i64 1 (m : Int) = 2 ^ m := by
  unfold shL
  have e : min (m : Int).toNat IntKind.i64.bits = m := by
    show min (m : Int).toNat 64 = m
    omega
  rw [e, Int.one_mul]
  have : (2 : Int) ^ m ≤ 2 ^ 32 := by
    have := Nat.pow_le_pow_right (n := 2) (by omega) h
    exact_mod_cast this
  have h0 : (0 : Int) < 2 ^ m := Int.pow_pos (by omega)
  exact IntWalk.i64_in _ ⟨by omega, by omega⟩
section
noncomputable def cxDoS : Cx := { P := Try.prog, tys := tys, C := [(160, kArgW), (161, kOpSize)], hty := tysOk, hC := COk.cons cArgWS (COk.cons cOpSizeS (COk.nil _)) }
theorem cxDoS_t : cxDoS.tys = tys := rfl
theorem cxDoS_c : cxDoS.C = [(160, kArgW), (161, kOpSize)] := rfl
attribute [local go_sem] cxDoS_t cxDoS_c kArgW kOpSize
theorem cDecOpS : Cn Try.prog 155 kDecOp := by
  refine Cn.pur Try.func155 (by kernel_rfl) rfl fun d x hx => ?_
  obtain ⟨s, k⟩ := x
  simp only at hx ⊢
  refine Holds.go (c := cxDoS) Try.func155 rfl Try.results155 Try.ntmps155 (by omega) (by simp) rfl ?_
  intro X0 w0
  by_cases hk : 0 ≤ k ∧ k < s.size
  rotate_left
  · have e : decOp s k = none := if_neg hk
    rw [e]
    by_cases h0 : k < 0
    · (repeat' (first | refine WP.seq ?_ | refine WP.block ?_ | ((first | refine WP.region ?_ | refine WP.condW ?_ | refine WP.ret ?_ | refine WP.exit ?_ | refine WP.skip ?_); simp only [go_sem, h0, tyAll, Nat.reduceAdd, Nat.reduceLT, Nat.reduceLeDiff, Nat.reduceEqDiff, Nat.reduceMul, Nat.reduceSub, Nat.reduceGT, reduceIte, Int.reduceNeg, Int.reduceToNat]) | ((first | refine WP.drawW 13 (by decide +kernel) (by kernel_rfl) ?_ | refine WP.drawW 10 (by decide +kernel) (by kernel_rfl) ?_ | refine WP.drawW 6 (by decide +kernel) (by kernel_rfl) ?_); simp only [go_sem, h0, tyAll, Nat.reduceAdd, Nat.reduceLT, Nat.reduceLeDiff, Nat.reduceEqDiff, Nat.reduceMul, Nat.reduceSub, Nat.reduceGT, reduceIte, Int.reduceNeg, Int.reduceToNat]) |  refine And.intro ?_ ?_ | intro _))
      all_goals first | omega | exact ⟨_, _, rfl, _, _, rfl, rfl⟩ | rfl | skip
      all_goals trace_state
    · have h1 : ¬ k < (s.size : Int) := by omega
      (repeat' (first | refine WP.seq ?_ | refine WP.block ?_ | ((first | refine WP.region ?_ | refine WP.condW ?_ | refine WP.ret ?_ | refine WP.exit ?_ | refine WP.skip ?_); simp only [go_sem, h0, h1, tyAll, Nat.reduceAdd, Nat.reduceLT, Nat.reduceLeDiff, Nat.reduceEqDiff, Nat.reduceMul, Nat.reduceSub, Nat.reduceGT, reduceIte, Int.reduceNeg, Int.reduceToNat]) | ((first | refine WP.drawW 13 (by decide +kernel) (by kernel_rfl) ?_ | refine WP.drawW 10 (by decide +kernel) (by kernel_rfl) ?_ | refine WP.drawW 6 (by decide +kernel) (by kernel_rfl) ?_); simp only [go_sem, h0, h1, tyAll, Nat.reduceAdd, Nat.reduceLT, Nat.reduceLeDiff, Nat.reduceEqDiff, Nat.reduceMul, Nat.reduceSub, Nat.reduceGT, reduceIte, Int.reduceNeg, Int.reduceToNat]) |  refine And.intro ?_ ?_ | intro _))
      all_goals first | omega | exact ⟨_, _, rfl, _, _, rfl, rfl⟩ | rfl | skip
      all_goals trace_state
  obtain ⟨p, rfl⟩ : ∃ p : Nat, k = p := ⟨k.toNat, by omega⟩
  have h0 : ¬ (p : Int) < 0 := by omega
  have h1 : (p : Int) < s.size := by omega
  have hb : ((s[p]!).toNat : Int) = byt s p := rfl
  have hw := argW_bd (byt s p)
  have hbb := byt_bd s p
  have ho := opSize_bd (byt s p)
  obtain ⟨n, hn⟩ : ∃ n : Nat, (argW (byt s p)).1 = n := ⟨_, (Int.toNat_of_nonneg hw.1).symm⟩
  by_cases hs : opSize (byt s p) ≠ 0 ∧ (p : Int) + opSize (byt s p) ≤ s.size
  rotate_left
  · have e : decOp s p = none := by
      unfold decOp
      rw [if_pos hk, Int.toNat_natCast, if_neg hs]
    rw [e]
    by_cases hz : opSize (byt s p) = 0
    · (repeat' (first | refine WP.seq ?_ | refine WP.block ?_ | ((first | refine WP.region ?_ | refine WP.condW ?_ | refine WP.ret ?_ | refine WP.exit ?_ | refine WP.skip ?_); simp only [go_sem, h0, h1, hb, hn, hz, tyAll, Nat.reduceAdd, Nat.reduceLT, Nat.reduceLeDiff, Nat.reduceEqDiff, Nat.reduceMul, Nat.reduceSub, Nat.reduceGT, reduceIte, Int.reduceNeg, Int.reduceToNat]) | ((first | refine WP.drawW 13 (by decide +kernel) (by kernel_rfl) ?_ | refine WP.drawW 10 (by decide +kernel) (by kernel_rfl) ?_ | refine WP.drawW 6 (by decide +kernel) (by kernel_rfl) ?_); simp only [go_sem, h0, h1, hb, hn, hz, tyAll, Nat.reduceAdd, Nat.reduceLT, Nat.reduceLeDiff, Nat.reduceEqDiff, Nat.reduceMul, Nat.reduceSub, Nat.reduceGT, reduceIte, Int.reduceNeg, Int.reduceToNat]) |  refine And.intro ?_ ?_ | intro _))
      all_goals first | omega | exact ⟨_, _, rfl, _, _, rfl, rfl⟩ | rfl | skip
      all_goals trace_state
    · have hz2 : ¬ (p : Int) + opSize (byt s p) ≤ s.size := fun h => hs ⟨hz, h⟩
      have hoz : opSize (byt s p) = (argW (byt s p)).1 + 1 := by unfold opSize at hz ⊢; split at hz <;> simp_all
      have hz3 : (s.size : Int) < (p : Int) + 1 + n := by omega
      (repeat' (first | refine WP.seq ?_ | refine WP.block ?_ | ((first | refine WP.region ?_ | refine WP.condW ?_ | refine WP.ret ?_ | refine WP.exit ?_ | refine WP.skip ?_); simp only [go_sem, h0, h1, hb, hn, hz, hz3, tyAll, Nat.reduceAdd, Nat.reduceLT, Nat.reduceLeDiff, Nat.reduceEqDiff, Nat.reduceMul, Nat.reduceSub, Nat.reduceGT, reduceIte, Int.reduceNeg, Int.reduceToNat]) | ((first | refine WP.drawW 13 (by decide +kernel) (by kernel_rfl) ?_ | refine WP.drawW 10 (by decide +kernel) (by kernel_rfl) ?_ | refine WP.drawW 6 (by decide +kernel) (by kernel_rfl) ?_); simp only [go_sem, h0, h1, hb, hn, hz, hz3, tyAll, Nat.reduceAdd, Nat.reduceLT, Nat.reduceLeDiff, Nat.reduceEqDiff, Nat.reduceMul, Nat.reduceSub, Nat.reduceGT, reduceIte, Int.reduceNeg, Int.reduceToNat]) |  refine And.intro ?_ ?_ | intro _))
      all_goals first | omega | exact ⟨_, _, rfl, _, _, rfl, rfl⟩ | rfl | skip
      all_goals trace_state
  obtain ⟨hs1, hs2⟩ := hs
  have hoz : opSize (byt s p) = (argW (byt s p)).1 + 1 := by unfold opSize at hs1 ⊢; split at hs1 <;> simp_all
  have hz3 : ¬ (s.size : Int) < (p : Int) + 1 + n := by omega
  have e : decOp s p = some (⟨byt s p, argV s p n (argW (byt s p)).2⟩, 1 + (n : Int)) := by
    unfold decOp
    rw [if_pos hk, Int.toNat_natCast, if_pos ⟨hs1, hs2⟩, hn, Int.toNat_natCast, hoz, hn, Int.add_comm]
  rw [e]
  have hn4 : n ≤ 4 := by omega
  (repeat' (first | refine WP.seq ?_ | refine WP.block ?_ | ((first | refine WP.region ?_ | refine WP.condW ?_ | refine WP.ret ?_ | refine WP.exit ?_ | refine WP.skip ?_); simp only [go_sem, h0, h1, hb, hn, hs1, hz3, tyAll, Nat.reduceAdd, Nat.reduceLT, Nat.reduceLeDiff, Nat.reduceEqDiff, Nat.reduceMul, Nat.reduceSub, Nat.reduceGT, reduceIte, Int.reduceNeg, Int.reduceToNat]) | ((first | refine WP.drawW 13 (by decide +kernel) (by kernel_rfl) ?_ | refine WP.drawW 10 (by decide +kernel) (by kernel_rfl) ?_ | refine WP.drawW 6 (by decide +kernel) (by kernel_rfl) ?_); simp only [go_sem, h0, h1, hb, hn, hs1, hz3, tyAll, Nat.reduceAdd, Nat.reduceLT, Nat.reduceLeDiff, Nat.reduceEqDiff, Nat.reduceMul, Nat.reduceSub, Nat.reduceGT, reduceIte, Int.reduceNeg, Int.reduceToNat]) |  refine And.intro ?_ ?_ | intro _))
  all_goals first | omega | skip
  refine WP.loop (fun j : Nat => ⟨[(0, .v (.string s)), (1, .v (.int .i64 p)), (4, .ptr 4 0 0 0), (7, .ptr 7 0 0 0), (8, .v (.int .i64 n)), (9, .v (.bool (argW (byt s p)).2)), (10, .v (.int .i64 j))],
    [(4, .box 225 [.v (.int .i64 0), .v (.int .i64 0)]), (7, .box 225 [.v (.int .i64 (byt s p)), .v (.int .i64 (leI s p j))])]⟩) (fun j => j ≤ n) (fun j => n - j) 0 (by simp) ?_ ?_
  · have hl0 : leI s p 0 = 0 := rfl
    (simp only [go_sem, hl0, tyAll, Nat.reduceAdd, Nat.reduceLT, Nat.reduceLeDiff, Nat.reduceEqDiff, Nat.reduceMul, Nat.reduceSub, Nat.reduceGT, reduceIte, Int.reduceNeg, Int.reduceToNat] <;> (first | rfl | exact ⟨rfl, rfl⟩ | exact ⟨rfl, rfl, rfl⟩ | exact ⟨rfl, rfl, rfl, rfl⟩ | exact ⟨rfl, rfl, rfl, rfl, rfl⟩ | exact ⟨⟨rfl, rfl⟩, rfl⟩ | simp))
  intro j hj
  have hp := pow8 (n := j) (by omega)
  have hl := leI_bd s p j
  by_cases hlt : j < n
  · have hli : (j : Int) < n := by omega
    have hq : ((p : Int) + 1 + j).toNat = p + 1 + j := by omega
    have hb2 : ((s[p + 1 + j]!).toNat : Int) = byt s (p + 1 + j) := rfl
    have hbb2 := byt_bd s (p + 1 + j)
    have hsh := shL8 hbb2.1 hbb2.2 (k := j) (by omega)
    have hnx : leI s p (j + 1) = leI s p j + byt s (p + 1 + j) * 2 ^ (8 * j) := rfl
    have hl2 := leI_bd s p (j + 1)
    have hp2 := pow8 (n := j + 1) (by omega)
    have hqs : (p : Int) + 1 + j < s.size := by omega
    (repeat' (first | refine WP.seq ?_ | refine WP.block ?_ | ((first | refine WP.region ?_ | refine WP.condW ?_ | refine WP.ret ?_ | refine WP.exit ?_ | refine WP.skip ?_); simp only [go_sem, hli, hq, hb2, hsh, hqs, tyAll, Nat.reduceAdd, Nat.reduceLT, Nat.reduceLeDiff, Nat.reduceEqDiff, Nat.reduceMul, Nat.reduceSub, Nat.reduceGT, reduceIte, Int.reduceNeg, Int.reduceToNat]) | ((first | refine WP.drawW 13 (by decide +kernel) (by kernel_rfl) ?_ | refine WP.drawW 10 (by decide +kernel) (by kernel_rfl) ?_ | refine WP.drawW 6 (by decide +kernel) (by kernel_rfl) ?_); simp only [go_sem, hli, hq, hb2, hsh, hqs, tyAll, Nat.reduceAdd, Nat.reduceLT, Nat.reduceLeDiff, Nat.reduceEqDiff, Nat.reduceMul, Nat.reduceSub, Nat.reduceGT, reduceIte, Int.reduceNeg, Int.reduceToNat]) |  refine And.intro ?_ ?_ | intro _))
    all_goals first | omega | skip
    all_goals first | exact ⟨j + 1, by omega, by omega, by rw [hnx]; (first | rfl | exact ⟨rfl, rfl⟩ | exact ⟨rfl, rfl, rfl⟩ | exact ⟨rfl, rfl, rfl, rfl⟩ | exact ⟨rfl, rfl, rfl, rfl, rfl⟩ | exact ⟨⟨rfl, rfl⟩, rfl⟩ | simp)⟩ | trace_state
  · have hge : ¬ (j : Int) < n := by omega
    obtain rfl : j = n := by omega
    cases hsg : (argW (byt s p)).2 with
    | false =>
      have ea : argV s p j false = leI s p j := by unfold argV; rw [if_neg (by simp)]
      rw [ea]
      (repeat' (first | refine WP.seq ?_ | refine WP.block ?_ | ((first | refine WP.region ?_ | refine WP.condW ?_ | refine WP.ret ?_ | refine WP.exit ?_ | refine WP.skip ?_); simp only [go_sem, hge, tyAll, Nat.reduceAdd, Nat.reduceLT, Nat.reduceLeDiff, Nat.reduceEqDiff, Nat.reduceMul, Nat.reduceSub, Nat.reduceGT, reduceIte, Int.reduceNeg, Int.reduceToNat]) | ((first | refine WP.drawW 13 (by decide +kernel) (by kernel_rfl) ?_ | refine WP.drawW 10 (by decide +kernel) (by kernel_rfl) ?_ | refine WP.drawW 6 (by decide +kernel) (by kernel_rfl) ?_); simp only [go_sem, hge, tyAll, Nat.reduceAdd, Nat.reduceLT, Nat.reduceLeDiff, Nat.reduceEqDiff, Nat.reduceMul, Nat.reduceSub, Nat.reduceGT, reduceIte, Int.reduceNeg, Int.reduceToNat]) |  refine And.intro ?_ ?_ | intro _))
      all_goals first | omega | exact ⟨_, _, rfl, _, _, rfl, rfl⟩ | rfl | skip
      all_goals trace_state
    | true =>
      have hj2 : 2 ≤ j := by have := hw.2.2.2 hsg; omega
      have h8 : ((8 * j : Nat) : Int) - 1 = ((8 * j - 1 : Nat) : Int) := by omega
      have h8b : (8 : Int) * j = ((8 * j : Nat) : Int) := by omega
      have s1 := shl1 (m := 8 * j - 1) (by omega)
      have s2 := shl1 (m := 8 * j) (by omega)
      by_cases hc : (2 : Int) ^ (8 * j - 1) ≤ leI s p j
      · have ea : argV s p j true = leI s p j - 2 ^ (8 * j) := by unfold argV; rw [if_pos ⟨rfl, hc⟩]
        rw [ea]
        (repeat' (first | refine WP.seq ?_ | refine WP.block ?_ | ((first | refine WP.region ?_ | refine WP.condW ?_ | refine WP.ret ?_ | refine WP.exit ?_ | refine WP.skip ?_); simp only [go_sem, hge, h8, h8b, s1, s2, hc, tyAll, Nat.reduceAdd, Nat.reduceLT, Nat.reduceLeDiff, Nat.reduceEqDiff, Nat.reduceMul, Nat.reduceSub, Nat.reduceGT, reduceIte, Int.reduceNeg, Int.reduceToNat]) | ((first | refine WP.drawW 13 (by decide +kernel) (by kernel_rfl) ?_ | refine WP.drawW 10 (by decide +kernel) (by kernel_rfl) ?_ | refine WP.drawW 6 (by decide +kernel) (by kernel_rfl) ?_); simp only [go_sem, hge, h8, h8b, s1, s2, hc, tyAll, Nat.reduceAdd, Nat.reduceLT, Nat.reduceLeDiff, Nat.reduceEqDiff, Nat.reduceMul, Nat.reduceSub, Nat.reduceGT, reduceIte, Int.reduceNeg, Int.reduceToNat]) |  refine And.intro ?_ ?_ | intro _))
        all_goals first | omega | exact ⟨_, _, rfl, _, _, rfl, rfl⟩ | rfl | skip
        all_goals trace_state
      · have ea : argV s p j true = leI s p j := by unfold argV; rw [if_neg fun h => hc h.2]
        rw [ea]
        (repeat' (first | refine WP.seq ?_ | refine WP.block ?_ | ((first | refine WP.region ?_ | refine WP.condW ?_ | refine WP.ret ?_ | refine WP.exit ?_ | refine WP.skip ?_); simp only [go_sem, hge, h8, h8b, s1, s2, hc, tyAll, Nat.reduceAdd, Nat.reduceLT, Nat.reduceLeDiff, Nat.reduceEqDiff, Nat.reduceMul, Nat.reduceSub, Nat.reduceGT, reduceIte, Int.reduceNeg, Int.reduceToNat]) | ((first | refine WP.drawW 13 (by decide +kernel) (by kernel_rfl) ?_ | refine WP.drawW 10 (by decide +kernel) (by kernel_rfl) ?_ | refine WP.drawW 6 (by decide +kernel) (by kernel_rfl) ?_); simp only [go_sem, hge, h8, h8b, s1, s2, hc, tyAll, Nat.reduceAdd, Nat.reduceLT, Nat.reduceLeDiff, Nat.reduceEqDiff, Nat.reduceMul, Nat.reduceSub, Nat.reduceGT, reduceIte, Int.reduceNeg, Int.reduceToNat]) |  refine And.intro ?_ ?_ | intro _))
        all_goals first | omega | exact ⟨_, _, rfl, _, _, rfl, rfl⟩ | rfl | skip
        all_goals trace_state
end
section
noncomputable def cxDoI : Cx := { P := Try.prog, tys := tys, C := [(55, k60), (164, kArgW), (163, kOpSize)], hty := tysOk, hC := COk.cons c60 (COk.cons cArgWI (COk.cons cOpSizeI (COk.nil _))) }
theorem cxDoI_t : cxDoI.tys = tys := rfl
theorem cxDoI_c : cxDoI.C = [(55, k60), (164, kArgW), (163, kOpSize)] := rfl
attribute [local go_sem] cxDoI_t cxDoI_c k60 kArgW kOpSize
theorem cDecOpI : Cn Try.prog 157 kDecOp := by
  refine Cn.pur Try.func157 (by kernel_rfl) rfl fun d x hx => ?_
  obtain ⟨s, k⟩ := x
  simp only at hx ⊢
  refine Holds.go (c := cxDoI) Try.func157 rfl Try.results157 Try.ntmps157 (by omega) (by simp) rfl ?_
  intro X0 w0
  by_cases hk : 0 ≤ k ∧ k < s.size
  rotate_left
  · have e : decOp s k = none := if_neg hk
    rw [e]
    have hk' : ¬ (0 ≤ k ∧ k ≤ (s.size : Int) - 1) := fun h => hk (by omega)
    have hkd : (decide (0 ≤ k) && decide (k ≤ (s.size : Int) - 1)) = false := by
      rw [← Bool.decide_and]; exact decide_eq_false hk'
    (repeat' (first | refine WP.seq ?_ | refine WP.block ?_ | ((first | refine WP.region ?_ | refine WP.condW ?_ | refine WP.ret ?_ | refine WP.exit ?_ | refine WP.skip ?_); simp only [go_sem, hkd, tyAll, Nat.reduceAdd, Nat.reduceLT, Nat.reduceLeDiff, Nat.reduceEqDiff, Nat.reduceMul, Nat.reduceSub, Nat.reduceGT, reduceIte, Int.reduceNeg, Int.reduceToNat]) | ((first | refine WP.drawW 13 (by decide +kernel) (by kernel_rfl) ?_ | refine WP.drawW 10 (by decide +kernel) (by kernel_rfl) ?_ | refine WP.drawW 6 (by decide +kernel) (by kernel_rfl) ?_); simp only [go_sem, hkd, tyAll, Nat.reduceAdd, Nat.reduceLT, Nat.reduceLeDiff, Nat.reduceEqDiff, Nat.reduceMul, Nat.reduceSub, Nat.reduceGT, reduceIte, Int.reduceNeg, Int.reduceToNat]) |  refine And.intro ?_ ?_ | intro _))
    all_goals first | omega | exact ⟨_, _, rfl, _, _, rfl, rfl⟩ | rfl | skip
    all_goals trace_state
  obtain ⟨p, rfl⟩ : ∃ p : Nat, k = p := ⟨k.toNat, by omega⟩
  have h0 : ¬ (p : Int) < 0 := by omega
  have h1 : (p : Int) < s.size := by omega
  have h1b : (p : Int) ≤ (s.size : Int) - 1 := by omega
  have h0b : (0 : Int) ≤ p := by omega
  have hb : ((s[p]!).toNat : Int) = byt s p := rfl
  have hw := argW_bd (byt s p)
  have hbb := byt_bd s p
  have ho := opSize_bd (byt s p)
  obtain ⟨n, hn⟩ : ∃ n : Nat, (argW (byt s p)).1 = n := ⟨_, (Int.toNat_of_nonneg hw.1).symm⟩
  by_cases hs : opSize (byt s p) ≠ 0 ∧ (p : Int) + opSize (byt s p) ≤ s.size
  rotate_left
  · have e : decOp s p = none := by
      unfold decOp
      rw [if_pos hk, Int.toNat_natCast, if_neg hs]
    rw [e]
    by_cases hz : opSize (byt s p) = 0
    · (repeat' (first | refine WP.seq ?_ | refine WP.block ?_ | ((first | refine WP.region ?_ | refine WP.condW ?_ | refine WP.ret ?_ | refine WP.exit ?_ | refine WP.skip ?_); simp only [go_sem, h0b, h1, h1b, hb, hn, hz, tyAll, Nat.reduceAdd, Nat.reduceLT, Nat.reduceLeDiff, Nat.reduceEqDiff, Nat.reduceMul, Nat.reduceSub, Nat.reduceGT, reduceIte, Int.reduceNeg, Int.reduceToNat]) | ((first | refine WP.drawW 13 (by decide +kernel) (by kernel_rfl) ?_ | refine WP.drawW 10 (by decide +kernel) (by kernel_rfl) ?_ | refine WP.drawW 6 (by decide +kernel) (by kernel_rfl) ?_); simp only [go_sem, h0b, h1, h1b, hb, hn, hz, tyAll, Nat.reduceAdd, Nat.reduceLT, Nat.reduceLeDiff, Nat.reduceEqDiff, Nat.reduceMul, Nat.reduceSub, Nat.reduceGT, reduceIte, Int.reduceNeg, Int.reduceToNat]) |  refine And.intro ?_ ?_ | intro _))
      all_goals first | omega | exact ⟨_, _, rfl, _, _, rfl, rfl⟩ | rfl | skip
      all_goals trace_state
    · have hz2 : ¬ (p : Int) + opSize (byt s p) ≤ s.size := fun h => hs ⟨hz, h⟩
      have hoz : opSize (byt s p) = (argW (byt s p)).1 + 1 := by unfold opSize at hz ⊢; split at hz <;> simp_all
      have hz3 : (s.size : Int) < (p : Int) + opSize (byt s p) := by omega
      (repeat' (first | refine WP.seq ?_ | refine WP.block ?_ | ((first | refine WP.region ?_ | refine WP.condW ?_ | refine WP.ret ?_ | refine WP.exit ?_ | refine WP.skip ?_); simp only [go_sem, h0b, h1, h1b, hb, hn, hz, hz3, tyAll, Nat.reduceAdd, Nat.reduceLT, Nat.reduceLeDiff, Nat.reduceEqDiff, Nat.reduceMul, Nat.reduceSub, Nat.reduceGT, reduceIte, Int.reduceNeg, Int.reduceToNat]) | ((first | refine WP.drawW 13 (by decide +kernel) (by kernel_rfl) ?_ | refine WP.drawW 10 (by decide +kernel) (by kernel_rfl) ?_ | refine WP.drawW 6 (by decide +kernel) (by kernel_rfl) ?_); simp only [go_sem, h0b, h1, h1b, hb, hn, hz, hz3, tyAll, Nat.reduceAdd, Nat.reduceLT, Nat.reduceLeDiff, Nat.reduceEqDiff, Nat.reduceMul, Nat.reduceSub, Nat.reduceGT, reduceIte, Int.reduceNeg, Int.reduceToNat]) |  refine And.intro ?_ ?_ | intro _))
      all_goals first | omega | exact ⟨_, _, rfl, _, _, rfl, rfl⟩ | rfl | skip
      all_goals trace_state
  obtain ⟨hs1, hs2⟩ := hs
  have hoz : opSize (byt s p) = (argW (byt s p)).1 + 1 := by unfold opSize at hs1 ⊢; split at hs1 <;> simp_all
  have hz3 : ¬ (s.size : Int) < (p : Int) + opSize (byt s p) := by omega
  have e : decOp s p = some (⟨byt s p, argV s p n (argW (byt s p)).2⟩, opSize (byt s p)) := by
    unfold decOp
    rw [if_pos hk, Int.toNat_natCast, if_pos ⟨hs1, hs2⟩, hn, Int.toNat_natCast]
  rw [e]
  have hn4 : n ≤ 4 := by omega
  (repeat' (first | refine WP.seq ?_ | refine WP.block ?_ | ((first | refine WP.region ?_ | refine WP.condW ?_ | refine WP.ret ?_ | refine WP.exit ?_ | refine WP.skip ?_); simp only [go_sem, h0b, h1, h1b, hb, hn, hs1, hz3, tyAll, Nat.reduceAdd, Nat.reduceLT, Nat.reduceLeDiff, Nat.reduceEqDiff, Nat.reduceMul, Nat.reduceSub, Nat.reduceGT, reduceIte, Int.reduceNeg, Int.reduceToNat]) | ((first | refine WP.drawW 13 (by decide +kernel) (by kernel_rfl) ?_ | refine WP.drawW 10 (by decide +kernel) (by kernel_rfl) ?_ | refine WP.drawW 6 (by decide +kernel) (by kernel_rfl) ?_); simp only [go_sem, h0b, h1, h1b, hb, hn, hs1, hz3, tyAll, Nat.reduceAdd, Nat.reduceLT, Nat.reduceLeDiff, Nat.reduceEqDiff, Nat.reduceMul, Nat.reduceSub, Nat.reduceGT, reduceIte, Int.reduceNeg, Int.reduceToNat]) |  refine And.intro ?_ ?_ | intro _))
  all_goals first | omega | skip
  refine WP.loop (fun j : Nat => ⟨[(0, .v (.string s)), (1, .v (.int .i64 p)), (4, .ptr 4 0 0 0), (7, .ptr 7 0 0 0), (8, .v (.int .i64 (opSize (byt s p)))), (9, .v (.int .i64 n)), (10, .v (.bool (argW (byt s p)).2)), (11, .v (.int .i64 j))],
    [(4, .box 225 [.v (.int .i64 0), .v (.int .i64 0)]), (7, .box 225 [.v (.int .i64 (byt s p)), .v (.int .i64 (leI s p j))])]⟩) (fun j => j ≤ n) (fun j => n - j) 0 (by simp) ?_ ?_
  · have hl0 : leI s p 0 = 0 := rfl
    (simp only [go_sem, hl0, tyAll, Nat.reduceAdd, Nat.reduceLT, Nat.reduceLeDiff, Nat.reduceEqDiff, Nat.reduceMul, Nat.reduceSub, Nat.reduceGT, reduceIte, Int.reduceNeg, Int.reduceToNat] <;> (first | rfl | exact ⟨rfl, rfl⟩ | exact ⟨rfl, rfl, rfl⟩ | exact ⟨rfl, rfl, rfl, rfl⟩ | exact ⟨rfl, rfl, rfl, rfl, rfl⟩ | exact ⟨⟨rfl, rfl⟩, rfl⟩ | simp))
  intro j hj
  have hp := pow8 (n := j) (by omega)
  have hl := leI_bd s p j
  by_cases hlt : j < n
  · have hli : (j : Int) < n := by omega
    have hq : ((p : Int) + 1 + j).toNat = p + 1 + j := by omega
    have hb2 : ((s[p + 1 + j]!).toNat : Int) = byt s (p + 1 + j) := rfl
    have hbb2 := byt_bd s (p + 1 + j)
    have hsh := shL8 hbb2.1 hbb2.2 (k := j) (by omega)
    have hor := or8 (a := leI s p j) (c := byt s (p + 1 + j)) (k := j) (by omega) hl.1 hl.2 hbb2.1 hbb2.2
    have hnx : leI s p (j + 1) = leI s p j + byt s (p + 1 + j) * 2 ^ (8 * j) := rfl
    have hl2 := leI_bd s p (j + 1)
    have hp2 := pow8 (n := j + 1) (by omega)
    have hqs : (p : Int) + 1 + j < s.size := by omega
    (repeat' (first | refine WP.seq ?_ | refine WP.block ?_ | ((first | refine WP.region ?_ | refine WP.condW ?_ | refine WP.ret ?_ | refine WP.exit ?_ | refine WP.skip ?_); simp only [go_sem, hli, hq, hb2, hsh, hqs, hor, tyAll, Nat.reduceAdd, Nat.reduceLT, Nat.reduceLeDiff, Nat.reduceEqDiff, Nat.reduceMul, Nat.reduceSub, Nat.reduceGT, reduceIte, Int.reduceNeg, Int.reduceToNat]) | ((first | refine WP.drawW 13 (by decide +kernel) (by kernel_rfl) ?_ | refine WP.drawW 10 (by decide +kernel) (by kernel_rfl) ?_ | refine WP.drawW 6 (by decide +kernel) (by kernel_rfl) ?_); simp only [go_sem, hli, hq, hb2, hsh, hqs, hor, tyAll, Nat.reduceAdd, Nat.reduceLT, Nat.reduceLeDiff, Nat.reduceEqDiff, Nat.reduceMul, Nat.reduceSub, Nat.reduceGT, reduceIte, Int.reduceNeg, Int.reduceToNat]) |  refine And.intro ?_ ?_ | intro _))
    all_goals first | omega | skip
    all_goals first | exact ⟨j + 1, by omega, by omega, by rw [hnx]; (first | rfl | exact ⟨rfl, rfl⟩ | exact ⟨rfl, rfl, rfl⟩ | exact ⟨rfl, rfl, rfl, rfl⟩ | exact ⟨rfl, rfl, rfl, rfl, rfl⟩ | exact ⟨⟨rfl, rfl⟩, rfl⟩ | simp)⟩ | trace_state
  · have hge : ¬ (j : Int) < n := by omega
    obtain rfl : j = n := by omega
    cases hsg : (argW (byt s p)).2 with
    | false =>
      have ea : argV s p j false = leI s p j := by unfold argV; rw [if_neg (by simp)]
      rw [ea]
      (repeat' (first | refine WP.seq ?_ | refine WP.block ?_ | ((first | refine WP.region ?_ | refine WP.condW ?_ | refine WP.ret ?_ | refine WP.exit ?_ | refine WP.skip ?_); simp only [go_sem, hge, tyAll, Nat.reduceAdd, Nat.reduceLT, Nat.reduceLeDiff, Nat.reduceEqDiff, Nat.reduceMul, Nat.reduceSub, Nat.reduceGT, reduceIte, Int.reduceNeg, Int.reduceToNat]) | ((first | refine WP.drawW 13 (by decide +kernel) (by kernel_rfl) ?_ | refine WP.drawW 10 (by decide +kernel) (by kernel_rfl) ?_ | refine WP.drawW 6 (by decide +kernel) (by kernel_rfl) ?_); simp only [go_sem, hge, tyAll, Nat.reduceAdd, Nat.reduceLT, Nat.reduceLeDiff, Nat.reduceEqDiff, Nat.reduceMul, Nat.reduceSub, Nat.reduceGT, reduceIte, Int.reduceNeg, Int.reduceToNat]) |  refine And.intro ?_ ?_ | intro _))
      all_goals first | omega | exact ⟨_, _, rfl, _, _, rfl, rfl⟩ | rfl | skip
      all_goals trace_state
    | true =>
      have hj2 : 2 ≤ j := by have := hw.2.2.2 hsg; omega
      have h8 : ((8 * j : Nat) : Int) - 1 = ((8 * j - 1 : Nat) : Int) := by omega
      have h8b : (8 : Int) * j = ((8 * j : Nat) : Int) := by omega
      have s1 := shl1 (m := 8 * j - 1) (by omega)
      have s2 := shl1 (m := 8 * j) (by omega)
      by_cases hc : (2 : Int) ^ (8 * j - 1) ≤ leI s p j
      · have ea : argV s p j true = leI s p j - 2 ^ (8 * j) := by unfold argV; rw [if_pos ⟨rfl, hc⟩]
        rw [ea]
        (repeat' (first | refine WP.seq ?_ | refine WP.block ?_ | ((first | refine WP.region ?_ | refine WP.condW ?_ | refine WP.ret ?_ | refine WP.exit ?_ | refine WP.skip ?_); simp only [go_sem, hge, h8, h8b, s1, s2, hc, tyAll, Nat.reduceAdd, Nat.reduceLT, Nat.reduceLeDiff, Nat.reduceEqDiff, Nat.reduceMul, Nat.reduceSub, Nat.reduceGT, reduceIte, Int.reduceNeg, Int.reduceToNat]) | ((first | refine WP.drawW 13 (by decide +kernel) (by kernel_rfl) ?_ | refine WP.drawW 10 (by decide +kernel) (by kernel_rfl) ?_ | refine WP.drawW 6 (by decide +kernel) (by kernel_rfl) ?_); simp only [go_sem, hge, h8, h8b, s1, s2, hc, tyAll, Nat.reduceAdd, Nat.reduceLT, Nat.reduceLeDiff, Nat.reduceEqDiff, Nat.reduceMul, Nat.reduceSub, Nat.reduceGT, reduceIte, Int.reduceNeg, Int.reduceToNat]) |  refine And.intro ?_ ?_ | intro _))
        all_goals first | omega | exact ⟨_, _, rfl, _, _, rfl, rfl⟩ | rfl | skip
        all_goals trace_state
      · have ea : argV s p j true = leI s p j := by unfold argV; rw [if_neg fun h => hc h.2]
        rw [ea]
        (repeat' (first | refine WP.seq ?_ | refine WP.block ?_ | ((first | refine WP.region ?_ | refine WP.condW ?_ | refine WP.ret ?_ | refine WP.exit ?_ | refine WP.skip ?_); simp only [go_sem, hge, h8, h8b, s1, s2, hc, tyAll, Nat.reduceAdd, Nat.reduceLT, Nat.reduceLeDiff, Nat.reduceEqDiff, Nat.reduceMul, Nat.reduceSub, Nat.reduceGT, reduceIte, Int.reduceNeg, Int.reduceToNat]) | ((first | refine WP.drawW 13 (by decide +kernel) (by kernel_rfl) ?_ | refine WP.drawW 10 (by decide +kernel) (by kernel_rfl) ?_ | refine WP.drawW 6 (by decide +kernel) (by kernel_rfl) ?_); simp only [go_sem, hge, h8, h8b, s1, s2, hc, tyAll, Nat.reduceAdd, Nat.reduceLT, Nat.reduceLeDiff, Nat.reduceEqDiff, Nat.reduceMul, Nat.reduceSub, Nat.reduceGT, reduceIte, Int.reduceNeg, Int.reduceToNat]) |  refine And.intro ?_ ?_ | intro _))
        all_goals first | omega | exact ⟨_, _, rfl, _, _, rfl, rfl⟩ | rfl | skip
        all_goals trace_state
end
end
section
open Go.Vc
set_option linter.unusedSimpArgs false
set_option linter.unusedVariables false
set_option maxHeartbeats 1000000
set_option maxRecDepth 10000
attribute [local irreducible] Go.Vc.WP
attribute [local go_sem] cx0_t cx0_c
open Go.Pl
def oneOp : List SV → Op
  | [.v (.int _ a), .v (.int _ b)] => ⟨a, b⟩
  | _ => ⟨0, 0⟩
def decOps (rows : List (List SV)) : List Op := rows.map oneOp
theorem decOps_enc (L : List Op) : decOps (L.map encOp) = L := by
  unfold decOps
  rw [List.map_map]
  exact List.map_id'' (fun _ => rfl) L
theorem isV_Op {e s : Nat} (L : List Op) : (Ob.sl e s (L.map encOp)).isV ↔ True := iff_true_intro (by
  intro row hr c hc
  obtain ⟨n, _, rfl⟩ := List.mem_map.1 hr
  simp only [encOp, List.mem_cons, List.not_mem_nil, or_false] at hc
  rcases hc with rfl | rfl <;> exact ⟨_, rfl⟩)
attribute [local go_sem] isV_Op decOps_enc
def disGo (s : ByteArray) : Nat → Nat → Option (List Op)
  | 0, _ => some []
  | f + 1, p => if p < s.size then (match decOp s p with
      | some x => (disGo s f (p + x.2.toNat)).map (x.1 :: ·)
      | none => none) else some []
def disasm (s : ByteArray) : Option (List Op) := disGo s (s.size + 1) 0
theorem decOp_size {s : ByteArray} {p : Int} {x : Op × Int} (h : decOp s p = some x) : 1 ≤ x.2 ∧ x.2 ≤ 5 ∧ p + x.2 ≤ s.size := by
  unfold decOp at h
  split at h
  · split at h
    · rename_i h1 h2
      cases h
      have := opSize_bd (byt s p.toNat)
      simp only
      omega
    · cases h
  · cases h
def kDis : Ctr := pur (fun args => aS args 0) (fun s => [.v (.string s)]) (fun s => s.size ≤ 4194304)
  (fun d s => .tup [.own d, .v (.bool (disasm s).isSome)]) (fun d s => [(d, .sl 225 2 (((disasm s).getD []).map encOp))])
structure DisI (s : ByteArray) (q : Nat × List Op) : Prop where
  le : q.1 ≤ s.size
  len : q.2.length ≤ q.1
  eq : ∃ f, s.size + 1 ≤ f + q.1 ∧ disasm s = (disGo s f q.1).map (q.2 ++ ·)
theorem DisI.zero (s : ByteArray) : DisI s (0, []) := ⟨by simp, by simp, s.size + 1, by simp, by unfold disasm; simp⟩
theorem DisI.bad {s : ByteArray} {q : Nat × List Op} (h : DisI s q) (hq : q.1 < s.size) (hb : decOp s q.1 = none) : disasm s = none := by
  obtain ⟨f, hf, e⟩ := h.eq
  obtain ⟨g, rfl⟩ : ∃ g, f = g + 1 := ⟨f - 1, by omega⟩
  rw [e, disGo, if_pos hq, hb]; rfl
theorem DisI.next {s : ByteArray} {q : Nat × List Op} (h : DisI s q) (hq : q.1 < s.size) {x : Op × Int} (hb : decOp s q.1 = some x) : DisI s (q.1 + x.2.toNat, q.2 ++ [x.1]) := by
  obtain ⟨f, hf, e⟩ := h.eq
  obtain ⟨g, rfl⟩ : ∃ g, f = g + 1 := ⟨f - 1, by omega⟩
  have hs := decOp_size hb
  have hl := h.len
  refine ⟨by simp only; omega, by simp; omega, g, by simp only; omega, ?_⟩
  rw [e, disGo, if_pos hq, hb]
  simp only [Option.map_map]
  congr 1
  funext l
  simp
theorem DisI.done {s : ByteArray} {q : Nat × List Op} (h : DisI s q) (hq : ¬ q.1 < s.size) : disasm s = some q.2 := by
  obtain ⟨f, hf, e⟩ := h.eq
  have : disGo s f q.1 = some [] := by
    cases f with
    | zero => rfl
    | succ g => rw [disGo, if_neg hq]
  rw [e, this]; simp
section
noncomputable def cxDiI : Cx := { P := Try.prog, tys := tys, C := [(157, kDecOp)], hty := tysOk, hC := COk.cons cDecOpI (COk.nil _) }
theorem cxDiI_t : cxDiI.tys = tys := rfl
theorem cxDiI_c : cxDiI.C = [(157, kDecOp)] := rfl
attribute [local go_sem] cxDiI_t cxDiI_c kDecOp
theorem cDisI : Cn Try.prog 152 kDis := by
  refine Cn.pur Try.func152 (by kernel_rfl) rfl fun d x hx => ?_
  rename ByteArray => s
  refine Holds.go (c := cxDiI) Try.func152 rfl Try.results152 Try.ntmps152 (by omega) (by simp) rfl ?_
  intro X0 w0
  (repeat' (first | refine WP.seq ?_ | refine WP.block ?_ | ((first | refine WP.region ?_ | refine WP.condW ?_ | refine WP.ret ?_ | refine WP.exit ?_ | refine WP.skip ?_); simp only [go_sem, tyAll, Nat.reduceAdd, Nat.reduceLT, Nat.reduceLeDiff, Nat.reduceEqDiff, Nat.reduceMul, Nat.reduceSub, Nat.reduceGT, reduceIte, Int.reduceNeg, Int.reduceToNat]) |  refine And.intro ?_ ?_ | intro _))
  all_goals first | omega | skip
  refine WP.loop (fun q : Nat × List Op => ⟨[(0, .v (.string s)), (4, .own 9), (5, .v (.int .i64 q.1))], [(9, .sl 225 2 (q.2.map encOp))]⟩) (fun q => DisI s q) (fun q => s.size - q.1) (0, []) (DisI.zero s) ?_ ?_
  · (simp only [go_sem, tyAll, Nat.reduceAdd, Nat.reduceLT, Nat.reduceLeDiff, Nat.reduceEqDiff, Nat.reduceMul, Nat.reduceSub, Nat.reduceGT, reduceIte, Int.reduceNeg, Int.reduceToNat] <;> (first | rfl | exact ⟨rfl, rfl⟩ | exact ⟨rfl, rfl, rfl⟩ | exact ⟨rfl, rfl, rfl, rfl⟩ | exact ⟨rfl, rfl, rfl, rfl, rfl⟩ | exact ⟨⟨rfl, rfl⟩, rfl⟩ | simp))
  rintro ⟨p, A⟩ hI
  have h1 := hI.le
  have h2 := hI.len
  simp only at h1 h2 ⊢
  by_cases hlt : p < s.size
  · have hli : (p : Int) < s.size := by omega
    cases hb : decOp s p with
    | none =>
      have e := hI.bad hlt hb
      have hN : (none : Option (Op × Int)).map (·.1) = none := rfl
      (repeat' (first | refine WP.seq ?_ | refine WP.block ?_ | ((first | refine WP.region ?_ | refine WP.condW ?_ | refine WP.ret ?_ | refine WP.exit ?_ | refine WP.skip ?_); simp only [go_sem, hli, hb, e, tyAll, Nat.reduceAdd, Nat.reduceLT, Nat.reduceLeDiff, Nat.reduceEqDiff, Nat.reduceMul, Nat.reduceSub, Nat.reduceGT, reduceIte, Int.reduceNeg, Int.reduceToNat]) |  refine And.intro ?_ ?_ | intro _))
      all_goals first | omega | (rw [e]; first | rfl | exact ⟨_, _, rfl⟩) | exact ⟨_, _, rfl⟩ | skip
      all_goals trace_state
    | some x =>
      have e := hI.next hlt hb
      have hs := decOp_size hb
      obtain ⟨n, hn⟩ : ∃ n : Nat, x.2 = n := ⟨_, (Int.toNat_of_nonneg (by omega)).symm⟩
      rw [hn, Int.toNat_natCast] at e
      simp only at e
      (repeat' (first | refine WP.seq ?_ | refine WP.block ?_ | ((first | refine WP.region ?_ | refine WP.condW ?_ | refine WP.ret ?_ | refine WP.exit ?_ | refine WP.skip ?_); simp only [go_sem, hli, hb, hn, tyAll, Nat.reduceAdd, Nat.reduceLT, Nat.reduceLeDiff, Nat.reduceEqDiff, Nat.reduceMul, Nat.reduceSub, Nat.reduceGT, reduceIte, Int.reduceNeg, Int.reduceToNat]) |  refine And.intro ?_ ?_ | intro _))
      all_goals first | omega | skip
      all_goals first | exact ⟨(p + n, A ++ [x.1]), e, by simp only; omega, by rw [Int.natCast_add], by rw [List.map_append]; rfl⟩ | trace_state
  · have hge : ¬ (p : Int) < s.size := by omega
    have e := hI.done hlt
    (repeat' (first | refine WP.seq ?_ | refine WP.block ?_ | ((first | refine WP.region ?_ | refine WP.condW ?_ | refine WP.ret ?_ | refine WP.exit ?_ | refine WP.skip ?_); simp only [go_sem, hge, e, tyAll, Nat.reduceAdd, Nat.reduceLT, Nat.reduceLeDiff, Nat.reduceEqDiff, Nat.reduceMul, Nat.reduceSub, Nat.reduceGT, reduceIte, Int.reduceNeg, Int.reduceToNat]) |  refine And.intro ?_ ?_ | intro _))
    all_goals first | omega | (rw [e]; rfl) | skip
    all_goals trace_state
end
section
noncomputable def cxDiS : Cx := { P := Try.prog, tys := tys, C := [(155, kDecOp)], hty := tysOk, hC := COk.cons cDecOpS (COk.nil _) }
theorem cxDiS_t : cxDiS.tys = tys := rfl
theorem cxDiS_c : cxDiS.C = [(155, kDecOp)] := rfl
attribute [local go_sem] cxDiS_t cxDiS_c kDecOp
theorem cDisS : Cn Try.prog 150 kDis := by
  refine Cn.pur Try.func150 (by kernel_rfl) rfl fun d x hx => ?_
  rename ByteArray => s
  refine Holds.go (c := cxDiS) Try.func150 rfl Try.results150 Try.ntmps150 (by omega) (by simp) rfl ?_
  intro X0 w0
  (repeat' (first | refine WP.seq ?_ | refine WP.block ?_ | ((first | refine WP.region ?_ | refine WP.condW ?_ | refine WP.ret ?_ | refine WP.exit ?_ | refine WP.skip ?_); simp only [go_sem, tyAll, Nat.reduceAdd, Nat.reduceLT, Nat.reduceLeDiff, Nat.reduceEqDiff, Nat.reduceMul, Nat.reduceSub, Nat.reduceGT, reduceIte, Int.reduceNeg, Int.reduceToNat]) |  refine And.intro ?_ ?_ | intro _))
  all_goals first | omega | skip
  refine WP.loop (fun q : Nat × List Op => ⟨[(0, .v (.string s)), (4, .own 9), (5, .v (.int .i64 q.1))], [(9, .sl 225 2 (q.2.map encOp))]⟩) (fun q => DisI s q) (fun q => s.size - q.1) (0, []) (DisI.zero s) ?_ ?_
  · (simp only [go_sem, tyAll, Nat.reduceAdd, Nat.reduceLT, Nat.reduceLeDiff, Nat.reduceEqDiff, Nat.reduceMul, Nat.reduceSub, Nat.reduceGT, reduceIte, Int.reduceNeg, Int.reduceToNat] <;> (first | rfl | exact ⟨rfl, rfl⟩ | exact ⟨rfl, rfl, rfl⟩ | exact ⟨rfl, rfl, rfl, rfl⟩ | exact ⟨rfl, rfl, rfl, rfl, rfl⟩ | exact ⟨⟨rfl, rfl⟩, rfl⟩ | simp))
  rintro ⟨p, A⟩ hI
  have h1 := hI.le
  have h2 := hI.len
  simp only at h1 h2 ⊢
  by_cases hlt : p < s.size
  · have hli : (p : Int) < s.size := by omega
    cases hb : decOp s p with
    | none =>
      have e := hI.bad hlt hb
      have hN : (none : Option (Op × Int)).map (·.1) = none := rfl
      (repeat' (first | refine WP.seq ?_ | refine WP.block ?_ | ((first | refine WP.region ?_ | refine WP.condW ?_ | refine WP.ret ?_ | refine WP.exit ?_ | refine WP.skip ?_); simp only [go_sem, hli, hb, e, tyAll, Nat.reduceAdd, Nat.reduceLT, Nat.reduceLeDiff, Nat.reduceEqDiff, Nat.reduceMul, Nat.reduceSub, Nat.reduceGT, reduceIte, Int.reduceNeg, Int.reduceToNat]) |  refine And.intro ?_ ?_ | intro _))
      all_goals first | omega | (rw [e]; first | rfl | exact ⟨_, _, rfl⟩) | exact ⟨_, _, rfl⟩ | skip
      all_goals trace_state
    | some x =>
      have e := hI.next hlt hb
      have hs := decOp_size hb
      obtain ⟨n, hn⟩ : ∃ n : Nat, x.2 = n := ⟨_, (Int.toNat_of_nonneg (by omega)).symm⟩
      rw [hn, Int.toNat_natCast] at e
      simp only at e
      (repeat' (first | refine WP.seq ?_ | refine WP.block ?_ | ((first | refine WP.region ?_ | refine WP.condW ?_ | refine WP.ret ?_ | refine WP.exit ?_ | refine WP.skip ?_); simp only [go_sem, hli, hb, hn, tyAll, Nat.reduceAdd, Nat.reduceLT, Nat.reduceLeDiff, Nat.reduceEqDiff, Nat.reduceMul, Nat.reduceSub, Nat.reduceGT, reduceIte, Int.reduceNeg, Int.reduceToNat]) |  refine And.intro ?_ ?_ | intro _))
      all_goals first | omega | skip
      all_goals first | exact ⟨(p + n, A ++ [x.1]), e, by simp only; omega, by rw [Int.natCast_add], by rw [List.map_append]; rfl⟩ | trace_state
  · have hge : ¬ (p : Int) < s.size := by omega
    have e := hI.done hlt
    (repeat' (first | refine WP.seq ?_ | refine WP.block ?_ | ((first | refine WP.region ?_ | refine WP.condW ?_ | refine WP.ret ?_ | refine WP.exit ?_ | refine WP.skip ?_); simp only [go_sem, hge, e, tyAll, Nat.reduceAdd, Nat.reduceLT, Nat.reduceLeDiff, Nat.reduceEqDiff, Nat.reduceMul, Nat.reduceSub, Nat.reduceGT, reduceIte, Int.reduceNeg, Int.reduceToNat]) |  refine And.intro ?_ ?_ | intro _))
    all_goals first | omega | (rw [e]; rfl) | skip
    all_goals trace_state
end
end
end Go.Proofs.Ytdbjioanlkilkaa
/-
  DERIVED. From what a row says of its arguments to values that stand for lists, and from a contract to what a row says behind the call.
-/
namespace Go.Vc
open Go.RowKit Go.WideShapes Go.ChangeShapes Go.Deep
set_option linter.unusedVariables false

section
variable {H : Type} {enc : TypeId × Value → H} {P : Program} {w : World}

/-- a row of cells that is read -/
def Cells (w : World) (row : List SV) (cs : List Value) : Prop :=
  row.length = cs.length ∧ ∀ (k : Nat) (c : SV) (u : Value), row[k]? = some c → cs[k]? = some u → u.oneCell' = true ∧ Rp w (fun _ => False) c u

/-- what is read of type t stands for some a -/
def Dec (H : Type) (enc : TypeId × Value → H) (P : Program) (w : World) (t : TypeId) {α : Type} (e : α → List SV) (wf : α → Prop) : Prop :=
  ∀ (base : Nat) (sp : Nat → Bool) (held : Bool) (n : Nat) (cs : List Value) (y : DataW H × List MemPlace), DataW.trod enc P w base sp held n t cs = some y → ∃ a : α, wf a ∧ Cells w (e a) cs

theorem cells_one_v {v : Value} (h : v.oneCell' = true) : Cells w [.v v] [v] := ⟨rfl, fun k c u hc hu => by
  cases k with
  | zero => simp at hc hu; subst hc hu; exact ⟨h, .v _⟩
  | succ k => simp at hc⟩

theorem Dec.int {t : TypeId} {k : IntKind} (ht : P.underlying t = some (.int k)) : Dec H enc P w t (fun n : Int => [.v (.int k n)]) (fun n => k.min ≤ n ∧ n ≤ k.max) := by
  intro base sp held n cs y h
  obtain ⟨m, rfl, rfl, hw⟩ := DataW.trod_int ht h
  exact ⟨m, by simpa [Lit.wf] using hw, cells_one_v rfl⟩
theorem Dec.bool {t : TypeId} (ht : P.underlying t = some .bool) : Dec H enc P w t (fun b : Bool => [.v (.bool b)]) (fun _ => True) := by
  intro base sp held n cs y h
  obtain ⟨m, rfl, rfl⟩ := DataW.trod_bool ht h
  exact ⟨m, trivial, cells_one_v rfl⟩
theorem Dec.string {t : TypeId} (ht : P.underlying t = some .string) : Dec H enc P w t (fun s : ByteArray => [.v (.string s)]) (fun s => s.size ≤ maxLen) := by
  intro base sp held n cs y h
  obtain ⟨m, rfl, rfl, hw⟩ := DataW.trod_string ht h
  exact ⟨m, hw, cells_one_v rfl⟩

theorem choose_list {α : Type} {p : Nat → α → Prop} : ∀ n : Nat, (∀ i, i < n → ∃ a, p i a) → ∃ L : List α, L.length = n ∧ ∀ i a, L[i]? = some a → p i a
  | 0, _ => ⟨[], rfl, by simp⟩
  | n + 1, h => by
    obtain ⟨L, hl, hp⟩ := choose_list n (fun i hi => h i (by omega))
    obtain ⟨a, ha⟩ := h n (by omega)
    refine ⟨L ++ [a], by simp [hl], fun i b hi => ?_⟩
    rw [List.getElem?_append] at hi
    split at hi
    · exact hp i b hi
    · rename_i hge
      have : i = n := by
        have := (List.getElem?_eq_some_iff.1 hi).1
        simp at this; omega
      subst this
      rw [hl] at hi
      simp at hi
      subst hi
      exact ha

theorem spot_none {a : Addr} {u : Value} (h : w.cell? a = some u) : a.spot = none ∧ a.block < w.heap.size := by
  unfold World.cell? at h
  split at h
  · rename_i c _ _ hh
    refine ⟨?_, lt_of_heap hh⟩
    split at h
    · cases h
    · rename_i hs; simpa using hs
  · cases h
theorem addr_add {a : Addr} (h : a.spot = none) (n : Nat) : a.add n = ⟨a.block, a.off + n, none⟩ := by
  obtain ⟨b, o, s⟩ := a
  simp only at h
  subst h
  unfold Addr.add
  split
  · rename_i hn; subst hn; rfl
  · rfl

theorem Dec.slice {t e : TypeId} {s : Nat} {α : Type} {en : α → List SV} {wf : α → Prop} (ht : P.underlying t = some (.slice e)) (hs : P.cellsOf e = s) (hs0 : 0 < s) (hd : Dec H enc P w e en wf) (hen : ∀ a, (en a).length = s) :
    Dec H enc P w t (fun L : List α => [.sl s (L.map en)]) (fun L => L.length ≤ maxLen ∧ ∀ a ∈ L, wf a) := by
  intro base sp held n cs y h
  rcases open_slice ht h with ⟨rfl, _⟩ | ⟨a, len, cap, m, n', D, Pl, rfl, _, hlc, hcm, hm, _, hcell⟩
  · exact ⟨[], by simp, rfl, fun k c u hc hu => by
      cases k with
      | zero => simp at hc hu; subst hc hu; exact ⟨rfl, .nil s _ _⟩
      | succ k => simp at hc⟩
  have hlm : len ≤ m := by rw [hm]; split <;> omega
  have key : ∀ i, i < len → ∃ x : α, wf x ∧ ∃ cs', w.cells? base (a.add (i * s)) s = some cs' ∧ Cells w (en x) cs' := fun i hi => by
    obtain ⟨cs', h1, h2⟩ := hcell i (by omega)
    rw [hs] at h1
    obtain ⟨x, hx, hc⟩ := hd _ _ _ _ _ _ h2
    exact ⟨x, hx, cs', h1, hc⟩
  obtain ⟨L, hl, hL⟩ := choose_list len key
  refine ⟨L, ⟨by unfold maxLen at hcm ⊢; omega, fun x hx => ?_⟩, rfl, fun k c u hc hu => ?_⟩
  · obtain ⟨i, hi⟩ := List.mem_iff_getElem?.1 hx
    exact (hL i x hi).1
  cases k with
  | succ k => simp at hc
  | zero =>
    simp at hc hu
    subst hc hu
    refine ⟨rfl, ?_⟩
    rcases Nat.eq_zero_or_pos len with h0 | h0
    · have : L = [] := List.eq_nil_of_length_eq_zero (by omega)
      subst this
      subst h0
      exact .nil s _ _
    · have hspot : a.spot = none ∧ a.block < w.heap.size := by
        have hx : L[0]? = some (L[0]'(by omega)) := List.getElem?_eq_getElem (by omega)
        obtain ⟨_, cs', h1, _⟩ := hL 0 _ hx
        obtain ⟨_, hcl, hat⟩ := World.cells?_some h1
        have := hat 0 hs0
        have hv : cs'[0]? = some (cs'[0]'(by omega)) := List.getElem?_eq_getElem (by omega)
        rw [hv] at this
        simpa [Addr.add] using spot_none this
      have hav : a = ⟨a.block, a.off, none⟩ := by
        obtain ⟨b, o, sp⟩ := a
        simp only at hspot
        rw [hspot.1]
      have cell : ∀ (i k : Nat) (row : List SV) (c : SV), (L.map en)[i]? = some row → row[k]? = some c → ∃ u, w.cell? ⟨a.block, a.off + (i * s + k), none⟩ = some u ∧ u.oneCell' = true ∧ Rp w (fun _ => False) c u := fun i k row c hr hc => by
        rw [List.getElem?_map] at hr
        cases hx : L[i]? with
        | none => rw [hx] at hr; cases hr
        | some x =>
          rw [hx] at hr
          simp only [Option.map_some, Option.some.injEq] at hr
          subst hr
          obtain ⟨_, cs', h1, h2, h3⟩ := hL i x hx
          obtain ⟨_, hcl, hat⟩ := World.cells?_some h1
          have hk : k < s := by rw [← hen x]; exact (List.getElem?_eq_some_iff.1 hc).1
          have hv : cs'[k]? = some (cs'[k]'(by omega)) := List.getElem?_eq_getElem (by omega)
          have := hat k hk
          rw [hv, addr_add hspot.1, addr_add (by rfl)] at this
          simp only at this
          rw [Nat.add_assoc] at this
          obtain ⟨h4, h5⟩ := h3 k c _ hc hv
          exact ⟨_, this, h4, h5⟩
      have hll : (L.map en).length = len := by simp [hl]
      have := Rp.sl (w := w) (X := fun _ => False) (s := s) (rows := L.map en) a.block a.off cap (fun i k => (w.cell? ⟨a.block, a.off + (i * s + k), none⟩).getD undef) (fun h => h) hspot.2 (by omega) (fun i row hr => by
          rw [List.getElem?_map] at hr
          cases hx : L[i]? with
          | none => rw [hx] at hr; cases hr
          | some x => rw [hx] at hr; simp only [Option.map_some, Option.some.injEq] at hr; subst hr; exact hen x) (fun i k row c hr hc => by
          obtain ⟨u, h1, _⟩ := cell i k row c hr hc; rw [h1]; rfl) (fun i k row c hr hc => by
          obtain ⟨u, h1, h2, _⟩ := cell i k row c hr hc; rw [h1]; exact h2) (fun i k row c hr hc => by
          obtain ⟨u, h1, _, h2⟩ := cell i k row c hr hc; rw [h1]; exact h2)
      rw [← hav, hll] at this
      exact this

/-- a struct's fields, each one cell -/
theorem trod_fields {t : TypeId} {fs : Array Field} {base n : Nat} {sp : Nat → Bool} {held : Bool} {cs : List Value} {y : DataW H × List MemPlace} (ht : P.underlying t = some (.struct fs)) (hone : oneCellFields P fs = true) (hC : P.cellsOf t = fs.size)
    (h : DataW.trod enc P w base sp held n t cs = some y) : cs.length = fs.size ∧ ∀ (j : Nat) (f : Field), fs[j]? = some f → ∃ (v : Value) (n' : Nat) (z : DataW H × List MemPlace), cs[j]? = some v ∧ DataW.trod enc P w base sp held n' f.type [v] = some z := by
  obtain ⟨ys, n', _, _, hlen, hyl, hf⟩ := DataW.trod_struct ht h
  refine ⟨hlen.trans hC, fun j f hj => ?_⟩
  obtain ⟨ho, hk⟩ := hone_of hone j f hj
  have hjl : j < fs.size := (Array.getElem?_eq_some_iff.1 hj).1
  have hv : cs[j]? = some (cs[j]'(by omega)) := List.getElem?_eq_getElem (by omega)
  have h1 := hf j f hj
  rw [ho, hk] at h1
  have hone' : (cs.drop j).take 1 = [cs[j]'(by omega)] := by
    rw [List.drop_eq_getElem_cons (by omega)]
    rfl
  rw [hone'] at h1
  have hys : ys[j]? = some (ys[j]'(by omega)) := List.getElem?_eq_getElem (by omega)
  exact ⟨_, n', _, hv, h1.trans hys⟩
theorem cells_vs {row : List SV} {cs : List Value} (h : row = cs.map .v) (h1 : ∀ u ∈ cs, u.oneCell' = true) : Cells w row cs := by
  subst h
  refine ⟨by simp, fun k c u hc hu => ?_⟩
  rw [List.getElem?_map, hu] at hc
  simp only [Option.map_some, Option.some.injEq] at hc
  subst hc
  exact ⟨h1 u (List.mem_of_getElem? hu), .v _⟩
theorem list_of_get {cs vs : List Value} (hl : cs.length = vs.length) (h : ∀ (j : Nat) (v : Value), vs[j]? = some v → cs[j]? = some v) : cs = vs := by
  apply List.ext_getElem?
  intro j
  cases hv : vs[j]? with
  | some v => exact h j v hv
  | none =>
    rw [List.getElem?_eq_none_iff] at hv ⊢
    omega

/-- an argument that is one cell -/
theorem Dec.arg {t : TypeId} {α : Type} {sv : α → SV} {wf : α → Prop} (hd : Dec H enc P w t (fun a => [sv a]) wf) {v : Value} (hv : v.oneCell' = true) {base : Nat} {sp : Nat → Bool} {held : Bool} {d : DataW H} {p : List MemPlace} (h : DataW.Trod enc P w base sp held t v d p) :
    ∃ a, wf a ∧ R w (fun _ => False) (fun _ => .slice none 0 0) (sv a) v := by
  obtain ⟨n, hn⟩ := h
  obtain ⟨a, ha, hl, hc⟩ := hd _ _ _ _ _ _ hn
  rw [cells_one hv] at hl hc
  exact ⟨a, ha, .p (hc 0 _ _ rfl rfl).2⟩
/-- .. that is a struct -/
theorem Dec.argS {t : TypeId} {α : Type} {e : α → List SV} {wf : α → Prop} (hd : Dec H enc P w t e wf) {us : Array Value} {base : Nat} {sp : Nat → Bool} {held : Bool} {d : DataW H} {p : List MemPlace} (h : DataW.Trod enc P w base sp held t (.agg us) d p) :
    ∃ a, wf a ∧ R w (fun _ => False) (fun _ => .slice none 0 0) (.agg (e a)) (.agg us) := by
  obtain ⟨n, hn⟩ := h
  obtain ⟨a, ha, hl, hc⟩ := hd _ _ _ _ _ _ hn
  have e1 : us = us.toList.toArray := by simp
  refine ⟨a, ha, ?_⟩
  rw [e1]
  exact .p (.agg hl fun k c u h1 h2 => (hc k c u h1 h2).2)

theorem okWide_slice1 {base : Nat} {r : Reach} {t e : TypeId} {v : Value} (ht : P.underlying t = some (.slice e)) (h : Value.okWide P w r base t v) : v.oneCell' = true := by
  obtain ⟨a, l, c, rfl⟩ := okWide_slice ht h; rfl
theorem okWide_int1 {base : Nat} {r : Reach} {t : TypeId} {k : IntKind} {v : Value} (ht : P.underlying t = some (.int k)) (h : Value.okWide P w r base t v) : v.oneCell' = true := by
  obtain ⟨a, rfl⟩ := okWide_int ht h; rfl
theorem okWide_string1 {base : Nat} {r : Reach} {t : TypeId} {v : Value} (ht : P.underlying t = some .string) (h : Value.okWide P w r base t v) : v.oneCell' = true := by
  obtain ⟨a, rfl⟩ := okWide_string ht h; rfl
theorem okWide_bool1 {base : Nat} {r : Reach} {t : TypeId} {v : Value} (ht : P.underlying t = some .bool) (h : Value.okWide P w r base t v) : v.oneCell' = true := by
  obtain ⟨a, rfl⟩ := okWide_bool ht h; rfl

/-- what a contract gives of a call with a scalar result -/
theorem Holds.calls {f : FuncId} {args : List SV} {x : Value} (h : Holds P f args (.v x) []) (hG : Grd P w) {vs : List Value} (hl : vs.length = args.length) (ha : ∀ (i : Nat) (c : SV) (u : Value), args[i]? = some c → vs[i]? = some u → R w (fun _ => False) (fun _ => .slice none 0 0) c u) :
    Calls P f vs.toArray w fun e w' => e = .returned x ∧ Below w.heap.size w w' :=
  (h w (fun _ => False) vs hG (fun _ hf => hf.elim) hl ha).mono fun e w' hp => by
    obtain ⟨v, β, rfl, hb, _, hR, _⟩ := hp
    have := hR.v_inv
    subst this
    exact ⟨rfl, hb⟩
end

section
variable {H : Type} {enc : TypeId × Value → H} {P : Program}
theorem post_of_below {f : Func} {s : ChangeSpec} {apart fresh handsOn again : Bool} {W W' : World} {args : Array Value} {v : Value} {ds gs : List (DataW H)} {before pa pv : List MemPlace}
    (hW : DataW.Whole enc P f.params.toList s.vars apart W args.toList ds gs before)
    (hres : ∀ (b : Nat) (sp : Nat → Bool) (hd : Bool), DataW.TrodAll enc P W' b sp hd f.resultTypes.toList (v.resultList f.resultTypes.size) (s.fn H (ds ++ gs)).results [])
    (hargs : ∀ sp : Nat → Bool, (∀ p ∈ before, sp p.block = true) → DataW.TrodAll enc P W' 0 sp true f.params.toList args.toList (s.fn H (ds ++ gs)).args pa)
    (hvars : ∀ sp : Nat → Bool, (∀ p ∈ before, sp p.block = true) → DataW.TrodVars enc P W' sp s.vars (s.fn H (ds ++ gs)).vars pv)
    (hps : before = pa ++ pv) (hb : Below W.heap.size W W')
    (hok : ∀ (j : Nat) (t : TypeId) (r : Value), f.resultTypes[j]? = some t → (v.resultList f.resultTypes.size)[j]? = some r → Value.okWide P W' .any 0 t r) :
    s.post enc P f apart fresh handsOn again W args v W' := by
  have hlt : ∀ p ∈ before, p.block < W.heap.size := fun p hp => hW.lt p hp
  have hold : ∀ p ∈ before, (fun b => decide (b < W.heap.size)) p.block = true := fun p hp => by simpa using hlt p hp
  refine ⟨ds, gs, before, [], pa, pv, hW, hres _ _ _, hargs _ hold, hvars _ hold, World.keptBut_mono (fun p hp => ⟨hp, ?_⟩) (hb.frame (· ∈ before)), fun _ => ?_⟩
  · rw [hps, List.mem_append] at hp
    exact Or.inr hp
  · obtain ⟨_, _, _, _, _, hz, hn⟩ := hW
    refine ⟨hok, _, _, ([] ++ pa) ++ pv, ⟨[] ++ pa, pv, trodAll_append (hargs _ (fun _ _ => rfl)) (hres _ _ _), hvars _ (fun _ _ => rfl), rfl, ?_, ?_⟩, ?_⟩
    · intro b off hp
      have hin : MemPlace.cell b off ∈ before := by rw [hps]; simpa using hp
      rw [hb.frozen (hlt _ hin)]
      exact hz b off hin
    · intro ha
      have := hn ha
      rw [hps] at this
      simpa using this
    · intro p hp _
      rw [hps]
      simpa using hp

/-- the arguments read behind the call as they did before -/
theorem below_args {W W' : World} (hl : laidOutB P = true) (hb : Below W.heap.size W W') (sp : Nat → Bool) : ∀ {ts : List TypeId} {vs : List Value} {ds : List (DataW H)} {ps : List MemPlace}, (ts.all fun t => P.readableRec t && decide (t < P.types.size)) = true →
    DataW.TrodAll enc P W 0 (fun _ => true) true ts vs ds ps → (∀ x ∈ ps, x.block < W.heap.size) → (∀ p ∈ ps, sp p.block = true) → DataW.TrodAll enc P W' 0 sp true ts vs ds ps
  | [], [], [], _, _, h, _, _ => h
  | [], [], _ :: _, _, _, h, _, _ => h.elim
  | [], _ :: _, _, _, _, h, _, _ => h.elim
  | _ :: _, [], _, _, _, h, _, _ => h.elim
  | _ :: _, _ :: _, [], _, _, h, _, _ => h.elim
  | t :: ts, v :: vs, d :: ds, ps, hr, h, hlt, hsp => by
    obtain ⟨p, q, h1, h2, rfl⟩ := h
    simp only [List.all_cons, Bool.and_eq_true, decide_eq_true_eq] at hr
    refine ⟨p, q, ?_, below_args hl hb sp hr.2 h2 (fun x hx => hlt x (by simp [hx])) (fun x hx => hsp x (by simp [hx])), rfl⟩
    exact WideElems.Trod_stays hl hr.1.1 hr.1.2 h1 (fun x hx => hb.same (hlt x (by simp [hx]))) (fun x hx => hsp x (by simp [hx]))

/-- **From a call that answers a bool and leaves what was there as it was, to what the row says.** -/
theorem law_post {tb : TypeId} {f : Func} {s : ChangeSpec} {apart fresh handsOn again : Bool} {W W' : World} {args : Array Value} {b : Bool} {ds gs : List (DataW H)} {before : List MemPlace} (hl : laidOutB P = true)
    (hW : DataW.Whole enc P f.params.toList s.vars apart W args.toList ds gs before) (hvs : s.vars = []) (hrt : f.resultTypes = #[tb]) (htb : P.underlying tb = some .bool) (hread : (f.params.toList.all fun t => P.readableRec t && decide (t < P.types.size)) = true)
    (hres : (s.fn H (ds ++ gs)).results = [.lit (.bool b)]) (hargs : (s.fn H (ds ++ gs)).args = ds) (hvars : (s.fn H (ds ++ gs)).vars = []) (hb : Below W.heap.size W W') :
    s.post enc P f apart fresh handsOn again W args (.bool b) W' := by
  have hW' := hW
  obtain ⟨p, q, hA, hV, rfl, hfz, hnd⟩ := hW
  rw [hvs] at hV
  obtain ⟨rfl, rfl⟩ := trodVars_none hV
  have hlt : ∀ x ∈ p, x.block < W.heap.size := fun x hx => hW'.lt x (by simp [hx])
  refine post_of_below (pa := p) (pv := []) hW' (fun bb sp hd => ?_) (fun sp hsp => ?_) (fun sp hsp => ?_) rfl hb (fun j t r h1 h2 => ?_)
  · rw [hres, hrt]
    exact trodAll_cons_mk (shut_bool htb _) trodAll_mk0
  · rw [hargs]
    exact below_args hl hb sp hread hA hlt (fun x hx => hsp x (by simp [hx]))
  · rw [hvars, hvs]; rfl
  · exact ok_one hrt rfl (okWide_bool_mk htb _) j t r h1 h2
end
end Go.Vc

