/-
  DERIVED. The seat's table of types, as VcB wants it. Made by program (mk_tab.py).
-/
import Derived.Test.YtdbjioanlkilkaaVcT
import Derived.Test.YtdbjioanlkilkaaProg
import Derived.KernelRfl
namespace Go.Proofs.Ytdbjioanlkilkaa
open Go.Vc
def td2 : TyD := { kind := 4, size := 1, bytes := 8, z := [.int .i64 0], ik := some .i64 } -- int64
def td3 : TyD := { kind := 4, size := 1, bytes := 8, z := [.int .i64 0], ik := some .i64 } -- int
def td4 : TyD := { kind := 5, size := 1, bytes := 1, z := [.bool false] } -- bool
def td5 : TyD := { kind := 4, size := 1, bytes := 1, z := [.int .u8 0], ik := some .u8 } -- uint8
def td9 : TyD := { kind := 2, size := 1, bytes := 16, z := [.string ⟨#[]⟩] } -- string
def td12 : TyD := { kind := 4, size := 1, bytes := 8, z := [.int .u64 0], ik := some .u64 } -- uintptr
def td21 : TyD := { kind := 4, size := 1, bytes := 4, z := [.int .i32 0], ik := some .i32 } -- int32
def td22 : TyD := { kind := 1, size := 1, bytes := 24, z := [.slice none 0 0], elem := 97 } -- []laws.Line
def td23 : TyD := { kind := 1, size := 1, bytes := 24, z := [.slice none 0 0], elem := 3 } -- []int
def td25 : TyD := { kind := 1, size := 1, bytes := 24, z := [.slice none 0 0], elem := 100 } -- []impl.Frame
def td27 : TyD := { kind := 1, size := 1, bytes := 24, z := [.slice none 0 0], elem := 103 } -- []impl.Line
def td37 : TyD := { kind := 1, size := 1, bytes := 24, z := [.slice none 0 0], elem := 5 } -- []uint8
def td39 : TyD := { kind := 1, size := 1, bytes := 24, z := [.slice none 0 0], elem := 187 } -- []impl.Node
def td41 : TyD := { kind := 3, size := 1, bytes := 24, z := [.slice none 0 0], offs := [(0, 1)] } -- impl.Stacks
def td43 : TyD := { kind := 3, size := 2, bytes := 48, z := [.slice none 0 0, .slice none 0 0], offs := [(0, 1), (1, 1)] } -- impl.Profile
def td46 : TyD := { kind := 1, size := 1, bytes := 24, z := [.slice none 0 0], elem := 125 } -- []impl.TreeNode
def td49 : TyD := { kind := 1, size := 1, bytes := 24, z := [.slice none 0 0], elem := 52 } -- []impl.Box
def td52 : TyD := { kind := 3, size := 4, bytes := 32, z := [.int .i64 0, .int .i64 0, .int .i64 0, .int .i64 0], offs := [(0, 1), (1, 1), (2, 1), (3, 1)], eqs := [4, 4, 4, 4] } -- impl.Box
def td55 : TyD := { kind := 1, size := 1, bytes := 24, z := [.slice none 0 0], elem := 127 } -- [][]laws.Frame
def td59 : TyD := { kind := 1, size := 1, bytes := 24, z := [.slice none 0 0], elem := 25 } -- [][]impl.Frame
def td66 : TyD := { kind := 1, size := 1, bytes := 24, z := [.slice none 0 0], elem := 217 } -- []laws.Image
def td68 : TyD := { kind := 3, size := 3, bytes := 72, z := [.slice none 0 0, .slice none 0 0, .slice none 0 0], offs := [(0, 1), (1, 1), (2, 1)] } -- laws.Space
def td69 : TyD := { kind := 1, size := 1, bytes := 24, z := [.slice none 0 0], elem := 197 } -- []laws.Machine
def td71 : TyD := { kind := 3, size := 7, bytes := 120, z := [.slice none 0 0, .slice none 0 0, .slice none 0 0, .slice none 0 0, .int .i64 0, .int .i64 0, .int .i64 0], offs := [(0, 3), (3, 1), (4, 1), (5, 1), (6, 1)] } -- laws.Process
def td73 : TyD := { kind := 3, size := 4, bytes := 32, z := [.int .i64 0, .int .i64 0, .int .i64 0, .int .i64 0], offs := [(0, 1), (1, 1), (2, 1), (3, 1)], eqs := [4, 4, 4, 4] } -- laws.Timer
def td74 : TyD := { kind := 1, size := 1, bytes := 24, z := [.slice none 0 0], elem := 9 } -- []string
def td76 : TyD := { kind := 3, size := 4, bytes := 48, z := [.int .i64 0, .slice none 0 0, .int .i64 0, .int .i64 0], offs := [(0, 1), (1, 1), (2, 1), (3, 1)] } -- laws.Ring
def td78 : TyD := { kind := 3, size := 18, bytes := 224, z := [.slice none 0 0, .slice none 0 0, .slice none 0 0, .slice none 0 0, .int .i64 0, .int .i64 0, .int .i64 0, .int .i64 0, .int .i64 0, .int .i64 0, .int .i64 0, .int .i64 0, .slice none 0 0, .int .i64 0, .int .i64 0, .int .i64 0, .int .i64 0, .int .i64 0], offs := [(0, 7), (7, 4), (11, 4), (15, 1), (16, 1), (17, 1)] } -- laws.Session
def td81 : TyD := { kind := 1, size := 1, bytes := 24, z := [.slice none 0 0], elem := 201 } -- []impl.Image
def td83 : TyD := { kind := 3, size := 3, bytes := 72, z := [.slice none 0 0, .slice none 0 0, .slice none 0 0], offs := [(0, 1), (1, 1), (2, 1)] } -- impl.Space
def td84 : TyD := { kind := 1, size := 1, bytes := 24, z := [.slice none 0 0], elem := 174 } -- []impl.Machine
def td86 : TyD := { kind := 3, size := 7, bytes := 120, z := [.slice none 0 0, .slice none 0 0, .slice none 0 0, .slice none 0 0, .int .i64 0, .int .i64 0, .int .i64 0], offs := [(0, 3), (3, 1), (4, 1), (5, 1), (6, 1)] } -- impl.Process
def td87 : TyD := { kind := 3, size := 4, bytes := 32, z := [.int .i64 0, .int .i64 0, .int .i64 0, .int .i64 0], offs := [(0, 1), (1, 1), (2, 1), (3, 1)], eqs := [4, 4, 4, 4] } -- impl.Timer
def td88 : TyD := { kind := 3, size := 4, bytes := 48, z := [.int .i64 0, .slice none 0 0, .int .i64 0, .int .i64 0], offs := [(0, 1), (1, 1), (2, 1), (3, 1)] } -- impl.Ring
def td90 : TyD := { kind := 3, size := 18, bytes := 224, z := [.slice none 0 0, .slice none 0 0, .slice none 0 0, .slice none 0 0, .int .i64 0, .int .i64 0, .int .i64 0, .int .i64 0, .int .i64 0, .int .i64 0, .int .i64 0, .int .i64 0, .slice none 0 0, .int .i64 0, .int .i64 0, .int .i64 0, .int .i64 0, .int .i64 0], offs := [(0, 7), (7, 4), (11, 4), (15, 1), (16, 1), (17, 1)] } -- impl.Session
def td95 : TyD := { kind := 1, size := 1, bytes := 24, z := [.slice none 0 0], elem := 181 } -- []laws.Tok
def td97 : TyD := { kind := 3, size := 4, bytes := 72, z := [.int .i64 0, .string ⟨#[]⟩, .slice none 0 0, .slice none 0 0], offs := [(0, 1), (1, 1), (2, 1), (3, 1)] } -- laws.Line
def td100 : TyD := { kind := 3, size := 2, bytes := 24, z := [.string ⟨#[]⟩, .int .i64 0], offs := [(0, 1), (1, 1)], eqs := [2, 4] } -- impl.Frame
def td101 : TyD := { kind := 1, size := 1, bytes := 24, z := [.slice none 0 0], elem := 149 } -- []impl.Tok
def td103 : TyD := { kind := 3, size := 4, bytes := 72, z := [.int .i64 0, .string ⟨#[]⟩, .slice none 0 0, .slice none 0 0], offs := [(0, 1), (1, 1), (2, 1), (3, 1)] } -- impl.Line
def td113 : TyD := { kind := 1, size := 1, bytes := 24, z := [.slice none 0 0], elem := 118 } -- []impl.Entry
def td115 : TyD := { kind := 1, size := 1, bytes := 24, z := [.slice none 0 0], elem := 74 } -- [][]string
def td118 : TyD := { kind := 3, size := 2, bytes := 24, z := [.string ⟨#[]⟩, .int .i64 0], offs := [(0, 1), (1, 1)], eqs := [2, 4] } -- impl.Entry
def td125 : TyD := { kind := 3, size := 4, bytes := 40, z := [.int .i64 0, .string ⟨#[]⟩, .int .i64 0, .int .i64 0], offs := [(0, 1), (1, 1), (2, 1), (3, 1)], eqs := [4, 2, 4, 4] } -- impl.TreeNode
def td127 : TyD := { kind := 1, size := 1, bytes := 24, z := [.slice none 0 0], elem := 162 } -- []laws.Frame
def td149 : TyD := { kind := 3, size := 3, bytes := 32, z := [.int .i64 0, .int .i64 0, .string ⟨#[]⟩], offs := [(0, 1), (1, 1), (2, 1)], eqs := [4, 4, 2] } -- impl.Tok
def td151 : TyD := { kind := 3, size := 3, bytes := 40, z := [.slice none 0 0, .int .i64 0, .int .i64 0], offs := [(0, 1), (1, 1), (2, 1)] } -- spec.l01Cur
def td162 : TyD := { kind := 3, size := 2, bytes := 24, z := [.string ⟨#[]⟩, .int .i64 0], offs := [(0, 1), (1, 1)], eqs := [2, 4] } -- laws.Frame
def td174 : TyD := { kind := 3, size := 7, bytes := 88, z := [.int .i64 0, .int .i64 0, .int .i64 0, .slice none 0 0, .slice none 0 0, .int .i64 0, .int .i64 0], offs := [(0, 1), (1, 1), (2, 1), (3, 1), (4, 1), (5, 1), (6, 1)] } -- impl.Machine
def td181 : TyD := { kind := 3, size := 3, bytes := 32, z := [.int .i64 0, .int .i64 0, .string ⟨#[]⟩], offs := [(0, 1), (1, 1), (2, 1)], eqs := [4, 4, 2] } -- laws.Tok
def td187 : TyD := { kind := 3, size := 3, bytes := 32, z := [.int .i64 0, .string ⟨#[]⟩, .int .i64 0], offs := [(0, 1), (1, 2)], eqs := [4, 2, 4] } -- impl.Node
def td197 : TyD := { kind := 3, size := 7, bytes := 88, z := [.int .i64 0, .int .i64 0, .int .i64 0, .slice none 0 0, .slice none 0 0, .int .i64 0, .int .i64 0], offs := [(0, 1), (1, 1), (2, 1), (3, 1), (4, 1), (5, 1), (6, 1)] } -- laws.Machine
def td199 : TyD := { kind := 1, size := 1, bytes := 24, z := [.slice none 0 0], elem := 206 } -- []impl.Symbol
def td201 : TyD := { kind := 3, size := 2, bytes := 40, z := [.string ⟨#[]⟩, .slice none 0 0], offs := [(0, 1), (1, 1)] } -- impl.Image
def td206 : TyD := { kind := 3, size := 3, bytes := 32, z := [.string ⟨#[]⟩, .int .i64 0, .int .i64 0], offs := [(0, 1), (1, 1), (2, 1)], eqs := [2, 4, 4] } -- impl.Symbol
def td212 : TyD := { kind := 4, size := 1, bytes := 8, z := [.int .u64 0], ik := some .u64 } -- uint
def td215 : TyD := { kind := 1, size := 1, bytes := 24, z := [.slice none 0 0], elem := 231 } -- []laws.Symbol
def td217 : TyD := { kind := 3, size := 2, bytes := 40, z := [.string ⟨#[]⟩, .slice none 0 0], offs := [(0, 1), (1, 1)] } -- laws.Image
def td218 : TyD := { kind := 1, size := 1, bytes := 24, z := [.slice none 0 0], elem := 225 } -- []impl.Op
def td225 : TyD := { kind := 3, size := 2, bytes := 16, z := [.int .i64 0, .int .i64 0], offs := [(0, 1), (1, 1)], eqs := [4, 4] } -- impl.Op
def td231 : TyD := { kind := 3, size := 3, bytes := 32, z := [.string ⟨#[]⟩, .int .i64 0, .int .i64 0], offs := [(0, 1), (1, 1), (2, 1)], eqs := [2, 4, 4] } -- laws.Symbol
def td242 : TyD := { kind := 4, size := 1, bytes := 4, z := [.int .u32 0], ik := some .u32 } -- uint32
def tys : List (Nat × TyD) := [(2, td2), (3, td3), (4, td4), (5, td5), (9, td9), (12, td12), (21, td21), (22, td22), (23, td23), (25, td25), (27, td27), (37, td37), (39, td39), (41, td41), (43, td43), (46, td46), (49, td49), (52, td52), (55, td55), (59, td59), (66, td66), (68, td68), (69, td69), (71, td71), (73, td73), (74, td74), (76, td76), (78, td78), (81, td81), (83, td83), (84, td84), (86, td86), (87, td87), (88, td88), (90, td90), (95, td95), (97, td97), (100, td100), (101, td101), (103, td103), (113, td113), (115, td115), (118, td118), (125, td125), (127, td127), (149, td149), (151, td151), (162, td162), (174, td174), (181, td181), (187, td187), (197, td197), (199, td199), (201, td201), (206, td206), (212, td212), (215, td215), (217, td217), (218, td218), (225, td225), (231, td231), (242, td242)]
theorem ty2 : lk 2 tys = some { kind := 4, size := 1, bytes := 8, z := [.int .i64 0], ik := some .i64 } := rfl
theorem tok2 : TyOk Try.prog 2 td2 := ⟨by kernel_rfl, by show _ = _; kernel_rfl, by decide, .inl rfl⟩
theorem ty3 : lk 3 tys = some { kind := 4, size := 1, bytes := 8, z := [.int .i64 0], ik := some .i64 } := rfl
theorem tok3 : TyOk Try.prog 3 td3 := ⟨by kernel_rfl, by show _ = _; kernel_rfl, by decide, .inl rfl⟩
theorem ty4 : lk 4 tys = some { kind := 5, size := 1, bytes := 1, z := [.bool false] } := rfl
theorem tok4 : TyOk Try.prog 4 td4 := ⟨by kernel_rfl, by show _ = _; kernel_rfl, by decide, .inl rfl⟩
theorem ty5 : lk 5 tys = some { kind := 4, size := 1, bytes := 1, z := [.int .u8 0], ik := some .u8 } := rfl
theorem tok5 : TyOk Try.prog 5 td5 := ⟨by kernel_rfl, by show _ = _; kernel_rfl, by decide, .inl rfl⟩
theorem ty9 : lk 9 tys = some { kind := 2, size := 1, bytes := 16, z := [.string ⟨#[]⟩] } := rfl
theorem tok9 : TyOk Try.prog 9 td9 := ⟨by kernel_rfl, by show _ = _; kernel_rfl, by decide, .inl rfl⟩
theorem ty12 : lk 12 tys = some { kind := 4, size := 1, bytes := 8, z := [.int .u64 0], ik := some .u64 } := rfl
theorem tok12 : TyOk Try.prog 12 td12 := ⟨by kernel_rfl, by show _ = _; kernel_rfl, by decide, .inl rfl⟩
theorem ty21 : lk 21 tys = some { kind := 4, size := 1, bytes := 4, z := [.int .i32 0], ik := some .i32 } := rfl
theorem tok21 : TyOk Try.prog 21 td21 := ⟨by kernel_rfl, by show _ = _; kernel_rfl, by decide, .inl rfl⟩
theorem ty22 : lk 22 tys = some { kind := 1, size := 1, bytes := 24, z := [.slice none 0 0], elem := 97 } := rfl
theorem tok22 : TyOk Try.prog 22 td22 := ⟨by kernel_rfl, by show _ = _; kernel_rfl, by decide, .inl rfl⟩
theorem ty23 : lk 23 tys = some { kind := 1, size := 1, bytes := 24, z := [.slice none 0 0], elem := 3 } := rfl
theorem tok23 : TyOk Try.prog 23 td23 := ⟨by kernel_rfl, by show _ = _; kernel_rfl, by decide, .inl rfl⟩
theorem ty25 : lk 25 tys = some { kind := 1, size := 1, bytes := 24, z := [.slice none 0 0], elem := 100 } := rfl
theorem tok25 : TyOk Try.prog 25 td25 := ⟨by kernel_rfl, by show _ = _; kernel_rfl, by decide, .inl rfl⟩
theorem ty27 : lk 27 tys = some { kind := 1, size := 1, bytes := 24, z := [.slice none 0 0], elem := 103 } := rfl
theorem tok27 : TyOk Try.prog 27 td27 := ⟨by kernel_rfl, by show _ = _; kernel_rfl, by decide, .inl rfl⟩
theorem ty37 : lk 37 tys = some { kind := 1, size := 1, bytes := 24, z := [.slice none 0 0], elem := 5 } := rfl
theorem tok37 : TyOk Try.prog 37 td37 := ⟨by kernel_rfl, by show _ = _; kernel_rfl, by decide, .inl rfl⟩
theorem ty39 : lk 39 tys = some { kind := 1, size := 1, bytes := 24, z := [.slice none 0 0], elem := 187 } := rfl
theorem tok39 : TyOk Try.prog 39 td39 := ⟨by kernel_rfl, by show _ = _; kernel_rfl, by decide, .inl rfl⟩
theorem ty41 : lk 41 tys = some { kind := 3, size := 1, bytes := 24, z := [.slice none 0 0], offs := [(0, 1)] } := rfl
theorem tok41 : TyOk Try.prog 41 td41 := ⟨by kernel_rfl, by show _ = _; kernel_rfl, by decide, .inl rfl⟩
theorem ty43 : lk 43 tys = some { kind := 3, size := 2, bytes := 48, z := [.slice none 0 0, .slice none 0 0], offs := [(0, 1), (1, 1)] } := rfl
theorem tok43 : TyOk Try.prog 43 td43 := ⟨by kernel_rfl, by show _ = _; kernel_rfl, by decide, .inl rfl⟩
theorem ty46 : lk 46 tys = some { kind := 1, size := 1, bytes := 24, z := [.slice none 0 0], elem := 125 } := rfl
theorem tok46 : TyOk Try.prog 46 td46 := ⟨by kernel_rfl, by show _ = _; kernel_rfl, by decide, .inl rfl⟩
theorem ty49 : lk 49 tys = some { kind := 1, size := 1, bytes := 24, z := [.slice none 0 0], elem := 52 } := rfl
theorem tok49 : TyOk Try.prog 49 td49 := ⟨by kernel_rfl, by show _ = _; kernel_rfl, by decide, .inl rfl⟩
theorem ty52 : lk 52 tys = some { kind := 3, size := 4, bytes := 32, z := [.int .i64 0, .int .i64 0, .int .i64 0, .int .i64 0], offs := [(0, 1), (1, 1), (2, 1), (3, 1)], eqs := [4, 4, 4, 4] } := rfl
theorem tok52 : TyOk Try.prog 52 td52 := ⟨by kernel_rfl, by show _ = _; kernel_rfl, by decide, .inr ⟨by kernel_rfl, by kernel_rfl, rfl⟩⟩
theorem ty55 : lk 55 tys = some { kind := 1, size := 1, bytes := 24, z := [.slice none 0 0], elem := 127 } := rfl
theorem tok55 : TyOk Try.prog 55 td55 := ⟨by kernel_rfl, by show _ = _; kernel_rfl, by decide, .inl rfl⟩
theorem ty59 : lk 59 tys = some { kind := 1, size := 1, bytes := 24, z := [.slice none 0 0], elem := 25 } := rfl
theorem tok59 : TyOk Try.prog 59 td59 := ⟨by kernel_rfl, by show _ = _; kernel_rfl, by decide, .inl rfl⟩
theorem ty66 : lk 66 tys = some { kind := 1, size := 1, bytes := 24, z := [.slice none 0 0], elem := 217 } := rfl
theorem tok66 : TyOk Try.prog 66 td66 := ⟨by kernel_rfl, by show _ = _; kernel_rfl, by decide, .inl rfl⟩
theorem ty68 : lk 68 tys = some { kind := 3, size := 3, bytes := 72, z := [.slice none 0 0, .slice none 0 0, .slice none 0 0], offs := [(0, 1), (1, 1), (2, 1)] } := rfl
theorem tok68 : TyOk Try.prog 68 td68 := ⟨by kernel_rfl, by show _ = _; kernel_rfl, by decide, .inl rfl⟩
theorem ty69 : lk 69 tys = some { kind := 1, size := 1, bytes := 24, z := [.slice none 0 0], elem := 197 } := rfl
theorem tok69 : TyOk Try.prog 69 td69 := ⟨by kernel_rfl, by show _ = _; kernel_rfl, by decide, .inl rfl⟩
theorem ty71 : lk 71 tys = some { kind := 3, size := 7, bytes := 120, z := [.slice none 0 0, .slice none 0 0, .slice none 0 0, .slice none 0 0, .int .i64 0, .int .i64 0, .int .i64 0], offs := [(0, 3), (3, 1), (4, 1), (5, 1), (6, 1)] } := rfl
theorem tok71 : TyOk Try.prog 71 td71 := ⟨by kernel_rfl, by show _ = _; kernel_rfl, by decide, .inl rfl⟩
theorem ty73 : lk 73 tys = some { kind := 3, size := 4, bytes := 32, z := [.int .i64 0, .int .i64 0, .int .i64 0, .int .i64 0], offs := [(0, 1), (1, 1), (2, 1), (3, 1)], eqs := [4, 4, 4, 4] } := rfl
theorem tok73 : TyOk Try.prog 73 td73 := ⟨by kernel_rfl, by show _ = _; kernel_rfl, by decide, .inr ⟨by kernel_rfl, by kernel_rfl, rfl⟩⟩
theorem ty74 : lk 74 tys = some { kind := 1, size := 1, bytes := 24, z := [.slice none 0 0], elem := 9 } := rfl
theorem tok74 : TyOk Try.prog 74 td74 := ⟨by kernel_rfl, by show _ = _; kernel_rfl, by decide, .inl rfl⟩
theorem ty76 : lk 76 tys = some { kind := 3, size := 4, bytes := 48, z := [.int .i64 0, .slice none 0 0, .int .i64 0, .int .i64 0], offs := [(0, 1), (1, 1), (2, 1), (3, 1)] } := rfl
theorem tok76 : TyOk Try.prog 76 td76 := ⟨by kernel_rfl, by show _ = _; kernel_rfl, by decide, .inl rfl⟩
theorem ty78 : lk 78 tys = some { kind := 3, size := 18, bytes := 224, z := [.slice none 0 0, .slice none 0 0, .slice none 0 0, .slice none 0 0, .int .i64 0, .int .i64 0, .int .i64 0, .int .i64 0, .int .i64 0, .int .i64 0, .int .i64 0, .int .i64 0, .slice none 0 0, .int .i64 0, .int .i64 0, .int .i64 0, .int .i64 0, .int .i64 0], offs := [(0, 7), (7, 4), (11, 4), (15, 1), (16, 1), (17, 1)] } := rfl
theorem tok78 : TyOk Try.prog 78 td78 := ⟨by kernel_rfl, by show _ = _; kernel_rfl, by decide, .inl rfl⟩
theorem ty81 : lk 81 tys = some { kind := 1, size := 1, bytes := 24, z := [.slice none 0 0], elem := 201 } := rfl
theorem tok81 : TyOk Try.prog 81 td81 := ⟨by kernel_rfl, by show _ = _; kernel_rfl, by decide, .inl rfl⟩
theorem ty83 : lk 83 tys = some { kind := 3, size := 3, bytes := 72, z := [.slice none 0 0, .slice none 0 0, .slice none 0 0], offs := [(0, 1), (1, 1), (2, 1)] } := rfl
theorem tok83 : TyOk Try.prog 83 td83 := ⟨by kernel_rfl, by show _ = _; kernel_rfl, by decide, .inl rfl⟩
theorem ty84 : lk 84 tys = some { kind := 1, size := 1, bytes := 24, z := [.slice none 0 0], elem := 174 } := rfl
theorem tok84 : TyOk Try.prog 84 td84 := ⟨by kernel_rfl, by show _ = _; kernel_rfl, by decide, .inl rfl⟩
theorem ty86 : lk 86 tys = some { kind := 3, size := 7, bytes := 120, z := [.slice none 0 0, .slice none 0 0, .slice none 0 0, .slice none 0 0, .int .i64 0, .int .i64 0, .int .i64 0], offs := [(0, 3), (3, 1), (4, 1), (5, 1), (6, 1)] } := rfl
theorem tok86 : TyOk Try.prog 86 td86 := ⟨by kernel_rfl, by show _ = _; kernel_rfl, by decide, .inl rfl⟩
theorem ty87 : lk 87 tys = some { kind := 3, size := 4, bytes := 32, z := [.int .i64 0, .int .i64 0, .int .i64 0, .int .i64 0], offs := [(0, 1), (1, 1), (2, 1), (3, 1)], eqs := [4, 4, 4, 4] } := rfl
theorem tok87 : TyOk Try.prog 87 td87 := ⟨by kernel_rfl, by show _ = _; kernel_rfl, by decide, .inr ⟨by kernel_rfl, by kernel_rfl, rfl⟩⟩
theorem ty88 : lk 88 tys = some { kind := 3, size := 4, bytes := 48, z := [.int .i64 0, .slice none 0 0, .int .i64 0, .int .i64 0], offs := [(0, 1), (1, 1), (2, 1), (3, 1)] } := rfl
theorem tok88 : TyOk Try.prog 88 td88 := ⟨by kernel_rfl, by show _ = _; kernel_rfl, by decide, .inl rfl⟩
theorem ty90 : lk 90 tys = some { kind := 3, size := 18, bytes := 224, z := [.slice none 0 0, .slice none 0 0, .slice none 0 0, .slice none 0 0, .int .i64 0, .int .i64 0, .int .i64 0, .int .i64 0, .int .i64 0, .int .i64 0, .int .i64 0, .int .i64 0, .slice none 0 0, .int .i64 0, .int .i64 0, .int .i64 0, .int .i64 0, .int .i64 0], offs := [(0, 7), (7, 4), (11, 4), (15, 1), (16, 1), (17, 1)] } := rfl
theorem tok90 : TyOk Try.prog 90 td90 := ⟨by kernel_rfl, by show _ = _; kernel_rfl, by decide, .inl rfl⟩
theorem ty95 : lk 95 tys = some { kind := 1, size := 1, bytes := 24, z := [.slice none 0 0], elem := 181 } := rfl
theorem tok95 : TyOk Try.prog 95 td95 := ⟨by kernel_rfl, by show _ = _; kernel_rfl, by decide, .inl rfl⟩
theorem ty97 : lk 97 tys = some { kind := 3, size := 4, bytes := 72, z := [.int .i64 0, .string ⟨#[]⟩, .slice none 0 0, .slice none 0 0], offs := [(0, 1), (1, 1), (2, 1), (3, 1)] } := rfl
theorem tok97 : TyOk Try.prog 97 td97 := ⟨by kernel_rfl, by show _ = _; kernel_rfl, by decide, .inl rfl⟩
theorem ty100 : lk 100 tys = some { kind := 3, size := 2, bytes := 24, z := [.string ⟨#[]⟩, .int .i64 0], offs := [(0, 1), (1, 1)], eqs := [2, 4] } := rfl
theorem tok100 : TyOk Try.prog 100 td100 := ⟨by kernel_rfl, by show _ = _; kernel_rfl, by decide, .inr ⟨by kernel_rfl, by kernel_rfl, rfl⟩⟩
theorem ty101 : lk 101 tys = some { kind := 1, size := 1, bytes := 24, z := [.slice none 0 0], elem := 149 } := rfl
theorem tok101 : TyOk Try.prog 101 td101 := ⟨by kernel_rfl, by show _ = _; kernel_rfl, by decide, .inl rfl⟩
theorem ty103 : lk 103 tys = some { kind := 3, size := 4, bytes := 72, z := [.int .i64 0, .string ⟨#[]⟩, .slice none 0 0, .slice none 0 0], offs := [(0, 1), (1, 1), (2, 1), (3, 1)] } := rfl
theorem tok103 : TyOk Try.prog 103 td103 := ⟨by kernel_rfl, by show _ = _; kernel_rfl, by decide, .inl rfl⟩
theorem ty113 : lk 113 tys = some { kind := 1, size := 1, bytes := 24, z := [.slice none 0 0], elem := 118 } := rfl
theorem tok113 : TyOk Try.prog 113 td113 := ⟨by kernel_rfl, by show _ = _; kernel_rfl, by decide, .inl rfl⟩
theorem ty115 : lk 115 tys = some { kind := 1, size := 1, bytes := 24, z := [.slice none 0 0], elem := 74 } := rfl
theorem tok115 : TyOk Try.prog 115 td115 := ⟨by kernel_rfl, by show _ = _; kernel_rfl, by decide, .inl rfl⟩
theorem ty118 : lk 118 tys = some { kind := 3, size := 2, bytes := 24, z := [.string ⟨#[]⟩, .int .i64 0], offs := [(0, 1), (1, 1)], eqs := [2, 4] } := rfl
theorem tok118 : TyOk Try.prog 118 td118 := ⟨by kernel_rfl, by show _ = _; kernel_rfl, by decide, .inr ⟨by kernel_rfl, by kernel_rfl, rfl⟩⟩
theorem ty125 : lk 125 tys = some { kind := 3, size := 4, bytes := 40, z := [.int .i64 0, .string ⟨#[]⟩, .int .i64 0, .int .i64 0], offs := [(0, 1), (1, 1), (2, 1), (3, 1)], eqs := [4, 2, 4, 4] } := rfl
theorem tok125 : TyOk Try.prog 125 td125 := ⟨by kernel_rfl, by show _ = _; kernel_rfl, by decide, .inr ⟨by kernel_rfl, by kernel_rfl, rfl⟩⟩
theorem ty127 : lk 127 tys = some { kind := 1, size := 1, bytes := 24, z := [.slice none 0 0], elem := 162 } := rfl
theorem tok127 : TyOk Try.prog 127 td127 := ⟨by kernel_rfl, by show _ = _; kernel_rfl, by decide, .inl rfl⟩
theorem ty149 : lk 149 tys = some { kind := 3, size := 3, bytes := 32, z := [.int .i64 0, .int .i64 0, .string ⟨#[]⟩], offs := [(0, 1), (1, 1), (2, 1)], eqs := [4, 4, 2] } := rfl
theorem tok149 : TyOk Try.prog 149 td149 := ⟨by kernel_rfl, by show _ = _; kernel_rfl, by decide, .inr ⟨by kernel_rfl, by kernel_rfl, rfl⟩⟩
theorem ty151 : lk 151 tys = some { kind := 3, size := 3, bytes := 40, z := [.slice none 0 0, .int .i64 0, .int .i64 0], offs := [(0, 1), (1, 1), (2, 1)] } := rfl
theorem tok151 : TyOk Try.prog 151 td151 := ⟨by kernel_rfl, by show _ = _; kernel_rfl, by decide, .inl rfl⟩
theorem ty162 : lk 162 tys = some { kind := 3, size := 2, bytes := 24, z := [.string ⟨#[]⟩, .int .i64 0], offs := [(0, 1), (1, 1)], eqs := [2, 4] } := rfl
theorem tok162 : TyOk Try.prog 162 td162 := ⟨by kernel_rfl, by show _ = _; kernel_rfl, by decide, .inr ⟨by kernel_rfl, by kernel_rfl, rfl⟩⟩
theorem ty174 : lk 174 tys = some { kind := 3, size := 7, bytes := 88, z := [.int .i64 0, .int .i64 0, .int .i64 0, .slice none 0 0, .slice none 0 0, .int .i64 0, .int .i64 0], offs := [(0, 1), (1, 1), (2, 1), (3, 1), (4, 1), (5, 1), (6, 1)] } := rfl
theorem tok174 : TyOk Try.prog 174 td174 := ⟨by kernel_rfl, by show _ = _; kernel_rfl, by decide, .inl rfl⟩
theorem ty181 : lk 181 tys = some { kind := 3, size := 3, bytes := 32, z := [.int .i64 0, .int .i64 0, .string ⟨#[]⟩], offs := [(0, 1), (1, 1), (2, 1)], eqs := [4, 4, 2] } := rfl
theorem tok181 : TyOk Try.prog 181 td181 := ⟨by kernel_rfl, by show _ = _; kernel_rfl, by decide, .inr ⟨by kernel_rfl, by kernel_rfl, rfl⟩⟩
theorem ty187 : lk 187 tys = some { kind := 3, size := 3, bytes := 32, z := [.int .i64 0, .string ⟨#[]⟩, .int .i64 0], offs := [(0, 1), (1, 2)], eqs := [4, 2, 4] } := rfl
theorem tok187 : TyOk Try.prog 187 td187 := ⟨by kernel_rfl, by show _ = _; kernel_rfl, by decide, .inr ⟨by kernel_rfl, by kernel_rfl, rfl⟩⟩
theorem ty197 : lk 197 tys = some { kind := 3, size := 7, bytes := 88, z := [.int .i64 0, .int .i64 0, .int .i64 0, .slice none 0 0, .slice none 0 0, .int .i64 0, .int .i64 0], offs := [(0, 1), (1, 1), (2, 1), (3, 1), (4, 1), (5, 1), (6, 1)] } := rfl
theorem tok197 : TyOk Try.prog 197 td197 := ⟨by kernel_rfl, by show _ = _; kernel_rfl, by decide, .inl rfl⟩
theorem ty199 : lk 199 tys = some { kind := 1, size := 1, bytes := 24, z := [.slice none 0 0], elem := 206 } := rfl
theorem tok199 : TyOk Try.prog 199 td199 := ⟨by kernel_rfl, by show _ = _; kernel_rfl, by decide, .inl rfl⟩
theorem ty201 : lk 201 tys = some { kind := 3, size := 2, bytes := 40, z := [.string ⟨#[]⟩, .slice none 0 0], offs := [(0, 1), (1, 1)] } := rfl
theorem tok201 : TyOk Try.prog 201 td201 := ⟨by kernel_rfl, by show _ = _; kernel_rfl, by decide, .inl rfl⟩
theorem ty206 : lk 206 tys = some { kind := 3, size := 3, bytes := 32, z := [.string ⟨#[]⟩, .int .i64 0, .int .i64 0], offs := [(0, 1), (1, 1), (2, 1)], eqs := [2, 4, 4] } := rfl
theorem tok206 : TyOk Try.prog 206 td206 := ⟨by kernel_rfl, by show _ = _; kernel_rfl, by decide, .inr ⟨by kernel_rfl, by kernel_rfl, rfl⟩⟩
theorem ty212 : lk 212 tys = some { kind := 4, size := 1, bytes := 8, z := [.int .u64 0], ik := some .u64 } := rfl
theorem tok212 : TyOk Try.prog 212 td212 := ⟨by kernel_rfl, by show _ = _; kernel_rfl, by decide, .inl rfl⟩
theorem ty215 : lk 215 tys = some { kind := 1, size := 1, bytes := 24, z := [.slice none 0 0], elem := 231 } := rfl
theorem tok215 : TyOk Try.prog 215 td215 := ⟨by kernel_rfl, by show _ = _; kernel_rfl, by decide, .inl rfl⟩
theorem ty217 : lk 217 tys = some { kind := 3, size := 2, bytes := 40, z := [.string ⟨#[]⟩, .slice none 0 0], offs := [(0, 1), (1, 1)] } := rfl
theorem tok217 : TyOk Try.prog 217 td217 := ⟨by kernel_rfl, by show _ = _; kernel_rfl, by decide, .inl rfl⟩
theorem ty218 : lk 218 tys = some { kind := 1, size := 1, bytes := 24, z := [.slice none 0 0], elem := 225 } := rfl
theorem tok218 : TyOk Try.prog 218 td218 := ⟨by kernel_rfl, by show _ = _; kernel_rfl, by decide, .inl rfl⟩
theorem ty225 : lk 225 tys = some { kind := 3, size := 2, bytes := 16, z := [.int .i64 0, .int .i64 0], offs := [(0, 1), (1, 1)], eqs := [4, 4] } := rfl
theorem tok225 : TyOk Try.prog 225 td225 := ⟨by kernel_rfl, by show _ = _; kernel_rfl, by decide, .inr ⟨by kernel_rfl, by kernel_rfl, rfl⟩⟩
theorem ty231 : lk 231 tys = some { kind := 3, size := 3, bytes := 32, z := [.string ⟨#[]⟩, .int .i64 0, .int .i64 0], offs := [(0, 1), (1, 1), (2, 1)], eqs := [2, 4, 4] } := rfl
theorem tok231 : TyOk Try.prog 231 td231 := ⟨by kernel_rfl, by show _ = _; kernel_rfl, by decide, .inr ⟨by kernel_rfl, by kernel_rfl, rfl⟩⟩
theorem ty242 : lk 242 tys = some { kind := 4, size := 1, bytes := 4, z := [.int .u32 0], ik := some .u32 } := rfl
theorem tok242 : TyOk Try.prog 242 td242 := ⟨by kernel_rfl, by show _ = _; kernel_rfl, by decide, .inl rfl⟩
theorem tysOk : ∀ T d, lk T tys = some d → TyOk Try.prog T d := fun T d h => by
  have hm := lk_mem h
  simp only [tys, List.mem_cons, Prod.mk.injEq, List.not_mem_nil, or_false] at hm
  rcases hm with ⟨rfl, rfl⟩ | ⟨rfl, rfl⟩ | ⟨rfl, rfl⟩ | ⟨rfl, rfl⟩ | ⟨rfl, rfl⟩ | ⟨rfl, rfl⟩ | ⟨rfl, rfl⟩ | ⟨rfl, rfl⟩ | ⟨rfl, rfl⟩ | ⟨rfl, rfl⟩ | ⟨rfl, rfl⟩ | ⟨rfl, rfl⟩ | ⟨rfl, rfl⟩ | ⟨rfl, rfl⟩ | ⟨rfl, rfl⟩ | ⟨rfl, rfl⟩ | ⟨rfl, rfl⟩ | ⟨rfl, rfl⟩ | ⟨rfl, rfl⟩ | ⟨rfl, rfl⟩ | ⟨rfl, rfl⟩ | ⟨rfl, rfl⟩ | ⟨rfl, rfl⟩ | ⟨rfl, rfl⟩ | ⟨rfl, rfl⟩ | ⟨rfl, rfl⟩ | ⟨rfl, rfl⟩ | ⟨rfl, rfl⟩ | ⟨rfl, rfl⟩ | ⟨rfl, rfl⟩ | ⟨rfl, rfl⟩ | ⟨rfl, rfl⟩ | ⟨rfl, rfl⟩ | ⟨rfl, rfl⟩ | ⟨rfl, rfl⟩ | ⟨rfl, rfl⟩ | ⟨rfl, rfl⟩ | ⟨rfl, rfl⟩ | ⟨rfl, rfl⟩ | ⟨rfl, rfl⟩ | ⟨rfl, rfl⟩ | ⟨rfl, rfl⟩ | ⟨rfl, rfl⟩ | ⟨rfl, rfl⟩ | ⟨rfl, rfl⟩ | ⟨rfl, rfl⟩ | ⟨rfl, rfl⟩ | ⟨rfl, rfl⟩ | ⟨rfl, rfl⟩ | ⟨rfl, rfl⟩ | ⟨rfl, rfl⟩ | ⟨rfl, rfl⟩ | ⟨rfl, rfl⟩ | ⟨rfl, rfl⟩ | ⟨rfl, rfl⟩ | ⟨rfl, rfl⟩ | ⟨rfl, rfl⟩ | ⟨rfl, rfl⟩ | ⟨rfl, rfl⟩ | ⟨rfl, rfl⟩ | ⟨rfl, rfl⟩ | ⟨rfl, rfl⟩
  · exact tok2
  · exact tok3
  · exact tok4
  · exact tok5
  · exact tok9
  · exact tok12
  · exact tok21
  · exact tok22
  · exact tok23
  · exact tok25
  · exact tok27
  · exact tok37
  · exact tok39
  · exact tok41
  · exact tok43
  · exact tok46
  · exact tok49
  · exact tok52
  · exact tok55
  · exact tok59
  · exact tok66
  · exact tok68
  · exact tok69
  · exact tok71
  · exact tok73
  · exact tok74
  · exact tok76
  · exact tok78
  · exact tok81
  · exact tok83
  · exact tok84
  · exact tok86
  · exact tok87
  · exact tok88
  · exact tok90
  · exact tok95
  · exact tok97
  · exact tok100
  · exact tok101
  · exact tok103
  · exact tok113
  · exact tok115
  · exact tok118
  · exact tok125
  · exact tok127
  · exact tok149
  · exact tok151
  · exact tok162
  · exact tok174
  · exact tok181
  · exact tok187
  · exact tok197
  · exact tok199
  · exact tok201
  · exact tok206
  · exact tok212
  · exact tok215
  · exact tok217
  · exact tok218
  · exact tok225
  · exact tok231
  · exact tok242
theorem tyAll : lk 2 tys = some { kind := 4, size := 1, bytes := 8, z := [.int .i64 0], ik := some .i64 } ∧ lk 3 tys = some { kind := 4, size := 1, bytes := 8, z := [.int .i64 0], ik := some .i64 } ∧ lk 4 tys = some { kind := 5, size := 1, bytes := 1, z := [.bool false] } ∧ lk 5 tys = some { kind := 4, size := 1, bytes := 1, z := [.int .u8 0], ik := some .u8 } ∧ lk 9 tys = some { kind := 2, size := 1, bytes := 16, z := [.string ⟨#[]⟩] } ∧ lk 12 tys = some { kind := 4, size := 1, bytes := 8, z := [.int .u64 0], ik := some .u64 } ∧ lk 21 tys = some { kind := 4, size := 1, bytes := 4, z := [.int .i32 0], ik := some .i32 } ∧ lk 22 tys = some { kind := 1, size := 1, bytes := 24, z := [.slice none 0 0], elem := 97 } ∧ lk 23 tys = some { kind := 1, size := 1, bytes := 24, z := [.slice none 0 0], elem := 3 } ∧ lk 25 tys = some { kind := 1, size := 1, bytes := 24, z := [.slice none 0 0], elem := 100 } ∧ lk 27 tys = some { kind := 1, size := 1, bytes := 24, z := [.slice none 0 0], elem := 103 } ∧ lk 37 tys = some { kind := 1, size := 1, bytes := 24, z := [.slice none 0 0], elem := 5 } ∧ lk 39 tys = some { kind := 1, size := 1, bytes := 24, z := [.slice none 0 0], elem := 187 } ∧ lk 41 tys = some { kind := 3, size := 1, bytes := 24, z := [.slice none 0 0], offs := [(0, 1)] } ∧ lk 43 tys = some { kind := 3, size := 2, bytes := 48, z := [.slice none 0 0, .slice none 0 0], offs := [(0, 1), (1, 1)] } ∧ lk 46 tys = some { kind := 1, size := 1, bytes := 24, z := [.slice none 0 0], elem := 125 } ∧ lk 49 tys = some { kind := 1, size := 1, bytes := 24, z := [.slice none 0 0], elem := 52 } ∧ lk 52 tys = some { kind := 3, size := 4, bytes := 32, z := [.int .i64 0, .int .i64 0, .int .i64 0, .int .i64 0], offs := [(0, 1), (1, 1), (2, 1), (3, 1)], eqs := [4, 4, 4, 4] } ∧ lk 55 tys = some { kind := 1, size := 1, bytes := 24, z := [.slice none 0 0], elem := 127 } ∧ lk 59 tys = some { kind := 1, size := 1, bytes := 24, z := [.slice none 0 0], elem := 25 } ∧ lk 66 tys = some { kind := 1, size := 1, bytes := 24, z := [.slice none 0 0], elem := 217 } ∧ lk 68 tys = some { kind := 3, size := 3, bytes := 72, z := [.slice none 0 0, .slice none 0 0, .slice none 0 0], offs := [(0, 1), (1, 1), (2, 1)] } ∧ lk 69 tys = some { kind := 1, size := 1, bytes := 24, z := [.slice none 0 0], elem := 197 } ∧ lk 71 tys = some { kind := 3, size := 7, bytes := 120, z := [.slice none 0 0, .slice none 0 0, .slice none 0 0, .slice none 0 0, .int .i64 0, .int .i64 0, .int .i64 0], offs := [(0, 3), (3, 1), (4, 1), (5, 1), (6, 1)] } ∧ lk 73 tys = some { kind := 3, size := 4, bytes := 32, z := [.int .i64 0, .int .i64 0, .int .i64 0, .int .i64 0], offs := [(0, 1), (1, 1), (2, 1), (3, 1)], eqs := [4, 4, 4, 4] } ∧ lk 74 tys = some { kind := 1, size := 1, bytes := 24, z := [.slice none 0 0], elem := 9 } ∧ lk 76 tys = some { kind := 3, size := 4, bytes := 48, z := [.int .i64 0, .slice none 0 0, .int .i64 0, .int .i64 0], offs := [(0, 1), (1, 1), (2, 1), (3, 1)] } ∧ lk 78 tys = some { kind := 3, size := 18, bytes := 224, z := [.slice none 0 0, .slice none 0 0, .slice none 0 0, .slice none 0 0, .int .i64 0, .int .i64 0, .int .i64 0, .int .i64 0, .int .i64 0, .int .i64 0, .int .i64 0, .int .i64 0, .slice none 0 0, .int .i64 0, .int .i64 0, .int .i64 0, .int .i64 0, .int .i64 0], offs := [(0, 7), (7, 4), (11, 4), (15, 1), (16, 1), (17, 1)] } ∧ lk 81 tys = some { kind := 1, size := 1, bytes := 24, z := [.slice none 0 0], elem := 201 } ∧ lk 83 tys = some { kind := 3, size := 3, bytes := 72, z := [.slice none 0 0, .slice none 0 0, .slice none 0 0], offs := [(0, 1), (1, 1), (2, 1)] } ∧ lk 84 tys = some { kind := 1, size := 1, bytes := 24, z := [.slice none 0 0], elem := 174 } ∧ lk 86 tys = some { kind := 3, size := 7, bytes := 120, z := [.slice none 0 0, .slice none 0 0, .slice none 0 0, .slice none 0 0, .int .i64 0, .int .i64 0, .int .i64 0], offs := [(0, 3), (3, 1), (4, 1), (5, 1), (6, 1)] } ∧ lk 87 tys = some { kind := 3, size := 4, bytes := 32, z := [.int .i64 0, .int .i64 0, .int .i64 0, .int .i64 0], offs := [(0, 1), (1, 1), (2, 1), (3, 1)], eqs := [4, 4, 4, 4] } ∧ lk 88 tys = some { kind := 3, size := 4, bytes := 48, z := [.int .i64 0, .slice none 0 0, .int .i64 0, .int .i64 0], offs := [(0, 1), (1, 1), (2, 1), (3, 1)] } ∧ lk 90 tys = some { kind := 3, size := 18, bytes := 224, z := [.slice none 0 0, .slice none 0 0, .slice none 0 0, .slice none 0 0, .int .i64 0, .int .i64 0, .int .i64 0, .int .i64 0, .int .i64 0, .int .i64 0, .int .i64 0, .int .i64 0, .slice none 0 0, .int .i64 0, .int .i64 0, .int .i64 0, .int .i64 0, .int .i64 0], offs := [(0, 7), (7, 4), (11, 4), (15, 1), (16, 1), (17, 1)] } ∧ lk 95 tys = some { kind := 1, size := 1, bytes := 24, z := [.slice none 0 0], elem := 181 } ∧ lk 97 tys = some { kind := 3, size := 4, bytes := 72, z := [.int .i64 0, .string ⟨#[]⟩, .slice none 0 0, .slice none 0 0], offs := [(0, 1), (1, 1), (2, 1), (3, 1)] } ∧ lk 100 tys = some { kind := 3, size := 2, bytes := 24, z := [.string ⟨#[]⟩, .int .i64 0], offs := [(0, 1), (1, 1)], eqs := [2, 4] } ∧ lk 101 tys = some { kind := 1, size := 1, bytes := 24, z := [.slice none 0 0], elem := 149 } ∧ lk 103 tys = some { kind := 3, size := 4, bytes := 72, z := [.int .i64 0, .string ⟨#[]⟩, .slice none 0 0, .slice none 0 0], offs := [(0, 1), (1, 1), (2, 1), (3, 1)] } ∧ lk 113 tys = some { kind := 1, size := 1, bytes := 24, z := [.slice none 0 0], elem := 118 } ∧ lk 115 tys = some { kind := 1, size := 1, bytes := 24, z := [.slice none 0 0], elem := 74 } ∧ lk 118 tys = some { kind := 3, size := 2, bytes := 24, z := [.string ⟨#[]⟩, .int .i64 0], offs := [(0, 1), (1, 1)], eqs := [2, 4] } ∧ lk 125 tys = some { kind := 3, size := 4, bytes := 40, z := [.int .i64 0, .string ⟨#[]⟩, .int .i64 0, .int .i64 0], offs := [(0, 1), (1, 1), (2, 1), (3, 1)], eqs := [4, 2, 4, 4] } ∧ lk 127 tys = some { kind := 1, size := 1, bytes := 24, z := [.slice none 0 0], elem := 162 } ∧ lk 149 tys = some { kind := 3, size := 3, bytes := 32, z := [.int .i64 0, .int .i64 0, .string ⟨#[]⟩], offs := [(0, 1), (1, 1), (2, 1)], eqs := [4, 4, 2] } ∧ lk 151 tys = some { kind := 3, size := 3, bytes := 40, z := [.slice none 0 0, .int .i64 0, .int .i64 0], offs := [(0, 1), (1, 1), (2, 1)] } ∧ lk 162 tys = some { kind := 3, size := 2, bytes := 24, z := [.string ⟨#[]⟩, .int .i64 0], offs := [(0, 1), (1, 1)], eqs := [2, 4] } ∧ lk 174 tys = some { kind := 3, size := 7, bytes := 88, z := [.int .i64 0, .int .i64 0, .int .i64 0, .slice none 0 0, .slice none 0 0, .int .i64 0, .int .i64 0], offs := [(0, 1), (1, 1), (2, 1), (3, 1), (4, 1), (5, 1), (6, 1)] } ∧ lk 181 tys = some { kind := 3, size := 3, bytes := 32, z := [.int .i64 0, .int .i64 0, .string ⟨#[]⟩], offs := [(0, 1), (1, 1), (2, 1)], eqs := [4, 4, 2] } ∧ lk 187 tys = some { kind := 3, size := 3, bytes := 32, z := [.int .i64 0, .string ⟨#[]⟩, .int .i64 0], offs := [(0, 1), (1, 2)], eqs := [4, 2, 4] } ∧ lk 197 tys = some { kind := 3, size := 7, bytes := 88, z := [.int .i64 0, .int .i64 0, .int .i64 0, .slice none 0 0, .slice none 0 0, .int .i64 0, .int .i64 0], offs := [(0, 1), (1, 1), (2, 1), (3, 1), (4, 1), (5, 1), (6, 1)] } ∧ lk 199 tys = some { kind := 1, size := 1, bytes := 24, z := [.slice none 0 0], elem := 206 } ∧ lk 201 tys = some { kind := 3, size := 2, bytes := 40, z := [.string ⟨#[]⟩, .slice none 0 0], offs := [(0, 1), (1, 1)] } ∧ lk 206 tys = some { kind := 3, size := 3, bytes := 32, z := [.string ⟨#[]⟩, .int .i64 0, .int .i64 0], offs := [(0, 1), (1, 1), (2, 1)], eqs := [2, 4, 4] } ∧ lk 212 tys = some { kind := 4, size := 1, bytes := 8, z := [.int .u64 0], ik := some .u64 } ∧ lk 215 tys = some { kind := 1, size := 1, bytes := 24, z := [.slice none 0 0], elem := 231 } ∧ lk 217 tys = some { kind := 3, size := 2, bytes := 40, z := [.string ⟨#[]⟩, .slice none 0 0], offs := [(0, 1), (1, 1)] } ∧ lk 218 tys = some { kind := 1, size := 1, bytes := 24, z := [.slice none 0 0], elem := 225 } ∧ lk 225 tys = some { kind := 3, size := 2, bytes := 16, z := [.int .i64 0, .int .i64 0], offs := [(0, 1), (1, 1)], eqs := [4, 4] } ∧ lk 231 tys = some { kind := 3, size := 3, bytes := 32, z := [.string ⟨#[]⟩, .int .i64 0, .int .i64 0], offs := [(0, 1), (1, 1), (2, 1)], eqs := [2, 4, 4] } ∧ lk 242 tys = some { kind := 4, size := 1, bytes := 4, z := [.int .u32 0], ik := some .u32 } := ⟨rfl, rfl, rfl, rfl, rfl, rfl, rfl, rfl, rfl, rfl, rfl, rfl, rfl, rfl, rfl, rfl, rfl, rfl, rfl, rfl, rfl, rfl, rfl, rfl, rfl, rfl, rfl, rfl, rfl, rfl, rfl, rfl, rfl, rfl, rfl, rfl, rfl, rfl, rfl, rfl, rfl, rfl, rfl, rfl, rfl, rfl, rfl, rfl, rfl, rfl, rfl, rfl, rfl, rfl, rfl, rfl, rfl, rfl, rfl, rfl, rfl, rfl⟩
end Go.Proofs.Ytdbjioanlkilkaa
