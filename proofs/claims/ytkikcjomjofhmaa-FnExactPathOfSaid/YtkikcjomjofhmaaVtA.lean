/-
  DERIVED. The seat's table of types, as VcB wants it. Made by program (mk_tab.py).
-/
import Derived.Test.YtkikcjomjofhmaaVcT
import Derived.Test.YtkikcjomjofhmaaProg
import Derived.KernelRfl
namespace Go.Proofs.Ytkikcjomjofhmaa
open Go.Vc
def td2 : TyD := { kind := 4, size := 1, bytes := 8, z := [.int .i64 0], ik := some .i64 } -- int64
def td3 : TyD := { kind := 4, size := 1, bytes := 8, z := [.int .i64 0], ik := some .i64 } -- int
def td4 : TyD := { kind := 5, size := 1, bytes := 1, z := [.bool false] } -- bool
def td5 : TyD := { kind := 4, size := 1, bytes := 1, z := [.int .u8 0], ik := some .u8 } -- uint8
def td9 : TyD := { kind := 2, size := 1, bytes := 16, z := [.string ⟨#[]⟩] } -- string
def td12 : TyD := { kind := 4, size := 1, bytes := 8, z := [.int .u64 0], ik := some .u64 } -- uintptr
def td21 : TyD := { kind := 4, size := 1, bytes := 4, z := [.int .i32 0], ik := some .i32 } -- int32
def td22 : TyD := { kind := 1, size := 1, bytes := 24, z := [.slice none 0 0], elem := 3 } -- []int
def td27 : TyD := { kind := 1, size := 1, bytes := 24, z := [.slice none 0 0], elem := 81 } -- []laws.Box
def td30 : TyD := { kind := 1, size := 1, bytes := 24, z := [.slice none 0 0], elem := 78 } -- []impl.Box
def td34 : TyD := { kind := 1, size := 1, bytes := 24, z := [.slice none 0 0], elem := 85 } -- []laws.TableRow
def td37 : TyD := { kind := 1, size := 1, bytes := 24, z := [.slice none 0 0], elem := 86 } -- []impl.TableRow
def td42 : TyD := { kind := 3, size := 2, bytes := 24, z := [.string ⟨#[]⟩, .int .i64 0], offs := [(0, 1), (1, 1)], eqs := [2, 4] } -- impl.Entry
def td47 : TyD := { kind := 1, size := 1, bytes := 24, z := [.slice none 0 0], elem := 96 } -- []laws.TreeNode
def td50 : TyD := { kind := 1, size := 1, bytes := 24, z := [.slice none 0 0], elem := 97 } -- []impl.TreeNode
def td55 : TyD := { kind := 1, size := 1, bytes := 24, z := [.slice none 0 0], elem := 9 } -- []string
def td66 : TyD := { kind := 1, size := 1, bytes := 24, z := [.slice none 0 0], elem := 5 } -- []uint8
def td68 : TyD := { kind := 1, size := 1, bytes := 24, z := [.slice none 0 0], elem := 133 } -- []impl.Node
def td70 : TyD := { kind := 3, size := 1, bytes := 24, z := [.slice none 0 0], offs := [(0, 1)] } -- impl.Stacks
def td72 : TyD := { kind := 3, size := 2, bytes := 48, z := [.slice none 0 0, .slice none 0 0], offs := [(0, 1), (1, 1)] } -- impl.Profile
def td78 : TyD := { kind := 3, size := 4, bytes := 32, z := [.int .i64 0, .int .i64 0, .int .i64 0, .int .i64 0], offs := [(0, 1), (1, 1), (2, 1), (3, 1)], eqs := [4, 4, 4, 4] } -- impl.Box
def td81 : TyD := { kind := 3, size := 4, bytes := 32, z := [.int .i64 0, .int .i64 0, .int .i64 0, .int .i64 0], offs := [(0, 1), (1, 1), (2, 1), (3, 1)], eqs := [4, 4, 4, 4] } -- laws.Box
def td85 : TyD := { kind := 3, size := 3, bytes := 32, z := [.string ⟨#[]⟩, .int .i64 0, .int .i64 0], offs := [(0, 1), (1, 1), (2, 1)], eqs := [2, 4, 4] } -- laws.TableRow
def td86 : TyD := { kind := 3, size := 3, bytes := 32, z := [.string ⟨#[]⟩, .int .i64 0, .int .i64 0], offs := [(0, 1), (1, 1), (2, 1)], eqs := [2, 4, 4] } -- impl.TableRow
def td96 : TyD := { kind := 3, size := 4, bytes := 40, z := [.int .i64 0, .string ⟨#[]⟩, .int .i64 0, .int .i64 0], offs := [(0, 1), (1, 1), (2, 1), (3, 1)], eqs := [4, 2, 4, 4] } -- laws.TreeNode
def td97 : TyD := { kind := 3, size := 4, bytes := 40, z := [.int .i64 0, .string ⟨#[]⟩, .int .i64 0, .int .i64 0], offs := [(0, 1), (1, 1), (2, 1), (3, 1)], eqs := [4, 2, 4, 4] } -- impl.TreeNode
def td106 : TyD := { kind := 1, size := 1, bytes := 24, z := [.slice none 0 0], elem := 42 } -- []impl.Entry
def td108 : TyD := { kind := 1, size := 1, bytes := 24, z := [.slice none 0 0], elem := 55 } -- [][]string
def td112 : TyD := { kind := 3, size := 3, bytes := 40, z := [.slice none 0 0, .int .i64 0, .int .i64 0], offs := [(0, 1), (1, 1), (2, 1)] } -- spec.l01Cur
def td116 : TyD := { kind := 1, size := 1, bytes := 24, z := [.slice none 0 0], elem := 125 } -- []impl.Frame
def td125 : TyD := { kind := 3, size := 2, bytes := 24, z := [.string ⟨#[]⟩, .int .i64 0], offs := [(0, 1), (1, 1)], eqs := [2, 4] } -- impl.Frame
def td133 : TyD := { kind := 3, size := 3, bytes := 32, z := [.int .i64 0, .string ⟨#[]⟩, .int .i64 0], offs := [(0, 1), (1, 2)], eqs := [4, 2, 4] } -- impl.Node
def td135 : TyD := { kind := 4, size := 1, bytes := 8, z := [.int .u64 0], ik := some .u64 } -- uint
def td146 : TyD := { kind := 4, size := 1, bytes := 4, z := [.int .u32 0], ik := some .u32 } -- uint32
def tys : List (Nat × TyD) := [(2, td2), (3, td3), (4, td4), (5, td5), (9, td9), (12, td12), (21, td21), (22, td22), (27, td27), (30, td30), (34, td34), (37, td37), (42, td42), (47, td47), (50, td50), (55, td55), (66, td66), (68, td68), (70, td70), (72, td72), (78, td78), (81, td81), (85, td85), (86, td86), (96, td96), (97, td97), (106, td106), (108, td108), (112, td112), (116, td116), (125, td125), (133, td133), (135, td135), (146, td146)]
theorem ty2 : lk 2 tys = some { kind := 4, size := 1, bytes := 8, z := [.int .i64 0], ik := some .i64 } := rfl
theorem tok2 : TyOk Try.prog 2 td2 := ⟨by kernel_rfl, by show _ = _; kernel_rfl, by decide, .inl rfl⟩
theorem ty3 : lk 3 tys = some { kind := 4, size := 1, bytes := 8, z := [.int .i64 0], ik := some .i64 } := rfl
theorem tok3 : TyOk Try.prog 3 td3 := ⟨by kernel_rfl, by show _ = _; kernel_rfl, by decide, .inl rfl⟩
theorem ty4 : lk 4 tys = some { kind := 5, size := 1, bytes := 1, z := [.bool false] } := rfl
theorem tok4 : TyOk Try.prog 4 td4 := ⟨by kernel_rfl, by show _ = _; kernel_rfl, by decide, .inl rfl⟩
theorem ty5 : lk 5 tys = some { kind := 4, size := 1, bytes := 1, z := [.int .u8 0], ik := some .u8 } := rfl
theorem tok5 : TyOk Try.prog 5 td5 := ⟨by kernel_rfl, by show _ = _; kernel_rfl, by decide, .inl rfl⟩
theorem ty9 : lk 9 tys = some { kind := 2, size := 1, bytes := 16, z := [.string ⟨#[]⟩] } := rfl
theorem tok9 : TyOk Try.prog 9 td9 := ⟨by kernel_rfl, by show _ = _; kernel_rfl, by decide, .inl rfl⟩
theorem ty12 : lk 12 tys = some { kind := 4, size := 1, bytes := 8, z := [.int .u64 0], ik := some .u64 } := rfl
theorem tok12 : TyOk Try.prog 12 td12 := ⟨by kernel_rfl, by show _ = _; kernel_rfl, by decide, .inl rfl⟩
theorem ty21 : lk 21 tys = some { kind := 4, size := 1, bytes := 4, z := [.int .i32 0], ik := some .i32 } := rfl
theorem tok21 : TyOk Try.prog 21 td21 := ⟨by kernel_rfl, by show _ = _; kernel_rfl, by decide, .inl rfl⟩
theorem ty22 : lk 22 tys = some { kind := 1, size := 1, bytes := 24, z := [.slice none 0 0], elem := 3 } := rfl
theorem tok22 : TyOk Try.prog 22 td22 := ⟨by kernel_rfl, by show _ = _; kernel_rfl, by decide, .inl rfl⟩
theorem ty27 : lk 27 tys = some { kind := 1, size := 1, bytes := 24, z := [.slice none 0 0], elem := 81 } := rfl
theorem tok27 : TyOk Try.prog 27 td27 := ⟨by kernel_rfl, by show _ = _; kernel_rfl, by decide, .inl rfl⟩
theorem ty30 : lk 30 tys = some { kind := 1, size := 1, bytes := 24, z := [.slice none 0 0], elem := 78 } := rfl
theorem tok30 : TyOk Try.prog 30 td30 := ⟨by kernel_rfl, by show _ = _; kernel_rfl, by decide, .inl rfl⟩
theorem ty34 : lk 34 tys = some { kind := 1, size := 1, bytes := 24, z := [.slice none 0 0], elem := 85 } := rfl
theorem tok34 : TyOk Try.prog 34 td34 := ⟨by kernel_rfl, by show _ = _; kernel_rfl, by decide, .inl rfl⟩
theorem ty37 : lk 37 tys = some { kind := 1, size := 1, bytes := 24, z := [.slice none 0 0], elem := 86 } := rfl
theorem tok37 : TyOk Try.prog 37 td37 := ⟨by kernel_rfl, by show _ = _; kernel_rfl, by decide, .inl rfl⟩
theorem ty42 : lk 42 tys = some { kind := 3, size := 2, bytes := 24, z := [.string ⟨#[]⟩, .int .i64 0], offs := [(0, 1), (1, 1)], eqs := [2, 4] } := rfl
theorem tok42 : TyOk Try.prog 42 td42 := ⟨by kernel_rfl, by show _ = _; kernel_rfl, by decide, .inr ⟨by kernel_rfl, by kernel_rfl, rfl⟩⟩
theorem ty47 : lk 47 tys = some { kind := 1, size := 1, bytes := 24, z := [.slice none 0 0], elem := 96 } := rfl
theorem tok47 : TyOk Try.prog 47 td47 := ⟨by kernel_rfl, by show _ = _; kernel_rfl, by decide, .inl rfl⟩
theorem ty50 : lk 50 tys = some { kind := 1, size := 1, bytes := 24, z := [.slice none 0 0], elem := 97 } := rfl
theorem tok50 : TyOk Try.prog 50 td50 := ⟨by kernel_rfl, by show _ = _; kernel_rfl, by decide, .inl rfl⟩
theorem ty55 : lk 55 tys = some { kind := 1, size := 1, bytes := 24, z := [.slice none 0 0], elem := 9 } := rfl
theorem tok55 : TyOk Try.prog 55 td55 := ⟨by kernel_rfl, by show _ = _; kernel_rfl, by decide, .inl rfl⟩
theorem ty66 : lk 66 tys = some { kind := 1, size := 1, bytes := 24, z := [.slice none 0 0], elem := 5 } := rfl
theorem tok66 : TyOk Try.prog 66 td66 := ⟨by kernel_rfl, by show _ = _; kernel_rfl, by decide, .inl rfl⟩
theorem ty68 : lk 68 tys = some { kind := 1, size := 1, bytes := 24, z := [.slice none 0 0], elem := 133 } := rfl
theorem tok68 : TyOk Try.prog 68 td68 := ⟨by kernel_rfl, by show _ = _; kernel_rfl, by decide, .inl rfl⟩
theorem ty70 : lk 70 tys = some { kind := 3, size := 1, bytes := 24, z := [.slice none 0 0], offs := [(0, 1)] } := rfl
theorem tok70 : TyOk Try.prog 70 td70 := ⟨by kernel_rfl, by show _ = _; kernel_rfl, by decide, .inl rfl⟩
theorem ty72 : lk 72 tys = some { kind := 3, size := 2, bytes := 48, z := [.slice none 0 0, .slice none 0 0], offs := [(0, 1), (1, 1)] } := rfl
theorem tok72 : TyOk Try.prog 72 td72 := ⟨by kernel_rfl, by show _ = _; kernel_rfl, by decide, .inl rfl⟩
theorem ty78 : lk 78 tys = some { kind := 3, size := 4, bytes := 32, z := [.int .i64 0, .int .i64 0, .int .i64 0, .int .i64 0], offs := [(0, 1), (1, 1), (2, 1), (3, 1)], eqs := [4, 4, 4, 4] } := rfl
theorem tok78 : TyOk Try.prog 78 td78 := ⟨by kernel_rfl, by show _ = _; kernel_rfl, by decide, .inr ⟨by kernel_rfl, by kernel_rfl, rfl⟩⟩
theorem ty81 : lk 81 tys = some { kind := 3, size := 4, bytes := 32, z := [.int .i64 0, .int .i64 0, .int .i64 0, .int .i64 0], offs := [(0, 1), (1, 1), (2, 1), (3, 1)], eqs := [4, 4, 4, 4] } := rfl
theorem tok81 : TyOk Try.prog 81 td81 := ⟨by kernel_rfl, by show _ = _; kernel_rfl, by decide, .inr ⟨by kernel_rfl, by kernel_rfl, rfl⟩⟩
theorem ty85 : lk 85 tys = some { kind := 3, size := 3, bytes := 32, z := [.string ⟨#[]⟩, .int .i64 0, .int .i64 0], offs := [(0, 1), (1, 1), (2, 1)], eqs := [2, 4, 4] } := rfl
theorem tok85 : TyOk Try.prog 85 td85 := ⟨by kernel_rfl, by show _ = _; kernel_rfl, by decide, .inr ⟨by kernel_rfl, by kernel_rfl, rfl⟩⟩
theorem ty86 : lk 86 tys = some { kind := 3, size := 3, bytes := 32, z := [.string ⟨#[]⟩, .int .i64 0, .int .i64 0], offs := [(0, 1), (1, 1), (2, 1)], eqs := [2, 4, 4] } := rfl
theorem tok86 : TyOk Try.prog 86 td86 := ⟨by kernel_rfl, by show _ = _; kernel_rfl, by decide, .inr ⟨by kernel_rfl, by kernel_rfl, rfl⟩⟩
theorem ty96 : lk 96 tys = some { kind := 3, size := 4, bytes := 40, z := [.int .i64 0, .string ⟨#[]⟩, .int .i64 0, .int .i64 0], offs := [(0, 1), (1, 1), (2, 1), (3, 1)], eqs := [4, 2, 4, 4] } := rfl
theorem tok96 : TyOk Try.prog 96 td96 := ⟨by kernel_rfl, by show _ = _; kernel_rfl, by decide, .inr ⟨by kernel_rfl, by kernel_rfl, rfl⟩⟩
theorem ty97 : lk 97 tys = some { kind := 3, size := 4, bytes := 40, z := [.int .i64 0, .string ⟨#[]⟩, .int .i64 0, .int .i64 0], offs := [(0, 1), (1, 1), (2, 1), (3, 1)], eqs := [4, 2, 4, 4] } := rfl
theorem tok97 : TyOk Try.prog 97 td97 := ⟨by kernel_rfl, by show _ = _; kernel_rfl, by decide, .inr ⟨by kernel_rfl, by kernel_rfl, rfl⟩⟩
theorem ty106 : lk 106 tys = some { kind := 1, size := 1, bytes := 24, z := [.slice none 0 0], elem := 42 } := rfl
theorem tok106 : TyOk Try.prog 106 td106 := ⟨by kernel_rfl, by show _ = _; kernel_rfl, by decide, .inl rfl⟩
theorem ty108 : lk 108 tys = some { kind := 1, size := 1, bytes := 24, z := [.slice none 0 0], elem := 55 } := rfl
theorem tok108 : TyOk Try.prog 108 td108 := ⟨by kernel_rfl, by show _ = _; kernel_rfl, by decide, .inl rfl⟩
theorem ty112 : lk 112 tys = some { kind := 3, size := 3, bytes := 40, z := [.slice none 0 0, .int .i64 0, .int .i64 0], offs := [(0, 1), (1, 1), (2, 1)] } := rfl
theorem tok112 : TyOk Try.prog 112 td112 := ⟨by kernel_rfl, by show _ = _; kernel_rfl, by decide, .inl rfl⟩
theorem ty116 : lk 116 tys = some { kind := 1, size := 1, bytes := 24, z := [.slice none 0 0], elem := 125 } := rfl
theorem tok116 : TyOk Try.prog 116 td116 := ⟨by kernel_rfl, by show _ = _; kernel_rfl, by decide, .inl rfl⟩
theorem ty125 : lk 125 tys = some { kind := 3, size := 2, bytes := 24, z := [.string ⟨#[]⟩, .int .i64 0], offs := [(0, 1), (1, 1)], eqs := [2, 4] } := rfl
theorem tok125 : TyOk Try.prog 125 td125 := ⟨by kernel_rfl, by show _ = _; kernel_rfl, by decide, .inr ⟨by kernel_rfl, by kernel_rfl, rfl⟩⟩
theorem ty133 : lk 133 tys = some { kind := 3, size := 3, bytes := 32, z := [.int .i64 0, .string ⟨#[]⟩, .int .i64 0], offs := [(0, 1), (1, 2)], eqs := [4, 2, 4] } := rfl
theorem tok133 : TyOk Try.prog 133 td133 := ⟨by kernel_rfl, by show _ = _; kernel_rfl, by decide, .inr ⟨by kernel_rfl, by kernel_rfl, rfl⟩⟩
theorem ty135 : lk 135 tys = some { kind := 4, size := 1, bytes := 8, z := [.int .u64 0], ik := some .u64 } := rfl
theorem tok135 : TyOk Try.prog 135 td135 := ⟨by kernel_rfl, by show _ = _; kernel_rfl, by decide, .inl rfl⟩
theorem ty146 : lk 146 tys = some { kind := 4, size := 1, bytes := 4, z := [.int .u32 0], ik := some .u32 } := rfl
theorem tok146 : TyOk Try.prog 146 td146 := ⟨by kernel_rfl, by show _ = _; kernel_rfl, by decide, .inl rfl⟩
theorem tysOk : ∀ T d, lk T tys = some d → TyOk Try.prog T d := fun T d h => by
  have hm := lk_mem h
  simp only [tys, List.mem_cons, Prod.mk.injEq, List.not_mem_nil, or_false] at hm
  rcases hm with ⟨rfl, rfl⟩ | ⟨rfl, rfl⟩ | ⟨rfl, rfl⟩ | ⟨rfl, rfl⟩ | ⟨rfl, rfl⟩ | ⟨rfl, rfl⟩ | ⟨rfl, rfl⟩ | ⟨rfl, rfl⟩ | ⟨rfl, rfl⟩ | ⟨rfl, rfl⟩ | ⟨rfl, rfl⟩ | ⟨rfl, rfl⟩ | ⟨rfl, rfl⟩ | ⟨rfl, rfl⟩ | ⟨rfl, rfl⟩ | ⟨rfl, rfl⟩ | ⟨rfl, rfl⟩ | ⟨rfl, rfl⟩ | ⟨rfl, rfl⟩ | ⟨rfl, rfl⟩ | ⟨rfl, rfl⟩ | ⟨rfl, rfl⟩ | ⟨rfl, rfl⟩ | ⟨rfl, rfl⟩ | ⟨rfl, rfl⟩ | ⟨rfl, rfl⟩ | ⟨rfl, rfl⟩ | ⟨rfl, rfl⟩ | ⟨rfl, rfl⟩ | ⟨rfl, rfl⟩ | ⟨rfl, rfl⟩ | ⟨rfl, rfl⟩ | ⟨rfl, rfl⟩ | ⟨rfl, rfl⟩
  · exact tok2
  · exact tok3
  · exact tok4
  · exact tok5
  · exact tok9
  · exact tok12
  · exact tok21
  · exact tok22
  · exact tok27
  · exact tok30
  · exact tok34
  · exact tok37
  · exact tok42
  · exact tok47
  · exact tok50
  · exact tok55
  · exact tok66
  · exact tok68
  · exact tok70
  · exact tok72
  · exact tok78
  · exact tok81
  · exact tok85
  · exact tok86
  · exact tok96
  · exact tok97
  · exact tok106
  · exact tok108
  · exact tok112
  · exact tok116
  · exact tok125
  · exact tok133
  · exact tok135
  · exact tok146
theorem tyAll : lk 2 tys = some { kind := 4, size := 1, bytes := 8, z := [.int .i64 0], ik := some .i64 } ∧ lk 3 tys = some { kind := 4, size := 1, bytes := 8, z := [.int .i64 0], ik := some .i64 } ∧ lk 4 tys = some { kind := 5, size := 1, bytes := 1, z := [.bool false] } ∧ lk 5 tys = some { kind := 4, size := 1, bytes := 1, z := [.int .u8 0], ik := some .u8 } ∧ lk 9 tys = some { kind := 2, size := 1, bytes := 16, z := [.string ⟨#[]⟩] } ∧ lk 12 tys = some { kind := 4, size := 1, bytes := 8, z := [.int .u64 0], ik := some .u64 } ∧ lk 21 tys = some { kind := 4, size := 1, bytes := 4, z := [.int .i32 0], ik := some .i32 } ∧ lk 22 tys = some { kind := 1, size := 1, bytes := 24, z := [.slice none 0 0], elem := 3 } ∧ lk 27 tys = some { kind := 1, size := 1, bytes := 24, z := [.slice none 0 0], elem := 81 } ∧ lk 30 tys = some { kind := 1, size := 1, bytes := 24, z := [.slice none 0 0], elem := 78 } ∧ lk 34 tys = some { kind := 1, size := 1, bytes := 24, z := [.slice none 0 0], elem := 85 } ∧ lk 37 tys = some { kind := 1, size := 1, bytes := 24, z := [.slice none 0 0], elem := 86 } ∧ lk 42 tys = some { kind := 3, size := 2, bytes := 24, z := [.string ⟨#[]⟩, .int .i64 0], offs := [(0, 1), (1, 1)], eqs := [2, 4] } ∧ lk 47 tys = some { kind := 1, size := 1, bytes := 24, z := [.slice none 0 0], elem := 96 } ∧ lk 50 tys = some { kind := 1, size := 1, bytes := 24, z := [.slice none 0 0], elem := 97 } ∧ lk 55 tys = some { kind := 1, size := 1, bytes := 24, z := [.slice none 0 0], elem := 9 } ∧ lk 66 tys = some { kind := 1, size := 1, bytes := 24, z := [.slice none 0 0], elem := 5 } ∧ lk 68 tys = some { kind := 1, size := 1, bytes := 24, z := [.slice none 0 0], elem := 133 } ∧ lk 70 tys = some { kind := 3, size := 1, bytes := 24, z := [.slice none 0 0], offs := [(0, 1)] } ∧ lk 72 tys = some { kind := 3, size := 2, bytes := 48, z := [.slice none 0 0, .slice none 0 0], offs := [(0, 1), (1, 1)] } ∧ lk 78 tys = some { kind := 3, size := 4, bytes := 32, z := [.int .i64 0, .int .i64 0, .int .i64 0, .int .i64 0], offs := [(0, 1), (1, 1), (2, 1), (3, 1)], eqs := [4, 4, 4, 4] } ∧ lk 81 tys = some { kind := 3, size := 4, bytes := 32, z := [.int .i64 0, .int .i64 0, .int .i64 0, .int .i64 0], offs := [(0, 1), (1, 1), (2, 1), (3, 1)], eqs := [4, 4, 4, 4] } ∧ lk 85 tys = some { kind := 3, size := 3, bytes := 32, z := [.string ⟨#[]⟩, .int .i64 0, .int .i64 0], offs := [(0, 1), (1, 1), (2, 1)], eqs := [2, 4, 4] } ∧ lk 86 tys = some { kind := 3, size := 3, bytes := 32, z := [.string ⟨#[]⟩, .int .i64 0, .int .i64 0], offs := [(0, 1), (1, 1), (2, 1)], eqs := [2, 4, 4] } ∧ lk 96 tys = some { kind := 3, size := 4, bytes := 40, z := [.int .i64 0, .string ⟨#[]⟩, .int .i64 0, .int .i64 0], offs := [(0, 1), (1, 1), (2, 1), (3, 1)], eqs := [4, 2, 4, 4] } ∧ lk 97 tys = some { kind := 3, size := 4, bytes := 40, z := [.int .i64 0, .string ⟨#[]⟩, .int .i64 0, .int .i64 0], offs := [(0, 1), (1, 1), (2, 1), (3, 1)], eqs := [4, 2, 4, 4] } ∧ lk 106 tys = some { kind := 1, size := 1, bytes := 24, z := [.slice none 0 0], elem := 42 } ∧ lk 108 tys = some { kind := 1, size := 1, bytes := 24, z := [.slice none 0 0], elem := 55 } ∧ lk 112 tys = some { kind := 3, size := 3, bytes := 40, z := [.slice none 0 0, .int .i64 0, .int .i64 0], offs := [(0, 1), (1, 1), (2, 1)] } ∧ lk 116 tys = some { kind := 1, size := 1, bytes := 24, z := [.slice none 0 0], elem := 125 } ∧ lk 125 tys = some { kind := 3, size := 2, bytes := 24, z := [.string ⟨#[]⟩, .int .i64 0], offs := [(0, 1), (1, 1)], eqs := [2, 4] } ∧ lk 133 tys = some { kind := 3, size := 3, bytes := 32, z := [.int .i64 0, .string ⟨#[]⟩, .int .i64 0], offs := [(0, 1), (1, 2)], eqs := [4, 2, 4] } ∧ lk 135 tys = some { kind := 4, size := 1, bytes := 8, z := [.int .u64 0], ik := some .u64 } ∧ lk 146 tys = some { kind := 4, size := 1, bytes := 4, z := [.int .u32 0], ik := some .u32 } := ⟨rfl, rfl, rfl, rfl, rfl, rfl, rfl, rfl, rfl, rfl, rfl, rfl, rfl, rfl, rfl, rfl, rfl, rfl, rfl, rfl, rfl, rfl, rfl, rfl, rfl, rfl, rfl, rfl, rfl, rfl, rfl, rfl, rfl, rfl⟩
end Go.Proofs.Ytkikcjomjofhmaa
