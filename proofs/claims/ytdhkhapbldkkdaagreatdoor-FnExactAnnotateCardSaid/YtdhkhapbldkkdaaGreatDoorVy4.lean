/-
  DERIVED. Several texts of ours in one: VtA, VtI, VtX, VtMk, VtNumP, VtPU, VtName, VcR, VgFrame, VgNode, VpOrd, VpFmt, VpSz, VtMark.
-/
import Derived.Test.YtdhkhapbldkkdaaGreatDoorVy0
import Derived.Test.YtdhkhapbldkkdaaGreatDoorVy1
import Derived.Test.YtdhkhapbldkkdaaGreatDoorVy2
import Derived.Test.YtdhkhapbldkkdaaGreatDoorVy3
import Derived.Test.YtdhkhapbldkkdaaGreatDoorProg
import Derived.KernelRfl
import Derived.ProofKit
import Derived.OpenShut
import Derived.Below
import Derived.ChangeSame
import Derived.Carry
import Derived.Deep.Slices
import Derived.Deep.Fields
import Derived.Laws.Strings
set_option linter.unusedSimpArgs false
set_option linter.unusedVariables false
namespace Go.Proofs.YtdhkhapbldkkdaaGreatDoor
open Go.Vc
def td2 : TyD := { kind := 4, size := 1, bytes := 8, z := [.int .i64 0], ik := some .i64 } -- int64
def td3 : TyD := { kind := 4, size := 1, bytes := 8, z := [.int .i64 0], ik := some .i64 } -- int
def td4 : TyD := { kind := 5, size := 1, bytes := 1, z := [.bool false] } -- bool
def td5 : TyD := { kind := 4, size := 1, bytes := 1, z := [.int .u8 0], ik := some .u8 } -- uint8
def td9 : TyD := { kind := 2, size := 1, bytes := 16, z := [.string ⟨#[]⟩] } -- string
def td12 : TyD := { kind := 4, size := 1, bytes := 8, z := [.int .u64 0], ik := some .u64 } -- uintptr
def td21 : TyD := { kind := 4, size := 1, bytes := 4, z := [.int .i32 0], ik := some .i32 } -- int32
def td22 : TyD := { kind := 1, size := 1, bytes := 24, z := [.slice none 0 0], elem := 60 } -- []laws.Line
def td23 : TyD := { kind := 1, size := 1, bytes := 24, z := [.slice none 0 0], elem := 149 } -- []laws.Node
def td25 : TyD := { kind := 3, size := 1, bytes := 24, z := [.slice none 0 0], offs := [(0, 1)] } -- laws.Stacks
def td26 : TyD := { kind := 1, size := 1, bytes := 24, z := [.slice none 0 0], elem := 3 } -- []int
def td28 : TyD := { kind := 3, size := 2, bytes := 48, z := [.slice none 0 0, .slice none 0 0], offs := [(0, 1), (1, 1)] } -- laws.Profile
def td32 : TyD := { kind := 1, size := 1, bytes := 24, z := [.slice none 0 0], elem := 68 } -- []impl.Line
def td34 : TyD := { kind := 1, size := 1, bytes := 24, z := [.slice none 0 0], elem := 151 } -- []impl.Node
def td36 : TyD := { kind := 3, size := 1, bytes := 24, z := [.slice none 0 0], offs := [(0, 1)] } -- impl.Stacks
def td38 : TyD := { kind := 3, size := 2, bytes := 48, z := [.slice none 0 0, .slice none 0 0], offs := [(0, 1), (1, 1)] } -- impl.Profile
def td43 : TyD := { kind := 1, size := 1, bytes := 24, z := [.slice none 0 0], elem := 5 } -- []uint8
def td48 : TyD := { kind := 1, size := 1, bytes := 24, z := [.slice none 0 0], elem := 51 } -- []impl.LineCount
def td51 : TyD := { kind := 3, size := 2, bytes := 16, z := [.int .i64 0, .int .i64 0], offs := [(0, 1), (1, 1)], eqs := [4, 4] } -- impl.LineCount
def td57 : TyD := { kind := 1, size := 1, bytes := 24, z := [.slice none 0 0], elem := 9 } -- []string
def td58 : TyD := { kind := 1, size := 1, bytes := 24, z := [.slice none 0 0], elem := 145 } -- []laws.Tok
def td60 : TyD := { kind := 3, size := 4, bytes := 72, z := [.int .i64 0, .string ⟨#[]⟩, .slice none 0 0, .slice none 0 0], offs := [(0, 1), (1, 1), (2, 1), (3, 1)] } -- laws.Line
def td66 : TyD := { kind := 1, size := 1, bytes := 24, z := [.slice none 0 0], elem := 140 } -- []impl.Tok
def td68 : TyD := { kind := 3, size := 4, bytes := 72, z := [.int .i64 0, .string ⟨#[]⟩, .slice none 0 0, .slice none 0 0], offs := [(0, 1), (1, 1), (2, 1), (3, 1)] } -- impl.Line
def td80 : TyD := { kind := 1, size := 1, bytes := 24, z := [.slice none 0 0], elem := 83 } -- []impl.Entry
def td83 : TyD := { kind := 3, size := 2, bytes := 24, z := [.string ⟨#[]⟩, .int .i64 0], offs := [(0, 1), (1, 1)], eqs := [2, 4] } -- impl.Entry
def td84 : TyD := { kind := 1, size := 1, bytes := 24, z := [.slice none 0 0], elem := 89 } -- []impl.Frame
def td89 : TyD := { kind := 3, size := 2, bytes := 24, z := [.string ⟨#[]⟩, .int .i64 0], offs := [(0, 1), (1, 1)], eqs := [2, 4] } -- impl.Frame
def td119 : TyD := { kind := 3, size := 4, bytes := 80, z := [.pointer none, .slice none 0 0, .slice none 0 0, .slice none 0 0], offs := [(0, 1), (1, 1), (2, 1), (3, 1)] } -- spec.l03Gen
def td124 : TyD := { kind := 3, size := 3, bytes := 40, z := [.slice none 0 0, .int .i64 0, .int .i64 0], offs := [(0, 1), (1, 1), (2, 1)] } -- spec.l01Cur
def td140 : TyD := { kind := 3, size := 3, bytes := 32, z := [.int .i64 0, .int .i64 0, .string ⟨#[]⟩], offs := [(0, 1), (1, 1), (2, 1)], eqs := [4, 4, 2] } -- impl.Tok
def td145 : TyD := { kind := 3, size := 3, bytes := 32, z := [.int .i64 0, .int .i64 0, .string ⟨#[]⟩], offs := [(0, 1), (1, 1), (2, 1)], eqs := [4, 4, 2] } -- laws.Tok
def td147 : TyD := { kind := 3, size := 2, bytes := 24, z := [.string ⟨#[]⟩, .int .i64 0], offs := [(0, 1), (1, 1)], eqs := [2, 4] } -- laws.Frame
def td149 : TyD := { kind := 3, size := 3, bytes := 32, z := [.int .i64 0, .string ⟨#[]⟩, .int .i64 0], offs := [(0, 1), (1, 2)], eqs := [4, 2, 4] } -- laws.Node
def td151 : TyD := { kind := 3, size := 3, bytes := 32, z := [.int .i64 0, .string ⟨#[]⟩, .int .i64 0], offs := [(0, 1), (1, 2)], eqs := [4, 2, 4] } -- impl.Node
def td161 : TyD := { kind := 3, size := 2, bytes := 32, z := [.pointer none, .slice none 0 0], offs := [(0, 1), (1, 1)] } -- strings.Builder
def td177 : TyD := { kind := 4, size := 1, bytes := 8, z := [.int .u64 0], ik := some .u64 } -- uint
def td192 : TyD := { kind := 4, size := 1, bytes := 8, z := [.int .i64 0], ik := some .i64 } -- slices.sortedHint
def td199 : TyD := { kind := 4, size := 1, bytes := 4, z := [.int .u32 0], ik := some .u32 } -- uint32
def td201 : TyD := { kind := 4, size := 1, bytes := 8, z := [.int .u64 0], ik := some .u64 } -- uint64
def td213 : TyD := { kind := 4, size := 1, bytes := 8, z := [.int .u64 0], ik := some .u64 } -- slices.xorshift
def td232 : TyD := { kind := 3, size := 2, bytes := 2, z := [.int .u8 0, .int .u8 0], offs := [(0, 1), (1, 1)], eqs := [4, 4] } -- utf8.acceptRange
def tys : List (Nat × TyD) := [(2, td2), (3, td3), (4, td4), (5, td5), (9, td9), (12, td12), (21, td21), (22, td22), (23, td23), (25, td25), (26, td26), (28, td28), (32, td32), (34, td34), (36, td36), (38, td38), (43, td43), (48, td48), (51, td51), (57, td57), (58, td58), (60, td60), (66, td66), (68, td68), (80, td80), (83, td83), (84, td84), (89, td89), (119, td119), (124, td124), (140, td140), (145, td145), (147, td147), (149, td149), (151, td151), (161, td161), (177, td177), (192, td192), (199, td199), (201, td201), (213, td213), (232, td232)]
theorem tok2 : TyOk Tryz.prog 2 td2 := ⟨by kernel_rfl, by show _ = _; kernel_rfl, by decide, .inl rfl⟩
theorem tok3 : TyOk Tryz.prog 3 td3 := ⟨by kernel_rfl, by show _ = _; kernel_rfl, by decide, .inl rfl⟩
theorem tok4 : TyOk Tryz.prog 4 td4 := ⟨by kernel_rfl, by show _ = _; kernel_rfl, by decide, .inl rfl⟩
theorem tok5 : TyOk Tryz.prog 5 td5 := ⟨by kernel_rfl, by show _ = _; kernel_rfl, by decide, .inl rfl⟩
theorem tok9 : TyOk Tryz.prog 9 td9 := ⟨by kernel_rfl, by show _ = _; kernel_rfl, by decide, .inl rfl⟩
theorem tok12 : TyOk Tryz.prog 12 td12 := ⟨by kernel_rfl, by show _ = _; kernel_rfl, by decide, .inl rfl⟩
theorem tok21 : TyOk Tryz.prog 21 td21 := ⟨by kernel_rfl, by show _ = _; kernel_rfl, by decide, .inl rfl⟩
theorem tok22 : TyOk Tryz.prog 22 td22 := ⟨by kernel_rfl, by show _ = _; kernel_rfl, by decide, .inl rfl⟩
theorem tok23 : TyOk Tryz.prog 23 td23 := ⟨by kernel_rfl, by show _ = _; kernel_rfl, by decide, .inl rfl⟩
theorem tok25 : TyOk Tryz.prog 25 td25 := ⟨by kernel_rfl, by show _ = _; kernel_rfl, by decide, .inl rfl⟩
theorem tok26 : TyOk Tryz.prog 26 td26 := ⟨by kernel_rfl, by show _ = _; kernel_rfl, by decide, .inl rfl⟩
theorem tok28 : TyOk Tryz.prog 28 td28 := ⟨by kernel_rfl, by show _ = _; kernel_rfl, by decide, .inl rfl⟩
theorem tok32 : TyOk Tryz.prog 32 td32 := ⟨by kernel_rfl, by show _ = _; kernel_rfl, by decide, .inl rfl⟩
theorem tok34 : TyOk Tryz.prog 34 td34 := ⟨by kernel_rfl, by show _ = _; kernel_rfl, by decide, .inl rfl⟩
theorem tok36 : TyOk Tryz.prog 36 td36 := ⟨by kernel_rfl, by show _ = _; kernel_rfl, by decide, .inl rfl⟩
theorem tok38 : TyOk Tryz.prog 38 td38 := ⟨by kernel_rfl, by show _ = _; kernel_rfl, by decide, .inl rfl⟩
theorem tok43 : TyOk Tryz.prog 43 td43 := ⟨by kernel_rfl, by show _ = _; kernel_rfl, by decide, .inl rfl⟩
theorem tok48 : TyOk Tryz.prog 48 td48 := ⟨by kernel_rfl, by show _ = _; kernel_rfl, by decide, .inl rfl⟩
theorem tok51 : TyOk Tryz.prog 51 td51 := ⟨by kernel_rfl, by show _ = _; kernel_rfl, by decide, .inr ⟨by kernel_rfl, by kernel_rfl, rfl⟩⟩
theorem tok57 : TyOk Tryz.prog 57 td57 := ⟨by kernel_rfl, by show _ = _; kernel_rfl, by decide, .inl rfl⟩
theorem tok58 : TyOk Tryz.prog 58 td58 := ⟨by kernel_rfl, by show _ = _; kernel_rfl, by decide, .inl rfl⟩
theorem tok60 : TyOk Tryz.prog 60 td60 := ⟨by kernel_rfl, by show _ = _; kernel_rfl, by decide, .inl rfl⟩
theorem tok66 : TyOk Tryz.prog 66 td66 := ⟨by kernel_rfl, by show _ = _; kernel_rfl, by decide, .inl rfl⟩
theorem tok68 : TyOk Tryz.prog 68 td68 := ⟨by kernel_rfl, by show _ = _; kernel_rfl, by decide, .inl rfl⟩
theorem tok80 : TyOk Tryz.prog 80 td80 := ⟨by kernel_rfl, by show _ = _; kernel_rfl, by decide, .inl rfl⟩
theorem tok83 : TyOk Tryz.prog 83 td83 := ⟨by kernel_rfl, by show _ = _; kernel_rfl, by decide, .inr ⟨by kernel_rfl, by kernel_rfl, rfl⟩⟩
theorem tok84 : TyOk Tryz.prog 84 td84 := ⟨by kernel_rfl, by show _ = _; kernel_rfl, by decide, .inl rfl⟩
theorem tok89 : TyOk Tryz.prog 89 td89 := ⟨by kernel_rfl, by show _ = _; kernel_rfl, by decide, .inr ⟨by kernel_rfl, by kernel_rfl, rfl⟩⟩
theorem tok119 : TyOk Tryz.prog 119 td119 := ⟨by kernel_rfl, by show _ = _; kernel_rfl, by decide, .inl rfl⟩
theorem tok124 : TyOk Tryz.prog 124 td124 := ⟨by kernel_rfl, by show _ = _; kernel_rfl, by decide, .inl rfl⟩
theorem tok140 : TyOk Tryz.prog 140 td140 := ⟨by kernel_rfl, by show _ = _; kernel_rfl, by decide, .inr ⟨by kernel_rfl, by kernel_rfl, rfl⟩⟩
theorem tok145 : TyOk Tryz.prog 145 td145 := ⟨by kernel_rfl, by show _ = _; kernel_rfl, by decide, .inr ⟨by kernel_rfl, by kernel_rfl, rfl⟩⟩
theorem tok147 : TyOk Tryz.prog 147 td147 := ⟨by kernel_rfl, by show _ = _; kernel_rfl, by decide, .inr ⟨by kernel_rfl, by kernel_rfl, rfl⟩⟩
theorem tok149 : TyOk Tryz.prog 149 td149 := ⟨by kernel_rfl, by show _ = _; kernel_rfl, by decide, .inr ⟨by kernel_rfl, by kernel_rfl, rfl⟩⟩
theorem tok151 : TyOk Tryz.prog 151 td151 := ⟨by kernel_rfl, by show _ = _; kernel_rfl, by decide, .inr ⟨by kernel_rfl, by kernel_rfl, rfl⟩⟩
theorem tok161 : TyOk Tryz.prog 161 td161 := ⟨by kernel_rfl, by show _ = _; kernel_rfl, by decide, .inl rfl⟩
theorem tok177 : TyOk Tryz.prog 177 td177 := ⟨by kernel_rfl, by show _ = _; kernel_rfl, by decide, .inl rfl⟩
theorem tok192 : TyOk Tryz.prog 192 td192 := ⟨by kernel_rfl, by show _ = _; kernel_rfl, by decide, .inl rfl⟩
theorem tok199 : TyOk Tryz.prog 199 td199 := ⟨by kernel_rfl, by show _ = _; kernel_rfl, by decide, .inl rfl⟩
theorem tok201 : TyOk Tryz.prog 201 td201 := ⟨by kernel_rfl, by show _ = _; kernel_rfl, by decide, .inl rfl⟩
theorem tok213 : TyOk Tryz.prog 213 td213 := ⟨by kernel_rfl, by show _ = _; kernel_rfl, by decide, .inl rfl⟩
theorem tok232 : TyOk Tryz.prog 232 td232 := ⟨by kernel_rfl, by show _ = _; kernel_rfl, by decide, .inr ⟨by kernel_rfl, by kernel_rfl, rfl⟩⟩
theorem tysOk : ∀ T d, lk T tys = some d → TyOk Tryz.prog T d := fun T d h => by
  have hm := lk_mem h
  simp only [tys, List.mem_cons, Prod.mk.injEq, List.not_mem_nil, or_false] at hm
  rcases hm with ⟨rfl, rfl⟩ | ⟨rfl, rfl⟩ | ⟨rfl, rfl⟩ | ⟨rfl, rfl⟩ | ⟨rfl, rfl⟩ | ⟨rfl, rfl⟩ | ⟨rfl, rfl⟩ | ⟨rfl, rfl⟩ | ⟨rfl, rfl⟩ | ⟨rfl, rfl⟩ | ⟨rfl, rfl⟩ | ⟨rfl, rfl⟩ | ⟨rfl, rfl⟩ | ⟨rfl, rfl⟩ | ⟨rfl, rfl⟩ | ⟨rfl, rfl⟩ | ⟨rfl, rfl⟩ | ⟨rfl, rfl⟩ | ⟨rfl, rfl⟩ | ⟨rfl, rfl⟩ | ⟨rfl, rfl⟩ | ⟨rfl, rfl⟩ | ⟨rfl, rfl⟩ | ⟨rfl, rfl⟩ | ⟨rfl, rfl⟩ | ⟨rfl, rfl⟩ | ⟨rfl, rfl⟩ | ⟨rfl, rfl⟩ | ⟨rfl, rfl⟩ | ⟨rfl, rfl⟩ | ⟨rfl, rfl⟩ | ⟨rfl, rfl⟩ | ⟨rfl, rfl⟩ | ⟨rfl, rfl⟩ | ⟨rfl, rfl⟩ | ⟨rfl, rfl⟩ | ⟨rfl, rfl⟩ | ⟨rfl, rfl⟩ | ⟨rfl, rfl⟩ | ⟨rfl, rfl⟩ | ⟨rfl, rfl⟩ | ⟨rfl, rfl⟩
  · exact tok2
  · exact tok3
  · exact tok4
  · exact tok5
  · exact tok9
  · exact tok12
  · exact tok21
  · exact tok22
  · exact tok23
  · exact tok25
  · exact tok26
  · exact tok28
  · exact tok32
  · exact tok34
  · exact tok36
  · exact tok38
  · exact tok43
  · exact tok48
  · exact tok51
  · exact tok57
  · exact tok58
  · exact tok60
  · exact tok66
  · exact tok68
  · exact tok80
  · exact tok83
  · exact tok84
  · exact tok89
  · exact tok119
  · exact tok124
  · exact tok140
  · exact tok145
  · exact tok147
  · exact tok149
  · exact tok151
  · exact tok161
  · exact tok177
  · exact tok192
  · exact tok199
  · exact tok201
  · exact tok213
  · exact tok232
theorem tyAll : lk 2 tys = some { kind := 4, size := 1, bytes := 8, z := [.int .i64 0], ik := some .i64 } ∧ lk 3 tys = some { kind := 4, size := 1, bytes := 8, z := [.int .i64 0], ik := some .i64 } ∧ lk 4 tys = some { kind := 5, size := 1, bytes := 1, z := [.bool false] } ∧ lk 5 tys = some { kind := 4, size := 1, bytes := 1, z := [.int .u8 0], ik := some .u8 } ∧ lk 9 tys = some { kind := 2, size := 1, bytes := 16, z := [.string ⟨#[]⟩] } ∧ lk 12 tys = some { kind := 4, size := 1, bytes := 8, z := [.int .u64 0], ik := some .u64 } ∧ lk 21 tys = some { kind := 4, size := 1, bytes := 4, z := [.int .i32 0], ik := some .i32 } ∧ lk 22 tys = some { kind := 1, size := 1, bytes := 24, z := [.slice none 0 0], elem := 60 } ∧ lk 23 tys = some { kind := 1, size := 1, bytes := 24, z := [.slice none 0 0], elem := 149 } ∧ lk 25 tys = some { kind := 3, size := 1, bytes := 24, z := [.slice none 0 0], offs := [(0, 1)] } ∧ lk 26 tys = some { kind := 1, size := 1, bytes := 24, z := [.slice none 0 0], elem := 3 } ∧ lk 28 tys = some { kind := 3, size := 2, bytes := 48, z := [.slice none 0 0, .slice none 0 0], offs := [(0, 1), (1, 1)] } ∧ lk 32 tys = some { kind := 1, size := 1, bytes := 24, z := [.slice none 0 0], elem := 68 } ∧ lk 34 tys = some { kind := 1, size := 1, bytes := 24, z := [.slice none 0 0], elem := 151 } ∧ lk 36 tys = some { kind := 3, size := 1, bytes := 24, z := [.slice none 0 0], offs := [(0, 1)] } ∧ lk 38 tys = some { kind := 3, size := 2, bytes := 48, z := [.slice none 0 0, .slice none 0 0], offs := [(0, 1), (1, 1)] } ∧ lk 43 tys = some { kind := 1, size := 1, bytes := 24, z := [.slice none 0 0], elem := 5 } ∧ lk 48 tys = some { kind := 1, size := 1, bytes := 24, z := [.slice none 0 0], elem := 51 } ∧ lk 51 tys = some { kind := 3, size := 2, bytes := 16, z := [.int .i64 0, .int .i64 0], offs := [(0, 1), (1, 1)], eqs := [4, 4] } ∧ lk 57 tys = some { kind := 1, size := 1, bytes := 24, z := [.slice none 0 0], elem := 9 } ∧ lk 58 tys = some { kind := 1, size := 1, bytes := 24, z := [.slice none 0 0], elem := 145 } ∧ lk 60 tys = some { kind := 3, size := 4, bytes := 72, z := [.int .i64 0, .string ⟨#[]⟩, .slice none 0 0, .slice none 0 0], offs := [(0, 1), (1, 1), (2, 1), (3, 1)] } ∧ lk 66 tys = some { kind := 1, size := 1, bytes := 24, z := [.slice none 0 0], elem := 140 } ∧ lk 68 tys = some { kind := 3, size := 4, bytes := 72, z := [.int .i64 0, .string ⟨#[]⟩, .slice none 0 0, .slice none 0 0], offs := [(0, 1), (1, 1), (2, 1), (3, 1)] } ∧ lk 80 tys = some { kind := 1, size := 1, bytes := 24, z := [.slice none 0 0], elem := 83 } ∧ lk 83 tys = some { kind := 3, size := 2, bytes := 24, z := [.string ⟨#[]⟩, .int .i64 0], offs := [(0, 1), (1, 1)], eqs := [2, 4] } ∧ lk 84 tys = some { kind := 1, size := 1, bytes := 24, z := [.slice none 0 0], elem := 89 } ∧ lk 89 tys = some { kind := 3, size := 2, bytes := 24, z := [.string ⟨#[]⟩, .int .i64 0], offs := [(0, 1), (1, 1)], eqs := [2, 4] } ∧ lk 119 tys = some { kind := 3, size := 4, bytes := 80, z := [.pointer none, .slice none 0 0, .slice none 0 0, .slice none 0 0], offs := [(0, 1), (1, 1), (2, 1), (3, 1)] } ∧ lk 124 tys = some { kind := 3, size := 3, bytes := 40, z := [.slice none 0 0, .int .i64 0, .int .i64 0], offs := [(0, 1), (1, 1), (2, 1)] } ∧ lk 140 tys = some { kind := 3, size := 3, bytes := 32, z := [.int .i64 0, .int .i64 0, .string ⟨#[]⟩], offs := [(0, 1), (1, 1), (2, 1)], eqs := [4, 4, 2] } ∧ lk 145 tys = some { kind := 3, size := 3, bytes := 32, z := [.int .i64 0, .int .i64 0, .string ⟨#[]⟩], offs := [(0, 1), (1, 1), (2, 1)], eqs := [4, 4, 2] } ∧ lk 147 tys = some { kind := 3, size := 2, bytes := 24, z := [.string ⟨#[]⟩, .int .i64 0], offs := [(0, 1), (1, 1)], eqs := [2, 4] } ∧ lk 149 tys = some { kind := 3, size := 3, bytes := 32, z := [.int .i64 0, .string ⟨#[]⟩, .int .i64 0], offs := [(0, 1), (1, 2)], eqs := [4, 2, 4] } ∧ lk 151 tys = some { kind := 3, size := 3, bytes := 32, z := [.int .i64 0, .string ⟨#[]⟩, .int .i64 0], offs := [(0, 1), (1, 2)], eqs := [4, 2, 4] } ∧ lk 161 tys = some { kind := 3, size := 2, bytes := 32, z := [.pointer none, .slice none 0 0], offs := [(0, 1), (1, 1)] } ∧ lk 177 tys = some { kind := 4, size := 1, bytes := 8, z := [.int .u64 0], ik := some .u64 } ∧ lk 192 tys = some { kind := 4, size := 1, bytes := 8, z := [.int .i64 0], ik := some .i64 } ∧ lk 199 tys = some { kind := 4, size := 1, bytes := 4, z := [.int .u32 0], ik := some .u32 } ∧ lk 201 tys = some { kind := 4, size := 1, bytes := 8, z := [.int .u64 0], ik := some .u64 } ∧ lk 213 tys = some { kind := 4, size := 1, bytes := 8, z := [.int .u64 0], ik := some .u64 } ∧ lk 232 tys = some { kind := 3, size := 2, bytes := 2, z := [.int .u8 0, .int .u8 0], offs := [(0, 1), (1, 1)], eqs := [4, 4] } := ⟨rfl, rfl, rfl, rfl, rfl, rfl, rfl, rfl, rfl, rfl, rfl, rfl, rfl, rfl, rfl, rfl, rfl, rfl, rfl, rfl, rfl, rfl, rfl, rfl, rfl, rfl, rfl, rfl, rfl, rfl, rfl, rfl, rfl, rfl, rfl, rfl, rfl, rfl, rfl, rfl, rfl, rfl⟩
end Go.Proofs.YtdhkhapbldkkdaaGreatDoor

namespace Go.Proofs.YtdhkhapbldkkdaaGreatDoor
open Go.Vc
attribute [local go_sem] St.runR St.runW St.stepV offV St.step St.stepU St.stepG mkCond guardB St.prK St.pr St.prLen St.eff St.callE St.callD St.callF St.callL aI aS aR aC St.isM St.argL Ctr.pure Ctr.lend Ctr.move Ctr.isL Ctr.wri pur len lentBy St.lentV St.lent1 nthS argsR restOf obsR pairs swapL unObs backL St.resL erL SV.ren1 SV.up SV.up2 Ob.up St.fzL cellIds partIds St.intoRow SV.ownId St.fz SV.fz1 St.prep St.mvL St.mv SV.re1 rnOk St.prEq vals eqCells scEq Value.kd St.prStr St.prCut cutR St.bnd St.prMin St.bld isShift outL retL outJ oR SV.upq SV.isSl SV.shut St.deepK St.dpArg St.deepQ absC Ob.pl St.ev St.get St.put St.new St.kill SV.kill SV.kill1 Ob.kill St.app St.wrt St.rowsOf St.res St.killL lk er argsL SV.strip SV.need SV.share SV.share1 SV.owns SV.owns1 SV.owns2 SV.good SV.good1 SV.rok SV.rok1 SV.rok2 SV.isV SV.isV2 nodupN SV.cells SV.one SV.pur Ob.pb partsIn rowsIn splice cellsAt dstOk scal2 scal1 thenK blockK retK outK outs okC okL okA okT nilC nilL nilA nilT keepC keepL keepA keepT St.runG St.dltK St.least St.clean St.final St.hide offK badS badO SV.refs SV.leaf SV.leaf2 Ob.refs dlOk fpAt Go.Vc.cover tups SV.ofAgg St.out outC subL St.has rng wr Value.oneCell' Option.isSome_some Option.isSome_none List.nil_append Bool.false_eq_true List.map_cons List.map_nil List.all_cons List.all_nil List.length_cons List.length_nil List.drop_zero List.drop_succ_cons List.take_succ_cons List.take_zero List.drop_nil List.take_nil List.getElem?_cons_zero List.getElem?_cons_succ List.getElem?_nil List.cons_append List.nil_append List.append_nil List.append_assoc List.flatMap_cons List.flatMap_nil List.contains_cons List.contains_nil List.set_cons_zero List.set_cons_succ List.getElem?_toArray Option.getD_some Option.getD_none Option.map_some Option.map_none Option.bind_some Option.some.injEq Prod.mk.injEq if_true if_false true_and and_true and_self and_false false_and Bool.and_false Bool.false_and Bool.or_true Bool.true_or Bool.or_false Bool.false_or ne_eq not_true_eq_false not_false_eq_true decide_true decide_false List.mem_cons List.not_mem_nil List.filter_cons List.filter_nil List.any_cons List.any_nil List.isEmpty_nil List.isEmpty_cons Option.getD_none or_false false_or true_or or_true forall_eq_or_imp forall_eq reduceCtorEq exists_eq exists_eq' exists_eq_left' exists_eq_left exists_eq_right exists_eq_right' imp_self implies_true Bool.and_true Bool.true_and Bool.and_self beq_self_eq_true List.replicate_succ List.replicate_zero forall_const false_implies pickB_or pickB_and beqT beqF Int.toNat_natCast List.length_map List.length_replicate ge_iff_le gt_iff_lt decide_eq_true_eq decide_eq_false_iff_not Bool.and_eq_true Bool.or_eq_true Bool.not_eq_true' Bool.not_eq_false' condG List.toList_toArray Bool.or_eq_false_iff Bool.and_eq_false_iff Int.not_lt Int.not_le beq_iff_eq beq_eq_false_iff_ne bne_iff_ne bne_eq_false_iff_eq ne_eq Bool.not_true Bool.not_false exists_and_left Nat.reduceAdd Nat.reduceLT Nat.reduceLeDiff Nat.reduceEqDiff Nat.reduceMul Nat.reduceSub Nat.reduceGT reduceIte Int.reduceNeg Int.reduceToNat
section
open Go.Vc
set_option linter.unusedSimpArgs false
set_option linter.unusedVariables false
set_option maxHeartbeats 1000000
attribute [local irreducible] Go.Vc.WP
noncomputable def cx0 : Cx := { P := Tryz.prog, tys := tys, C := [], hty := tysOk, hC := COk.nil _ }
theorem cx0_t : cx0.tys = tys := rfl
theorem cx0_c : cx0.C = [] := rfl
attribute [local go_sem] cx0_t cx0_c
def encI (x : Int) : List SV := [.v (.int .i64 x)]
theorem encI_inj {L M : List Int} : L.map encI = M.map encI ↔ L = M := by
  exact List.map_inj_right (fun a b h => by simpa [encI] using h)
def decI (rows : List (List SV)) : List Int := rows.map fun r => match r with
  | [.v (.int _ n)] => n
  | _ => 0
theorem decI_enc (L : List Int) : decI (L.map encI) = L := by
  unfold decI
  rw [List.map_map]
  exact List.map_id'' (fun _ => rfl) L
theorem isV_I {e s : Nat} (L : List Int) : (Ob.sl e s (L.map encI)).isV := by
  intro row hr c hc
  obtain ⟨n, _, rfl⟩ := List.mem_map.1 hr
  simp [encI] at hc
  exact ⟨_, hc⟩
theorem isV_It {e s : Nat} (L : List Int) : (Ob.sl e s (L.map encI)).isV ↔ True := iff_true_intro (isV_I L)
def k60 : Ctr := pur (fun args => (aI args 0, aI args 1, aI args 2)) (fun x => [.v (.int .i64 x.1), .v (.int .i64 x.2.1), .v (.int .i64 x.2.2)]) (fun _ => True)
  (fun _ x => .v (.bool (decide (x.2.1 ≤ x.1) && decide (x.1 ≤ x.2.2)))) (fun _ _ => [])
theorem c60 : Cn Tryz.prog 41 k60 := by
  refine Cn.pur Tryz.func41 (by kernel_rfl) rfl fun d x _ => ?_
  obtain ⟨n, lo, hi⟩ := x
  refine Holds.go (c := cx0) Tryz.func41 rfl Tryz.results41 Tryz.ntmps41 (by omega) (by simp) rfl ?_
  intro X0 w0
  (repeat' (first | refine WP.seq ?_ | refine WP.block ?_ | ((first | refine WP.region ?_ | refine WP.condW ?_ | refine WP.ret ?_ | refine WP.exit ?_ | refine WP.skip ?_); simp only [go_sem, tyAll]) |  refine And.intro ?_ ?_ | intro _))
theorem c58 : Cn Tryz.prog 57 k60 := by
  refine Cn.pur Tryz.func57 (by kernel_rfl) rfl fun d x _ => ?_
  obtain ⟨n, lo, hi⟩ := x
  refine Holds.go (c := cx0) Tryz.func57 rfl Tryz.results57 Tryz.ntmps57 (by omega) (by simp) rfl ?_
  intro X0 w0
  (repeat' (first | refine WP.seq ?_ | refine WP.block ?_ | ((first | refine WP.region ?_ | refine WP.condW ?_ | refine WP.ret ?_ | refine WP.exit ?_ | refine WP.skip ?_); simp only [go_sem, tyAll]) |  refine And.intro ?_ ?_ | intro _))
def k15 : Ctr := pur (fun args => decI (aR args 0)) (fun L => [.sl 1 (L.map encI)]) (fun L => L.length ≤ 2097152) (fun d _ => .own d) (fun d L => [(d, .sl 3 1 (L.map encI))])
theorem c15 : Cn Tryz.prog 30 k15 := by
  refine Cn.pur Tryz.func30 (by kernel_rfl) rfl fun d L hL => ?_
  refine Holds.go (c := cx0) Tryz.func30 rfl Tryz.results30 Tryz.ntmps30 (by omega) (by simp) rfl ?_
  intro X0 w0
  (repeat' (first | refine WP.seq ?_ | refine WP.block ?_ | ((first | refine WP.region ?_ | refine WP.condW ?_ | refine WP.ret ?_ | refine WP.exit ?_ | refine WP.skip ?_); simp only [go_sem, tyAll]) |  refine And.intro ?_ ?_ | intro _))
  · omega
  · omega
  · omega
  refine WP.loop (fun k : Nat => ⟨[(0, .sl 1 (L.map encI)), (3, .own 7), (4, .v (.int .i64 k))], [(7, .sl 3 1 (filled encI [.v (.int .i64 0)] L k))]⟩) (fun k => k ≤ L.length) (fun k => L.length - k) 0 (by omega) ?_ ?_
  · rw [filled_zero]; simp only [go_sem, tyAll]; rfl
  intro k hk
  by_cases hlt : k < L.length
  · have h1 := rowAt_map encI L k hlt
    have h2 := filled_len encI [.v (.int .i64 0)] L k hk
    have h3 := filled_row encI [.v (.int .i64 0)] L k hlt
    have h4 := filled_set encI [.v (.int .i64 0)] L k hlt
    rw [encI] at h4
    (repeat' (first | refine WP.seq ?_ | refine WP.block ?_ | ((first | refine WP.region ?_ | refine WP.condW ?_ | refine WP.ret ?_ | refine WP.exit ?_ | refine WP.skip ?_); simp only [go_sem, h1, h2, h3, h4, encI, tyAll]) |  refine And.intro ?_ ?_ | intro _))
    all_goals first | omega | skip
    exact ⟨k + 1, by omega, by omega, rfl, rfl⟩
  · have h2 := filled_len encI [.v (.int .i64 0)] L k hk
    have h5 : filled encI [.v (.int .i64 0)] L k = L.map encI := by rw [show k = L.length by omega]; exact filled_all _ _ _
    (repeat' (first | refine WP.seq ?_ | refine WP.block ?_ | ((first | refine WP.region ?_ | refine WP.condW ?_ | refine WP.ret ?_ | refine WP.exit ?_ | refine WP.skip ?_); simp only [go_sem, h2, h5, tyAll]) |  refine And.intro ?_ ?_ | intro _))
    all_goals first | omega | skip
def k17 : Ctr := pur (fun args => (decI (aR args 0), decI (aR args 1))) (fun x => [.sl 1 (x.1.map encI), .sl 1 (x.2.map encI)]) (fun x => x.1.length ≤ 4398046511104) (fun _ x => .v (.bool (decide (x.1 = x.2)))) (fun _ _ => [])
theorem c17 : Cn Tryz.prog 37 k17 := by
  refine Cn.pur Tryz.func37 (by kernel_rfl) rfl fun d x hL => ?_
  obtain ⟨L, M⟩ := x
  simp only at hL ⊢
  refine Holds.go (c := cx0) Tryz.func37 rfl Tryz.results37 Tryz.ntmps37 (by omega) (by simp) rfl ?_
  intro X0 w0
  (repeat' (first | refine WP.seq ?_ | refine WP.block ?_ | ((first | refine WP.region ?_ | refine WP.condW ?_ | refine WP.ret ?_ | refine WP.exit ?_ | refine WP.skip ?_); simp only [go_sem, tyAll]) |  refine And.intro ?_ ?_ | intro _))
  · simp; intro h; subst h; simp_all
  have hlen : L.length = M.length := by omega
  refine WP.loop (fun k : Nat => ⟨[(0, .sl 1 (L.map encI)), (1, .sl 1 (M.map encI)), (5, .v (.int .i64 k))], []⟩) (fun k => k ≤ L.length ∧ L.take k = M.take k) (fun k => L.length - k) 0 (by simp) ?_ ?_
  · simp only [go_sem, tyAll]; rfl
  intro k ⟨hk, ht⟩
  by_cases hlt : k < L.length
  · have h1 := rowAt_map encI L k hlt
    have h2 := rowAt_map encI M k (by omega)
    (repeat' (first | refine WP.seq ?_ | refine WP.block ?_ | ((first | refine WP.region ?_ | refine WP.condW ?_ | refine WP.ret ?_ | refine WP.exit ?_ | refine WP.skip ?_); simp only [go_sem, h1, h2, encI, tyAll]) | (refine WP.drawW 9 (by kernel_rfl) (by kernel_rfl) ?_; simp only [go_sem, h1, h2, encI, tyAll]) |  refine And.intro ?_ ?_ | intro _))
    all_goals first | omega | skip
    · rename_i hne
      rw [show decide (L = M) = false from decide_eq_false fun e => by subst e; exact hne rfl]
    · rename_i he
      refine ⟨k + 1, ⟨by omega, ?_⟩, by omega, rfl⟩
      rw [List.take_succ_eq_append_getElem hlt, List.take_succ_eq_append_getElem (by omega : k < M.length), ht, he]
  · (repeat' (first | refine WP.seq ?_ | refine WP.block ?_ | ((first | refine WP.region ?_ | refine WP.condW ?_ | refine WP.ret ?_ | refine WP.exit ?_ | refine WP.skip ?_); simp only [go_sem, tyAll]) |  refine And.intro ?_ ?_ | intro _))
    all_goals first | omega | skip
    rw [show decide (L = M) = true from decide_eq_true ?_]
    rw [show k = L.length by omega, List.take_length, hlen, List.take_length] at ht
    exact ht
end
end Go.Proofs.YtdhkhapbldkkdaaGreatDoor
namespace Go.Proofs.YtdhkhapbldkkdaaGreatDoor
set_option linter.unusedVariables false
def firstIdx {α : Type} (p : α → Bool) (L : List α) : Int := match L.findIdx? p with
  | some i => (i : Int)
  | none => -1
theorem firstIdx_hit {α : Type} {p : α → Bool} {L : List α} {k : Nat} (hk : k < L.length) (h : ∀ i (hi : i < L.length), i < k → p L[i] = false) (hp : p L[k] = true) : firstIdx p L = k := by
  unfold firstIdx
  have : L.findIdx? p = some k := by
    rw [List.findIdx?_eq_some_iff_getElem]
    exact ⟨hk, hp, fun j hj => by simp [h j (by omega) hj]⟩
  rw [this]
theorem firstIdx_none {α : Type} {p : α → Bool} {L : List α} (h : ∀ i (hi : i < L.length), p L[i] = false) : firstIdx p L = -1 := by
  unfold firstIdx
  have : L.findIdx? p = none := by
    rw [List.findIdx?_eq_none_iff]
    intro x hx
    obtain ⟨i, hi, rfl⟩ := List.mem_iff_getElem.1 hx
    exact h i hi
  rw [this]
def szGo : List Nat → Int → Int
  | [], r => r
  | n :: l, r => if r - n < 0 then -1 else szGo l (r - n)
theorem szGo_drop (L : List Nat) (k : Nat) (r : Int) (h : k < L.length) : szGo (L.drop k) r = if r - (L[k] : Int) < 0 then -1 else szGo (L.drop (k + 1)) (r - (L[k] : Int)) := by
  rw [List.drop_eq_getElem_cons h]; rfl
theorem szGo_ok : ∀ (L : List Nat) (r : Int), 0 ≤ r → 0 ≤ szGo L r → ∀ n ∈ L, (n : Int) ≤ r
  | [], _, _, _, n, hn => by cases hn
  | m :: l, r, h0, h, n, hn => by
    unfold szGo at h
    split at h
    · omega
    · rename_i h2
      rcases List.mem_cons.1 hn with rfl | hn
      · omega
      · have := szGo_ok l (r - m) (by omega) h n hn
        omega
end Go.Proofs.YtdhkhapbldkkdaaGreatDoor

namespace Go.Proofs.YtdhkhapbldkkdaaGreatDoor
open Go.Vc
attribute [local go_sem] St.runR St.runW St.stepV offV St.step St.stepU St.stepG mkCond guardB St.prK St.pr St.prLen St.eff St.callE St.callD St.callF St.callL aI aS aR aC St.isM St.argL Ctr.pure Ctr.lend Ctr.move Ctr.isL Ctr.wri pur len lentBy St.lentV St.lent1 nthS argsR restOf obsR pairs swapL unObs backL St.resL erL SV.ren1 SV.up SV.up2 Ob.up St.fzL cellIds partIds St.intoRow SV.ownId St.fz SV.fz1 St.prep St.mvL St.mv SV.re1 rnOk St.prEq vals eqCells scEq Value.kd St.prStr St.prCut cutR St.bnd St.prMin St.bld isShift outL retL outJ oR SV.upq SV.isSl SV.shut St.deepK St.dpArg St.deepQ absC Ob.pl St.ev St.get St.put St.new St.kill SV.kill SV.kill1 Ob.kill St.app St.wrt St.rowsOf St.res St.killL lk er argsL SV.strip SV.need SV.share SV.share1 SV.owns SV.owns1 SV.owns2 SV.good SV.good1 SV.rok SV.rok1 SV.rok2 SV.isV SV.isV2 nodupN SV.cells SV.one SV.pur Ob.pb partsIn rowsIn splice cellsAt dstOk scal2 scal1 thenK blockK retK outK outs okC okL okA okT nilC nilL nilA nilT keepC keepL keepA keepT St.runG St.dltK St.least St.clean St.final St.hide offK badS badO SV.refs SV.leaf SV.leaf2 Ob.refs dlOk fpAt Go.Vc.cover tups SV.ofAgg St.out outC subL St.has rng wr Value.oneCell' Option.isSome_some Option.isSome_none List.nil_append Bool.false_eq_true List.map_cons List.map_nil List.all_cons List.all_nil List.length_cons List.length_nil List.drop_zero List.drop_succ_cons List.take_succ_cons List.take_zero List.drop_nil List.take_nil List.getElem?_cons_zero List.getElem?_cons_succ List.getElem?_nil List.cons_append List.nil_append List.append_nil List.append_assoc List.flatMap_cons List.flatMap_nil List.contains_cons List.contains_nil List.set_cons_zero List.set_cons_succ List.getElem?_toArray Option.getD_some Option.getD_none Option.map_some Option.map_none Option.bind_some Option.some.injEq Prod.mk.injEq if_true if_false true_and and_true and_self and_false false_and Bool.and_false Bool.false_and Bool.or_true Bool.true_or Bool.or_false Bool.false_or ne_eq not_true_eq_false not_false_eq_true decide_true decide_false List.mem_cons List.not_mem_nil List.filter_cons List.filter_nil List.any_cons List.any_nil List.isEmpty_nil List.isEmpty_cons Option.getD_none or_false false_or true_or or_true forall_eq_or_imp forall_eq reduceCtorEq exists_eq exists_eq' exists_eq_left' exists_eq_left exists_eq_right exists_eq_right' imp_self implies_true Bool.and_true Bool.true_and Bool.and_self beq_self_eq_true List.replicate_succ List.replicate_zero forall_const false_implies pickB_or pickB_and beqT beqF Int.toNat_natCast List.length_map List.length_replicate ge_iff_le gt_iff_lt decide_eq_true_eq decide_eq_false_iff_not Bool.and_eq_true Bool.or_eq_true Bool.not_eq_true' Bool.not_eq_false' condG List.toList_toArray Bool.or_eq_false_iff Bool.and_eq_false_iff Int.not_lt Int.not_le beq_iff_eq beq_eq_false_iff_ne bne_iff_ne bne_eq_false_iff_eq ne_eq Bool.not_true Bool.not_false exists_and_left
section
open Go.Vc
set_option linter.unusedSimpArgs false
set_option linter.unusedVariables false
set_option maxHeartbeats 1000000
set_option maxRecDepth 10000
attribute [local irreducible] Go.Vc.WP
attribute [local go_sem] cx0_t cx0_c
def decB : Nat → List UInt8
  | 0 => []
  | k + 1 => decB ((k + 1) / 10) ++ [UInt8.ofNat (48 + (k + 1) % 10)]
decreasing_by omega
theorem decB_pos (k : Nat) (h : 0 < k) : decB k = decB (k / 10) ++ [UInt8.ofNat (48 + k % 10)] := by
  cases k with
  | zero => omega
  | succ k => rw [decB]
theorem decB_len : ∀ (n k : Nat), k < 10 ^ n → (decB k).length ≤ n
  | 0, k, h => by have : k = 0 := by simpa using h
                  subst this; simp [decB]
  | n + 1, k, h => by
    rcases Nat.eq_zero_or_pos k with h0 | h0
    · subst h0; simp [decB]
    · rw [decB_pos k h0, List.length_append]
      have := decB_len n (k / 10) (by rw [Nat.pow_succ] at h; omega)
      simp only [List.length_cons, List.length_nil]; omega
def bts (l : List UInt8) : ByteArray := ⟨l.toArray⟩
theorem bts_append (a b : List UInt8) : bts a ++ bts b = bts (a ++ b) := by
  unfold bts
  apply ByteArray.ext
  simp
theorem bts_size (a : List UInt8) : (bts a).size = a.length := by simp [bts, ByteArray.size]
theorem strOf_one (n : Int) (h0 : 0 ≤ n) (h1 : n ≤ 9) : strOf [[.v (.int .u8 (48 + n))]] = bts [UInt8.ofNat (48 + n.toNat)] := by
  have e : (48 + n).toNat = 48 + n.toNat := by omega
  have e2 : Go.Vc.byteOf [.v (.int .u8 (48 + n))] = UInt8.ofNat (48 + n.toNat) := by show UInt8.ofNat (48 + n).toNat = _; rw [e]
  unfold strOf bts
  rw [List.map_cons, List.map_nil, e2]
def encS (x : ByteArray) : List SV := [.v (.string x)]
def oneS : List SV → ByteArray
  | [.v (.string n)] => n
  | _ => ⟨#[]⟩
def decS (rows : List (List SV)) : List ByteArray := rows.map oneS
theorem oneS_enc (x : ByteArray) : oneS (encS x) = x := rfl
theorem decS_enc (L : List ByteArray) : decS (L.map encS) = L := by
  unfold decS
  rw [List.map_map]
  exact List.map_id'' oneS_enc L
end
end Go.Proofs.YtdhkhapbldkkdaaGreatDoor
namespace Go.Proofs.YtdhkhapbldkkdaaGreatDoor
set_option linter.unusedVariables false
def dig (c : UInt8) : Bool := decide (48 ≤ c.toNat) && decide (c.toNat ≤ 57)
theorem dig_iff {c : UInt8} : dig c = true ↔ 48 ≤ c.toNat ∧ c.toNat ≤ 57 := by simp [dig]
def valL (l : List UInt8) : Nat := l.foldl (fun n c => 10 * n + (c.toNat - 48)) 0
theorem valL_snoc (l : List UInt8) (c : UInt8) : valL (l ++ [c]) = 10 * valL l + (c.toNat - 48) := by simp [valL]
theorem ofNat_dig {c : UInt8} (h : dig c = true) : UInt8.ofNat (48 + (c.toNat - 48)) = c := by
  have := dig_iff.1 h
  rw [show 48 + (c.toNat - 48) = c.toNat by omega]
  exact UInt8.ofNat_toNat
theorem valL_lt : ∀ (n : Nat) (l : List UInt8), l.length = n → l.all dig = true → valL l < 10 ^ n
  | 0, l, h, _ => by have := List.eq_nil_of_length_eq_zero h; subst this; simp [valL]
  | n + 1, l, h, hd => by
    have hne : l ≠ [] := by intro e; subst e; simp at h
    have e := (List.dropLast_concat_getLast hne).symm
    rw [e] at hd ⊢
    rw [List.all_append, Bool.and_eq_true] at hd
    have ih := valL_lt n l.dropLast (by simp [h]) hd.1
    have hc : dig (l.getLast hne) = true := by simpa using hd.2
    have := dig_iff.1 hc
    rw [valL_snoc, Nat.pow_succ]
    omega
theorem decB_valL : ∀ (n : Nat) (l : List UInt8), l.length = n + 1 → l.all dig = true → l.head? ≠ some 48 → decB (valL l) = l ∧ 0 < valL l
  | 0, l, h, hd, hh => by
    match l, h with
    | [c], _ =>
      have hc : dig c = true := by simpa using hd
      have h1 := dig_iff.1 hc
      have hne : c.toNat ≠ 48 := by
        intro e
        apply hh
        simp only [List.head?_cons, Option.some.injEq]
        exact UInt8.toNat_inj.1 e
      have hv : valL [c] = c.toNat - 48 := by simp [valL]
      rw [hv]
      have h0 : 0 < c.toNat - 48 := by omega
      refine ⟨?_, h0⟩
      rw [decB_pos _ h0, show (c.toNat - 48) / 10 = 0 by omega, show (c.toNat - 48) % 10 = c.toNat - 48 by omega, ofNat_dig hc]
      simp [decB]
  | n + 1, l, h, hd, hh => by
    have hne : l ≠ [] := by intro e; subst e; simp at h
    have e := (List.dropLast_concat_getLast hne).symm
    have hlen : l.dropLast.length = n + 1 := by simp [h]
    have hd' := hd
    rw [e, List.all_append, Bool.and_eq_true] at hd'
    have hh' : l.dropLast.head? ≠ some 48 := by
      intro e2
      apply hh
      rw [e, List.head?_append, e2]; rfl
    obtain ⟨i1, i2⟩ := decB_valL n l.dropLast hlen hd'.1 hh'
    have hc : dig (l.getLast hne) = true := by simpa using hd'.2
    have h1 := dig_iff.1 hc
    have hv : valL l = 10 * valL l.dropLast + ((l.getLast hne).toNat - 48) := by
      have := valL_snoc l.dropLast (l.getLast hne)
      rwa [← e] at this
    have hpos : 0 < valL l := by omega
    refine ⟨?_, hpos⟩
    rw [decB_pos _ hpos, show valL l / 10 = valL l.dropLast by omega, show valL l % 10 = (l.getLast hne).toNat - 48 by omega, ofNat_dig hc, i1]
    exact e.symm
def fmtL (n : Nat) : List UInt8 := if n = 0 then [48] else decB n
theorem valL_zero_head (l : List UInt8) : valL (48 :: l) = valL l := by simp [valL]
theorem fmtL_valL (l : List UInt8) (hd : l.all dig = true) : fmtL (valL l) = l ↔ (l ≠ [] ∧ ¬ (1 < l.length ∧ l.head? = some 48)) := by
  constructor
  · intro h
    refine ⟨fun e => by subst e; simp [valL, fmtL] at h, fun ⟨h1, h2⟩ => ?_⟩
    match l, h2 with
    | c :: t, h2 =>
      simp only [List.head?_cons, Option.some.injEq] at h2
      subst h2
      simp only [List.all_cons, Bool.and_eq_true] at hd
      have hlt := valL_lt t.length t rfl hd.2
      rw [valL_zero_head] at h
      unfold fmtL at h
      split at h
      · have := congrArg List.length h
        simp only [List.length_cons, List.length_nil] at this h1; omega
      · have h3 := decB_len t.length (valL t) hlt
        rw [h] at h3
        simp only [List.length_cons] at h3
        omega
  · rintro ⟨h1, h2⟩
    by_cases hh : l.head? = some 48
    · match l, hh with
      | c :: t, hh =>
        simp only [List.head?_cons, Option.some.injEq] at hh
        subst hh
        have ht : t = [] := by
          have : t.length = 0 := by
            rcases Nat.eq_zero_or_pos t.length with h | h
            · exact h
            · exact absurd ⟨by simp; omega, rfl⟩ h2
          exact List.eq_nil_of_length_eq_zero this
        subst ht
        simp [valL, fmtL]
    · have hlen : ∃ n, l.length = n + 1 := ⟨l.length - 1, by have := List.length_pos_iff.2 h1; omega⟩
      obtain ⟨n, hn⟩ := hlen
      obtain ⟨a, b⟩ := decB_valL n l hn hd hh
      unfold fmtL
      rw [if_neg (by omega)]; exact a
def valN (s : ByteArray) (k : Nat) : Nat := valL (s.data.toList.take k)
theorem valN_zero (s : ByteArray) : valN s 0 = 0 := by simp [valN, valL]
theorem valN_succ (s : ByteArray) (k : Nat) (h : k < s.size) : valN s (k + 1) = 10 * valN s k + (s[k]!.toNat - 48) := by
  unfold valN
  have h' : k < s.data.toList.length := by simpa using h
  rw [List.take_succ_eq_append_getElem h', valL_snoc]
  congr 2
  rw [getElem!_pos s k h]
  rfl
theorem allDig {s : ByteArray} (h : ∀ i, i < s.size → dig s[i]! = true) : s.data.toList.all dig = true := by
  rw [List.all_eq_true]
  intro c hc
  obtain ⟨i, hi, rfl⟩ := List.mem_iff_getElem.1 hc
  have hi' : i < s.size := by simpa using hi
  have := h i hi'
  rw [getElem!_pos s i hi'] at this
  exact this
theorem valN_lt {s : ByteArray} (k : Nat) (hk : k ≤ s.size) (h : ∀ i, i < k → dig s[i]! = true) : valN s k < 10 ^ k := by
  refine valL_lt k _ (by simp; omega) ?_
  rw [List.all_eq_true]
  intro c hc
  obtain ⟨i, hi, rfl⟩ := List.mem_iff_getElem.1 hc
  have hi' : i < k := by simp at hi; omega
  have := h i hi'
  rw [getElem!_pos s i (by omega)] at this
  rw [List.getElem_take]
  exact this
theorem pow_le10 (k : Nat) (h : k ≤ 10) : 10 ^ k ≤ 10000000000 := by
  have : 10 ^ k ≤ 10 ^ 10 := Nat.pow_le_pow_right (by omega) h
  omega
def parseU (s : ByteArray) : Option Nat :=
  if s.size ≠ 0 ∧ s.size ≤ 10 ∧ ¬ (1 < s.size ∧ s[0]! = 48) ∧ s.data.toList.all dig = true ∧ valN s s.size ≤ 1000000000 then some (valN s s.size) else none
theorem valN_all (s : ByteArray) : valN s s.size = valL s.data.toList := by
  unfold valN
  rw [List.take_of_length_le (by simp)]
theorem bts_list (s : ByteArray) : bts s.data.toList = s := by
  unfold bts; simp
theorem bts_inj {a b : List UInt8} (h : bts a = bts b) : a = b := by
  unfold bts at h
  injection h with h
  exact Array.toList_inj.2 h |> fun e => by simpa using e
theorem head_get (s : ByteArray) (h : 0 < s.size) : s.data.toList.head? = some s[0]! := by
  rw [getElem!_pos s 0 h, List.head?_eq_getElem?, List.getElem?_eq_getElem (by simpa using h)]
  rfl
theorem fmt_text {s : ByteArray} (hd : ∀ i, i < s.size → dig s[i]! = true) : bts (fmtL (valN s s.size)) = s ↔ (s.size ≠ 0 ∧ ¬ (1 < s.size ∧ s[0]! = 48)) := by
  have h1 := fmtL_valL s.data.toList (allDig hd)
  rw [← valN_all] at h1
  have e : bts (fmtL (valN s s.size)) = s ↔ fmtL (valN s s.size) = s.data.toList := by
    constructor
    · intro h
      exact bts_inj (by rw [h, bts_list])
    · intro h; rw [h, bts_list]
  rw [e, h1]
  have hsz : s.data.toList.length = s.size := by simp
  constructor
  · rintro ⟨a, b⟩
    have h0 : s.size ≠ 0 := fun e => a (List.eq_nil_of_length_eq_zero (by omega))
    refine ⟨h0, fun ⟨c, d⟩ => b ⟨by omega, by rw [head_get s (by omega), d]⟩⟩
  · rintro ⟨a, b⟩
    refine ⟨fun e => a (by rw [← hsz, e]; rfl), fun ⟨c, d⟩ => b ⟨by omega, ?_⟩⟩
    rw [head_get s (by omega)] at d
    simpa using d
theorem parseU_bad {s : ByteArray} {i : Nat} (h : i < s.size) (hb : dig s[i]! = false) : parseU s = none := by
  unfold parseU
  rw [if_neg]
  rintro ⟨_, _, _, hd, _⟩
  rw [List.all_eq_true] at hd
  have := hd s[i]! (by rw [getElem!_pos s i h]; exact Array.getElem_mem_toList (by exact h))
  rw [this] at hb; cases hb
theorem parseU_ok {s : ByteArray} (hd : ∀ i, i < s.size → dig s[i]! = true) (h1 : s.size ≠ 0) (h2 : s.size ≤ 10) (h3 : ¬ (1 < s.size ∧ s[0]! = 48)) (h4 : valN s s.size ≤ 1000000000) : parseU s = some (valN s s.size) := by
  unfold parseU
  rw [if_pos ⟨h1, h2, h3, allDig hd, h4⟩]
theorem parseU_none {s : ByteArray} (h : s.size = 0 ∨ 10 < s.size ∨ (1 < s.size ∧ s[0]! = 48) ∨ 1000000000 < valN s s.size) : parseU s = none := by
  unfold parseU
  rw [if_neg]
  rintro ⟨a, b, c, d, e⟩
  rcases h with h | h | h | h
  · exact a h
  · omega
  · exact c h
  · omega
end Go.Proofs.YtdhkhapbldkkdaaGreatDoor

namespace Go.Proofs.YtdhkhapbldkkdaaGreatDoor
open Go.Vc
attribute [local go_sem] St.runR St.runW St.stepV offV St.step St.stepU St.stepG mkCond guardB St.prK St.pr St.prLen St.eff St.callE St.callD St.callF St.callL aI aS aR aC St.isM St.argL Ctr.pure Ctr.lend Ctr.move Ctr.isL Ctr.wri pur len lentBy St.lentV St.lent1 nthS argsR restOf obsR pairs swapL unObs backL St.resL erL SV.ren1 SV.up SV.up2 Ob.up St.fzL cellIds partIds St.intoRow SV.ownId St.fz SV.fz1 St.prep St.mvL St.mv SV.re1 rnOk St.prEq vals eqCells scEq Value.kd St.prStr St.prCut cutR St.bnd St.prMin St.bld isShift outL retL outJ oR SV.upq SV.isSl SV.shut St.deepK St.dpArg St.deepQ absC Ob.pl St.ev St.get St.put St.new St.kill SV.kill SV.kill1 Ob.kill St.app St.wrt St.rowsOf St.res St.killL lk er argsL SV.strip SV.need SV.share SV.share1 SV.owns SV.owns1 SV.owns2 SV.good SV.good1 SV.rok SV.rok1 SV.rok2 SV.isV SV.isV2 nodupN SV.cells SV.one SV.pur Ob.pb partsIn rowsIn splice cellsAt dstOk scal2 scal1 thenK blockK retK outK outs okC okL okA okT nilC nilL nilA nilT keepC keepL keepA keepT St.runG St.dltK St.least St.clean St.final St.hide offK badS badO SV.refs SV.leaf SV.leaf2 Ob.refs dlOk fpAt Go.Vc.cover tups SV.ofAgg St.out outC subL St.has rng wr Value.oneCell' Option.isSome_some Option.isSome_none List.nil_append Bool.false_eq_true List.map_cons List.map_nil List.all_cons List.all_nil List.length_cons List.length_nil List.drop_zero List.drop_succ_cons List.take_succ_cons List.take_zero List.drop_nil List.take_nil List.getElem?_cons_zero List.getElem?_cons_succ List.getElem?_nil List.cons_append List.nil_append List.append_nil List.append_assoc List.flatMap_cons List.flatMap_nil List.contains_cons List.contains_nil List.set_cons_zero List.set_cons_succ List.getElem?_toArray Option.getD_some Option.getD_none Option.map_some Option.map_none Option.bind_some Option.some.injEq Prod.mk.injEq if_true if_false true_and and_true and_self and_false false_and Bool.and_false Bool.false_and Bool.or_true Bool.true_or Bool.or_false Bool.false_or ne_eq not_true_eq_false not_false_eq_true decide_true decide_false List.mem_cons List.not_mem_nil List.filter_cons List.filter_nil List.any_cons List.any_nil List.isEmpty_nil List.isEmpty_cons Option.getD_none or_false false_or true_or or_true forall_eq_or_imp forall_eq reduceCtorEq exists_eq exists_eq' exists_eq_left' exists_eq_left exists_eq_right exists_eq_right' imp_self implies_true Bool.and_true Bool.true_and Bool.and_self beq_self_eq_true List.replicate_succ List.replicate_zero forall_const false_implies pickB_or pickB_and beqT beqF Int.toNat_natCast List.length_map List.length_replicate ge_iff_le gt_iff_lt decide_eq_true_eq decide_eq_false_iff_not Bool.and_eq_true Bool.or_eq_true Bool.not_eq_true' Bool.not_eq_false' condG List.toList_toArray Bool.or_eq_false_iff Bool.and_eq_false_iff Int.not_lt Int.not_le beq_iff_eq beq_eq_false_iff_ne bne_iff_ne bne_eq_false_iff_eq ne_eq Bool.not_true Bool.not_false exists_and_left Nat.reduceAdd Nat.reduceLT Nat.reduceLeDiff Nat.reduceEqDiff Nat.reduceMul Nat.reduceSub Nat.reduceGT reduceIte Int.reduceNeg Int.reduceToNat
section
open Go.Vc
set_option linter.unusedSimpArgs false
set_option linter.unusedVariables false
set_option maxHeartbeats 1000000
set_option maxRecDepth 10000
attribute [local irreducible] Go.Vc.WP
attribute [local go_sem] cx0_t cx0_c
theorem wrapU8 {n : Int} (h0 : 0 ≤ n) (h1 : n ≤ 255) : IntKind.u8.wrap n = n := by
  simp only [IntKind.wrap, IntKind.bits, IntKind.signed, Bool.false_and, Bool.false_eq_true, if_false]
  omega
def kFigure : Ctr := pur (fun args => aI args 0) (fun x => [.v (.int .i64 x)]) (fun x => 0 ≤ x ∧ x ≤ 15) (fun _ x => .v (.int .u8 (if x < 10 then 48 + x else 87 + x))) (fun _ _ => [])
theorem cFigure : Cn Tryz.prog 60 kFigure := by
  refine Cn.pur Tryz.func60 (by kernel_rfl) rfl fun d x hx => ?_
  refine Holds.go (c := cx0) Tryz.func60 rfl Tryz.results60 Tryz.ntmps60 (by omega) (by simp) rfl ?_
  intro X0 w0
  have h1 : IntKind.u8.wrap (48 + x) = 48 + x := wrapU8 (by omega) (by omega)
  have h2 : IntKind.u8.wrap (97 + x - 10) = 97 + x - 10 := wrapU8 (by omega) (by omega)
  (repeat' (first | refine WP.seq ?_ | refine WP.block ?_ | ((first | refine WP.region ?_ | refine WP.condW ?_ | refine WP.ret ?_ | refine WP.exit ?_ | refine WP.skip ?_); simp only [go_sem, h1, h2, tyAll]) |  refine And.intro ?_ ?_ | intro _))
  all_goals first | omega | skip
  · rename_i h; rw [if_pos h]
  · rename_i h; rw [if_neg (by omega), show 97 + x - 10 = 87 + x by omega]
section
noncomputable def cxFi : Cx := { P := Tryz.prog, tys := tys, C := [(60, kFigure)], hty := tysOk, hC := COk.cons cFigure (COk.nil _) }
theorem cxFi_t : cxFi.tys = tys := rfl
theorem cxFi_c : cxFi.C = [(60, kFigure)] := rfl
attribute [local go_sem] cxFi_t cxFi_c kFigure
def kFmt : Ctr := pur (fun args => aI args 0) (fun x => [.v (.int .i64 x)]) (fun x => 0 ≤ x ∧ x ≤ 1000000000000000) (fun _ x => .v (.string (bts (fmtL x.toNat)))) (fun _ _ => [])
theorem cFmtS : Cn Tryz.prog 26 kFmt := by
  refine Cn.pur Tryz.func26 (by kernel_rfl) rfl fun d x hx => ?_
  refine Holds.go (c := cxFi) Tryz.func26 rfl Tryz.results26 Tryz.ntmps26 (by omega) (by simp) rfl ?_
  intro X0 w0
  (repeat' (first | refine WP.seq ?_ | refine WP.block ?_ | ((first | refine WP.region ?_ | refine WP.condW ?_ | refine WP.ret ?_ | refine WP.exit ?_ | refine WP.skip ?_); simp only [go_sem, tyAll]) |  refine And.intro ?_ ?_ | intro _))
  all_goals first | omega | skip
  · rename_i h; subst h; rfl
  rename_i hne
  have hf : fmtL x.toNat = decB x.toNat := if_neg (by omega)
  refine WP.loop (fun s : Nat × List UInt8 => ⟨[(0, .v (.int .i64 (s.1 : Int))), (3, .v (.bool false)), (4, .v (.string (bts s.2)))], []⟩) (fun s => decB s.1 ++ s.2 = decB x.toNat ∧ s.2.length ≤ 20 ∧ s.1 < 10000000000000000) (fun s => s.1) (x.toNat, []) ⟨by simp, by simp, by simp only; omega⟩ ?_ ?_
  · have h1 : (x.toNat : Int) = x := by omega
    have h2 : decide (x < 0) = false := by simp; omega
    simp only [go_sem, h1, h2, tyAll]; (first | rfl | exact ⟨rfl, rfl⟩ | exact ⟨rfl, rfl, rfl⟩ | exact ⟨rfl, rfl, rfl, rfl⟩ | exact ⟨rfl, rfl, rfl, rfl, rfl⟩ | exact ⟨⟨rfl, rfl⟩, rfl⟩ | simp)
  rintro ⟨k, out⟩ ⟨hk, hl, hb⟩
  simp only at hk hl hb ⊢
  have hlx : (decB x.toNat).length ≤ 16 := decB_len 16 _ (by omega)
  have hlk : out.length ≤ 16 := by rw [← hk, List.length_append] at hlx; omega
  by_cases hpos : 0 < k
  · have hm : (k : Int).tmod 10 = ((k % 10 : Nat) : Int) := by rw [Int.tmod_eq_emod_of_nonneg (by omega)]; omega
    have hd : (k : Int).tdiv 10 = ((k / 10 : Nat) : Int) := by rw [Int.tdiv_eq_ediv_of_nonneg (by omega)]; omega
    have hi : (if ((k % 10 : Nat) : Int) < 10 then 48 + ((k % 10 : Nat) : Int) else 87 + ((k % 10 : Nat) : Int)) = 48 + ((k % 10 : Nat) : Int) := if_pos (by omega)
    have hs := strOf_one ((k % 10 : Nat) : Int) (by omega) (by omega)
    have hc := bts_append [UInt8.ofNat (48 + k % 10)] out
    have hz := bts_size [UInt8.ofNat (48 + k % 10)]
    have hz2 := bts_size out
    rw [Int.toNat_natCast] at hs
    (repeat' (first | refine WP.seq ?_ | refine WP.block ?_ | ((first | refine WP.region ?_ | refine WP.condW ?_ | refine WP.ret ?_ | refine WP.exit ?_ | refine WP.skip ?_); simp only [go_sem, hm, hd, hi, hs, hc, hz, hz2, tyAll]) |  refine And.intro ?_ ?_ | intro _))
    all_goals first | omega | exact ⟨_, rfl⟩ | skip
    refine ⟨(k / 10, UInt8.ofNat (48 + k % 10) :: out), ⟨?_, by simp only [List.length_cons]; omega, by simp only; omega⟩, by simp only; omega, by (first | rfl | exact ⟨rfl, rfl⟩ | exact ⟨rfl, rfl, rfl⟩ | exact ⟨rfl, rfl, rfl, rfl⟩ | exact ⟨rfl, rfl, rfl, rfl, rfl⟩ | exact ⟨⟨rfl, rfl⟩, rfl⟩ | simp)⟩
    simp only
    rw [← hk, decB_pos k hpos, List.append_assoc]; rfl
  · have hk0 : k = 0 := by omega
    subst hk0
    have hout : out = decB x.toNat := by rw [← hk]; simp [decB]
    (repeat' (first | refine WP.seq ?_ | refine WP.block ?_ | ((first | refine WP.region ?_ | refine WP.condW ?_ | refine WP.ret ?_ | refine WP.exit ?_ | refine WP.skip ?_); simp only [go_sem, tyAll]) |  refine And.intro ?_ ?_ | intro _))
    all_goals first | omega | skip
    all_goals rw [hf, hout]
end
def kParseU : Ctr := pur (fun args => aS args 0) (fun s => [.v (.string s)]) (fun s => s.size ≤ 1099511627776) (fun _ s => .tup [.v (.int .i64 (((parseU s).getD 0 : Nat) : Int)), .v (.bool (parseU s).isSome)]) (fun _ _ => [])
theorem numBad {s : ByteArray} (h : parseU s = none) : SV.v (.int .i64 0) = SV.v (.int .i64 (((parseU s).getD 0 : Nat) : Int)) ∧ SV.v (.bool false) = SV.v (.bool (parseU s).isSome) := by rw [h]; exact ⟨rfl, rfl⟩
theorem numOk {s : ByteArray} {n : Nat} (h : parseU s = some n) : SV.v (.int .i64 (n : Int)) = SV.v (.int .i64 (((parseU s).getD 0 : Nat) : Int)) ∧ SV.v (.bool true) = SV.v (.bool (parseU s).isSome) := by rw [h]; exact ⟨rfl, rfl⟩
theorem valN_bound {s : ByteArray} (k : Nat) (hk : k ≤ s.size) (hs : s.size ≤ 10) (h : ∀ i, i < k → dig s[i]! = true) : valN s k < 10000000000 := by
  have h1 := valN_lt k hk h
  have h2 := pow_le10 k (by omega)
  omega
section
noncomputable def cxPu : Cx := { P := Tryz.prog, tys := tys, C := [(26, kFmt)], hty := tysOk, hC := COk.cons cFmtS (COk.nil _) }
theorem cxPu_t : cxPu.tys = tys := rfl
theorem cxPu_c : cxPu.C = [(26, kFmt)] := rfl
attribute [local go_sem] cxPu_t cxPu_c kFmt
theorem cParseUS : Cn Tryz.prog 112 kParseU := by
  refine Cn.pur Tryz.func112 (by kernel_rfl) rfl fun d x hx => ?_
  refine Holds.go (c := cxPu) Tryz.func112 rfl Tryz.results112 Tryz.ntmps112 (by omega) (by simp) rfl ?_
  intro X0 w0
  (repeat' (first | refine WP.seq ?_ | refine WP.block ?_ | ((first | refine WP.region ?_ | refine WP.condW ?_ | refine WP.ret ?_ | refine WP.exit ?_ | refine WP.skip ?_); simp only [go_sem, tyAll]) |  refine And.intro ?_ ?_ | intro _))
  all_goals first | omega | skip
  · exact (numBad (parseU_none (.inr (.inl (by omega))))).1
  · exact (numBad (parseU_none (.inr (.inl (by omega))))).2
  rename_i hlen
  refine WP.loop (fun k : Nat => ⟨[(0, .v (.string x)), (4, .v (.int .i64 (valN x k : Int))), (5, .v (.int .i64 k))], []⟩) (fun k => k ≤ x.size ∧ ∀ i, i < k → dig x[i]! = true) (fun k => x.size - k) 0 (by simp) ?_ ?_
  · (simp only [go_sem, valN_zero, tyAll] <;> (first | rfl | exact ⟨rfl, rfl⟩ | exact ⟨rfl, rfl, rfl⟩ | exact ⟨rfl, rfl, rfl, rfl⟩ | exact ⟨rfl, rfl, rfl, rfl, rfl⟩ | exact ⟨⟨rfl, rfl⟩, rfl⟩ | simp))
  intro k ⟨hk, hdk⟩
  have hv := valN_bound k hk (by omega) hdk
  by_cases hlt : k < x.size
  · have hs := valN_succ x k hlt
    (repeat' (first | refine WP.seq ?_ | refine WP.block ?_ | ((first | refine WP.region ?_ | refine WP.condW ?_ | refine WP.ret ?_ | refine WP.exit ?_ | refine WP.skip ?_); simp only [go_sem, tyAll]) |  refine And.intro ?_ ?_ | intro _))
    all_goals first | omega | skip
    · exact (numBad (parseU_bad hlt (by rw [Bool.eq_false_iff]; intro hc; have := dig_iff.1 hc; omega))).1
    · exact (numBad (parseU_bad hlt (by rw [Bool.eq_false_iff]; intro hc; have := dig_iff.1 hc; omega))).2
    · rename_i h
      have hd : dig x[k]! = true := dig_iff.2 (by omega)
      refine ⟨k + 1, ⟨by omega, fun i hi => ?_⟩, by omega, ?_⟩
      · rcases Nat.lt_or_ge i k with h' | h'
        · exact hdk i h'
        · rw [show i = k by omega]; exact hd
      · rw [show (10 * (valN x k : Int) + (x[k]!.toNat : Int) - 48) = (valN x (k + 1) : Int) by omega]; (first | rfl | exact ⟨rfl, rfl⟩ | exact ⟨rfl, rfl, rfl⟩ | exact ⟨rfl, rfl, rfl, rfl⟩ | exact ⟨rfl, rfl, rfl, rfl, rfl⟩ | exact ⟨⟨rfl, rfl⟩, rfl⟩ | simp)
  · have hke : k = x.size := by omega
    subst hke
    have ht := fmt_text hdk
    (repeat' (first | refine WP.seq ?_ | refine WP.block ?_ | ((first | refine WP.region ?_ | refine WP.condW ?_ | refine WP.ret ?_ | refine WP.exit ?_ | refine WP.skip ?_); simp only [go_sem, tyAll]) |  refine And.intro ?_ ?_ | intro _))
    all_goals first | omega | skip
    iterate 2
      · rename_i h
        have hb : parseU x = none := by
          apply parseU_none
          rcases h with h | h
          · exact .inr (.inr (.inr (by omega)))
          · rw [ht] at h
            by_cases h0 : x.size = 0
            · exact .inl h0
            · by_cases h1 : 1 < x.size ∧ x[0]! = 48
              · exact .inr (.inr (.inl h1))
              · exact absurd ⟨h0, h1⟩ h
        first | exact (numBad hb).1 | exact (numBad hb).2
    iterate 2
      · rename_i h
        obtain ⟨h2, h3⟩ := h
        obtain ⟨h4, h5⟩ := ht.1 h3
        have hg := parseU_ok hdk h4 (by omega) h5 (by omega)
        first | exact (numOk hg).1 | exact (numOk hg).2
theorem toNat48 {c : UInt8} : (c.toNat : Int) = 48 ↔ c = 48 := by
  constructor
  · intro h; exact UInt8.toNat_inj.1 (by show c.toNat = 48; omega)
  · rintro rfl; rfl
theorem cParseUI : Cn Tryz.prog 50 kParseU := by
  refine Cn.pur Tryz.func50 (by kernel_rfl) rfl fun d x hx => ?_
  refine Holds.go (c := cx0) Tryz.func50 rfl Tryz.results50 Tryz.ntmps50 (by omega) (by simp) rfl ?_
  intro X0 w0
  have h48 : ((x[0]!.toNat : Int) = 48) = (x[0]! = 48) := propext toNat48
  (repeat' (first | refine WP.seq ?_ | refine WP.block ?_ | ((first | refine WP.region ?_ | refine WP.condW ?_ | refine WP.ret ?_ | refine WP.exit ?_ | refine WP.skip ?_); simp only [go_sem, h48, tyAll]) |  refine And.intro ?_ ?_ | intro _))
  all_goals first | omega | skip
  iterate 2
    · rename_i h
      have hb : parseU x = none := by
        apply parseU_none
        rcases h with (h | h) | h
        · exact .inl (by omega)
        · exact .inr (.inl (by omega))
        · exact .inr (.inr (.inl ⟨by omega, h.2⟩))
      first | exact (numBad hb).1 | exact (numBad hb).2
  rename_i hh
  have hlen : x.size ≤ 10 := by omega
  have hlen0 : x.size ≠ 0 := by omega
  have h01 : ¬ (1 < x.size ∧ x[0]! = 48) := by
    rintro ⟨a, b⟩
    rcases hh.2 with h | h
    · omega
    · exact h b
  refine WP.loop (fun k : Nat => ⟨[(0, .v (.string x)), (4, .v (.int .i64 (valN x k : Int))), (5, .v (.int .i64 k))], []⟩) (fun k => k ≤ x.size ∧ ∀ i, i < k → dig x[i]! = true) (fun k => x.size - k) 0 (by simp) ?_ ?_
  · (simp only [go_sem, valN_zero, tyAll] <;> (first | rfl | exact ⟨rfl, rfl⟩ | exact ⟨rfl, rfl, rfl⟩ | exact ⟨rfl, rfl, rfl, rfl⟩ | exact ⟨rfl, rfl, rfl, rfl, rfl⟩ | exact ⟨⟨rfl, rfl⟩, rfl⟩ | simp))
  intro k ⟨hk, hdk⟩
  have hv := valN_bound k hk (by omega) hdk
  by_cases hlt : k < x.size
  · have hs := valN_succ x k hlt
    by_cases hdg : dig x[k]! = true
    · have hd := dig_iff.1 hdg
      have hw : IntKind.u8.wrap ((x[k]!.toNat : Int) - 48) = (x[k]!.toNat : Int) - 48 := wrapU8 (by omega) (by omega)
      (repeat' (first | refine WP.seq ?_ | refine WP.block ?_ | ((first | refine WP.region ?_ | refine WP.condW ?_ | refine WP.ret ?_ | refine WP.exit ?_ | refine WP.skip ?_); simp only [go_sem, hw, tyAll]) |  refine And.intro ?_ ?_ | intro _))
      all_goals first | omega | skip
      refine ⟨k + 1, ⟨by omega, fun i hi => ?_⟩, by omega, ?_⟩
      · rcases Nat.lt_or_ge i k with h' | h'
        · exact hdk i h'
        · rw [show i = k by omega]; exact hdg
      · rw [show ((valN x k : Int) * 10 + ((x[k]!.toNat : Int) - 48)) = (valN x (k + 1) : Int) by omega]; (first | rfl | exact ⟨rfl, rfl⟩ | exact ⟨rfl, rfl, rfl⟩ | exact ⟨rfl, rfl, rfl, rfl⟩ | exact ⟨rfl, rfl, rfl, rfl, rfl⟩ | exact ⟨⟨rfl, rfl⟩, rfl⟩ | simp)
    · have hbad := parseU_bad hlt (by simpa using hdg)
      have hd : ¬ (48 ≤ x[k]!.toNat ∧ x[k]!.toNat ≤ 57) := fun h => hdg (dig_iff.2 h)
      (repeat' (first | refine WP.seq ?_ | refine WP.block ?_ | ((first | refine WP.region ?_ | refine WP.condW ?_ | refine WP.ret ?_ | refine WP.exit ?_ | refine WP.skip ?_); simp only [go_sem, tyAll]) |  refine And.intro ?_ ?_ | intro _))
      all_goals first | omega | skip
      · exact (numBad hbad).1
      · exact (numBad hbad).2
  · have hke : k = x.size := by omega
    subst hke
    (repeat' (first | refine WP.seq ?_ | refine WP.block ?_ | ((first | refine WP.region ?_ | refine WP.condW ?_ | refine WP.ret ?_ | refine WP.exit ?_ | refine WP.skip ?_); simp only [go_sem, tyAll]) |  refine And.intro ?_ ?_ | intro _))
    all_goals first | omega | skip
    · exact (numBad (parseU_none (.inr (.inr (.inr (by omega)))))).1
    · exact (numBad (parseU_none (.inr (.inr (.inr (by omega)))))).2
    · exact (numOk (parseU_ok hdk hlen0 hlen h01 (by omega))).1
    · exact (numOk (parseU_ok hdk hlen0 hlen h01 (by omega))).2
end
def aU (args : List SV) (i : Nat) : UInt8 := UInt8.ofNat (aI args i).toNat
theorem toNatEq {a b : UInt8} : (a.toNat : Int) = (b.toNat : Int) ↔ a = b := by
  constructor
  · intro h; exact UInt8.toNat_inj.1 (by omega)
  · rintro rfl; rfl
end
section
open Go.Vc
set_option linter.unusedSimpArgs false
set_option linter.unusedVariables false
set_option maxHeartbeats 1000000
set_option maxRecDepth 10000
attribute [local irreducible] Go.Vc.WP
attribute [local go_sem] cx0_t cx0_c k60
noncomputable def cxBt2 : Cx := { P := Tryz.prog, tys := tys, C := [(41, k60), (57, k60)], hty := tysOk, hC := COk.cons c60 (COk.cons c58 (COk.nil _)) }
theorem cxBt2_t : cxBt2.tys = tys := rfl
theorem cxBt2_c : cxBt2.C = [(41, k60), (57, k60)] := rfl
attribute [local go_sem] cxBt2_t cxBt2_c
def letter (c : UInt8) : Bool := decide (97 ≤ c.toNat) && decide (c.toNat ≤ 122)
def nameOk (s : ByteArray) : Bool := (s.data.toList.all letter) && decide (1 ≤ s.size) && decide (s.size ≤ 8)
theorem nameOk_bad {s : ByteArray} {k : Nat} (h : k < s.size) (hb : letter s[k]! = false) : nameOk s = false := by
  unfold nameOk
  have : s.data.toList.all letter = false := by
    rw [Bool.eq_false_iff]
    intro hall
    have h1 := List.all_eq_true.1 hall s[k]! (by
      rw [getElem!_pos s k h]
      exact Array.getElem_mem_toList (by exact h))
    rw [h1] at hb; cases hb
  simp [this]
theorem nameOk_all {s : ByteArray} (h : ∀ i, i < s.size → letter s[i]! = true) : nameOk s = (decide ((1 : Int) ≤ s.size) && decide ((s.size : Int) ≤ 8)) := by
  unfold nameOk
  have : s.data.toList.all letter = true := by
    rw [List.all_eq_true]
    intro c hc
    obtain ⟨i, hi, rfl⟩ := List.mem_iff_getElem.1 hc
    have hi' : i < s.size := by simpa using hi
    have := h i hi'
    rw [getElem!_pos s i hi'] at this
    exact this
  rw [this, Bool.true_and]
  congr 1 <;> · apply decide_eq_decide.2; omega
def kNameOk : Ctr := pur (fun args => aS args 0) (fun s => [.v (.string s)]) (fun s => s.size ≤ 1099511627776) (fun _ s => .v (.bool (nameOk s))) (fun _ _ => [])
theorem cNameOkS : Cn Tryz.prog 94 kNameOk := by
  refine Cn.pur Tryz.func94 (by kernel_rfl) rfl fun d s hL => ?_
  refine Holds.go (c := cxBt2) Tryz.func94 rfl Tryz.results94 Tryz.ntmps94 (by omega) (by simp) rfl ?_
  intro X0 w0
  (repeat' (first | refine WP.seq ?_ | refine WP.block ?_ | ((first | refine WP.region ?_ | refine WP.condW ?_ | refine WP.ret ?_ | refine WP.exit ?_ | refine WP.skip ?_); simp only [go_sem, tyAll]) |  refine And.intro ?_ ?_ | intro _))
  refine WP.loop (fun k : Nat => ⟨[(0, .v (.string s)), (3, .v (.int .i64 k))], []⟩) (fun k => k ≤ s.size ∧ ∀ i, i < k → letter s[i]! = true) (fun k => s.size - k) 0 (by simp) ?_ ?_
  · simp only [go_sem, tyAll]; first | exact ⟨rfl, rfl⟩ | rfl
  intro k ⟨hk, hf⟩
  by_cases hlt : k < s.size
  · (repeat' (first | refine WP.seq ?_ | refine WP.block ?_ | ((first | refine WP.region ?_ | refine WP.condW ?_ | refine WP.ret ?_ | refine WP.exit ?_ | refine WP.skip ?_); simp only [go_sem, tyAll]) |  refine And.intro ?_ ?_ | intro _))
    all_goals first | omega | skip
    · rename_i hh
      rw [nameOk_bad hlt (by rw [Bool.eq_false_iff]; intro hc; simp [letter] at hc; omega)]
    · rename_i hh
      refine ⟨k + 1, ⟨by omega, fun i hik => ?_⟩, by omega, rfl⟩
      rcases Nat.lt_or_ge i k with h | h
      · exact hf i h
      · have : i = k := by omega
        subst this
        simp [letter]; omega
  · (repeat' (first | refine WP.seq ?_ | refine WP.block ?_ | ((first | refine WP.region ?_ | refine WP.condW ?_ | refine WP.ret ?_ | refine WP.exit ?_ | refine WP.skip ?_); simp only [go_sem, tyAll]) |  refine And.intro ?_ ?_ | intro _))
    all_goals first | omega | skip
    rw [nameOk_all fun i hi => hf i (by omega)]
theorem cNameOkI : Cn Tryz.prog 116 kNameOk := by
  refine Cn.pur Tryz.func116 (by kernel_rfl) rfl fun d s hL => ?_
  refine Holds.go (c := cxBt2) Tryz.func116 rfl Tryz.results116 Tryz.ntmps116 (by omega) (by simp) rfl ?_
  intro X0 w0
  (repeat' (first | refine WP.seq ?_ | refine WP.block ?_ | ((first | refine WP.region ?_ | refine WP.condW ?_ | refine WP.ret ?_ | refine WP.exit ?_ | refine WP.skip ?_); simp only [go_sem, tyAll]) |  refine And.intro ?_ ?_ | intro _))
  refine WP.loop (fun k : Nat => ⟨[(0, .v (.string s)), (3, .v (.int .i64 k))], []⟩) (fun k => k ≤ s.size ∧ ∀ i, i < k → letter s[i]! = true) (fun k => s.size - k) 0 (by simp) ?_ ?_
  · simp only [go_sem, tyAll]; first | exact ⟨rfl, rfl⟩ | rfl
  intro k ⟨hk, hf⟩
  by_cases hlt : k < s.size
  · (repeat' (first | refine WP.seq ?_ | refine WP.block ?_ | ((first | refine WP.region ?_ | refine WP.condW ?_ | refine WP.ret ?_ | refine WP.exit ?_ | refine WP.skip ?_); simp only [go_sem, tyAll]) |  refine And.intro ?_ ?_ | intro _))
    all_goals first | omega | skip
    · rename_i hh
      rw [nameOk_bad hlt (by rw [Bool.eq_false_iff]; intro hc; simp [letter] at hc; omega)]
    · rename_i hh
      refine ⟨k + 1, ⟨by omega, fun i hik => ?_⟩, by omega, rfl⟩
      rcases Nat.lt_or_ge i k with h | h
      · exact hf i h
      · have : i = k := by omega
        subst this
        simp [letter]; omega
  · (repeat' (first | refine WP.seq ?_ | refine WP.block ?_ | ((first | refine WP.region ?_ | refine WP.condW ?_ | refine WP.ret ?_ | refine WP.exit ?_ | refine WP.skip ?_); simp only [go_sem, tyAll]) |  refine And.intro ?_ ?_ | intro _))
    all_goals first | omega | skip
    rw [nameOk_all fun i hi => hf i (by omega)]
end
end Go.Proofs.YtdhkhapbldkkdaaGreatDoor
namespace Go.Vc
open Go.RowKit Go.WideShapes Go.ChangeShapes Go.Deep
set_option linter.unusedVariables false
section
variable {H : Type} {enc : TypeId × Value → H} {P : Program} {w : World}
def Cells (w : World) (row : List SV) (cs : List Value) : Prop :=
  row.length = cs.length ∧ ∀ (k : Nat) (c : SV) (u : Value), row[k]? = some c → cs[k]? = some u → u.oneCell' = true ∧ Rp w (fun _ => False) c u
def Dec (H : Type) (enc : TypeId × Value → H) (P : Program) (w : World) (t : TypeId) {α : Type} (e : α → List SV) (wf : α → Prop) : Prop :=
  ∀ (base : Nat) (sp : Nat → Bool) (held : Bool) (n : Nat) (cs : List Value) (y : DataW H × List MemPlace), DataW.trod enc P w base sp held n t cs = some y → ∃ a : α, wf a ∧ Cells w (e a) cs
theorem cells_one_v {v : Value} (h : v.oneCell' = true) : Cells w [.v v] [v] := ⟨rfl, fun k c u hc hu => by
  cases k with
  | zero => simp at hc hu; subst hc hu; exact ⟨h, .v _⟩
  | succ k => simp at hc⟩
theorem Dec.int {t : TypeId} {k : IntKind} (ht : P.underlying t = some (.int k)) : Dec H enc P w t (fun n : Int => [.v (.int k n)]) (fun n => k.min ≤ n ∧ n ≤ k.max) := by
  intro base sp held n cs y h
  obtain ⟨m, rfl, rfl, hw⟩ := DataW.trod_int ht h
  exact ⟨m, by simpa [Lit.wf] using hw, cells_one_v rfl⟩
theorem Dec.bool {t : TypeId} (ht : P.underlying t = some .bool) : Dec H enc P w t (fun b : Bool => [.v (.bool b)]) (fun _ => True) := by
  intro base sp held n cs y h
  obtain ⟨m, rfl, rfl⟩ := DataW.trod_bool ht h
  exact ⟨m, trivial, cells_one_v rfl⟩
theorem Dec.string {t : TypeId} (ht : P.underlying t = some .string) : Dec H enc P w t (fun s : ByteArray => [.v (.string s)]) (fun s => s.size ≤ maxLen) := by
  intro base sp held n cs y h
  obtain ⟨m, rfl, rfl, hw⟩ := DataW.trod_string ht h
  exact ⟨m, hw, cells_one_v rfl⟩
theorem choose_list {α : Type} {p : Nat → α → Prop} : ∀ n : Nat, (∀ i, i < n → ∃ a, p i a) → ∃ L : List α, L.length = n ∧ ∀ i a, L[i]? = some a → p i a
  | 0, _ => ⟨[], rfl, by simp⟩
  | n + 1, h => by
    obtain ⟨L, hl, hp⟩ := choose_list n (fun i hi => h i (by omega))
    obtain ⟨a, ha⟩ := h n (by omega)
    refine ⟨L ++ [a], by simp [hl], fun i b hi => ?_⟩
    rw [List.getElem?_append] at hi
    split at hi
    · exact hp i b hi
    · rename_i hge
      have : i = n := by
        have := (List.getElem?_eq_some_iff.1 hi).1
        simp at this; omega
      subst this
      rw [hl] at hi
      simp at hi
      subst hi
      exact ha
theorem spot_none {a : Addr} {u : Value} (h : w.cell? a = some u) : a.spot = none ∧ a.block < w.heap.size := by
  unfold World.cell? at h
  split at h
  · rename_i c _ _ hh
    refine ⟨?_, lt_of_heap hh⟩
    split at h
    · cases h
    · rename_i hs; simpa using hs
  · cases h
theorem addr_add {a : Addr} (h : a.spot = none) (n : Nat) : a.add n = ⟨a.block, a.off + n, none⟩ := by
  obtain ⟨b, o, s⟩ := a
  simp only at h
  subst h
  unfold Addr.add
  split
  · rename_i hn; subst hn; rfl
  · rfl
theorem Dec.slice {t e : TypeId} {s : Nat} {α : Type} {en : α → List SV} {wf : α → Prop} (ht : P.underlying t = some (.slice e)) (hs : P.cellsOf e = s) (hs0 : 0 < s) (hd : Dec H enc P w e en wf) (hen : ∀ a, (en a).length = s) :
    Dec H enc P w t (fun L : List α => [.sl s (L.map en)]) (fun L => L.length ≤ maxLen ∧ ∀ a ∈ L, wf a) := by
  intro base sp held n cs y h
  rcases open_slice ht h with ⟨rfl, _⟩ | ⟨a, len, cap, m, n', D, Pl, rfl, _, hlc, hcm, hm, _, hcell⟩
  · exact ⟨[], by simp, rfl, fun k c u hc hu => by
      cases k with
      | zero => simp at hc hu; subst hc hu; exact ⟨rfl, .nil s _ _⟩
      | succ k => simp at hc⟩
  have hlm : len ≤ m := by rw [hm]; split <;> omega
  have key : ∀ i, i < len → ∃ x : α, wf x ∧ ∃ cs', w.cells? base (a.add (i * s)) s = some cs' ∧ Cells w (en x) cs' := fun i hi => by
    obtain ⟨cs', h1, h2⟩ := hcell i (by omega)
    rw [hs] at h1
    obtain ⟨x, hx, hc⟩ := hd _ _ _ _ _ _ h2
    exact ⟨x, hx, cs', h1, hc⟩
  obtain ⟨L, hl, hL⟩ := choose_list len key
  refine ⟨L, ⟨by unfold maxLen at hcm ⊢; omega, fun x hx => ?_⟩, rfl, fun k c u hc hu => ?_⟩
  · obtain ⟨i, hi⟩ := List.mem_iff_getElem?.1 hx
    exact (hL i x hi).1
  cases k with
  | succ k => simp at hc
  | zero =>
    simp at hc hu
    subst hc hu
    refine ⟨rfl, ?_⟩
    rcases Nat.eq_zero_or_pos len with h0 | h0
    · have : L = [] := List.eq_nil_of_length_eq_zero (by omega)
      subst this
      subst h0
      exact .nil s _ _
    · have hspot : a.spot = none ∧ a.block < w.heap.size := by
        have hx : L[0]? = some (L[0]'(by omega)) := List.getElem?_eq_getElem (by omega)
        obtain ⟨_, cs', h1, _⟩ := hL 0 _ hx
        obtain ⟨_, hcl, hat⟩ := World.cells?_some h1
        have := hat 0 hs0
        have hv : cs'[0]? = some (cs'[0]'(by omega)) := List.getElem?_eq_getElem (by omega)
        rw [hv] at this
        simpa [Addr.add] using spot_none this
      have hav : a = ⟨a.block, a.off, none⟩ := by
        obtain ⟨b, o, sp⟩ := a
        simp only at hspot
        rw [hspot.1]
      have cell : ∀ (i k : Nat) (row : List SV) (c : SV), (L.map en)[i]? = some row → row[k]? = some c → ∃ u, w.cell? ⟨a.block, a.off + (i * s + k), none⟩ = some u ∧ u.oneCell' = true ∧ Rp w (fun _ => False) c u := fun i k row c hr hc => by
        rw [List.getElem?_map] at hr
        cases hx : L[i]? with
        | none => rw [hx] at hr; cases hr
        | some x =>
          rw [hx] at hr
          simp only [Option.map_some, Option.some.injEq] at hr
          subst hr
          obtain ⟨_, cs', h1, h2, h3⟩ := hL i x hx
          obtain ⟨_, hcl, hat⟩ := World.cells?_some h1
          have hk : k < s := by rw [← hen x]; exact (List.getElem?_eq_some_iff.1 hc).1
          have hv : cs'[k]? = some (cs'[k]'(by omega)) := List.getElem?_eq_getElem (by omega)
          have := hat k hk
          rw [hv, addr_add hspot.1, addr_add (by rfl)] at this
          simp only at this
          rw [Nat.add_assoc] at this
          obtain ⟨h4, h5⟩ := h3 k c _ hc hv
          exact ⟨_, this, h4, h5⟩
      have hll : (L.map en).length = len := by simp [hl]
      have := Rp.sl (w := w) (X := fun _ => False) (s := s) (rows := L.map en) a.block a.off cap (fun i k => (w.cell? ⟨a.block, a.off + (i * s + k), none⟩).getD undef) (fun h => h) hspot.2 (by omega) (fun i row hr => by
          rw [List.getElem?_map] at hr
          cases hx : L[i]? with
          | none => rw [hx] at hr; cases hr
          | some x => rw [hx] at hr; simp only [Option.map_some, Option.some.injEq] at hr; subst hr; exact hen x) (fun i k row c hr hc => by
          obtain ⟨u, h1, _⟩ := cell i k row c hr hc; rw [h1]; rfl) (fun i k row c hr hc => by
          obtain ⟨u, h1, h2, _⟩ := cell i k row c hr hc; rw [h1]; exact h2) (fun i k row c hr hc => by
          obtain ⟨u, h1, _, h2⟩ := cell i k row c hr hc; rw [h1]; exact h2)
      rw [← hav, hll] at this
      exact this
theorem trod_fields {t : TypeId} {fs : Array Field} {base n : Nat} {sp : Nat → Bool} {held : Bool} {cs : List Value} {y : DataW H × List MemPlace} (ht : P.underlying t = some (.struct fs)) (hone : oneCellFields P fs = true) (hC : P.cellsOf t = fs.size)
    (h : DataW.trod enc P w base sp held n t cs = some y) : cs.length = fs.size ∧ ∀ (j : Nat) (f : Field), fs[j]? = some f → ∃ (v : Value) (n' : Nat) (z : DataW H × List MemPlace), cs[j]? = some v ∧ DataW.trod enc P w base sp held n' f.type [v] = some z := by
  obtain ⟨ys, n', _, _, hlen, hyl, hf⟩ := DataW.trod_struct ht h
  refine ⟨hlen.trans hC, fun j f hj => ?_⟩
  obtain ⟨ho, hk⟩ := hone_of hone j f hj
  have hjl : j < fs.size := (Array.getElem?_eq_some_iff.1 hj).1
  have hv : cs[j]? = some (cs[j]'(by omega)) := List.getElem?_eq_getElem (by omega)
  have h1 := hf j f hj
  rw [ho, hk] at h1
  have hone' : (cs.drop j).take 1 = [cs[j]'(by omega)] := by
    rw [List.drop_eq_getElem_cons (by omega)]
    rfl
  rw [hone'] at h1
  have hys : ys[j]? = some (ys[j]'(by omega)) := List.getElem?_eq_getElem (by omega)
  exact ⟨_, n', _, hv, h1.trans hys⟩
theorem cells_vs {row : List SV} {cs : List Value} (h : row = cs.map .v) (h1 : ∀ u ∈ cs, u.oneCell' = true) : Cells w row cs := by
  subst h
  refine ⟨by simp, fun k c u hc hu => ?_⟩
  rw [List.getElem?_map, hu] at hc
  simp only [Option.map_some, Option.some.injEq] at hc
  subst hc
  exact ⟨h1 u (List.mem_of_getElem? hu), .v _⟩
theorem list_of_get {cs vs : List Value} (hl : cs.length = vs.length) (h : ∀ (j : Nat) (v : Value), vs[j]? = some v → cs[j]? = some v) : cs = vs := by
  apply List.ext_getElem?
  intro j
  cases hv : vs[j]? with
  | some v => exact h j v hv
  | none =>
    rw [List.getElem?_eq_none_iff] at hv ⊢
    omega
theorem Dec.arg {t : TypeId} {α : Type} {sv : α → SV} {wf : α → Prop} (hd : Dec H enc P w t (fun a => [sv a]) wf) {v : Value} (hv : v.oneCell' = true) {base : Nat} {sp : Nat → Bool} {held : Bool} {d : DataW H} {p : List MemPlace} (h : DataW.Trod enc P w base sp held t v d p) :
    ∃ a, wf a ∧ R w (fun _ => False) (fun _ => nilB) (sv a) v := by
  obtain ⟨n, hn⟩ := h
  obtain ⟨a, ha, hl, hc⟩ := hd _ _ _ _ _ _ hn
  rw [cells_one hv] at hl hc
  exact ⟨a, ha, .p (hc 0 _ _ rfl rfl).2⟩
theorem Dec.argS {t : TypeId} {α : Type} {e : α → List SV} {wf : α → Prop} (hd : Dec H enc P w t e wf) {us : Array Value} {base : Nat} {sp : Nat → Bool} {held : Bool} {d : DataW H} {p : List MemPlace} (h : DataW.Trod enc P w base sp held t (.agg us) d p) :
    ∃ a, wf a ∧ R w (fun _ => False) (fun _ => nilB) (.agg (e a)) (.agg us) := by
  obtain ⟨n, hn⟩ := h
  obtain ⟨a, ha, hl, hc⟩ := hd _ _ _ _ _ _ hn
  have e1 : us = us.toList.toArray := by simp
  refine ⟨a, ha, ?_⟩
  rw [e1]
  exact .p (.agg hl fun k c u h1 h2 => (hc k c u h1 h2).2)
theorem okWide_slice1 {base : Nat} {r : Reach} {t e : TypeId} {v : Value} (ht : P.underlying t = some (.slice e)) (h : Value.okWide P w r base t v) : v.oneCell' = true := by
  obtain ⟨a, l, c, rfl⟩ := okWide_slice ht h; rfl
theorem Holds.calls {f : FuncId} {args : List SV} {x : Value} (h : Holds P f args (.v x) []) (hG : Grd P w) {vs : List Value} (hl : vs.length = args.length) (ha : ∀ (i : Nat) (c : SV) (u : Value), args[i]? = some c → vs[i]? = some u → R w (fun _ => False) (fun _ => nilB) c u) :
    Calls P f vs.toArray w fun e w' => e = .returned x ∧ Below w.heap.size w w' :=
  (h w (fun _ => False) vs hG (fun _ hf => hf.elim) hl ha).mono fun e w' hp => by
    obtain ⟨v, β, rfl, hb, _, hR, _⟩ := hp
    have := hR.v_inv
    subst this
    exact ⟨rfl, hb⟩
end
section
variable {H : Type} {enc : TypeId × Value → H} {P : Program}
theorem post_of_below {f : Func} {s : ChangeSpec} {apart fresh handsOn again : Bool} {W W' : World} {args : Array Value} {v : Value} {ds gs : List (DataW H)} {before pa pv : List MemPlace}
    (hW : DataW.Whole enc P f.params.toList s.vars apart W args.toList ds gs before)
    (hres : ∀ (b : Nat) (sp : Nat → Bool) (hd : Bool), DataW.TrodAll enc P W' b sp hd f.resultTypes.toList (v.resultList f.resultTypes.size) (s.fn H (ds ++ gs)).results [])
    (hargs : ∀ sp : Nat → Bool, (∀ p ∈ before, sp p.block = true) → DataW.TrodAll enc P W' 0 sp true f.params.toList args.toList (s.fn H (ds ++ gs)).args pa)
    (hvars : ∀ sp : Nat → Bool, (∀ p ∈ before, sp p.block = true) → DataW.TrodVars enc P W' sp s.vars (s.fn H (ds ++ gs)).vars pv)
    (hps : before = pa ++ pv) (hb : Below W.heap.size W W')
    (hok : ∀ (j : Nat) (t : TypeId) (r : Value), f.resultTypes[j]? = some t → (v.resultList f.resultTypes.size)[j]? = some r → Value.okWide P W' .any 0 t r) :
    s.post enc P f apart fresh handsOn again W args v W' := by
  have hlt : ∀ p ∈ before, p.block < W.heap.size := fun p hp => hW.lt p hp
  have hold : ∀ p ∈ before, (fun b => decide (b < W.heap.size)) p.block = true := fun p hp => by simpa using hlt p hp
  refine ⟨ds, gs, before, [], pa, pv, hW, hres _ _ _, hargs _ hold, hvars _ hold, World.keptBut_mono (fun p hp => ⟨hp, ?_⟩) (hb.frame (· ∈ before)), fun _ => ?_⟩
  · rw [hps, List.mem_append] at hp
    exact Or.inr hp
  · obtain ⟨_, _, _, _, _, hz, hn⟩ := hW
    refine ⟨hok, _, _, ([] ++ pa) ++ pv, ⟨[] ++ pa, pv, trodAll_append (hargs _ (fun _ _ => rfl)) (hres _ _ _), hvars _ (fun _ _ => rfl), rfl, ?_, ?_⟩, ?_⟩
    · intro b off hp
      have hin : MemPlace.cell b off ∈ before := by rw [hps]; simpa using hp
      rw [hb.frozen (hlt _ hin)]
      exact hz b off hin
    · intro ha
      have := hn ha
      rw [hps] at this
      simpa using this
    · intro p hp _
      rw [hps]
      simpa using hp
theorem below_args {W W' : World} (hl : laidOutB P = true) (hb : Below W.heap.size W W') (sp : Nat → Bool) : ∀ {ts : List TypeId} {vs : List Value} {ds : List (DataW H)} {ps : List MemPlace}, (ts.all fun t => P.readableRec t && decide (t < P.types.size)) = true →
    DataW.TrodAll enc P W 0 (fun _ => true) true ts vs ds ps → (∀ x ∈ ps, x.block < W.heap.size) → (∀ p ∈ ps, sp p.block = true) → DataW.TrodAll enc P W' 0 sp true ts vs ds ps
  | [], [], [], _, _, h, _, _ => h
  | [], [], _ :: _, _, _, h, _, _ => h.elim
  | [], _ :: _, _, _, _, h, _, _ => h.elim
  | _ :: _, [], _, _, _, h, _, _ => h.elim
  | _ :: _, _ :: _, [], _, _, h, _, _ => h.elim
  | t :: ts, v :: vs, d :: ds, ps, hr, h, hlt, hsp => by
    obtain ⟨p, q, h1, h2, rfl⟩ := h
    simp only [List.all_cons, Bool.and_eq_true, decide_eq_true_eq] at hr
    refine ⟨p, q, ?_, below_args hl hb sp hr.2 h2 (fun x hx => hlt x (by simp [hx])) (fun x hx => hsp x (by simp [hx])), rfl⟩
    exact WideElems.Trod_stays hl hr.1.1 hr.1.2 h1 (fun x hx => hb.same (hlt x (by simp [hx]))) (fun x hx => hsp x (by simp [hx]))
theorem law_post {tb : TypeId} {f : Func} {s : ChangeSpec} {apart fresh handsOn again : Bool} {W W' : World} {args : Array Value} {b : Bool} {ds gs : List (DataW H)} {before : List MemPlace} (hl : laidOutB P = true)
    (hW : DataW.Whole enc P f.params.toList s.vars apart W args.toList ds gs before) (hvs : s.vars = []) (hrt : f.resultTypes = #[tb]) (htb : P.underlying tb = some .bool) (hread : (f.params.toList.all fun t => P.readableRec t && decide (t < P.types.size)) = true)
    (hres : (s.fn H (ds ++ gs)).results = [.lit (.bool b)]) (hargs : (s.fn H (ds ++ gs)).args = ds) (hvars : (s.fn H (ds ++ gs)).vars = []) (hb : Below W.heap.size W W') :
    s.post enc P f apart fresh handsOn again W args (.bool b) W' := by
  have hW' := hW
  obtain ⟨p, q, hA, hV, rfl, hfz, hnd⟩ := hW
  rw [hvs] at hV
  obtain ⟨rfl, rfl⟩ := trodVars_none hV
  have hlt : ∀ x ∈ p, x.block < W.heap.size := fun x hx => hW'.lt x (by simp [hx])
  refine post_of_below (pa := p) (pv := []) hW' (fun bb sp hd => ?_) (fun sp hsp => ?_) (fun sp hsp => ?_) rfl hb (fun j t r h1 h2 => ?_)
  · rw [hres, hrt]
    exact trodAll_cons_mk (shut_bool htb _) trodAll_mk0
  · rw [hargs]
    exact below_args hl hb sp hread hA hlt (fun x hx => hsp x (by simp [hx]))
  · rw [hvars, hvs]; rfl
  · exact ok_one hrt rfl (okWide_bool_mk htb _) j t r h1 h2
end
end Go.Vc

namespace Go.Proofs.YtdhkhapbldkkdaaGreatDoor
open Go.Vc
attribute [local go_sem] St.runR St.runW St.stepV offV St.step St.stepU St.stepG mkCond guardB St.prK St.pr St.prLen St.eff St.callE St.callD St.callF St.callL aI aS aR aC St.isM St.argL Ctr.pure Ctr.lend Ctr.move Ctr.isL Ctr.wri pur len lentBy St.lentV St.lent1 nthS argsR restOf obsR pairs swapL unObs backL St.resL erL SV.ren1 SV.up SV.up2 Ob.up St.fzL cellIds partIds St.intoRow SV.ownId St.fz SV.fz1 St.prep St.mvL St.mv SV.re1 rnOk St.prEq vals eqCells scEq Value.kd St.prStr St.prCut cutR St.bnd St.prMin St.bld isShift outL retL outJ oR SV.upq SV.isSl SV.shut St.deepK St.dpArg St.deepQ absC Ob.pl St.ev St.get St.put St.new St.kill SV.kill SV.kill1 Ob.kill St.app St.wrt St.rowsOf St.res St.killL lk er argsL SV.strip SV.need SV.share SV.share1 SV.owns SV.owns1 SV.owns2 SV.good SV.good1 SV.rok SV.rok1 SV.rok2 SV.isV SV.isV2 nodupN SV.cells SV.one SV.pur Ob.pb partsIn rowsIn splice cellsAt dstOk scal2 scal1 thenK blockK retK outK outs okC okL okA okT nilC nilL nilA nilT keepC keepL keepA keepT St.runG St.dltK St.least St.clean St.final St.hide offK badS badO SV.refs SV.leaf SV.leaf2 Ob.refs dlOk fpAt Go.Vc.cover tups SV.ofAgg St.out outC subL St.has rng wr Value.oneCell' Option.isSome_some Option.isSome_none List.nil_append Bool.false_eq_true List.map_cons List.map_nil List.all_cons List.all_nil List.length_cons List.length_nil List.drop_zero List.drop_succ_cons List.take_succ_cons List.take_zero List.drop_nil List.take_nil List.getElem?_cons_zero List.getElem?_cons_succ List.getElem?_nil List.cons_append List.nil_append List.append_nil List.append_assoc List.flatMap_cons List.flatMap_nil List.contains_cons List.contains_nil List.set_cons_zero List.set_cons_succ List.getElem?_toArray Option.getD_some Option.getD_none Option.map_some Option.map_none Option.bind_some Option.some.injEq Prod.mk.injEq if_true if_false true_and and_true and_self and_false false_and Bool.and_false Bool.false_and Bool.or_true Bool.true_or Bool.or_false Bool.false_or ne_eq not_true_eq_false not_false_eq_true decide_true decide_false List.mem_cons List.not_mem_nil List.filter_cons List.filter_nil List.any_cons List.any_nil List.isEmpty_nil List.isEmpty_cons Option.getD_none or_false false_or true_or or_true forall_eq_or_imp forall_eq reduceCtorEq exists_eq exists_eq' exists_eq_left' exists_eq_left exists_eq_right exists_eq_right' imp_self implies_true Bool.and_true Bool.true_and Bool.and_self beq_self_eq_true List.replicate_succ List.replicate_zero forall_const false_implies pickB_or pickB_and beqT beqF Int.toNat_natCast List.length_map List.length_replicate ge_iff_le gt_iff_lt decide_eq_true_eq decide_eq_false_iff_not Bool.and_eq_true Bool.or_eq_true Bool.not_eq_true' Bool.not_eq_false' condG List.toList_toArray Bool.or_eq_false_iff Bool.and_eq_false_iff Int.not_lt Int.not_le beq_iff_eq beq_eq_false_iff_ne bne_iff_ne bne_eq_false_iff_eq ne_eq Bool.not_true Bool.not_false exists_and_left Nat.reduceAdd Nat.reduceLT Nat.reduceLeDiff Nat.reduceEqDiff Nat.reduceMul Nat.reduceSub Nat.reduceGT reduceIte Int.reduceNeg Int.reduceToNat
section
open Go.Vc
set_option linter.unusedSimpArgs false
set_option linter.unusedVariables false
set_option maxHeartbeats 1000000
attribute [local irreducible] Go.Vc.WP
attribute [local go_sem] cx0_t cx0_c
structure Frame where
  name : ByteArray
  line : Int
deriving DecidableEq
def encFrame (x : Frame) : List SV := [.v (.string x.name), .v (.int .i64 x.line)]
def oneFrame : List SV → Frame
  | [.v (.string name), .v (.int _ line)] => ⟨name, line⟩
  | _ => ⟨⟨#[]⟩, 0⟩
def decFrame (rows : List (List SV)) : List Frame := rows.map oneFrame
theorem oneFrame_enc (x : Frame) : oneFrame (encFrame x) = x := rfl
theorem decFrame_enc (L : List Frame) : decFrame (L.map encFrame) = L := by
  unfold decFrame
  rw [List.map_map]
  exact List.map_id'' oneFrame_enc L
def ktoFrame : Ctr := pur (fun args => oneFrame (aC args 0)) (fun x => [.agg (encFrame x)]) (fun _ => True) (fun _ x => .agg (encFrame x)) (fun _ _ => [])
theorem ctoFrame : Cn Tryz.prog 145 ktoFrame := by
  refine Cn.pur Tryz.func145 (by kernel_rfl) rfl fun d x _ => ?_
  refine Holds.go (c := cx0) Tryz.func145 rfl Tryz.results145 Tryz.ntmps145 (by omega) (by simp) rfl ?_
  intro X0 w0
  unfold encFrame
  (repeat' (first | refine WP.seq ?_ | refine WP.block ?_ | ((first | refine WP.region ?_ | refine WP.condW ?_ | refine WP.ret ?_ | refine WP.exit ?_ | refine WP.skip ?_); simp only [go_sem, tyAll]) |  refine And.intro ?_ ?_ | intro _))
  all_goals first | omega | exact ⟨_, _, rfl, _, _, rfl, rfl⟩ | skip
def keqFrame : Ctr := pur (fun args => (oneFrame (aC args 0), oneFrame (aC args 1))) (fun x => [.agg (encFrame x.1), .agg (encFrame x.2)]) (fun _ => True) (fun _ x => .v (.bool (decide (x.1 = x.2)))) (fun _ _ => [])
theorem ceqFrame : Cn Tryz.prog 152 keqFrame := by
  refine Cn.pur Tryz.func152 (by kernel_rfl) rfl fun d x _ => ?_
  obtain ⟨⟨a0, a1⟩, ⟨b0, b1⟩⟩ := x
  refine Holds.go (c := cx0) Tryz.func152 rfl Tryz.results152 Tryz.ntmps152 (by omega) (by simp) rfl ?_
  intro X0 w0
  simp only [encFrame]
  (repeat' (first | refine WP.seq ?_ | refine WP.block ?_ | ((first | refine WP.region ?_ | refine WP.condW ?_ | refine WP.ret ?_ | refine WP.exit ?_ | refine WP.skip ?_); simp only [go_sem, tyAll]) |  refine And.intro ?_ ?_ | intro _))
  all_goals simp_all
def kszFrame : Ctr := pur (fun args => (oneFrame (aC args 0), aI args 1)) (fun x => [.agg (encFrame x.1), .v (.int .i64 x.2)]) (fun x => x.1.name.size ≤ maxLen ∧ 0 ≤ x.2 ∧ x.2 ≤ 1048576)
  (fun _ x => .v (.int .i64 (if x.2 - x.1.name.size < 0 then -1 else x.2 - x.1.name.size))) (fun _ _ => [])
theorem cszFrame : Cn Tryz.prog 143 kszFrame := by
  refine Cn.pur Tryz.func143 (by kernel_rfl) rfl fun d x h => ?_
  obtain ⟨x, left⟩ := x
  obtain ⟨hL, h0, h1⟩ := h
  simp only at hL h0 h1 ⊢
  have hm : maxLen = 9223372036854775807 := rfl
  refine Holds.go (c := cx0) Tryz.func143 rfl Tryz.results143 Tryz.ntmps143 (by omega) (by simp) rfl ?_
  intro X0 w0
  simp only [encFrame]
  (repeat' (first | refine WP.seq ?_ | refine WP.block ?_ | ((first | refine WP.region ?_ | refine WP.condW ?_ | refine WP.ret ?_ | refine WP.exit ?_ | refine WP.skip ?_); simp only [go_sem, tyAll]) |  refine And.intro ?_ ?_ | intro _))
  all_goals first | omega | skip
  · rename_i h; rw [if_pos h]
  · rename_i h; rw [if_neg (by omega)]
section
open Go.RowKit Go.WideShapes Go.ChangeShapes Go.Deep
theorem rowFrame {H : Type} {enc : TypeId × Value → H} {w : World} : Dec H enc Tryz.prog w 147 encFrame (fun x => (x.name.size ≤ maxLen) ∧ (IntKind.i64.min ≤ x.line ∧ x.line ≤ IntKind.i64.max)) := by
  intro base sp held n cs y h
  obtain ⟨hlen, hf⟩ := trod_fields Tryz.underlying147 (by kernel_rfl) (by kernel_rfl) h
  obtain ⟨v0, n0, z0, e0, t0⟩ := hf 0 _ rfl
  obtain ⟨m0, q0, _, w0⟩ := DataW.trod_string Tryz.underlying9 t0
  simp only [List.cons.injEq, and_true] at q0
  subst q0
  obtain ⟨v1, n1, z1, e1, t1⟩ := hf 1 _ rfl
  obtain ⟨m1, q1, _, w1⟩ := DataW.trod_int Tryz.underlying3 t1
  simp only [List.cons.injEq, and_true] at q1
  subst q1
  have hcs : cs = [.string m0, .int .i64 m1] := list_of_get hlen (fun j v hj => by
    match j, hj with
    | 0, hj => simp at hj; subst hj; exact e0
    | 1, hj => simp at hj; subst hj; exact e1
    | (j + 2), hj => simp at hj)
  exact ⟨⟨m0, m1⟩, ⟨w0, by simpa [Lit.wf] using w1⟩, cells_vs (by rw [hcs]; rfl) (by rw [hcs]; intro u hu; simp only [List.mem_cons, List.not_mem_nil, or_false] at hu; rcases hu with rfl | rfl <;> rfl)⟩
end
end
section
open Go.Vc
set_option linter.unusedSimpArgs false
set_option linter.unusedVariables false
set_option maxHeartbeats 1000000
attribute [local irreducible] Go.Vc.WP
attribute [local go_sem] cx0_t cx0_c
structure Node where
  parent : Int
  name : ByteArray
  line : Int
deriving DecidableEq
def encNode (x : Node) : List SV := [.v (.int .i64 x.parent), .v (.string x.name), .v (.int .i64 x.line)]
def oneNode : List SV → Node
  | [.v (.int _ parent), .v (.string name), .v (.int _ line)] => ⟨parent, name, line⟩
  | _ => ⟨0, ⟨#[]⟩, 0⟩
def decNode (rows : List (List SV)) : List Node := rows.map oneNode
theorem oneNode_enc (x : Node) : oneNode (encNode x) = x := rfl
theorem decNode_enc (L : List Node) : decNode (L.map encNode) = L := by
  unfold decNode
  rw [List.map_map]
  exact List.map_id'' oneNode_enc L
theorem isV_Node {e s : Nat} (L : List Node) : (Ob.sl e s (L.map encNode)).isV ↔ True := iff_true_intro (by
  intro row hr c hc
  obtain ⟨n, _, rfl⟩ := List.mem_map.1 hr
  simp only [encNode, List.mem_cons, List.not_mem_nil, or_false] at hc
  rcases hc with rfl | rfl | rfl <;> exact ⟨_, rfl⟩)
def zerNode : List SV := [.v (.int .i64 0), .v (.string ⟨#[]⟩), .v (.int .i64 0)]
noncomputable def cxinNode : Cx := { P := Tryz.prog, tys := tys, C := [(145, ktoFrame), (152, keqFrame), (143, kszFrame)], hty := tysOk, hC := COk.cons ctoFrame (COk.cons ceqFrame (COk.cons cszFrame (COk.nil _))) }
theorem cxinNode_t : cxinNode.tys = tys := rfl
theorem cxinNode_c : cxinNode.C = [(145, ktoFrame), (152, keqFrame), (143, kszFrame)] := rfl
attribute [local go_sem] cxinNode_t cxinNode_c ktoFrame keqFrame kszFrame
attribute [local go_sem] oneFrame encFrame
def ktoNode : Ctr := pur (fun args => oneNode (aC args 0)) (fun x => [.agg (encNode x)]) (fun _ => True) (fun _ x => .agg (encNode x)) (fun _ _ => [])
theorem ctoNode : Cn Tryz.prog 115 ktoNode := by
  refine Cn.pur Tryz.func115 (by kernel_rfl) rfl fun d x _ => ?_
  refine Holds.go (c := cxinNode) Tryz.func115 rfl Tryz.results115 Tryz.ntmps115 (by omega) (by simp) rfl ?_
  intro X0 w0
  unfold encNode
  (repeat' (first | refine WP.seq ?_ | refine WP.block ?_ | ((first | refine WP.region ?_ | refine WP.condW ?_ | refine WP.ret ?_ | refine WP.exit ?_ | refine WP.skip ?_); simp only [go_sem, tyAll]) |  refine And.intro ?_ ?_ | intro _))
  all_goals first | omega | exact ⟨_, _, rfl, _, _, rfl, rfl⟩ | skip
noncomputable def cxtoNode : Cx := { P := Tryz.prog, tys := tys, C := [(115, ktoNode)], hty := tysOk, hC := COk.cons ctoNode (COk.nil _) }
theorem cxtoNode_t : cxtoNode.tys = tys := rfl
theorem cxtoNode_c : cxtoNode.C = [(115, ktoNode)] := rfl
def ktoNodeS : Ctr := pur (fun args => decNode (aR args 0)) (fun L => [.sl 3 (L.map encNode)]) (fun L => L.length ≤ 2097152) (fun d _ => .own d) (fun d L => [(d, .sl 151 3 (L.map encNode))])
section
attribute [local go_sem] cxtoNode_t cxtoNode_c ktoNode oneNode
theorem ctoNodeS : Cn Tryz.prog 65 ktoNodeS := by
  refine Cn.pur Tryz.func65 (by kernel_rfl) rfl fun d L hL => ?_
  refine Holds.go (c := cxtoNode) Tryz.func65 rfl Tryz.results65 Tryz.ntmps65 (by omega) (by simp) rfl ?_
  intro X0 w0
  (repeat' (first | refine WP.seq ?_ | refine WP.block ?_ | ((first | refine WP.region ?_ | refine WP.condW ?_ | refine WP.ret ?_ | refine WP.exit ?_ | refine WP.skip ?_); simp only [go_sem, tyAll]) |  refine And.intro ?_ ?_ | intro _))
  all_goals first | omega | skip
  refine WP.loop (fun k : Nat => ⟨[(0, .sl 3 (L.map encNode)), (3, .own 7), (4, .v (.int .i64 k))], [(7, .sl 151 3 (filled encNode zerNode L k))]⟩) (fun k => k ≤ L.length) (fun k => L.length - k) 0 (by omega) ?_ ?_
  · rw [filled_zero]; simp only [go_sem, tyAll]; first | exact ⟨rfl, rfl⟩ | rfl
  intro k hk
  by_cases hlt : k < L.length
  · have h1 := rowAt_map encNode L k hlt
    have h2 := filled_len encNode zerNode L k hk
    have h3 : Go.Vc.rowAt (filled encNode zerNode L k) k = [.v (.int .i64 0), .v (.string ⟨#[]⟩), .v (.int .i64 0)] := filled_row encNode zerNode L k hlt
    have h4 := filled_set encNode zerNode L k hlt
    rw [encNode] at h4
    (repeat' (first | refine WP.seq ?_ | refine WP.block ?_ | ((first | refine WP.region ?_ | refine WP.condW ?_ | refine WP.ret ?_ | refine WP.exit ?_ | refine WP.skip ?_); simp only [go_sem, h1, h2, h3, h4, encNode, tyAll]) |  refine And.intro ?_ ?_ | intro _))
    all_goals first | omega | skip
    exact ⟨k + 1, by omega, by omega, rfl, rfl⟩
  · have h2 := filled_len encNode zerNode L k hk
    have h5 : filled encNode zerNode L k = L.map encNode := by rw [show k = L.length by omega]; exact filled_all _ _ _
    (repeat' (first | refine WP.seq ?_ | refine WP.block ?_ | ((first | refine WP.region ?_ | refine WP.condW ?_ | refine WP.ret ?_ | refine WP.exit ?_ | refine WP.skip ?_); simp only [go_sem, h2, h5, tyAll]) |  refine And.intro ?_ ?_ | intro _))
    all_goals first | omega | skip
end
def keqNode : Ctr := pur (fun args => (oneNode (aC args 0), oneNode (aC args 1))) (fun x => [.agg (encNode x.1), .agg (encNode x.2)]) (fun _ => True) (fun _ x => .v (.bool (decide (x.1 = x.2)))) (fun _ _ => [])
theorem ceqNode : Cn Tryz.prog 131 keqNode := by
  refine Cn.pur Tryz.func131 (by kernel_rfl) rfl fun d x _ => ?_
  obtain ⟨⟨a0, a1, a2⟩, ⟨b0, b1, b2⟩⟩ := x
  refine Holds.go (c := cxinNode) Tryz.func131 rfl Tryz.results131 Tryz.ntmps131 (by omega) (by simp) rfl ?_
  intro X0 w0
  simp only [encNode]
  (repeat' (first | refine WP.seq ?_ | refine WP.block ?_ | ((first | refine WP.region ?_ | refine WP.condW ?_ | refine WP.ret ?_ | refine WP.exit ?_ | refine WP.skip ?_); simp only [go_sem, tyAll]) |  refine And.intro ?_ ?_ | intro _))
  all_goals simp_all
noncomputable def cxeqNode : Cx := { P := Tryz.prog, tys := tys, C := [(131, keqNode)], hty := tysOk, hC := COk.cons ceqNode (COk.nil _) }
theorem cxeqNode_t : cxeqNode.tys = tys := rfl
theorem cxeqNode_c : cxeqNode.C = [(131, keqNode)] := rfl
def keqNodeS : Ctr := pur (fun args => (decNode (aR args 0), decNode (aR args 1))) (fun x => [.sl 3 (x.1.map encNode), .sl 3 (x.2.map encNode)]) (fun x => x.1.length ≤ 4398046511104) (fun _ x => .v (.bool (decide (x.1 = x.2)))) (fun _ _ => [])
section
attribute [local go_sem] cxeqNode_t cxeqNode_c keqNode oneNode
theorem ceqNodeS : Cn Tryz.prog 80 keqNodeS := by
  refine Cn.pur Tryz.func80 (by kernel_rfl) rfl fun d x hL => ?_
  obtain ⟨L, M⟩ := x
  simp only at hL ⊢
  refine Holds.go (c := cxeqNode) Tryz.func80 rfl Tryz.results80 Tryz.ntmps80 (by omega) (by simp) rfl ?_
  intro X0 w0
  (repeat' (first | refine WP.seq ?_ | refine WP.block ?_ | ((first | refine WP.region ?_ | refine WP.condW ?_ | refine WP.ret ?_ | refine WP.exit ?_ | refine WP.skip ?_); simp only [go_sem, tyAll]) |  refine And.intro ?_ ?_ | intro _))
  · simp; intro h; subst h; simp_all
  have hlen : L.length = M.length := by omega
  refine WP.loop (fun k : Nat => ⟨[(0, .sl 3 (L.map encNode)), (1, .sl 3 (M.map encNode)), (5, .v (.int .i64 k))], []⟩) (fun k => k ≤ L.length ∧ L.take k = M.take k) (fun k => L.length - k) 0 (by simp) ?_ ?_
  · simp only [go_sem, tyAll]; rfl
  intro k ⟨hk, ht⟩
  by_cases hlt : k < L.length
  · have h1 := rowAt_map encNode L k hlt
    have h2 := rowAt_map encNode M k (by omega)
    (repeat' (first | refine WP.seq ?_ | refine WP.block ?_ | ((first | refine WP.region ?_ | refine WP.condW ?_ | refine WP.ret ?_ | refine WP.exit ?_ | refine WP.skip ?_); simp only [go_sem, h1, h2, encNode, tyAll]) | (refine WP.drawW 10 (by kernel_rfl) (by kernel_rfl) ?_; simp only [go_sem, h1, h2, encNode, tyAll]) |  refine And.intro ?_ ?_ | intro _))
    all_goals first | omega | skip
    · rename_i hne
      rw [show decide (L = M) = false from decide_eq_false fun e => by subst e; exact hne rfl]
    · rename_i he
      refine ⟨k + 1, ⟨by omega, ?_⟩, by omega, rfl⟩
      have he' : L[k] = M[k] := he
      rw [List.take_succ_eq_append_getElem hlt, List.take_succ_eq_append_getElem (by omega : k < M.length), ht, he']
  · (repeat' (first | refine WP.seq ?_ | refine WP.block ?_ | ((first | refine WP.region ?_ | refine WP.condW ?_ | refine WP.ret ?_ | refine WP.exit ?_ | refine WP.skip ?_); simp only [go_sem, tyAll]) |  refine And.intro ?_ ?_ | intro _))
    all_goals first | omega | skip
    rw [show decide (L = M) = true from decide_eq_true ?_]
    rw [show k = L.length by omega, List.take_length, hlen, List.take_length] at ht
    exact ht
end
def kszNode : Ctr := pur (fun args => (oneNode (aC args 0), aI args 1)) (fun x => [.agg (encNode x.1), .v (.int .i64 x.2)]) (fun x => x.1.name.size ≤ maxLen ∧ 0 ≤ x.2 ∧ x.2 ≤ 1048576)
  (fun _ x => .v (.int .i64 (if x.2 - x.1.name.size < 0 then -1 else x.2 - x.1.name.size))) (fun _ _ => [])
theorem cszNode : Cn Tryz.prog 107 kszNode := by
  refine Cn.pur Tryz.func107 (by kernel_rfl) rfl fun d x h => ?_
  obtain ⟨x, left⟩ := x
  obtain ⟨hL, h0, h1⟩ := h
  simp only at hL h0 h1 ⊢
  have hm : maxLen = 9223372036854775807 := rfl
  refine Holds.go (c := cxinNode) Tryz.func107 rfl Tryz.results107 Tryz.ntmps107 (by omega) (by simp) rfl ?_
  intro X0 w0
  simp only [encNode]
  (repeat' (first | refine WP.seq ?_ | refine WP.block ?_ | ((first | refine WP.region ?_ | refine WP.condW ?_ | refine WP.ret ?_ | refine WP.exit ?_ | refine WP.skip ?_); simp only [go_sem, tyAll]) |  refine And.intro ?_ ?_ | intro _))
  all_goals first | omega | skip
  · rename_i h
    by_cases h5 : left - (x.name.size : Int) < 0
    · rw [if_pos h5]
    · rw [if_neg h5] at h; omega
noncomputable def cxszNode : Cx := { P := Tryz.prog, tys := tys, C := [(107, kszNode)], hty := tysOk, hC := COk.cons cszNode (COk.nil _) }
theorem cxszNode_t : cxszNode.tys = tys := rfl
theorem cxszNode_c : cxszNode.C = [(107, kszNode)] := rfl
def sizesNode (L : List Node) : List Nat := L.map fun x => x.name.size
def szvNode (L : List Node) (left : Int) : Int := if left - L.length < 0 then -1 else szGo (sizesNode L) (left - L.length)
def kszNodeS : Ctr := pur (fun args => (decNode (aR args 0), aI args 1)) (fun x => [.sl 3 (x.1.map encNode), .v (.int .i64 x.2)]) (fun x => x.1.length ≤ maxLen ∧ (∀ r ∈ x.1, r.name.size ≤ maxLen) ∧ 0 ≤ x.2 ∧ x.2 ≤ 1048576)
  (fun _ x => .v (.int .i64 (szvNode x.1 x.2))) (fun _ _ => [])
section
attribute [local go_sem] cxszNode_t cxszNode_c kszNode oneNode
theorem cszNodeS : Cn Tryz.prog 55 kszNodeS := by
  refine Cn.pur Tryz.func55 (by kernel_rfl) rfl fun d x h => ?_
  obtain ⟨L, left⟩ := x
  obtain ⟨hL, hs, h0, h1⟩ := h
  simp only at hL hs h0 h1 ⊢
  have hm : maxLen = 9223372036854775807 := rfl
  refine Holds.go (c := cxszNode) Tryz.func55 rfl Tryz.results55 Tryz.ntmps55 (by omega) (by simp) rfl ?_
  intro X0 w0
  (repeat' (first | refine WP.seq ?_ | refine WP.block ?_ | ((first | refine WP.region ?_ | refine WP.condW ?_ | refine WP.ret ?_ | refine WP.exit ?_ | refine WP.skip ?_); simp only [go_sem, tyAll]) |  refine And.intro ?_ ?_ | intro _))
  all_goals first | omega | skip
  · rename_i h; rw [szvNode, if_pos h]
  rename_i hge
  refine WP.loop (fun s : Nat × Int => ⟨[(0, .sl 3 (L.map encNode)), (1, .v (.int .i64 s.2)), (5, .v (.int .i64 s.1))], []⟩)
    (fun s => s.1 ≤ L.length ∧ 0 ≤ s.2 ∧ s.2 ≤ 1048576 ∧ szvNode L left = szGo ((sizesNode L).drop s.1) s.2) (fun s => L.length - s.1) (0, left - L.length)
    ⟨by simp, by simpa using hge, by simp only; omega, by rw [szvNode, if_neg (by omega)]; rfl⟩ ?_ ?_
  · simp only [go_sem, tyAll]; first | exact ⟨rfl, rfl⟩ | rfl
  rintro ⟨k, r⟩ ⟨hk, hr0, hr1, he⟩
  simp only at hk hr0 hr1 he ⊢
  by_cases hlt : k < L.length
  · have h2 := rowAt_map encNode L k hlt
    have h3 := hs _ (List.getElem_mem hlt)
    have h4 : szGo ((sizesNode L).drop k) r = if r - (L[k].name.size : Int) < 0 then -1 else szGo ((sizesNode L).drop (k + 1)) (r - (L[k].name.size : Int)) := by
      rw [szGo_drop (sizesNode L) k r (by simpa [sizesNode] using hlt)]
      simp only [sizesNode, List.getElem_map]
    (repeat' (first | refine WP.seq ?_ | refine WP.block ?_ | ((first | refine WP.region ?_ | refine WP.condW ?_ | refine WP.ret ?_ | refine WP.exit ?_ | refine WP.skip ?_); simp only [go_sem, h2, encNode, tyAll]) |  refine And.intro ?_ ?_ | intro _))
    all_goals first | omega | skip
    · rename_i h
      have h5 : r - (L[k].name.size : Int) < 0 := by
        refine Int.not_le.1 fun h6 => ?_
        rw [if_neg (by omega)] at h
        omega
      rw [he, h4, if_pos h5]
    · rename_i h
      have h5 : ¬ r - (L[k].name.size : Int) < 0 := fun h6 => by
        rw [if_pos h6] at h
        omega
      rw [if_neg h5]
      refine ⟨(k + 1, r - L[k].name.size), ⟨by simp only; omega, by simp only; omega, by simp only; omega, ?_⟩, by simp only; omega, rfl, rfl⟩
      rw [he, h4, if_neg h5]
  · (repeat' (first | refine WP.seq ?_ | refine WP.block ?_ | ((first | refine WP.region ?_ | refine WP.condW ?_ | refine WP.ret ?_ | refine WP.exit ?_ | refine WP.skip ?_); simp only [go_sem, tyAll]) |  refine And.intro ?_ ?_ | intro _))
    all_goals first | omega | skip
    rw [he, List.drop_of_length_le (by simp [sizesNode]; omega)]
    rfl
end
end
end Go.Proofs.YtdhkhapbldkkdaaGreatDoor
namespace Go.Pl
set_option linter.unusedVariables false
open Go
theorem bl_irrefl : ∀ l : List UInt8, Op.bytesLess l l = false
  | [] => rfl
  | a :: l => by simp [Op.bytesLess, bl_irrefl l]
theorem bl_tri : ∀ {x y : List UInt8}, Op.bytesLess x y = false → Op.bytesLess y x = false → x = y
  | [], [], _, _ => rfl
  | [], _ :: _, h, _ => by simp [Op.bytesLess] at h
  | _ :: _, [], _, h => by simp [Op.bytesLess] at h
  | a :: x, b :: y, h1, h2 => by
    simp only [Op.bytesLess, Bool.or_eq_false_iff, decide_eq_false_iff_not, Bool.and_eq_false_iff, beq_eq_false_iff_ne] at h1 h2
    have hab : a = b := UInt8.le_antisymm (UInt8.not_lt.1 h2.1) (UInt8.not_lt.1 h1.1)
    subst hab
    have e1 : Op.bytesLess x y = false := h1.2.resolve_left fun h => h rfl
    have e2 : Op.bytesLess y x = false := h2.2.resolve_left fun h => h rfl
    rw [bl_tri e1 e2]
theorem bl_trans : ∀ {x y z : List UInt8}, Op.bytesLess x y = true → Op.bytesLess y z = true → Op.bytesLess x z = true
  | _, [], _, h, _ => by simp [Op.bytesLess] at h
  | _, _ :: _, [], _, h => by simp [Op.bytesLess] at h
  | [], _ :: _, _ :: _, _, _ => rfl
  | a :: x, b :: y, c :: z, h1, h2 => by
    simp only [Op.bytesLess, Bool.or_eq_true, decide_eq_true_eq, Bool.and_eq_true, beq_iff_eq] at h1 h2 ⊢
    rcases h1 with h1 | ⟨rfl, h1⟩
    · rcases h2 with h2 | ⟨rfl, h2⟩
      · exact .inl (UInt8.lt_trans h1 h2)
      · exact .inl h1
    · rcases h2 with h2 | ⟨rfl, h2⟩
      · exact .inl h2
      · exact .inr ⟨rfl, bl_trans h1 h2⟩
def ltS (a b : ByteArray) : Bool := Op.bytesLess a.toList b.toList
theorem ltS_def (a b : ByteArray) : Op.bytesLess a.toList b.toList = ltS a b := rfl
theorem ba_toList_inj {a b : ByteArray} (h : a.toList = b.toList) : a = b := by
  rw [ByteArray.toList_eq, ByteArray.toList_eq] at h
  exact ByteArray.ext (Array.toList_inj.1 h)
theorem ltS_irrefl (a : ByteArray) : ltS a a = false := bl_irrefl _
theorem ltS_trans {a b c : ByteArray} (h1 : ltS a b = true) (h2 : ltS b c = true) : ltS a c = true := bl_trans h1 h2
theorem ltS_tri {a b : ByteArray} (h1 : ltS a b = false) (h2 : ltS b a = false) : a = b := ba_toList_inj (bl_tri h1 h2)
theorem ltS_gt {a b : ByteArray} (h1 : ltS a b = false) (h2 : a ≠ b) : ltS b a = true := by
  cases h : ltS b a with
  | true => rfl
  | false => exact absurd (ltS_tri h1 h) h2
theorem ltS_ntrans {a b c : ByteArray} (h1 : ltS a b = false) (h2 : ltS b c = false) : ltS a c = false := by
  cases h : ltS a c with
  | false => rfl
  | true =>
    by_cases hab : a = b
    · subst hab; rw [h2] at h; cases h
    · have := ltS_trans (ltS_gt h1 hab) h; rw [h2] at this; cases this
section
variable {α : Type} (lt : α → α → Bool)
def Asc (L : List α) : Prop := L.Pairwise fun a b => lt a b = true
structure Strict : Prop where
  irrefl : ∀ a, lt a a = false
  trans : ∀ a b c, lt a b = true → lt b c = true → lt a c = true
variable {lt}
theorem Strict.asymm (h : Strict lt) {a b : α} (hab : lt a b = true) : lt b a = false := by
  cases h2 : lt b a with
  | false => rfl
  | true => have := h.trans _ _ _ hab h2; rw [h.irrefl] at this; cases this
theorem Asc.unique (h : Strict lt) : ∀ {L M : List α}, Asc lt L → Asc lt M → L.Perm M → L = M
  | [], M, _, _, hp => (List.Perm.nil_eq hp)
  | a :: L, [], _, _, hp => (by have := hp.length_eq; simp at this)
  | a :: L, b :: M, hL, hM, hp => by
    have hL' := List.pairwise_cons.1 hL
    have hM' := List.pairwise_cons.1 hM
    have hab : a = b := by
      have h1 : a ∈ b :: M := hp.subset List.mem_cons_self
      have h2 : b ∈ a :: L := hp.symm.subset List.mem_cons_self
      rcases List.mem_cons.1 h1 with e | e
      · exact e
      · rcases List.mem_cons.1 h2 with e2 | e2
        · exact e2.symm
        · have := h.asymm (hM'.1 a e); rw [hL'.1 b e2] at this; cases this
    subst hab
    rw [Asc.unique h hL'.2 hM'.2 (List.Perm.cons_inv hp)]
def ins (lt : α → α → Bool) (x : α) (L : List α) : List α := L.takeWhile (fun y => lt y x) ++ x :: L.dropWhile (fun y => lt y x)
theorem ins_perm (x : α) (L : List α) : (ins lt x L).Perm (x :: L) := by
  unfold ins
  refine List.perm_middle.trans ?_
  rw [List.takeWhile_append_dropWhile]
theorem ins_mem {x y : α} {L : List α} : y ∈ ins lt x L ↔ y = x ∨ y ∈ L := by
  rw [(ins_perm (lt := lt) x L).mem_iff]; simp
theorem mem_takeWhile' {p : α → Bool} : ∀ {L : List α} {a : α}, a ∈ L.takeWhile p → p a = true ∧ a ∈ L
  | b :: L, a, h => by
    rw [List.takeWhile_cons] at h
    split at h
    · rename_i hb
      rcases List.mem_cons.1 h with rfl | h
      · exact ⟨hb, List.mem_cons_self⟩
      · exact ⟨(mem_takeWhile' h).1, List.mem_cons_of_mem _ (mem_takeWhile' h).2⟩
    · cases h
  | [], a, h => by cases h
theorem asc_drop (h : Strict lt) {x : α} : ∀ {L : List α}, Asc lt L → (∀ y ∈ L, lt y x = true ∨ lt x y = true) → ∀ y ∈ L.dropWhile (fun y => lt y x), lt x y = true
  | [], _, _, y, hy => by cases hy
  | a :: L, hL, hx, y, hy => by
    have hL' := List.pairwise_cons.1 hL
    rw [List.dropWhile_cons] at hy
    split at hy
    · exact asc_drop h hL'.2 (fun y hy => hx y (List.mem_cons_of_mem _ hy)) y hy
    · rename_i ha
      have hxa : lt x a = true := (hx a List.mem_cons_self).resolve_left ha
      rcases List.mem_cons.1 hy with rfl | hy
      · exact hxa
      · exact h.trans _ _ _ hxa (hL'.1 y hy)
theorem ins_asc (h : Strict lt) {x : α} {L : List α} (hL : Asc lt L) (hx : ∀ y ∈ L, lt y x = true ∨ lt x y = true) : Asc lt (ins lt x L) := by
  have hd := asc_drop h hL hx
  unfold ins Asc
  have hs : (L.takeWhile (fun y => lt y x) ++ L.dropWhile (fun y => lt y x)).Pairwise fun a b => lt a b = true := by rw [List.takeWhile_append_dropWhile]; exact hL
  rw [List.pairwise_append] at hs ⊢
  refine ⟨hs.1, List.pairwise_cons.2 ⟨hd, hs.2.1⟩, fun a ha b hb => ?_⟩
  rcases List.mem_cons.1 hb with rfl | hb
  · exact (mem_takeWhile' ha).1
  · exact hs.2.2 a ha b hb
def insAll (lt : α → α → Bool) (L : List α) : List α := L.foldl (fun acc x => ins lt x acc) []
theorem insAll_snoc (L : List α) (x : α) : insAll lt (L ++ [x]) = ins lt x (insAll lt L) := by simp [insAll]
theorem foldl_ins_perm : ∀ (L acc : List α), (L.foldl (fun acc x => ins lt x acc) acc).Perm (L ++ acc)
  | [], acc => List.Perm.refl _
  | x :: L, acc => by
    refine (foldl_ins_perm L _).trans ?_
    refine ((ins_perm (lt := lt) x acc).append_left L).trans ?_
    exact List.perm_middle
theorem insAll_perm (L : List α) : (insAll lt L).Perm L := by have := foldl_ins_perm (lt := lt) L []; rwa [List.append_nil] at this
theorem insAll_len (L : List α) : (insAll lt L).length = L.length := (insAll_perm L).length_eq
theorem insAll_mem {L : List α} {y : α} : y ∈ insAll lt L ↔ y ∈ L := (insAll_perm L).mem_iff
theorem insAll_asc_aux (h : Strict lt) : ∀ (L acc : List α), Asc lt acc → (L ++ acc).Pairwise (fun a b => lt a b = true ∨ lt b a = true) → Asc lt (L.foldl (fun acc x => ins lt x acc) acc)
  | [], acc, ha, _ => ha
  | x :: L, acc, ha, hp => by
    have hp' := List.pairwise_cons.1 hp
    refine insAll_asc_aux h L _ (ins_asc h ha fun y hy => (hp'.1 y (List.mem_append_right _ hy)).symm) ?_
    have hp2 := List.pairwise_append.1 hp'.2
    refine List.pairwise_append.2 ⟨hp2.1, ?_, fun a hA b hb => ?_⟩
    · have : (x :: acc).Pairwise (fun a b => lt a b = true ∨ lt b a = true) := List.pairwise_cons.2 ⟨fun y hy => hp'.1 y (List.mem_append_right _ hy), hp2.2.1⟩
      exact ((ins_perm (lt := lt) x acc).pairwise_iff (fun h => h.symm)).2 this
    · rcases ins_mem.1 hb with rfl | hb
      · exact (hp'.1 a (List.mem_append_left _ hA)).symm
      · exact hp2.2.2 a hA b hb
theorem insAll_asc (h : Strict lt) {L : List α} (hp : L.Pairwise fun a b => lt a b = true ∨ lt b a = true) : Asc lt (insAll lt L) :=
  insAll_asc_aux h L [] List.Pairwise.nil (by rwa [List.append_nil])
theorem insAll_unique (h : Strict lt) {L M : List α} (hp : L.Pairwise fun a b => lt a b = true ∨ lt b a = true) (hM : M.Perm L) (hs : M.Pairwise fun a b => lt b a = false) : M = insAll lt L := by
  have hMp : M.Pairwise fun a b => lt a b = true ∨ lt b a = true := (hM.pairwise_iff (fun h => h.symm)).2 hp
  have hMA : Asc lt M := by
    unfold Asc
    refine (hs.and hMp).imp ?_
    rintro a b ⟨h1, h2⟩
    exact h2.resolve_right (by rw [h1]; simp)
  exact Asc.unique h hMA (insAll_asc h hp) (hM.trans (insAll_perm L).symm)
end
end Go.Pl

namespace Go.Proofs.YtdhkhapbldkkdaaGreatDoor
set_option linter.unusedVariables false
def joinL (c : UInt8) : List (List UInt8) → List UInt8
  | [] => []
  | [x] => x
  | x :: y :: l => x ++ c :: joinL c (y :: l)
def cutL (c : UInt8) : List UInt8 → List (List UInt8)
  | [] => [[]]
  | b :: l => if b = c then [] :: cutL c l else match cutL c l with
    | [] => [[b]]
    | x :: xs => (b :: x) :: xs
theorem cutL_ne (c : UInt8) : ∀ l, cutL c l ≠ []
  | [] => by simp [cutL]
  | b :: l => by
    unfold cutL
    split
    · simp
    · split <;> simp
theorem cutL_plain (c : UInt8) : ∀ {l : List UInt8}, c ∉ l → cutL c l = [l]
  | [], _ => rfl
  | b :: l, h => by
    simp only [List.mem_cons, not_or] at h
    unfold cutL
    rw [if_neg (fun e => h.1 e.symm), cutL_plain c h.2]
theorem cutL_app (c : UInt8) : ∀ {x : List UInt8} (l : List UInt8), c ∉ x → cutL c (x ++ c :: l) = x :: cutL c l
  | [], l, _ => by rw [List.nil_append, cutL, if_pos rfl]
  | b :: x, l, h => by
    simp only [List.mem_cons, not_or] at h
    rw [List.cons_append, cutL, if_neg (fun e => h.1 e.symm), cutL_app c l h.2]
theorem cutL_join (c : UInt8) : ∀ {L : List (List UInt8)}, L ≠ [] → (∀ x ∈ L, c ∉ x) → cutL c (joinL c L) = L
  | [x], _, h => by rw [joinL]; exact cutL_plain c (h x (by simp))
  | x :: y :: l, _, h => by
    rw [joinL, cutL_app c _ (h x (by simp)), cutL_join c (by simp) (fun z hz => h z (List.mem_cons_of_mem _ hz))]
theorem joinL_snoc (c : UInt8) : ∀ (L : List (List UInt8)) (x : List UInt8), joinL c (L ++ [x]) = if L = [] then x else joinL c L ++ c :: x
  | [], x => rfl
  | [y], x => by simp [joinL]
  | y :: z :: l, x => by
    have ih := joinL_snoc c (z :: l) x
    rw [if_neg (by simp)] at ih ⊢
    show joinL c (y :: z :: (l ++ [x])) = _
    rw [joinL, show z :: (l ++ [x]) = (z :: l) ++ [x] from rfl, ih, joinL]
    simp
def frOk (f : Frame) : Bool := nameOk f.name && decide (0 ≤ f.line) && decide (f.line ≤ 59)
theorem frOk_iff {f : Frame} : frOk f = true ↔ nameOk f.name = true ∧ 0 ≤ f.line ∧ f.line ≤ 59 := by simp [frOk, and_assoc]
def frTxt (f : Frame) : List UInt8 := f.name.data.toList ++ 58 :: fmtL f.line.toNat
def fmtF (L : List Frame) : ByteArray := if L.all frOk = true then bts (joinL 59 (L.map frTxt)) else ⟨#[]⟩
def partF (p : List UInt8) : Option Frame := match cutL 58 p with
  | [n, d] => Option.map (fun (v : Nat) => (⟨bts n, (v : Int)⟩ : Frame)) (parseU (bts d))
  | _ => none
def parseF (s : ByteArray) : Option (List Frame) := match (cutL 59 s.data.toList).mapM partF with
  | some L => if s.size ≠ 0 ∧ fmtF L = s then some L else none
  | none => none
theorem nameOk_letters {s : ByteArray} (h : nameOk s = true) : (∀ c ∈ s.data.toList, 97 ≤ c.toNat ∧ c.toNat ≤ 122) ∧ 1 ≤ s.size ∧ s.size ≤ 8 := by
  simp only [nameOk, Bool.and_eq_true, decide_eq_true_eq, List.all_eq_true] at h
  exact ⟨fun c hc => by have := h.1.1 c hc; simpa [letter] using this, h.1.2, h.2⟩
theorem decB_dig : ∀ (n k : Nat), k ≤ n → ∀ c ∈ decB k, 48 ≤ c.toNat ∧ c.toNat ≤ 57
  | 0, k, hk, c, hc => by
    have : k = 0 := by omega
    subst this; simp [decB] at hc
  | n + 1, k, hk, c, hc => by
    rcases Nat.eq_zero_or_pos k with h0 | h0
    · subst h0; simp [decB] at hc
    · rw [decB_pos k h0, List.mem_append] at hc
      rcases hc with hc | hc
      · exact decB_dig n (k / 10) (by omega) c hc
      · simp only [List.mem_cons, List.not_mem_nil, or_false] at hc
        subst hc
        have : (UInt8.ofNat (48 + k % 10)).toNat = 48 + k % 10 := by simp [UInt8.toNat_ofNat']; omega
        omega
theorem fmtL_dig (k : Nat) : ∀ c ∈ fmtL k, 48 ≤ c.toNat ∧ c.toNat ≤ 57 := by
  intro c hc
  unfold fmtL at hc
  split at hc
  · simp only [List.mem_cons, List.not_mem_nil, or_false] at hc; subst hc; decide
  · exact decB_dig k k (Nat.le_refl _) c hc
theorem fmtL_ne (k : Nat) : fmtL k ≠ [] := by
  unfold fmtL
  split
  · simp
  · rename_i h; rw [decB_pos k (by omega)]; simp
theorem decB_valL_id : ∀ (n k : Nat), k ≤ n → valL (decB k) = k
  | 0, k, hk => by
    have : k = 0 := by omega
    subst this; simp [decB, valL]
  | n + 1, k, hk => by
    rcases Nat.eq_zero_or_pos k with h0 | h0
    · subst h0; simp [decB, valL]
    · rw [decB_pos k h0, valL_snoc, decB_valL_id n (k / 10) (by omega)]
      have : (UInt8.ofNat (48 + k % 10)).toNat = 48 + k % 10 := by simp [UInt8.toNat_ofNat']; omega
      omega
theorem valL_fmtL (k : Nat) : valL (fmtL k) = k := by
  unfold fmtL
  split
  · rename_i h; subst h; simp [valL]
  · exact decB_valL_id k k (Nat.le_refl _)
theorem fmtL_len (n k : Nat) (h : k < 10 ^ n) (hn : 0 < n) : (fmtL k).length ≤ n := by
  unfold fmtL
  split
  · simp only [List.length_cons, List.length_nil]; omega
  · exact decB_len n k h
theorem parseU_fmtL (k : Nat) (h : k ≤ 1000000000) : parseU (bts (fmtL k)) = some k := by
  have hd : (fmtL k).all dig = true := by
    rw [List.all_eq_true]
    intro c hc
    exact dig_iff.2 (fmtL_dig k c hc)
  have hl : (bts (fmtL k)).data.toList = fmtL k := by simp [bts]
  have hv : valN (bts (fmtL k)) (bts (fmtL k)).size = k := by rw [valN_all, hl, valL_fmtL]
  have hsz := bts_size (fmtL k)
  have hlen := fmtL_len 10 k (by omega) (by omega)
  have hne := fmtL_ne k
  have h1 := fmtL_valL (fmtL k) hd
  rw [valL_fmtL] at h1
  have h2 := h1.1 rfl
  unfold parseU
  rw [if_pos, hv]
  refine ⟨fun e => hne (List.eq_nil_of_length_eq_zero (by omega)), by omega, fun ⟨a, b⟩ => h2.2 ⟨by omega, ?_⟩, by rw [hl]; exact hd, by rw [hv]; exact h⟩
  have := head_get (bts (fmtL k)) (by omega)
  rw [hl, b] at this
  exact this
theorem frTxt_no59 {f : Frame} (h : frOk f = true) : (59 : UInt8) ∉ frTxt f := by
  intro hc
  obtain ⟨h1, _⟩ := frOk_iff.1 h
  unfold frTxt at hc
  rcases List.mem_append.1 hc with hc | hc
  · have := (nameOk_letters h1).1 _ hc
    have e : (59 : UInt8).toNat = 59 := rfl
    omega
  · rcases List.mem_cons.1 hc with hc | hc
    · exact absurd hc (by decide)
    · have := fmtL_dig _ _ hc
      have e : (59 : UInt8).toNat = 59 := rfl
      omega
theorem partF_txt {f : Frame} (h : frOk f = true) : partF (frTxt f) = some f := by
  obtain ⟨h1, h2, h3⟩ := frOk_iff.1 h
  have hn : (58 : UInt8) ∉ f.name.data.toList := fun hc => by
    have := (nameOk_letters h1).1 _ hc
    have e : (58 : UInt8).toNat = 58 := rfl
    omega
  have hd : (58 : UInt8) ∉ fmtL f.line.toNat := fun hc => by
    have := fmtL_dig _ _ hc
    have e : (58 : UInt8).toNat = 58 := rfl
    omega
  unfold partF frTxt
  rw [cutL_app 58 _ hn, cutL_plain 58 hd]
  simp only
  rw [parseU_fmtL _ (by omega), bts_list]
  obtain ⟨name, line⟩ := f
  simp only at h2 ⊢
  rw [Option.map_some]
  congr 2
  omega
theorem mapM_partF : ∀ {L : List Frame}, L.all frOk = true → (L.map frTxt).mapM partF = some L
  | [], _ => rfl
  | f :: L, h => by
    simp only [List.all_cons, Bool.and_eq_true] at h
    simp [partF_txt h.1, mapM_partF h.2]
theorem frTxt_len {f : Frame} (h : frOk f = true) : 3 ≤ (frTxt f).length ∧ (frTxt f).length ≤ 11 := by
  obtain ⟨h1, h2, h3⟩ := frOk_iff.1 h
  have hn := nameOk_letters h1
  have hl := fmtL_len 2 f.line.toNat (by omega) (by omega)
  have hp := List.length_pos_iff.2 (fmtL_ne f.line.toNat)
  unfold frTxt
  have : f.name.data.toList.length = f.name.size := by simp
  simp only [List.length_append, List.length_cons]
  omega
theorem joinL_len : ∀ (L : List (List UInt8)) (n : Nat), (∀ x ∈ L, x.length ≤ n) → (joinL 59 L).length ≤ (n + 1) * L.length
  | [], n, _ => by simp [joinL]
  | [x], n, h => by have := h x (by simp); simp only [joinL, List.length_cons, List.length_nil]; omega
  | x :: y :: l, n, h => by
    have ih := joinL_len (y :: l) n fun z hz => h z (List.mem_cons_of_mem _ hz)
    have := h x (by simp)
    simp only [joinL, List.length_append, List.length_cons] at ih ⊢
    have e : (n + 1) * (l.length + 1 + 1) = (n + 1) * (l.length + 1) + (n + 1) := by rw [Nat.mul_add]; omega
    omega
theorem fmtF_size (L : List Frame) : (fmtF L).size ≤ 12 * L.length := by
  unfold fmtF
  split
  · rename_i h
    rw [bts_size]
    have := joinL_len (L.map frTxt) 11 (fun x hx => by
      obtain ⟨f, hf, rfl⟩ := List.mem_map.1 hx
      exact (frTxt_len (List.all_eq_true.1 h f hf)).2)
    simpa using this
  · simp [ByteArray.size]
theorem fmtF_ne {L : List Frame} (h : L.all frOk = true) (hne : L ≠ []) : (fmtF L).size ≠ 0 := by
  unfold fmtF
  rw [if_pos h, bts_size]
  match L, hne with
  | [f], _ =>
    have := (frTxt_len (f := f) (by simpa using h)).1
    simp only [List.map_cons, List.map_nil, joinL]; omega
  | f :: g :: l, _ => simp [joinL]
theorem parseF_fmtF {L : List Frame} (h : L.all frOk = true) (hne : L ≠ []) : parseF (fmtF L) = some L := by
  have e : fmtF L = bts (joinL 59 (L.map frTxt)) := by unfold fmtF; rw [if_pos h]
  have hl : (fmtF L).data.toList = joinL 59 (L.map frTxt) := by rw [e]; simp [bts]
  unfold parseF
  rw [hl, cutL_join 59 (by simpa using hne) (fun x hx => by
    obtain ⟨f, hf, rfl⟩ := List.mem_map.1 hx
    exact frTxt_no59 (List.all_eq_true.1 h f hf)), mapM_partF h]
  simp only
  rw [if_pos ⟨fmtF_ne h hne, by first | rfl | trivial⟩]
theorem parseF_some {s : ByteArray} {L : List Frame} (h : parseF s = some L) : fmtF L = s ∧ L ≠ [] ∧ L.all frOk = true := by
  unfold parseF at h
  split at h
  · rename_i M hM
    split at h
    · rename_i h2
      cases h
      refine ⟨h2.2, fun e => ?_, ?_⟩
      · subst e
        have := h2.2
        simp only [fmtF, List.all_nil, List.map_nil, joinL, if_true] at this
        exact h2.1 (by rw [← this]; rfl)
      · by_cases ha : L.all frOk = true
        · exact ha
        · have := h2.2
          unfold fmtF at this
          rw [if_neg ha] at this
          exact absurd (by rw [← this]; rfl) h2.1
    · cases h
  · cases h
theorem fmtF_inj {L M : List Frame} (hL : L.all frOk = true) (hM : M.all frOk = true) (hl : L ≠ []) (hm : M ≠ []) (h : fmtF L = fmtF M) : L = M := by
  have h1 := parseF_fmtF hL hl
  rw [h, parseF_fmtF hM hm] at h1
  exact (Option.some.inj h1).symm
end Go.Proofs.YtdhkhapbldkkdaaGreatDoor

namespace Go.Proofs.YtdhkhapbldkkdaaGreatDoor
def szA (n : Nat) (l : Int) : Int := if l - n < 0 then -1 else l - n
def szL : List (Int → Int) → Int → Int
  | [], l => l
  | f :: fs, l => if f l < 0 then -1 else szL fs (f l)
theorem szL_drop (F : List (Int → Int)) (k : Nat) (l : Int) (h : k < F.length) : szL (F.drop k) l = if F[k] l < 0 then -1 else szL (F.drop (k + 1)) (F[k] l) := by
  rw [List.drop_eq_getElem_cons h]; rfl
def szList (F : List (Int → Int)) (l : Int) : Int := if l - F.length < 0 then -1 else szL F (l - F.length)
def Szf (f : Int → Int) : Prop := ∀ l, 0 ≤ l → -1 ≤ f l ∧ f l ≤ l
theorem szA_f (n : Nat) : Szf (szA n) := fun l h => by unfold szA; split <;> omega
theorem szL_f : ∀ (F : List (Int → Int)), (∀ f ∈ F, Szf f) → Szf (szL F)
  | [], _, l, h => by unfold szL; omega
  | f :: fs, hF, l, h => by
    have h1 := hF f List.mem_cons_self l h
    unfold szL
    split
    · omega
    · have := szL_f fs (fun g hg => hF g (List.mem_cons_of_mem _ hg)) (f l) (by omega)
      omega
theorem szList_f (F : List (Int → Int)) (hF : ∀ f ∈ F, Szf f) : Szf (szList F) := fun l h => by
  unfold szList
  split
  · omega
  · have := szL_f F hF (l - F.length) (by omega)
    omega
theorem szL_ok : ∀ (F : List (Int → Int)) (l : Int), (∀ f ∈ F, Szf f) → 0 ≤ l → 0 ≤ szL F l → ∀ f ∈ F, ∃ r, 0 ≤ r ∧ r ≤ l ∧ 0 ≤ f r
  | [], l, _, _, _ => by simp
  | g :: fs, l, hF, h0, h => by
    have h1 := hF g List.mem_cons_self l h0
    unfold szL at h
    split at h
    · omega
    · rename_i hg
      intro f hf
      rcases List.mem_cons.1 hf with rfl | hf
      · exact ⟨l, h0, by omega, by omega⟩
      · obtain ⟨r, a, b, c⟩ := szL_ok fs (g l) (fun g hg => hF g (List.mem_cons_of_mem _ hg)) (by omega) h f hf
        exact ⟨r, a, by omega, c⟩
theorem szList_ok {F : List (Int → Int)} {l : Int} (hF : ∀ f ∈ F, Szf f) (h : 0 ≤ szList F l) : F.length ≤ l ∧ ∀ f ∈ F, ∃ r, 0 ≤ r ∧ r ≤ l ∧ 0 ≤ f r := by
  unfold szList at h
  split at h
  · omega
  · refine ⟨by omega, fun f hf => ?_⟩
    obtain ⟨r, a, b, c⟩ := szL_ok F (l - F.length) hF (by omega) h f hf
    exact ⟨r, a, by omega, c⟩
def szT (f g : Int → Int) (l : Int) : Int := if f l < 0 then -1 else g (f l)
theorem szT_f {f g : Int → Int} (hf : Szf f) (hg : Szf g) : Szf (szT f g) := fun l h => by
  have h1 := hf l h
  unfold szT
  split
  · omega
  · have := hg (f l) (by omega); omega
theorem szT_ok {f g : Int → Int} (hf : Szf f) {l : Int} (h0 : 0 ≤ l) (h : 0 ≤ szT f g l) : 0 ≤ f l ∧ f l ≤ l ∧ 0 ≤ g (f l) := by
  have h1 := hf l h0
  unfold szT at h
  split at h <;> omega
theorem szGo_f : ∀ (L : List Nat), Szf (szGo L)
  | [], l, h => by unfold szGo; omega
  | n :: L, l, h => by
    unfold szGo
    split
    · omega
    · have := szGo_f L (l - n) (by omega); omega
end Go.Proofs.YtdhkhapbldkkdaaGreatDoor

namespace Go.Proofs.YtdhkhapbldkkdaaGreatDoor
open Go.Vc
attribute [local go_sem] St.runR St.runW St.stepV offV St.step St.stepU St.stepG mkCond guardB St.prK St.pr St.prLen St.eff St.callE St.callD St.callF St.callL aI aS aR aC St.isM St.argL Ctr.pure Ctr.lend Ctr.move Ctr.isL Ctr.wri pur len lentBy St.lentV St.lent1 nthS argsR restOf obsR pairs swapL unObs backL St.resL erL SV.ren1 SV.up SV.up2 Ob.up St.fzL cellIds partIds St.intoRow SV.ownId St.fz SV.fz1 St.prep St.mvL St.mv SV.re1 rnOk St.prEq vals eqCells scEq Value.kd St.prStr St.prCut cutR St.bnd St.prMin St.bld isShift outL retL outJ oR SV.upq SV.isSl SV.shut St.deepK St.dpArg St.deepQ absC Ob.pl St.ev St.get St.put St.new St.kill SV.kill SV.kill1 Ob.kill St.app St.wrt St.rowsOf St.res St.killL lk er argsL SV.strip SV.need SV.share SV.share1 SV.owns SV.owns1 SV.owns2 SV.good SV.good1 SV.rok SV.rok1 SV.rok2 SV.isV SV.isV2 nodupN SV.cells SV.one SV.pur Ob.pb partsIn rowsIn splice cellsAt dstOk scal2 scal1 thenK blockK retK outK outs okC okL okA okT nilC nilL nilA nilT keepC keepL keepA keepT St.runG St.dltK St.least St.clean St.final St.hide offK badS badO SV.refs SV.leaf SV.leaf2 Ob.refs dlOk fpAt Go.Vc.cover tups SV.ofAgg St.out outC subL St.has rng wr Value.oneCell' Option.isSome_some Option.isSome_none List.nil_append Bool.false_eq_true List.map_cons List.map_nil List.all_cons List.all_nil List.length_cons List.length_nil List.drop_zero List.drop_succ_cons List.take_succ_cons List.take_zero List.drop_nil List.take_nil List.getElem?_cons_zero List.getElem?_cons_succ List.getElem?_nil List.cons_append List.nil_append List.append_nil List.append_assoc List.flatMap_cons List.flatMap_nil List.contains_cons List.contains_nil List.set_cons_zero List.set_cons_succ List.getElem?_toArray Option.getD_some Option.getD_none Option.map_some Option.map_none Option.bind_some Option.some.injEq Prod.mk.injEq if_true if_false true_and and_true and_self and_false false_and Bool.and_false Bool.false_and Bool.or_true Bool.true_or Bool.or_false Bool.false_or ne_eq not_true_eq_false not_false_eq_true decide_true decide_false List.mem_cons List.not_mem_nil List.filter_cons List.filter_nil List.any_cons List.any_nil List.isEmpty_nil List.isEmpty_cons Option.getD_none or_false false_or true_or or_true forall_eq_or_imp forall_eq reduceCtorEq exists_eq exists_eq' exists_eq_left' exists_eq_left exists_eq_right exists_eq_right' imp_self implies_true Bool.and_true Bool.true_and Bool.and_self beq_self_eq_true List.replicate_succ List.replicate_zero forall_const false_implies pickB_or pickB_and beqT beqF Int.toNat_natCast List.length_map List.length_replicate ge_iff_le gt_iff_lt decide_eq_true_eq decide_eq_false_iff_not Bool.and_eq_true Bool.or_eq_true Bool.not_eq_true' Bool.not_eq_false' condG List.toList_toArray Bool.or_eq_false_iff Bool.and_eq_false_iff Int.not_lt Int.not_le beq_iff_eq beq_eq_false_iff_ne bne_iff_ne bne_eq_false_iff_eq ne_eq Bool.not_true Bool.not_false exists_and_left Nat.reduceAdd Nat.reduceLT Nat.reduceLeDiff Nat.reduceEqDiff Nat.reduceMul Nat.reduceSub Nat.reduceGT reduceIte Int.reduceNeg Int.reduceToNat
section
open Go.Vc
set_option linter.unusedSimpArgs false
set_option linter.unusedVariables false
set_option maxHeartbeats 1000000
set_option maxRecDepth 10000
attribute [local irreducible] Go.Vc.WP
attribute [local go_sem] cx0_t cx0_c
def keqS : Ctr := pur (fun args => (decS (aR args 0), decS (aR args 1))) (fun x => [.sl 1 (x.1.map encS), .sl 1 (x.2.map encS)]) (fun x => x.1.length ≤ 4398046511104) (fun _ x => .v (.bool (decide (x.1 = x.2)))) (fun _ _ => [])
theorem ceqS : Cn Tryz.prog 78 keqS := by
  refine Cn.pur Tryz.func78 (by kernel_rfl) rfl fun d x hx => ?_
  obtain ⟨L, M⟩ := x
  simp only at hx ⊢
  refine Holds.go (c := cx0) Tryz.func78 rfl Tryz.results78 Tryz.ntmps78 (by omega) (by simp) rfl ?_
  intro X0 w0
  (repeat' (first | refine WP.seq ?_ | refine WP.block ?_ | ((first | refine WP.region ?_ | refine WP.condW ?_ | refine WP.ret ?_ | refine WP.exit ?_ | refine WP.skip ?_); simp only [go_sem, tyAll]) | ((first | refine WP.drawW 9 (by decide +kernel) (by kernel_rfl) ?_); simp only [go_sem, tyAll]) |  refine And.intro ?_ ?_ | intro _))
  · simp; intro h; subst h; simp_all
  have hlen : L.length = M.length := by omega
  refine WP.loop (fun k : Nat => ⟨[(0, .sl 1 (L.map encS)), (1, .sl 1 (M.map encS)), (5, .v (.int .i64 k))], []⟩) (fun k => k ≤ L.length ∧ L.take k = M.take k) (fun k => L.length - k) 0 (by simp) ?_ ?_
  · (simp only [go_sem, tyAll] <;> (first | rfl | exact ⟨rfl, rfl⟩ | exact ⟨rfl, rfl, rfl⟩ | exact ⟨rfl, rfl, rfl, rfl⟩ | exact ⟨rfl, rfl, rfl, rfl, rfl⟩ | exact ⟨⟨rfl, rfl⟩, rfl⟩ | simp))
  intro k ⟨hk, ht⟩
  by_cases hlt : k < L.length
  · have h1 := rowAt_map encS L k hlt
    have h2 := rowAt_map encS M k (by omega)
    (repeat' (first | refine WP.seq ?_ | refine WP.block ?_ | ((first | refine WP.region ?_ | refine WP.condW ?_ | refine WP.ret ?_ | refine WP.exit ?_ | refine WP.skip ?_); simp only [go_sem, h1, h2, encS, tyAll]) | ((first | refine WP.drawW 9 (by decide +kernel) (by kernel_rfl) ?_); simp only [go_sem, h1, h2, encS, tyAll]) |  refine And.intro ?_ ?_ | intro _))
    all_goals first | omega | skip
    · rename_i hne
      rw [show decide (L = M) = false from decide_eq_false fun e => by subst e; exact hne rfl]
    · rename_i he
      refine ⟨k + 1, ⟨by omega, ?_⟩, by omega, rfl⟩
      rw [List.take_succ_eq_append_getElem hlt, List.take_succ_eq_append_getElem (by omega : k < M.length), ht, he]
  · (repeat' (first | refine WP.seq ?_ | refine WP.block ?_ | ((first | refine WP.region ?_ | refine WP.condW ?_ | refine WP.ret ?_ | refine WP.exit ?_ | refine WP.skip ?_); simp only [go_sem, tyAll]) | ((first | refine WP.drawW 9 (by decide +kernel) (by kernel_rfl) ?_); simp only [go_sem, tyAll]) |  refine And.intro ?_ ?_ | intro _))
    all_goals first | omega | skip
    rw [show decide (L = M) = true from decide_eq_true ?_]
    rw [show k = L.length by omega, List.take_length, hlen, List.take_length] at ht
    exact ht
section
end
end
end Go.Proofs.YtdhkhapbldkkdaaGreatDoor
