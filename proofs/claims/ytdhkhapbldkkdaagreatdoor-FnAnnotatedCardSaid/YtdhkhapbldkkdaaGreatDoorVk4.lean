/-
  DERIVED. Several texts of ours in one: VtA, VtI, VtX, VtMk, VtNumP, VtPU, VtName, VcR, VgFrame, VgNode, VpOrd, VpFmt, VpProf, VgEntry, VpEnt, VpKeep, VpNbr, VpBag, VpFrom, VpHide, VpDraw, VcRo.
-/
import Derived.Test.YtdhkhapbldkkdaaGreatDoorVk0
import Derived.Test.YtdhkhapbldkkdaaGreatDoorVk1
import Derived.Test.YtdhkhapbldkkdaaGreatDoorVk2
import Derived.Test.YtdhkhapbldkkdaaGreatDoorVk3
import Derived.Test.YtdhkhapbldkkdaaGreatDoorProg
import Derived.KernelRfl
import Derived.ProofKit
import Derived.OpenShut
import Derived.Below
import Derived.ChangeSame
import Derived.Carry
import Derived.Deep.Slices
import Derived.Deep.Fields
import Derived.Laws.Strings
set_option linter.unusedSimpArgs false
set_option linter.unusedVariables false
set_option maxHeartbeats 1000000
set_option maxRecDepth 10000
namespace Go.Proofs.YtdhkhapbldkkdaaGreatDoor
open Go.Vc
def td2 : TyD := { kind := 4, size := 1, bytes := 8, z := [.int .i64 0], ik := some .i64 } -- int64
def td3 : TyD := { kind := 4, size := 1, bytes := 8, z := [.int .i64 0], ik := some .i64 } -- int
def td4 : TyD := { kind := 5, size := 1, bytes := 1, z := [.bool false] } -- bool
def td5 : TyD := { kind := 4, size := 1, bytes := 1, z := [.int .u8 0], ik := some .u8 } -- uint8
def td9 : TyD := { kind := 2, size := 1, bytes := 16, z := [.string ⟨#[]⟩] } -- string
def td12 : TyD := { kind := 4, size := 1, bytes := 8, z := [.int .u64 0], ik := some .u64 } -- uintptr
def td21 : TyD := { kind := 4, size := 1, bytes := 4, z := [.int .i32 0], ik := some .i32 } -- int32
def td22 : TyD := { kind := 1, size := 1, bytes := 24, z := [.slice none 0 0], elem := 60 } -- []laws.Line
def td23 : TyD := { kind := 1, size := 1, bytes := 24, z := [.slice none 0 0], elem := 149 } -- []laws.Node
def td25 : TyD := { kind := 3, size := 1, bytes := 24, z := [.slice none 0 0], offs := [(0, 1)] } -- laws.Stacks
def td26 : TyD := { kind := 1, size := 1, bytes := 24, z := [.slice none 0 0], elem := 3 } -- []int
def td28 : TyD := { kind := 3, size := 2, bytes := 48, z := [.slice none 0 0, .slice none 0 0], offs := [(0, 1), (1, 1)] } -- laws.Profile
def td32 : TyD := { kind := 1, size := 1, bytes := 24, z := [.slice none 0 0], elem := 68 } -- []impl.Line
def td34 : TyD := { kind := 1, size := 1, bytes := 24, z := [.slice none 0 0], elem := 151 } -- []impl.Node
def td36 : TyD := { kind := 3, size := 1, bytes := 24, z := [.slice none 0 0], offs := [(0, 1)] } -- impl.Stacks
def td38 : TyD := { kind := 3, size := 2, bytes := 48, z := [.slice none 0 0, .slice none 0 0], offs := [(0, 1), (1, 1)] } -- impl.Profile
def td43 : TyD := { kind := 1, size := 1, bytes := 24, z := [.slice none 0 0], elem := 5 } -- []uint8
def td48 : TyD := { kind := 1, size := 1, bytes := 24, z := [.slice none 0 0], elem := 51 } -- []impl.kAf
def td51 : TyD := { kind := 3, size := 2, bytes := 16, z := [.int .i64 0, .int .i64 0], offs := [(0, 1), (1, 1)], eqs := [4, 4] } -- impl.kAf
def td57 : TyD := { kind := 1, size := 1, bytes := 24, z := [.slice none 0 0], elem := 9 } -- []string
def td58 : TyD := { kind := 1, size := 1, bytes := 24, z := [.slice none 0 0], elem := 145 } -- []laws.Tok
def td60 : TyD := { kind := 3, size := 4, bytes := 72, z := [.int .i64 0, .string ⟨#[]⟩, .slice none 0 0, .slice none 0 0], offs := [(0, 1), (1, 1), (2, 1), (3, 1)] } -- laws.Line
def td66 : TyD := { kind := 1, size := 1, bytes := 24, z := [.slice none 0 0], elem := 140 } -- []impl.Tok
def td68 : TyD := { kind := 3, size := 4, bytes := 72, z := [.int .i64 0, .string ⟨#[]⟩, .slice none 0 0, .slice none 0 0], offs := [(0, 1), (1, 1), (2, 1), (3, 1)] } -- impl.Line
def td76 : TyD := { kind := 0, size := 1, bytes := 8, z := [.pointer none] } -- *spec.l01Cur
def td80 : TyD := { kind := 1, size := 1, bytes := 24, z := [.slice none 0 0], elem := 83 } -- []impl.Entry
def td83 : TyD := { kind := 3, size := 2, bytes := 24, z := [.string ⟨#[]⟩, .int .i64 0], offs := [(0, 1), (1, 1)], eqs := [2, 4] } -- impl.Entry
def td84 : TyD := { kind := 1, size := 1, bytes := 24, z := [.slice none 0 0], elem := 89 } -- []impl.Frame
def td89 : TyD := { kind := 3, size := 2, bytes := 24, z := [.string ⟨#[]⟩, .int .i64 0], offs := [(0, 1), (1, 1)], eqs := [2, 4] } -- impl.Frame
def td119 : TyD := { kind := 3, size := 4, bytes := 80, z := [.pointer none, .slice none 0 0, .slice none 0 0, .slice none 0 0], offs := [(0, 1), (1, 1), (2, 1), (3, 1)] } -- spec.l03Gen
def td124 : TyD := { kind := 3, size := 3, bytes := 40, z := [.slice none 0 0, .int .i64 0, .int .i64 0], offs := [(0, 1), (1, 1), (2, 1)] } -- spec.l01Cur
def td140 : TyD := { kind := 3, size := 3, bytes := 32, z := [.int .i64 0, .int .i64 0, .string ⟨#[]⟩], offs := [(0, 1), (1, 1), (2, 1)], eqs := [4, 4, 2] } -- impl.Tok
def td145 : TyD := { kind := 3, size := 3, bytes := 32, z := [.int .i64 0, .int .i64 0, .string ⟨#[]⟩], offs := [(0, 1), (1, 1), (2, 1)], eqs := [4, 4, 2] } -- laws.Tok
def td147 : TyD := { kind := 3, size := 2, bytes := 24, z := [.string ⟨#[]⟩, .int .i64 0], offs := [(0, 1), (1, 1)], eqs := [2, 4] } -- laws.Frame
def td149 : TyD := { kind := 3, size := 3, bytes := 32, z := [.int .i64 0, .string ⟨#[]⟩, .int .i64 0], offs := [(0, 1), (1, 2)], eqs := [4, 2, 4] } -- laws.Node
def td151 : TyD := { kind := 3, size := 3, bytes := 32, z := [.int .i64 0, .string ⟨#[]⟩, .int .i64 0], offs := [(0, 1), (1, 2)], eqs := [4, 2, 4] } -- impl.Node
def td161 : TyD := { kind := 3, size := 2, bytes := 32, z := [.pointer none, .slice none 0 0], offs := [(0, 1), (1, 1)] } -- strings.Builder
def td177 : TyD := { kind := 4, size := 1, bytes := 8, z := [.int .u64 0], ik := some .u64 } -- uint
def td192 : TyD := { kind := 4, size := 1, bytes := 8, z := [.int .i64 0], ik := some .i64 } -- slices.sortedHint
def td199 : TyD := { kind := 4, size := 1, bytes := 4, z := [.int .u32 0], ik := some .u32 } -- uint32
def td201 : TyD := { kind := 4, size := 1, bytes := 8, z := [.int .u64 0], ik := some .u64 } -- uint64
def td213 : TyD := { kind := 4, size := 1, bytes := 8, z := [.int .u64 0], ik := some .u64 } -- slices.xorshift
def td232 : TyD := { kind := 3, size := 2, bytes := 2, z := [.int .u8 0, .int .u8 0], offs := [(0, 1), (1, 1)], eqs := [4, 4] } -- utf8.acceptRange
def tys : List (Nat × TyD) := [(2, td2), (3, td3), (4, td4), (5, td5), (9, td9), (12, td12), (21, td21), (22, td22), (23, td23), (25, td25), (26, td26), (28, td28), (32, td32), (34, td34), (36, td36), (38, td38), (43, td43), (48, td48), (51, td51), (57, td57), (58, td58), (60, td60), (66, td66), (68, td68), (76, td76), (80, td80), (83, td83), (84, td84), (89, td89), (119, td119), (124, td124), (140, td140), (145, td145), (147, td147), (149, td149), (151, td151), (161, td161), (177, td177), (192, td192), (199, td199), (201, td201), (213, td213), (232, td232)]
theorem tok2 : TyOk Tryz.prog 2 td2 := ⟨by kernel_rfl, by show _ = _; kernel_rfl, by decide, .inl rfl⟩
theorem tok3 : TyOk Tryz.prog 3 td3 := ⟨by kernel_rfl, by show _ = _; kernel_rfl, by decide, .inl rfl⟩
theorem tok4 : TyOk Tryz.prog 4 td4 := ⟨by kernel_rfl, by show _ = _; kernel_rfl, by decide, .inl rfl⟩
theorem tok5 : TyOk Tryz.prog 5 td5 := ⟨by kernel_rfl, by show _ = _; kernel_rfl, by decide, .inl rfl⟩
theorem tok9 : TyOk Tryz.prog 9 td9 := ⟨by kernel_rfl, by show _ = _; kernel_rfl, by decide, .inl rfl⟩
theorem tok12 : TyOk Tryz.prog 12 td12 := ⟨by kernel_rfl, by show _ = _; kernel_rfl, by decide, .inl rfl⟩
theorem tok21 : TyOk Tryz.prog 21 td21 := ⟨by kernel_rfl, by show _ = _; kernel_rfl, by decide, .inl rfl⟩
theorem tok22 : TyOk Tryz.prog 22 td22 := ⟨by kernel_rfl, by show _ = _; kernel_rfl, by decide, .inl rfl⟩
theorem tok23 : TyOk Tryz.prog 23 td23 := ⟨by kernel_rfl, by show _ = _; kernel_rfl, by decide, .inl rfl⟩
theorem tok25 : TyOk Tryz.prog 25 td25 := ⟨by kernel_rfl, by show _ = _; kernel_rfl, by decide, .inl rfl⟩
theorem tok26 : TyOk Tryz.prog 26 td26 := ⟨by kernel_rfl, by show _ = _; kernel_rfl, by decide, .inl rfl⟩
theorem tok28 : TyOk Tryz.prog 28 td28 := ⟨by kernel_rfl, by show _ = _; kernel_rfl, by decide, .inl rfl⟩
theorem tok32 : TyOk Tryz.prog 32 td32 := ⟨by kernel_rfl, by show _ = _; kernel_rfl, by decide, .inl rfl⟩
theorem tok34 : TyOk Tryz.prog 34 td34 := ⟨by kernel_rfl, by show _ = _; kernel_rfl, by decide, .inl rfl⟩
theorem tok36 : TyOk Tryz.prog 36 td36 := ⟨by kernel_rfl, by show _ = _; kernel_rfl, by decide, .inl rfl⟩
theorem tok38 : TyOk Tryz.prog 38 td38 := ⟨by kernel_rfl, by show _ = _; kernel_rfl, by decide, .inl rfl⟩
theorem tok43 : TyOk Tryz.prog 43 td43 := ⟨by kernel_rfl, by show _ = _; kernel_rfl, by decide, .inl rfl⟩
theorem tok48 : TyOk Tryz.prog 48 td48 := ⟨by kernel_rfl, by show _ = _; kernel_rfl, by decide, .inl rfl⟩
theorem tok51 : TyOk Tryz.prog 51 td51 := ⟨by kernel_rfl, by show _ = _; kernel_rfl, by decide, .inr ⟨by kernel_rfl, by kernel_rfl, rfl⟩⟩
theorem tok57 : TyOk Tryz.prog 57 td57 := ⟨by kernel_rfl, by show _ = _; kernel_rfl, by decide, .inl rfl⟩
theorem tok58 : TyOk Tryz.prog 58 td58 := ⟨by kernel_rfl, by show _ = _; kernel_rfl, by decide, .inl rfl⟩
theorem tok60 : TyOk Tryz.prog 60 td60 := ⟨by kernel_rfl, by show _ = _; kernel_rfl, by decide, .inl rfl⟩
theorem tok66 : TyOk Tryz.prog 66 td66 := ⟨by kernel_rfl, by show _ = _; kernel_rfl, by decide, .inl rfl⟩
theorem tok68 : TyOk Tryz.prog 68 td68 := ⟨by kernel_rfl, by show _ = _; kernel_rfl, by decide, .inl rfl⟩
theorem tok76 : TyOk Tryz.prog 76 td76 := ⟨by kernel_rfl, by show _ = _; kernel_rfl, by decide, .inl rfl⟩
theorem tok80 : TyOk Tryz.prog 80 td80 := ⟨by kernel_rfl, by show _ = _; kernel_rfl, by decide, .inl rfl⟩
theorem tok83 : TyOk Tryz.prog 83 td83 := ⟨by kernel_rfl, by show _ = _; kernel_rfl, by decide, .inr ⟨by kernel_rfl, by kernel_rfl, rfl⟩⟩
theorem tok84 : TyOk Tryz.prog 84 td84 := ⟨by kernel_rfl, by show _ = _; kernel_rfl, by decide, .inl rfl⟩
theorem tok89 : TyOk Tryz.prog 89 td89 := ⟨by kernel_rfl, by show _ = _; kernel_rfl, by decide, .inr ⟨by kernel_rfl, by kernel_rfl, rfl⟩⟩
theorem tok119 : TyOk Tryz.prog 119 td119 := ⟨by kernel_rfl, by show _ = _; kernel_rfl, by decide, .inl rfl⟩
theorem tok124 : TyOk Tryz.prog 124 td124 := ⟨by kernel_rfl, by show _ = _; kernel_rfl, by decide, .inl rfl⟩
theorem tok140 : TyOk Tryz.prog 140 td140 := ⟨by kernel_rfl, by show _ = _; kernel_rfl, by decide, .inr ⟨by kernel_rfl, by kernel_rfl, rfl⟩⟩
theorem tok145 : TyOk Tryz.prog 145 td145 := ⟨by kernel_rfl, by show _ = _; kernel_rfl, by decide, .inr ⟨by kernel_rfl, by kernel_rfl, rfl⟩⟩
theorem tok147 : TyOk Tryz.prog 147 td147 := ⟨by kernel_rfl, by show _ = _; kernel_rfl, by decide, .inr ⟨by kernel_rfl, by kernel_rfl, rfl⟩⟩
theorem tok149 : TyOk Tryz.prog 149 td149 := ⟨by kernel_rfl, by show _ = _; kernel_rfl, by decide, .inr ⟨by kernel_rfl, by kernel_rfl, rfl⟩⟩
theorem tok151 : TyOk Tryz.prog 151 td151 := ⟨by kernel_rfl, by show _ = _; kernel_rfl, by decide, .inr ⟨by kernel_rfl, by kernel_rfl, rfl⟩⟩
theorem tok161 : TyOk Tryz.prog 161 td161 := ⟨by kernel_rfl, by show _ = _; kernel_rfl, by decide, .inl rfl⟩
theorem tok177 : TyOk Tryz.prog 177 td177 := ⟨by kernel_rfl, by show _ = _; kernel_rfl, by decide, .inl rfl⟩
theorem tok192 : TyOk Tryz.prog 192 td192 := ⟨by kernel_rfl, by show _ = _; kernel_rfl, by decide, .inl rfl⟩
theorem tok199 : TyOk Tryz.prog 199 td199 := ⟨by kernel_rfl, by show _ = _; kernel_rfl, by decide, .inl rfl⟩
theorem tok201 : TyOk Tryz.prog 201 td201 := ⟨by kernel_rfl, by show _ = _; kernel_rfl, by decide, .inl rfl⟩
theorem tok213 : TyOk Tryz.prog 213 td213 := ⟨by kernel_rfl, by show _ = _; kernel_rfl, by decide, .inl rfl⟩
theorem tok232 : TyOk Tryz.prog 232 td232 := ⟨by kernel_rfl, by show _ = _; kernel_rfl, by decide, .inr ⟨by kernel_rfl, by kernel_rfl, rfl⟩⟩
theorem kAp : ∀ T d, lk T tys = some d → TyOk Tryz.prog T d := fun T d h => by
 have hm := kBs h
 simp only [tys, List.mem_cons, Prod.mk.injEq, List.not_mem_nil, or_false] at hm
 rcases hm with ⟨rfl, rfl⟩ | ⟨rfl, rfl⟩ | ⟨rfl, rfl⟩ | ⟨rfl, rfl⟩ | ⟨rfl, rfl⟩ | ⟨rfl, rfl⟩ | ⟨rfl, rfl⟩ | ⟨rfl, rfl⟩ | ⟨rfl, rfl⟩ | ⟨rfl, rfl⟩ | ⟨rfl, rfl⟩ | ⟨rfl, rfl⟩ | ⟨rfl, rfl⟩ | ⟨rfl, rfl⟩ | ⟨rfl, rfl⟩ | ⟨rfl, rfl⟩ | ⟨rfl, rfl⟩ | ⟨rfl, rfl⟩ | ⟨rfl, rfl⟩ | ⟨rfl, rfl⟩ | ⟨rfl, rfl⟩ | ⟨rfl, rfl⟩ | ⟨rfl, rfl⟩ | ⟨rfl, rfl⟩ | ⟨rfl, rfl⟩ | ⟨rfl, rfl⟩ | ⟨rfl, rfl⟩ | ⟨rfl, rfl⟩ | ⟨rfl, rfl⟩ | ⟨rfl, rfl⟩ | ⟨rfl, rfl⟩ | ⟨rfl, rfl⟩ | ⟨rfl, rfl⟩ | ⟨rfl, rfl⟩ | ⟨rfl, rfl⟩ | ⟨rfl, rfl⟩ | ⟨rfl, rfl⟩ | ⟨rfl, rfl⟩ | ⟨rfl, rfl⟩ | ⟨rfl, rfl⟩ | ⟨rfl, rfl⟩ | ⟨rfl, rfl⟩ | ⟨rfl, rfl⟩
 ·exact tok2
 ·exact tok3
 ·exact tok4
 ·exact tok5
 ·exact tok9
 ·exact tok12
 ·exact tok21
 ·exact tok22
 ·exact tok23
 ·exact tok25
 ·exact tok26
 ·exact tok28
 ·exact tok32
 ·exact tok34
 ·exact tok36
 ·exact tok38
 ·exact tok43
 ·exact tok48
 ·exact tok51
 ·exact tok57
 ·exact tok58
 ·exact tok60
 ·exact tok66
 ·exact tok68
 ·exact tok76
 ·exact tok80
 ·exact tok83
 ·exact tok84
 ·exact tok89
 ·exact tok119
 ·exact tok124
 ·exact tok140
 ·exact tok145
 ·exact tok147
 ·exact tok149
 ·exact tok151
 ·exact tok161
 ·exact tok177
 ·exact tok192
 ·exact tok199
 ·exact tok201
 ·exact tok213
 ·exact tok232
theorem tyAll : lk 2 tys = some { kind := 4, size := 1, bytes := 8, z := [.int .i64 0], ik := some .i64 } ∧ lk 3 tys = some { kind := 4, size := 1, bytes := 8, z := [.int .i64 0], ik := some .i64 } ∧ lk 4 tys = some { kind := 5, size := 1, bytes := 1, z := [.bool false] } ∧ lk 5 tys = some { kind := 4, size := 1, bytes := 1, z := [.int .u8 0], ik := some .u8 } ∧ lk 9 tys = some { kind := 2, size := 1, bytes := 16, z := [.string ⟨#[]⟩] } ∧ lk 12 tys = some { kind := 4, size := 1, bytes := 8, z := [.int .u64 0], ik := some .u64 } ∧ lk 21 tys = some { kind := 4, size := 1, bytes := 4, z := [.int .i32 0], ik := some .i32 } ∧ lk 22 tys = some { kind := 1, size := 1, bytes := 24, z := [.slice none 0 0], elem := 60 } ∧ lk 23 tys = some { kind := 1, size := 1, bytes := 24, z := [.slice none 0 0], elem := 149 } ∧ lk 25 tys = some { kind := 3, size := 1, bytes := 24, z := [.slice none 0 0], offs := [(0, 1)] } ∧ lk 26 tys = some { kind := 1, size := 1, bytes := 24, z := [.slice none 0 0], elem := 3 } ∧ lk 28 tys = some { kind := 3, size := 2, bytes := 48, z := [.slice none 0 0, .slice none 0 0], offs := [(0, 1), (1, 1)] } ∧ lk 32 tys = some { kind := 1, size := 1, bytes := 24, z := [.slice none 0 0], elem := 68 } ∧ lk 34 tys = some { kind := 1, size := 1, bytes := 24, z := [.slice none 0 0], elem := 151 } ∧ lk 36 tys = some { kind := 3, size := 1, bytes := 24, z := [.slice none 0 0], offs := [(0, 1)] } ∧ lk 38 tys = some { kind := 3, size := 2, bytes := 48, z := [.slice none 0 0, .slice none 0 0], offs := [(0, 1), (1, 1)] } ∧ lk 43 tys = some { kind := 1, size := 1, bytes := 24, z := [.slice none 0 0], elem := 5 } ∧ lk 48 tys = some { kind := 1, size := 1, bytes := 24, z := [.slice none 0 0], elem := 51 } ∧ lk 51 tys = some { kind := 3, size := 2, bytes := 16, z := [.int .i64 0, .int .i64 0], offs := [(0, 1), (1, 1)], eqs := [4, 4] } ∧ lk 57 tys = some { kind := 1, size := 1, bytes := 24, z := [.slice none 0 0], elem := 9 } ∧ lk 58 tys = some { kind := 1, size := 1, bytes := 24, z := [.slice none 0 0], elem := 145 } ∧ lk 60 tys = some { kind := 3, size := 4, bytes := 72, z := [.int .i64 0, .string ⟨#[]⟩, .slice none 0 0, .slice none 0 0], offs := [(0, 1), (1, 1), (2, 1), (3, 1)] } ∧ lk 66 tys = some { kind := 1, size := 1, bytes := 24, z := [.slice none 0 0], elem := 140 } ∧ lk 68 tys = some { kind := 3, size := 4, bytes := 72, z := [.int .i64 0, .string ⟨#[]⟩, .slice none 0 0, .slice none 0 0], offs := [(0, 1), (1, 1), (2, 1), (3, 1)] } ∧ lk 76 tys = some { kind := 0, size := 1, bytes := 8, z := [.pointer none] } ∧ lk 80 tys = some { kind := 1, size := 1, bytes := 24, z := [.slice none 0 0], elem := 83 } ∧ lk 83 tys = some { kind := 3, size := 2, bytes := 24, z := [.string ⟨#[]⟩, .int .i64 0], offs := [(0, 1), (1, 1)], eqs := [2, 4] } ∧ lk 84 tys = some { kind := 1, size := 1, bytes := 24, z := [.slice none 0 0], elem := 89 } ∧ lk 89 tys = some { kind := 3, size := 2, bytes := 24, z := [.string ⟨#[]⟩, .int .i64 0], offs := [(0, 1), (1, 1)], eqs := [2, 4] } ∧ lk 119 tys = some { kind := 3, size := 4, bytes := 80, z := [.pointer none, .slice none 0 0, .slice none 0 0, .slice none 0 0], offs := [(0, 1), (1, 1), (2, 1), (3, 1)] } ∧ lk 124 tys = some { kind := 3, size := 3, bytes := 40, z := [.slice none 0 0, .int .i64 0, .int .i64 0], offs := [(0, 1), (1, 1), (2, 1)] } ∧ lk 140 tys = some { kind := 3, size := 3, bytes := 32, z := [.int .i64 0, .int .i64 0, .string ⟨#[]⟩], offs := [(0, 1), (1, 1), (2, 1)], eqs := [4, 4, 2] } ∧ lk 145 tys = some { kind := 3, size := 3, bytes := 32, z := [.int .i64 0, .int .i64 0, .string ⟨#[]⟩], offs := [(0, 1), (1, 1), (2, 1)], eqs := [4, 4, 2] } ∧ lk 147 tys = some { kind := 3, size := 2, bytes := 24, z := [.string ⟨#[]⟩, .int .i64 0], offs := [(0, 1), (1, 1)], eqs := [2, 4] } ∧ lk 149 tys = some { kind := 3, size := 3, bytes := 32, z := [.int .i64 0, .string ⟨#[]⟩, .int .i64 0], offs := [(0, 1), (1, 2)], eqs := [4, 2, 4] } ∧ lk 151 tys = some { kind := 3, size := 3, bytes := 32, z := [.int .i64 0, .string ⟨#[]⟩, .int .i64 0], offs := [(0, 1), (1, 2)], eqs := [4, 2, 4] } ∧ lk 161 tys = some { kind := 3, size := 2, bytes := 32, z := [.pointer none, .slice none 0 0], offs := [(0, 1), (1, 1)] } ∧ lk 177 tys = some { kind := 4, size := 1, bytes := 8, z := [.int .u64 0], ik := some .u64 } ∧ lk 192 tys = some { kind := 4, size := 1, bytes := 8, z := [.int .i64 0], ik := some .i64 } ∧ lk 199 tys = some { kind := 4, size := 1, bytes := 4, z := [.int .u32 0], ik := some .u32 } ∧ lk 201 tys = some { kind := 4, size := 1, bytes := 8, z := [.int .u64 0], ik := some .u64 } ∧ lk 213 tys = some { kind := 4, size := 1, bytes := 8, z := [.int .u64 0], ik := some .u64 } ∧ lk 232 tys = some { kind := 3, size := 2, bytes := 2, z := [.int .u8 0, .int .u8 0], offs := [(0, 1), (1, 1)], eqs := [4, 4] } := ⟨rfl, rfl, rfl, rfl, rfl, rfl, rfl, rfl, rfl, rfl, rfl, rfl, rfl, rfl, rfl, rfl, rfl, rfl, rfl, rfl, rfl, rfl, rfl, rfl, rfl, rfl, rfl, rfl, rfl, rfl, rfl, rfl, rfl, rfl, rfl, rfl, rfl, rfl, rfl, rfl, rfl, rfl, rfl⟩
attribute [go_sem] tyAll
end Go.Proofs.YtdhkhapbldkkdaaGreatDoor

namespace Go.Proofs.YtdhkhapbldkkdaaGreatDoor
open Go.Vc
attribute [local go_sem] St.runR St.runW St.kGq offV St.step St.kHb St.stepG kB7 kD8 St.prK St.pr St.kH2 St.eff St.kKz St.kGr St.kEy St.kHc aI aS aR aC St.isM St.argL Ctr.pure Ctr.lend Ctr.move Ctr.isL Ctr.wri pur len kA0 St.kI2 St.kF5 nthS kCr kCq obsR pairs kDa kC3 kD5 St.resL erL SV.ren1 SV.up SV.up2 Ob.up St.fzL kGj kFo St.kGk SV.kI3 St.fz SV.fz1 St.prep St.mvL St.mv SV.re1 rnOk St.prEq vals kC4 scEq Value.kd St.kH1 St.kEr cutR St.bnd St.kGp St.bld kGh outL retL outJ oR oC SV.upq SV.isSl SV.shut St.kHa St.kJ6 St.kE7 absC Ob.pl St.ev St.get St.put St.new St.kill SV.kill SV.kBp Ob.kill St.app St.wrt St.rowsOf St.res St.kAt lk er kE8 SV.strip SV.need SV.share SV.share1 SV.owns SV.kBq SV.kCo SV.good SV.good1 SV.rok SV.rok1 SV.rok2 SV.isV SV.isV2 kBr SV.cells SV.one SV.pur Ob.pb kEb kEh splice kDt kAy kGo kI0 kGn kHr retK outK outs okC okL okA okT nilC nilL nilA nilT kE9 kHd keepA kEz St.runG St.dltK St.least St.clean St.final St.hide offK badS badO SV.refs SV.leaf SV.kI4 Ob.refs dlOk fpAt Go.Vc.cover tups SV.kF4 St.out outC subL St.has rng wr Value.oneCell' Option.isSome_some Option.isSome_none List.nil_append Bool.false_eq_true List.map_cons List.map_nil List.all_cons List.all_nil List.length_cons List.length_nil List.drop_zero List.drop_succ_cons List.take_succ_cons List.take_zero List.drop_nil List.take_nil List.getElem?_cons_zero List.getElem?_cons_succ List.getElem?_nil List.cons_append List.nil_append List.append_nil List.append_assoc List.flatMap_cons List.flatMap_nil List.contains_cons List.contains_nil List.set_cons_zero List.set_cons_succ List.getElem?_toArray Option.getD_some Option.getD_none Option.map_some Option.map_none Option.bind_some Option.some.injEq Prod.mk.injEq if_true if_false true_and and_true and_self and_false false_and Bool.and_false Bool.false_and Bool.or_true Bool.true_or Bool.or_false Bool.false_or ne_eq not_true_eq_false not_false_eq_true decide_true decide_false List.mem_cons List.not_mem_nil List.filter_cons List.filter_nil List.any_cons List.any_nil List.isEmpty_nil List.isEmpty_cons Option.getD_none or_false false_or true_or or_true forall_eq_or_imp forall_eq reduceCtorEq exists_eq exists_eq' exists_eq_left' exists_eq_left exists_eq_right exists_eq_right' imp_self implies_true Bool.and_true Bool.true_and Bool.and_self beq_self_eq_true List.replicate_succ List.replicate_zero forall_const false_implies kG0 kF2 beqT beqF Int.toNat_natCast List.length_map List.length_replicate ge_iff_le gt_iff_lt decide_eq_true_eq decide_eq_false_iff_not Bool.and_eq_true Bool.or_eq_true Bool.not_eq_true' Bool.not_eq_false' kJ7 List.toList_toArray Bool.or_eq_false_iff Bool.and_eq_false_iff Int.not_lt Int.not_le beq_iff_eq beq_eq_false_iff_ne bne_iff_ne bne_eq_false_iff_eq ne_eq Bool.not_true Bool.not_false exists_and_left
section
open Go.Vc
attribute [local irreducible] Go.Vc.WP
noncomputable def cx0 : Cx := { P := Tryz.prog, tys := tys, C := [], hty := kAp, hC := COk.nil _ }
theorem kAr : cx0.tys = tys := rfl
theorem kAs : cx0.C = [] := rfl
attribute [local go_sem] kAr kAs
def encI (x : Int) : List SV := [.v (.int .i64 x)]
theorem kL0 {L M : List Int} : L.map encI = M.map encI ↔ L = M := by
 exact List.map_inj_right (fun a b h => by simpa [encI] using h)
def decI (rows : List (List SV)) : List Int := rows.map fun r => match r with
 | [.v (.int _ n)] => n
 | _ => 0
theorem kBi (L : List Int) : decI (L.map encI) = L := by
 unfold decI
 rw [List.map_map]
 exact List.map_id'' (fun _ => rfl) L
theorem isV_I {e s : Nat} (L : List Int) : (Ob.sl e s (L.map encI)).isV := by
 intro row hr c hc
 obtain ⟨n, _, rfl⟩ := List.mem_map.1 hr
 simp [encI] at hc
 exact ⟨_, hc⟩
theorem kEw {e s : Nat} (L : List Int) : (Ob.sl e s (L.map encI)).isV ↔ True := iff_true_intro (isV_I L)
def k60 : Ctr := pur (fun args => (aI args 0, aI args 1, aI args 2)) (fun x => [.v (.int .i64 x.1), .v (.int .i64 x.2.1), .v (.int .i64 x.2.2)]) (fun _ => True)
 (fun _ x => .v (.bool (decide (x.2.1 ≤ x.1) && decide (x.1 ≤ x.2.2)))) (fun _ _ => [])
theorem c60 : Cn Tryz.prog 41 k60 := by
 refine Cn.pur Tryz.func41 (by kernel_rfl) rfl fun d x _ => ?_
 obtain ⟨n, lo, hi⟩ := x
 refine Holds.go (c := cx0) Tryz.func41 rfl Tryz.results41 Tryz.ntmps41 (by omega) (by simp) rfl ?_
 intro X0 w0
 (repeat' (first | refine WP.seq ?_ | refine WP.block ?_ | ((first | refine WP.region ?_ | refine WP.kAa ?_ | refine WP.ret ?_ | refine WP.exit ?_ | refine WP.skip ?_ ); simp only [go_sem]) | refine And.intro ?_ ?_ | intro _))
theorem c58 : Cn Tryz.prog 57 k60 := by
 refine Cn.pur Tryz.func57 (by kernel_rfl) rfl fun d x _ => ?_
 obtain ⟨n, lo, hi⟩ := x
 refine Holds.go (c := cx0) Tryz.func57 rfl Tryz.results57 Tryz.ntmps57 (by omega) (by simp) rfl ?_
 intro X0 w0
 (repeat' (first | refine WP.seq ?_ | refine WP.block ?_ | ((first | refine WP.region ?_ | refine WP.kAa ?_ | refine WP.ret ?_ | refine WP.exit ?_ | refine WP.skip ?_ ); simp only [go_sem]) | refine And.intro ?_ ?_ | intro _))
end
end Go.Proofs.YtdhkhapbldkkdaaGreatDoor
namespace Go.Proofs.YtdhkhapbldkkdaaGreatDoor
def firstIdx {α : Type} (p : α → Bool) (L : List α) : Int := match L.findIdx? p with
 |some i => (i : Int)
 |none => -1
theorem kF1 {α : Type} {p : α → Bool} {L : List α} {k : Nat} (hk : k < L.length) (h : ∀ i (hi : i < L.length), i < k → p L[i] = false) (hp : p L[k] = true) : firstIdx p L = k := by
 unfold firstIdx
 have : L.findIdx? p = some k := by
  rw [List.findIdx?_eq_some_iff_getElem]
  exact ⟨hk, hp, fun j hj => by simp [h j (by omega) hj]⟩
 rw [this]
theorem firstIdx_none {α : Type} {p : α → Bool} {L : List α} (h : ∀ i (hi : i < L.length), p L[i] = false) : firstIdx p L = -1 := by
 unfold firstIdx
 have : L.findIdx? p = none := by
  rw [List.findIdx?_eq_none_iff]
  intro x hx
  obtain ⟨i, hi, rfl⟩ := List.mem_iff_getElem.1 hx
  exact h i hi
 rw [this]
end Go.Proofs.YtdhkhapbldkkdaaGreatDoor

namespace Go.Proofs.YtdhkhapbldkkdaaGreatDoor
open Go.Vc
attribute [local irreducible] Go.Vc.WP
attribute [local go_sem] kAr kAs
def decB : Nat → List UInt8
 | 0 => []
 |k + 1 => decB ((k + 1) / 10) ++ [UInt8.ofNat (48 + (k + 1) % 10)]
decreasing_by omega
theorem kG4 (k : Nat) (h : 0 < k) : decB k = decB (k / 10) ++ [UInt8.ofNat (48 + k % 10)] := by
 cases k with
 |zero => omega
 |succ k => rw [decB]
theorem kRx : ∀ (n k : Nat), k < 10 ^ n → (decB k).length ≤ n
 | 0, k, h => by
         have : k = 0 := by simpa using h
         subst this; simp [decB]
 |n + 1, k, h => by
  rcases Nat.eq_zero_or_pos k with h0 | h0
  ·subst h0; simp [decB]
  ·rw [kG4 k h0, List.length_append]
   have := kRx n (k / 10) (by rw [Nat.pow_succ] at h; omega)
   simp only [List.length_cons, List.length_nil]; omega
def bts (l : List UInt8) : ByteArray := ⟨l.toArray⟩
theorem kLb (a b : List UInt8) : bts a ++ bts b = bts (a ++ b) := by
 unfold bts
 apply ByteArray.ext
 simp
theorem kBb (a : List UInt8) : (bts a).size = a.length := by simp [bts, ByteArray.size]
def encS (x : ByteArray) : List SV := [.v (.string x)]
def oneS : List SV → ByteArray
 | [.v (.string n)] => n
 | _ => ⟨#[]⟩
def decS (rows : List (List SV)) : List ByteArray := rows.map oneS
theorem qA5 (x : ByteArray) : oneS (encS x) = x := rfl
theorem kAq (L : List ByteArray) : decS (L.map encS) = L := by
 unfold decS
 rw [List.map_map]
 exact List.map_id'' qA5 L
end Go.Proofs.YtdhkhapbldkkdaaGreatDoor

namespace Go.Proofs.YtdhkhapbldkkdaaGreatDoor
def dig (c : UInt8) : Bool := decide (48 ≤ c.toNat) && decide (c.toNat ≤ 57)
theorem kIt {c : UInt8} : dig c = true ↔ 48 ≤ c.toNat ∧ c.toNat ≤ 57 := by simp [dig]
def valL (l : List UInt8) : Nat := l.foldl (fun n c => 10 * n + (c.toNat - 48)) 0
theorem kMe (l : List UInt8) (c : UInt8) : valL (l ++ [c]) = 10 * valL l + (c.toNat - 48) := by simp [valL]
theorem kWe {c : UInt8} (h : dig c = true) : UInt8.ofNat (48 + (c.toNat - 48)) = c := by
 have := kIt.1 h
 rw [show 48 + (c.toNat - 48) = c.toNat by omega]
 exact UInt8.ofNat_toNat
theorem kU0 : ∀ (n : Nat) (l : List UInt8), l.length = n → l.all dig = true → valL l < 10 ^ n
 | 0, l, h, _ => by have := List.eq_nil_of_length_eq_zero h; subst this; simp [valL]
 |n + 1, l, h, hd => by
  have hne : l ≠ [] := by intro e; subst e; simp at h
  have e := (List.dropLast_concat_getLast hne).symm
  rw [e] at hd ⊢
  rw [List.all_append, Bool.and_eq_true] at hd
  have ih := kU0 n l.dropLast (by simp [h]) hd.1
  have hc : dig (l.getLast hne) = true := by simpa using hd.2
  have := kIt.1 hc
  rw [kMe, Nat.pow_succ]
  omega
theorem kWf : ∀ (n : Nat) (l : List UInt8), l.length = n + 1 → l.all dig = true → l.head? ≠ some 48 → decB (valL l) = l ∧ 0 < valL l
 | 0, l, h, hd, hh => by
  match l, h with
  | [c], _ =>
   have hc : dig c = true := by simpa using hd
   have h1 := kIt.1 hc
   have hne : c.toNat ≠ 48 := by
    intro e
    apply hh
    simp only [List.head?_cons, Option.some.injEq]
    exact UInt8.toNat_inj.1 e
   have hv : valL [c] = c.toNat - 48 := by simp [valL]
   rw [hv]
   have h0 : 0 < c.toNat - 48 := by omega
   refine ⟨?_, h0⟩
   rw [kG4 _ h0, show (c.toNat - 48) / 10 = 0 by omega, show (c.toNat - 48) % 10 = c.toNat - 48 by omega, kWe hc]
   simp [decB]
 |n + 1, l, h, hd, hh => by
  have hne : l ≠ [] := by intro e; subst e; simp at h
  have e := (List.dropLast_concat_getLast hne).symm
  have hlen : l.dropLast.length = n + 1 := by simp [h]
  have hd' := hd
  rw [e, List.all_append, Bool.and_eq_true] at hd'
  have hh' : l.dropLast.head? ≠ some 48 := by
   intro e2
   apply hh
   rw [e, List.head?_append, e2]; rfl
  obtain ⟨i1, i2⟩ := kWf n l.dropLast hlen hd'.1 hh'
  have hc : dig (l.getLast hne) = true := by simpa using hd'.2
  have h1 := kIt.1 hc
  have hv : valL l = 10 * valL l.dropLast + ((l.getLast hne).toNat - 48) := by
   have := kMe l.dropLast (l.getLast hne)
   rwa [← e] at this
  have hpos : 0 < valL l := by omega
  refine ⟨?_, hpos⟩
  rw [kG4 _ hpos, show valL l / 10 = valL l.dropLast by omega, show valL l % 10 = (l.getLast hne).toNat - 48 by omega, kWe hc, i1]
  exact e.symm
def fmtL (n : Nat) : List UInt8 := if n = 0 then [48] else decB n
theorem kU1 (l : List UInt8) : valL (48 :: l) = valL l := by simp [valL]
theorem k7q (l : List UInt8) (hd : l.all dig = true) : fmtL (valL l) = l ↔ (l ≠ [] ∧ ¬ (1 < l.length ∧ l.head? = some 48)) := by
 constructor
 ·intro h
  refine ⟨fun e => by subst e; simp [valL, fmtL] at h, fun ⟨h1, h2⟩ => ?_⟩
  match l, h2 with
  |c :: t, h2 =>
   simp only [List.head?_cons, Option.some.injEq] at h2
   subst h2
   simp only [List.all_cons, Bool.and_eq_true] at hd
   have hlt := kU0 t.length t rfl hd.2
   rw [kU1] at h
   unfold fmtL at h
   split at h
   ·have := congrArg List.length h
    simp only [List.length_cons, List.length_nil] at this h1; omega
   ·have h3 := kRx t.length (valL t) hlt
    rw [h] at h3
    simp only [List.length_cons] at h3
    omega
 ·rintro ⟨h1, h2⟩
  by_cases hh : l.head? = some 48
  ·match l, hh with
   |c :: t, hh =>
    simp only [List.head?_cons, Option.some.injEq] at hh
    subst hh
    have ht : t = [] := by
     have : t.length = 0 := by
      rcases Nat.eq_zero_or_pos t.length with h | h
      ·exact h
      ·exact absurd ⟨by simp; omega, rfl⟩ h2
     exact List.eq_nil_of_length_eq_zero this
    subst ht
    simp [valL, fmtL]
  ·have hlen : ∃ n, l.length = n + 1 := ⟨l.length - 1, by have := List.length_pos_iff.2 h1; omega⟩
   obtain ⟨n, hn⟩ := hlen
   obtain ⟨a, b⟩ := kWf n l hn hd hh
   unfold fmtL
   rw [if_neg (by omega)]; exact a
def valN (s : ByteArray) (k : Nat) : Nat := valL (s.data.toList.take k)
theorem k83 (s : ByteArray) : valN s 0 = 0 := by simp [valN, valL]
theorem k84 (s : ByteArray) (k : Nat) (h : k < s.size) : valN s (k + 1) = 10 * valN s k + (s[k]!.toNat - 48) := by
 unfold valN
 have h' : k < s.data.toList.length := by simpa using h
 rw [List.take_succ_eq_append_getElem h', kMe]
 congr 2
 rw [getElem!_pos s k h]
 rfl
theorem allDig {s : ByteArray} (h : ∀ i, i < s.size → dig s[i]! = true) : s.data.toList.all dig = true := by
 rw [List.all_eq_true]
 intro c hc
 obtain ⟨i, hi, rfl⟩ := List.mem_iff_getElem.1 hc
 have hi' : i < s.size := by simpa using hi
 have := h i hi'
 rw [getElem!_pos s i hi'] at this
 exact this
theorem qEx {s : ByteArray} (k : Nat) (hk : k ≤ s.size) (h : ∀ i, i < k → dig s[i]! = true) : valN s k < 10 ^ k := by
 refine kU0 k _ (by simp; omega) ?_
 rw [List.all_eq_true]
 intro c hc
 obtain ⟨i, hi, rfl⟩ := List.mem_iff_getElem.1 hc
 have hi' : i < k := by simp at hi; omega
 have := h i hi'
 rw [getElem!_pos s i (by omega)] at this
 rw [List.getElem_take]
 exact this
theorem qA7 (k : Nat) (h : k ≤ 10) : 10 ^ k ≤ 10000000000 := by
 have : 10 ^ k ≤ 10 ^ 10 := Nat.pow_le_pow_right (by omega) h
 omega
def kBj (s : ByteArray) : Option Nat :=
 if s.size ≠ 0 ∧ s.size ≤ 10 ∧ ¬ (1 < s.size ∧ s[0]! = 48) ∧ s.data.toList.all dig = true ∧ valN s s.size ≤ 1000000000 then some (valN s s.size) else none
theorem qAa (s : ByteArray) : valN s s.size = valL s.data.toList := by
 unfold valN
 rw [List.take_of_length_le (by simp)]
theorem kEn (s : ByteArray) : bts s.data.toList = s := by
 unfold bts; simp
theorem qAb (s : ByteArray) (h : 0 < s.size) : s.data.toList.head? = some s[0]! := by
 rw [getElem!_pos s 0 h, List.head?_eq_getElem?, List.getElem?_eq_getElem (by simpa using h)]
 rfl
theorem kS6 {s : ByteArray} {i : Nat} (h : i < s.size) (hb : dig s[i]! = false) : kBj s = none := by
 unfold kBj
 rw [if_neg]
 rintro ⟨_, _, _, hd, _⟩
 rw [List.all_eq_true] at hd
 have := hd s[i]! (by rw [getElem!_pos s i h]; exact Array.getElem_mem_toList (by exact h))
 rw [this] at hb; cases hb
theorem kWg {s : ByteArray} (hd : ∀ i, i < s.size → dig s[i]! = true) (h1 : s.size ≠ 0) (h2 : s.size ≤ 10) (h3 : ¬ (1 < s.size ∧ s[0]! = 48)) (h4 : valN s s.size ≤ 1000000000) : kBj s = some (valN s s.size) := by
 unfold kBj
 rw [if_pos ⟨h1, h2, h3, allDig hd, h4⟩]
theorem kM2 {s : ByteArray} (h : s.size = 0 ∨ 10 < s.size ∨ (1 < s.size ∧ s[0]! = 48) ∨ 1000000000 < valN s s.size) : kBj s = none := by
 unfold kBj
 rw [if_neg]
 rintro ⟨a, b, c, d, e⟩
 rcases h with h | h | h | h
 ·exact a h
 ·omega
 ·exact c h
 ·omega
end Go.Proofs.YtdhkhapbldkkdaaGreatDoor

namespace Go.Proofs.YtdhkhapbldkkdaaGreatDoor
open Go.Vc
attribute [local irreducible] Go.Vc.WP
attribute [local go_sem] kAr kAs
theorem wrapU8 {n : Int} (h0 : 0 ≤ n) (h1 : n ≤ 255) : IntKind.u8.wrap n = n := by
 simp only [IntKind.wrap, IntKind.bits, IntKind.signed, Bool.false_and, Bool.false_eq_true, if_false]
 omega
section
def kFmt : Ctr := pur (fun args => aI args 0) (fun x => [.v (.int .i64 x)]) (fun x => 0 ≤ x ∧ x ≤ 1000000000000000) (fun _ x => .v (.string (bts (fmtL x.toNat)))) (fun _ _ => [])
end
def kEv : Ctr := pur (fun args => aS args 0) (fun s => [.v (.string s)]) (fun s => s.size ≤ 1099511627776) (fun _ s => .tup [.v (.int .i64 (((kBj s).getD 0 : Nat) : Int)), .v (.bool (kBj s).isSome)]) (fun _ _ => [])
theorem kNp {s : ByteArray} (h : kBj s = none) : SV.v (.int .i64 0) = SV.v (.int .i64 (((kBj s).getD 0 : Nat) : Int)) ∧ SV.v (.bool false) = SV.v (.bool (kBj s).isSome) := by rw [h]; exact ⟨rfl, rfl⟩
theorem numOk {s : ByteArray} {n : Nat} (h : kBj s = some n) : SV.v (.int .i64 (n : Int)) = SV.v (.int .i64 (((kBj s).getD 0 : Nat) : Int)) ∧ SV.v (.bool true) = SV.v (.bool (kBj s).isSome) := by rw [h]; exact ⟨rfl, rfl⟩
theorem k5g {s : ByteArray} (k : Nat) (hk : k ≤ s.size) (hs : s.size ≤ 10) (h : ∀ i, i < k → dig s[i]! = true) : valN s k < 10000000000 := by
 have h1 := qEx k hk h
 have h2 := qA7 k (by omega)
 omega
section
attribute [local go_sem] kFmt
theorem qE2 {c : UInt8} : (c.toNat : Int) = 48 ↔ c = 48 := by
 constructor
 ·intro h; exact UInt8.toNat_inj.1 (by show c.toNat = 48; omega)
 ·rintro rfl; rfl
theorem kR6 : Cn Tryz.prog 50 kEv := by
 refine Cn.pur Tryz.func50 (by kernel_rfl) rfl fun d x hx => ?_
 refine Holds.go (c := cx0) Tryz.func50 rfl Tryz.results50 Tryz.ntmps50 (by omega) (by simp) rfl ?_
 intro X0 w0
 have h48 : ((x[0]!.toNat : Int) = 48) = (x[0]! = 48) := propext qE2
 (repeat' (first | refine WP.seq ?_ | refine WP.block ?_ | ((first | refine WP.region ?_ | refine WP.kAa ?_ | refine WP.ret ?_ | refine WP.exit ?_ | refine WP.skip ?_ ); simp only [go_sem, h48]) | refine And.intro ?_ ?_ | intro _))
 all_goals first | omega | skip
 iterate 2
  ·rename_i h
   have hb : kBj x = none := by
    apply kM2
    rcases h with (h | h) | h
    ·exact .inl (by omega)
    ·exact .inr (.inl (by omega))
    ·exact .inr (.inr (.inl ⟨by omega, h.2⟩))
   first | exact (kNp hb).1 | exact (kNp hb).2
 rename_i hh
 have hlen : x.size ≤ 10 := by omega
 have hlen0 : x.size ≠ 0 := by omega
 have h01 : ¬ (1 < x.size ∧ x[0]! = 48) := by
  rintro ⟨a, b⟩
  rcases hh.2 with h | h
  ·omega
  ·exact h b
 refine WP.loop (fun k : Nat => ⟨[(0, .v (.string x)), (4, .v (.int .i64 (valN x k : Int))), (5, .v (.int .i64 k))], []⟩) (fun k => k ≤ x.size ∧ ∀ i, i < k → dig x[i]! = true) (fun k => x.size - k) 0 (by simp) ?_ ?_
 ·(simp only [go_sem, k83] <;> (first | (and_intros <;> rfl) | simp))
 intro k ⟨hk, hdk⟩
 have hv := k5g k hk (by omega) hdk
 by_cases hlt : k < x.size
 ·have hs := k84 x k hlt
  by_cases hdg : dig x[k]! = true
  ·have hd := kIt.1 hdg
   have hw : IntKind.u8.wrap ((x[k]!.toNat : Int) - 48) = (x[k]!.toNat : Int) - 48 := wrapU8 (by omega) (by omega)
   (repeat' (first | refine WP.seq ?_ | refine WP.block ?_ | ((first | refine WP.region ?_ | refine WP.kAa ?_ | refine WP.ret ?_ | refine WP.exit ?_ | refine WP.skip ?_ ); simp only [go_sem, hw]) | refine And.intro ?_ ?_ | intro _))
   all_goals first | omega | skip
   refine ⟨k + 1, ⟨by omega, fun i hi => ?_⟩, by omega, ?_⟩
   ·rcases Nat.lt_or_ge i k with h' | h'
    ·exact hdk i h'
    ·rw [show i = k by omega]; exact hdg
   ·rw [show ((valN x k : Int) * 10 + ((x[k]!.toNat : Int) - 48)) = (valN x (k + 1) : Int) by omega]; (first | (and_intros <;> rfl) | simp)
  ·have hbad := kS6 hlt (by simpa using hdg)
   have hd : ¬ (48 ≤ x[k]!.toNat ∧ x[k]!.toNat ≤ 57) := fun h => hdg (kIt.2 h)
   (repeat' (first | refine WP.seq ?_ | refine WP.block ?_ | ((first | refine WP.region ?_ | refine WP.kAa ?_ | refine WP.ret ?_ | refine WP.exit ?_ | refine WP.skip ?_ ); simp only [go_sem]) | refine And.intro ?_ ?_ | intro _))
   all_goals first | omega | skip
   ·exact (kNp hbad).1
   ·exact (kNp hbad).2
 ·have hke : k = x.size := by omega
  subst hke
  (repeat' (first | refine WP.seq ?_ | refine WP.block ?_ | ((first | refine WP.region ?_ | refine WP.kAa ?_ | refine WP.ret ?_ | refine WP.exit ?_ | refine WP.skip ?_ ); simp only [go_sem]) | refine And.intro ?_ ?_ | intro _))
  all_goals first | omega | skip
  ·exact (kNp (kM2 (.inr (.inr (.inr (by omega)))))).1
  ·exact (kNp (kM2 (.inr (.inr (.inr (by omega)))))).2
  ·exact (numOk (kWg hdk hlen0 hlen h01 (by omega))).1
  ·exact (numOk (kWg hdk hlen0 hlen h01 (by omega))).2
end
end Go.Proofs.YtdhkhapbldkkdaaGreatDoor

namespace Go.Proofs.YtdhkhapbldkkdaaGreatDoor
open Go.Vc
attribute [local go_sem] St.runR St.runW St.kGq offV St.step St.kHb St.stepG kB7 kD8 St.prK St.pr St.kH2 St.eff St.kKz St.kGr St.kEy St.kHc aI aS aR aC St.isM St.argL Ctr.pure Ctr.lend Ctr.move Ctr.isL Ctr.wri pur len kA0 St.kI2 St.kF5 nthS kCr kCq obsR pairs kDa kC3 kD5 St.resL erL SV.ren1 SV.up SV.up2 Ob.up St.fzL kGj kFo St.kGk SV.kI3 St.fz SV.fz1 St.prep St.mvL St.mv SV.re1 rnOk St.prEq vals kC4 scEq Value.kd St.kH1 St.kEr cutR St.bnd St.kGp St.bld kGh outL retL outJ oR oC SV.upq SV.isSl SV.shut St.kHa St.kJ6 St.kE7 absC Ob.pl St.ev St.get St.put St.new St.kill SV.kill SV.kBp Ob.kill St.app St.wrt St.rowsOf St.res St.kAt lk er kE8 SV.strip SV.need SV.share SV.share1 SV.owns SV.kBq SV.kCo SV.good SV.good1 SV.rok SV.rok1 SV.rok2 SV.isV SV.isV2 kBr SV.cells SV.one SV.pur Ob.pb kEb kEh splice kDt kAy kGo kI0 kGn kHr retK outK outs okC okL okA okT nilC nilL nilA nilT kE9 kHd keepA kEz St.runG St.dltK St.least St.clean St.final St.hide offK badS badO SV.refs SV.leaf SV.kI4 Ob.refs dlOk fpAt Go.Vc.cover tups SV.kF4 St.out outC subL St.has rng wr Value.oneCell' Option.isSome_some Option.isSome_none List.nil_append Bool.false_eq_true List.map_cons List.map_nil List.all_cons List.all_nil List.length_cons List.length_nil List.drop_zero List.drop_succ_cons List.take_succ_cons List.take_zero List.drop_nil List.take_nil List.getElem?_cons_zero List.getElem?_cons_succ List.getElem?_nil List.cons_append List.nil_append List.append_nil List.append_assoc List.flatMap_cons List.flatMap_nil List.contains_cons List.contains_nil List.set_cons_zero List.set_cons_succ List.getElem?_toArray Option.getD_some Option.getD_none Option.map_some Option.map_none Option.bind_some Option.some.injEq Prod.mk.injEq if_true if_false true_and and_true and_self and_false false_and Bool.and_false Bool.false_and Bool.or_true Bool.true_or Bool.or_false Bool.false_or ne_eq not_true_eq_false not_false_eq_true decide_true decide_false List.mem_cons List.not_mem_nil List.filter_cons List.filter_nil List.any_cons List.any_nil List.isEmpty_nil List.isEmpty_cons Option.getD_none or_false false_or true_or or_true forall_eq_or_imp forall_eq reduceCtorEq exists_eq exists_eq' exists_eq_left' exists_eq_left exists_eq_right exists_eq_right' imp_self implies_true Bool.and_true Bool.true_and Bool.and_self beq_self_eq_true List.replicate_succ List.replicate_zero forall_const false_implies kG0 kF2 beqT beqF Int.toNat_natCast List.length_map List.length_replicate ge_iff_le gt_iff_lt decide_eq_true_eq decide_eq_false_iff_not Bool.and_eq_true Bool.or_eq_true Bool.not_eq_true' Bool.not_eq_false' kJ7 List.toList_toArray Bool.or_eq_false_iff Bool.and_eq_false_iff Int.not_lt Int.not_le beq_iff_eq beq_eq_false_iff_ne bne_iff_ne bne_eq_false_iff_eq ne_eq Bool.not_true Bool.not_false exists_and_left
section
open Go.Vc
attribute [local irreducible] Go.Vc.WP
attribute [local go_sem] kAr kAs k60
noncomputable def kXh : Cx := { P := Tryz.prog, tys := tys, C := [(41, k60), (57, k60)], hty := kAp, hC := COk.cons c60 (COk.cons c58 (COk.nil _)) }
theorem qEu : kXh.tys = tys := rfl
theorem qEv : kXh.C = [(41, k60), (57, k60)] := rfl
attribute [local go_sem] qEu qEv
def letter (c : UInt8) : Bool := decide (97 ≤ c.toNat) && decide (c.toNat ≤ 122)
def kBv (s : ByteArray) : Bool := (s.data.toList.all letter) && decide (1 ≤ s.size) && decide (s.size ≤ 8)
theorem kTt {s : ByteArray} {k : Nat} (h : k < s.size) (hb : letter s[k]! = false) : kBv s = false := by
 unfold kBv
 have : s.data.toList.all letter = false := by
  rw [Bool.eq_false_iff]
  intro hall
  have h1 := List.all_eq_true.1 hall s[k]! (by
   rw [getElem!_pos s k h]
   exact Array.getElem_mem_toList (by exact h))
  rw [h1] at hb; cases hb
 simp [this]
theorem kTu {s : ByteArray} (h : ∀ i, i < s.size → letter s[i]! = true) : kBv s = (decide ((1 : Int) ≤ s.size) && decide ((s.size : Int) ≤ 8)) := by
 unfold kBv
 have : s.data.toList.all letter = true := by
  rw [List.all_eq_true]
  intro c hc
  obtain ⟨i, hi, rfl⟩ := List.mem_iff_getElem.1 hc
  have hi' : i < s.size := by simpa using hi
  have := h i hi'
  rw [getElem!_pos s i hi'] at this
  exact this
 rw [this, Bool.true_and]
 congr 1 <;> · apply decide_eq_decide.2; omega
def kCf : Ctr := pur (fun args => aS args 0) (fun s => [.v (.string s)]) (fun s => s.size ≤ 1099511627776) (fun _ s => .v (.bool (kBv s))) (fun _ _ => [])
theorem kR5 : Cn Tryz.prog 94 kCf := by
 refine Cn.pur Tryz.func94 (by kernel_rfl) rfl fun d s hL => ?_
 refine Holds.go (c := kXh) Tryz.func94 rfl Tryz.results94 Tryz.ntmps94 (by omega) (by simp) rfl ?_
 intro X0 w0
 (repeat' (first | refine WP.seq ?_ | refine WP.block ?_ | ((first | refine WP.region ?_ | refine WP.kAa ?_ | refine WP.ret ?_ | refine WP.exit ?_ | refine WP.skip ?_ ); simp only [go_sem]) | refine And.intro ?_ ?_ | intro _))
 refine WP.loop (fun k : Nat => ⟨[(0, .v (.string s)), (3, .v (.int .i64 k))], []⟩) (fun k => k ≤ s.size ∧ ∀ i, i < k → letter s[i]! = true) (fun k => s.size - k) 0 (by simp) ?_ ?_
 ·simp only [go_sem]; first | exact ⟨rfl, rfl⟩ | rfl
 intro k ⟨hk, hf⟩
 by_cases hlt : k < s.size
 ·(repeat' (first | refine WP.seq ?_ | refine WP.block ?_ | ((first | refine WP.region ?_ | refine WP.kAa ?_ | refine WP.ret ?_ | refine WP.exit ?_ | refine WP.skip ?_ ); simp only [go_sem]) | refine And.intro ?_ ?_ | intro _))
  all_goals first | omega | skip
  ·rename_i hh
   rw [kTt hlt (by rw [Bool.eq_false_iff]; intro hc; simp [letter] at hc; omega)]
  ·rename_i hh
   refine ⟨k + 1, ⟨by omega, fun i hik => ?_⟩, by omega, rfl⟩
   rcases Nat.lt_or_ge i k with h | h
   ·exact hf i h
   ·have : i = k := by omega
    subst this
    simp [letter]; omega
 ·(repeat' (first | refine WP.seq ?_ | refine WP.block ?_ | ((first | refine WP.region ?_ | refine WP.kAa ?_ | refine WP.ret ?_ | refine WP.exit ?_ | refine WP.skip ?_ ); simp only [go_sem]) | refine And.intro ?_ ?_ | intro _))
  all_goals first | omega | skip
  rw [kTu fun i hi => hf i (by omega)]
theorem kOq : Cn Tryz.prog 116 kCf := by
 refine Cn.pur Tryz.func116 (by kernel_rfl) rfl fun d s hL => ?_
 refine Holds.go (c := kXh) Tryz.func116 rfl Tryz.results116 Tryz.ntmps116 (by omega) (by simp) rfl ?_
 intro X0 w0
 (repeat' (first | refine WP.seq ?_ | refine WP.block ?_ | ((first | refine WP.region ?_ | refine WP.kAa ?_ | refine WP.ret ?_ | refine WP.exit ?_ | refine WP.skip ?_ ); simp only [go_sem]) | refine And.intro ?_ ?_ | intro _))
 refine WP.loop (fun k : Nat => ⟨[(0, .v (.string s)), (3, .v (.int .i64 k))], []⟩) (fun k => k ≤ s.size ∧ ∀ i, i < k → letter s[i]! = true) (fun k => s.size - k) 0 (by simp) ?_ ?_
 ·simp only [go_sem]; first | exact ⟨rfl, rfl⟩ | rfl
 intro k ⟨hk, hf⟩
 by_cases hlt : k < s.size
 ·(repeat' (first | refine WP.seq ?_ | refine WP.block ?_ | ((first | refine WP.region ?_ | refine WP.kAa ?_ | refine WP.ret ?_ | refine WP.exit ?_ | refine WP.skip ?_ ); simp only [go_sem]) | refine And.intro ?_ ?_ | intro _))
  all_goals first | omega | skip
  ·rename_i hh
   rw [kTt hlt (by rw [Bool.eq_false_iff]; intro hc; simp [letter] at hc; omega)]
  ·rename_i hh
   refine ⟨k + 1, ⟨by omega, fun i hik => ?_⟩, by omega, rfl⟩
   rcases Nat.lt_or_ge i k with h | h
   ·exact hf i h
   ·have : i = k := by omega
    subst this
    simp [letter]; omega
 ·(repeat' (first | refine WP.seq ?_ | refine WP.block ?_ | ((first | refine WP.region ?_ | refine WP.kAa ?_ | refine WP.ret ?_ | refine WP.exit ?_ | refine WP.skip ?_ ); simp only [go_sem]) | refine And.intro ?_ ?_ | intro _))
  all_goals first | omega | skip
  rw [kTu fun i hi => hf i (by omega)]
end
end Go.Proofs.YtdhkhapbldkkdaaGreatDoor
namespace Go.Vc
open Go.RowKit Go.WideShapes Go.ChangeShapes Go.Deep
section
variable {H : Type} {enc : TypeId × Value → H} {P : Program} {w : World}
def Cells (w : World) (row : List SV) (cs : List Value) : Prop :=
 row.length = cs.length ∧ ∀ (k : Nat) (c : SV) (u : Value), row[k]? = some c → cs[k]? = some u → u.oneCell' = true ∧ Rp w (fun _ => False) c u
def Dec (H : Type) (enc : TypeId × Value → H) (P : Program) (w : World) (t : TypeId) {α : Type} (e : α → List SV) (wf : α → Prop) : Prop :=
 ∀ (base : Nat) (sp : Nat → Bool) (held : Bool) (n : Nat) (cs : List Value) (y : DataW H × List MemPlace), DataW.trod enc P w base sp held n t cs = some y → ∃ a : α, wf a ∧ Cells w (e a) cs
theorem kMv {v : Value} (h : v.oneCell' = true) : Cells w [.v v] [v] := ⟨rfl, fun k c u hc hu => by
 cases k with
 |zero => simp at hc hu; subst hc hu; exact ⟨h, .v _⟩
 |succ k => simp at hc⟩
theorem Dec.int {t : TypeId} {k : IntKind} (ht : P.underlying t = some (.int k)) : Dec H enc P w t (fun n : Int => [.v (.int k n)]) (fun n => k.min ≤ n ∧ n ≤ k.max) := by
 intro base sp held n cs y h
 obtain ⟨m, rfl, rfl, hw⟩ := DataW.trod_int ht h
 exact ⟨m, by simpa [Lit.wf] using hw, kMv rfl⟩
theorem Dec.bool {t : TypeId} (ht : P.underlying t = some .bool) : Dec H enc P w t (fun b : Bool => [.v (.bool b)]) (fun _ => True) := by
 intro base sp held n cs y h
 obtain ⟨m, rfl, rfl⟩ := DataW.trod_bool ht h
 exact ⟨m, trivial, kMv rfl⟩
theorem Dec.string {t : TypeId} (ht : P.underlying t = some .string) : Dec H enc P w t (fun s : ByteArray => [.v (.string s)]) (fun s => s.size ≤ maxLen) := by
 intro base sp held n cs y h
 obtain ⟨m, rfl, rfl, hw⟩ := DataW.trod_string ht h
 exact ⟨m, hw, kMv rfl⟩
theorem kQ5 {α : Type} {p : Nat → α → Prop} : ∀ n : Nat, (∀ i, i < n → ∃ a, p i a) → ∃ L : List α, L.length = n ∧ ∀ i a, L[i]? = some a → p i a
 | 0, _ => ⟨[], rfl, by simp⟩
 |n + 1, h => by
  obtain ⟨L, hl, hp⟩ := kQ5 n (fun i hi => h i (by omega))
  obtain ⟨a, ha⟩ := h n (by omega)
  refine ⟨L ++ [a], by simp [hl], fun i b hi => ?_⟩
  rw [List.getElem?_append] at hi
  split at hi
  ·exact hp i b hi
  ·rename_i hge
   have : i = n := by
    have := (List.getElem?_eq_some_iff.1 hi).1
    simp at this; omega
   subst this
   rw [hl] at hi
   simp at hi
   subst hi
   exact ha
theorem k6z {a : Addr} {u : Value} (h : w.cell? a = some u) : a.spot = none ∧ a.block < w.heap.size := by
 unfold World.cell? at h
 split at h
 ·rename_i c _ _ hh
  refine ⟨?_, lt_of_heap hh⟩
  split at h
  ·cases h
  ·rename_i hs; simpa using hs
 ·cases h
theorem addr_add {a : Addr} (h : a.spot = none) (n : Nat) : a.add n = ⟨a.block, a.off + n, none⟩ := by
 obtain ⟨b, o, s⟩ := a
 simp only at h
 subst h
 unfold Addr.add
 split
 ·rename_i hn; subst hn; rfl
 ·rfl
theorem Dec.slice {t e : TypeId} {s : Nat} {α : Type} {en : α → List SV} {wf : α → Prop} (ht : P.underlying t = some (.slice e)) (hs : P.cellsOf e = s) (hs0 : 0 < s) (hd : Dec H enc P w e en wf) (hen : ∀ a, (en a).length = s) :
  Dec H enc P w t (fun L : List α => [.sl s (L.map en)]) (fun L => L.length ≤ maxLen ∧ ∀ a ∈ L, wf a) := by
 intro base sp held n cs y h
 rcases open_slice ht h with ⟨rfl, _⟩ | ⟨a, len, cap, m, n', D, Pl, rfl, _, hlc, hcm, hm, _, hcell⟩
 ·exact ⟨[], by simp, rfl, fun k c u hc hu => by
   cases k with
   |zero => simp at hc hu; subst hc hu; exact ⟨rfl, .nil s _ _⟩
   |succ k => simp at hc⟩
 have hlm : len ≤ m := by rw [hm]; split <;> omega
 have key : ∀ i, i < len → ∃ x : α, wf x ∧ ∃ cs', w.cells? base (a.add (i * s)) s = some cs' ∧ Cells w (en x) cs' := fun i hi => by
  obtain ⟨cs', h1, h2⟩ := hcell i (by omega)
  rw [hs] at h1
  obtain ⟨x, hx, hc⟩ := hd _ _ _ _ _ _ h2
  exact ⟨x, hx, cs', h1, hc⟩
 obtain ⟨L, hl, hL⟩ := kQ5 len key
 refine ⟨L, ⟨by unfold maxLen at hcm ⊢; omega, fun x hx => ?_⟩, rfl, fun k c u hc hu => ?_⟩
 ·obtain ⟨i, hi⟩ := List.mem_iff_getElem?.1 hx
  exact (hL i x hi).1
 cases k with
 |succ k => simp at hc
 |zero =>
  simp at hc hu
  subst hc hu
  refine ⟨rfl, ?_⟩
  rcases Nat.eq_zero_or_pos len with h0 | h0
  ·have : L = [] := List.eq_nil_of_length_eq_zero (by omega)
   subst this
   subst h0
   exact .nil s _ _
  ·have hspot : a.spot = none ∧ a.block < w.heap.size := by
    have hx : L[0]? = some (L[0]'(by omega)) := List.getElem?_eq_getElem (by omega)
    obtain ⟨_, cs', h1, _⟩ := hL 0 _ hx
    obtain ⟨_, hcl, hat⟩ := World.cells?_some h1
    have := hat 0 hs0
    have hv : cs'[0]? = some (cs'[0]'(by omega)) := List.getElem?_eq_getElem (by omega)
    rw [hv] at this
    simpa [Addr.add] using k6z this
   have hav : a = ⟨a.block, a.off, none⟩ := by
    obtain ⟨b, o, sp⟩ := a
    simp only at hspot
    rw [hspot.1]
   have cell : ∀ (i k : Nat) (row : List SV) (c : SV), (L.map en)[i]? = some row → row[k]? = some c → ∃ u, w.cell? ⟨a.block, a.off + (i * s + k), none⟩ = some u ∧ u.oneCell' = true ∧ Rp w (fun _ => False) c u := fun i k row c hr hc => by
    rw [List.getElem?_map] at hr
    cases hx : L[i]? with
    |none => rw [hx] at hr; cases hr
    |some x =>
     rw [hx] at hr
     simp only [Option.map_some, Option.some.injEq] at hr
     subst hr
     obtain ⟨_, cs', h1, h2, h3⟩ := hL i x hx
     obtain ⟨_, hcl, hat⟩ := World.cells?_some h1
     have hk : k < s := by rw [← hen x]; exact (List.getElem?_eq_some_iff.1 hc).1
     have hv : cs'[k]? = some (cs'[k]'(by omega)) := List.getElem?_eq_getElem (by omega)
     have := hat k hk
     rw [hv, addr_add hspot.1, addr_add (by rfl)] at this
     simp only at this
     rw [Nat.add_assoc] at this
     obtain ⟨h4, h5⟩ := h3 k c _ hc hv
     exact ⟨_, this, h4, h5⟩
   have hll : (L.map en).length = len := by simp [hl]
   have := Rp.sl (w := w) (X := fun _ => False) (s := s) (rows := L.map en) a.block a.off cap (fun i k => (w.cell? ⟨a.block, a.off + (i * s + k), none⟩).getD undef) (fun h => h) hspot.2 (by omega) (fun i row hr => by
     rw [List.getElem?_map] at hr
     cases hx : L[i]? with
     |none => rw [hx] at hr; cases hr
     |some x => rw [hx] at hr; simp only [Option.map_some, Option.some.injEq] at hr; subst hr; exact hen x) (fun i k row c hr hc => by
     obtain ⟨u, h1, _⟩ := cell i k row c hr hc; rw [h1]; rfl) (fun i k row c hr hc => by
     obtain ⟨u, h1, h2, _⟩ := cell i k row c hr hc; rw [h1]; exact h2) (fun i k row c hr hc => by
     obtain ⟨u, h1, _, h2⟩ := cell i k row c hr hc; rw [h1]; exact h2)
   rw [← hav, hll] at this
   exact this
theorem Dec.arg {t : TypeId} {α : Type} {sv : α → SV} {wf : α → Prop} (hd : Dec H enc P w t (fun a => [sv a]) wf) {v : Value} (hv : v.oneCell' = true) {base : Nat} {sp : Nat → Bool} {held : Bool} {d : DataW H} {p : List MemPlace} (h : DataW.Trod enc P w base sp held t v d p) :
  ∃ a, wf a ∧ R w (fun _ => False) (fun _ => nilB) (sv a) v := by
 obtain ⟨n, hn⟩ := h
 obtain ⟨a, ha, hl, hc⟩ := hd _ _ _ _ _ _ hn
 rw [cells_one hv] at hl hc
 exact ⟨a, ha, .p (hc 0 _ _ rfl rfl).2⟩
theorem okWide_slice1 {base : Nat} {r : Reach} {t e : TypeId} {v : Value} (ht : P.underlying t = some (.slice e)) (h : Value.okWide P w r base t v) : v.oneCell' = true := by
 obtain ⟨a, l, c, rfl⟩ := okWide_slice ht h; rfl
theorem Holds.calls {f : FuncId} {args : List SV} {x : Value} (h : Holds P f args (.v x) []) (hG : Grd P w) {vs : List Value} (hl : vs.length = args.length) (ha : ∀ (i : Nat) (c : SV) (u : Value), args[i]? = some c → vs[i]? = some u → R w (fun _ => False) (fun _ => nilB) c u) :
  Calls P f vs.toArray w fun e w' => e = .returned x ∧ Below w.heap.size w w' :=
 (h w (fun _ => False) vs hG (fun _ hf => hf.elim) hl ha).mono fun e w' hp => by
  obtain ⟨v, β, rfl, hb, _, hR, _⟩ := hp
  have := hR.kAz
  subst this
  exact ⟨rfl, hb⟩
end
section
variable {H : Type} {enc : TypeId × Value → H} {P : Program}
theorem kWp {f : Func} {s : ChangeSpec} {apart fresh handsOn again : Bool} {W W' : World} {args : Array Value} {v : Value} {ds gs : List (DataW H)} {before pa pv : List MemPlace}
  (hW : DataW.Whole enc P f.params.toList s.vars apart W args.toList ds gs before)
  (hres : ∀ (b : Nat) (sp : Nat → Bool) (hd : Bool), DataW.TrodAll enc P W' b sp hd f.resultTypes.toList (v.resultList f.resultTypes.size) (s.fn H (ds ++ gs)).results [])
  (hargs : ∀ sp : Nat → Bool, (∀ p ∈ before, sp p.block = true) → DataW.TrodAll enc P W' 0 sp true f.params.toList args.toList (s.fn H (ds ++ gs)).args pa)
  (hvars : ∀ sp : Nat → Bool, (∀ p ∈ before, sp p.block = true) → DataW.TrodVars enc P W' sp s.vars (s.fn H (ds ++ gs)).vars pv)
  (hps : before = pa ++ pv) (hb : Below W.heap.size W W')
  (hok : ∀ (j : Nat) (t : TypeId) (r : Value), f.resultTypes[j]? = some t → (v.resultList f.resultTypes.size)[j]? = some r → Value.okWide P W' .any 0 t r) :
  s.post enc P f apart fresh handsOn again W args v W' := by
 have hlt : ∀ p ∈ before, p.block < W.heap.size := fun p hp => hW.lt p hp
 have hold : ∀ p ∈ before, (fun b => decide (b < W.heap.size)) p.block = true := fun p hp => by simpa using hlt p hp
 refine ⟨ds, gs, before, [], pa, pv, hW, hres _ _ _, hargs _ hold, hvars _ hold, World.keptBut_mono (fun p hp => ⟨hp, ?_⟩) (hb.frame (· ∈ before)), fun _ => ?_⟩
 ·rw [hps, List.mem_append] at hp
  exact Or.inr hp
 ·obtain ⟨_, _, _, _, _, hz, hn⟩ := hW
  refine ⟨hok, _, _, ([] ++ pa) ++ pv, ⟨[] ++ pa, pv, trodAll_append (hargs _ (fun _ _ => rfl)) (hres _ _ _), hvars _ (fun _ _ => rfl), rfl, ?_, ?_⟩, ?_⟩
  ·intro b off hp
   have hin : MemPlace.cell b off ∈ before := by rw [hps]; simpa using hp
   rw [hb.frozen (hlt _ hin)]
   exact hz b off hin
  ·intro ha
   have := hn ha
   rw [hps] at this
   simpa using this
  ·intro p hp _
   rw [hps]
   simpa using hp
theorem kSq {W W' : World} (hl : laidOutB P = true) (hb : Below W.heap.size W W') (sp : Nat → Bool) : ∀ {ts : List TypeId} {vs : List Value} {ds : List (DataW H)} {ps : List MemPlace}, (ts.all fun t => P.readableRec t && decide (t < P.types.size)) = true →
  DataW.TrodAll enc P W 0 (fun _ => true) true ts vs ds ps → (∀ x ∈ ps, x.block < W.heap.size) → (∀ p ∈ ps, sp p.block = true) → DataW.TrodAll enc P W' 0 sp true ts vs ds ps
 | [], [], [], _, _, h, _, _ => h
 | [], [], _ :: _, _, _, h, _, _ => h.elim
 | [], _ :: _, _, _, _, h, _, _ => h.elim
 | _ :: _, [], _, _, _, h, _, _ => h.elim
 | _ :: _, _ :: _, [], _, _, h, _, _ => h.elim
 |t :: ts, v :: vs, d :: ds, ps, hr, h, hlt, hsp => by
  obtain ⟨p, q, h1, h2, rfl⟩ := h
  simp only [List.all_cons, Bool.and_eq_true, decide_eq_true_eq] at hr
  refine ⟨p, q, ?_, kSq hl hb sp hr.2 h2 (fun x hx => hlt x (by simp [hx])) (fun x hx => hsp x (by simp [hx])), rfl⟩
  exact WideElems.Trod_stays hl hr.1.1 hr.1.2 h1 (fun x hx => hb.same (hlt x (by simp [hx]))) (fun x hx => hsp x (by simp [hx]))
theorem law_post {tb : TypeId} {f : Func} {s : ChangeSpec} {apart fresh handsOn again : Bool} {W W' : World} {args : Array Value} {b : Bool} {ds gs : List (DataW H)} {before : List MemPlace} (hl : laidOutB P = true)
  (hW : DataW.Whole enc P f.params.toList s.vars apart W args.toList ds gs before) (hvs : s.vars = []) (hrt : f.resultTypes = #[tb]) (htb : P.underlying tb = some .bool) (hread : (f.params.toList.all fun t => P.readableRec t && decide (t < P.types.size)) = true)
  (hres : (s.fn H (ds ++ gs)).results = [.lit (.bool b)]) (hargs : (s.fn H (ds ++ gs)).args = ds) (hvars : (s.fn H (ds ++ gs)).vars = []) (hb : Below W.heap.size W W') :
  s.post enc P f apart fresh handsOn again W args (.bool b) W' := by
 have hW' := hW
 obtain ⟨p, q, hA, hV, rfl, hfz, hnd⟩ := hW
 rw [hvs] at hV
 obtain ⟨rfl, rfl⟩ := trodVars_none hV
 have hlt : ∀ x ∈ p, x.block < W.heap.size := fun x hx => hW'.lt x (by simp [hx])
 refine kWp (pa := p) (pv := []) hW' (fun bb sp hd => ?_) (fun sp hsp => ?_) (fun sp hsp => ?_) rfl hb (fun j t r h1 h2 => ?_)
 ·rw [hres, hrt]
  exact trodAll_cons_mk (shut_bool htb _) trodAll_mk0
 ·rw [hargs]
  exact kSq hl hb sp hread hA hlt (fun x hx => hsp x (by simp [hx]))
 ·rw [hvars, hvs]; rfl
 ·exact ok_one hrt rfl (okWide_bool_mk htb _) j t r h1 h2
end
end Go.Vc

namespace Go.Proofs.YtdhkhapbldkkdaaGreatDoor
open Go.Vc
attribute [local go_sem] St.runR St.runW St.kGq offV St.step St.kHb St.stepG kB7 kD8 St.prK St.pr St.kH2 St.eff St.kKz St.kGr St.kEy St.kHc aI aS aR aC St.isM St.argL Ctr.pure Ctr.lend Ctr.move Ctr.isL Ctr.wri pur len kA0 St.kI2 St.kF5 nthS kCr kCq obsR pairs kDa kC3 kD5 St.resL erL SV.ren1 SV.up SV.up2 Ob.up St.fzL kGj kFo St.kGk SV.kI3 St.fz SV.fz1 St.prep St.mvL St.mv SV.re1 rnOk St.prEq vals kC4 scEq Value.kd St.kH1 St.kEr cutR St.bnd St.kGp St.bld kGh outL retL outJ oR oC SV.upq SV.isSl SV.shut St.kHa St.kJ6 St.kE7 absC Ob.pl St.ev St.get St.put St.new St.kill SV.kill SV.kBp Ob.kill St.app St.wrt St.rowsOf St.res St.kAt lk er kE8 SV.strip SV.need SV.share SV.share1 SV.owns SV.kBq SV.kCo SV.good SV.good1 SV.rok SV.rok1 SV.rok2 SV.isV SV.isV2 kBr SV.cells SV.one SV.pur Ob.pb kEb kEh splice kDt kAy kGo kI0 kGn kHr retK outK outs okC okL okA okT nilC nilL nilA nilT kE9 kHd keepA kEz St.runG St.dltK St.least St.clean St.final St.hide offK badS badO SV.refs SV.leaf SV.kI4 Ob.refs dlOk fpAt Go.Vc.cover tups SV.kF4 St.out outC subL St.has rng wr Value.oneCell' Option.isSome_some Option.isSome_none List.nil_append Bool.false_eq_true List.map_cons List.map_nil List.all_cons List.all_nil List.length_cons List.length_nil List.drop_zero List.drop_succ_cons List.take_succ_cons List.take_zero List.drop_nil List.take_nil List.getElem?_cons_zero List.getElem?_cons_succ List.getElem?_nil List.cons_append List.nil_append List.append_nil List.append_assoc List.flatMap_cons List.flatMap_nil List.contains_cons List.contains_nil List.set_cons_zero List.set_cons_succ List.getElem?_toArray Option.getD_some Option.getD_none Option.map_some Option.map_none Option.bind_some Option.some.injEq Prod.mk.injEq if_true if_false true_and and_true and_self and_false false_and Bool.and_false Bool.false_and Bool.or_true Bool.true_or Bool.or_false Bool.false_or ne_eq not_true_eq_false not_false_eq_true decide_true decide_false List.mem_cons List.not_mem_nil List.filter_cons List.filter_nil List.any_cons List.any_nil List.isEmpty_nil List.isEmpty_cons Option.getD_none or_false false_or true_or or_true forall_eq_or_imp forall_eq reduceCtorEq exists_eq exists_eq' exists_eq_left' exists_eq_left exists_eq_right exists_eq_right' imp_self implies_true Bool.and_true Bool.true_and Bool.and_self beq_self_eq_true List.replicate_succ List.replicate_zero forall_const false_implies kG0 kF2 beqT beqF Int.toNat_natCast List.length_map List.length_replicate ge_iff_le gt_iff_lt decide_eq_true_eq decide_eq_false_iff_not Bool.and_eq_true Bool.or_eq_true Bool.not_eq_true' Bool.not_eq_false' kJ7 List.toList_toArray Bool.or_eq_false_iff Bool.and_eq_false_iff Int.not_lt Int.not_le beq_iff_eq beq_eq_false_iff_ne bne_iff_ne bne_eq_false_iff_eq ne_eq Bool.not_true Bool.not_false exists_and_left
section
open Go.Vc
attribute [local irreducible] Go.Vc.WP
attribute [local go_sem] kAr kAs
structure Frame where
 name : ByteArray
 line : Int
deriving DecidableEq
def kAo (x : Frame) : List SV := [.v (.string x.name), .v (.int .i64 x.line)]
def kIh : List SV → Frame
 | [.v (.string name), .v (.int _ line)] => ⟨name, line⟩
 | _ => ⟨⟨#[]⟩, 0⟩
def kLp (rows : List (List SV)) : List Frame := rows.map kIh
theorem kA4 (x : Frame) : kIh (kAo x) = x := rfl
theorem kA9 (L : List Frame) : kLp (L.map kAo) = L := by
 unfold kLp
 rw [List.map_map]
 exact List.map_id'' kA4 L
section
open Go.RowKit Go.WideShapes Go.ChangeShapes Go.Deep
end
end
section
open Go.Vc
attribute [local irreducible] Go.Vc.WP
attribute [local go_sem] kAr kAs
structure Node where
 parent : Int
 name : ByteArray
 line : Int
deriving DecidableEq
def kAj (x : Node) : List SV := [.v (.int .i64 x.parent), .v (.string x.name), .v (.int .i64 x.line)]
def kLf : List SV → Node
 | [.v (.int _ parent), .v (.string name), .v (.int _ line)] => ⟨parent, name, line⟩
 | _ => ⟨0, ⟨#[]⟩, 0⟩
def kQg (rows : List (List SV)) : List Node := rows.map kLf
theorem k0k (x : Node) : kLf (kAj x) = x := rfl
theorem kBc (L : List Node) : kQg (L.map kAj) = L := by
 unfold kQg
 rw [List.map_map]
 exact List.map_id'' k0k L
theorem kDo {e s : Nat} (L : List Node) : (Ob.sl e s (L.map kAj)).isV ↔ True := iff_true_intro (by
 intro row hr c hc
 obtain ⟨n, _, rfl⟩ := List.mem_map.1 hr
 simp only [kAj, List.mem_cons, List.not_mem_nil, or_false] at hc
 rcases hc with rfl | rfl | rfl <;> exact ⟨_, rfl⟩)
attribute [local go_sem] kIh kAo
section
attribute [local go_sem] kLf
end
section
attribute [local go_sem] kLf
end
section
attribute [local go_sem] kLf
end
end
end Go.Proofs.YtdhkhapbldkkdaaGreatDoor
namespace Go.Pl
open Go
theorem kVv : ∀ l : List UInt8, Op.bytesLess l l = false
 | [] => rfl
 |a :: l => by simp [Op.bytesLess, kVv l]
theorem k7w : ∀ {x y : List UInt8}, Op.bytesLess x y = false → Op.bytesLess y x = false → x = y
 | [], [], _, _ => rfl
 | [], _ :: _, h, _ => by simp [Op.bytesLess] at h
 | _ :: _, [], _, h => by simp [Op.bytesLess] at h
 |a :: x, b :: y, h1, h2 => by
  simp only [Op.bytesLess, Bool.or_eq_false_iff, decide_eq_false_iff_not, Bool.and_eq_false_iff, beq_eq_false_iff_ne] at h1 h2
  have hab : a = b := UInt8.le_antisymm (UInt8.not_lt.1 h2.1) (UInt8.not_lt.1 h1.1)
  subst hab
  have e1 : Op.bytesLess x y = false := h1.2.resolve_left fun h => h rfl
  have e2 : Op.bytesLess y x = false := h2.2.resolve_left fun h => h rfl
  rw [k7w e1 e2]
theorem kY8 : ∀ {x y z : List UInt8}, Op.bytesLess x y = true → Op.bytesLess y z = true → Op.bytesLess x z = true
 | _, [], _, h, _ => by simp [Op.bytesLess] at h
 | _, _ :: _, [], _, h => by simp [Op.bytesLess] at h
 | [], _ :: _, _ :: _, _, _ => rfl
 |a :: x, b :: y, c :: z, h1, h2 => by
  simp only [Op.bytesLess, Bool.or_eq_true, decide_eq_true_eq, Bool.and_eq_true, beq_iff_eq] at h1 h2 ⊢
  rcases h1 with h1 | ⟨rfl, h1⟩
  ·rcases h2 with h2 | ⟨rfl, h2⟩
   ·exact .inl (UInt8.lt_trans h1 h2)
   ·exact .inl h1
  ·rcases h2 with h2 | ⟨rfl, h2⟩
   ·exact .inl h2
   ·exact .inr ⟨rfl, kY8 h1 h2⟩
def ltS (a b : ByteArray) : Bool := Op.bytesLess a.toList b.toList
theorem kWt {a b : ByteArray} (h : a.toList = b.toList) : a = b := by
 rw [ByteArray.toList_eq, ByteArray.toList_eq] at h
 exact ByteArray.ext (Array.toList_inj.1 h)
theorem kOa (a : ByteArray) : ltS a a = false := kVv _
theorem kPn {a b c : ByteArray} (h1 : ltS a b = true) (h2 : ltS b c = true) : ltS a c = true := kY8 h1 h2
theorem qB9 {a b : ByteArray} (h1 : ltS a b = false) (h2 : ltS b a = false) : a = b := kWt (k7w h1 h2)
theorem ltS_ne {a b : ByteArray} (h : ltS a b = true) : a ≠ b := fun e => by subst e; rw [kOa] at h; cases h
theorem k7n {a b : ByteArray} (h1 : ltS a b = false) (h2 : a ≠ b) : ltS b a = true := by
 cases h : ltS b a with
 |true => rfl
 |false => exact absurd (qB9 h1 h) h2
theorem k3s {a b c : ByteArray} (h1 : ltS a b = false) (h2 : ltS b c = false) : ltS a c = false := by
 cases h : ltS a c with
 |false => rfl
 |true =>
  by_cases hab : a = b
  ·subst hab; rw [h2] at h; cases h
  ·have := kPn (k7n h1 hab) h; rw [h2] at this; cases this
section
variable {α : Type} (lt : α → α → Bool)
def Asc (L : List α) : Prop := L.Pairwise fun a b => lt a b = true
structure kHt : Prop where
 irrefl : ∀ a, lt a a = false
 trans : ∀ a b c, lt a b = true → lt b c = true → lt a c = true
variable {lt}
theorem kHt.asymm (h : kHt lt) {a b : α} (hab : lt a b = true) : lt b a = false := by
 cases h2 : lt b a with
 |false => rfl
 |true => have := h.trans _ _ _ hab h2; rw [h.irrefl] at this; cases this
theorem Asc.unique (h : kHt lt) : ∀ {L M : List α}, Asc lt L → Asc lt M → L.Perm M → L = M
 | [], M, _, _, hp => (List.Perm.nil_eq hp)
 |a :: L, [], _, _, hp => (by have := hp.length_eq; simp at this)
 |a :: L, b :: M, hL, hM, hp => by
  have hL' := List.pairwise_cons.1 hL
  have hM' := List.pairwise_cons.1 hM
  have hab : a = b := by
   have h1 : a ∈ b :: M := hp.subset List.mem_cons_self
   have h2 : b ∈ a :: L := hp.symm.subset List.mem_cons_self
   rcases List.mem_cons.1 h1 with e | e
   ·exact e
   ·rcases List.mem_cons.1 h2 with e2 | e2
    ·exact e2.symm
    ·have := h.asymm (hM'.1 a e); rw [hL'.1 b e2] at this; cases this
  subst hab
  rw [Asc.unique h hL'.2 hM'.2 (List.Perm.cons_inv hp)]
def ins (lt : α → α → Bool) (x : α) (L : List α) : List α := L.takeWhile (fun y => lt y x) ++ x :: L.dropWhile (fun y => lt y x)
theorem kR1 (x : α) (L : List α) : (ins lt x L).Perm (x :: L) := by
 unfold ins
 refine List.perm_middle.trans ?_
 rw [List.takeWhile_append_dropWhile]
theorem qCa {x y : α} {L : List α} : y ∈ ins lt x L ↔ y = x ∨ y ∈ L := by
 rw [(kR1 (lt := lt) x L).mem_iff]; simp
theorem kJ0 {p : α → Bool} : ∀ {L : List α} {a : α}, a ∈ L.takeWhile p → p a = true ∧ a ∈ L
 |b :: L, a, h => by
  rw [List.takeWhile_cons] at h
  split at h
  ·rename_i hb
   rcases List.mem_cons.1 h with rfl | h
   ·exact ⟨hb, List.mem_cons_self⟩
   ·exact ⟨(kJ0 h).1, List.mem_cons_of_mem _ (kJ0 h).2⟩
  ·cases h
 | [], a, h => by cases h
theorem kY9 (h : kHt lt) {x : α} : ∀ {L : List α}, Asc lt L → (∀ y ∈ L, lt y x = true ∨ lt x y = true) → ∀ y ∈ L.dropWhile (fun y => lt y x), lt x y = true
 | [], _, _, y, hy => by cases hy
 |a :: L, hL, hx, y, hy => by
  have hL' := List.pairwise_cons.1 hL
  rw [List.dropWhile_cons] at hy
  split at hy
  ·exact kY9 h hL'.2 (fun y hy => hx y (List.mem_cons_of_mem _ hy)) y hy
  ·rename_i ha
   have hxa : lt x a = true := (hx a List.mem_cons_self).resolve_left ha
   rcases List.mem_cons.1 hy with rfl | hy
   ·exact hxa
   ·exact h.trans _ _ _ hxa (hL'.1 y hy)
theorem qCb (h : kHt lt) {x : α} {L : List α} (hL : Asc lt L) (hx : ∀ y ∈ L, lt y x = true ∨ lt x y = true) : Asc lt (ins lt x L) := by
 have hd := kY9 h hL hx
 unfold ins Asc
 have hs : (L.takeWhile (fun y => lt y x) ++ L.dropWhile (fun y => lt y x)).Pairwise fun a b => lt a b = true := by rw [List.takeWhile_append_dropWhile]; exact hL
 rw [List.pairwise_append] at hs ⊢
 refine ⟨hs.1, List.pairwise_cons.2 ⟨hd, hs.2.1⟩, fun a ha b hb => ?_⟩
 rcases List.mem_cons.1 hb with rfl | hb
 ·exact (kJ0 ha).1
 ·exact hs.2.2 a ha b hb
def kHu (lt : α → α → Bool) (L : List α) : List α := L.foldl (fun acc x => ins lt x acc) []
theorem kNk : ∀ (L acc : List α), (L.foldl (fun acc x => ins lt x acc) acc).Perm (L ++ acc)
 | [], acc => List.Perm.refl _
 |x :: L, acc => by
  refine (kNk L _).trans ?_
  refine ((kR1 (lt := lt) x acc).append_left L).trans ?_
  exact List.perm_middle
theorem kHw (L : List α) : (kHu lt L).Perm L := by have := kNk (lt := lt) L []; rwa [List.append_nil] at this
theorem kSv (L : List α) : (kHu lt L).length = L.length := (kHw L).length_eq
theorem kSy {L : List α} {y : α} : y ∈ kHu lt L ↔ y ∈ L := (kHw L).mem_iff
theorem kNl (h : kHt lt) : ∀ (L acc : List α), Asc lt acc → (L ++ acc).Pairwise (fun a b => lt a b = true ∨ lt b a = true) → Asc lt (L.foldl (fun acc x => ins lt x acc) acc)
 | [], acc, ha, _ => ha
 |x :: L, acc, ha, hp => by
  have hp' := List.pairwise_cons.1 hp
  refine kNl h L _ (qCb h ha fun y hy => (hp'.1 y (List.mem_append_right _ hy)).symm) ?_
  have hp2 := List.pairwise_append.1 hp'.2
  refine List.pairwise_append.2 ⟨hp2.1, ?_, fun a hA b hb => ?_⟩
  ·have : (x :: acc).Pairwise (fun a b => lt a b = true ∨ lt b a = true) := List.pairwise_cons.2 ⟨fun y hy => hp'.1 y (List.mem_append_right _ hy), hp2.2.1⟩
   exact ((kR1 (lt := lt) x acc).pairwise_iff (fun h => h.symm)).2 this
  ·rcases qCa.1 hb with rfl | hb
   ·exact (hp'.1 a (List.mem_append_left _ hA)).symm
   ·exact hp2.2.2 a hA b hb
theorem kSz (h : kHt lt) {L : List α} (hp : L.Pairwise fun a b => lt a b = true ∨ lt b a = true) : Asc lt (kHu lt L) :=
 kNl h L [] List.Pairwise.nil (by rwa [List.append_nil])
theorem kWq (h : kHt lt) {L M : List α} (hp : L.Pairwise fun a b => lt a b = true ∨ lt b a = true) (hM : M.Perm L) (hs : M.Pairwise fun a b => lt b a = false) : M = kHu lt L := by
 have hMp : M.Pairwise fun a b => lt a b = true ∨ lt b a = true := (hM.pairwise_iff (fun h => h.symm)).2 hp
 have hMA : Asc lt M := by
  unfold Asc
  refine (hs.and hMp).imp ?_
  rintro a b ⟨h1, h2⟩
  exact h2.resolve_right (by rw [h1]; simp)
 exact Asc.unique h hMA (kSz h hp) (hM.trans (kHw L).symm)
end
end Go.Pl

namespace Go.Proofs.YtdhkhapbldkkdaaGreatDoor
def joinL (c : UInt8) : List (List UInt8) → List UInt8
 | [] => []
 | [x] => x
 |x :: y :: l => x ++ c :: joinL c (y :: l)
def cutL (c : UInt8) : List UInt8 → List (List UInt8)
 | [] => [[]]
 |b :: l => if b = c then [] :: cutL c l else match cutL c l with
  | [] => [[b]]
  |x :: xs => (b :: x) :: xs
theorem kNh (c : UInt8) : ∀ l, cutL c l ≠ []
 | [] => by simp [cutL]
 |b :: l => by
  unfold cutL
  split
  ·simp
  ·split <;> simp
theorem kGa (c : UInt8) : ∀ {l : List UInt8}, c ∉ l → cutL c l = [l]
 | [], _ => rfl
 |b :: l, h => by
  simp only [List.mem_cons, not_or] at h
  unfold cutL
  rw [if_neg (fun e => h.1 e.symm), kGa c h.2]
theorem kG3 (c : UInt8) : ∀ {x : List UInt8} (l : List UInt8), c ∉ x → cutL c (x ++ c :: l) = x :: cutL c l
 | [], l, _ => by rw [List.nil_append, cutL, if_pos rfl]
 |b :: x, l, h => by
  simp only [List.mem_cons, not_or] at h
  rw [List.cons_append, cutL, if_neg (fun e => h.1 e.symm), kG3 c l h.2]
theorem kPo (c : UInt8) : ∀ {L : List (List UInt8)}, L ≠ [] → (∀ x ∈ L, c ∉ x) → cutL c (joinL c L) = L
 | [x], _, h => by rw [joinL]; exact kGa c (h x (by simp))
 |x :: y :: l, _, h => by
  rw [joinL, kG3 c _ (h x (by simp)), kPo c (by simp) (fun z hz => h z (List.mem_cons_of_mem _ hz))]
def frOk (f : Frame) : Bool := kBv f.name && decide (0 ≤ f.line) && decide (f.line ≤ 59)
theorem kEe {f : Frame} : frOk f = true ↔ kBv f.name = true ∧ 0 ≤ f.line ∧ f.line ≤ 59 := by simp [frOk, and_assoc]
def kDh (f : Frame) : List UInt8 := f.name.data.toList ++ 58 :: fmtL f.line.toNat
def fmtF (L : List Frame) : ByteArray := if L.all frOk = true then bts (joinL 59 (L.map kDh)) else ⟨#[]⟩
def kHj (p : List UInt8) : Option Frame := match cutL 58 p with
 | [n, d] => Option.map (fun (v : Nat) => (⟨bts n, (v : Int)⟩ : Frame)) (kBj (bts d))
 | _ => none
def kDz (s : ByteArray) : Option (List Frame) := match (cutL 59 s.data.toList).mapM kHj with
 |some L => if s.size ≠ 0 ∧ fmtF L = s then some L else none
 |none => none
theorem kBk {s : ByteArray} (h : kBv s = true) : (∀ c ∈ s.data.toList, 97 ≤ c.toNat ∧ c.toNat ≤ 122) ∧ 1 ≤ s.size ∧ s.size ≤ 8 := by
 simp only [kBv, Bool.and_eq_true, decide_eq_true_eq, List.all_eq_true] at h
 exact ⟨fun c hc => by have := h.1.1 c hc; simpa [letter] using this, h.1.2, h.2⟩
theorem kY3 : ∀ (n k : Nat), k ≤ n → ∀ c ∈ decB k, 48 ≤ c.toNat ∧ c.toNat ≤ 57
 | 0, k, hk, c, hc => by
  have : k = 0 := by omega
  subst this; simp [decB] at hc
 |n + 1, k, hk, c, hc => by
  rcases Nat.eq_zero_or_pos k with h0 | h0
  ·subst h0; simp [decB] at hc
  ·rw [kG4 k h0, List.mem_append] at hc
   rcases hc with hc | hc
   ·exact kY3 n (k / 10) (by omega) c hc
   ·simp only [List.mem_cons, List.not_mem_nil, or_false] at hc
    subst hc
    have : (UInt8.ofNat (48 + k % 10)).toNat = 48 + k % 10 := by simp [UInt8.toNat_ofNat']; omega
    omega
theorem kIi (k : Nat) : ∀ c ∈ fmtL k, 48 ≤ c.toNat ∧ c.toNat ≤ 57 := by
 intro c hc
 unfold fmtL at hc
 split at hc
 ·simp only [List.mem_cons, List.not_mem_nil, or_false] at hc; subst hc; decide
 ·exact kY3 k k (Nat.le_refl _) c hc
theorem kUp (k : Nat) : fmtL k ≠ [] := by
 unfold fmtL
 split
 ·simp
 ·rename_i h; rw [kG4 k (by omega)]; simp
theorem kPp : ∀ (n k : Nat), k ≤ n → valL (decB k) = k
 | 0, k, hk => by
  have : k = 0 := by omega
  subst this; simp [decB, valL]
 |n + 1, k, hk => by
  rcases Nat.eq_zero_or_pos k with h0 | h0
  ·subst h0; simp [decB, valL]
  ·rw [kG4 k h0, kMe, kPp n (k / 10) (by omega)]
   have : (UInt8.ofNat (48 + k % 10)).toNat = 48 + k % 10 := by simp [UInt8.toNat_ofNat']; omega
   omega
theorem kVs (k : Nat) : valL (fmtL k) = k := by
 unfold fmtL
 split
 ·rename_i h; subst h; simp [valL]
 ·exact kPp k k (Nat.le_refl _)
theorem kIk (n k : Nat) (h : k < 10 ^ n) (hn : 0 < n) : (fmtL k).length ≤ n := by
 unfold fmtL
 split
 ·simp only [List.length_cons, List.length_nil]; omega
 ·exact kRx n k h
theorem kKa (k : Nat) (h : k ≤ 1000000000) : kBj (bts (fmtL k)) = some k := by
 have hd : (fmtL k).all dig = true := by
  rw [List.all_eq_true]
  intro c hc
  exact kIt.2 (kIi k c hc)
 have hl : (bts (fmtL k)).data.toList = fmtL k := by simp [bts]
 have hv : valN (bts (fmtL k)) (bts (fmtL k)).size = k := by rw [qAa, hl, kVs]
 have hsz := kBb (fmtL k)
 have hlen := kIk 10 k (by omega) (by omega)
 have hne := kUp k
 have h1 := k7q (fmtL k) hd
 rw [kVs] at h1
 have h2 := h1.1 rfl
 unfold kBj
 rw [if_pos, hv]
 refine ⟨fun e => hne (List.eq_nil_of_length_eq_zero (by omega)), by omega, fun ⟨a, b⟩ => h2.2 ⟨by omega, ?_⟩, by rw [hl]; exact hd, by rw [hv]; exact h⟩
 have := qAb (bts (fmtL k)) (by omega)
 rw [hl, b] at this
 exact this
theorem k3r {f : Frame} (h : frOk f = true) : (59 : UInt8) ∉ kDh f := by
 intro hc
 obtain ⟨h1, _⟩ := kEe.1 h
 unfold kDh at hc
 rcases List.mem_append.1 hc with hc | hc
 ·have := (kBk h1).1 _ hc
  have e : (59 : UInt8).toNat = 59 := rfl
  omega
 ·rcases List.mem_cons.1 hc with hc | hc
  ·exact absurd hc (by decide)
  ·have := kIi _ _ hc
   have e : (59 : UInt8).toNat = 59 := rfl
   omega
theorem k7r {f : Frame} (h : frOk f = true) : kHj (kDh f) = some f := by
 obtain ⟨h1, h2, h3⟩ := kEe.1 h
 have hn : (58 : UInt8) ∉ f.name.data.toList := fun hc => by
  have := (kBk h1).1 _ hc
  have e : (58 : UInt8).toNat = 58 := rfl
  omega
 have hd : (58 : UInt8) ∉ fmtL f.line.toNat := fun hc => by
  have := kIi _ _ hc
  have e : (58 : UInt8).toNat = 58 := rfl
  omega
 unfold kHj kDh
 rw [kG3 58 _ hn, kGa 58 hd]
 simp only
 rw [kKa _ (by omega), kEn]
 obtain ⟨name, line⟩ := f
 simp only at h2 ⊢
 rw [Option.map_some]
 congr 2
 omega
theorem kS8 : ∀ {L : List Frame}, L.all frOk = true → (L.map kDh).mapM kHj = some L
 | [], _ => rfl
 |f :: L, h => by
  simp only [List.all_cons, Bool.and_eq_true] at h
  simp [k7r h.1, kS8 h.2]
theorem kMf {f : Frame} (h : frOk f = true) : 3 ≤ (kDh f).length ∧ (kDh f).length ≤ 11 := by
 obtain ⟨h1, h2, h3⟩ := kEe.1 h
 have hn := kBk h1
 have hl := kIk 2 f.line.toNat (by omega) (by omega)
 have hp := List.length_pos_iff.2 (kUp f.line.toNat)
 unfold kDh
 have : f.name.data.toList.length = f.name.size := by simp
 simp only [List.length_append, List.length_cons]
 omega
theorem kPq : ∀ (L : List (List UInt8)) (n : Nat), (∀ x ∈ L, x.length ≤ n) → (joinL 59 L).length ≤ (n + 1) * L.length
 | [], n, _ => by simp [joinL]
 | [x], n, h => by have := h x (by simp); simp only [joinL, List.length_cons, List.length_nil]; omega
 |x :: y :: l, n, h => by
  have ih := kPq (y :: l) n fun z hz => h z (List.mem_cons_of_mem _ hz)
  have := h x (by simp)
  simp only [joinL, List.length_append, List.length_cons] at ih ⊢
  have e : (n + 1) * (l.length + 1 + 1) = (n + 1) * (l.length + 1) + (n + 1) := by rw [Nat.mul_add]; omega
  omega
theorem k7p (L : List Frame) : (fmtF L).size ≤ 12 * L.length := by
 unfold fmtF
 split
 ·rename_i h
  rw [kBb]
  have := kPq (L.map kDh) 11 (fun x hx => by
   obtain ⟨f, hf, rfl⟩ := List.mem_map.1 hx
   exact (kMf (List.all_eq_true.1 h f hf)).2)
  simpa using this
 ·simp [ByteArray.size]
theorem qB5 {L : List Frame} (h : L.all frOk = true) (hne : L ≠ []) : (fmtF L).size ≠ 0 := by
 unfold fmtF
 rw [if_pos h, kBb]
 match L, hne with
 | [f], _ =>
  have := (kMf (f := f) (by simpa using h)).1
  simp only [List.map_cons, List.map_nil, joinL]; omega
 |f :: g :: l, _ => simp [joinL]
theorem kKg {L : List Frame} (h : L.all frOk = true) (hne : L ≠ []) : kDz (fmtF L) = some L := by
 have e : fmtF L = bts (joinL 59 (L.map kDh)) := by unfold fmtF; rw [if_pos h]
 have hl : (fmtF L).data.toList = joinL 59 (L.map kDh) := by rw [e]; simp [bts]
 unfold kDz
 rw [hl, kPo 59 (by simpa using hne) (fun x hx => by
  obtain ⟨f, hf, rfl⟩ := List.mem_map.1 hx
  exact k3r (List.all_eq_true.1 h f hf)), kS8 h]
 simp only
 rw [if_pos ⟨qB5 h hne, by first | rfl | trivial⟩]
theorem k0p {s : ByteArray} {L : List Frame} (h : kDz s = some L) : fmtF L = s ∧ L ≠ [] ∧ L.all frOk = true := by
 unfold kDz at h
 split at h
 ·rename_i M hM
  split at h
  ·rename_i h2
   cases h
   refine ⟨h2.2, fun e => ?_, ?_⟩
   ·subst e
    have := h2.2
    simp only [fmtF, List.all_nil, List.map_nil, joinL, if_true] at this
    exact h2.1 (by rw [← this]; rfl)
   ·by_cases ha : L.all frOk = true
    ·exact ha
    ·have := h2.2
     unfold fmtF at this
     rw [if_neg ha] at this
     exact absurd (by rw [← this]; rfl) h2.1
  ·cases h
 ·cases h
theorem kYx {L M : List Frame} (hL : L.all frOk = true) (hM : M.all frOk = true) (hl : L ≠ []) (hm : M ≠ []) (h : fmtF L = fmtF M) : L = M := by
 have h1 := kKg hL hl
 rw [h, kKg hM hm] at h1
 exact (Option.some.inj h1).symm
end Go.Proofs.YtdhkhapbldkkdaaGreatDoor

namespace Go.Proofs.YtdhkhapbldkkdaaGreatDoor
open Go.Pl
def kD9 (x : Node) : Frame := ⟨x.name, x.line⟩
def mkNode (p : Int) (f : Frame) : Node := ⟨p, f.name, f.line⟩
def kEi (N : List Node) (k : Nat) (x : Node) : Bool := decide (-1 ≤ x.parent) && decide (x.parent ≤ (k : Int) - 1) && frOk (kD9 x) && (N.take k).all fun y => decide (y ≠ x)
theorem kDk {N : List Node} {k : Nat} {x : Node} : kEi N k x = true ↔ -1 ≤ x.parent ∧ x.parent ≤ (k : Int) - 1 ∧ frOk (kD9 x) = true ∧ ∀ y ∈ N.take k, y ≠ x := by
 simp [kEi, and_assoc]
def kA8 (N : List Node) : Bool := decide (∀ k (h : k < N.length), kEi N k N[k] = true)
theorem kDd {N : List Node} (h : kA8 N = true) (k : Nat) (hk : k < N.length) : kEi N k N[k] = true := by
 unfold kA8 at h
 exact of_decide_eq_true h k hk
theorem kLx {N : List Node} {k : Nat} (hk : k < N.length) (h : kEi N k N[k] = false) : kA8 N = false := by
 cases hs : kA8 N with
 |false => rfl
 |true => rw [kDd hs k hk] at h; cases h
theorem kLt {N : List Node} (h : ∀ k (h : k < N.length), kEi N k N[k] = true) : kA8 N = true := by
 unfold kA8
 exact decide_eq_true h
theorem kK7 {N : List Node} {k i : Nat} (hk : k < N.length) (hi : i < k) (h : N[i]'(by omega) = N[k]) : kEi N k N[k] = false := by
 cases hs : kEi N k N[k] with
 |false => rfl
 |true => exact absurd h ((kDk.1 hs).2.2.2 _ (by
   rw [List.mem_take_iff_getElem]
   exact ⟨i, by omega, rfl⟩))
theorem kVy {N : List Node} {k : Nat} {x : Node} (h1 : -1 ≤ x.parent) (h2 : x.parent ≤ (k : Int) - 1) (h3 : frOk (kD9 x) = true) (h4 : ∀ i (hi : i < N.length), i < k → N[i] ≠ x) : kEi N k x = true := by
 refine kDk.2 ⟨h1, h2, h3, fun y hy => ?_⟩
 rw [List.mem_take_iff_getElem] at hy
 obtain ⟨i, hi, rfl⟩ := hy
 exact h4 i (by omega) (by omega)
def kHh (p : Int) (f : Frame) (x : Node) : Bool := decide (x.parent = p) && decide (kD9 x = f)
def child (N : List Node) (p : Int) (f : Frame) : Int := firstIdx (kHh p f) N
theorem kNm {α : Type} (p : α → Bool) (L : List α) : -1 ≤ firstIdx p L ∧ firstIdx p L < L.length ∨ firstIdx p L = -1 := by
 unfold firstIdx
 split
 ·rename_i i h
  have := (List.findIdx?_eq_some_iff_getElem.1 h).1
  left; omega
 ·right; rfl
theorem kKd (N : List Node) (p : Int) (f : Frame) : -1 ≤ child N p f ∧ child N p f < N.length := by
 have := kNm (kHh p f) N
 unfold child
 omega
def upF (N : List Node) : Nat → Int → List Frame
 | 0, _ => []
 |n + 1, k => if k < 0 then [] else match N[k.toNat]? with
  |some x => kD9 x :: upF N n x.parent
  |none => []
def kBz (N : List Node) (k : Int) : List Frame := if kA8 N = true ∧ 0 ≤ k ∧ k < N.length then (upF N (k.toNat + 1) k).reverse else []
theorem k1v (N : List Node) : ∀ f k, (upF N f k).length ≤ f
 | 0, _ => by simp [upF]
 |f + 1, k => by
  rw [upF]
  split
  ·simp
  ·split
   ·rename_i x _
    have := k1v N f x.parent
    simp only [List.length_cons]; omega
   ·simp
theorem kFu (N : List Node) (f : Nat) (k : Int) (h : k < 0) : upF N f k = [] := by
 cases f with
 |zero => rfl
 |succ f => rw [upF, if_pos h]
theorem kFt (N : List Node) (f q : Nat) (h : q < N.length) (hf : q < f) : upF N f q = kD9 N[q] :: upF N (f - 1) N[q].parent := by
 obtain ⟨f, rfl⟩ : ∃ g, f = g + 1 := ⟨f - 1, by omega⟩
 rw [upF, if_neg (by omega), Int.toNat_natCast, List.getElem?_eq_getElem h]
 rfl
theorem kMz (N : List Node) (k : Int) : (kBz N k).length ≤ N.length := by
 unfold kBz
 split
 ·rw [List.length_reverse]; have := k1v N (k.toNat + 1) k; omega
 ·simp
theorem kYw {N : List Node} (hok : kA8 N = true) : ∀ (n f g q : Nat), q < n → q < N.length → q < f → q < g → upF N f q = upF N g q
 | 0, f, g, q, h, _, _, _ => by omega
 |n + 1, f, g, q, h, hq, hf, hg => by
  rw [kFt N f q hq hf, kFt N g q hq hg]
  congr 1
  have hn := kDk.1 (kDd hok q hq)
  rcases Int.lt_or_le N[q].parent 0 with h0 | h0
  ·rw [kFu _ _ _ h0, kFu _ _ _ h0]
  ·obtain ⟨r, hr⟩ := Int.eq_ofNat_of_zero_le h0
   rw [hr] at hn ⊢
   exact kYw hok n (f - 1) (g - 1) r (by omega) (by omega) (by omega) (by omega)
theorem k70 {N : List Node} (hok : kA8 N = true) : ∀ (f : Nat) (k : Int), k < N.length → (upF N f k).all frOk = true
 | 0, _, _ => rfl
 |f + 1, k, hk => by
  rcases Int.lt_or_le k 0 with h0 | h0
  ·rw [kFu _ _ _ h0]; rfl
  ·obtain ⟨q, rfl⟩ := Int.eq_ofNat_of_zero_le h0
   have hq : q < N.length := by omega
   have hn := kDk.1 (kDd hok q hq)
   rw [upF, if_neg (by omega), Int.toNat_natCast, List.getElem?_eq_getElem hq]
   simp only [List.all_cons, Bool.and_eq_true]
   exact ⟨hn.2.2.1, k70 hok f _ (by omega)⟩
theorem kF7 (N : List Node) (k : Int) : (kBz N k).all frOk = true := by
 unfold kBz
 split
 ·rename_i h; rw [List.all_reverse]; exact k70 h.1 _ _ h.2.2
 ·rfl
theorem kHi {N : List Node} (hok : kA8 N = true) (q : Nat) (hq : q < N.length) : kBz N q ≠ [] := by
 unfold kBz
 rw [if_pos ⟨hok, by omega, by omega⟩, Int.toNat_natCast, kFt N (q + 1) q hq (by omega)]
 simp
theorem k1w {N : List Node} (hok : kA8 N = true) : ∀ (n j k f g : Nat), j < n → j < N.length → k < N.length → j < f → k < g → upF N f j = upF N g k → j = k
 | 0, j, k, f, g, h, _, _, _, _, _ => by omega
 |n + 1, j, k, f, g, h, hj, hk, hf, hg, he => by
  rw [kFt N f j hj hf, kFt N g k hk hg] at he
  have h1 := (List.cons.inj he).1
  have h2 := (List.cons.inj he).2
  have nj := kDk.1 (kDd hok j hj)
  have nk := kDk.1 (kDd hok k hk)
  have hp : N[j].parent = N[k].parent := by
   rcases Int.lt_or_le N[j].parent 0 with a | a <;> rcases Int.lt_or_le N[k].parent 0 with b | b
   ·omega
   ·obtain ⟨r, hr⟩ := Int.eq_ofNat_of_zero_le b
    rw [kFu _ _ _ a, hr, kFt N (g - 1) r (by omega) (by omega)] at h2
    cases h2
   ·obtain ⟨r, hr⟩ := Int.eq_ofNat_of_zero_le a
    rw [kFu _ _ _ b, hr, kFt N (f - 1) r (by omega) (by omega)] at h2
    cases h2
   ·obtain ⟨r, hr⟩ := Int.eq_ofNat_of_zero_le a
    obtain ⟨s, hs⟩ := Int.eq_ofNat_of_zero_le b
    rw [hr, hs] at h2
    have := k1w hok n r s (f - 1) (g - 1) (by omega) (by omega) (by omega) (by omega) (by omega) h2
    omega
  have hxy : N[j] = N[k] := by
   have : ∀ x y : Node, kD9 x = kD9 y → x.parent = y.parent → x = y := by
    rintro ⟨a, b, c⟩ ⟨d, e, g⟩ h1 h2
    simp only [kD9, Frame.mk.injEq] at h1 h2
    obtain ⟨rfl, rfl⟩ := h1
    have h2 : a = d := h2
    rw [h2]
   exact this _ _ h1 hp
  rcases Nat.lt_trichotomy j k with hlt | heq | hgt
  ·have := kK7 hk hlt hxy; rw [kDd hok k hk] at this; cases this
  ·exact heq
  ·have := kK7 hj hgt hxy.symm; rw [kDd hok j hj] at this; cases this
theorem kQ9 {N : List Node} (hok : kA8 N = true) {j k : Nat} (hj : j < N.length) (hk : k < N.length) (h : kBz N j = kBz N k) : j = k := by
 unfold kBz at h
 rw [if_pos ⟨hok, by omega, by omega⟩, if_pos ⟨hok, by omega, by omega⟩, Int.toNat_natCast, Int.toNat_natCast] at h
 exact k1w hok (j + 1) j k _ _ (by omega) hj hk (by omega) (by omega) (List.reverse_inj.1 h)
def kDf : List Frame → List Node × Int → List Node × Int
 | [], s => s
 |f :: L, s => kDf L (if child s.1 s.2 f < 0 then (s.1 ++ [mkNode s.2 f], (s.1.length : Int)) else (s.1, child s.1 s.2 f))
def intern (N : List Node) (L : List Frame) : List Node × Int := if kA8 N = true ∧ L ≠ [] ∧ L.all frOk = true then kDf L (N, -1) else (N, -1)
theorem kVz : ∀ (L : List Frame) (s : List Node × Int), s.1.length ≤ (kDf L s).1.length ∧ (kDf L s).1.length ≤ s.1.length + L.length
 | [], s => by simp [kDf]
 |f :: L, s => by
  have := kVz L (if child s.1 s.2 f < 0 then (s.1 ++ [mkNode s.2 f], (s.1.length : Int)) else (s.1, child s.1 s.2 f))
  rw [kDf]
  simp only [List.length_cons]
  split at this
  ·rename_i h; rw [if_pos h]; simp only [List.length_append, List.length_cons, List.length_nil] at this; omega
  ·rename_i h; rw [if_neg h]; simp only at this; omega
theorem kR0 : ∀ (L : List Frame) (s : List Node × Int), (L = [] → 0 ≤ s.2 ∧ s.2 < s.1.length) → 0 ≤ (kDf L s).2 ∧ (kDf L s).2 < (kDf L s).1.length
 | [], s, h => h rfl
 |f :: L, s, h => by
  rw [kDf]
  refine kR0 L _ fun _ => ?_
  have := kKd s.1 s.2 f
  split
  ·simp only [List.length_append, List.length_cons, List.length_nil]; omega
  ·simp only; omega
theorem kOb (N : List Node) (L : List Frame) : N.length ≤ (intern N L).1.length ∧ (intern N L).1.length ≤ N.length + L.length := by
 unfold intern
 split
 ·have := kVz L (N, -1); simpa using this
 ·simp only; omega
theorem k71 (N : List Node) (L : List Frame) : (intern N L).2 = -1 ∨ (0 ≤ (intern N L).2 ∧ (intern N L).2 < (intern N L).1.length) := by
 unfold intern
 split
 ·rename_i h
  right
  exact kR0 L (N, -1) fun e => absurd e h.2.1
 ·left; rfl
theorem kRe {B : Nat} : ∀ (L : List Frame) (s : List Node × Int), (∀ x ∈ s.1, x.name.size ≤ B) → (∀ f ∈ L, f.name.size ≤ B) → ∀ x ∈ (kDf L s).1, x.name.size ≤ B
 | [], s, h, _ => h
 |f :: L, s, h, hL => by
  rw [kDf]
  refine kRe L _ ?_ fun g hg => hL g (List.mem_cons_of_mem _ hg)
  split
  ·intro x hx
   rcases List.mem_append.1 hx with hx | hx
   ·exact h x hx
   ·simp only [List.mem_cons, List.not_mem_nil, or_false] at hx
    subst hx
    exact hL f List.mem_cons_self
  ·exact h
theorem kZb {B : Nat} {N : List Node} {L : List Frame} (h : ∀ x ∈ N, x.name.size ≤ B) (hL : ∀ f ∈ L, f.name.size ≤ B) : ∀ x ∈ (intern N L).1, x.name.size ≤ B := by
 unfold intern
 split
 ·exact kRe L _ h hL
 ·exact h
def kH8 (C : List Int) : Bool := decide (∀ k (h : k < C.length), 0 ≤ C[k] ∧ C[k] ≤ 1000000000000 - (C.take k).sum)
def kAx (N : List Node) (C : List Int) : Bool := kA8 N && decide (C.length = N.length) && kH8 C
theorem kIj {C : List Int} (h : kH8 C = true) (k : Nat) (hk : k < C.length) : 0 ≤ C[k] ∧ C[k] ≤ 1000000000000 - (C.take k).sum := by
 unfold kH8 at h
 exact of_decide_eq_true h k hk
theorem kJz (C : List Int) (k : Nat) (hk : k < C.length) : (C.take (k + 1)).sum = (C.take k).sum + C[k] := by
 rw [List.take_succ_eq_append_getElem hk, List.sum_append]; simp
theorem kMk {C : List Int} (h : ∀ j (hj : j < C.length), 0 ≤ C[j] ∧ C[j] ≤ 1000000000000 - (C.take j).sum) : ∀ k, k ≤ C.length → 0 ≤ (C.take k).sum ∧ (C.take k).sum ≤ 1000000000000
 | 0, _ => by simp
 |k + 1, hk => by
  have ih := kMk h k (by omega)
  have := h k (by omega)
  rw [kJz C k (by omega)]; omega
theorem kBg {N : List Node} {C : List Int} : kAx N C = true ↔ kA8 N = true ∧ C.length = N.length ∧ kH8 C = true := by
 simp [kAx, and_assoc]
def kDe (N : List Node) (C : List Int) : Int := if kAx N C = true then C.sum else 0
theorem kH7 {N : List Node} {C : List Int} (h : kAx N C = true) (k : Nat) (hk : k ≤ C.length) : 0 ≤ (C.take k).sum ∧ (C.take k).sum ≤ 1000000000000 :=
 kMk (fun j hj => kIj (kBg.1 h).2.2 j hj) k hk
def addC (C : List Int) (m : Nat) (k : Nat) (n : Int) : List Int := (C ++ List.replicate (m - C.length) 0).set k ((C ++ List.replicate (m - C.length) 0).getD k 0 + n)
def kBm (N : List Node) (C : List Int) (L : List Frame) (n : Int) : (List Node × List Int) × Bool :=
 if kAx N C = true ∧ 0 ≤ n ∧ n ≤ 1000000000000 ∧ 0 ≤ (intern N L).2 ∧ kAx (intern N L).1 (addC C (intern N L).1.length (intern N L).2.toNat n) = true
 then (((intern N L).1, addC C (intern N L).1.length (intern N L).2.toNat n), true) else ((N, C), false)
end Go.Proofs.YtdhkhapbldkkdaaGreatDoor

namespace Go.Proofs.YtdhkhapbldkkdaaGreatDoor
open Go.Vc
attribute [local go_sem] St.runR St.runW St.kGq offV St.step St.kHb St.stepG kB7 kD8 St.prK St.pr St.kH2 St.eff St.kKz St.kGr St.kEy St.kHc aI aS aR aC St.isM St.argL Ctr.pure Ctr.lend Ctr.move Ctr.isL Ctr.wri pur len kA0 St.kI2 St.kF5 nthS kCr kCq obsR pairs kDa kC3 kD5 St.resL erL SV.ren1 SV.up SV.up2 Ob.up St.fzL kGj kFo St.kGk SV.kI3 St.fz SV.fz1 St.prep St.mvL St.mv SV.re1 rnOk St.prEq vals kC4 scEq Value.kd St.kH1 St.kEr cutR St.bnd St.kGp St.bld kGh outL retL outJ oR oC SV.upq SV.isSl SV.shut St.kHa St.kJ6 St.kE7 absC Ob.pl St.ev St.get St.put St.new St.kill SV.kill SV.kBp Ob.kill St.app St.wrt St.rowsOf St.res St.kAt lk er kE8 SV.strip SV.need SV.share SV.share1 SV.owns SV.kBq SV.kCo SV.good SV.good1 SV.rok SV.rok1 SV.rok2 SV.isV SV.isV2 kBr SV.cells SV.one SV.pur Ob.pb kEb kEh splice kDt kAy kGo kI0 kGn kHr retK outK outs okC okL okA okT nilC nilL nilA nilT kE9 kHd keepA kEz St.runG St.dltK St.least St.clean St.final St.hide offK badS badO SV.refs SV.leaf SV.kI4 Ob.refs dlOk fpAt Go.Vc.cover tups SV.kF4 St.out outC subL St.has rng wr Value.oneCell' Option.isSome_some Option.isSome_none List.nil_append Bool.false_eq_true List.map_cons List.map_nil List.all_cons List.all_nil List.length_cons List.length_nil List.drop_zero List.drop_succ_cons List.take_succ_cons List.take_zero List.drop_nil List.take_nil List.getElem?_cons_zero List.getElem?_cons_succ List.getElem?_nil List.cons_append List.nil_append List.append_nil List.append_assoc List.flatMap_cons List.flatMap_nil List.contains_cons List.contains_nil List.set_cons_zero List.set_cons_succ List.getElem?_toArray Option.getD_some Option.getD_none Option.map_some Option.map_none Option.bind_some Option.some.injEq Prod.mk.injEq if_true if_false true_and and_true and_self and_false false_and Bool.and_false Bool.false_and Bool.or_true Bool.true_or Bool.or_false Bool.false_or ne_eq not_true_eq_false not_false_eq_true decide_true decide_false List.mem_cons List.not_mem_nil List.filter_cons List.filter_nil List.any_cons List.any_nil List.isEmpty_nil List.isEmpty_cons Option.getD_none or_false false_or true_or or_true forall_eq_or_imp forall_eq reduceCtorEq exists_eq exists_eq' exists_eq_left' exists_eq_left exists_eq_right exists_eq_right' imp_self implies_true Bool.and_true Bool.true_and Bool.and_self beq_self_eq_true List.replicate_succ List.replicate_zero forall_const false_implies kG0 kF2 beqT beqF Int.toNat_natCast List.length_map List.length_replicate ge_iff_le gt_iff_lt decide_eq_true_eq decide_eq_false_iff_not Bool.and_eq_true Bool.or_eq_true Bool.not_eq_true' Bool.not_eq_false' kJ7 List.toList_toArray Bool.or_eq_false_iff Bool.and_eq_false_iff Int.not_lt Int.not_le beq_iff_eq beq_eq_false_iff_ne bne_iff_ne bne_eq_false_iff_eq ne_eq Bool.not_true Bool.not_false exists_and_left
section
open Go.Vc
attribute [local irreducible] Go.Vc.WP
attribute [local go_sem] kAr kAs
structure Entry where
 stack : ByteArray
 count : Int
deriving DecidableEq
def kC6 (x : Entry) : List SV := [.v (.string x.stack), .v (.int .i64 x.count)]
def kYo : List SV → Entry
 | [.v (.string stack), .v (.int _ count)] => ⟨stack, count⟩
 | _ => ⟨⟨#[]⟩, 0⟩
def kRq (rows : List (List SV)) : List Entry := rows.map kYo
theorem kYp (x : Entry) : kYo (kC6 x) = x := rfl
theorem kCx (L : List Entry) : kRq (L.map kC6) = L := by
 unfold kRq
 rw [List.map_map]
 exact List.map_id'' kYp L
theorem kDu {e s : Nat} (L : List Entry) : (Ob.sl e s (L.map kC6)).isV ↔ True := iff_true_intro (by
 intro row hr c hc
 obtain ⟨n, _, rfl⟩ := List.mem_map.1 hr
 simp only [kC6, List.mem_cons, List.not_mem_nil, or_false] at hc
 rcases hc with rfl | rfl <;> exact ⟨_, rfl⟩)
end
end Go.Proofs.YtdhkhapbldkkdaaGreatDoor
namespace Go.Proofs.YtdhkhapbldkkdaaGreatDoor
open Go.Pl
def ltE (a b : Entry) : Bool := ltS a.stack b.stack
theorem kS0 : kHt ltE := ⟨fun a => kOa _, fun a b c h1 h2 => kPn h1 h2⟩
theorem ltE_ne {a b : Entry} (h : a.stack ≠ b.stack) : ltE a b = true ∨ ltE b a = true := by
 cases h1 : ltE a b with
 |true => exact .inl rfl
 |false => exact .inr (k7n h1 h)
def kH6 (N : List Node) (C : List Int) (k : Nat) : Option Entry := if C.getD k 0 = 0 then none else some ⟨fmtF (kBz N k), C.getD k 0⟩
def rawE (N : List Node) (C : List Int) (n : Nat) : List Entry := (List.range n).filterMap (kH6 N C)
theorem k7o (N : List Node) (C : List Int) : rawE N C 0 = [] := rfl
theorem kMd (N : List Node) (C : List Int) (n : Nat) : rawE N C (n + 1) = rawE N C n ++ (kH6 N C n).toList := by
 unfold rawE
 rw [List.range_succ, List.filterMap_append, List.filterMap_cons, List.filterMap_nil]
 cases kH6 N C n <;> rfl
theorem kRv (N : List Node) (C : List Int) (n : Nat) : (rawE N C n).length ≤ n := by
 have := List.length_filterMap_le (kH6 N C) (List.range n)
 simpa [rawE] using this
theorem kRr {N : List Node} {C : List Int} {n : Nat} {x : Entry} (h : x ∈ rawE N C n) : ∃ k, k < n ∧ C.getD k 0 ≠ 0 ∧ x = ⟨fmtF (kBz N k), C.getD k 0⟩ := by
 unfold rawE at h
 obtain ⟨k, hk, he⟩ := List.mem_filterMap.1 h
 unfold kH6 at he
 split at he
 ·cases he
 ·rename_i h0
  exact ⟨k, by simpa using hk, h0, (Option.some.inj he).symm⟩
theorem kN8 {N : List Node} (hok : kA8 N = true) (C : List Int) : ∀ n, n ≤ N.length → (rawE N C n).Pairwise fun a b => a.stack ≠ b.stack
 | 0, _ => List.Pairwise.nil
 |n + 1, hn => by
  rw [kMd, List.pairwise_append]
  refine ⟨kN8 hok C n (by omega), ?_, fun a ha b hb => ?_⟩
  ·cases kH6 N C n <;> simp
  ·obtain ⟨k, hk, _, rfl⟩ := kRr ha
   have : b = ⟨fmtF (kBz N n), C.getD n 0⟩ := by
    unfold kH6 at hb
    split at hb
    ·simp at hb
    ·simpa using hb
   subst this
   intro e
   have h1 := kYx (kF7 N k) (kF7 N n) (kHi hok k (by omega)) (kHi hok n (by omega)) e
   have := kQ9 hok (by omega) (by omega) h1
   omega
theorem kVq {N : List Node} (hok : kA8 N = true) (C : List Int) (n : Nat) (hn : n ≤ N.length) : (rawE N C n).Pairwise fun a b => ltE a b = true ∨ ltE b a = true :=
 (kN8 hok C n hn).imp fun h => ltE_ne h
def entriesOf (N : List Node) (C : List Int) : List Entry := if kAx N C = true then kHu ltE (rawE N C C.length) else []
theorem kWs (N : List Node) (C : List Int) : (entriesOf N C).length ≤ C.length := by
 unfold entriesOf
 split
 ·rw [kSv]; exact kRv N C C.length
 ·simp
theorem kKy {N : List Node} {C : List Int} {x : Entry} (h : x ∈ entriesOf N C) : kAx N C = true ∧ ∃ k : Nat, k < N.length ∧ x.stack = fmtF (kBz N k) ∧ C[k]? = some x.count ∧ 0 < x.count ∧ x.count ≤ 1000000000000 := by
 unfold entriesOf at h
 split at h
 ·rename_i hp
  have hp' := kBg.1 hp
  obtain ⟨k, hk, h0, rfl⟩ := kRr (kSy.1 h)
  have hg : C.getD k 0 = C[k] := by rw [List.getD_eq_getElem?_getD, List.getElem?_eq_getElem hk]; rfl
  have hc := kIj hp'.2.2 k hk
  have hs := kH7 hp k (by omega)
  simp only [hg] at h0 ⊢
  exact ⟨hp, k, by omega, rfl, List.getElem?_eq_getElem hk, by omega, by omega⟩
 ·cases h
theorem kUo {N : List Node} {C : List Int} {x : Entry} (h : x ∈ entriesOf N C) : x.stack.size ≤ 12 * N.length := by
 obtain ⟨_, k, _, hs, _⟩ := kKy h
 have h1 := k7p (kBz N k)
 have h2 := kMz N k
 rw [hs]
 have := Nat.mul_le_mul_left 12 h2
 omega
theorem kS7 {N : List Node} {C : List Int} {x : Entry} (h : x ∈ entriesOf N C) : ∃ k : Nat, k < N.length ∧ x.stack = fmtF (kBz N k) ∧ kDz x.stack = some (kBz N k) ∧ kBz N k ≠ [] := by
 obtain ⟨hp, k, hk, hs, _⟩ := kKy h
 have hok := (kBg.1 hp).1
 refine ⟨k, hk, hs, ?_, kHi hok k hk⟩
 rw [hs]
 exact kKg (kF7 N k) (kHi hok k hk)
theorem k0o {N : List Node} {C : List Int} {L : List Frame} {n : Int} (h : (kBm N C L n).2 = true) : kAx (kBm N C L n).1.1 (kBm N C L n).1.2 = true := by
 unfold kBm at h ⊢
 split
 ·rename_i hh; exact hh.2.2.2.2
 ·rename_i hh; rw [if_neg hh] at h; cases h
theorem kRw (C : List Int) (m k : Nat) (n : Int) : (addC C m k n).length = max C.length m := by
 simp [addC]; omega
theorem kY2 (N : List Node) (C : List Int) (L : List Frame) (n : Int) : (kBm N C L n).1.1.length ≤ N.length + L.length ∧ (kBm N C L n).1.2.length ≤ max C.length (N.length + L.length) := by
 have := kOb N L
 unfold kBm
 split
 ·simp only [kRw]; omega
 ·simp only; omega
end Go.Proofs.YtdhkhapbldkkdaaGreatDoor

namespace Go.Proofs.YtdhkhapbldkkdaaGreatDoor
open Go.Pl
def hasName (s : ByteArray) (f : Frame) : Bool := decide (f.name = s)
def idxF (s : ByteArray) (L : List Frame) : Int := firstIdx (hasName s) L
def frsE (e : Entry) : List Frame := (kDz e.stack).getD []
def pick (s : ByteArray) (b : Bool) (L : List Frame) : List Frame := if (decide (0 ≤ idxF s L) == b) = true then L else []
theorem kNi {N : List Node} {C : List Int} {e : Entry} (h : e ∈ entriesOf N C) : frsE e ≠ [] ∧ fmtF (frsE e) = e.stack ∧ (frsE e).all frOk = true ∧ (frsE e).length ≤ N.length ∧ kDz e.stack = some (frsE e) := by
 obtain ⟨k, hk, h1, h2, h3⟩ := kS7 h
 have : frsE e = kBz N k := by unfold frsE; rw [h2]; rfl
 rw [this]; exact ⟨h3, h1.symm, kF7 N k, kMz N k, h2⟩
theorem kLs {α : Type} {p : α → Bool} {L : List α} (h : firstIdx p L < 0) : ∀ x ∈ L, p x = false := by
 unfold firstIdx at h
 split at h
 ·omega
 ·rename_i hn
  intro x hx
  have := List.findIdx?_eq_none_iff.1 hn x hx
  simpa using this
theorem kOw {N : List Node} {p : Int} {f : Frame} (h : kA8 N = true) (hp : -1 ≤ p) (hq : p < N.length) (hf : frOk f = true) (hc : child N p f < 0) : kA8 (N ++ [mkNode p f]) = true := by
 refine kLt fun k hk => ?_
 simp only [List.length_append, List.length_cons, List.length_nil] at hk
 rcases Nat.lt_or_ge k N.length with h1 | h1
 ·have := kDd h k h1
  unfold kEi at this ⊢
  rw [List.getElem_append_left h1, List.take_append_of_le_length (by omega)]
  exact this
 ·obtain rfl : k = N.length := by omega
  rw [List.getElem_append_right (by omega)]
  simp only [Nat.sub_self, List.getElem_cons_zero]
  refine kDk.2 ⟨hp, by simp only [mkNode]; omega, hf, fun y hy he => ?_⟩
  rw [List.take_append_of_le_length (by omega), List.take_length] at hy
  have := kLs hc y hy
  rw [he] at this
  simp [kHh, mkNode, kD9] at this
theorem kRz : ∀ (L : List Frame) (s : List Node × Int), kA8 s.1 = true → L.all frOk = true → -1 ≤ s.2 → s.2 < s.1.length → kA8 (kDf L s).1 = true
 | [], s, h, _, _, _ => h
 |f :: L, s, h, ha, h1, h2 => by
  simp only [List.all_cons, Bool.and_eq_true] at ha
  have hb := kKd s.1 s.2 f
  rw [kDf]
  split
  ·rename_i hc
   exact kRz L _ (kOw h h1 h2 ha.1 hc) ha.2 (by simp only; omega) (by simp only [List.length_append, List.length_cons, List.length_nil]; omega)
  ·exact kRz L _ h ha.2 hb.1 hb.2
theorem k7t {N : List Node} {L : List Frame} (h : kA8 N = true) : kA8 (intern N L).1 = true := by
 unfold intern
 split
 ·rename_i hh
  exact kRz L (N, -1) h hh.2.2 (by simp only; omega) (by simp only; omega)
 ·exact h
theorem kS1 {N : List Node} {L : List Frame} (h : kA8 N = true) (hL : L ≠ []) (ha : L.all frOk = true) : 0 ≤ (intern N L).2 ∧ (intern N L).2 < (intern N L).1.length := by
 unfold intern
 rw [if_pos ⟨h, hL, ha⟩]
 exact kR0 L (N, -1) fun e => absurd e hL
theorem k1t : ∀ {C : List Int} {k : Nat} (n : Int), k < C.length → (C.set k (C.getD k 0 + n)).sum = C.sum + n
 |x :: C, 0, n, _ => by simp; omega
 |x :: C, k + 1, n, h => by
  have := k1t (C := C) (k := k) n (by simpa using h)
  simp only [List.set_cons_succ, List.sum_cons, List.getD_cons_succ]
  rw [this]; omega
theorem kJe : ∀ {C : List Int}, (∀ x ∈ C, 0 ≤ x) → 0 ≤ C.sum
 | [], _ => by simp
 |x :: C, h => by
  have := kJe (C := C) fun y hy => h y (List.mem_cons_of_mem _ hy)
  have := h x List.mem_cons_self
  simp only [List.sum_cons]; omega
theorem qB8 (n : Nat) : (List.replicate n (0 : Int)).sum = 0 := by
 induction n with
 |zero => rfl
 |succ n ih => rw [List.replicate_succ, List.sum_cons, ih]; rfl
theorem k0q {C : List Int} (h0 : ∀ x ∈ C, 0 ≤ x) (ht : C.sum ≤ 1000000000000) : kH8 C = true := by
 unfold kH8
 refine decide_eq_true fun k hk => ⟨h0 _ (List.getElem_mem hk), ?_⟩
 have h1 := kJz C k hk
 have h2 : C.sum = (C.take (k + 1)).sum + (C.drop (k + 1)).sum := by rw [← List.sum_append, List.take_append_drop]
 have h3 : 0 ≤ (C.drop (k + 1)).sum := kJe fun x hx => h0 x (List.mem_of_mem_drop hx)
 omega
theorem kPk {C : List Int} (h : kH8 C = true) : ∀ x ∈ C, 0 ≤ x := fun x hx => by
 obtain ⟨k, hk, rfl⟩ := List.mem_iff_getElem.1 hx
 exact (kIj h k hk).1
theorem qAd {C : List Int} {m k : Nat} (n : Int) (hk : k < max C.length m) : (addC C m k n).sum = C.sum + n := by
 unfold addC
 rw [k1t n (by simp only [List.length_append, List.length_replicate]; omega), List.sum_append, qB8]; omega
theorem kY5 {α : Type} {L : List α} {k : Nat} {x y : α} (h : y ∈ L.set k x) : y = x ∨ y ∈ L := by
 rcases List.mem_or_eq_of_mem_set h with h | h
 ·exact .inr h
 ·exact .inl h
theorem k0r {C : List Int} {m k : Nat} {n : Int} (h0 : ∀ x ∈ C, 0 ≤ x) (hn : 0 ≤ n) : ∀ x ∈ addC C m k n, 0 ≤ x := by
 have hD : ∀ x ∈ C ++ List.replicate (m - C.length) (0 : Int), 0 ≤ x := fun x hx => by
  rcases List.mem_append.1 hx with h | h
  ·exact h0 x h
  ·rw [List.mem_replicate] at h; omega
 intro x hx
 unfold addC at hx
 rcases kY5 hx with h | h
 ·rw [h]
  have : 0 ≤ (C ++ List.replicate (m - C.length) (0 : Int)).getD k 0 := by
   rw [List.getD_eq_getElem?_getD]
   cases hg : (C ++ List.replicate (m - C.length) (0 : Int))[k]? with
   |none => simp
   |some y => exact hD y (List.mem_of_getElem? hg)
  omega
 ·exact hD x h
theorem kUn {N : List Node} {C : List Int} {L : List Frame} {n : Int} (hp : kAx N C = true) (hL : L ≠ []) (ha : L.all frOk = true) (h0 : 0 ≤ n) (hs : C.sum + n ≤ 1000000000000) :
  (kBm N C L n).2 = true ∧ (kBm N C L n).1.2.sum = C.sum + n ∧ kAx (kBm N C L n).1.1 (kBm N C L n).1.2 = true := by
 obtain ⟨p1, p2, p3⟩ := kBg.1 hp
 have hn := kPk p3
 have hC0 := kJe hn
 obtain ⟨i0, i1⟩ := kS1 (N := N) p1 hL ha
 have il := (kOb N L).1
 have hk : (intern N L).2.toNat < max C.length (intern N L).1.length := by omega
 have hsum := qAd (C := C) (m := (intern N L).1.length) n hk
 have hok : kAx (intern N L).1 (addC C (intern N L).1.length (intern N L).2.toNat n) = true :=
  kBg.2 ⟨k7t p1, by rw [kRw]; omega, k0q (k0r hn h0) (by rw [hsum]; exact hs)⟩
 have hcond : kAx N C = true ∧ 0 ≤ n ∧ n ≤ 1000000000000 ∧ 0 ≤ (intern N L).2 ∧ kAx (intern N L).1 (addC C (intern N L).1.length (intern N L).2.toNat n) = true := ⟨hp, h0, by omega, i0, hok⟩
 unfold kBm
 rw [if_pos hcond]
 exact ⟨rfl, hsum, hok⟩
def sumE (L : List Entry) : Int := (L.map (·.count)).sum
theorem nilOk : kAx [] [] = true := by decide
theorem qAe {L M : List Int} (h : L.Perm M) : L.sum = M.sum := by
 induction h with
 |nil => rfl
 |cons x _ ih => simp only [List.sum_cons, ih]
 |swap x y l => simp only [List.sum_cons]; omega
 |trans _ _ h1 h2 => exact h1.trans h2
theorem kY6 (N : List Node) (C : List Int) : ∀ n, n ≤ C.length → sumE (rawE N C n) = (C.take n).sum
 | 0, _ => by simp [k7o, sumE]
 |n + 1, h => by
  have ih := kY6 N C n (by omega)
  rw [kMd, kJz C n h, ← ih]
  have e : C.getD n 0 = C[n] := by rw [List.getD_eq_getElem?_getD, List.getElem?_eq_getElem h]; rfl
  unfold kH6
  rw [e]
  split
  ·rename_i h0; simp [sumE, h0]
  ·simp [sumE]
theorem kJa (N : List Node) (C : List Int) : sumE (entriesOf N C) = kDe N C := by
 unfold entriesOf kDe
 split
 ·have h1 : ((kHu ltE (rawE N C C.length)).map (·.count)).Perm ((rawE N C C.length).map (·.count)) := (kHw _).map _
  have h2 := qAe h1
  have h3 := kY6 N C C.length (Nat.le_refl _)
  rw [List.take_length] at h3
  unfold sumE at h3 ⊢
  rw [h2, h3]
 ·rfl
theorem kOx (N : List Node) (C : List Int) : 0 ≤ kDe N C ∧ kDe N C ≤ 1000000000000 := by
 unfold kDe
 split
 ·rename_i h
  have := kH7 h C.length (Nat.le_refl _)
  rw [List.take_length] at this
  exact this
 ·omega
end Go.Proofs.YtdhkhapbldkkdaaGreatDoor

namespace Go.Proofs.YtdhkhapbldkkdaaGreatDoor
open Go.Pl
instance inhE : Inhabited Entry := ⟨⟨⟨#[]⟩, 0⟩⟩
instance memBA (t : ByteArray) (ns : List ByteArray) : Decidable (t ∈ ns) := decidable_of_iff (∃ x, x ∈ ns ∧ x = t) (by simp)
structure Rep' (L : List Entry) (f : ByteArray → Option Int) : Prop where
 nd : L.Pairwise fun a b => a.stack ≠ b.stack
 mem : ∀ e : Entry, e ∈ L ↔ f e.stack = some e.count
def updF (f : ByteArray → Option Int) (s : ByteArray) (c : Int) (t : ByteArray) : Option Int := if t = s then some ((f s).getD 0 + c) else f t
theorem Rep'.nil : Rep' [] (fun _ => none) := ⟨.nil, fun e => by simp⟩
theorem Rep'.none {L : List Entry} {f : ByteArray → Option Int} (h : Rep' L f) {s : ByteArray} (hs : ∀ x ∈ L, x.stack ≠ s) : f s = none := by
 cases hf : f s with
 |none => rfl
 |some n => exact absurd rfl (hs ⟨s, n⟩ ((h.mem _).2 hf))
theorem Rep'.put {L A B : List Entry} {f : ByteArray → Option Int} (h : Rep' L f) (hL : L = A ++ B) {s : ByteArray} {c : Int} (hs : ∀ x ∈ L, x.stack ≠ s) : Rep' (A ++ ⟨s, c⟩ :: B) (updF f s c) := by
 have hp : (A ++ ⟨s, c⟩ :: B).Perm (⟨s, c⟩ :: L) := by rw [hL]; exact List.perm_middle
 have hn := h.none hs
 refine ⟨?_, fun e => ?_⟩
 ·refine (hp.pairwise_iff (fun {a b} hh => Ne.symm hh)).2 ?_
  exact List.pairwise_cons.2 ⟨fun x hx => Ne.symm (hs x hx), h.nd⟩
 ·rw [hp.mem_iff, List.mem_cons, h.mem]
  unfold updF
  by_cases he : e.stack = s
  ·rw [if_pos he, he, hn]
   constructor
   ·rintro (h1 | h1)
    ·rw [h1]; simp
    ·cases h1
   ·intro h1
    left
    obtain ⟨a, b⟩ := e
    simp only at he
    simp only [Option.getD_none, Int.zero_add, Option.some.injEq] at h1
    rw [he, h1]
  ·rw [if_neg he]
   constructor
   ·rintro (h1 | h1)
    ·exact absurd (by rw [h1]) he
    ·exact h1
   ·exact .inr
theorem Rep'.up {L : List Entry} {f : ByteArray → Option Int} (h : Rep' L f) {k : Nat} (hk : k < L.length) (c : Int) : Rep' (L.set k ⟨L[k].stack, L[k].count + c⟩) (updF f L[k].stack c) := by
 have hat : ∀ i (hi : i < L.length), L[i].stack = L[k].stack → i = k := fun i hi he => by
  rcases Nat.lt_trichotomy i k with h1 | h1 | h1
  ·exact absurd he ((List.pairwise_iff_getElem.1 h.nd) i k hi hk h1)
  ·exact h1
  ·exact absurd he.symm ((List.pairwise_iff_getElem.1 h.nd) k i hk hi h1)
 have hf : f L[k].stack = some L[k].count := (h.mem _).1 (List.getElem_mem hk)
 refine ⟨?_, fun e => ?_⟩
 ·rw [List.pairwise_iff_getElem]
  intro i j hi hj hij
  simp only [List.length_set] at hi hj
  have h0 := (List.pairwise_iff_getElem.1 h.nd) i j hi hj hij
  rw [List.getElem_set, List.getElem_set]
  by_cases h1 : k = i
  ·subst h1
   rw [if_pos rfl, if_neg (by omega)]; exact h0
  ·rw [if_neg h1]
   by_cases h2 : k = j
   ·subst h2; rw [if_pos rfl]; exact h0
   ·rw [if_neg h2]; exact h0
 ·unfold updF
  by_cases he : e.stack = L[k].stack
  ·rw [if_pos he, hf]
   constructor
   ·intro hm
    obtain ⟨i, hi, hie⟩ := List.mem_iff_getElem.1 hm
    simp only [List.length_set] at hi
    rw [List.getElem_set] at hie
    by_cases h1 : k = i
    ·rw [if_pos h1] at hie; rw [← hie]; rfl
    ·rw [if_neg h1] at hie
     exact absurd (hat i hi (by rw [hie, he])).symm h1
   ·intro h1
    simp only [Option.getD_some, Option.some.injEq] at h1
    have : e = ⟨L[k].stack, L[k].count + c⟩ := by
     obtain ⟨a, b⟩ := e
     simp only at he h1
     rw [he, h1]
    rw [this]
    exact List.mem_iff_getElem.2 ⟨k, by simpa using hk, by simp⟩
  ·rw [if_neg he, ← h.mem]
   constructor
   ·intro hm
    rcases kY5 hm with h1 | h1
    ·exact absurd (by rw [h1]) he
    ·exact h1
   ·intro hm
    obtain ⟨i, hi, hie⟩ := List.mem_iff_getElem.1 hm
    have : k ≠ i := fun e1 => by subst e1; exact he (by rw [hie])
    exact List.mem_iff_getElem.2 ⟨i, by simpa using hi, by rw [List.getElem_set, if_neg this]; exact hie⟩
theorem kJb {α : Type} {p : α → Bool} {L : List α} (h : ¬ firstIdx p L < 0) : ∃ (k : Nat) (hk : k < L.length), firstIdx p L = k ∧ p L[k] = true := by
 unfold firstIdx at h ⊢
 split at h
 ·rename_i i hi
  obtain ⟨h1, h2, _⟩ := List.findIdx?_eq_some_iff_getElem.1 hi
  exact ⟨i, h1, rfl, h2⟩
 ·omega
def kPm (e : Entry) : List ByteArray := (frsE e).map (·.name)
theorem kVu {E : List Entry} {k : Nat} (hk : k < E.length) : sumE (E.take (k + 1)) = sumE (E.take k) + E[k].count := by
 unfold sumE; rw [List.take_succ_eq_append_getElem hk, List.map_append, List.sum_append]; simp
end Go.Proofs.YtdhkhapbldkkdaaGreatDoor

namespace Go.Proofs.YtdhkhapbldkkdaaGreatDoor
open Go.Pl
theorem k1l {N : List Node} (hok : kA8 N = true) (M : List Node) : ∀ (n f q : Nat), q < n → q < N.length → q < f → upF (N ++ M) f q = upF N f q
 | 0, f, q, h, _, _ => by omega
 |n + 1, f, q, h, hq, hf => by
  rw [kFt N f q hq hf, kFt (N ++ M) f q (by rw [List.length_append]; omega) hf, List.getElem_append_left hq]
  congr 1
  have hn := kDk.1 (kDd hok q hq)
  rcases Int.lt_or_le N[q].parent 0 with h0 | h0
  ·rw [kFu _ _ _ h0, kFu _ _ _ h0]
  ·obtain ⟨r, hr⟩ := Int.eq_ofNat_of_zero_le h0
   rw [hr] at hn ⊢
   exact k1l hok M n (f - 1) r (by omega) (by omega) (by omega)
def stk (N : List Node) (k : Int) : List Frame := (upF N (k.toNat + 1) k).reverse
theorem kUl (N : List Node) {k : Int} (h : k < 0) : stk N k = [] := by unfold stk; rw [kFu _ _ _ h]; rfl
theorem kKc {N : List Node} (hok : kA8 N = true) {k : Nat} (hk : k < N.length) : kBz N k = stk N k := by
 unfold kBz stk
 rw [if_pos ⟨hok, by omega, by omega⟩]
theorem k1m {N : List Node} (hok : kA8 N = true) (M : List Node) {k : Nat} (hk : k < N.length) : stk (N ++ M) k = stk N k := by
 unfold stk
 rw [Int.toNat_natCast, k1l hok M (k + 1) (k + 1) k (by omega) hk (by omega)]
theorem kYv {N : List Node} (hok : kA8 N = true) {k : Nat} (hk : k < N.length) : stk N k = stk N N[k].parent ++ [kD9 N[k]] := by
 have hn := kDk.1 (kDd hok k hk)
 unfold stk
 rw [Int.toNat_natCast, kFt N (k + 1) k hk (by omega), List.reverse_cons]
 congr 2
 rcases Int.lt_or_le N[k].parent 0 with h0 | h0
 ·rw [kFu _ _ _ h0, kFu _ _ _ h0]
 ·obtain ⟨r, hr⟩ := Int.eq_ofNat_of_zero_le h0
  rw [hr] at hn ⊢
  rw [Int.toNat_natCast]
  exact kYw hok (r + 1) _ _ r (by omega) (by omega) (by omega) (by omega)
theorem k7f {N : List Node} {p : Int} {f : Frame} (h : ¬ child N p f < 0) : ∃ (k : Nat) (hk : k < N.length), child N p f = k ∧ N[k].parent = p ∧ kD9 N[k] = f := by
 obtain ⟨k, hk, h1, h2⟩ := kJb h
 simp only [kHh, Bool.and_eq_true, decide_eq_true_eq] at h2
 exact ⟨k, hk, h1, h2.1, h2.2⟩
theorem stk_mk {N : List Node} {p : Int} {f : Frame} (hok : kA8 (N ++ [mkNode p f]) = true) (hok0 : kA8 N = true) (hp : -1 ≤ p) (hq : p < N.length) : stk (N ++ [mkNode p f]) (N.length : Int) = stk N p ++ [f] := by
 have hl : N.length < (N ++ [mkNode p f]).length := by simp
 rw [kYv hok hl]
 have e : (N ++ [mkNode p f])[N.length] = mkNode p f := by simp
 rw [e]
 have e2 : kD9 (mkNode p f) = f := rfl
 rw [e2]
 congr 1
 show stk (N ++ [mkNode p f]) p = stk N p
 rcases Int.lt_or_le p 0 with h0 | h0
 ·rw [kUl _ h0, kUl _ h0]
 ·obtain ⟨r, hr⟩ := Int.eq_ofNat_of_zero_le h0
  subst hr
  exact k1m hok0 _ (by omega)
theorem kPj : ∀ (L : List Frame) (s : List Node × Int), kA8 s.1 = true → L.all frOk = true → -1 ≤ s.2 → s.2 < s.1.length → ∃ M, (kDf L s).1 = s.1 ++ M ∧ stk (kDf L s).1 (kDf L s).2 = stk s.1 s.2 ++ L
 | [], s, h, _, _, _ => ⟨[], by simp [kDf], by simp [kDf]⟩
 |f :: L, s, h, ha, h1, h2 => by
  simp only [List.all_cons, Bool.and_eq_true] at ha
  have hb := kKd s.1 s.2 f
  rw [kDf]
  split
  ·rename_i hc
   have hok := kOw h h1 h2 ha.1 hc
   obtain ⟨M, e1, e2⟩ := kPj L (s.1 ++ [mkNode s.2 f], (s.1.length : Int)) hok ha.2 (by simp only; omega) (by simp only [List.length_append, List.length_cons, List.length_nil]; omega)
   refine ⟨[mkNode s.2 f] ++ M, by rw [e1]; simp, ?_⟩
   rw [e2]
   simp only
   rw [stk_mk hok h h1 h2]
   simp
  ·rename_i hc
   obtain ⟨k, hk, c1, c2, c3⟩ := k7f hc
   obtain ⟨M, e1, e2⟩ := kPj L (s.1, child s.1 s.2 f) h ha.2 hb.1 hb.2
   refine ⟨M, e1, ?_⟩
   rw [e2]
   simp only
   rw [c1, kYv h hk, c2, c3]
   simp
theorem k3o {N : List Node} {L : List Frame} (h : kA8 N = true) (hL : L ≠ []) (ha : L.all frOk = true) : ∃ M, (intern N L).1 = N ++ M ∧ stk (intern N L).1 (intern N L).2 = L := by
 unfold intern
 rw [if_pos ⟨h, hL, ha⟩]
 obtain ⟨M, e1, e2⟩ := kPj L (N, -1) h ha (by simp only; omega) (by simp only; omega)
 refine ⟨M, e1, ?_⟩
 rw [e2]
 simp only
 rw [kUl _ (by omega)]
 rfl
theorem kHv {N : List Node} {C : List Int} (hp : kAx N C = true) {e : Entry} : e ∈ entriesOf N C ↔ ∃ (k : Nat), k < N.length ∧ C.getD k 0 ≠ 0 ∧ e = ⟨fmtF (stk N k), C.getD k 0⟩ := by
 obtain ⟨p1, p2, p3⟩ := kBg.1 hp
 unfold entriesOf
 rw [if_pos hp, kSy]
 constructor
 ·intro h
  obtain ⟨k, hk, h1, h2⟩ := kRr h
  exact ⟨k, by omega, h1, by rw [h2, kKc p1 (by omega)]⟩
 ·rintro ⟨k, hk, h1, h2⟩
  unfold rawE
  refine List.mem_filterMap.2 ⟨k, List.mem_range.2 (by omega), ?_⟩
  unfold kH6
  rw [if_neg h1, h2, kKc p1 hk]
theorem kWr {N : List Node} {C : List Int} (hp : kAx N C = true) : (entriesOf N C).Pairwise fun a b => a.stack ≠ b.stack := by
 obtain ⟨p1, p2, p3⟩ := kBg.1 hp
 unfold entriesOf
 rw [if_pos hp]
 exact ((kHw _).pairwise_iff (fun {a b} h => Ne.symm h)).2 (kN8 p1 C C.length (by omega))
theorem k0n {N : List Node} {C : List Int} : Asc ltE (entriesOf N C) := by
 unfold entriesOf
 split
 ·rename_i hp
  obtain ⟨p1, p2, p3⟩ := kBg.1 hp
  exact kSz kS0 (kVq p1 C C.length (by omega))
 ·exact .nil
theorem kQ8 {N : List Node} (hok : kA8 N = true) {j k : Nat} (hj : j < N.length) (hk : k < N.length) (h : fmtF (stk N j) = fmtF (stk N k)) : j = k := by
 rw [← kKc hok hj, ← kKc hok hk] at h
 exact kQ9 hok hj hk (kYx (kF7 _ _) (kF7 _ _) (kHi hok j hj) (kHi hok k hk) h)
theorem k7g {C : List Int} {m k : Nat} {x : Int} (hm : m < C.length) : (C.set m x).getD k 0 = if k = m then x else C.getD k 0 := by
 rw [List.getD_eq_getElem?_getD, List.getElem?_set]
 by_cases h : m = k
 ·subst h; simp [hm]
 ·rw [if_neg h, if_neg (Ne.symm h), List.getD_eq_getElem?_getD]
theorem kYy {C : List Int} {m k : Nat} : (C ++ List.replicate m 0).getD k 0 = C.getD k 0 := by
 rw [List.getD_eq_getElem?_getD, List.getD_eq_getElem?_getD]
 rcases Nat.lt_or_ge k C.length with h | h
 ·rw [List.getElem?_append_left h]
 ·rw [List.getElem?_append_right h, List.getElem?_eq_none h]
  rw [List.getElem?_replicate]
  split <;> rfl
theorem k7h {C : List Int} {m q k : Nat} {n : Int} (hq : q < max C.length m) : (addC C m q n).getD k 0 = if k = q then C.getD k 0 + n else C.getD k 0 := by
 unfold addC
 rw [k7g (by simp only [List.length_append, List.length_replicate]; omega), kYy, kYy]
 split
 ·rename_i h; rw [h]
 ·rfl
theorem kYz {N : List Node} {C : List Int} {L : List Frame} {n : Int} (hp : kAx N C = true) (hL : L ≠ []) (ha : L.all frOk = true) (hn : 0 < n) (hok : (kBm N C L n).2 = true) {f : ByteArray → Option Int} (hr : Rep' (entriesOf N C) f) :
  Rep' (entriesOf (kBm N C L n).1.1 (kBm N C L n).1.2) (updF f (fmtF L) n) := by
 have hp' := k0o hok
 obtain ⟨p1, p2, p3⟩ := kBg.1 hp
 have hc : (kBm N C L n).1 = ((intern N L).1, addC C (intern N L).1.length (intern N L).2.toNat n) := by
  unfold kBm at hok ⊢
  split at hok
  ·rename_i h; rw [if_pos h]
  ·cases hok
 rw [hc] at hp' ⊢
 simp only at hp' ⊢
 obtain ⟨M, e1, e2⟩ := k3o (N := N) p1 hL ha
 obtain ⟨i0, i1⟩ := kS1 (N := N) p1 hL ha
 obtain ⟨m, hm⟩ := Int.eq_ofNat_of_zero_le i0
 have hmt : (intern N L).2.toNat = m := by omega
 rw [hm] at e2 i1
 rw [hmt] at hp' ⊢
 generalize (intern N L).1 = N' at e1 e2 i1 hp' ⊢
 obtain ⟨q1, q2, q3⟩ := kBg.1 hp'
 have hNl : N.length ≤ N'.length := by rw [e1, List.length_append]; omega
 have hml : m < N'.length := by omega
 have hold : ∀ k, k < N.length → stk N' k = stk N k := fun k hk => by rw [e1]; exact k1m p1 M hk
 have hg : ∀ k, (addC C N'.length m n).getD k 0 = if k = m then C.getD k 0 + n else C.getD k 0 := fun k => k7h (by omega)
 have hC0 : ∀ k, 0 ≤ C.getD k 0 := fun k => by
  rw [List.getD_eq_getElem?_getD]
  cases hk : C[k]? with
  |none => simp
  |some x => exact kPk p3 x (List.mem_of_getElem? hk)
 have hfm : f (fmtF L) = if C.getD m 0 = 0 then none else some (C.getD m 0) := by
  by_cases hz : C.getD m 0 = 0
  ·rw [if_pos hz]
   cases hf : f (fmtF L) with
   |none => rfl
   |some x =>
    exfalso
    have he : (⟨fmtF L, x⟩ : Entry) ∈ entriesOf N C := (hr.mem ⟨fmtF L, x⟩).2 hf
    obtain ⟨k, hk, k1, k2⟩ := (kHv hp).1 he
    simp only [Entry.mk.injEq] at k2
    have : k = m := by
     refine kQ8 q1 (by omega) hml ?_
     rw [hold k hk, ← k2.1, e2]
    subst this
    exact k1 hz
  ·rw [if_neg hz]
   have hmN : m < N.length := by
    rcases Nat.lt_or_ge m N.length with h | h
    ·exact h
    ·exfalso; apply hz
     rw [List.getD_eq_getElem?_getD, List.getElem?_eq_none (by omega)]; rfl
   have he : (⟨fmtF L, C.getD m 0⟩ : Entry) ∈ entriesOf N C := (kHv hp).2 ⟨m, hmN, hz, by rw [← hold m hmN, e2]⟩
   exact (hr.mem _).1 he
 refine ⟨kWr hp', fun e => ?_⟩
 rw [kHv hp']
 unfold updF
 have qB3 : ∀ k, N.length ≤ k → C.getD k 0 = 0 := fun k hk => by rw [List.getD_eq_getElem?_getD, List.getElem?_eq_none (by omega)]; rfl
 constructor
 ·rintro ⟨k, hk, k1, rfl⟩
  rw [hg] at k1
  simp only [hg]
  by_cases hkm : k = m
  ·subst hkm
   rw [if_pos rfl] at k1 ⊢
   rw [e2, if_pos rfl, hfm]
   by_cases hz : C.getD k 0 = 0
   ·rw [if_pos hz, hz]; simp
   ·rw [if_neg hz]; simp
  ·rw [if_neg hkm] at k1 ⊢
   have hkN : k < N.length := by
    rcases Nat.lt_or_ge k N.length with h | h
    ·exact h
    ·exact absurd (qB3 k h) k1
   have hne : ¬ fmtF (stk N' k) = fmtF L := fun e => hkm (kQ8 q1 hk hml (by rw [e, e2]))
   rw [if_neg hne]
   have he : (⟨fmtF (stk N' k), C.getD k 0⟩ : Entry) ∈ entriesOf N C := (kHv hp).2 ⟨k, hkN, k1, by rw [hold k hkN]⟩
   exact (hr.mem _).1 he
 ·intro h
  by_cases hs : e.stack = fmtF L
  ·rw [if_pos hs, hfm] at h
   refine ⟨m, hml, ?_, ?_⟩
   ·rw [hg, if_pos rfl]; have := hC0 m; omega
   ·rw [hg, if_pos rfl, e2]
    obtain ⟨a, b⟩ := e
    simp only at hs h
    rw [hs]
    simp only [Option.some.injEq] at h
    congr 1
    rw [← h]
    split
    ·rename_i hz; rw [hz]; rfl
    ·rfl
  ·rw [if_neg hs] at h
   obtain ⟨k, hk, k1, k2⟩ := (kHv hp).1 ((hr.mem e).2 h)
   have hkm : ¬ k = m := fun e' => by
    subst e'
    apply hs
    rw [k2]
    simp only
    rw [← hold k hk, e2]
   refine ⟨k, by omega, by rw [hg, if_neg hkm]; exact k1, ?_⟩
   rw [hg, if_neg hkm, hold k hk]; exact k2
theorem k97 : entriesOf [] [] = [] := by decide
theorem kY0 : ∀ (L A : List Entry) (f : ByteArray → Option Int), Rep' A f → (A ++ L).Pairwise (fun a b => a.stack ≠ b.stack) → Rep' (A ++ L) (L.foldl (fun f e => updF f e.stack e.count) f)
 | [], A, f, h, _ => by rw [List.append_nil]; exact h
 |e :: L, A, f, h, hd => by
  have hne : ∀ x ∈ A, x.stack ≠ e.stack := fun x hx => (List.pairwise_append.1 hd).2.2 x hx e List.mem_cons_self
  have h1 := h.put (A := A) (B := []) (by simp) (s := e.stack) (c := e.count) hne
  have h2 := kY0 L (A ++ [e]) _ h1 (by simpa using hd)
  simpa using h2
end Go.Proofs.YtdhkhapbldkkdaaGreatDoor

namespace Go.Proofs.YtdhkhapbldkkdaaGreatDoor
open Go.Pl
theorem k7m {L : List Entry} (h : Asc ltE L) : L.Pairwise fun a b => a.stack ≠ b.stack := List.Pairwise.imp (fun h => ltS_ne h) h
def hideG (s : ByteArray) (L : List Frame) : List Frame := L.filter fun f => !hasName s f
end Go.Proofs.YtdhkhapbldkkdaaGreatDoor

namespace Go.Proofs.YtdhkhapbldkkdaaGreatDoor
open Go.Pl
end Go.Proofs.YtdhkhapbldkkdaaGreatDoor

namespace Go.Proofs.YtdhkhapbldkkdaaGreatDoor
open Go.Pl
def kGs : ByteArray := ⟨#[109, 97, 105, 110]⟩
structure kJc (F : List Frame) : Prop where
 ok : F.all frOk = true
 head : ∃ f R, F = f :: R ∧ f.name = kGs ∧ ∀ x ∈ R, x.name ≠ kGs
 len : F.length ≤ 4
structure DrP (P : List Node × List Int) (n : Nat) : Prop where
 ok : kAx P.1 P.2 = true
 sum : P.2.sum ≤ 40 * n
 len : P.1.length ≤ 4 * n
 ents : ∀ e ∈ entriesOf P.1 P.2, kJc (frsE e)
theorem DrP.nil : DrP ([], []) 0 := ⟨nilOk, by simp, by simp, fun e he => by rw [k97] at he; cases he⟩
theorem kJc.ne {F : List Frame} (h : kJc F) : F ≠ [] := by obtain ⟨f, R, e, _⟩ := h.head; rw [e]; simp
theorem DrP.add {P : List Node × List Int} {n : Nat} (h : DrP P n) (hn : n ≤ 100) {F : List Frame} (hF : kJc F) {c : Int} (c0 : 0 < c) (c1 : c ≤ 40) : (kBm P.1 P.2 F c).2 = true ∧ DrP (kBm P.1 P.2 F c).1 (n + 1) := by
 have hs := h.sum
 obtain ⟨a1, a2, a3⟩ := kUn (n := c) h.ok hF.ne hF.ok (by omega) (by omega)
 refine ⟨a1, a3, by rw [a2]; omega, ?_, fun e he => ?_⟩
 ·have h1 := (kY2 P.1 P.2 F c).1
  have h2 := h.len
  have h3 := hF.len
  omega
 ·have hr : Rep' (entriesOf P.1 P.2) ((entriesOf P.1 P.2).foldl (fun f e => updF f e.stack e.count) fun _ => none) := by
   have := kY0 (entriesOf P.1 P.2) [] _ Rep'.nil (by simpa using k7m k0n)
   simpa using this
  have hm := (kYz h.ok hF.ne hF.ok c0 a1 hr).mem e
  have h1 := hm.1 he
  unfold updF at h1
  split at h1
  ·rename_i hst
   have : frsE e = F := by unfold frsE; rw [hst, kKg hF.ok hF.ne]; rfl
   rw [this]; exact hF
  ·exact h.ents e ((hr.mem e).2 h1)
theorem kJc.has {e : Entry} (h : kJc (frsE e)) : kGs ∈ kPm e := by
 obtain ⟨f, R, h1, h2, _⟩ := h.head
 unfold kPm
 rw [h1, List.map_cons, h2]
 exact List.mem_cons_self
theorem kJc.only {e : Entry} (h : kJc (frsE e)) : ∀ j, 0 < j → j < (kPm e).length → (kPm e).getD j ⟨#[]⟩ ≠ kGs := by
 obtain ⟨f, R, h1, h2, h3⟩ := h.head
 intro j hj hl
 obtain ⟨i, rfl⟩ : ∃ i, j = i + 1 := ⟨j - 1, by omega⟩
 unfold kPm at hl ⊢
 rw [h1, List.map_cons] at hl ⊢
 have hi : i < (R.map (·.name)).length := by simpa using hl
 have h4 : (f.name :: R.map (·.name)).getD (i + 1) ⟨#[]⟩ = (R.map (·.name))[i] := by
  rw [List.getD_eq_getElem?_getD, List.getElem?_cons_succ, List.getElem?_eq_getElem hi]; rfl
 rw [h4]
 obtain ⟨x, hx, he⟩ := List.mem_map.1 (List.getElem_mem hi)
 rw [← he]
 exact h3 x hx
theorem kJc.hide {F : List Frame} (h : kJc F) {s : ByteArray} (hs : s ≠ kGs) : hideG s F ≠ [] := by
 obtain ⟨f, R, h1, h2, _⟩ := h.head
 unfold hideG
 rw [h1, List.filter_cons]
 have : (!hasName s f) = true := by
  simp only [hasName, h2, Bool.not_eq_true', decide_eq_false_iff_not]
  exact fun e => hs e.symm
 rw [this]; simp
theorem DrP.total {P : List Node × List Int} {n : Nat} (h : DrP P n) : kDe P.1 P.2 ≤ 40 * n := by
 unfold kDe
 rw [if_pos h.ok]; exact h.sum
end Go.Proofs.YtdhkhapbldkkdaaGreatDoor

namespace Go.Vc
def St.kDg (tys : List (Nat × TyD)) (C : List (FuncId × Ctr)) (N : Nat) (ops : Array Oper) (o : Oper) (st : St) (K : St → Prop) : Prop :=
 match o.guard with
 |none => st.step tys C N ops o K
 |some (j, want) => match (ops[j]?).bind (·.dst) with
  |some t => match kD8 want (st.get t) with
   |some false => kAy N o.dst = true ∧ K (st.put o.dst (.cond false (offV tys o)))
   | _ => st.step tys C N ops o K
  |none => False
def St.runO (tys : List (Nat × TyD)) (C : List (FuncId × Ctr)) (N : Nat) (ops : Array Oper) : List Oper → St → (St → Prop) → Prop
 | [], st, K => K st
 |o :: l, st, K => st.kDg tys C N ops o fun st' => St.runO tys C N ops l st' K
section
variable {P : Program} {tys : List (Nat × TyD)} {C : List (FuncId × Ctr)} {N : Nat} {X0 : Nat → Prop} {M : Nat → BV → Prop} {w0 : World} {st : St} {β : Nat → BV} {a : Act} {w : World}
theorem kPc (h : Sim N X0 M w0 st β a w) {ops : Array Oper} {o : Oper} {j t : Nat} {want g : Bool} (hg : o.guard = some (j, want)) (ht : (ops[j]?).bind (·.dst) = some t) (hc : kD8 want (st.get t) = some g) : Region.wanted o (yielded ops a.tmps) = g := by
 have hR : R w (XX X0 β st.hp) β (st.get t) (a.eval (.tmp t)) := St.kC7 h (.tmp t)
 have hy : yielded ops a.tmps j = (match a.tmps.getD t undef with | .bool b => some b | _ => none) := by
  unfold yielded
  rw [ht]
  simp only [Option.bind_some]
  rw [Array.getD_eq_getD_getElem?]
  cases hq : a.tmps[t]? with
  |none => rfl
  |some v => cases v <;> rfl
 simp only [Region.wanted, hg, hy]
 generalize st.get t = y at hc hR
 unfold kD8 at hc
 split at hc
 ·rename_i b
  have hv : a.tmps.getD t undef = .bool b := hR.kAz
  rw [hv]
  cases hc
  cases b <;> cases want <;> rfl
 ·rename_i g' b
  cases hc
  cases g' with
  |false =>
   have hv : a.tmps.getD t undef = undef := hR.kIy rfl
   rw [hv]; rfl
  |true =>
   have hv : a.tmps.getD t undef = .bool b := (hR.kJo rfl).kAz
   rw [hv]
   cases b <;> cases want <;> rfl
 ·cases hc
theorem k0h (hA : Ap P X0 M w0) (hty : ∀ T d, lk T tys = some d → TyOk P T d) (hC : COk P C) (h : Sim N X0 M w0 st β a w) {ops : Array Oper} {o : Oper} {K : St → Prop} (hw : st.kDg tys C N ops o K) {Q : Exit → Act → World → Prop} :
  if Region.wanted o (yielded ops a.tmps) then o.wp P a w (Ok N X0 M w0 K) Q else Ok N X0 M w0 K (a.put o.dst undef) w := by
 unfold St.kDg at hw
 cases hg : o.guard with
 |none => rw [hg] at hw; exact kC8 hA hty hC h hw
 |some gw =>
  obtain ⟨j, want⟩ := gw
  rw [hg] at hw
  simp only at hw
  split at hw
  case h_2 => exact hw.elim
  case h_1 _ t ht =>
   split at hw
   case h_2 => exact kC8 hA hty hC h hw
   case h_1 _ hc =>
    have hwt := kPc h hg ht hc
    rw [hwt, if_neg (by simp)]
    obtain ⟨hd, hK⟩ := hw
    cases hdd : o.dst with
    |none => rw [hdd] at hK; exact ⟨_, β, hK, h⟩
    |some d => rw [hdd] at hK hd; exact ⟨_, β, hK, h.put (by simpa [kAy] using hd) (.cond (fun hh => by cases hh) fun _ => rfl)⟩
theorem kN4 (hA : Ap P X0 M w0) (hty : ∀ T d, lk T tys = some d → TyOk P T d) (hC : COk P C) {ops : Array Oper} {K : St → Prop} {Q : Exit → Act → World → Prop} (hQ : ∀ a w, Ok N X0 M w0 K a w → Q .normal a w) :
  ∀ (l : List Oper) {st : St} {β : Nat → BV} {a : Act} {w : World}, Sim N X0 M w0 st β a w → St.runO tys C N ops l st K → wpList P ops Q l a w
 | [], st, β, a, w, h, hw => hQ a w ⟨st, β, hw, h⟩
 |o :: l, st, β, a, w, h, hw => by
  have h1 := k0h (Q := Q) hA hty hC h hw
  unfold wpList
  split
  ·rename_i hwt
   rw [if_pos hwt] at h1
   exact .inl (Oper.wp_mono (fun a' w' ⟨st', β', h2, h3⟩ => kN4 hA hty hC hQ l h3 h2) h1)
  ·rename_i hwt
   rw [if_neg hwt] at h1
   obtain ⟨st', β', h2, h3⟩ := h1
   exact kN4 hA hty hC hQ l h3 h2
end
section
variable {c : Cx} {N : Nat} {X0 : Nat → Prop} {M : Nat → BV → Prop} {w0 : World} {st : St} {K : Exit → St → Prop}
theorem WP.kBh {id : Nat} {l : List Oper} (h : St.runO c.tys c.C N l.toArray l st (K .normal)) : WP c N X0 M w0 (.region id l.toArray false) st K := fun hA β a w hs =>
 wp_region_lit (kN4 hA c.hty c.hC (fun a w hk => hk) l hs h)
end
def kMa (op : BinOp) (a b : Int) : Int := match op with
 | .add => IntKind.i64.wrap (a + b)
 | .sub => IntKind.i64.wrap (a - b)
 | .mul => IntKind.i64.wrap (a * b)
 | _ => 0
def kUh : BinOp → Bool
 | .add => true
 | .sub => true
 | .mul => true
 | _ => false
def St.kSr (tys : List (Nat × TyD)) (C : List (FuncId × Ctr)) (N : Nat) (ops : Array Oper) (o : Oper) (st : St) (K : St → Prop) : Prop :=
 match o.op with
 | .binOp op T x y U => match st.ev x, st.ev y with
  | .v (.int .i64 a), .v (.int .i64 b) => if kUh op = true ∧ o.guard.isNone = true then kAy N o.dst = true ∧ K (st.put o.dst (.v (.int .i64 (kMa op a b)))) else st.step tys C N ops o K
  | _, _ => st.step tys C N ops o K
 | _ => st.step tys C N ops o K
def St.kW4 (tys : List (Nat × TyD)) (C : List (FuncId × Ctr)) (N : Nat) (ops : Array Oper) : List Oper → St → (St → Prop) → Prop
 | [], st, K => K st
 |o :: l, st, K => st.kSr tys C N ops o fun st' => St.kW4 tys C N ops l st' K
theorem k94 {P : Program} {op : BinOp} {T : Nat} {a b : Int} (h : kUh op = true) (ox oy : Operand) (w : World) :
  (do eqGuard op T ox oy (.int .i64 a) (.int .i64 b); binOp op T (.int .i64 a) (.int .i64 b) : Sem Value).run P w = .ok (.int .i64 (kMa op a b)) w := by
 cases op <;> first | (cases h; done) | simp [eqGuard, binOp, Op.intArith, kMa]
section
variable {P : Program} {tys : List (Nat × TyD)} {C : List (FuncId × Ctr)} {N : Nat} {X0 : Nat → Prop} {M : Nat → BV → Prop} {w0 : World} {st : St} {β : Nat → BV} {a : Act} {w : World}
theorem kYd (hA : Ap P X0 M w0) (hty : ∀ T d, lk T tys = some d → TyOk P T d) (hC : COk P C) (h : Sim N X0 M w0 st β a w) {ops : Array Oper} {o : Oper} {K : St → Prop} (hw : st.kSr tys C N ops o K) {Q : Exit → Act → World → Prop} :
  if Region.wanted o (yielded ops a.tmps) then o.wp P a w (Ok N X0 M w0 K) Q else Ok N X0 M w0 K (a.put o.dst undef) w := by
 unfold St.kSr at hw
 split at hw
 case h_2 => exact kC8 hA hty hC h hw
 case h_1 _ op T x y U ho =>
  split at hw
  case h_2 => exact kC8 hA hty hC h hw
  case h_1 _ _ p q hx hy =>
   split at hw
   case isFalse => exact kC8 hA hty hC h hw
   case isTrue hc =>
    obtain ⟨h1, h2⟩ := hc
    obtain ⟨hd, hK⟩ := hw
    have hg : o.guard = none := by simpa using h2
    have hwt : Region.wanted o (yielded ops a.tmps) = true := by simp [Region.wanted, hg]
    rw [if_pos hwt]
    have e1 : a.eval x = .int .i64 p := (hx ▸ St.kC7 h x : R w _ β (.v (.int .i64 p)) (a.eval x)).kAz
    have e2 : a.eval y = .int .i64 q := (hy ▸ St.kC7 h y : R w _ β (.v (.int .i64 q)) (a.eval y)).kAz
    have hr := k94 (P := P) (T := T) (a := p) (b := q) h1 x y w
    refine kNv h hd ⟨.int .i64 (kMa op p q), ?_, .p (.v _)⟩ hK
    simp only [Sem.run_bind] at hr
    simp only [execOp, ho, e1, e2, Sem.run_bind, hr, Result.andThen_ok, Sem.run_pure]
theorem kMw (hA : Ap P X0 M w0) (hty : ∀ T d, lk T tys = some d → TyOk P T d) (hC : COk P C) {ops : Array Oper} {K : St → Prop} {Q : Exit → Act → World → Prop} (hQ : ∀ a w, Ok N X0 M w0 K a w → Q .normal a w) :
  ∀ (l : List Oper) {st : St} {β : Nat → BV} {a : Act} {w : World}, Sim N X0 M w0 st β a w → St.kW4 tys C N ops l st K → wpList P ops Q l a w
 | [], st, β, a, w, h, hw => hQ a w ⟨st, β, hw, h⟩
 |o :: l, st, β, a, w, h, hw => by
  have h1 := kYd (Q := Q) hA hty hC h hw
  unfold wpList
  split
  ·rename_i hwt
   rw [if_pos hwt] at h1
   exact .inl (Oper.wp_mono (fun a' w' ⟨st', β', h2, h3⟩ => kMw hA hty hC hQ l h3 h2) h1)
  ·rename_i hwt
   rw [if_neg hwt] at h1
   obtain ⟨st', β', h2, h3⟩ := h1
   exact kMw hA hty hC hQ l h3 h2
end
section
variable {c : Cx} {N : Nat} {X0 : Nat → Prop} {M : Nat → BV → Prop} {w0 : World} {st : St} {K : Exit → St → Prop}
theorem WP.kYe {id : Nat} {l : List Oper} (h : St.kW4 c.tys c.C N l.toArray l st (K .normal)) : WP c N X0 M w0 (.region id l.toArray false) st K := fun hA β a w hs =>
 wp_region_lit (kMw hA c.hty c.hC (fun a w hk => hk) l hs h)
end
end Go.Vc

