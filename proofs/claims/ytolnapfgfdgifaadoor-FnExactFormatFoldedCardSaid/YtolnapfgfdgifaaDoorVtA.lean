/-
  DERIVED. The seat's table of types, as VcB wants it. Made by program (mk_tab.py).
-/
import Derived.Test.YtolnapfgfdgifaaDoorVcT
import Derived.Test.YtolnapfgfdgifaaDoorProg
import Derived.KernelRfl
namespace Go.Proofs.YtolnapfgfdgifaaDoor
open Go.Vc
def td2 : TyD := { kind := 4, size := 1, bytes := 8, z := [.int .i64 0], ik := some .i64 } -- int64
def td3 : TyD := { kind := 4, size := 1, bytes := 8, z := [.int .i64 0], ik := some .i64 } -- int
def td4 : TyD := { kind := 5, size := 1, bytes := 1, z := [.bool false] } -- bool
def td5 : TyD := { kind := 4, size := 1, bytes := 1, z := [.int .u8 0], ik := some .u8 } -- uint8
def td9 : TyD := { kind := 2, size := 1, bytes := 16, z := [.string ⟨#[]⟩] } -- string
def td12 : TyD := { kind := 4, size := 1, bytes := 8, z := [.int .u64 0], ik := some .u64 } -- uintptr
def td21 : TyD := { kind := 4, size := 1, bytes := 4, z := [.int .i32 0], ik := some .i32 } -- int32
def td22 : TyD := { kind := 1, size := 1, bytes := 24, z := [.slice none 0 0], elem := 82 } -- []laws.Node
def td24 : TyD := { kind := 3, size := 1, bytes := 24, z := [.slice none 0 0], offs := [(0, 1)] } -- laws.Stacks
def td25 : TyD := { kind := 1, size := 1, bytes := 24, z := [.slice none 0 0], elem := 3 } -- []int
def td27 : TyD := { kind := 3, size := 2, bytes := 48, z := [.slice none 0 0, .slice none 0 0], offs := [(0, 1), (1, 1)] } -- laws.Profile
def td30 : TyD := { kind := 1, size := 1, bytes := 24, z := [.slice none 0 0], elem := 87 } -- []impl.Node
def td32 : TyD := { kind := 3, size := 1, bytes := 24, z := [.slice none 0 0], offs := [(0, 1)] } -- impl.Stacks
def td34 : TyD := { kind := 3, size := 2, bytes := 48, z := [.slice none 0 0, .slice none 0 0], offs := [(0, 1), (1, 1)] } -- impl.Profile
def td44 : TyD := { kind := 1, size := 1, bytes := 24, z := [.slice none 0 0], elem := 47 } -- []impl.Entry
def td47 : TyD := { kind := 3, size := 2, bytes := 24, z := [.string ⟨#[]⟩, .int .i64 0], offs := [(0, 1), (1, 1)], eqs := [2, 4] } -- impl.Entry
def td62 : TyD := { kind := 1, size := 1, bytes := 24, z := [.slice none 0 0], elem := 85 } -- []impl.Frame
def td65 : TyD := { kind := 1, size := 1, bytes := 24, z := [.slice none 0 0], elem := 5 } -- []uint8
def td80 : TyD := { kind := 3, size := 2, bytes := 24, z := [.string ⟨#[]⟩, .int .i64 0], offs := [(0, 1), (1, 1)], eqs := [2, 4] } -- laws.Frame
def td82 : TyD := { kind := 3, size := 3, bytes := 32, z := [.int .i64 0, .string ⟨#[]⟩, .int .i64 0], offs := [(0, 1), (1, 2)], eqs := [4, 2, 4] } -- laws.Node
def td85 : TyD := { kind := 3, size := 2, bytes := 24, z := [.string ⟨#[]⟩, .int .i64 0], offs := [(0, 1), (1, 1)], eqs := [2, 4] } -- impl.Frame
def td87 : TyD := { kind := 3, size := 3, bytes := 32, z := [.int .i64 0, .string ⟨#[]⟩, .int .i64 0], offs := [(0, 1), (1, 2)], eqs := [4, 2, 4] } -- impl.Node
def td89 : TyD := { kind := 1, size := 1, bytes := 24, z := [.slice none 0 0], elem := 9 } -- []string
def td94 : TyD := { kind := 4, size := 1, bytes := 8, z := [.int .u64 0], ik := some .u64 } -- uint
def td105 : TyD := { kind := 3, size := 2, bytes := 32, z := [.pointer none, .slice none 0 0], offs := [(0, 1), (1, 1)] } -- strings.Builder
def td113 : TyD := { kind := 4, size := 1, bytes := 8, z := [.int .i64 0], ik := some .i64 } -- slices.sortedHint
def td120 : TyD := { kind := 4, size := 1, bytes := 4, z := [.int .u32 0], ik := some .u32 } -- uint32
def td122 : TyD := { kind := 4, size := 1, bytes := 8, z := [.int .u64 0], ik := some .u64 } -- uint64
def td130 : TyD := { kind := 4, size := 1, bytes := 8, z := [.int .u64 0], ik := some .u64 } -- slices.xorshift
def td160 : TyD := { kind := 3, size := 2, bytes := 2, z := [.int .u8 0, .int .u8 0], offs := [(0, 1), (1, 1)], eqs := [4, 4] } -- utf8.acceptRange
def tys : List (Nat × TyD) := [(2, td2), (3, td3), (4, td4), (5, td5), (9, td9), (12, td12), (21, td21), (22, td22), (24, td24), (25, td25), (27, td27), (30, td30), (32, td32), (34, td34), (44, td44), (47, td47), (62, td62), (65, td65), (80, td80), (82, td82), (85, td85), (87, td87), (89, td89), (94, td94), (105, td105), (113, td113), (120, td120), (122, td122), (130, td130), (160, td160)]
theorem ty2 : lk 2 tys = some { kind := 4, size := 1, bytes := 8, z := [.int .i64 0], ik := some .i64 } := rfl
theorem tok2 : TyOk Tryd.prog 2 td2 := ⟨by kernel_rfl, by show _ = _; kernel_rfl, by decide, .inl rfl⟩
theorem ty3 : lk 3 tys = some { kind := 4, size := 1, bytes := 8, z := [.int .i64 0], ik := some .i64 } := rfl
theorem tok3 : TyOk Tryd.prog 3 td3 := ⟨by kernel_rfl, by show _ = _; kernel_rfl, by decide, .inl rfl⟩
theorem ty4 : lk 4 tys = some { kind := 5, size := 1, bytes := 1, z := [.bool false] } := rfl
theorem tok4 : TyOk Tryd.prog 4 td4 := ⟨by kernel_rfl, by show _ = _; kernel_rfl, by decide, .inl rfl⟩
theorem ty5 : lk 5 tys = some { kind := 4, size := 1, bytes := 1, z := [.int .u8 0], ik := some .u8 } := rfl
theorem tok5 : TyOk Tryd.prog 5 td5 := ⟨by kernel_rfl, by show _ = _; kernel_rfl, by decide, .inl rfl⟩
theorem ty9 : lk 9 tys = some { kind := 2, size := 1, bytes := 16, z := [.string ⟨#[]⟩] } := rfl
theorem tok9 : TyOk Tryd.prog 9 td9 := ⟨by kernel_rfl, by show _ = _; kernel_rfl, by decide, .inl rfl⟩
theorem ty12 : lk 12 tys = some { kind := 4, size := 1, bytes := 8, z := [.int .u64 0], ik := some .u64 } := rfl
theorem tok12 : TyOk Tryd.prog 12 td12 := ⟨by kernel_rfl, by show _ = _; kernel_rfl, by decide, .inl rfl⟩
theorem ty21 : lk 21 tys = some { kind := 4, size := 1, bytes := 4, z := [.int .i32 0], ik := some .i32 } := rfl
theorem tok21 : TyOk Tryd.prog 21 td21 := ⟨by kernel_rfl, by show _ = _; kernel_rfl, by decide, .inl rfl⟩
theorem ty22 : lk 22 tys = some { kind := 1, size := 1, bytes := 24, z := [.slice none 0 0], elem := 82 } := rfl
theorem tok22 : TyOk Tryd.prog 22 td22 := ⟨by kernel_rfl, by show _ = _; kernel_rfl, by decide, .inl rfl⟩
theorem ty24 : lk 24 tys = some { kind := 3, size := 1, bytes := 24, z := [.slice none 0 0], offs := [(0, 1)] } := rfl
theorem tok24 : TyOk Tryd.prog 24 td24 := ⟨by kernel_rfl, by show _ = _; kernel_rfl, by decide, .inl rfl⟩
theorem ty25 : lk 25 tys = some { kind := 1, size := 1, bytes := 24, z := [.slice none 0 0], elem := 3 } := rfl
theorem tok25 : TyOk Tryd.prog 25 td25 := ⟨by kernel_rfl, by show _ = _; kernel_rfl, by decide, .inl rfl⟩
theorem ty27 : lk 27 tys = some { kind := 3, size := 2, bytes := 48, z := [.slice none 0 0, .slice none 0 0], offs := [(0, 1), (1, 1)] } := rfl
theorem tok27 : TyOk Tryd.prog 27 td27 := ⟨by kernel_rfl, by show _ = _; kernel_rfl, by decide, .inl rfl⟩
theorem ty30 : lk 30 tys = some { kind := 1, size := 1, bytes := 24, z := [.slice none 0 0], elem := 87 } := rfl
theorem tok30 : TyOk Tryd.prog 30 td30 := ⟨by kernel_rfl, by show _ = _; kernel_rfl, by decide, .inl rfl⟩
theorem ty32 : lk 32 tys = some { kind := 3, size := 1, bytes := 24, z := [.slice none 0 0], offs := [(0, 1)] } := rfl
theorem tok32 : TyOk Tryd.prog 32 td32 := ⟨by kernel_rfl, by show _ = _; kernel_rfl, by decide, .inl rfl⟩
theorem ty34 : lk 34 tys = some { kind := 3, size := 2, bytes := 48, z := [.slice none 0 0, .slice none 0 0], offs := [(0, 1), (1, 1)] } := rfl
theorem tok34 : TyOk Tryd.prog 34 td34 := ⟨by kernel_rfl, by show _ = _; kernel_rfl, by decide, .inl rfl⟩
theorem ty44 : lk 44 tys = some { kind := 1, size := 1, bytes := 24, z := [.slice none 0 0], elem := 47 } := rfl
theorem tok44 : TyOk Tryd.prog 44 td44 := ⟨by kernel_rfl, by show _ = _; kernel_rfl, by decide, .inl rfl⟩
theorem ty47 : lk 47 tys = some { kind := 3, size := 2, bytes := 24, z := [.string ⟨#[]⟩, .int .i64 0], offs := [(0, 1), (1, 1)], eqs := [2, 4] } := rfl
theorem tok47 : TyOk Tryd.prog 47 td47 := ⟨by kernel_rfl, by show _ = _; kernel_rfl, by decide, .inr ⟨by kernel_rfl, by kernel_rfl, rfl⟩⟩
theorem ty62 : lk 62 tys = some { kind := 1, size := 1, bytes := 24, z := [.slice none 0 0], elem := 85 } := rfl
theorem tok62 : TyOk Tryd.prog 62 td62 := ⟨by kernel_rfl, by show _ = _; kernel_rfl, by decide, .inl rfl⟩
theorem ty65 : lk 65 tys = some { kind := 1, size := 1, bytes := 24, z := [.slice none 0 0], elem := 5 } := rfl
theorem tok65 : TyOk Tryd.prog 65 td65 := ⟨by kernel_rfl, by show _ = _; kernel_rfl, by decide, .inl rfl⟩
theorem ty80 : lk 80 tys = some { kind := 3, size := 2, bytes := 24, z := [.string ⟨#[]⟩, .int .i64 0], offs := [(0, 1), (1, 1)], eqs := [2, 4] } := rfl
theorem tok80 : TyOk Tryd.prog 80 td80 := ⟨by kernel_rfl, by show _ = _; kernel_rfl, by decide, .inr ⟨by kernel_rfl, by kernel_rfl, rfl⟩⟩
theorem ty82 : lk 82 tys = some { kind := 3, size := 3, bytes := 32, z := [.int .i64 0, .string ⟨#[]⟩, .int .i64 0], offs := [(0, 1), (1, 2)], eqs := [4, 2, 4] } := rfl
theorem tok82 : TyOk Tryd.prog 82 td82 := ⟨by kernel_rfl, by show _ = _; kernel_rfl, by decide, .inr ⟨by kernel_rfl, by kernel_rfl, rfl⟩⟩
theorem ty85 : lk 85 tys = some { kind := 3, size := 2, bytes := 24, z := [.string ⟨#[]⟩, .int .i64 0], offs := [(0, 1), (1, 1)], eqs := [2, 4] } := rfl
theorem tok85 : TyOk Tryd.prog 85 td85 := ⟨by kernel_rfl, by show _ = _; kernel_rfl, by decide, .inr ⟨by kernel_rfl, by kernel_rfl, rfl⟩⟩
theorem ty87 : lk 87 tys = some { kind := 3, size := 3, bytes := 32, z := [.int .i64 0, .string ⟨#[]⟩, .int .i64 0], offs := [(0, 1), (1, 2)], eqs := [4, 2, 4] } := rfl
theorem tok87 : TyOk Tryd.prog 87 td87 := ⟨by kernel_rfl, by show _ = _; kernel_rfl, by decide, .inr ⟨by kernel_rfl, by kernel_rfl, rfl⟩⟩
theorem ty89 : lk 89 tys = some { kind := 1, size := 1, bytes := 24, z := [.slice none 0 0], elem := 9 } := rfl
theorem tok89 : TyOk Tryd.prog 89 td89 := ⟨by kernel_rfl, by show _ = _; kernel_rfl, by decide, .inl rfl⟩
theorem ty94 : lk 94 tys = some { kind := 4, size := 1, bytes := 8, z := [.int .u64 0], ik := some .u64 } := rfl
theorem tok94 : TyOk Tryd.prog 94 td94 := ⟨by kernel_rfl, by show _ = _; kernel_rfl, by decide, .inl rfl⟩
theorem ty105 : lk 105 tys = some { kind := 3, size := 2, bytes := 32, z := [.pointer none, .slice none 0 0], offs := [(0, 1), (1, 1)] } := rfl
theorem tok105 : TyOk Tryd.prog 105 td105 := ⟨by kernel_rfl, by show _ = _; kernel_rfl, by decide, .inl rfl⟩
theorem ty113 : lk 113 tys = some { kind := 4, size := 1, bytes := 8, z := [.int .i64 0], ik := some .i64 } := rfl
theorem tok113 : TyOk Tryd.prog 113 td113 := ⟨by kernel_rfl, by show _ = _; kernel_rfl, by decide, .inl rfl⟩
theorem ty120 : lk 120 tys = some { kind := 4, size := 1, bytes := 4, z := [.int .u32 0], ik := some .u32 } := rfl
theorem tok120 : TyOk Tryd.prog 120 td120 := ⟨by kernel_rfl, by show _ = _; kernel_rfl, by decide, .inl rfl⟩
theorem ty122 : lk 122 tys = some { kind := 4, size := 1, bytes := 8, z := [.int .u64 0], ik := some .u64 } := rfl
theorem tok122 : TyOk Tryd.prog 122 td122 := ⟨by kernel_rfl, by show _ = _; kernel_rfl, by decide, .inl rfl⟩
theorem ty130 : lk 130 tys = some { kind := 4, size := 1, bytes := 8, z := [.int .u64 0], ik := some .u64 } := rfl
theorem tok130 : TyOk Tryd.prog 130 td130 := ⟨by kernel_rfl, by show _ = _; kernel_rfl, by decide, .inl rfl⟩
theorem ty160 : lk 160 tys = some { kind := 3, size := 2, bytes := 2, z := [.int .u8 0, .int .u8 0], offs := [(0, 1), (1, 1)], eqs := [4, 4] } := rfl
theorem tok160 : TyOk Tryd.prog 160 td160 := ⟨by kernel_rfl, by show _ = _; kernel_rfl, by decide, .inr ⟨by kernel_rfl, by kernel_rfl, rfl⟩⟩
theorem tysOk : ∀ T d, lk T tys = some d → TyOk Tryd.prog T d := fun T d h => by
  have hm := lk_mem h
  simp only [tys, List.mem_cons, Prod.mk.injEq, List.not_mem_nil, or_false] at hm
  rcases hm with ⟨rfl, rfl⟩ | ⟨rfl, rfl⟩ | ⟨rfl, rfl⟩ | ⟨rfl, rfl⟩ | ⟨rfl, rfl⟩ | ⟨rfl, rfl⟩ | ⟨rfl, rfl⟩ | ⟨rfl, rfl⟩ | ⟨rfl, rfl⟩ | ⟨rfl, rfl⟩ | ⟨rfl, rfl⟩ | ⟨rfl, rfl⟩ | ⟨rfl, rfl⟩ | ⟨rfl, rfl⟩ | ⟨rfl, rfl⟩ | ⟨rfl, rfl⟩ | ⟨rfl, rfl⟩ | ⟨rfl, rfl⟩ | ⟨rfl, rfl⟩ | ⟨rfl, rfl⟩ | ⟨rfl, rfl⟩ | ⟨rfl, rfl⟩ | ⟨rfl, rfl⟩ | ⟨rfl, rfl⟩ | ⟨rfl, rfl⟩ | ⟨rfl, rfl⟩ | ⟨rfl, rfl⟩ | ⟨rfl, rfl⟩ | ⟨rfl, rfl⟩ | ⟨rfl, rfl⟩
  · exact tok2
  · exact tok3
  · exact tok4
  · exact tok5
  · exact tok9
  · exact tok12
  · exact tok21
  · exact tok22
  · exact tok24
  · exact tok25
  · exact tok27
  · exact tok30
  · exact tok32
  · exact tok34
  · exact tok44
  · exact tok47
  · exact tok62
  · exact tok65
  · exact tok80
  · exact tok82
  · exact tok85
  · exact tok87
  · exact tok89
  · exact tok94
  · exact tok105
  · exact tok113
  · exact tok120
  · exact tok122
  · exact tok130
  · exact tok160
theorem tyAll : lk 2 tys = some { kind := 4, size := 1, bytes := 8, z := [.int .i64 0], ik := some .i64 } ∧ lk 3 tys = some { kind := 4, size := 1, bytes := 8, z := [.int .i64 0], ik := some .i64 } ∧ lk 4 tys = some { kind := 5, size := 1, bytes := 1, z := [.bool false] } ∧ lk 5 tys = some { kind := 4, size := 1, bytes := 1, z := [.int .u8 0], ik := some .u8 } ∧ lk 9 tys = some { kind := 2, size := 1, bytes := 16, z := [.string ⟨#[]⟩] } ∧ lk 12 tys = some { kind := 4, size := 1, bytes := 8, z := [.int .u64 0], ik := some .u64 } ∧ lk 21 tys = some { kind := 4, size := 1, bytes := 4, z := [.int .i32 0], ik := some .i32 } ∧ lk 22 tys = some { kind := 1, size := 1, bytes := 24, z := [.slice none 0 0], elem := 82 } ∧ lk 24 tys = some { kind := 3, size := 1, bytes := 24, z := [.slice none 0 0], offs := [(0, 1)] } ∧ lk 25 tys = some { kind := 1, size := 1, bytes := 24, z := [.slice none 0 0], elem := 3 } ∧ lk 27 tys = some { kind := 3, size := 2, bytes := 48, z := [.slice none 0 0, .slice none 0 0], offs := [(0, 1), (1, 1)] } ∧ lk 30 tys = some { kind := 1, size := 1, bytes := 24, z := [.slice none 0 0], elem := 87 } ∧ lk 32 tys = some { kind := 3, size := 1, bytes := 24, z := [.slice none 0 0], offs := [(0, 1)] } ∧ lk 34 tys = some { kind := 3, size := 2, bytes := 48, z := [.slice none 0 0, .slice none 0 0], offs := [(0, 1), (1, 1)] } ∧ lk 44 tys = some { kind := 1, size := 1, bytes := 24, z := [.slice none 0 0], elem := 47 } ∧ lk 47 tys = some { kind := 3, size := 2, bytes := 24, z := [.string ⟨#[]⟩, .int .i64 0], offs := [(0, 1), (1, 1)], eqs := [2, 4] } ∧ lk 62 tys = some { kind := 1, size := 1, bytes := 24, z := [.slice none 0 0], elem := 85 } ∧ lk 65 tys = some { kind := 1, size := 1, bytes := 24, z := [.slice none 0 0], elem := 5 } ∧ lk 80 tys = some { kind := 3, size := 2, bytes := 24, z := [.string ⟨#[]⟩, .int .i64 0], offs := [(0, 1), (1, 1)], eqs := [2, 4] } ∧ lk 82 tys = some { kind := 3, size := 3, bytes := 32, z := [.int .i64 0, .string ⟨#[]⟩, .int .i64 0], offs := [(0, 1), (1, 2)], eqs := [4, 2, 4] } ∧ lk 85 tys = some { kind := 3, size := 2, bytes := 24, z := [.string ⟨#[]⟩, .int .i64 0], offs := [(0, 1), (1, 1)], eqs := [2, 4] } ∧ lk 87 tys = some { kind := 3, size := 3, bytes := 32, z := [.int .i64 0, .string ⟨#[]⟩, .int .i64 0], offs := [(0, 1), (1, 2)], eqs := [4, 2, 4] } ∧ lk 89 tys = some { kind := 1, size := 1, bytes := 24, z := [.slice none 0 0], elem := 9 } ∧ lk 94 tys = some { kind := 4, size := 1, bytes := 8, z := [.int .u64 0], ik := some .u64 } ∧ lk 105 tys = some { kind := 3, size := 2, bytes := 32, z := [.pointer none, .slice none 0 0], offs := [(0, 1), (1, 1)] } ∧ lk 113 tys = some { kind := 4, size := 1, bytes := 8, z := [.int .i64 0], ik := some .i64 } ∧ lk 120 tys = some { kind := 4, size := 1, bytes := 4, z := [.int .u32 0], ik := some .u32 } ∧ lk 122 tys = some { kind := 4, size := 1, bytes := 8, z := [.int .u64 0], ik := some .u64 } ∧ lk 130 tys = some { kind := 4, size := 1, bytes := 8, z := [.int .u64 0], ik := some .u64 } ∧ lk 160 tys = some { kind := 3, size := 2, bytes := 2, z := [.int .u8 0, .int .u8 0], offs := [(0, 1), (1, 1)], eqs := [4, 4] } := ⟨rfl, rfl, rfl, rfl, rfl, rfl, rfl, rfl, rfl, rfl, rfl, rfl, rfl, rfl, rfl, rfl, rfl, rfl, rfl, rfl, rfl, rfl, rfl, rfl, rfl, rfl, rfl, rfl, rfl, rfl⟩
end Go.Proofs.YtolnapfgfdgifaaDoor
