/-
  DERIVED. The seat's table of types, as VcB wants it. Made by program (mk_tab.py).
-/
import Derived.Test.YtolnapfgfdgifaaVcT
import Derived.Test.YtolnapfgfdgifaaProg
import Derived.KernelRfl
namespace Go.Proofs.Ytolnapfgfdgifaa
open Go.Vc
def td2 : TyD := { kind := 4, size := 1, bytes := 8, z := [.int .i64 0], ik := some .i64 } -- int64
def td3 : TyD := { kind := 4, size := 1, bytes := 8, z := [.int .i64 0], ik := some .i64 } -- int
def td4 : TyD := { kind := 5, size := 1, bytes := 1, z := [.bool false] } -- bool
def td5 : TyD := { kind := 4, size := 1, bytes := 1, z := [.int .u8 0], ik := some .u8 } -- uint8
def td9 : TyD := { kind := 2, size := 1, bytes := 16, z := [.string ⟨#[]⟩] } -- string
def td12 : TyD := { kind := 4, size := 1, bytes := 8, z := [.int .u64 0], ik := some .u64 } -- uintptr
def td21 : TyD := { kind := 4, size := 1, bytes := 4, z := [.int .i32 0], ik := some .i32 } -- int32
def td22 : TyD := { kind := 1, size := 1, bytes := 24, z := [.slice none 0 0], elem := 66 } -- []laws.Node
def td24 : TyD := { kind := 3, size := 1, bytes := 24, z := [.slice none 0 0], offs := [(0, 1)] } -- laws.Stacks
def td25 : TyD := { kind := 1, size := 1, bytes := 24, z := [.slice none 0 0], elem := 3 } -- []int
def td27 : TyD := { kind := 3, size := 2, bytes := 48, z := [.slice none 0 0, .slice none 0 0], offs := [(0, 1), (1, 1)] } -- laws.Profile
def td29 : TyD := { kind := 3, size := 4, bytes := 64, z := [.slice none 0 0, .slice none 0 0, .int .i64 0, .int .i64 0], offs := [(0, 2), (2, 1), (3, 1)] } -- laws.Report
def td32 : TyD := { kind := 1, size := 1, bytes := 24, z := [.slice none 0 0], elem := 59 } -- []impl.Node
def td34 : TyD := { kind := 3, size := 1, bytes := 24, z := [.slice none 0 0], offs := [(0, 1)] } -- impl.Stacks
def td36 : TyD := { kind := 3, size := 2, bytes := 48, z := [.slice none 0 0, .slice none 0 0], offs := [(0, 1), (1, 1)] } -- impl.Profile
def td38 : TyD := { kind := 3, size := 4, bytes := 64, z := [.slice none 0 0, .slice none 0 0, .int .i64 0, .int .i64 0], offs := [(0, 2), (2, 1), (3, 1)] } -- impl.Report
def td57 : TyD := { kind := 3, size := 2, bytes := 24, z := [.string ⟨#[]⟩, .int .i64 0], offs := [(0, 1), (1, 1)], eqs := [2, 4] } -- impl.Frame
def td59 : TyD := { kind := 3, size := 3, bytes := 32, z := [.int .i64 0, .string ⟨#[]⟩, .int .i64 0], offs := [(0, 1), (1, 2)], eqs := [4, 2, 4] } -- impl.Node
def td64 : TyD := { kind := 3, size := 2, bytes := 24, z := [.string ⟨#[]⟩, .int .i64 0], offs := [(0, 1), (1, 1)], eqs := [2, 4] } -- laws.Frame
def td66 : TyD := { kind := 3, size := 3, bytes := 32, z := [.int .i64 0, .string ⟨#[]⟩, .int .i64 0], offs := [(0, 1), (1, 2)], eqs := [4, 2, 4] } -- laws.Node
def td80 : TyD := { kind := 4, size := 1, bytes := 4, z := [.int .u32 0], ik := some .u32 } -- uint32
def tys : List (Nat × TyD) := [(2, td2), (3, td3), (4, td4), (5, td5), (9, td9), (12, td12), (21, td21), (22, td22), (24, td24), (25, td25), (27, td27), (29, td29), (32, td32), (34, td34), (36, td36), (38, td38), (57, td57), (59, td59), (64, td64), (66, td66), (80, td80)]
theorem ty2 : lk 2 tys = some { kind := 4, size := 1, bytes := 8, z := [.int .i64 0], ik := some .i64 } := rfl
theorem tok2 : TyOk Try.prog 2 td2 := ⟨by kernel_rfl, by show _ = _; kernel_rfl, by decide, .inl rfl⟩
theorem ty3 : lk 3 tys = some { kind := 4, size := 1, bytes := 8, z := [.int .i64 0], ik := some .i64 } := rfl
theorem tok3 : TyOk Try.prog 3 td3 := ⟨by kernel_rfl, by show _ = _; kernel_rfl, by decide, .inl rfl⟩
theorem ty4 : lk 4 tys = some { kind := 5, size := 1, bytes := 1, z := [.bool false] } := rfl
theorem tok4 : TyOk Try.prog 4 td4 := ⟨by kernel_rfl, by show _ = _; kernel_rfl, by decide, .inl rfl⟩
theorem ty5 : lk 5 tys = some { kind := 4, size := 1, bytes := 1, z := [.int .u8 0], ik := some .u8 } := rfl
theorem tok5 : TyOk Try.prog 5 td5 := ⟨by kernel_rfl, by show _ = _; kernel_rfl, by decide, .inl rfl⟩
theorem ty9 : lk 9 tys = some { kind := 2, size := 1, bytes := 16, z := [.string ⟨#[]⟩] } := rfl
theorem tok9 : TyOk Try.prog 9 td9 := ⟨by kernel_rfl, by show _ = _; kernel_rfl, by decide, .inl rfl⟩
theorem ty12 : lk 12 tys = some { kind := 4, size := 1, bytes := 8, z := [.int .u64 0], ik := some .u64 } := rfl
theorem tok12 : TyOk Try.prog 12 td12 := ⟨by kernel_rfl, by show _ = _; kernel_rfl, by decide, .inl rfl⟩
theorem ty21 : lk 21 tys = some { kind := 4, size := 1, bytes := 4, z := [.int .i32 0], ik := some .i32 } := rfl
theorem tok21 : TyOk Try.prog 21 td21 := ⟨by kernel_rfl, by show _ = _; kernel_rfl, by decide, .inl rfl⟩
theorem ty22 : lk 22 tys = some { kind := 1, size := 1, bytes := 24, z := [.slice none 0 0], elem := 66 } := rfl
theorem tok22 : TyOk Try.prog 22 td22 := ⟨by kernel_rfl, by show _ = _; kernel_rfl, by decide, .inl rfl⟩
theorem ty24 : lk 24 tys = some { kind := 3, size := 1, bytes := 24, z := [.slice none 0 0], offs := [(0, 1)] } := rfl
theorem tok24 : TyOk Try.prog 24 td24 := ⟨by kernel_rfl, by show _ = _; kernel_rfl, by decide, .inl rfl⟩
theorem ty25 : lk 25 tys = some { kind := 1, size := 1, bytes := 24, z := [.slice none 0 0], elem := 3 } := rfl
theorem tok25 : TyOk Try.prog 25 td25 := ⟨by kernel_rfl, by show _ = _; kernel_rfl, by decide, .inl rfl⟩
theorem ty27 : lk 27 tys = some { kind := 3, size := 2, bytes := 48, z := [.slice none 0 0, .slice none 0 0], offs := [(0, 1), (1, 1)] } := rfl
theorem tok27 : TyOk Try.prog 27 td27 := ⟨by kernel_rfl, by show _ = _; kernel_rfl, by decide, .inl rfl⟩
theorem ty29 : lk 29 tys = some { kind := 3, size := 4, bytes := 64, z := [.slice none 0 0, .slice none 0 0, .int .i64 0, .int .i64 0], offs := [(0, 2), (2, 1), (3, 1)] } := rfl
theorem tok29 : TyOk Try.prog 29 td29 := ⟨by kernel_rfl, by show _ = _; kernel_rfl, by decide, .inl rfl⟩
theorem ty32 : lk 32 tys = some { kind := 1, size := 1, bytes := 24, z := [.slice none 0 0], elem := 59 } := rfl
theorem tok32 : TyOk Try.prog 32 td32 := ⟨by kernel_rfl, by show _ = _; kernel_rfl, by decide, .inl rfl⟩
theorem ty34 : lk 34 tys = some { kind := 3, size := 1, bytes := 24, z := [.slice none 0 0], offs := [(0, 1)] } := rfl
theorem tok34 : TyOk Try.prog 34 td34 := ⟨by kernel_rfl, by show _ = _; kernel_rfl, by decide, .inl rfl⟩
theorem ty36 : lk 36 tys = some { kind := 3, size := 2, bytes := 48, z := [.slice none 0 0, .slice none 0 0], offs := [(0, 1), (1, 1)] } := rfl
theorem tok36 : TyOk Try.prog 36 td36 := ⟨by kernel_rfl, by show _ = _; kernel_rfl, by decide, .inl rfl⟩
theorem ty38 : lk 38 tys = some { kind := 3, size := 4, bytes := 64, z := [.slice none 0 0, .slice none 0 0, .int .i64 0, .int .i64 0], offs := [(0, 2), (2, 1), (3, 1)] } := rfl
theorem tok38 : TyOk Try.prog 38 td38 := ⟨by kernel_rfl, by show _ = _; kernel_rfl, by decide, .inl rfl⟩
theorem ty57 : lk 57 tys = some { kind := 3, size := 2, bytes := 24, z := [.string ⟨#[]⟩, .int .i64 0], offs := [(0, 1), (1, 1)], eqs := [2, 4] } := rfl
theorem tok57 : TyOk Try.prog 57 td57 := ⟨by kernel_rfl, by show _ = _; kernel_rfl, by decide, .inr ⟨by kernel_rfl, by kernel_rfl, rfl⟩⟩
theorem ty59 : lk 59 tys = some { kind := 3, size := 3, bytes := 32, z := [.int .i64 0, .string ⟨#[]⟩, .int .i64 0], offs := [(0, 1), (1, 2)], eqs := [4, 2, 4] } := rfl
theorem tok59 : TyOk Try.prog 59 td59 := ⟨by kernel_rfl, by show _ = _; kernel_rfl, by decide, .inr ⟨by kernel_rfl, by kernel_rfl, rfl⟩⟩
theorem ty64 : lk 64 tys = some { kind := 3, size := 2, bytes := 24, z := [.string ⟨#[]⟩, .int .i64 0], offs := [(0, 1), (1, 1)], eqs := [2, 4] } := rfl
theorem tok64 : TyOk Try.prog 64 td64 := ⟨by kernel_rfl, by show _ = _; kernel_rfl, by decide, .inr ⟨by kernel_rfl, by kernel_rfl, rfl⟩⟩
theorem ty66 : lk 66 tys = some { kind := 3, size := 3, bytes := 32, z := [.int .i64 0, .string ⟨#[]⟩, .int .i64 0], offs := [(0, 1), (1, 2)], eqs := [4, 2, 4] } := rfl
theorem tok66 : TyOk Try.prog 66 td66 := ⟨by kernel_rfl, by show _ = _; kernel_rfl, by decide, .inr ⟨by kernel_rfl, by kernel_rfl, rfl⟩⟩
theorem ty80 : lk 80 tys = some { kind := 4, size := 1, bytes := 4, z := [.int .u32 0], ik := some .u32 } := rfl
theorem tok80 : TyOk Try.prog 80 td80 := ⟨by kernel_rfl, by show _ = _; kernel_rfl, by decide, .inl rfl⟩
theorem tysOk : ∀ T d, lk T tys = some d → TyOk Try.prog T d := fun T d h => by
  have hm := lk_mem h
  simp only [tys, List.mem_cons, Prod.mk.injEq, List.not_mem_nil, or_false] at hm
  rcases hm with ⟨rfl, rfl⟩ | ⟨rfl, rfl⟩ | ⟨rfl, rfl⟩ | ⟨rfl, rfl⟩ | ⟨rfl, rfl⟩ | ⟨rfl, rfl⟩ | ⟨rfl, rfl⟩ | ⟨rfl, rfl⟩ | ⟨rfl, rfl⟩ | ⟨rfl, rfl⟩ | ⟨rfl, rfl⟩ | ⟨rfl, rfl⟩ | ⟨rfl, rfl⟩ | ⟨rfl, rfl⟩ | ⟨rfl, rfl⟩ | ⟨rfl, rfl⟩ | ⟨rfl, rfl⟩ | ⟨rfl, rfl⟩ | ⟨rfl, rfl⟩ | ⟨rfl, rfl⟩ | ⟨rfl, rfl⟩
  · exact tok2
  · exact tok3
  · exact tok4
  · exact tok5
  · exact tok9
  · exact tok12
  · exact tok21
  · exact tok22
  · exact tok24
  · exact tok25
  · exact tok27
  · exact tok29
  · exact tok32
  · exact tok34
  · exact tok36
  · exact tok38
  · exact tok57
  · exact tok59
  · exact tok64
  · exact tok66
  · exact tok80
theorem tyAll : lk 2 tys = some { kind := 4, size := 1, bytes := 8, z := [.int .i64 0], ik := some .i64 } ∧ lk 3 tys = some { kind := 4, size := 1, bytes := 8, z := [.int .i64 0], ik := some .i64 } ∧ lk 4 tys = some { kind := 5, size := 1, bytes := 1, z := [.bool false] } ∧ lk 5 tys = some { kind := 4, size := 1, bytes := 1, z := [.int .u8 0], ik := some .u8 } ∧ lk 9 tys = some { kind := 2, size := 1, bytes := 16, z := [.string ⟨#[]⟩] } ∧ lk 12 tys = some { kind := 4, size := 1, bytes := 8, z := [.int .u64 0], ik := some .u64 } ∧ lk 21 tys = some { kind := 4, size := 1, bytes := 4, z := [.int .i32 0], ik := some .i32 } ∧ lk 22 tys = some { kind := 1, size := 1, bytes := 24, z := [.slice none 0 0], elem := 66 } ∧ lk 24 tys = some { kind := 3, size := 1, bytes := 24, z := [.slice none 0 0], offs := [(0, 1)] } ∧ lk 25 tys = some { kind := 1, size := 1, bytes := 24, z := [.slice none 0 0], elem := 3 } ∧ lk 27 tys = some { kind := 3, size := 2, bytes := 48, z := [.slice none 0 0, .slice none 0 0], offs := [(0, 1), (1, 1)] } ∧ lk 29 tys = some { kind := 3, size := 4, bytes := 64, z := [.slice none 0 0, .slice none 0 0, .int .i64 0, .int .i64 0], offs := [(0, 2), (2, 1), (3, 1)] } ∧ lk 32 tys = some { kind := 1, size := 1, bytes := 24, z := [.slice none 0 0], elem := 59 } ∧ lk 34 tys = some { kind := 3, size := 1, bytes := 24, z := [.slice none 0 0], offs := [(0, 1)] } ∧ lk 36 tys = some { kind := 3, size := 2, bytes := 48, z := [.slice none 0 0, .slice none 0 0], offs := [(0, 1), (1, 1)] } ∧ lk 38 tys = some { kind := 3, size := 4, bytes := 64, z := [.slice none 0 0, .slice none 0 0, .int .i64 0, .int .i64 0], offs := [(0, 2), (2, 1), (3, 1)] } ∧ lk 57 tys = some { kind := 3, size := 2, bytes := 24, z := [.string ⟨#[]⟩, .int .i64 0], offs := [(0, 1), (1, 1)], eqs := [2, 4] } ∧ lk 59 tys = some { kind := 3, size := 3, bytes := 32, z := [.int .i64 0, .string ⟨#[]⟩, .int .i64 0], offs := [(0, 1), (1, 2)], eqs := [4, 2, 4] } ∧ lk 64 tys = some { kind := 3, size := 2, bytes := 24, z := [.string ⟨#[]⟩, .int .i64 0], offs := [(0, 1), (1, 1)], eqs := [2, 4] } ∧ lk 66 tys = some { kind := 3, size := 3, bytes := 32, z := [.int .i64 0, .string ⟨#[]⟩, .int .i64 0], offs := [(0, 1), (1, 2)], eqs := [4, 2, 4] } ∧ lk 80 tys = some { kind := 4, size := 1, bytes := 4, z := [.int .u32 0], ik := some .u32 } := ⟨rfl, rfl, rfl, rfl, rfl, rfl, rfl, rfl, rfl, rfl, rfl, rfl, rfl, rfl, rfl, rfl, rfl, rfl, rfl, rfl, rfl⟩
end Go.Proofs.Ytolnapfgfdgifaa
