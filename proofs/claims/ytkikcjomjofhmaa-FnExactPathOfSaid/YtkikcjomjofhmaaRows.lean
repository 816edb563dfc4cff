/-
  No cell of these rows narrows 'for every input' (looked for: loops, veiled, ifaces, maps, wideKeys, modest, calm, conditions, laid).
  DERIVED. THE GIVEN ROWS OF THIS SEAT. 11 by the template 'for every input the law returns true; each argument reads behind the call as it read before'; 0 by the template 'total and deterministic' (their statements: YtkikcjomjofhmaaTotals.lean).
  GIVEN WITH THE SEED: the statements are not yours to turn. If you find one false, say at which input.
  Laid BY PROGRAM, IN A SANDBOX (cutbox-rows.mjs): the forced cells as the released guide's own fill.sh prints them over the translation 1d52f563895ed5d0… (all of the seat's roots in one cut). By AI agents, Wed Nov 11 2026. No macro, syntax, notation, axiom, sorry.
-/
import Derived.Test.YtkikcjomjofhmaaChecked
import GoSem.Claim
import GoSem.ClaimJoined
import GoSem.ClaimMapViews
import Derived.JoinedTies
import Derived.KernelRfl
namespace Go.Proofs.Ytkikcjomjofhmaa
/- THE CELL 'sum', in the pinned program and in every row, IS THE sha256 OF THE DUMP (.gsa) THAT YtkikcjomjofhmaaProg.lean LOADS. Nothing in Lean hashes anything: it is a label: what it is worth is what the hold of that sum in a sandbox is worth. -/
noncomputable def Try.pinned : Pinned := { name := "ytkikcjomjofhmaa", sum := "1d52f563895ed5d08dfd885fb6de6604bb6108d1009fb2a0e9b78ee4715c7eb1", checked := Try.checked }
namespace Rows
def none {H : Type} : Left H := { results := [], args := [] }

/-- 'laws.FnExactWeightsOf': WHATEVER THE INPUT: true; the input reads as it did. -/
def fnExactWeightsOfSpec : ChangeSpec := { name := "fnExactWeightsOf", fn := fun _ => fun
  | [d] => { results := [.lit (.bool true)], args := [d] }
  | _ => none }
def fnExactWeightsOfRow : OpenClaim := { program := "ytkikcjomjofhmaa", sum := "1d52f563895ed5d08dfd885fb6de6604bb6108d1009fb2a0e9b78ee4715c7eb1", func := "loop.example/g03314/laws.FnExactWeightsOf", spec := "fnExactWeightsOf", apart := false }
def FnExactWeightsOfSaid : Prop := fnExactWeightsOfRow.holds Try.pinned (OpenSpec.ofChange fnExactWeightsOfSpec)

/-- ITS FALSE NEIGHBOUR: 'it returns false'. Refute it at one input. -/
def fnExactWeightsOfWrong : ChangeSpec := { name := "fnExactWeightsOf", fn := fun _ => fun
  | [d] => { results := [.lit (.bool false)], args := [d] }
  | _ => none }
def FnExactWeightsOfWrongFalsely : Prop := fnExactWeightsOfRow.holds Try.pinned (OpenSpec.ofChange fnExactWeightsOfWrong)

/-- 'laws.FnExactBoxAt': WHATEVER THE INPUT: true; the input reads as it did. -/
def fnExactBoxAtSpec : ChangeSpec := { name := "fnExactBoxAt", fn := fun _ => fun
  | [d1, d2, d3] => { results := [.lit (.bool true)], args := [d1, d2, d3] }
  | _ => none }
def fnExactBoxAtRow : OpenClaim := { program := "ytkikcjomjofhmaa", sum := "1d52f563895ed5d08dfd885fb6de6604bb6108d1009fb2a0e9b78ee4715c7eb1", func := "loop.example/g03314/laws.FnExactBoxAt", spec := "fnExactBoxAt", apart := false }
def FnExactBoxAtSaid : Prop := fnExactBoxAtRow.holds Try.pinned (OpenSpec.ofChange fnExactBoxAtSpec)

/-- ITS FALSE NEIGHBOUR: 'it returns false'. Refute it at one input. -/
def fnExactBoxAtWrong : ChangeSpec := { name := "fnExactBoxAt", fn := fun _ => fun
  | [d1, d2, d3] => { results := [.lit (.bool false)], args := [d1, d2, d3] }
  | _ => none }
def FnExactBoxAtWrongFalsely : Prop := fnExactBoxAtRow.holds Try.pinned (OpenSpec.ofChange fnExactBoxAtWrong)

/-- 'laws.FnExactRowOf': WHATEVER THE INPUT: true; the input reads as it did. -/
def fnExactRowOfSpec : ChangeSpec := { name := "fnExactRowOf", fn := fun _ => fun
  | [d1, d2] => { results := [.lit (.bool true)], args := [d1, d2] }
  | _ => none }
def fnExactRowOfRow : OpenClaim := { program := "ytkikcjomjofhmaa", sum := "1d52f563895ed5d08dfd885fb6de6604bb6108d1009fb2a0e9b78ee4715c7eb1", func := "loop.example/g03314/laws.FnExactRowOf", spec := "fnExactRowOf", unfollowed := true, recurses := true, apart := false }
def FnExactRowOfSaid : Prop := fnExactRowOfRow.holds Try.pinned (OpenSpec.ofChange fnExactRowOfSpec)

/-- ITS FALSE NEIGHBOUR: 'it returns false'. Refute it at one input. -/
def fnExactRowOfWrong : ChangeSpec := { name := "fnExactRowOf", fn := fun _ => fun
  | [d1, d2] => { results := [.lit (.bool false)], args := [d1, d2] }
  | _ => none }
def FnExactRowOfWrongFalsely : Prop := fnExactRowOfRow.holds Try.pinned (OpenSpec.ofChange fnExactRowOfWrong)

/-- 'laws.FnExactFoldedLine': WHATEVER THE INPUT: true; the input reads as it did. -/
def fnExactFoldedLineSpec : ChangeSpec := { name := "fnExactFoldedLine", fn := fun _ => fun
  | [d] => { results := [.lit (.bool true)], args := [d] }
  | _ => none }
def fnExactFoldedLineRow : OpenClaim := { program := "ytkikcjomjofhmaa", sum := "1d52f563895ed5d08dfd885fb6de6604bb6108d1009fb2a0e9b78ee4715c7eb1", func := "loop.example/g03314/laws.FnExactFoldedLine", spec := "fnExactFoldedLine", apart := false }
def FnExactFoldedLineSaid : Prop := fnExactFoldedLineRow.holds Try.pinned (OpenSpec.ofChange fnExactFoldedLineSpec)

/-- ITS FALSE NEIGHBOUR: 'it returns false'. Refute it at one input. -/
def fnExactFoldedLineWrong : ChangeSpec := { name := "fnExactFoldedLine", fn := fun _ => fun
  | [d] => { results := [.lit (.bool false)], args := [d] }
  | _ => none }
def FnExactFoldedLineWrongFalsely : Prop := fnExactFoldedLineRow.holds Try.pinned (OpenSpec.ofChange fnExactFoldedLineWrong)

/-- 'laws.FnExactTreeOk': WHATEVER THE INPUT: true; the input reads as it did. -/
def fnExactTreeOkSpec : ChangeSpec := { name := "fnExactTreeOk", fn := fun _ => fun
  | [d] => { results := [.lit (.bool true)], args := [d] }
  | _ => none }
def fnExactTreeOkRow : OpenClaim := { program := "ytkikcjomjofhmaa", sum := "1d52f563895ed5d08dfd885fb6de6604bb6108d1009fb2a0e9b78ee4715c7eb1", func := "loop.example/g03314/laws.FnExactTreeOk", spec := "fnExactTreeOk", apart := false }
def FnExactTreeOkSaid : Prop := fnExactTreeOkRow.holds Try.pinned (OpenSpec.ofChange fnExactTreeOkSpec)

/-- ITS FALSE NEIGHBOUR: 'it returns false'. Refute it at one input. -/
def fnExactTreeOkWrong : ChangeSpec := { name := "fnExactTreeOk", fn := fun _ => fun
  | [d] => { results := [.lit (.bool false)], args := [d] }
  | _ => none }
def FnExactTreeOkWrongFalsely : Prop := fnExactTreeOkRow.holds Try.pinned (OpenSpec.ofChange fnExactTreeOkWrong)

/-- 'laws.FnExactTreeTotal': WHATEVER THE INPUT: true; the input reads as it did. -/
def fnExactTreeTotalSpec : ChangeSpec := { name := "fnExactTreeTotal", fn := fun _ => fun
  | [d] => { results := [.lit (.bool true)], args := [d] }
  | _ => none }
def fnExactTreeTotalRow : OpenClaim := { program := "ytkikcjomjofhmaa", sum := "1d52f563895ed5d08dfd885fb6de6604bb6108d1009fb2a0e9b78ee4715c7eb1", func := "loop.example/g03314/laws.FnExactTreeTotal", spec := "fnExactTreeTotal", apart := false }
def FnExactTreeTotalSaid : Prop := fnExactTreeTotalRow.holds Try.pinned (OpenSpec.ofChange fnExactTreeTotalSpec)

/-- ITS FALSE NEIGHBOUR: 'it returns false'. Refute it at one input. -/
def fnExactTreeTotalWrong : ChangeSpec := { name := "fnExactTreeTotal", fn := fun _ => fun
  | [d] => { results := [.lit (.bool false)], args := [d] }
  | _ => none }
def FnExactTreeTotalWrongFalsely : Prop := fnExactTreeTotalRow.holds Try.pinned (OpenSpec.ofChange fnExactTreeTotalWrong)

/-- 'laws.FnExactPathOf': WHATEVER THE INPUT: true; the input reads as it did. -/
def fnExactPathOfSpec : ChangeSpec := { name := "fnExactPathOf", fn := fun _ => fun
  | [d1, d2] => { results := [.lit (.bool true)], args := [d1, d2] }
  | _ => none }
def fnExactPathOfRow : OpenClaim := { program := "ytkikcjomjofhmaa", sum := "1d52f563895ed5d08dfd885fb6de6604bb6108d1009fb2a0e9b78ee4715c7eb1", func := "loop.example/g03314/laws.FnExactPathOf", spec := "fnExactPathOf", apart := false }
def FnExactPathOfSaid : Prop := fnExactPathOfRow.holds Try.pinned (OpenSpec.ofChange fnExactPathOfSpec)

/-- ITS FALSE NEIGHBOUR: 'it returns false'. Refute it at one input. -/
def fnExactPathOfWrong : ChangeSpec := { name := "fnExactPathOf", fn := fun _ => fun
  | [d1, d2] => { results := [.lit (.bool false)], args := [d1, d2] }
  | _ => none }
def FnExactPathOfWrongFalsely : Prop := fnExactPathOfRow.holds Try.pinned (OpenSpec.ofChange fnExactPathOfWrong)

/-- 'laws.FnExactHeaviest': WHATEVER THE INPUT: true; the input reads as it did. -/
def fnExactHeaviestSpec : ChangeSpec := { name := "fnExactHeaviest", fn := fun _ => fun
  | [d] => { results := [.lit (.bool true)], args := [d] }
  | _ => none }
def fnExactHeaviestRow : OpenClaim := { program := "ytkikcjomjofhmaa", sum := "1d52f563895ed5d08dfd885fb6de6604bb6108d1009fb2a0e9b78ee4715c7eb1", func := "loop.example/g03314/laws.FnExactHeaviest", spec := "fnExactHeaviest", apart := false }
def FnExactHeaviestSaid : Prop := fnExactHeaviestRow.holds Try.pinned (OpenSpec.ofChange fnExactHeaviestSpec)

/-- ITS FALSE NEIGHBOUR: 'it returns false'. Refute it at one input. -/
def fnExactHeaviestWrong : ChangeSpec := { name := "fnExactHeaviest", fn := fun _ => fun
  | [d] => { results := [.lit (.bool false)], args := [d] }
  | _ => none }
def FnExactHeaviestWrongFalsely : Prop := fnExactHeaviestRow.holds Try.pinned (OpenSpec.ofChange fnExactHeaviestWrong)

/-- 'laws.FnExactBoxesInside': WHATEVER THE INPUT: true; the input reads as it did. -/
def fnExactBoxesInsideSpec : ChangeSpec := { name := "fnExactBoxesInside", fn := fun _ => fun
  | [d1, d2] => { results := [.lit (.bool true)], args := [d1, d2] }
  | _ => none }
def fnExactBoxesInsideRow : OpenClaim := { program := "ytkikcjomjofhmaa", sum := "1d52f563895ed5d08dfd885fb6de6604bb6108d1009fb2a0e9b78ee4715c7eb1", func := "loop.example/g03314/laws.FnExactBoxesInside", spec := "fnExactBoxesInside", apart := false }
def FnExactBoxesInsideSaid : Prop := fnExactBoxesInsideRow.holds Try.pinned (OpenSpec.ofChange fnExactBoxesInsideSpec)

/-- ITS FALSE NEIGHBOUR: 'it returns false'. Refute it at one input. -/
def fnExactBoxesInsideWrong : ChangeSpec := { name := "fnExactBoxesInside", fn := fun _ => fun
  | [d1, d2] => { results := [.lit (.bool false)], args := [d1, d2] }
  | _ => none }
def FnExactBoxesInsideWrongFalsely : Prop := fnExactBoxesInsideRow.holds Try.pinned (OpenSpec.ofChange fnExactBoxesInsideWrong)

/-- 'laws.FnExactFlameOf': WHATEVER THE INPUT: true; the input reads as it did. -/
def fnExactFlameOfSpec : ChangeSpec := { name := "fnExactFlameOf", fn := fun _ => fun
  | [d1, d2] => { results := [.lit (.bool true)], args := [d1, d2] }
  | _ => none }
def fnExactFlameOfRow : OpenClaim := { program := "ytkikcjomjofhmaa", sum := "1d52f563895ed5d08dfd885fb6de6604bb6108d1009fb2a0e9b78ee4715c7eb1", func := "loop.example/g03314/laws.FnExactFlameOf", spec := "fnExactFlameOf", unfollowed := true, recurses := true, apart := false }
def FnExactFlameOfSaid : Prop := fnExactFlameOfRow.holds Try.pinned (OpenSpec.ofChange fnExactFlameOfSpec)

/-- ITS FALSE NEIGHBOUR: 'it returns false'. Refute it at one input. -/
def fnExactFlameOfWrong : ChangeSpec := { name := "fnExactFlameOf", fn := fun _ => fun
  | [d1, d2] => { results := [.lit (.bool false)], args := [d1, d2] }
  | _ => none }
def FnExactFlameOfWrongFalsely : Prop := fnExactFlameOfRow.holds Try.pinned (OpenSpec.ofChange fnExactFlameOfWrong)

/-- 'laws.FnFlames': WHATEVER THE INPUT: true; the input reads as it did. -/
def fnFlamesSpec : ChangeSpec := { name := "fnFlames", fn := fun _ => fun
  | [d] => { results := [.lit (.bool true)], args := [d] }
  | _ => none }
def fnFlamesRow : OpenClaim := { program := "ytkikcjomjofhmaa", sum := "1d52f563895ed5d08dfd885fb6de6604bb6108d1009fb2a0e9b78ee4715c7eb1", func := "loop.example/g03314/laws.FnFlames", spec := "fnFlames", unfollowed := true, recurses := true, apart := false }
def FnFlamesSaid : Prop := fnFlamesRow.holds Try.pinned (OpenSpec.ofChange fnFlamesSpec)

/-- ITS FALSE NEIGHBOUR: 'it returns false'. Refute it at one input. -/
def fnFlamesWrong : ChangeSpec := { name := "fnFlames", fn := fun _ => fun
  | [d] => { results := [.lit (.bool false)], args := [d] }
  | _ => none }
def FnFlamesWrongFalsely : Prop := fnFlamesRow.holds Try.pinned (OpenSpec.ofChange fnFlamesWrong)

/- THE SECOND FORM. 'bulk': how many values and letters a reading holds, each counted each time it is reached (what is shared counts as often as it is met; a slice's spare places count too). A statement '..UptoSaid' is the law's where the arguments, and the package variables that the reading takes, are together of bulk at most 1048576: NARROWER than '..Said'. Prove '..Said' where nothing that the law and all that it calls make is longer than what came in: it says more and counts as full. Else prove '..UptoSaid'. A law counts once. -/
mutual
def uptoBulk {H : Type} : DataW H → Nat
  | .lit (.string bytes) => bytes.length + 1
  | .lit _ => 1
  | .nil => 1
  | .ptr d => uptoBulk d + 1
  | .slice elems spare => uptoBulkAll elems + uptoBulkAll spare + 1
  | .agg parts => uptoBulkAll parts + 1
  | .iface _ d => uptoBulk d + 1
  | .map entries => uptoBulkEntries entries + 1
  | .held _ => 1
def uptoBulkAll {H : Type} : List (DataW H) → Nat
  | [] => 0
  | d :: r => uptoBulk d + uptoBulkAll r
def uptoBulkEntries {H : Type} : List (Lit × DataW H) → Nat
  | [] => 0
  | x :: r => uptoBulkEntry x + uptoBulkEntries r
def uptoBulkEntry {H : Type} : Lit × DataW H → Nat
  | (.string bytes, d) => bytes.length + uptoBulk d + 1
  | (_, d) => uptoBulk d + 1
 end
def uptoSmall : (H : Type) → List (DataW H) → Bool := fun _ ds => decide (uptoBulkAll ds ≤ 1048576)
def OpenSpec.upto (s : _root_.Go.ChangeSpec) : _root_.Go.OpenSpec := { _root_.Go.OpenSpec.ofChange s with cond := some uptoSmall }

/-- 'laws.FnExactWeightsOf', WHERE WHAT IT READS IS OF BULK AT MOST 1048576: true; the input reads as it did. -/
def fnExactWeightsOfUptoRow : OpenClaim := { program := "ytkikcjomjofhmaa", sum := "1d52f563895ed5d08dfd885fb6de6604bb6108d1009fb2a0e9b78ee4715c7eb1", func := "loop.example/g03314/laws.FnExactWeightsOf", spec := "fnExactWeightsOf", apart := false, narrowed := true }
def FnExactWeightsOfUptoSaid : Prop := fnExactWeightsOfUptoRow.holds Try.pinned (OpenSpec.upto fnExactWeightsOfSpec)

/-- 'laws.FnExactBoxAt', WHERE WHAT IT READS IS OF BULK AT MOST 1048576: true; the input reads as it did. -/
def fnExactBoxAtUptoRow : OpenClaim := { program := "ytkikcjomjofhmaa", sum := "1d52f563895ed5d08dfd885fb6de6604bb6108d1009fb2a0e9b78ee4715c7eb1", func := "loop.example/g03314/laws.FnExactBoxAt", spec := "fnExactBoxAt", apart := false, narrowed := true }
def FnExactBoxAtUptoSaid : Prop := fnExactBoxAtUptoRow.holds Try.pinned (OpenSpec.upto fnExactBoxAtSpec)

/-- 'laws.FnExactRowOf', WHERE WHAT IT READS IS OF BULK AT MOST 1048576: true; the input reads as it did. -/
def fnExactRowOfUptoRow : OpenClaim := { program := "ytkikcjomjofhmaa", sum := "1d52f563895ed5d08dfd885fb6de6604bb6108d1009fb2a0e9b78ee4715c7eb1", func := "loop.example/g03314/laws.FnExactRowOf", spec := "fnExactRowOf", unfollowed := true, recurses := true, apart := false, narrowed := true }
def FnExactRowOfUptoSaid : Prop := fnExactRowOfUptoRow.holds Try.pinned (OpenSpec.upto fnExactRowOfSpec)

/-- 'laws.FnExactFoldedLine', WHERE WHAT IT READS IS OF BULK AT MOST 1048576: true; the input reads as it did. -/
def fnExactFoldedLineUptoRow : OpenClaim := { program := "ytkikcjomjofhmaa", sum := "1d52f563895ed5d08dfd885fb6de6604bb6108d1009fb2a0e9b78ee4715c7eb1", func := "loop.example/g03314/laws.FnExactFoldedLine", spec := "fnExactFoldedLine", apart := false, narrowed := true }
def FnExactFoldedLineUptoSaid : Prop := fnExactFoldedLineUptoRow.holds Try.pinned (OpenSpec.upto fnExactFoldedLineSpec)

/-- 'laws.FnExactTreeOk', WHERE WHAT IT READS IS OF BULK AT MOST 1048576: true; the input reads as it did. -/
def fnExactTreeOkUptoRow : OpenClaim := { program := "ytkikcjomjofhmaa", sum := "1d52f563895ed5d08dfd885fb6de6604bb6108d1009fb2a0e9b78ee4715c7eb1", func := "loop.example/g03314/laws.FnExactTreeOk", spec := "fnExactTreeOk", apart := false, narrowed := true }
def FnExactTreeOkUptoSaid : Prop := fnExactTreeOkUptoRow.holds Try.pinned (OpenSpec.upto fnExactTreeOkSpec)

/-- 'laws.FnExactTreeTotal', WHERE WHAT IT READS IS OF BULK AT MOST 1048576: true; the input reads as it did. -/
def fnExactTreeTotalUptoRow : OpenClaim := { program := "ytkikcjomjofhmaa", sum := "1d52f563895ed5d08dfd885fb6de6604bb6108d1009fb2a0e9b78ee4715c7eb1", func := "loop.example/g03314/laws.FnExactTreeTotal", spec := "fnExactTreeTotal", apart := false, narrowed := true }
def FnExactTreeTotalUptoSaid : Prop := fnExactTreeTotalUptoRow.holds Try.pinned (OpenSpec.upto fnExactTreeTotalSpec)

/-- 'laws.FnExactPathOf', WHERE WHAT IT READS IS OF BULK AT MOST 1048576: true; the input reads as it did. -/
def fnExactPathOfUptoRow : OpenClaim := { program := "ytkikcjomjofhmaa", sum := "1d52f563895ed5d08dfd885fb6de6604bb6108d1009fb2a0e9b78ee4715c7eb1", func := "loop.example/g03314/laws.FnExactPathOf", spec := "fnExactPathOf", apart := false, narrowed := true }
def FnExactPathOfUptoSaid : Prop := fnExactPathOfUptoRow.holds Try.pinned (OpenSpec.upto fnExactPathOfSpec)

/-- 'laws.FnExactHeaviest', WHERE WHAT IT READS IS OF BULK AT MOST 1048576: true; the input reads as it did. -/
def fnExactHeaviestUptoRow : OpenClaim := { program := "ytkikcjomjofhmaa", sum := "1d52f563895ed5d08dfd885fb6de6604bb6108d1009fb2a0e9b78ee4715c7eb1", func := "loop.example/g03314/laws.FnExactHeaviest", spec := "fnExactHeaviest", apart := false, narrowed := true }
def FnExactHeaviestUptoSaid : Prop := fnExactHeaviestUptoRow.holds Try.pinned (OpenSpec.upto fnExactHeaviestSpec)

/-- 'laws.FnExactBoxesInside', WHERE WHAT IT READS IS OF BULK AT MOST 1048576: true; the input reads as it did. -/
def fnExactBoxesInsideUptoRow : OpenClaim := { program := "ytkikcjomjofhmaa", sum := "1d52f563895ed5d08dfd885fb6de6604bb6108d1009fb2a0e9b78ee4715c7eb1", func := "loop.example/g03314/laws.FnExactBoxesInside", spec := "fnExactBoxesInside", apart := false, narrowed := true }
def FnExactBoxesInsideUptoSaid : Prop := fnExactBoxesInsideUptoRow.holds Try.pinned (OpenSpec.upto fnExactBoxesInsideSpec)

/-- 'laws.FnExactFlameOf', WHERE WHAT IT READS IS OF BULK AT MOST 1048576: true; the input reads as it did. -/
def fnExactFlameOfUptoRow : OpenClaim := { program := "ytkikcjomjofhmaa", sum := "1d52f563895ed5d08dfd885fb6de6604bb6108d1009fb2a0e9b78ee4715c7eb1", func := "loop.example/g03314/laws.FnExactFlameOf", spec := "fnExactFlameOf", unfollowed := true, recurses := true, apart := false, narrowed := true }
def FnExactFlameOfUptoSaid : Prop := fnExactFlameOfUptoRow.holds Try.pinned (OpenSpec.upto fnExactFlameOfSpec)

/-- 'laws.FnFlames', WHERE WHAT IT READS IS OF BULK AT MOST 1048576: true; the input reads as it did. -/
def fnFlamesUptoRow : OpenClaim := { program := "ytkikcjomjofhmaa", sum := "1d52f563895ed5d08dfd885fb6de6604bb6108d1009fb2a0e9b78ee4715c7eb1", func := "loop.example/g03314/laws.FnFlames", spec := "fnFlames", unfollowed := true, recurses := true, apart := false, narrowed := true }
def FnFlamesUptoSaid : Prop := fnFlamesUptoRow.holds Try.pinned (OpenSpec.upto fnFlamesSpec)

end Rows
end Go.Proofs.Ytkikcjomjofhmaa
