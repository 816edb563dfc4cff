/-
  No cell of these rows narrows 'for every input' (looked for: loops, veiled, ifaces, maps, wideKeys, modest, calm, conditions, laid).
  DERIVED. THE GIVEN ROWS OF THIS SEAT. 4 by the template 'for every input the law returns true; each argument reads behind the call as it read before'; 0 by the template 'total and deterministic' (their statements: YtdbjioanlkilkaaTotals.lean).
  GIVEN WITH THE SEED: the statements are not yours to turn. If you find one false, say at which input.
  Laid BY PROGRAM, IN A SANDBOX (cutbox-rows.mjs): the forced cells as the released guide's own fill.sh prints them over the translation fda9ad41250d3f90… (all of the seat's roots in one cut). By AI agents, Wed Nov 11 2026. No macro, syntax, notation, axiom, sorry.
-/
import Derived.Test.YtdbjioanlkilkaaChecked
import GoSem.Claim
import GoSem.ClaimJoined
import GoSem.ClaimMapViews
import Derived.JoinedTies
import Derived.KernelRfl
namespace Go.Proofs.Ytdbjioanlkilkaa
/- THE CELL 'sum', in the pinned program and in every row, IS THE sha256 OF THE DUMP (.gsa) THAT YtdbjioanlkilkaaProg.lean LOADS. Nothing in Lean hashes anything: it is a label: what it is worth is what the hold of that sum in a sandbox is worth. -/
noncomputable def Try.pinned : Pinned := { name := "ytdbjioanlkilkaa", sum := "fda9ad41250d3f9007a368196d60e41fa26b720ed91372da66c84e409d534b8b", checked := Try.checked }
namespace Rows
def none {H : Type} : Left H := { results := [], args := [] }

/-- 'laws.FnExactVisitFrames': WHATEVER THE INPUT: true; the input reads as it did. -/
def fnExactVisitFramesSpec : ChangeSpec := { name := "fnExactVisitFrames", fn := fun _ => fun
  | [d1, d2] => { results := [.lit (.bool true)], args := [d1, d2] }
  | _ => none }
def fnExactVisitFramesRow : OpenClaim := { program := "ytdbjioanlkilkaa", sum := "fda9ad41250d3f9007a368196d60e41fa26b720ed91372da66c84e409d534b8b", func := "loop.example/g03314/laws.FnExactVisitFrames", spec := "fnExactVisitFrames", apart := false }
def FnExactVisitFramesSaid : Prop := fnExactVisitFramesRow.holds Try.pinned (OpenSpec.ofChange fnExactVisitFramesSpec)

/-- ITS FALSE NEIGHBOUR: 'it returns false'. Refute it at one input. -/
def fnExactVisitFramesWrong : ChangeSpec := { name := "fnExactVisitFrames", fn := fun _ => fun
  | [d1, d2] => { results := [.lit (.bool false)], args := [d1, d2] }
  | _ => none }
def FnExactVisitFramesWrongFalsely : Prop := fnExactVisitFramesRow.holds Try.pinned (OpenSpec.ofChange fnExactVisitFramesWrong)

/-- 'laws.FnFlames': WHATEVER THE INPUT: true; the input reads as it did. -/
def fnFlamesSpec : ChangeSpec := { name := "fnFlames", fn := fun _ => fun
  | [d] => { results := [.lit (.bool true)], args := [d] }
  | _ => none }
def fnFlamesRow : OpenClaim := { program := "ytdbjioanlkilkaa", sum := "fda9ad41250d3f9007a368196d60e41fa26b720ed91372da66c84e409d534b8b", func := "loop.example/g03314/laws.FnFlames", spec := "fnFlames", unfollowed := true, recurses := true, apart := false }
def FnFlamesSaid : Prop := fnFlamesRow.holds Try.pinned (OpenSpec.ofChange fnFlamesSpec)

/-- ITS FALSE NEIGHBOUR: 'it returns false'. Refute it at one input. -/
def fnFlamesWrong : ChangeSpec := { name := "fnFlames", fn := fun _ => fun
  | [d] => { results := [.lit (.bool false)], args := [d] }
  | _ => none }
def FnFlamesWrongFalsely : Prop := fnFlamesRow.holds Try.pinned (OpenSpec.ofChange fnFlamesWrong)

/-- 'laws.FnExactWeighStacks': WHATEVER THE INPUT: true; the input reads as it did. -/
def fnExactWeighStacksSpec : ChangeSpec := { name := "fnExactWeighStacks", fn := fun _ => fun
  | [d1, d2] => { results := [.lit (.bool true)], args := [d1, d2] }
  | _ => none }
def fnExactWeighStacksRow : OpenClaim := { program := "ytdbjioanlkilkaa", sum := "fda9ad41250d3f9007a368196d60e41fa26b720ed91372da66c84e409d534b8b", func := "loop.example/g03314/laws.FnExactWeighStacks", spec := "fnExactWeighStacks", apart := false }
def FnExactWeighStacksSaid : Prop := fnExactWeighStacksRow.holds Try.pinned (OpenSpec.ofChange fnExactWeighStacksSpec)

/-- ITS FALSE NEIGHBOUR: 'it returns false'. Refute it at one input. -/
def fnExactWeighStacksWrong : ChangeSpec := { name := "fnExactWeighStacks", fn := fun _ => fun
  | [d1, d2] => { results := [.lit (.bool false)], args := [d1, d2] }
  | _ => none }
def FnExactWeighStacksWrongFalsely : Prop := fnExactWeighStacksRow.holds Try.pinned (OpenSpec.ofChange fnExactWeighStacksWrong)

/-- 'laws.FnExactSessionOk': WHATEVER THE INPUT: true; the input reads as it did. -/
def fnExactSessionOkSpec : ChangeSpec := { name := "fnExactSessionOk", fn := fun _ => fun
  | [d] => { results := [.lit (.bool true)], args := [d] }
  | _ => none }
def fnExactSessionOkRow : OpenClaim := { program := "ytdbjioanlkilkaa", sum := "fda9ad41250d3f9007a368196d60e41fa26b720ed91372da66c84e409d534b8b", func := "loop.example/g03314/laws.FnExactSessionOk", spec := "fnExactSessionOk", apart := false }
def FnExactSessionOkSaid : Prop := fnExactSessionOkRow.holds Try.pinned (OpenSpec.ofChange fnExactSessionOkSpec)

/-- ITS FALSE NEIGHBOUR: 'it returns false'. Refute it at one input. -/
def fnExactSessionOkWrong : ChangeSpec := { name := "fnExactSessionOk", fn := fun _ => fun
  | [d] => { results := [.lit (.bool false)], args := [d] }
  | _ => none }
def FnExactSessionOkWrongFalsely : Prop := fnExactSessionOkRow.holds Try.pinned (OpenSpec.ofChange fnExactSessionOkWrong)

/- THE SECOND FORM. 'bulk': how many values and letters a reading holds, each counted each time it is reached (what is shared counts as often as it is met; a slice's spare places count too). A statement '..UptoSaid' is the law's where the arguments, and the package variables that the reading takes, are together of bulk at most 1048576: NARROWER than '..Said'. Prove '..Said' where nothing that the law and all that it calls make is longer than what came in: it says more and counts as full. Else prove '..UptoSaid'. A law counts once. -/
mutual
def uptoBulk {H : Type} : DataW H → Nat
  | .lit (.string bytes) => bytes.length + 1
  | .lit _ => 1
  | .nil => 1
  | .ptr d => uptoBulk d + 1
  | .slice elems spare => uptoBulkAll elems + uptoBulkAll spare + 1
  | .agg parts => uptoBulkAll parts + 1
  | .iface _ d => uptoBulk d + 1
  | .map entries => uptoBulkEntries entries + 1
  | .held _ => 1
def uptoBulkAll {H : Type} : List (DataW H) → Nat
  | [] => 0
  | d :: r => uptoBulk d + uptoBulkAll r
def uptoBulkEntries {H : Type} : List (Lit × DataW H) → Nat
  | [] => 0
  | x :: r => uptoBulkEntry x + uptoBulkEntries r
def uptoBulkEntry {H : Type} : Lit × DataW H → Nat
  | (.string bytes, d) => bytes.length + uptoBulk d + 1
  | (_, d) => uptoBulk d + 1
 end
def uptoSmall : (H : Type) → List (DataW H) → Bool := fun _ ds => decide (uptoBulkAll ds ≤ 1048576)
def OpenSpec.upto (s : _root_.Go.ChangeSpec) : _root_.Go.OpenSpec := { _root_.Go.OpenSpec.ofChange s with cond := some uptoSmall }

/-- 'laws.FnExactVisitFrames', WHERE WHAT IT READS IS OF BULK AT MOST 1048576: true; the input reads as it did. -/
def fnExactVisitFramesUptoRow : OpenClaim := { program := "ytdbjioanlkilkaa", sum := "fda9ad41250d3f9007a368196d60e41fa26b720ed91372da66c84e409d534b8b", func := "loop.example/g03314/laws.FnExactVisitFrames", spec := "fnExactVisitFrames", apart := false, narrowed := true }
def FnExactVisitFramesUptoSaid : Prop := fnExactVisitFramesUptoRow.holds Try.pinned (OpenSpec.upto fnExactVisitFramesSpec)

/-- 'laws.FnFlames', WHERE WHAT IT READS IS OF BULK AT MOST 1048576: true; the input reads as it did. -/
def fnFlamesUptoRow : OpenClaim := { program := "ytdbjioanlkilkaa", sum := "fda9ad41250d3f9007a368196d60e41fa26b720ed91372da66c84e409d534b8b", func := "loop.example/g03314/laws.FnFlames", spec := "fnFlames", unfollowed := true, recurses := true, apart := false, narrowed := true }
def FnFlamesUptoSaid : Prop := fnFlamesUptoRow.holds Try.pinned (OpenSpec.upto fnFlamesSpec)

/-- 'laws.FnExactWeighStacks', WHERE WHAT IT READS IS OF BULK AT MOST 1048576: true; the input reads as it did. -/
def fnExactWeighStacksUptoRow : OpenClaim := { program := "ytdbjioanlkilkaa", sum := "fda9ad41250d3f9007a368196d60e41fa26b720ed91372da66c84e409d534b8b", func := "loop.example/g03314/laws.FnExactWeighStacks", spec := "fnExactWeighStacks", apart := false, narrowed := true }
def FnExactWeighStacksUptoSaid : Prop := fnExactWeighStacksUptoRow.holds Try.pinned (OpenSpec.upto fnExactWeighStacksSpec)

/-- 'laws.FnExactSessionOk', WHERE WHAT IT READS IS OF BULK AT MOST 1048576: true; the input reads as it did. -/
def fnExactSessionOkUptoRow : OpenClaim := { program := "ytdbjioanlkilkaa", sum := "fda9ad41250d3f9007a368196d60e41fa26b720ed91372da66c84e409d534b8b", func := "loop.example/g03314/laws.FnExactSessionOk", spec := "fnExactSessionOk", apart := false, narrowed := true }
def FnExactSessionOkUptoSaid : Prop := fnExactSessionOkUptoRow.holds Try.pinned (OpenSpec.upto fnExactSessionOkSpec)

end Rows
end Go.Proofs.Ytdbjioanlkilkaa
