/-
  No cell of these rows narrows 'for every input' (looked for: loops, veiled, ifaces, maps, wideKeys, modest, calm, conditions, laid).
  DERIVED. THE GIVEN ROWS OF THIS SEAT. 3 by the template 'for every input the law returns true; each argument reads behind the call as it read before'; 0 by the template 'total and deterministic' (their statements: YtjjbcoigaejoaaaTotals.lean).
  GIVEN WITH THE SEED: the statements are not yours to turn. If you find one false, say at which input.
  Laid BY PROGRAM, IN A SANDBOX (cutbox-rows.mjs): the forced cells as the released guide's own fill.sh prints them over the translation c868f3570d181ec9… (all of the seat's roots in one cut). By AI agents, Wed Nov 11 2026. No macro, syntax, notation, axiom, sorry.
-/
import Derived.Test.YtjjbcoigaejoaaaChecked
import GoSem.Claim
import GoSem.ClaimJoined
import GoSem.ClaimMapViews
import Derived.JoinedTies
import Derived.KernelRfl
namespace Go.Proofs.Ytjjbcoigaejoaaa
/- THE CELL 'sum', in the pinned program and in every row, IS THE sha256 OF THE DUMP (.gsa) THAT YtjjbcoigaejoaaaProg.lean LOADS. Nothing in Lean hashes anything: it is a label: what it is worth is what the hold of that sum in a sandbox is worth. -/
noncomputable def Try.pinned : Pinned := { name := "ytjjbcoigaejoaaa", sum := "c868f3570d181ec91ee7ff54a170774a9210f7963dd0fd1b9bae0d6d4a138347", checked := Try.checked }
namespace Rows
def none {H : Type} : Left H := { results := [], args := [] }

/-- 'laws.FnExactVisitCount': WHATEVER THE INPUT: true; the input reads as it did. -/
def fnExactVisitCountSpec : ChangeSpec := { name := "fnExactVisitCount", fn := fun _ => fun
  | [d1, d2] => { results := [.lit (.bool true)], args := [d1, d2] }
  | _ => none }
def fnExactVisitCountRow : OpenClaim := { program := "ytjjbcoigaejoaaa", sum := "c868f3570d181ec91ee7ff54a170774a9210f7963dd0fd1b9bae0d6d4a138347", func := "loop.example/g03314/laws.FnExactVisitCount", spec := "fnExactVisitCount", unfollowed := true, recurses := true, apart := false }
def FnExactVisitCountSaid : Prop := fnExactVisitCountRow.holds Try.pinned (OpenSpec.ofChange fnExactVisitCountSpec)

/-- ITS FALSE NEIGHBOUR: 'it returns false'. Refute it at one input. -/
def fnExactVisitCountWrong : ChangeSpec := { name := "fnExactVisitCount", fn := fun _ => fun
  | [d1, d2] => { results := [.lit (.bool false)], args := [d1, d2] }
  | _ => none }
def FnExactVisitCountWrongFalsely : Prop := fnExactVisitCountRow.holds Try.pinned (OpenSpec.ofChange fnExactVisitCountWrong)

/-- 'laws.FnTruths': WHATEVER THE INPUT: true; the input reads as it did. -/
def fnTruthsSpec : ChangeSpec := { name := "fnTruths", fn := fun _ => fun
  | [d] => { results := [.lit (.bool true)], args := [d] }
  | _ => none }
def fnTruthsRow : OpenClaim := { program := "ytjjbcoigaejoaaa", sum := "c868f3570d181ec91ee7ff54a170774a9210f7963dd0fd1b9bae0d6d4a138347", func := "loop.example/g03314/laws.FnTruths", spec := "fnTruths", unfollowed := true, recurses := true, apart := false }
def FnTruthsSaid : Prop := fnTruthsRow.holds Try.pinned (OpenSpec.ofChange fnTruthsSpec)

/-- ITS FALSE NEIGHBOUR: 'it returns false'. Refute it at one input. -/
def fnTruthsWrong : ChangeSpec := { name := "fnTruths", fn := fun _ => fun
  | [d] => { results := [.lit (.bool false)], args := [d] }
  | _ => none }
def FnTruthsWrongFalsely : Prop := fnTruthsRow.holds Try.pinned (OpenSpec.ofChange fnTruthsWrong)

/-- 'laws.FnExactVisitStacks': WHATEVER THE INPUT: true; the input reads as it did. -/
def fnExactVisitStacksSpec : ChangeSpec := { name := "fnExactVisitStacks", fn := fun _ => fun
  | [d1, d2] => { results := [.lit (.bool true)], args := [d1, d2] }
  | _ => none }
def fnExactVisitStacksRow : OpenClaim := { program := "ytjjbcoigaejoaaa", sum := "c868f3570d181ec91ee7ff54a170774a9210f7963dd0fd1b9bae0d6d4a138347", func := "loop.example/g03314/laws.FnExactVisitStacks", spec := "fnExactVisitStacks", unfollowed := true, recurses := true, apart := false }
def FnExactVisitStacksSaid : Prop := fnExactVisitStacksRow.holds Try.pinned (OpenSpec.ofChange fnExactVisitStacksSpec)

/-- ITS FALSE NEIGHBOUR: 'it returns false'. Refute it at one input. -/
def fnExactVisitStacksWrong : ChangeSpec := { name := "fnExactVisitStacks", fn := fun _ => fun
  | [d1, d2] => { results := [.lit (.bool false)], args := [d1, d2] }
  | _ => none }
def FnExactVisitStacksWrongFalsely : Prop := fnExactVisitStacksRow.holds Try.pinned (OpenSpec.ofChange fnExactVisitStacksWrong)

/- THE SECOND FORM. 'bulk': how many values and letters a reading holds, each counted each time it is reached (what is shared counts as often as it is met; a slice's spare places count too). A statement '..UptoSaid' is the law's where the arguments, and the package variables that the reading takes, are together of bulk at most 1048576: NARROWER than '..Said'. Prove '..Said' where nothing that the law and all that it calls make is longer than what came in: it says more and counts as full. Else prove '..UptoSaid'. A law counts once. -/
mutual
def uptoBulk {H : Type} : DataW H → Nat
  | .lit (.string bytes) => bytes.length + 1
  | .lit _ => 1
  | .nil => 1
  | .ptr d => uptoBulk d + 1
  | .slice elems spare => uptoBulkAll elems + uptoBulkAll spare + 1
  | .agg parts => uptoBulkAll parts + 1
  | .iface _ d => uptoBulk d + 1
  | .map entries => uptoBulkEntries entries + 1
  | .held _ => 1
def uptoBulkAll {H : Type} : List (DataW H) → Nat
  | [] => 0
  | d :: r => uptoBulk d + uptoBulkAll r
def uptoBulkEntries {H : Type} : List (Lit × DataW H) → Nat
  | [] => 0
  | x :: r => uptoBulkEntry x + uptoBulkEntries r
def uptoBulkEntry {H : Type} : Lit × DataW H → Nat
  | (.string bytes, d) => bytes.length + uptoBulk d + 1
  | (_, d) => uptoBulk d + 1
 end
def uptoSmall : (H : Type) → List (DataW H) → Bool := fun _ ds => decide (uptoBulkAll ds ≤ 1048576)
def OpenSpec.upto (s : _root_.Go.ChangeSpec) : _root_.Go.OpenSpec := { _root_.Go.OpenSpec.ofChange s with cond := some uptoSmall }

/-- 'laws.FnExactVisitCount', WHERE WHAT IT READS IS OF BULK AT MOST 1048576: true; the input reads as it did. -/
def fnExactVisitCountUptoRow : OpenClaim := { program := "ytjjbcoigaejoaaa", sum := "c868f3570d181ec91ee7ff54a170774a9210f7963dd0fd1b9bae0d6d4a138347", func := "loop.example/g03314/laws.FnExactVisitCount", spec := "fnExactVisitCount", unfollowed := true, recurses := true, apart := false, narrowed := true }
def FnExactVisitCountUptoSaid : Prop := fnExactVisitCountUptoRow.holds Try.pinned (OpenSpec.upto fnExactVisitCountSpec)

/-- 'laws.FnTruths', WHERE WHAT IT READS IS OF BULK AT MOST 1048576: true; the input reads as it did. -/
def fnTruthsUptoRow : OpenClaim := { program := "ytjjbcoigaejoaaa", sum := "c868f3570d181ec91ee7ff54a170774a9210f7963dd0fd1b9bae0d6d4a138347", func := "loop.example/g03314/laws.FnTruths", spec := "fnTruths", unfollowed := true, recurses := true, apart := false, narrowed := true }
def FnTruthsUptoSaid : Prop := fnTruthsUptoRow.holds Try.pinned (OpenSpec.upto fnTruthsSpec)

/-- 'laws.FnExactVisitStacks', WHERE WHAT IT READS IS OF BULK AT MOST 1048576: true; the input reads as it did. -/
def fnExactVisitStacksUptoRow : OpenClaim := { program := "ytjjbcoigaejoaaa", sum := "c868f3570d181ec91ee7ff54a170774a9210f7963dd0fd1b9bae0d6d4a138347", func := "loop.example/g03314/laws.FnExactVisitStacks", spec := "fnExactVisitStacks", unfollowed := true, recurses := true, apart := false, narrowed := true }
def FnExactVisitStacksUptoSaid : Prop := fnExactVisitStacksUptoRow.holds Try.pinned (OpenSpec.upto fnExactVisitStacksSpec)

end Rows
end Go.Proofs.Ytjjbcoigaejoaaa
