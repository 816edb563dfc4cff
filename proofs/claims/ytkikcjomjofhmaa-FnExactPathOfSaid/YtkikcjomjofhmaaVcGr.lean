/-
  DERIVED. What is package-level, off a world's shape.
-/
import Derived.Test.YtkikcjomjofhmaaVcK
import Derived.HandedShaped
namespace Go.Vc
theorem size_of_shaped {P : Program} {W : World} (h : W.ShapedOpen P) {n : Nat} (hn : P.globals.size = n + 1) {zero : Array Value} {t : TypeId} (h0 : ((begin P (fun _ _ => 0) default).world.heap[n]?).bind Obj.row? = some (zero, t)) : P.globals.size ≤ W.heap.size := by
  obtain ⟨cs, hh, _⟩ := h.1 n zero t (by omega) h0
  have := lt_of_heap hh
  omega
end Go.Vc
