/-
  DERIVED. Several texts of ours in one: VcMd.
-/
import Derived.Test.YtjdklcjoeanimaaGreatVd2
set_option linter.unusedSimpArgs false
set_option linter.unusedVariables false
set_option maxHeartbeats 1000000
set_option maxRecDepth 10000
namespace Go.Vc
section
variable {c:Cx}{N:Nat}{X0:Nat→Prop}{M:Nat→BV→Prop}{w0:World}{st:St}{K:Exit→St→Prop}
theorem WP.kIl {b:Nat}{ops:Array Oper}{d:Bool}(h:WP c N X0 M w0 (.region b ops d) st K):WP c N X0 M w0 (.region b ops d) st K:=h
end
end Go.Vc

