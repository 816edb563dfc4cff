/-
  DERIVED. What the texts on trees share.
-/
import Derived.Test.YtkikcjomjofhmaaVgTreeNode
import Derived.Test.YtkikcjomjofhmaaVtName
