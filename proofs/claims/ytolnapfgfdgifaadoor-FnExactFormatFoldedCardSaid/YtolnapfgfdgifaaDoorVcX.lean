/-
  DERIVED. As WP.flowW, the lists that are sliced there first given up as lists of one's own.
-/
import Derived.Test.YtolnapfgfdgifaaDoorVcT
namespace Go.Vc
def St.fzS : St → List Nat → St
  | st, [] => st
  | st, s :: l => ((st.fzL (st.ev (.tmp s)).strip.ownId)).fzS l
theorem Sim.fzS {P : Program} {X0 : Nat → Prop} {M : Nat → Value → Prop} {w0 : World} {N : Nat} {β : Nat → Value} {a : Act} {w : World} (hA : Ap P X0 M w0) : ∀ (l : List Nat) {st : St}, Sim N X0 M w0 st β a w → Sim N X0 M w0 (st.fzS l) β a w
  | [], _, h => h
  | _ :: l, _, h => Sim.fzS hA l (h.fzL hA _)
theorem WP.flowZ {c : Cx} {N : Nat} {X0 : Nat → Prop} {M : Nat → Value → Prop} {w0 : World} {K : Exit → St → Prop} {id : Nat} {l : List Oper} {st : St} (zs : List Nat) (m : Nat) (fl : List Fp) (ds mks gs : List Nat) (hB : flowB l.toArray m fl = true)
    (hD : ((List.range m).all fun k => match dstAt l.toArray k with | some d => ds.contains d | none => false) = true)
    (hM : ((List.range m).all fun k => ((fpAt fl k).mks.all fun d => mks.contains d) && ((fpAt fl k).gn.all fun d => gs.contains d)) = true) (hm : c.P.follows .mixedOrders = true)
    (h : St.runG c.tys c.C N l.toArray fl ((st.fzS zs).clean ds mks) (l.take m) 0 [] fun acc => St.runR c.tys c.C N l.toArray (l.drop m) (((st.fzS zs).clean ds mks).final acc gs) (K .normal)) : WP c N X0 M w0 (.region id l.toArray true) st K := by
  intro hA β a w hs
  exact WP.flowW m fl ds mks gs hB hD hM hm h hA β a w (hs.fzS hA zs)
end Go.Vc
