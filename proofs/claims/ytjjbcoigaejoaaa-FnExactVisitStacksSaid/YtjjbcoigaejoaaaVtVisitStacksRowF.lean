/-
 DERIVED. FnExactVisitStacks: for every input the law returns true and the input reads as it did.
-/
import Derived.Test.YtjjbcoigaejoaaaVb0
import Derived.Test.YtjjbcoigaejoaaaVb1
import Derived.Test.YtjjbcoigaejoaaaVb2
import Derived.Test.YtjjbcoigaejoaaaVb3
import Derived.Test.YtjjbcoigaejoaaaVb4
import Derived.Test.YtjjbcoigaejoaaaVb5
import Derived.Test.YtjjbcoigaejoaaaVb6
import Derived.Test.YtjjbcoigaejoaaaVb7
import Derived.Test.YtjjbcoigaejoaaaVb8
import Derived.Test.YtjjbcoigaejoaaaVb9
import Derived.Test.YtjjbcoigaejoaaaVb10
import Derived.Test.YtjjbcoigaejoaaaRows
namespace Go.Proofs.Ytjjbcoigaejoaaa.fnExactVisitStacks
open Go.Vc Go.ChangeShapes Go.WideShapes Go.ChangeAt Go.RowKit
set_option linter.unusedVariables false
theorem own : ownKnob Try.prog.godebug = none := by kernel_rfl
theorem laidOut : laidOutB Try.prog = true := by kernel_rfl
set_option maxRecDepth 100000 in
theorem lifted (os : Os) (started : os.Started) (H : Type) (enc : TypeId × Value → H) :
  ReturnsInHanded {} Try.checked os 5 .any (Rows.fnExactVisitStacksSpec.pre6 enc Try.prog Try.f5 Rows.fnExactVisitStacksRow.domain false) (Rows.fnExactVisitStacksSpec.post enc Try.prog Try.f5 false true false false) := by
 refine returnsInHanded_of_change (C := Try.checked) own started (by kernel_rfl) Try.func5
  (ChangeSpec.witness6 (enc := enc) (C := Try.checked) false ⟨#[], #[.slice none 0 0, .int .i64 0], []⟩ 8 (by kernel_rfl) (by kernel_rfl) (by kernel_rfl) (by kernel_rfl)) ?_
 intro W base args ds gs before hval0 hW hcnd _
 have hval : ∀ (j : Nat) t v, Try.f5.params[j]? = some t → args[j]? = some v → Value.okWide Try.prog W .any base t v := hval0
 have hW' := hW
 obtain ⟨p, q, hA0, hV, rfl, hfz, hnd⟩ := hW
 have hA : DataW.TrodAll enc Try.prog W 0 (fun _ => true) true Try.f5.params.toList args.toList ds p := hA0
 rw [Try.params5] at hA hval
 obtain ⟨v0, vs0, d0, ds0, p0, q0, hargs, rfl, rfl, h0, r0⟩ := trodAll_cons hA
 obtain ⟨v1, vs1, d1, ds1, p1, q1, rfl, rfl, rfl, h1, r1⟩ := trodAll_cons r0
 obtain ⟨rfl, rfl, rfl⟩ := trodAll_nil r1
 obtain rfl : args = #[v0, v1] := by cases args; simp_all
 obtain ⟨rfl, rfl⟩ := trodVars_none hV
 obtain ⟨x0, w0, R0⟩ := Dec.arg (Dec.slice (s := 4) Try.underlying22 (by kernel_rfl) (by omega) rowLine (fun _ => rfl)) (okWide_slice1 Try.underlying22 (hval 0 22 v0 rfl rfl)) h0
 obtain ⟨x1, w1, R1⟩ := Dec.arg (Dec.int Try.underlying3) (okWide_int1 Try.underlying3 (hval 1 3 v1 rfl rfl)) h1
 refine ((lawVst x0 x1 w0).calls (.inl (by kernel_rfl)) (vs := [v0, v1]) rfl (fun i c u hc hu => ?_)).mono fun e W' he => ?_
 ·match i, hc, hu with
  | 0, hc, hu => simp at hc hu; subst hc hu; exact R0
  | 1, hc, hu => simp at hc hu; subst hc hu; exact R1
  | (i + 2), hc, hu => simp at hc
 ·obtain ⟨rfl, hb⟩ := he
  exact ⟨_, rfl, law_post (tb := 4) laidOut hW' rfl rfl Try.underlying4 (by kernel_rfl) rfl rfl rfl hb⟩
theorem holds : Rows.FnExactVisitStacksSaid :=
 OpenClaim.holds_of_wide 5 Try.f5 rfl rfl rfl rfl rfl rfl rfl ⟨rfl, rfl, rfl, rfl, rfl⟩ rfl rfl rfl rfl rfl (by kernel_rfl) Try.func5 (by kernel_rfl)
  (of_decide_eq_true (by kernel_rfl)) (by unfold Func.isWrapper; first | (rw [if_pos (by decide +kernel)]; kernel_rfl) | (rw [if_neg (by decide +kernel)]; exact ⟨rfl, rfl⟩))
  (fun os started H enc _ => lifted os started H enc)
end Go.Proofs.Ytjjbcoigaejoaaa.fnExactVisitStacks
