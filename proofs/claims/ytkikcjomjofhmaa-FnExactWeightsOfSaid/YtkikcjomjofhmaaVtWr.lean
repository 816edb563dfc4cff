/-
  DERIVED. FnExactWeightsOf: for every input the law returns true and the input reads as it did.
-/
import Derived.Test.YtkikcjomjofhmaaRows
import Derived.Test.YtkikcjomjofhmaaVtW
import Derived.Test.YtkikcjomjofhmaaVcR
namespace Go.Proofs.Ytkikcjomjofhmaa.weightsOf
open Go.Vc Go.ChangeShapes Go.WideShapes Go.ChangeAt Go.RowKit
set_option linter.unusedVariables false

theorem own : ownKnob Try.prog.godebug = none := by kernel_rfl
theorem laidOut : laidOutB Try.prog = true := by kernel_rfl

set_option maxRecDepth 100000 in
theorem lifted (os : Os) (started : os.Started) (H : Type) (enc : TypeId × Value → H) :
    ReturnsInHanded {} Try.checked os 3 .any (Rows.fnExactWeightsOfSpec.pre6 enc Try.prog Try.f3 Rows.fnExactWeightsOfRow.domain false) (Rows.fnExactWeightsOfSpec.post enc Try.prog Try.f3 false true false false) := by
  refine returnsInHanded_of_change (C := Try.checked) own started (by kernel_rfl) Try.func3
    (ChangeSpec.witness6 (enc := enc) (C := Try.checked) false ⟨#[], #[.slice none 0 0], []⟩ 8 (by kernel_rfl) (by kernel_rfl) (by kernel_rfl) (by kernel_rfl)) ?_
  intro W base args ds gs before hval0 hW hcnd _
  have hval : ∀ (j : Nat) t v, Try.f3.params[j]? = some t → args[j]? = some v → Value.okWide Try.prog W .any base t v := hval0
  have hW' := hW
  obtain ⟨p, q, hA0, hV, rfl, hfz, hnd⟩ := hW
  have hA : DataW.TrodAll enc Try.prog W 0 (fun _ => true) true Try.f3.params.toList args.toList ds p := hA0
  rw [Try.params3] at hA hval
  obtain ⟨v0, vs0, d0, ds0, p0, q0, hargs, rfl, rfl, h0, r0⟩ := trodAll_cons hA
  obtain ⟨rfl, rfl, rfl⟩ := trodAll_nil r0
  obtain rfl : args = #[v0] := by cases args; simp_all
  obtain ⟨rfl, rfl⟩ := trodVars_none hV
  obtain ⟨L, _, hR⟩ := Dec.arg (Dec.slice (s := 1) Try.underlying22 (by kernel_rfl) (by omega) (Dec.int Try.underlying3) (fun _ => rfl)) (okWide_slice1 Try.underlying22 (hval 0 22 v0 rfl rfl)) h0
  refine ((law_holds L).calls (vs := [v0]) rfl (fun i c u hc hu => ?_)).mono fun e W' he => ?_
  · cases i with
    | zero => simp at hc hu; subst hc hu; exact hR
    | succ i => simp at hc
  · obtain ⟨rfl, hb⟩ := he
    exact ⟨_, rfl, law_post (tb := 4) laidOut hW' rfl rfl Try.underlying4 (by kernel_rfl) rfl rfl rfl hb⟩

theorem holds : Rows.FnExactWeightsOfSaid :=
  OpenClaim.holds_of_wide 3 Try.f3 rfl rfl rfl rfl rfl rfl rfl ⟨rfl, rfl, rfl, rfl, rfl⟩ rfl rfl rfl rfl rfl (by kernel_rfl) Try.func3 (by kernel_rfl)
    (of_decide_eq_true (by kernel_rfl)) (by unfold Func.isWrapper; first | (rw [if_pos (by decide +kernel)]; kernel_rfl) | (rw [if_neg (by decide +kernel)]; exact ⟨rfl, rfl⟩))
    (fun os started H enc _ => lifted os started H enc)
end Go.Proofs.Ytkikcjomjofhmaa.weightsOf
