/-
  DERIVED. FnExactReportOk: for every input the law returns true and the input reads as it did.
-/
import Derived.Test.YtolnapfgfdgifaaRows
import Derived.Test.YtolnapfgfdgifaaVtRep
import Derived.Test.YtolnapfgfdgifaaVtPrR
namespace Go.Proofs.Ytolnapfgfdgifaa.fnExactReportOk
open Go.Vc Go.ChangeShapes Go.WideShapes Go.ChangeAt Go.RowKit
set_option linter.unusedVariables false

theorem own : ownKnob Try.prog.godebug = none := by kernel_rfl
theorem laidOut : laidOutB Try.prog = true := by kernel_rfl
theorem rowRep {H : Type} {enc : TypeId × Value → H} {w : World} : Dec H enc Try.prog w 29 encRep (fun x => wfM (x.N, x.C)) :=
  (Dec.struct3 (k0 := 2) (k1 := 1) (k2 := 1) Try.underlying29 rfl (by kernel_rfl) rfl (by kernel_rfl) rfl (by kernel_rfl) (by kernel_rfl) rowPr (Dec.int Try.underlying3) (Dec.int Try.underlying3)).map
    (fun x : (List Node × List Int) × Int × Int => (⟨x.1.1, x.1.2, x.2.1, x.2.2⟩ : Rep)) (fun _ => rfl) (fun _ h => h.1)

set_option maxRecDepth 100000 in
theorem lifted (os : Os) (started : os.Started) (H : Type) (enc : TypeId × Value → H) :
    ReturnsInHanded {} Try.checked os 3 .any (Rows.fnExactReportOkSpec.pre6 enc Try.prog Try.f3 Rows.fnExactReportOkRow.domain false) (Rows.fnExactReportOkSpec.post enc Try.prog Try.f3 false true false false) := by
  refine returnsInHanded_of_change (C := Try.checked) own started (by kernel_rfl) Try.func3
    (ChangeSpec.witness6 (enc := enc) (C := Try.checked) false ⟨#[], #[.agg #[.slice none 0 0, .slice none 0 0, .int .i64 0, .int .i64 0]], []⟩ 8 (by kernel_rfl) (by kernel_rfl) (by kernel_rfl) (by kernel_rfl)) ?_
  intro W base args ds gs before hval0 hW hcnd _
  have hval : ∀ (j : Nat) t v, Try.f3.params[j]? = some t → args[j]? = some v → Value.okWide Try.prog W .any base t v := hval0
  have hW' := hW
  obtain ⟨p, q, hA0, hV, rfl, hfz, hnd⟩ := hW
  have hA : DataW.TrodAll enc Try.prog W 0 (fun _ => true) true Try.f3.params.toList args.toList ds p := hA0
  rw [Try.params3] at hA hval
  obtain ⟨v0, vs0, d0, ds0, p0, q0, hargs, rfl, rfl, h0, r0⟩ := trodAll_cons hA
  obtain ⟨rfl, rfl, rfl⟩ := trodAll_nil r0
  obtain rfl : args = #[v0] := by cases args; simp_all
  obtain ⟨rfl, rfl⟩ := trodVars_none hV
  obtain ⟨us, rfl, _⟩ := okWide_struct Try.underlying29 (hval 0 29 v0 rfl rfl)
  obtain ⟨x0, w0, R0⟩ := Dec.argS rowRep h0
  refine ((lawReportOk x0 w0).calls (.inl (by kernel_rfl)) (vs := [.agg us]) rfl (fun i c u hc hu => ?_)).mono fun e W' he => ?_
  · match i, hc, hu with
    | 0, hc, hu => simp at hc hu; subst hc hu; exact R0
    | (i + 1), hc, hu => simp at hc
  · obtain ⟨rfl, hb⟩ := he
    exact ⟨_, rfl, law_post (tb := 4) laidOut hW' rfl rfl Try.underlying4 (by kernel_rfl) rfl rfl rfl hb⟩

theorem holds : Rows.FnExactReportOkSaid :=
  OpenClaim.holds_of_wide 3 Try.f3 rfl rfl rfl rfl rfl rfl rfl ⟨rfl, rfl, rfl, rfl, rfl⟩ rfl rfl rfl rfl rfl (by kernel_rfl) Try.func3 (by kernel_rfl)
    (of_decide_eq_true (by kernel_rfl)) (by unfold Func.isWrapper; first | (rw [if_pos (by decide +kernel)]; kernel_rfl) | (rw [if_neg (by decide +kernel)]; exact ⟨rfl, rfl⟩))
    (fun os started H enc _ => lifted os started H enc)
end Go.Proofs.Ytolnapfgfdgifaa.fnExactReportOk
