/-
 DERIVED. FnExactTruthOf: for every input the law returns true and the input reads as it did.
-/
import Derived.Test.YtjjbcoigaejoaaaGreatVa0
import Derived.Test.YtjjbcoigaejoaaaGreatVa1
import Derived.Test.YtjjbcoigaejoaaaGreatVa2
import Derived.Test.YtjjbcoigaejoaaaGreatVa3
import Derived.Test.YtjjbcoigaejoaaaGreatVa4
import Derived.Test.YtjjbcoigaejoaaaGreatVa5
import Derived.Test.YtjjbcoigaejoaaaGreatVa6
import Derived.Test.YtjjbcoigaejoaaaGreatVa7
import Derived.Test.YtjjbcoigaejoaaaGreatVa8
import Derived.Test.YtjjbcoigaejoaaaGreatVa9
import Derived.Test.YtjjbcoigaejoaaaGreatVa10
import Derived.Test.YtjjbcoigaejoaaaGreatRows
namespace Go.Proofs.YtjjbcoigaejoaaaGreat.fnExactTruthOf
open Go.Vc Go.ChangeShapes Go.WideShapes Go.ChangeAt Go.RowKit
set_option linter.unusedVariables false
theorem own : ownKnob Tryz.prog.godebug = none := by kernel_rfl
theorem laidOut : laidOutB Tryz.prog = true := by kernel_rfl
set_option maxRecDepth 100000 in
theorem lifted (os : Os) (started : os.Started) (H : Type) (enc : TypeId × Value → H) :
  ReturnsInHanded {} Tryz.checked os 3 .any (Rows.fnExactTruthOfSpec.pre6 enc Tryz.prog Tryz.f3 Rows.fnExactTruthOfRow.domain false) (Rows.fnExactTruthOfSpec.post enc Tryz.prog Tryz.f3 false true false false) := by
 refine returnsInHanded_of_change (C := Tryz.checked) own started (by kernel_rfl) Tryz.func3
  (ChangeSpec.witness6 (enc := enc) (C := Tryz.checked) false ⟨#[], #[.slice none 0 0, .int .i64 0, .int .i64 0], []⟩ 8 (by kernel_rfl) (by kernel_rfl) (by kernel_rfl) (by kernel_rfl)) ?_
 intro W base args ds gs before hval0 hW hcnd _
 have hval : ∀ (j : Nat) t v, Tryz.f3.params[j]? = some t → args[j]? = some v → Value.okWide Tryz.prog W .any base t v := hval0
 have hW' := hW
 obtain ⟨p, q, hA0, hV, rfl, hfz, hnd⟩ := hW
 have hA : DataW.TrodAll enc Tryz.prog W 0 (fun _ => true) true Tryz.f3.params.toList args.toList ds p := hA0
 rw [Tryz.params3] at hA hval
 obtain ⟨v0, vs0, d0, ds0, p0, q0, hargs, rfl, rfl, h0, r0⟩ := trodAll_cons hA
 obtain ⟨v1, vs1, d1, ds1, p1, q1, rfl, rfl, rfl, h1, r1⟩ := trodAll_cons r0
 obtain ⟨v2, vs2, d2, ds2, p2, q2, rfl, rfl, rfl, h2, r2⟩ := trodAll_cons r1
 obtain ⟨rfl, rfl, rfl⟩ := trodAll_nil r2
 obtain rfl : args = #[v0, v1, v2] := by cases args; simp_all
 obtain ⟨rfl, rfl⟩ := trodVars_none hV
 obtain ⟨x0, w0, R0⟩ := Dec.arg (Dec.slice (s := 4) Tryz.underlying22 (by kernel_rfl) (by omega) rowLine (fun _ => rfl)) (okWide_slice1 Tryz.underlying22 (hval 0 22 v0 rfl rfl)) h0
 obtain ⟨x1, w1, R1⟩ := Dec.arg (Dec.int Tryz.underlying3) (okWide_int1 Tryz.underlying3 (hval 1 3 v1 rfl rfl)) h1
 obtain ⟨x2, w2, R2⟩ := Dec.arg (Dec.int Tryz.underlying3) (okWide_int1 Tryz.underlying3 (hval 2 3 v2 rfl rfl)) h2
 refine ((lawTru x0 x1 x2 w0).calls (.inl (by kernel_rfl)) (vs := [v0, v1, v2]) rfl (fun i c u hc hu => ?_)).mono fun e W' he => ?_
 ·match i, hc, hu with
  | 0, hc, hu => simp at hc hu; subst hc hu; exact R0
  | 1, hc, hu => simp at hc hu; subst hc hu; exact R1
  | 2, hc, hu => simp at hc hu; subst hc hu; exact R2
  | (i + 3), hc, hu => simp at hc
 ·obtain ⟨rfl, hb⟩ := he
  exact ⟨_, rfl, law_post (tb := 4) laidOut hW' rfl rfl Tryz.underlying4 (by kernel_rfl) rfl rfl rfl hb⟩
theorem holds : Rows.FnExactTruthOfSaid :=
 OpenClaim.holds_of_wide 3 Tryz.f3 rfl rfl rfl rfl rfl rfl rfl ⟨rfl, rfl, rfl, rfl, rfl⟩ rfl rfl rfl rfl rfl (by kernel_rfl) Tryz.func3 (by kernel_rfl)
  (of_decide_eq_true (by kernel_rfl)) (by unfold Func.isWrapper; first | (rw [if_pos (by decide +kernel)]; kernel_rfl) | (rw [if_neg (by decide +kernel)]; exact ⟨rfl, rfl⟩))
  (fun os started H enc _ => lifted os started H enc)
end Go.Proofs.YtjjbcoigaejoaaaGreat.fnExactTruthOf
