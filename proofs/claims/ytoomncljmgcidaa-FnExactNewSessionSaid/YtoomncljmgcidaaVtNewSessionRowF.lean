/-
  DERIVED. FnExactNewSession: for every input the law returns true and the input reads as it did.
-/
import Derived.Test.YtoomncljmgcidaaVz0
import Derived.Test.YtoomncljmgcidaaVz1
import Derived.Test.YtoomncljmgcidaaVz2
import Derived.Test.YtoomncljmgcidaaVz3
import Derived.Test.YtoomncljmgcidaaVz4
import Derived.Test.YtoomncljmgcidaaVz5
import Derived.Test.YtoomncljmgcidaaVz6
import Derived.Test.YtoomncljmgcidaaVz7
import Derived.Test.YtoomncljmgcidaaVz8
import Derived.Test.YtoomncljmgcidaaVz9
import Derived.Test.YtoomncljmgcidaaVz10
import Derived.Test.YtoomncljmgcidaaRows
namespace Go.Proofs.Ytoomncljmgcidaa.fnExactNewSession
open Go.Vc Go.ChangeShapes Go.WideShapes Go.ChangeAt Go.RowKit
set_option linter.unusedVariables false

theorem own : ownKnob Try.prog.godebug = none := by kernel_rfl
theorem laidOut : laidOutB Try.prog = true := by kernel_rfl
section
variable {H : Type} {enc : TypeId × Value → H} {w : World}
theorem rowIs : Dec H enc Try.prog w 23 (fun L : List Int => [.sl 1 (L.map encI)]) (fun L => L.length ≤ maxLen) :=
  (Dec.slice (s := 1) Try.underlying23 (by kernel_rfl) (by omega) (Dec.int Try.underlying3) (fun _ => rfl)).map (fun x : List Int => x) (fun _ => rfl) (fun _ h => h.1)
theorem rowSym : Dec H enc Try.prog w 114 encSymbol (fun x => x.name.size ≤ maxLen) :=
  (Dec.struct3 (k0 := 1) (k1 := 1) (k2 := 1) Try.underlying114 rfl (by kernel_rfl) rfl (by kernel_rfl) rfl (by kernel_rfl) (by kernel_rfl) (Dec.string Try.underlying9) (Dec.int Try.underlying3) (Dec.int Try.underlying3)).map
    (fun x : ByteArray × Int × Int => (⟨x.1, x.2.1, x.2.2⟩ : Symbol)) (fun _ => rfl) (fun _ h => h.1)
theorem rowImage : Dec H enc Try.prog w 90 encImage bigImg :=
  (Dec.struct2 (k0 := 1) (k1 := 1) Try.underlying90 rfl (by kernel_rfl) rfl (by kernel_rfl) (by kernel_rfl) (Dec.string Try.underlying9) (Dec.slice (s := 3) Try.underlying88 (by kernel_rfl) (by omega) rowSym (fun _ => rfl))).map
    (fun x : ByteArray × List Symbol => (⟨x.1, x.2⟩ : Image)) (fun _ => rfl) (fun _ h => h)
theorem rowMach : Dec H enc Try.prog w 70 encMach bigMach :=
  (Dec.struct7 (k0 := 1) (k1 := 1) (k2 := 1) (k3 := 1) (k4 := 1) (k5 := 1) (k6 := 1) Try.underlying70 rfl (by kernel_rfl) rfl (by kernel_rfl) rfl (by kernel_rfl) rfl (by kernel_rfl) rfl (by kernel_rfl) rfl (by kernel_rfl) rfl (by kernel_rfl) (by kernel_rfl)
    (Dec.int Try.underlying3) (Dec.int Try.underlying3) (Dec.int Try.underlying3) rowIs rowIs (Dec.int Try.underlying3) (Dec.int Try.underlying3)).map
    (fun x : Int × Int × Int × List Int × List Int × Int × Int => (⟨x.1, x.2.1, x.2.2.1, x.2.2.2.1, x.2.2.2.2.1, x.2.2.2.2.2.1, x.2.2.2.2.2.2⟩ : Mach)) (fun _ => rfl) (fun _ h => ⟨h.2.2.2.1, h.2.2.2.2.1⟩)
theorem rowSpace : Dec H enc Try.prog w 25 (fun x : SpX => [.sl 2 (x.1.map encImage), .sl 1 (x.2.1.map encI), .sl 1 (x.2.2.map encI)]) bigSp :=
  (Dec.struct3 (k0 := 1) (k1 := 1) (k2 := 1) Try.underlying25 rfl (by kernel_rfl) rfl (by kernel_rfl) rfl (by kernel_rfl) (by kernel_rfl) (Dec.slice (s := 2) Try.underlying22 (by kernel_rfl) (by omega) rowImage (fun _ => rfl)) rowIs rowIs).map
    (fun x : List Image × List Int × List Int => x) (fun _ => rfl) (fun _ h => h)
theorem rowProcess : Dec H enc Try.prog w 28 aggPc bigPc :=
  (Dec.struct5 (k0 := 3) (k1 := 1) (k2 := 1) (k3 := 1) (k4 := 1) Try.underlying28 rfl (by kernel_rfl) rfl (by kernel_rfl) rfl (by kernel_rfl) rfl (by kernel_rfl) rfl (by kernel_rfl) (by kernel_rfl)
    rowSpace (Dec.slice (s := 7) Try.underlying26 (by kernel_rfl) (by omega) rowMach (fun _ => rfl)) (Dec.int Try.underlying3) (Dec.int Try.underlying3) (Dec.int Try.underlying3)).map
    (fun x : SpX × List Mach × Int × Int × Int => (x : PcX)) (fun _ => rfl) (fun _ h => ⟨h.1, h.2.1⟩)
theorem rowTimer : Dec H enc Try.prog w 30 aggTm (fun _ => True) :=
  (Dec.struct4 (k0 := 1) (k1 := 1) (k2 := 1) (k3 := 1) Try.underlying30 rfl (by kernel_rfl) rfl (by kernel_rfl) rfl (by kernel_rfl) rfl (by kernel_rfl) (by kernel_rfl) (Dec.int Try.underlying3) (Dec.int Try.underlying3) (Dec.int Try.underlying3) (Dec.int Try.underlying3)).map
    (fun x : Int × Int × Int × Int => (⟨x.1, x.2.1, x.2.2.1, x.2.2.2⟩ : Tm)) (fun _ => rfl) (fun _ _ => trivial)
end

set_option maxRecDepth 100000 in
theorem lifted (os : Os) (started : os.Started) (H : Type) (enc : TypeId × Value → H) :
    ReturnsInHanded {} Try.checked os 3 .any (Rows.fnExactNewSessionSpec.pre6 enc Try.prog Try.f3 Rows.fnExactNewSessionRow.domain false) (Rows.fnExactNewSessionSpec.post enc Try.prog Try.f3 false true false false) := by
  refine returnsInHanded_of_change (C := Try.checked) own started (by kernel_rfl) Try.func3
    (ChangeSpec.witness6 (enc := enc) (C := Try.checked) false ⟨#[], #[.agg #[.slice none 0 0, .slice none 0 0, .slice none 0 0, .slice none 0 0, .int .i64 0, .int .i64 0, .int .i64 0], .agg #[.int .i64 0, .int .i64 0, .int .i64 0, .int .i64 0], .int .i64 0, .int .i64 0], []⟩ 8 (by kernel_rfl) (by kernel_rfl) (by kernel_rfl) (by kernel_rfl)) ?_
  intro W base args ds gs before hval0 hW hcnd _
  have hval : ∀ (j : Nat) t v, Try.f3.params[j]? = some t → args[j]? = some v → Value.okWide Try.prog W .any base t v := hval0
  have hW' := hW
  obtain ⟨p, q, hA0, hV, rfl, hfz, hnd⟩ := hW
  have hA : DataW.TrodAll enc Try.prog W 0 (fun _ => true) true Try.f3.params.toList args.toList ds p := hA0
  rw [Try.params3] at hA hval
  obtain ⟨v0, vs0, d0, ds0, p0, q0, hargs, rfl, rfl, h0, r0⟩ := trodAll_cons hA
  obtain ⟨v1, vs1, d1, ds1, p1, q1, rfl, rfl, rfl, h1, r1⟩ := trodAll_cons r0
  obtain ⟨v2, vs2, d2, ds2, p2, q2, rfl, rfl, rfl, h2, r2⟩ := trodAll_cons r1
  obtain ⟨v3, vs3, d3, ds3, p3, q3, rfl, rfl, rfl, h3, r3⟩ := trodAll_cons r2
  obtain ⟨rfl, rfl, rfl⟩ := trodAll_nil r3
  obtain rfl : args = #[v0, v1, v2, v3] := by cases args; simp_all
  obtain ⟨rfl, rfl⟩ := trodVars_none hV
  obtain ⟨us0, rfl, _⟩ := okWide_struct Try.underlying28 (hval 0 28 v0 rfl rfl)
  obtain ⟨us1, rfl, _⟩ := okWide_struct Try.underlying30 (hval 1 30 v1 rfl rfl)
  obtain ⟨x0, w0, R0⟩ := Dec.argS rowProcess h0
  obtain ⟨x1, w1, R1⟩ := Dec.argS rowTimer h1
  obtain ⟨x2, w2, R2⟩ := Dec.arg (Dec.int Try.underlying3) (okWide_int1 Try.underlying3 (hval 2 3 v2 rfl rfl)) h2
  obtain ⟨x3, w3, R3⟩ := Dec.arg (Dec.int Try.underlying3) (okWide_int1 Try.underlying3 (hval 3 3 v3 rfl rfl)) h3
  refine ((lawNewSession x0 x1 x2 x3 w0).calls (.inl (by kernel_rfl)) (vs := [.agg us0, .agg us1, v2, v3]) rfl (fun i c u hc hu => ?_)).mono fun e W' he => ?_
  · match i, hc, hu with
    | 0, hc, hu => simp at hc hu; subst hc hu; exact R0
    | 1, hc, hu => simp at hc hu; subst hc hu; exact R1
    | 2, hc, hu => simp at hc hu; subst hc hu; exact R2
    | 3, hc, hu => simp at hc hu; subst hc hu; exact R3
    | (i + 4), hc, hu => simp at hc
  · obtain ⟨rfl, hb⟩ := he
    exact ⟨_, rfl, law_post (tb := 4) laidOut hW' rfl rfl Try.underlying4 (by kernel_rfl) rfl rfl rfl hb⟩

theorem holds : Rows.FnExactNewSessionSaid :=
  OpenClaim.holds_of_wide 3 Try.f3 rfl rfl rfl rfl rfl rfl rfl ⟨rfl, rfl, rfl, rfl, rfl⟩ rfl rfl rfl rfl rfl (by kernel_rfl) Try.func3 (by kernel_rfl)
    (of_decide_eq_true (by kernel_rfl)) (by unfold Func.isWrapper; first | (rw [if_pos (by decide +kernel)]; kernel_rfl) | (rw [if_neg (by decide +kernel)]; exact ⟨rfl, rfl⟩))
    (fun os started H enc _ => lifted os started H enc)
end Go.Proofs.Ytoomncljmgcidaa.fnExactNewSession
