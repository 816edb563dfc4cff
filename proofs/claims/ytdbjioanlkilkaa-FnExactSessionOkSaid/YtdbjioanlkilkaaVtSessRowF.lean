/-
  DERIVED. FnExactSessionOk: for every input the law returns true and the input reads as it did.
-/
import Derived.Test.YtdbjioanlkilkaaVx0
import Derived.Test.YtdbjioanlkilkaaVx1
import Derived.Test.YtdbjioanlkilkaaVx2
import Derived.Test.YtdbjioanlkilkaaVx3
import Derived.Test.YtdbjioanlkilkaaVx4
import Derived.Test.YtdbjioanlkilkaaVx5
import Derived.Test.YtdbjioanlkilkaaVx6
import Derived.Test.YtdbjioanlkilkaaVx7
import Derived.Test.YtdbjioanlkilkaaVx8
import Derived.Test.YtdbjioanlkilkaaRows
namespace Go.Proofs.Ytdbjioanlkilkaa.fnExactSessionOk
open Go.Vc Go.ChangeShapes Go.WideShapes Go.ChangeAt Go.RowKit
set_option linter.unusedVariables false

theorem own : ownKnob Try.prog.godebug = none := by kernel_rfl
theorem laidOut : laidOutB Try.prog = true := by kernel_rfl
section
variable {H : Type} {enc : TypeId × Value → H} {w : World}
theorem rowIs : Dec H enc Try.prog w 23 (fun L : List Int => [.sl 1 (L.map encI)]) (fun L => L.length ≤ maxLen) :=
  (Dec.slice (s := 1) Try.underlying23 (by kernel_rfl) (by omega) (Dec.int Try.underlying3) (fun _ => rfl)).map (fun x : List Int => x) (fun _ => rfl) (fun _ h => h.1)
theorem rowSs : Dec H enc Try.prog w 74 (fun L : List ByteArray => [.sl 1 (L.map encS)]) (fun L => L.length ≤ maxLen ∧ ∀ s ∈ L, s.size ≤ maxLen) :=
  Dec.slice (s := 1) Try.underlying74 (by kernel_rfl) (by omega) (Dec.string Try.underlying9) (fun _ => rfl)
theorem rowSym : Dec H enc Try.prog w 231 encSymbol (fun x => x.name.size ≤ maxLen) :=
  (Dec.struct3 (k0 := 1) (k1 := 1) (k2 := 1) Try.underlying231 rfl (by kernel_rfl) rfl (by kernel_rfl) rfl (by kernel_rfl) (by kernel_rfl) (Dec.string Try.underlying9) (Dec.int Try.underlying3) (Dec.int Try.underlying3)).map
    (fun x : ByteArray × Int × Int => (⟨x.1, x.2.1, x.2.2⟩ : Symbol)) (fun _ => rfl) (fun _ h => h.1)
theorem rowImage : Dec H enc Try.prog w 217 encImage bigImg :=
  (Dec.struct2 (k0 := 1) (k1 := 1) Try.underlying217 rfl (by kernel_rfl) rfl (by kernel_rfl) (by kernel_rfl) (Dec.string Try.underlying9) (Dec.slice (s := 3) Try.underlying215 (by kernel_rfl) (by omega) rowSym (fun _ => rfl))).map
    (fun x : ByteArray × List Symbol => (⟨x.1, x.2⟩ : Image)) (fun _ => rfl) (fun _ h => h)
theorem rowMach : Dec H enc Try.prog w 197 encMach bigMach :=
  (Dec.struct7 (k0 := 1) (k1 := 1) (k2 := 1) (k3 := 1) (k4 := 1) (k5 := 1) (k6 := 1) Try.underlying197 rfl (by kernel_rfl) rfl (by kernel_rfl) rfl (by kernel_rfl) rfl (by kernel_rfl) rfl (by kernel_rfl) rfl (by kernel_rfl) rfl (by kernel_rfl) (by kernel_rfl)
    (Dec.int Try.underlying3) (Dec.int Try.underlying3) (Dec.int Try.underlying3) rowIs rowIs (Dec.int Try.underlying3) (Dec.int Try.underlying3)).map
    (fun x : Int × Int × Int × List Int × List Int × Int × Int => (⟨x.1, x.2.1, x.2.2.1, x.2.2.2.1, x.2.2.2.2.1, x.2.2.2.2.2.1, x.2.2.2.2.2.2⟩ : Mach)) (fun _ => rfl) (fun _ h => ⟨h.2.2.2.1, h.2.2.2.2.1⟩)
theorem rowSpace : Dec H enc Try.prog w 68 (fun x : SpX => [.sl 2 (x.1.map encImage), .sl 1 (x.2.1.map encI), .sl 1 (x.2.2.map encI)]) bigSp :=
  (Dec.struct3 (k0 := 1) (k1 := 1) (k2 := 1) Try.underlying68 rfl (by kernel_rfl) rfl (by kernel_rfl) rfl (by kernel_rfl) (by kernel_rfl) (Dec.slice (s := 2) Try.underlying66 (by kernel_rfl) (by omega) rowImage (fun _ => rfl)) rowIs rowIs).map
    (fun x : List Image × List Int × List Int => x) (fun _ => rfl) (fun _ h => h)
theorem rowProcess : Dec H enc Try.prog w 71 aggPc bigPc :=
  (Dec.struct5 (k0 := 3) (k1 := 1) (k2 := 1) (k3 := 1) (k4 := 1) Try.underlying71 rfl (by kernel_rfl) rfl (by kernel_rfl) rfl (by kernel_rfl) rfl (by kernel_rfl) rfl (by kernel_rfl) (by kernel_rfl)
    rowSpace (Dec.slice (s := 7) Try.underlying69 (by kernel_rfl) (by omega) rowMach (fun _ => rfl)) (Dec.int Try.underlying3) (Dec.int Try.underlying3) (Dec.int Try.underlying3)).map
    (fun x : SpX × List Mach × Int × Int × Int => (x : PcX)) (fun _ => rfl) (fun _ h => ⟨h.1, h.2.1⟩)
theorem rowTimer : Dec H enc Try.prog w 73 aggTm (fun _ => True) :=
  (Dec.struct4 (k0 := 1) (k1 := 1) (k2 := 1) (k3 := 1) Try.underlying73 rfl (by kernel_rfl) rfl (by kernel_rfl) rfl (by kernel_rfl) rfl (by kernel_rfl) (by kernel_rfl) (Dec.int Try.underlying3) (Dec.int Try.underlying3) (Dec.int Try.underlying3) (Dec.int Try.underlying3)).map
    (fun x : Int × Int × Int × Int => (⟨x.1, x.2.1, x.2.2.1, x.2.2.2⟩ : Tm)) (fun _ => rfl) (fun _ _ => trivial)
theorem rowRing : Dec H enc Try.prog w 76 aggRg bigRg :=
  (Dec.struct4 (k0 := 1) (k1 := 1) (k2 := 1) (k3 := 1) Try.underlying76 rfl (by kernel_rfl) rfl (by kernel_rfl) rfl (by kernel_rfl) rfl (by kernel_rfl) (by kernel_rfl) (Dec.int Try.underlying3) rowSs (Dec.int Try.underlying3) (Dec.int Try.underlying3)).map
    (fun x : Int × List ByteArray × Int × Int => (x : RgX)) (fun _ => rfl) (fun _ h => h.2.1)
theorem rowSession : Dec H enc Try.prog w 78 aggSe bigSe :=
  (Dec.struct6 (k0 := 7) (k1 := 4) (k2 := 4) (k3 := 1) (k4 := 1) (k5 := 1) Try.underlying78 rfl (by kernel_rfl) rfl (by kernel_rfl) rfl (by kernel_rfl) rfl (by kernel_rfl) rfl (by kernel_rfl) rfl (by kernel_rfl) (by kernel_rfl)
    rowProcess rowTimer rowRing (Dec.int Try.underlying3) (Dec.int Try.underlying3) (Dec.int Try.underlying3)).map
    (fun x : PcX × Tm × RgX × Int × Int × Int => (x : SeX)) (fun _ => rfl) (fun _ h => ⟨h.1, h.2.2.1⟩)
end

set_option maxRecDepth 100000 in
theorem lifted (os : Os) (started : os.Started) (H : Type) (enc : TypeId × Value → H) :
    ReturnsInHanded {} Try.checked os 6 .any (Rows.fnExactSessionOkSpec.pre6 enc Try.prog Try.f6 Rows.fnExactSessionOkRow.domain false) (Rows.fnExactSessionOkSpec.post enc Try.prog Try.f6 false true false false) := by
  refine returnsInHanded_of_change (C := Try.checked) own started (by kernel_rfl) Try.func6
    (ChangeSpec.witness6 (enc := enc) (C := Try.checked) false ⟨#[], #[.agg #[.slice none 0 0, .slice none 0 0, .slice none 0 0, .slice none 0 0, .int .i64 0, .int .i64 0, .int .i64 0, .int .i64 0, .int .i64 0, .int .i64 0, .int .i64 0, .int .i64 0, .slice none 0 0, .int .i64 0, .int .i64 0, .int .i64 0, .int .i64 0, .int .i64 0]], []⟩ 8 (by kernel_rfl) (by kernel_rfl) (by kernel_rfl) (by kernel_rfl)) ?_
  intro W base args ds gs before hval0 hW hcnd _
  have hval : ∀ (j : Nat) t v, Try.f6.params[j]? = some t → args[j]? = some v → Value.okWide Try.prog W .any base t v := hval0
  have hW' := hW
  obtain ⟨p, q, hA0, hV, rfl, hfz, hnd⟩ := hW
  have hA : DataW.TrodAll enc Try.prog W 0 (fun _ => true) true Try.f6.params.toList args.toList ds p := hA0
  rw [Try.params6] at hA hval
  obtain ⟨v0, vs0, d0, ds0, p0, q0, hargs, rfl, rfl, h0, r0⟩ := trodAll_cons hA
  obtain ⟨rfl, rfl, rfl⟩ := trodAll_nil r0
  obtain rfl : args = #[v0] := by cases args; simp_all
  obtain ⟨rfl, rfl⟩ := trodVars_none hV
  obtain ⟨us, rfl, _⟩ := okWide_struct Try.underlying78 (hval 0 78 v0 rfl rfl)
  obtain ⟨x0, w0, R0⟩ := Dec.argS rowSession h0
  refine ((lawSessionOk x0 w0).calls (.inl (by kernel_rfl)) (vs := [.agg us]) rfl (fun i c u hc hu => ?_)).mono fun e W' he => ?_
  · match i, hc, hu with
    | 0, hc, hu => simp at hc hu; subst hc hu; exact R0
    | (i + 1), hc, hu => simp at hc
  · obtain ⟨rfl, hb⟩ := he
    exact ⟨_, rfl, law_post (tb := 4) laidOut hW' rfl rfl Try.underlying4 (by kernel_rfl) rfl rfl rfl hb⟩

theorem holds : Rows.FnExactSessionOkSaid :=
  OpenClaim.holds_of_wide 6 Try.f6 rfl rfl rfl rfl rfl rfl rfl ⟨rfl, rfl, rfl, rfl, rfl⟩ rfl rfl rfl rfl rfl (by kernel_rfl) Try.func6 (by kernel_rfl)
    (of_decide_eq_true (by kernel_rfl)) (by unfold Func.isWrapper; first | (rw [if_pos (by decide +kernel)]; kernel_rfl) | (rw [if_neg (by decide +kernel)]; exact ⟨rfl, rfl⟩))
    (fun os started H enc _ => lifted os started H enc)
end Go.Proofs.Ytdbjioanlkilkaa.fnExactSessionOk
