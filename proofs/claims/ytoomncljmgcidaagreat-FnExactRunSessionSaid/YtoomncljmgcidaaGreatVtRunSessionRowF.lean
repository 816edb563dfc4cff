/-
 DERIVED. FnExactRunSession: for every input the law returns true and the input reads as it did.
-/
import Derived.Test.YtoomncljmgcidaaGreatVa0
import Derived.Test.YtoomncljmgcidaaGreatVa1
import Derived.Test.YtoomncljmgcidaaGreatVa2
import Derived.Test.YtoomncljmgcidaaGreatVa3
import Derived.Test.YtoomncljmgcidaaGreatVa4
import Derived.Test.YtoomncljmgcidaaGreatVa5
import Derived.Test.YtoomncljmgcidaaGreatVa6
import Derived.Test.YtoomncljmgcidaaGreatVa7
import Derived.Test.YtoomncljmgcidaaGreatVa8
import Derived.Test.YtoomncljmgcidaaGreatVa9
import Derived.Test.YtoomncljmgcidaaGreatVa10
import Derived.Test.YtoomncljmgcidaaGreatVa11
import Derived.Test.YtoomncljmgcidaaGreatVa12
import Derived.Test.YtoomncljmgcidaaGreatVa13
import Derived.Test.YtoomncljmgcidaaGreatVa14
import Derived.Test.YtoomncljmgcidaaGreatVa15
import Derived.Test.YtoomncljmgcidaaGreatVa16
import Derived.Test.YtoomncljmgcidaaGreatVa17
import Derived.Test.YtoomncljmgcidaaGreatVa18
import Derived.Test.YtoomncljmgcidaaGreatVa19
import Derived.Test.YtoomncljmgcidaaGreatVa20
import Derived.Test.YtoomncljmgcidaaGreatVa21
import Derived.Test.YtoomncljmgcidaaGreatVa22
import Derived.Test.YtoomncljmgcidaaGreatVa23
import Derived.Test.YtoomncljmgcidaaGreatVa24
import Derived.Test.YtoomncljmgcidaaGreatVa25
import Derived.Test.YtoomncljmgcidaaGreatVa26
import Derived.Test.YtoomncljmgcidaaGreatVa27
import Derived.Test.YtoomncljmgcidaaGreatVa28
import Derived.Test.YtoomncljmgcidaaGreatVa29
import Derived.Test.YtoomncljmgcidaaGreatVa30
import Derived.Test.YtoomncljmgcidaaGreatVa31
import Derived.Test.YtoomncljmgcidaaGreatVa32
import Derived.Test.YtoomncljmgcidaaGreatVa33
import Derived.Test.YtoomncljmgcidaaGreatVa34
import Derived.Test.YtoomncljmgcidaaGreatVa35
import Derived.Test.YtoomncljmgcidaaGreatVa36
import Derived.Test.YtoomncljmgcidaaGreatVa37
import Derived.Test.YtoomncljmgcidaaGreatVa38
import Derived.Test.YtoomncljmgcidaaGreatVa39
import Derived.Test.YtoomncljmgcidaaGreatVa40
import Derived.Test.YtoomncljmgcidaaGreatVa41
import Derived.Test.YtoomncljmgcidaaGreatVa42
import Derived.Test.YtoomncljmgcidaaGreatRows
namespace Go.Proofs.YtoomncljmgcidaaGreat.fnExactRunSession
open Go.Vc Go.ChangeShapes Go.WideShapes Go.ChangeAt Go.RowKit
set_option linter.unusedVariables false
theorem own : ownKnob Tryz.prog.godebug = none := by kernel_rfl
theorem laidOut : laidOutB Tryz.prog = true := by kernel_rfl
theorem okI1 {P : Program} {w : World} {base : Nat} {r : Reach} {t : TypeId} {k : IntKind} {v : Value} (ht : P.underlying t = some (.int k)) (h : Value.okWide P w r base t v) : v.oneCell' = true := by
 obtain ⟨a, rfl⟩ := okWide_int ht h; rfl
theorem in64 {n : Int} (h : IntKind.i64.min ≤ n ∧ n ≤ IntKind.i64.max) : In64 n := h
section
variable {H : Type} {enc : TypeId × Value → H} {w : World}
theorem rowIs : Dec H enc Tryz.prog w 23 (fun L : List Int => [.sl 1 (L.map encI)]) (fun L => L.length ≤ maxLen ∧ ∀ x ∈ L, In64 x) :=
 (Dec.slice (s := 1) Tryz.underlying23 (by kernel_rfl) (by omega) (Dec.int Tryz.underlying3) (fun _ => rfl)).map (fun x : List Int => x) (fun _ => rfl) (fun _ h => ⟨h.1, fun x hx => in64 (h.2 x hx)⟩)
theorem rowSs : Dec H enc Tryz.prog w 31 (fun L : List ByteArray => [.sl 1 (L.map encS)]) (fun L => L.length ≤ maxLen ∧ ∀ s ∈ L, s.size ≤ maxLen) :=
 Dec.slice (s := 1) Tryz.underlying31 (by kernel_rfl) (by omega) (Dec.string Tryz.underlying9) (fun _ => rfl)
theorem rowSym : Dec H enc Tryz.prog w 178 encSymbol (fun x => x.name.size ≤ maxLen) :=
 (Dec.struct3 (k0 := 1) (k1 := 1) (k2 := 1) Tryz.underlying178 rfl (by kernel_rfl) rfl (by kernel_rfl) rfl (by kernel_rfl) (by kernel_rfl) (Dec.string Tryz.underlying9) (Dec.int Tryz.underlying3) (Dec.int Tryz.underlying3)).map
  (fun x : ByteArray × Int × Int => (⟨x.1, x.2.1, x.2.2⟩ : Symbol)) (fun _ => rfl) (fun _ h => h.1)
theorem rowImage : Dec H enc Tryz.prog w 133 encImage bigImg :=
 (Dec.struct2 (k0 := 1) (k1 := 1) Tryz.underlying133 rfl (by kernel_rfl) rfl (by kernel_rfl) (by kernel_rfl) (Dec.string Tryz.underlying9) (Dec.slice (s := 3) Tryz.underlying131 (by kernel_rfl) (by omega) rowSym (fun _ => rfl))).map
  (fun x : ByteArray × List Symbol => (⟨x.1, x.2⟩ : Image)) (fun _ => rfl) (fun _ h => h)
theorem rowMach : Dec H enc Tryz.prog w 113 encMach (fun m => bigMach m ∧ MachR m) :=
 (Dec.struct7 (k0 := 1) (k1 := 1) (k2 := 1) (k3 := 1) (k4 := 1) (k5 := 1) (k6 := 1) Tryz.underlying113 rfl (by kernel_rfl) rfl (by kernel_rfl) rfl (by kernel_rfl) rfl (by kernel_rfl) rfl (by kernel_rfl) rfl (by kernel_rfl) rfl (by kernel_rfl) (by kernel_rfl)
  (Dec.int Tryz.underlying3) (Dec.int Tryz.underlying3) (Dec.int Tryz.underlying3) rowIs rowIs (Dec.int Tryz.underlying3) (Dec.int Tryz.underlying3)).map
  (fun x : Int × Int × Int × List Int × List Int × Int × Int => (⟨x.1, x.2.1, x.2.2.1, x.2.2.2.1, x.2.2.2.2.1, x.2.2.2.2.2.1, x.2.2.2.2.2.2⟩ : Mach)) (fun _ => rfl) (fun _ h => ⟨⟨h.2.2.2.1.1, h.2.2.2.2.1.1⟩, in64 h.1, in64 h.2.1, in64 h.2.2.1, h.2.2.2.1.2⟩)
theorem rowSpace : Dec H enc Tryz.prog w 25 (fun x : SpX => [.sl 2 (x.1.map encImage), .sl 1 (x.2.1.map encI), .sl 1 (x.2.2.map encI)]) (fun x => bigSp x ∧ ∀ e ∈ x.2.2, In64 e) :=
 (Dec.struct3 (k0 := 1) (k1 := 1) (k2 := 1) Tryz.underlying25 rfl (by kernel_rfl) rfl (by kernel_rfl) rfl (by kernel_rfl) (by kernel_rfl) (Dec.slice (s := 2) Tryz.underlying22 (by kernel_rfl) (by omega) rowImage (fun _ => rfl)) rowIs rowIs).map
  (fun x : List Image × List Int × List Int => x) (fun _ => rfl) (fun _ h => ⟨⟨h.1, h.2.1.1, h.2.2.1⟩, h.2.2.2⟩)
theorem rowProcess : Dec H enc Tryz.prog w 28 aggPc (fun x => bigPc x ∧ (∀ e ∈ x.1.2.2, In64 e) ∧ ∀ m ∈ x.2.1, MachR m) :=
 (Dec.struct5 (k0 := 3) (k1 := 1) (k2 := 1) (k3 := 1) (k4 := 1) Tryz.underlying28 rfl (by kernel_rfl) rfl (by kernel_rfl) rfl (by kernel_rfl) rfl (by kernel_rfl) rfl (by kernel_rfl) (by kernel_rfl)
  rowSpace (Dec.slice (s := 7) Tryz.underlying26 (by kernel_rfl) (by omega) rowMach (fun _ => rfl)) (Dec.int Tryz.underlying3) (Dec.int Tryz.underlying3) (Dec.int Tryz.underlying3)).map
  (fun x : SpX × List Mach × Int × Int × Int => (x : PcX)) (fun _ => rfl) (fun _ h => ⟨⟨h.1.1, h.2.1.1, fun m hm => (h.2.1.2 m hm).1⟩, h.1.2, fun m hm => (h.2.1.2 m hm).2⟩)
theorem rowTimer : Dec H enc Tryz.prog w 30 aggTm (fun _ => True) :=
 (Dec.struct4 (k0 := 1) (k1 := 1) (k2 := 1) (k3 := 1) Tryz.underlying30 rfl (by kernel_rfl) rfl (by kernel_rfl) rfl (by kernel_rfl) rfl (by kernel_rfl) (by kernel_rfl) (Dec.int Tryz.underlying3) (Dec.int Tryz.underlying3) (Dec.int Tryz.underlying3) (Dec.int Tryz.underlying3)).map
  (fun x : Int × Int × Int × Int => (⟨x.1, x.2.1, x.2.2.1, x.2.2.2⟩ : Tm)) (fun _ => rfl) (fun _ _ => trivial)
theorem rowRing : Dec H enc Tryz.prog w 33 aggRg bigRg :=
 (Dec.struct4 (k0 := 1) (k1 := 1) (k2 := 1) (k3 := 1) Tryz.underlying33 rfl (by kernel_rfl) rfl (by kernel_rfl) rfl (by kernel_rfl) rfl (by kernel_rfl) (by kernel_rfl) (Dec.int Tryz.underlying3) rowSs (Dec.int Tryz.underlying3) (Dec.int Tryz.underlying3)).map
  (fun x : Int × List ByteArray × Int × Int => (x : RgX)) (fun _ => rfl) (fun _ h => h.2.1)
theorem rowSession : Dec H enc Tryz.prog w 35 aggSe (fun x => bigSe x ∧ numSe x) :=
 (Dec.struct6 (k0 := 7) (k1 := 4) (k2 := 4) (k3 := 1) (k4 := 1) (k5 := 1) Tryz.underlying35 rfl (by kernel_rfl) rfl (by kernel_rfl) rfl (by kernel_rfl) rfl (by kernel_rfl) rfl (by kernel_rfl) rfl (by kernel_rfl) (by kernel_rfl)
  rowProcess rowTimer rowRing (Dec.int Tryz.underlying3) (Dec.int Tryz.underlying3) (Dec.int Tryz.underlying3)).map
  (fun x : PcX × Tm × RgX × Int × Int × Int => (x : SeX)) (fun _ => rfl) (fun _ h => ⟨⟨h.1.1, h.2.2.1⟩, h.1.2⟩)
end
set_option maxRecDepth 100000 in
theorem lifted (os : Os) (started : os.Started) (H : Type) (enc : TypeId × Value → H) :
  ReturnsInHanded {} Tryz.checked os 4 .any (Rows.fnExactRunSessionSpec.pre6 enc Tryz.prog Tryz.f4 Rows.fnExactRunSessionRow.domain false) (Rows.fnExactRunSessionSpec.post enc Tryz.prog Tryz.f4 false true false false) := by
 refine returnsInHanded_of_change (C := Tryz.checked) own started (by kernel_rfl) Tryz.func4
  (ChangeSpec.witness6 (enc := enc) (C := Tryz.checked) false ⟨#[], #[.agg #[.slice none 0 0, .slice none 0 0, .slice none 0 0, .slice none 0 0, .int .i64 0, .int .i64 0, .int .i64 0, .int .i64 0, .int .i64 0, .int .i64 0, .int .i64 0, .int .i64 0, .slice none 0 0, .int .i64 0, .int .i64 0, .int .i64 0, .int .i64 0, .int .i64 0], .int .i64 0], []⟩ 8 (by kernel_rfl) (by kernel_rfl) (by kernel_rfl) (by kernel_rfl)) ?_
 intro W base args ds gs before hval0 hW hcnd _
 have hval : ∀ (j : Nat) t v, Tryz.f4.params[j]? = some t → args[j]? = some v → Value.okWide Tryz.prog W .any base t v := hval0
 have hW' := hW
 obtain ⟨p, q, hA0, hV, rfl, hfz, hnd⟩ := hW
 have hA : DataW.TrodAll enc Tryz.prog W 0 (fun _ => true) true Tryz.f4.params.toList args.toList ds p := hA0
 rw [Tryz.params4] at hA hval
 obtain ⟨v0, vs0, d0, ds0, p0, q0, hargs, rfl, rfl, h0, r0⟩ := trodAll_cons hA
 obtain ⟨v1, vs1, d1, ds1, p1, q1, rfl, rfl, rfl, h1, r1⟩ := trodAll_cons r0
 obtain ⟨rfl, rfl, rfl⟩ := trodAll_nil r1
 obtain rfl : args = #[v0, v1] := by cases args; simp_all
 obtain ⟨rfl, rfl⟩ := trodVars_none hV
 obtain ⟨us, rfl, _⟩ := okWide_struct Tryz.underlying35 (hval 0 35 v0 rfl rfl)
 obtain ⟨x0, w0, R0⟩ := Dec.argS rowSession h0
 obtain ⟨x1, w1, R1⟩ := Dec.arg (Dec.int Tryz.underlying3) (okI1 Tryz.underlying3 (hval 1 3 v1 rfl rfl)) h1
 refine ((lawRunSession x0 x1 w0.1 w0.2).calls (.inl (by kernel_rfl)) (vs := [.agg us, v1]) rfl (fun i c u hc hu => ?_)).mono fun e W' he => ?_
 ·match i, hc, hu with
  | 0, hc, hu => simp at hc hu; subst hc hu; exact R0
  | 1, hc, hu => simp at hc hu; subst hc hu; exact R1
  | (i + 2), hc, hu => simp at hc
 ·obtain ⟨rfl, hb⟩ := he
  exact ⟨_, rfl, law_post (tb := 4) laidOut hW' rfl rfl Tryz.underlying4 (by kernel_rfl) rfl rfl rfl hb⟩
theorem holds : Rows.FnExactRunSessionSaid :=
 OpenClaim.holds_of_wide 4 Tryz.f4 rfl rfl rfl rfl rfl rfl rfl ⟨rfl, rfl, rfl, rfl, rfl⟩ rfl rfl rfl rfl rfl (by kernel_rfl) Tryz.func4 (by kernel_rfl)
  (of_decide_eq_true (by kernel_rfl)) (by unfold Func.isWrapper; first | (rw [if_pos (by decide +kernel)]; kernel_rfl) | (rw [if_neg (by decide +kernel)]; exact ⟨rfl, rfl⟩))
  (fun os started H enc _ => lifted os started H enc)
end Go.Proofs.YtoomncljmgcidaaGreat.fnExactRunSession
