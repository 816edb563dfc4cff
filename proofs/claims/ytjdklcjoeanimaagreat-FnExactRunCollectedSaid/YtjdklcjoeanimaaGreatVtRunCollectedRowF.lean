/-
 DERIVED. FnExactRunCollected: for every input the law returns true and the input reads as it did.
-/
import Derived.Test.YtjdklcjoeanimaaGreatVf19
import Derived.Test.YtjdklcjoeanimaaGreatVf35
import Derived.Test.YtjdklcjoeanimaaGreatRows
namespace Go.Proofs.YtjdklcjoeanimaaGreat.fnExactRunCollected
open Go.Vc Go.ChangeShapes Go.WideShapes Go.ChangeAt Go.RowKit
set_option linter.unusedVariables false
theorem own : ownKnob Tryz.prog.godebug = none := by kernel_rfl
theorem laidOut : laidOutB Tryz.prog = true := by kernel_rfl
theorem okI1 {P : Program} {w : World} {base : Nat} {r : Reach} {t : TypeId} {k : IntKind} {v : Value} (ht : P.underlying t = some (.int k)) (h : Value.okWide P w r base t v) : v.oneCell' = true := by
 obtain ⟨a, rfl⟩ := okWide_int ht h; rfl
theorem in64 {n : Int} (h : IntKind.i64.min ≤ n ∧ n ≤ IntKind.i64.max) : In64 n := h
section
variable {H : Type} {enc : TypeId × Value → H} {w : World}
theorem rowIs : Dec H enc Tryz.prog w 23 (fun L : List Int => [.sl 1 (L.map encI)]) (fun L => L.length ≤ maxLen ∧ ∀ x ∈ L, In64 x) :=
 (Dec.slice (s := 1) Tryz.underlying23 (by kernel_rfl) (by omega) (Dec.int Tryz.underlying3) (fun _ => rfl)).map (fun x : List Int => x) (fun _ => rfl) (fun _ h => ⟨h.1, fun x hx => in64 (h.2 x hx)⟩)
theorem rowSs : Dec H enc Tryz.prog w 34 (fun L : List ByteArray => [.sl 1 (L.map encS)]) (fun L => L.length ≤ maxLen ∧ ∀ s ∈ L, s.size ≤ maxLen) :=
 Dec.slice (s := 1) Tryz.underlying34 (by kernel_rfl) (by omega) (Dec.string Tryz.underlying9) (fun _ => rfl)
theorem rowSym : Dec H enc Tryz.prog w 270 encSymbol (fun x => x.name.size ≤ maxLen) :=
 (Dec.struct3 (k0 := 1) (k1 := 1) (k2 := 1) Tryz.underlying270 rfl (by kernel_rfl) rfl (by kernel_rfl) rfl (by kernel_rfl) (by kernel_rfl) (Dec.string Tryz.underlying9) (Dec.int Tryz.underlying3) (Dec.int Tryz.underlying3)).map
  (fun x : ByteArray × Int × Int => (⟨x.1, x.2.1, x.2.2⟩ : Symbol)) (fun _ => rfl) (fun _ h => h.1)
theorem rowImage : Dec H enc Tryz.prog w 196 encImage bigImg :=
 (Dec.struct2 (k0 := 1) (k1 := 1) Tryz.underlying196 rfl (by kernel_rfl) rfl (by kernel_rfl) (by kernel_rfl) (Dec.string Tryz.underlying9) (Dec.slice (s := 3) Tryz.underlying128 (by kernel_rfl) (by omega) rowSym (fun _ => rfl))).map
  (fun x : ByteArray × List Symbol => (⟨x.1, x.2⟩ : Image)) (fun _ => rfl) (fun _ h => h)
theorem rowMach : Dec H enc Tryz.prog w 203 encMach (fun m => bigMach m ∧ MachR m) :=
 (Dec.struct7 (k0 := 1) (k1 := 1) (k2 := 1) (k3 := 1) (k4 := 1) (k5 := 1) (k6 := 1) Tryz.underlying203 rfl (by kernel_rfl) rfl (by kernel_rfl) rfl (by kernel_rfl) rfl (by kernel_rfl) rfl (by kernel_rfl) rfl (by kernel_rfl) rfl (by kernel_rfl) (by kernel_rfl)
  (Dec.int Tryz.underlying3) (Dec.int Tryz.underlying3) (Dec.int Tryz.underlying3) rowIs rowIs (Dec.int Tryz.underlying3) (Dec.int Tryz.underlying3)).map
  (fun x : Int × Int × Int × List Int × List Int × Int × Int => (⟨x.1, x.2.1, x.2.2.1, x.2.2.2.1, x.2.2.2.2.1, x.2.2.2.2.2.1, x.2.2.2.2.2.2⟩ : Mach)) (fun _ => rfl) (fun _ h => ⟨⟨h.2.2.2.1.1, h.2.2.2.2.1.1⟩, in64 h.1, in64 h.2.1, in64 h.2.2.1, h.2.2.2.1.2⟩)
theorem rowSpace : Dec H enc Tryz.prog w 25 (fun x : SpX => [.sl 2 (x.1.map encImage), .sl 1 (x.2.1.map encI), .sl 1 (x.2.2.map encI)]) (fun x => bigSp x ∧ ∀ e ∈ x.2.2, In64 e) :=
 (Dec.struct3 (k0 := 1) (k1 := 1) (k2 := 1) Tryz.underlying25 rfl (by kernel_rfl) rfl (by kernel_rfl) rfl (by kernel_rfl) (by kernel_rfl) (Dec.slice (s := 2) Tryz.underlying22 (by kernel_rfl) (by omega) rowImage (fun _ => rfl)) rowIs rowIs).map
  (fun x : List Image × List Int × List Int => x) (fun _ => rfl) (fun _ h => ⟨⟨h.1, h.2.1.1, h.2.2.1⟩, h.2.2.2⟩)
theorem rowProcess : Dec H enc Tryz.prog w 31 aggPc (fun x => bigPc x ∧ (∀ e ∈ x.1.2.2, In64 e) ∧ ∀ m ∈ x.2.1, MachR m) :=
 (Dec.struct5 (k0 := 3) (k1 := 1) (k2 := 1) (k3 := 1) (k4 := 1) Tryz.underlying31 rfl (by kernel_rfl) rfl (by kernel_rfl) rfl (by kernel_rfl) rfl (by kernel_rfl) rfl (by kernel_rfl) (by kernel_rfl)
  rowSpace (Dec.slice (s := 7) Tryz.underlying29 (by kernel_rfl) (by omega) rowMach (fun _ => rfl)) (Dec.int Tryz.underlying3) (Dec.int Tryz.underlying3) (Dec.int Tryz.underlying3)).map
  (fun x : SpX × List Mach × Int × Int × Int => (x : PcX)) (fun _ => rfl) (fun _ h => ⟨⟨h.1.1, h.2.1.1, fun m hm => (h.2.1.2 m hm).1⟩, h.1.2, fun m hm => (h.2.1.2 m hm).2⟩)
theorem rowTimer : Dec H enc Tryz.prog w 33 aggTm (fun _ => True) :=
 (Dec.struct4 (k0 := 1) (k1 := 1) (k2 := 1) (k3 := 1) Tryz.underlying33 rfl (by kernel_rfl) rfl (by kernel_rfl) rfl (by kernel_rfl) rfl (by kernel_rfl) (by kernel_rfl) (Dec.int Tryz.underlying3) (Dec.int Tryz.underlying3) (Dec.int Tryz.underlying3) (Dec.int Tryz.underlying3)).map
  (fun x : Int × Int × Int × Int => (⟨x.1, x.2.1, x.2.2.1, x.2.2.2⟩ : Tm)) (fun _ => rfl) (fun _ _ => trivial)
theorem rowRing : Dec H enc Tryz.prog w 36 aggRg bigRg :=
 (Dec.struct4 (k0 := 1) (k1 := 1) (k2 := 1) (k3 := 1) Tryz.underlying36 rfl (by kernel_rfl) rfl (by kernel_rfl) rfl (by kernel_rfl) rfl (by kernel_rfl) (by kernel_rfl) (Dec.int Tryz.underlying3) rowSs (Dec.int Tryz.underlying3) (Dec.int Tryz.underlying3)).map
  (fun x : Int × List ByteArray × Int × Int => (x : RgX)) (fun _ => rfl) (fun _ h => h.2.1)
theorem rowSession : Dec H enc Tryz.prog w 38 aggSe (fun x => bigSe x ∧ numSe x) :=
 (Dec.struct6 (k0 := 7) (k1 := 4) (k2 := 4) (k3 := 1) (k4 := 1) (k5 := 1) Tryz.underlying38 rfl (by kernel_rfl) rfl (by kernel_rfl) rfl (by kernel_rfl) rfl (by kernel_rfl) rfl (by kernel_rfl) rfl (by kernel_rfl) (by kernel_rfl)
  rowProcess rowTimer rowRing (Dec.int Tryz.underlying3) (Dec.int Tryz.underlying3) (Dec.int Tryz.underlying3)).map
  (fun x : PcX × Tm × RgX × Int × Int × Int => (x : SeX)) (fun _ => rfl) (fun _ h => ⟨⟨h.1.1, h.2.2.1⟩, h.1.2⟩)
theorem rowRule : Dec H enc Tryz.prog w 290 encRule (fun _ => True) :=
 (Dec.struct4 (k0 := 1) (k1 := 1) (k2 := 1) (k3 := 1) Tryz.underlying290 rfl (by kernel_rfl) rfl (by kernel_rfl) rfl (by kernel_rfl) rfl (by kernel_rfl) (by kernel_rfl) (Dec.int Tryz.underlying3) (Dec.int Tryz.underlying3) (Dec.bool Tryz.underlying4) (Dec.int Tryz.underlying3)).map
  (fun x : Int × Int × Bool × Int => (⟨x.1, x.2.1, x.2.2.1, x.2.2.2⟩ : Rule)) (fun _ => rfl) (fun _ _ => trivial)
theorem rowRow : Dec H enc Tryz.prog w 292 encRow (fun _ => True) :=
 (Dec.struct3 (k0 := 1) (k1 := 1) (k2 := 1) Tryz.underlying292 rfl (by kernel_rfl) rfl (by kernel_rfl) rfl (by kernel_rfl) (by kernel_rfl) (Dec.int Tryz.underlying3) (Dec.int Tryz.underlying3) (Dec.bool Tryz.underlying4)).map
  (fun x : Int × Int × Bool => (⟨x.1, x.2.1, x.2.2⟩ : Row)) (fun _ => rfl) (fun _ _ => trivial)
theorem rowInline : Dec H enc Tryz.prog w 272 encInline (fun x => x.name.size ≤ maxLen) :=
 (Dec.struct5 (k0 := 1) (k1 := 1) (k2 := 1) (k3 := 1) (k4 := 1) Tryz.underlying272 rfl (by kernel_rfl) rfl (by kernel_rfl) rfl (by kernel_rfl) rfl (by kernel_rfl) rfl (by kernel_rfl) (by kernel_rfl) (Dec.int Tryz.underlying3) (Dec.int Tryz.underlying3) (Dec.int Tryz.underlying3) (Dec.int Tryz.underlying3) (Dec.string Tryz.underlying9)).map
  (fun x : Int × Int × Int × Int × ByteArray => (⟨x.1, x.2.1, x.2.2.1, x.2.2.2.1, x.2.2.2.2⟩ : Inline)) (fun _ => rfl) (fun _ h => h.2.2.2.2)
theorem rowDebug : Dec H enc Tryz.prog w 133 encDebug bigDbg :=
 (Dec.struct5 (k0 := 1) (k1 := 1) (k2 := 1) (k3 := 1) (k4 := 1) Tryz.underlying133 rfl (by kernel_rfl) rfl (by kernel_rfl) rfl (by kernel_rfl) rfl (by kernel_rfl) rfl (by kernel_rfl) (by kernel_rfl) (Dec.int Tryz.underlying3)
  (Dec.slice (s := 3) Tryz.underlying128 (by kernel_rfl) (by omega) rowSym (fun _ => rfl)) (Dec.slice (s := 4) Tryz.underlying129 (by kernel_rfl) (by omega) rowRule (fun _ => rfl))
  (Dec.slice (s := 3) Tryz.underlying130 (by kernel_rfl) (by omega) rowRow (fun _ => rfl)) (Dec.slice (s := 5) Tryz.underlying131 (by kernel_rfl) (by omega) rowInline (fun _ => rfl))).map
  (fun x : Int × List Symbol × List Rule × List Row × List Inline => (⟨x.1, x.2.1, x.2.2.1, x.2.2.2.1, x.2.2.2.2⟩ : Debug)) (fun _ => rfl) (fun _ h => ⟨h.2.1, h.2.2.1.1, h.2.2.2.1.1, h.2.2.2.2⟩)
theorem rowAgent : Dec H enc Tryz.prog w 28 aggAg bigAg :=
 (Dec.struct2 (k0 := 3) (k1 := 1) Tryz.underlying28 rfl (by kernel_rfl) rfl (by kernel_rfl) (by kernel_rfl) rowSpace (Dec.slice (s := 5) Tryz.underlying26 (by kernel_rfl) (by omega) rowDebug (fun _ => rfl))).map
  (fun x : SpX × List Debug => (x : AgX)) (fun _ => rfl) (fun _ h => ⟨h.1.1, h.2⟩)
theorem okB1 {P : Program} {w : World} {base : Nat} {r : Reach} {t : TypeId} {v : Value} (ht : P.underlying t = some .bool) (h : Value.okWide P w r base t v) : v.oneCell' = true := by
 obtain ⟨a, rfl⟩ := okWide_bool ht h; rfl
end
set_option maxRecDepth 100000 in
theorem lifted (os : Os) (started : os.Started) (H : Type) (enc : TypeId × Value → H) :
  ReturnsInHanded {} Tryz.checked os 4 .any (Rows.fnExactRunCollectedSpec.pre6 enc Tryz.prog Tryz.f4 Rows.fnExactRunCollectedRow.domain false) (Rows.fnExactRunCollectedSpec.post enc Tryz.prog Tryz.f4 false true false false) := by
 refine returnsInHanded_of_change (C := Tryz.checked) own started (by kernel_rfl) Tryz.func4
  (ChangeSpec.witness6 (enc := enc) (C := Tryz.checked) false ⟨#[], #[.agg #[.slice none 0 0, .slice none 0 0, .slice none 0 0, .slice none 0 0], .agg #[.slice none 0 0, .slice none 0 0, .slice none 0 0, .slice none 0 0, .int .i64 0, .int .i64 0, .int .i64 0, .int .i64 0, .int .i64 0, .int .i64 0, .int .i64 0, .int .i64 0, .slice none 0 0, .int .i64 0, .int .i64 0, .int .i64 0, .int .i64 0, .int .i64 0], .int .i64 0, .int .i64 0, .bool false], []⟩ 8 (by kernel_rfl) (by kernel_rfl) (by kernel_rfl) (by kernel_rfl)) ?_
 intro W base args ds gs before hval0 hW hcnd _
 have hval : ∀ (j : Nat) t v, Tryz.f4.params[j]? = some t → args[j]? = some v → Value.okWide Tryz.prog W .any base t v := hval0
 have hW' := hW
 obtain ⟨p, q, hA0, hV, rfl, hfz, hnd⟩ := hW
 have hA : DataW.TrodAll enc Tryz.prog W 0 (fun _ => true) true Tryz.f4.params.toList args.toList ds p := hA0
 rw [Tryz.params4] at hA hval
 obtain ⟨v0, vs0, d0, ds0, p0, q0, hargs, rfl, rfl, h0, r0⟩ := trodAll_cons hA
 obtain ⟨v1, vs1, d1, ds1, p1, q1, rfl, rfl, rfl, h1, r1⟩ := trodAll_cons r0
 obtain ⟨v2, vs2, d2, ds2, p2, q2, rfl, rfl, rfl, h2, r2⟩ := trodAll_cons r1
 obtain ⟨v3, vs3, d3, ds3, p3, q3, rfl, rfl, rfl, h3, r3⟩ := trodAll_cons r2
 obtain ⟨v4, vs4, d4, ds4, p4, q4, rfl, rfl, rfl, h4, r4⟩ := trodAll_cons r3
 obtain ⟨rfl, rfl, rfl⟩ := trodAll_nil r4
 obtain rfl : args = #[v0, v1, v2, v3, v4] := by cases args; simp_all
 obtain ⟨rfl, rfl⟩ := trodVars_none hV
 obtain ⟨us, rfl, _⟩ := okWide_struct Tryz.underlying28 (hval 0 28 v0 rfl rfl)
 obtain ⟨ut, rfl, _⟩ := okWide_struct Tryz.underlying38 (hval 1 38 v1 rfl rfl)
 obtain ⟨x0, w0, R0⟩ := Dec.argS rowAgent h0
 obtain ⟨x1, w1, R1⟩ := Dec.argS rowSession h1
 obtain ⟨x2, w2, R2⟩ := Dec.arg (Dec.int Tryz.underlying3) (okI1 Tryz.underlying3 (hval 2 3 v2 rfl rfl)) h2
 obtain ⟨x3, w3, R3⟩ := Dec.arg (Dec.int Tryz.underlying3) (okI1 Tryz.underlying3 (hval 3 3 v3 rfl rfl)) h3
 obtain ⟨x4, w4, R4⟩ := Dec.arg (Dec.bool Tryz.underlying4) (okB1 Tryz.underlying4 (hval 4 4 v4 rfl rfl)) h4
 refine ((lawRunCollected x0 x1 x2 x3 x4 w0 w1.1 w1.2).calls (.inl (by kernel_rfl)) (vs := [.agg us, .agg ut, v2, v3, v4]) rfl (fun i c u hc hu => ?_)).mono fun e W' he => ?_
 ·match i, hc, hu with
  | 0, hc, hu => simp at hc hu; subst hc hu; exact R0
  | 1, hc, hu => simp at hc hu; subst hc hu; exact R1
  | 2, hc, hu => simp at hc hu; subst hc hu; exact R2
  | 3, hc, hu => simp at hc hu; subst hc hu; exact R3
  | 4, hc, hu => simp at hc hu; subst hc hu; exact R4
  | (i + 5), hc, hu => simp at hc
 ·obtain ⟨rfl, hb⟩ := he
  exact ⟨_, rfl, law_post (tb := 4) laidOut hW' rfl rfl Tryz.underlying4 (by kernel_rfl) rfl rfl rfl hb⟩
-- each closed fact by itself: all of them at once outgrow the kernel's lid
set_option maxRecDepth 100000 in
set_option maxHeartbeats 40000000 in
theorem closed : joinedFacts Tryz.prog 4 Tryz.f4 Rows.fnExactRunCollectedSpec Rows.fnExactRunCollectedRow = true := by
 unfold joinedFacts
 repeat' (with_reducible (refine Bool.and_eq_true_iff.mpr ⟨?_, ?_⟩))
 all_goals as_aux_lemma => kernel_rfl
theorem holds : Rows.FnExactRunCollectedSaid :=
 OpenClaim.holds_of_wide 4 Tryz.f4 rfl rfl rfl rfl rfl rfl rfl ⟨rfl, rfl, rfl, rfl, rfl⟩ rfl rfl rfl rfl rfl (by kernel_rfl) Tryz.func4 closed
  (of_decide_eq_true (by kernel_rfl)) (by unfold Func.isWrapper; first | (rw [if_pos (by decide +kernel)]; kernel_rfl) | (rw [if_neg (by decide +kernel)]; exact ⟨rfl, rfl⟩))
  (fun os started H enc _ => lifted os started H enc)
end Go.Proofs.YtjdklcjoeanimaaGreat.fnExactRunCollected
