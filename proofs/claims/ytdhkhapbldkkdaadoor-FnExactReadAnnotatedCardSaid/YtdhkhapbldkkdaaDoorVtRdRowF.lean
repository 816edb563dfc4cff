/-
  DERIVED. FnExactReadAnnotated: for every input the law returns true and the input reads as it did; the library's tables stand as the program's text lays them (the card ties them).
-/
import Derived.Test.YtdhkhapbldkkdaaDoorVq0
import Derived.Test.YtdhkhapbldkkdaaDoorVq1
import Derived.Test.YtdhkhapbldkkdaaDoorVq2
import Derived.Test.YtdhkhapbldkkdaaDoorVq3
import Derived.Test.YtdhkhapbldkkdaaDoorVq4
import Derived.Test.YtdhkhapbldkkdaaDoorVq5
import Derived.Test.YtdhkhapbldkkdaaDoorVq6
import Derived.Test.YtdhkhapbldkkdaaDoorVq7
import Derived.Test.YtdhkhapbldkkdaaDoorVq8
import Derived.Test.YtdhkhapbldkkdaaDoorVq9
import Derived.Test.YtdhkhapbldkkdaaDoorVq10
import Derived.Test.YtdhkhapbldkkdaaDoorVq11
import Derived.Test.YtdhkhapbldkkdaaDoorCards
import Derived.Test.YtdhkhapbldkkdaaDoorTie
import Derived.HandedShaped
import Derived.WalkKit
import Derived.ProofKit
import Derived.OpenShut
import Derived.Deep.DeepHandedRow
import Derived.Lib.LaidTab
import Derived.Lib.LaidIn
import Derived.Lib.DecodeN
import Derived.LaidSub
import GoSem.PinnedTables
namespace Go.Proofs.YtdhkhapbldkkdaaDoor.fnExactReadAnnotated
open Go.Vc Go.ChangeShapes Go.WideShapes Go.ChangeAt Go.RowKit
set_option linter.unusedVariables false

theorem size_of_shaped {P : Program} {W : World} (h : W.ShapedOpen P) {n : Nat} (hn : P.globals.size = n + 1) {zero : Array Value} {t : TypeId} (h0 : ((begin P (fun _ _ => 0) default).world.heap[n]?).bind Obj.row? = some (zero, t)) : P.globals.size ≤ W.heap.size := by
  obtain ⟨cs, hh, _⟩ := h.1 n zero t (by omega) h0
  have := lt_of_heap hh
  omega
theorem own : ownKnob Tryd.prog.godebug = none := by kernel_rfl
theorem laidOut : laidOutB Tryd.prog = true := by kernel_rfl
theorem gTab : Tryd.prog.globalNamed "internal/strconv.uint64pow10" = some 3 := by kernel_rfl
theorem gTabType : (Tryd.prog.globals[3]?).map (·.type) = some 115 := by kernel_rfl
theorem cellsA : Tryd.prog.cellsOf 115 = 20 := by kernel_rfl
theorem cellsE : Tryd.prog.cellsOf 109 = 1 := by kernel_rfl
theorem onlyPow : Rows.fnExactReadAnnotatedRow.laid.filter (fun x => x.1 == "internal/strconv.uint64pow10") = [("internal/strconv.uint64pow10", Lib.tabData .u64 pow10s)] := by kernel_rfl
theorem table {W : World} (h : laidMetH Tryd.prog Rows.fnExactReadAnnotatedRow.laid W) : Lib.TabIs Tryd.prog W "internal/strconv.uint64pow10" .u64 pow10s := by
  have h1 := h.filter (fun x => x.1 == "internal/strconv.uint64pow10")
  rw [onlyPow] at h1
  exact Lib.tabIs_of_head (rest := []) gTab gTabType Tryd.underlying115 Tryd.underlying109 cellsE cellsA h1
theorem grdOf {W : World} (h : W.ShapedOpen Tryd.prog) (hL : laidMetH Tryd.prog Rows.fnExactReadAnnotatedRow.laid W) : Grd Tryd.prog W :=
  .inr ⟨size_of_shaped h (n := 5) (zero := Array.replicate 64 (.int .u8 0)) (t := 120) (by kernel_rfl) (by kernel_rfl), W, h, (fun _ => table hL), fun _ _ => rfl⟩

set_option maxRecDepth 100000 in
theorem contract (H : Type) (enc : TypeId × Value → H) (W : World) (base : Nat) (args : Array Value) (ds gs : List (DataW H)) (before : List MemPlace)
    (hval : ∀ (j : Nat) t v, Tryd.f3.params[j]? = some t → args[j]? = some v → Value.okWide Tryd.prog W .any base t v)
    (hW : DataW.Whole enc Tryd.prog Tryd.f3.params.toList Rows.fnExactReadAnnotatedSpec.vars false W args.toList ds gs before) (hG : Grd Tryd.prog W) :
    Calls Tryd.prog 3 args W fun e W' => ∃ v, e = .returned v ∧ Rows.fnExactReadAnnotatedSpec.post enc Tryd.prog Tryd.f3 false true false false W args v W' := by
  have hW' := hW
  obtain ⟨p, q, hA0, hV, rfl, hfz, hnd⟩ := hW
  have hA : DataW.TrodAll enc Tryd.prog W 0 (fun _ => true) true Tryd.f3.params.toList args.toList ds p := hA0
  rw [Tryd.params3] at hA hval
  obtain ⟨v0, vs0, d0, ds0, p0, q0, hargs, rfl, rfl, h0, r0⟩ := trodAll_cons hA
  obtain ⟨rfl, rfl, rfl⟩ := trodAll_nil r0
  obtain rfl : args = #[v0] := by cases args; simp_all
  obtain ⟨rfl, rfl⟩ := trodVars_none hV
  obtain ⟨x0, w0, R0⟩ := Dec.arg (Dec.string Tryd.underlying9) (okWide_string1 Tryd.underlying9 (hval 0 9 v0 rfl rfl)) h0
  refine ((lawRead x0).calls hG (vs := [v0]) rfl (fun i c u hc hu => ?_)).mono fun e W' he => ?_
  · match i, hc, hu with
    | 0, hc, hu => simp at hc hu; subst hc hu; exact R0
    | (i + 1), hc, hu => simp at hc
  · obtain ⟨rfl, hb⟩ := he
    exact ⟨_, rfl, law_post (tb := 4) laidOut hW' rfl rfl Tryd.underlying4 (by kernel_rfl) rfl rfl rfl hb⟩

/-- a world for the witness: the tables as their initialisers lay them -/
noncomputable def laidWorld (os : Os) : World :=
  let w0 := World.holding Tryd.prog os ⟨#[], #[], []⟩
  let put (h : Array Obj) (g : Nat) (cs : Array Value) : Array Obj := h.modify g fun
    | .cells _ t frozen => .cells cs t frozen
    | o => o
  let h1 := put w0.heap 4 #[.int .u8 0, .int .u8 1, .int .u8 28, .int .u8 2, .int .u8 29, .int .u8 14, .int .u8 24, .int .u8 3, .int .u8 30, .int .u8 22, .int .u8 20, .int .u8 15, .int .u8 25, .int .u8 17, .int .u8 4, .int .u8 8, .int .u8 31, .int .u8 27, .int .u8 13, .int .u8 23, .int .u8 21, .int .u8 19, .int .u8 16, .int .u8 7, .int .u8 26, .int .u8 12, .int .u8 18, .int .u8 6, .int .u8 11, .int .u8 5, .int .u8 10, .int .u8 9]
  let h2 := put h1 5 #[.int .u8 0, .int .u8 1, .int .u8 56, .int .u8 2, .int .u8 57, .int .u8 49, .int .u8 28, .int .u8 3, .int .u8 61, .int .u8 58, .int .u8 42, .int .u8 50, .int .u8 38, .int .u8 29, .int .u8 17, .int .u8 4, .int .u8 62, .int .u8 47, .int .u8 59, .int .u8 36, .int .u8 45, .int .u8 43, .int .u8 51, .int .u8 22, .int .u8 53, .int .u8 39, .int .u8 33, .int .u8 30, .int .u8 24, .int .u8 18, .int .u8 12, .int .u8 5, .int .u8 63, .int .u8 55, .int .u8 48, .int .u8 27, .int .u8 60, .int .u8 41, .int .u8 37, .int .u8 16, .int .u8 46, .int .u8 35, .int .u8 44, .int .u8 21, .int .u8 52, .int .u8 32, .int .u8 23, .int .u8 11, .int .u8 54, .int .u8 26, .int .u8 40, .int .u8 15, .int .u8 34, .int .u8 20, .int .u8 31, .int .u8 10, .int .u8 25, .int .u8 14, .int .u8 19, .int .u8 9, .int .u8 13, .int .u8 8, .int .u8 7, .int .u8 6]
  let h3 := put h2 3 (pow10s.map fun z => Value.int .u64 z).toArray
  let h4 := put h3 2 ((List.range 16).flatMap fun i => [Value.int .u8 (Lib.accLo i), Value.int .u8 (Lib.accHi i)]).toArray
  let h5 := put h4 1 (Go.Pinned.utf8FirstZ.map fun (z : Nat) => Value.int .u8 (z : Int)).toArray
  { w0 with heap := h5 }
def wargs : Array Value := #[.string ⟨#[]⟩]
theorem laid_met (os : Os) : laidMet Tryd.prog Rows.fnExactReadAnnotatedRow.laid ((laidWorld os).forCall (fun _ _ => 0) ⟨#[], wargs, []⟩).memory :=
  laidMet_of_run' 8 (by kernel_rfl) (by kernel_rfl)
set_option maxRecDepth 100000 in
theorem lifted (os : Os) (started : os.Started) (H : Type) (enc : TypeId × Value → H) (F : Stop.Interp) :
    ReturnsInHanded {} Tryd.checked os 3 .any ((OpenSpec.ofChange Rows.fnExactReadAnnotatedSpec).preRow enc Tryd.prog Tryd.f3 Rows.fnExactReadAnnotatedRow.domain false Rows.fnExactReadAnnotatedRow.laid) (((OpenSpec.ofChange Rows.fnExactReadAnnotatedSpec).at F).post enc Tryd.prog Tryd.f3 false true false false) := by
  refine returnsInHanded_of_row (C := Tryd.checked) (s := OpenSpec.ofChange Rows.fnExactReadAnnotatedSpec) own started (by kernel_rfl) Tryd.func3
    (witness_row_at (enc := enc) (C := Tryd.checked) false (laidWorld os) wargs rfl (by kernel_rfl) (by kernel_rfl) (by kernel_rfl)
      (OpenSpec.preRow_of_cond (x := ([.lit (.string [])], [], [])) 8 (by kernel_rfl) (by kernel_rfl) (fun k hk => by cases hk) (by kernel_rfl) (laid_met os))) ?_
  intro W base args ds gs before hval hW _ _ _ hL hsh _
  exact contract H enc W base args ds gs before hval hW (grdOf hsh hL)

theorem said : Rows.FnExactReadAnnotatedSaid :=
  OpenClaim.holds_of_cond 3 Tryd.f3 rfl rfl rfl rfl rfl rfl rfl ⟨rfl, rfl, rfl, rfl, rfl⟩ rfl rfl rfl rfl rfl (by kernel_rfl) Tryd.func3 (by kernel_rfl)
    (of_decide_eq_true (by kernel_rfl)) (by unfold Func.isWrapper; first | (rw [if_pos (by decide +kernel)]; kernel_rfl) | (rw [if_neg (by decide +kernel)]; exact ⟨rfl, rfl⟩))
    (fun os started H enc _ F => by rw [OpenClaim.pre_eq_preRow]; exact lifted os started H enc F)

theorem plain (f : FuncId) (fn : Func) (hf : Tryd.pinned.checked.prog.funcNamed "loop.example/g03314/laws.FnExactReadAnnotated" = some f) (hfn : Tryd.pinned.checked.prog.funcs[f]? = some fn) :
    false = Tryd.pinned.checked.prog.looks [] ∧ ∀ (j : Nat) t, fn.params[j]? = some t → Tryd.pinned.checked.prog.wantsStandIn t = false := by
  obtain rfl : f = 3 := Option.some.inj ((show Tryd.prog.funcNamed "loop.example/g03314/laws.FnExactReadAnnotated" = some 3 by kernel_rfl).symm.trans hf) |>.symm
  obtain rfl : fn = Tryd.f3 := (Option.some.inj (Tryd.func3.symm.trans hfn)).symm
  refine ⟨by kernel_rfl, fun j t ht => ?_⟩
  rw [Tryd.params3] at ht
  obtain rfl : t = 9 := by
    have := Array.mem_of_getElem? ht
    simp only [List.mem_toArray, List.mem_cons, List.not_mem_nil, or_false] at this
    simpa using this
  · exact (show Tryd.prog.wantsStandIn 9 = false by kernel_rfl)

theorem card : Rows.FnExactReadAnnotatedCardSaid :=
  Claim7.holds_tied_plain_at .later [] _ _ _ _ said (fun _ h => by cases h) (by kernel_rfl) (fun _ h => by cases h) fnExactReadAnnotated_row_tie rfl ⟨rfl, rfl⟩ (by kernel_rfl) rfl plain (by kernel_rfl)
end Go.Proofs.YtdhkhapbldkkdaaDoor.fnExactReadAnnotated
