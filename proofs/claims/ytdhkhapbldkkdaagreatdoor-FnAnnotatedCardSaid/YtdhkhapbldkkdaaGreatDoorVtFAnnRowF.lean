/-
 DERIVED. FnAnnotated: for every input the law returns true and the input reads as it did; the library's tables stand as the program's text lays them (the card ties them).
-/
import Derived.Test.YtdhkhapbldkkdaaGreatDoorVk0
import Derived.Test.YtdhkhapbldkkdaaGreatDoorVk1
import Derived.Test.YtdhkhapbldkkdaaGreatDoorVk2
import Derived.Test.YtdhkhapbldkkdaaGreatDoorVk3
import Derived.Test.YtdhkhapbldkkdaaGreatDoorVk4
import Derived.Test.YtdhkhapbldkkdaaGreatDoorVk5
import Derived.Test.YtdhkhapbldkkdaaGreatDoorVk6
import Derived.Test.YtdhkhapbldkkdaaGreatDoorVk7
import Derived.Test.YtdhkhapbldkkdaaGreatDoorVk8
import Derived.Test.YtdhkhapbldkkdaaGreatDoorVk9
import Derived.Test.YtdhkhapbldkkdaaGreatDoorVk10
import Derived.Test.YtdhkhapbldkkdaaGreatDoorVk11
import Derived.Test.YtdhkhapbldkkdaaGreatDoorCards
import Derived.Test.YtdhkhapbldkkdaaGreatDoorTie
import Derived.HandedShaped
import Derived.WalkKit
import Derived.ProofKit
import Derived.OpenShut
import Derived.Deep.DeepHandedRow
import Derived.Lib.LaidTab
import Derived.Lib.LaidIn
import Derived.Lib.DecodeN
import Derived.LaidSub
import GoSem.PinnedTables
namespace Go.Proofs.YtdhkhapbldkkdaaGreatDoor.fnAnnotated
open Go.Vc Go.ChangeShapes Go.WideShapes Go.ChangeAt Go.RowKit
set_option linter.unusedVariables false
theorem size_of_shaped {P : Program} {W : World} (h : W.ShapedOpen P) {n : Nat} (hn : P.globals.size = n + 1) {zero : Array Value} {t : TypeId} (h0 : ((begin P (fun _ _ => 0) default).world.heap[n]?).bind Obj.row? = some (zero, t)) : P.globals.size ≤ W.heap.size := by
 obtain ⟨cs, hh, _⟩ := h.1 n zero t (by omega) h0
 have := lt_of_heap hh
 omega
theorem own : ownKnob Tryz.prog.godebug = none := by kernel_rfl
theorem laidOut : laidOutB Tryz.prog = true := by kernel_rfl
theorem gTab : Tryz.prog.globalNamed "internal/strconv.uint64pow10" = some 1 := by kernel_rfl
theorem gTabType : (Tryz.prog.globals[1]?).map (·.type) = some 225 := by kernel_rfl
theorem cellsA : Tryz.prog.cellsOf 225 = 20 := by kernel_rfl
theorem cellsE : Tryz.prog.cellsOf 201 = 1 := by kernel_rfl
theorem onlyPow : Rows.fnAnnotatedRow.laid.filter (fun x => x.1 == "internal/strconv.uint64pow10") = [("internal/strconv.uint64pow10", Lib.tabData .u64 pow10s)] := by kernel_rfl
theorem table {W : World} (h : laidMetH Tryz.prog Rows.fnAnnotatedRow.laid W) : Lib.TabIs Tryz.prog W "internal/strconv.uint64pow10" .u64 pow10s := by
 have h1 := h.filter (fun x => x.1 == "internal/strconv.uint64pow10")
 rw [onlyPow] at h1
 exact Lib.tabIs_of_head (rest := []) gTab gTabType Tryz.underlying225 Tryz.underlying201 cellsE cellsA h1
theorem grdOf {W : World} (h : W.ShapedOpen Tryz.prog) (hL : laidMetH Tryz.prog Rows.fnAnnotatedRow.laid W) : Grd Tryz.prog W :=
 .inr ⟨size_of_shaped h (n := 5) (zero := Array.replicate 64 (.int .u8 0)) (t := 235) (by kernel_rfl) (by kernel_rfl), W, h, (fun _ => table hL), fun _ _ => rfl⟩
set_option maxRecDepth 100000 in
theorem contract (H : Type) (enc : TypeId × Value → H) (W : World) (base : Nat) (args : Array Value) (ds gs : List (DataW H)) (before : List MemPlace)
  (hval : ∀ (j : Nat) t v, Tryz.f4.params[j]? = some t → args[j]? = some v → Value.okWide Tryz.prog W .any base t v)
  (hW : DataW.Whole enc Tryz.prog Tryz.f4.params.toList Rows.fnAnnotatedSpec.vars false W args.toList ds gs before) (hG : Grd Tryz.prog W) :
  Calls Tryz.prog 4 args W fun e W' => ∃ v, e = .returned v ∧ Rows.fnAnnotatedSpec.post enc Tryz.prog Tryz.f4 false true false false W args v W' := by
 have hW' := hW
 obtain ⟨p, q, hA0, hV, rfl, hfz, hnd⟩ := hW
 have hA : DataW.TrodAll enc Tryz.prog W 0 (fun _ => true) true Tryz.f4.params.toList args.toList ds p := hA0
 rw [Tryz.params4] at hA hval
 obtain ⟨v0, vs0, d0, ds0, p0, q0, hargs, rfl, rfl, h0, r0⟩ := trodAll_cons hA
 obtain ⟨rfl, rfl, rfl⟩ := trodAll_nil r0
 obtain rfl : args = #[v0] := by cases args; simp_all
 obtain ⟨rfl, rfl⟩ := trodVars_none hV
 obtain ⟨x0, w0, R0⟩ := Dec.arg (Dec.slice (s := 1) Tryz.underlying43 (by kernel_rfl) (by omega) (Dec.int Tryz.underlying5) (fun _ => rfl)) (okWide_slice1 Tryz.underlying43 (hval 0 43 v0 rfl rfl)) h0
 refine ((lawFAnn x0 w0.1 w0.2).calls hG (vs := [v0]) rfl (fun i c u hc hu => ?_)).mono fun e W' he => ?_
 ·match i, hc, hu with
  | 0, hc, hu => simp at hc hu; subst hc hu; exact R0
  | (i + 1), hc, hu => simp at hc
 ·obtain ⟨rfl, hb⟩ := he
  exact ⟨_, rfl, law_post (tb := 4) laidOut hW' rfl rfl Tryz.underlying4 (by kernel_rfl) rfl rfl rfl hb⟩
/-- a world for the witness: the tables as their initialisers lay them -/
noncomputable def laidWorld (os : Os) : World :=
 let w0 := World.holding Tryz.prog os ⟨#[], #[], []⟩
 let put (h : Array Obj) (g : Nat) (cs : Array Value) : Array Obj := h.modify g fun
  | .cells _ t frozen => .cells cs t frozen
  |o => o
 let h1 := put w0.heap 4 #[.int .u8 0, .int .u8 1, .int .u8 28, .int .u8 2, .int .u8 29, .int .u8 14, .int .u8 24, .int .u8 3, .int .u8 30, .int .u8 22, .int .u8 20, .int .u8 15, .int .u8 25, .int .u8 17, .int .u8 4, .int .u8 8, .int .u8 31, .int .u8 27, .int .u8 13, .int .u8 23, .int .u8 21, .int .u8 19, .int .u8 16, .int .u8 7, .int .u8 26, .int .u8 12, .int .u8 18, .int .u8 6, .int .u8 11, .int .u8 5, .int .u8 10, .int .u8 9]
 let h2 := put h1 5 #[.int .u8 0, .int .u8 1, .int .u8 56, .int .u8 2, .int .u8 57, .int .u8 49, .int .u8 28, .int .u8 3, .int .u8 61, .int .u8 58, .int .u8 42, .int .u8 50, .int .u8 38, .int .u8 29, .int .u8 17, .int .u8 4, .int .u8 62, .int .u8 47, .int .u8 59, .int .u8 36, .int .u8 45, .int .u8 43, .int .u8 51, .int .u8 22, .int .u8 53, .int .u8 39, .int .u8 33, .int .u8 30, .int .u8 24, .int .u8 18, .int .u8 12, .int .u8 5, .int .u8 63, .int .u8 55, .int .u8 48, .int .u8 27, .int .u8 60, .int .u8 41, .int .u8 37, .int .u8 16, .int .u8 46, .int .u8 35, .int .u8 44, .int .u8 21, .int .u8 52, .int .u8 32, .int .u8 23, .int .u8 11, .int .u8 54, .int .u8 26, .int .u8 40, .int .u8 15, .int .u8 34, .int .u8 20, .int .u8 31, .int .u8 10, .int .u8 25, .int .u8 14, .int .u8 19, .int .u8 9, .int .u8 13, .int .u8 8, .int .u8 7, .int .u8 6]
 let h3 := put h2 1 (pow10s.map fun z => Value.int .u64 z).toArray
 let h4 := put h3 3 ((List.range 16).flatMap fun i => [Value.int .u8 (Lib.accLo i), Value.int .u8 (Lib.accHi i)]).toArray
 let h5 := put h4 2 (Go.Pinned.utf8FirstZ.map fun (z : Nat) => Value.int .u8 (z : Int)).toArray
 {w0 with heap := h5 }
def wargs : Array Value := #[.slice none 0 0]
theorem laid_met (os : Os) : laidMet Tryz.prog Rows.fnAnnotatedRow.laid ((laidWorld os).forCall (fun _ _ => 0) ⟨#[], wargs, []⟩).memory :=
 laidMet_of_run' 8 (by kernel_rfl) (by kernel_rfl)
set_option maxRecDepth 100000 in
theorem lifted (os : Os) (started : os.Started) (H : Type) (enc : TypeId × Value → H) (F : Stop.Interp) :
  ReturnsInHanded {} Tryz.checked os 4 .any ((OpenSpec.ofChange Rows.fnAnnotatedSpec).preRow enc Tryz.prog Tryz.f4 Rows.fnAnnotatedRow.domain false Rows.fnAnnotatedRow.laid) (((OpenSpec.ofChange Rows.fnAnnotatedSpec).at F).post enc Tryz.prog Tryz.f4 false true false false) := by
 refine returnsInHanded_of_row (C := Tryz.checked) (s := OpenSpec.ofChange Rows.fnAnnotatedSpec) own started (by kernel_rfl) Tryz.func4
  (witness_row_at (enc := enc) (C := Tryz.checked) false (laidWorld os) wargs rfl (by kernel_rfl) (by kernel_rfl) (by kernel_rfl)
   (OpenSpec.preRow_of_cond (x := ([.nil], [], [])) 8 (by kernel_rfl) (by kernel_rfl) (fun k hk => by cases hk) (by kernel_rfl) (laid_met os))) ?_
 intro W base args ds gs before hval hW _ _ _ hL hsh _
 exact contract H enc W base args ds gs before hval hW (grdOf hsh hL)
theorem said : Rows.FnAnnotatedSaid :=
 OpenClaim.holds_of_cond 4 Tryz.f4 rfl rfl rfl rfl rfl rfl rfl ⟨rfl, rfl, rfl, rfl, rfl⟩ rfl rfl rfl rfl rfl (by kernel_rfl) Tryz.func4 (by kernel_rfl)
  (of_decide_eq_true (by kernel_rfl)) (by unfold Func.isWrapper; first | (rw [if_pos (by decide +kernel)]; kernel_rfl) | (rw [if_neg (by decide +kernel)]; exact ⟨rfl, rfl⟩))
  (fun os started H enc _ F => by rw [OpenClaim.pre_eq_preRow]; exact lifted os started H enc F)
theorem plain (f : FuncId) (fn : Func) (hf : Tryz.pinned.checked.prog.funcNamed "loop.example/g03314/laws.FnAnnotated" = some f) (hfn : Tryz.pinned.checked.prog.funcs[f]? = some fn) :
  false = Tryz.pinned.checked.prog.looks [] ∧ ∀ (j : Nat) t, fn.params[j]? = some t → Tryz.pinned.checked.prog.wantsStandIn t = false := by
 obtain rfl : f = 4 := Option.some.inj ((show Tryz.prog.funcNamed "loop.example/g03314/laws.FnAnnotated" = some 4 by kernel_rfl).symm.trans hf) |>.symm
 obtain rfl : fn = Tryz.f4 := (Option.some.inj (Tryz.func4.symm.trans hfn)).symm
 refine ⟨by kernel_rfl, fun j t ht => ?_⟩
 rw [Tryz.params4] at ht
 obtain rfl : t = 43 := by
  have := Array.mem_of_getElem? ht
  simp only [List.mem_toArray, List.mem_cons, List.not_mem_nil, or_false] at this
  simpa using this
 ·exact (show Tryz.prog.wantsStandIn 43 = false by kernel_rfl)
theorem card : Rows.FnAnnotatedCardSaid :=
 Claim7.holds_tied_plain_at .later [] _ _ _ _ said (fun _ h => by cases h) (by kernel_rfl) (fun _ h => by cases h) fnAnnotated_row_tie rfl ⟨rfl, rfl⟩ (by kernel_rfl) rfl plain (by kernel_rfl)
end Go.Proofs.YtdhkhapbldkkdaaGreatDoor.fnAnnotated
