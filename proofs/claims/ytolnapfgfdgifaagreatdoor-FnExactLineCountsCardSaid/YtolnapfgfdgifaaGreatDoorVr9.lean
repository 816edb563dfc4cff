/-
  DERIVED. Several texts of ours in one: VtEnO, VcFz, VtFocS, VtNamed, VsLayS, VcV, VtSortE, VtEnI.
-/
import Derived.Test.YtolnapfgfdgifaaGreatDoorVr0
import Derived.Test.YtolnapfgfdgifaaGreatDoorVr1
import Derived.Test.YtolnapfgfdgifaaGreatDoorVr2
import Derived.Test.YtolnapfgfdgifaaGreatDoorVr3
import Derived.Test.YtolnapfgfdgifaaGreatDoorVr4
import Derived.Test.YtolnapfgfdgifaaGreatDoorVr5
import Derived.Test.YtolnapfgfdgifaaGreatDoorVr6
import Derived.Test.YtolnapfgfdgifaaGreatDoorVr7
import Derived.Test.YtolnapfgfdgifaaGreatDoorVr8
import Derived.Shelf.SlSortCmp.WholeK
import Derived.Shelf.SlLaysF0
import Derived.Ground.SlsfProg
import Derived.Test.YtolnapfgfdgifaaGreatDoorProg
import Derived.Shelf.SlSortCmp.NoneTotal
import Derived.Shelf.Small.Strs
set_option linter.unusedSimpArgs false
set_option linter.unusedVariables false
/-
  DERIVED. EntriesOf, of the reference.
-/
namespace Go.Proofs.YtolnapfgfdgifaaGreatDoor
open Go.Vc
set_option linter.unusedSimpArgs false
set_option linter.unusedVariables false
set_option maxHeartbeats 1000000
set_option maxRecDepth 10000
attribute [local go_sem] St.runR St.runW St.stepV offV St.step St.stepU St.stepG mkCond guardB St.prK St.pr St.prLen St.eff St.callE St.callD St.callF St.callL aI aB aS aR aC St.isM St.argL Ctr.pure Ctr.lend Ctr.move Ctr.isL Ctr.wri pur len lentBy St.lentV St.lent1 nthS argsR restOf obsR pairs swapL unObs backL St.resL erL SV.ren1 SV.up SV.up2 Ob.up St.fzL cellIds partIds St.intoRow SV.ownId St.fz SV.fz1 St.prep St.mvL St.mv SV.re1 rnOk St.prEq vals eqCells scEq Value.kd St.prStr St.prCut cutR St.bnd St.prMin St.bld isShift outL retL outJ oR oC St.ev St.get St.put St.new St.kill SV.kill SV.kill1 Ob.kill St.app St.wrt St.rowsOf St.res St.killL lk er argsL SV.strip SV.need SV.share SV.share1 SV.owns SV.owns1 SV.owns2 SV.good SV.good1 SV.rok SV.rok1 SV.rok2 SV.isV SV.isV2 nodupN SV.cells SV.one SV.pur Ob.pb partsIn rowsIn splice cellsAt dstOk scal2 scal1 thenK blockK retK outK outs okC okL okA okT nilC nilL nilA nilT keepC keepL keepA keepT St.runG St.dltK St.least St.clean St.final St.hide offK badS badO SV.refs SV.leaf SV.leaf2 Ob.refs dlOk fpAt Go.Vc.cover tups SV.ofAgg St.out outC subL St.has rng wr Value.oneCell' Option.isSome_some Option.isSome_none List.nil_append Bool.false_eq_true List.map_cons List.map_nil List.all_cons List.all_nil List.length_cons List.length_nil List.drop_zero List.drop_succ_cons List.take_succ_cons List.take_zero List.drop_nil List.take_nil List.getElem?_cons_zero List.getElem?_cons_succ List.getElem?_nil List.cons_append List.nil_append List.append_nil List.append_assoc List.flatMap_cons List.flatMap_nil List.contains_cons List.contains_nil List.set_cons_zero List.set_cons_succ List.getElem?_toArray Option.getD_some Option.getD_none Option.map_some Option.map_none Option.bind_some Option.some.injEq Prod.mk.injEq if_true if_false true_and and_true and_self and_false false_and Bool.and_false Bool.false_and Bool.or_true Bool.true_or Bool.or_false Bool.false_or ne_eq not_true_eq_false not_false_eq_true decide_true decide_false List.mem_cons List.not_mem_nil List.filter_cons List.filter_nil List.any_cons List.any_nil List.isEmpty_nil List.isEmpty_cons Option.getD_none or_false false_or true_or or_true forall_eq_or_imp forall_eq reduceCtorEq exists_eq exists_eq' exists_eq_left' exists_eq_left exists_eq_right exists_eq_right' imp_self implies_true Bool.and_true Bool.true_and Bool.and_self beq_self_eq_true List.replicate_succ List.replicate_zero forall_const false_implies pickB_or pickB_and beqT beqF Int.toNat_natCast List.length_map List.length_replicate ge_iff_le gt_iff_lt decide_eq_true_eq decide_eq_false_iff_not Bool.and_eq_true Bool.or_eq_true Bool.not_eq_true' Bool.not_eq_false' condG List.toList_toArray Bool.or_eq_false_iff Bool.and_eq_false_iff Int.not_lt Int.not_le beq_iff_eq beq_eq_false_iff_ne bne_iff_ne bne_eq_false_iff_eq ne_eq Bool.not_true Bool.not_false exists_and_left
attribute [local irreducible] Go.Vc.WP
attribute [local go_sem] cx0_t cx0_c
open Go.Pl
attribute [local go_sem] isV_Node isV_It isV_Entry decNode_enc decFrame_enc oneFrame_enc stkA oneFrame_ab oneNode_abc decI_enc decS_enc aU prA decEntry_enc St.ado St.adoptB St.adoptS rp isNil St.fzS
theorem ins_at {α : Type} {lt : α → α → Bool} {x : α} : ∀ {L : List α} {n : Nat}, n ≤ L.length → (∀ j (hj : j < L.length), j < n → lt L[j] x = true) → (∀ hn : n < L.length, lt L[n] x = false) → ins lt x L = L.take n ++ x :: L.drop n
  | [], n, h1, _, _ => by
    have : n = 0 := by simpa using h1
    subst this; rfl
  | y :: L, 0, _, _, h3 => by
    have := h3 (by simp)
    simp only [List.getElem_cons_zero] at this
    simp [ins, List.takeWhile, List.dropWhile, this]
  | y :: L, n + 1, h1, h2, h3 => by
    have hy := h2 0 (by simp) (by omega)
    simp only [List.getElem_cons_zero] at hy
    have ih := ins_at (lt := lt) (x := x) (L := L) (n := n) (by simpa using h1) (fun j hj hjn => h2 (j + 1) (Nat.succ_lt_succ hj) (by omega)) (fun hn => h3 (Nat.succ_lt_succ hn))
    unfold ins at ih ⊢
    simp only [List.takeWhile_cons, List.dropWhile_cons, hy, if_true, List.cons_append, List.take_succ_cons, List.drop_succ_cons, ih]
def wfQ (x : List Node × List Int) : Prop := (x.1.length ≤ 4194304 ∧ ∀ n ∈ x.1, n.name.size ≤ 4194304) ∧ x.2.length ≤ 4194304
def kEnt : Ctr := pur (fun args => prA args 0) (fun x => [.agg [.sl 3 (x.1.map encNode), .sl 1 (x.2.map encI)]]) wfQ (fun d _ => .own d) (fun d x => [(d, .sl 66 2 ((entriesOf x.1 x.2).map encEntry))])
theorem wfFr_at (N : List Node) (k : Int) : ∀ f ∈ stackAt N k, f.name.size ≤ 1099511627776 := fun f hf => by
  have h2 := (nameOk_letters (frOk_iff.1 (List.all_eq_true.1 (stackAt_ok N k) f hf)).1).2.2
  omega
/-- the entries found in the first k nodes, sorted -/
def entsK (N : List Node) (C : List Int) (k : Nat) : List Entry := insAll ltE (rawE N C k)
theorem entsK_len (N : List Node) (C : List Int) (k : Nat) : (entsK N C k).length ≤ k := by unfold entsK; rw [insAll_len]; exact rawE_len N C k
theorem entsK_zero (N : List Node) (C : List Int) : entsK N C 0 = [] := rfl
theorem entsK_skip {N : List Node} {C : List Int} {k : Nat} (hk : k < C.length) (h : C[k] = 0) : entsK N C (k + 1) = entsK N C k := by
  unfold entsK
  rw [rawE_succ, show entAt N C k = none from if_pos (by rw [List.getD_eq_getElem?_getD, List.getElem?_eq_getElem hk]; exact h)]
  simp
theorem entsK_new {N : List Node} {C : List Int} {k : Nat} (hk : k < C.length) (h : ¬ C[k] = 0) : entsK N C (k + 1) = ins ltE ⟨fmtF (stackAt N k), C[k]⟩ (entsK N C k) := by
  unfold entsK
  have e : C.getD k 0 = C[k] := by rw [List.getD_eq_getElem?_getD, List.getElem?_eq_getElem hk]; rfl
  rw [rawE_succ, show entAt N C k = some ⟨fmtF (stackAt N k), C[k]⟩ by unfold entAt; rw [e, if_neg h]]
  exact insAll_snoc _ _
section
noncomputable def cxEoS : Cx := { P := Tryz.prog, tys := tys, C := [(46, kPrOk), (91, kStackAt), (78, kFmtF)], hty := tysOk, hC := COk.cons cPrOkS (COk.cons cStackAtS (COk.cons cFmtFS (COk.nil _))) }
theorem cxEoS_t : cxEoS.tys = tys := rfl
theorem cxEoS_c : cxEoS.C = [(46, kPrOk), (91, kStackAt), (78, kFmtF)] := rfl
attribute [local go_sem] cxEoS_t cxEoS_c kPrOk kStackAt kFmtF
theorem cEntS : Cn Tryz.prog 48 kEnt := by
  refine Cn.pur Tryz.func48 (by kernel_rfl) rfl fun d x hx => ?_
  obtain ⟨N, C⟩ := x
  obtain ⟨⟨hN, hs⟩, hC⟩ := hx
  simp only at hN hs hC ⊢
  refine Holds.go (c := cxEoS) Tryz.func48 rfl Tryz.results48 Tryz.ntmps48 (by omega) (by simp) rfl ?_
  intro X0 w0
  (repeat' (first | refine WP.seq ?_ | refine WP.block ?_ | ((first | refine WP.region ?_ | refine WP.condW ?_ | refine WP.ret ?_ | refine WP.exit ?_ | refine WP.skip ?_); simp only [go_sem, tyAll, Nat.reduceAdd, Nat.reduceLT, Nat.reduceLeDiff, Nat.reduceEqDiff, Nat.reduceMul, Nat.reduceSub, Nat.reduceGT, reduceIte, Int.reduceNeg, Int.reduceToNat]) | (refine WP.flowW 12 [⟨[1], [], [], [6, 30], [], []⟩, ⟨[27], [0], [], [6, 30], [], []⟩, ⟨[5], [], [], [6, 30], [], []⟩, ⟨[28, 29], [0, 1, 2], [], [6], [], [30]⟩, ⟨[30], [0, 1, 2, 3], [], [6], [], []⟩, ⟨[1], [], [], [6, 30], [], []⟩, ⟨[32], [5], [], [6, 30], [], []⟩, ⟨[5], [], [], [6, 30], [], []⟩, ⟨[33, 34], [5, 6, 7], [], [6, 30], [], []⟩, ⟨[35], [5, 6, 7, 8], [], [6, 30], [], []⟩, ⟨[31, 36], [0, 1, 2, 3, 4, 5, 6, 7, 8, 9], [], [6], [], []⟩, ⟨[], [], [], [30], [], [6]⟩, ⟨[], [0, 1, 2, 3, 4, 5, 6, 7, 8, 9, 10, 11], [], [], [], []⟩] [6, 27, 28, 29, 30, 31, 32, 33, 34, 35, 36, 37] [6, 30] [] (by decide +kernel) (by kernel_rfl) (by kernel_rfl) (by kernel_rfl) ?_; simp only [go_sem, tyAll, Nat.reduceAdd, Nat.reduceLT, Nat.reduceLeDiff, Nat.reduceEqDiff, Nat.reduceMul, Nat.reduceSub, Nat.reduceGT, reduceIte, Int.reduceNeg, Int.reduceToNat]) | (refine WP.flowZ [3] 11 [⟨[], [], [], [58, 60, 61], [], [54]⟩, ⟨[3], [], [], [54, 58, 60, 61], [], []⟩, ⟨[7], [], [], [54, 58, 60, 61], [], []⟩, ⟨[55, 56], [1, 2], [], [54, 58, 60, 61], [], []⟩, ⟨[54, 57], [0, 1, 2, 3], [], [60, 61], [54], [58]⟩, ⟨[6], [], [54], [54, 58, 60, 61], [], []⟩, ⟨[59], [5], [54], [54, 58, 61], [], [60]⟩, ⟨[58, 60], [0, 1, 2, 3, 4, 5, 6], [54], [], [58], [61]⟩, ⟨[3], [], [54, 58], [54, 58, 60, 61], [], []⟩, ⟨[7], [], [54, 58], [54, 58, 60, 61], [], []⟩, ⟨[62, 63], [8, 9], [54, 58], [54, 58, 60, 61], [], []⟩, ⟨[], [0, 1, 2, 3, 4, 5, 6, 7, 8, 9, 10], [], [], [], []⟩, ⟨[], [0, 1, 2, 3, 4, 5, 6, 7, 8, 9, 10, 11], [], [], [], []⟩] [54, 55, 56, 57, 58, 59, 60, 61, 62, 63, 64] [54, 58, 60, 61] [54, 58] (by decide +kernel) (by kernel_rfl) (by kernel_rfl) (by kernel_rfl) ?_; simp only [go_sem, tyAll, Nat.reduceAdd, Nat.reduceLT, Nat.reduceLeDiff, Nat.reduceEqDiff, Nat.reduceMul, Nat.reduceSub, Nat.reduceGT, reduceIte, Int.reduceNeg, Int.reduceToNat]) | (refine WP.flowW 11 [⟨[], [], [], [58, 60, 61], [], [54]⟩, ⟨[3], [], [], [54, 58, 60, 61], [], []⟩, ⟨[7], [], [], [54, 58, 60, 61], [], []⟩, ⟨[55, 56], [1, 2], [], [54, 58, 60, 61], [], []⟩, ⟨[54, 57], [0, 1, 2, 3], [], [60, 61], [54], [58]⟩, ⟨[6], [], [54], [54, 58, 60, 61], [], []⟩, ⟨[59], [5], [54], [54, 58, 61], [], [60]⟩, ⟨[58, 60], [0, 1, 2, 3, 4, 5, 6], [54], [], [58], [61]⟩, ⟨[3], [], [54, 58], [54, 58, 60, 61], [], []⟩, ⟨[7], [], [54, 58], [54, 58, 60, 61], [], []⟩, ⟨[62, 63], [8, 9], [54, 58], [54, 58, 60, 61], [], []⟩, ⟨[], [0, 1, 2, 3, 4, 5, 6, 7, 8, 9, 10], [], [], [], []⟩, ⟨[], [0, 1, 2, 3, 4, 5, 6, 7, 8, 9, 10, 11], [], [], [], []⟩] [54, 55, 56, 57, 58, 59, 60, 61, 62, 63, 64] [54, 58, 60, 61] [54, 58] (by decide +kernel) (by kernel_rfl) (by kernel_rfl) (by kernel_rfl) ?_; simp only [go_sem, tyAll, Nat.reduceAdd, Nat.reduceLT, Nat.reduceLeDiff, Nat.reduceEqDiff, Nat.reduceMul, Nat.reduceSub, Nat.reduceGT, reduceIte, Int.reduceNeg, Int.reduceToNat]) | (refine WP.drawW 14 (by decide +kernel) (by kernel_rfl) ?_; simp only [go_sem, tyAll, Nat.reduceAdd, Nat.reduceLT, Nat.reduceLeDiff, Nat.reduceEqDiff, Nat.reduceMul, Nat.reduceSub, Nat.reduceGT, reduceIte, Int.reduceNeg, Int.reduceToNat]) |  refine And.intro ?_ ?_ | intro _))
  all_goals first | omega | (simp only; omega) | exact Nat.le_trans (hs _ ‹_›) (by omega) | skip
  refine WP.prep [] [(8, 61)] rfl ?_
  refine WP.loop (fun k : Nat => ⟨[(1, .ptr 1 0 0 0), (3, .own 61), (4, .v (.bool (profileOk N C))), (5, .v (.int .i64 k))], [(1, .box 35 [.sl 3 (N.map encNode), .sl 1 (C.map encI)]), (61, .sl 66 2 ((entsK N C k).map encEntry))]⟩)
    (fun k => k ≤ C.length ∧ (profileOk N C = false → k = 0)) (fun k => C.length - k) 0 (by simp) ?_ ?_
  · (simp only [go_sem, tyAll, Nat.reduceAdd, Nat.reduceLT, Nat.reduceLeDiff, Nat.reduceEqDiff, Nat.reduceMul, Nat.reduceSub, Nat.reduceGT, reduceIte, Int.reduceNeg, Int.reduceToNat] <;> (first | rfl | exact ⟨rfl, rfl⟩ | exact ⟨rfl, rfl, rfl⟩ | exact ⟨rfl, rfl, rfl, rfl⟩ | exact ⟨rfl, rfl, rfl, rfl, rfl⟩ | exact ⟨⟨rfl, rfl⟩, rfl⟩ | simp))
  intro k ⟨hk, hk0⟩
  have hlen := entsK_len N C k
  cases hp : profileOk N C with
  | false =>
    have h0 := hk0 hp
    subst h0
    have he : entriesOf N C = [] := if_neg (by rw [hp]; simp)
    (repeat' (first | refine WP.seq ?_ | refine WP.block ?_ | ((first | refine WP.region ?_ | refine WP.condW ?_ | refine WP.ret ?_ | refine WP.exit ?_ | refine WP.skip ?_); simp only [go_sem, he, entsK_zero, tyAll, Nat.reduceAdd, Nat.reduceLT, Nat.reduceLeDiff, Nat.reduceEqDiff, Nat.reduceMul, Nat.reduceSub, Nat.reduceGT, reduceIte, Int.reduceNeg, Int.reduceToNat]) | (refine WP.flowW 12 [⟨[1], [], [], [6, 30], [], []⟩, ⟨[27], [0], [], [6, 30], [], []⟩, ⟨[5], [], [], [6, 30], [], []⟩, ⟨[28, 29], [0, 1, 2], [], [6], [], [30]⟩, ⟨[30], [0, 1, 2, 3], [], [6], [], []⟩, ⟨[1], [], [], [6, 30], [], []⟩, ⟨[32], [5], [], [6, 30], [], []⟩, ⟨[5], [], [], [6, 30], [], []⟩, ⟨[33, 34], [5, 6, 7], [], [6, 30], [], []⟩, ⟨[35], [5, 6, 7, 8], [], [6, 30], [], []⟩, ⟨[31, 36], [0, 1, 2, 3, 4, 5, 6, 7, 8, 9], [], [6], [], []⟩, ⟨[], [], [], [30], [], [6]⟩, ⟨[], [0, 1, 2, 3, 4, 5, 6, 7, 8, 9, 10, 11], [], [], [], []⟩] [6, 27, 28, 29, 30, 31, 32, 33, 34, 35, 36, 37] [6, 30] [] (by decide +kernel) (by kernel_rfl) (by kernel_rfl) (by kernel_rfl) ?_; simp only [go_sem, he, entsK_zero, tyAll, Nat.reduceAdd, Nat.reduceLT, Nat.reduceLeDiff, Nat.reduceEqDiff, Nat.reduceMul, Nat.reduceSub, Nat.reduceGT, reduceIte, Int.reduceNeg, Int.reduceToNat]) | (refine WP.flowZ [3] 11 [⟨[], [], [], [58, 60, 61], [], [54]⟩, ⟨[3], [], [], [54, 58, 60, 61], [], []⟩, ⟨[7], [], [], [54, 58, 60, 61], [], []⟩, ⟨[55, 56], [1, 2], [], [54, 58, 60, 61], [], []⟩, ⟨[54, 57], [0, 1, 2, 3], [], [60, 61], [54], [58]⟩, ⟨[6], [], [54], [54, 58, 60, 61], [], []⟩, ⟨[59], [5], [54], [54, 58, 61], [], [60]⟩, ⟨[58, 60], [0, 1, 2, 3, 4, 5, 6], [54], [], [58], [61]⟩, ⟨[3], [], [54, 58], [54, 58, 60, 61], [], []⟩, ⟨[7], [], [54, 58], [54, 58, 60, 61], [], []⟩, ⟨[62, 63], [8, 9], [54, 58], [54, 58, 60, 61], [], []⟩, ⟨[], [0, 1, 2, 3, 4, 5, 6, 7, 8, 9, 10], [], [], [], []⟩, ⟨[], [0, 1, 2, 3, 4, 5, 6, 7, 8, 9, 10, 11], [], [], [], []⟩] [54, 55, 56, 57, 58, 59, 60, 61, 62, 63, 64] [54, 58, 60, 61] [54, 58] (by decide +kernel) (by kernel_rfl) (by kernel_rfl) (by kernel_rfl) ?_; simp only [go_sem, he, entsK_zero, tyAll, Nat.reduceAdd, Nat.reduceLT, Nat.reduceLeDiff, Nat.reduceEqDiff, Nat.reduceMul, Nat.reduceSub, Nat.reduceGT, reduceIte, Int.reduceNeg, Int.reduceToNat]) | (refine WP.flowW 11 [⟨[], [], [], [58, 60, 61], [], [54]⟩, ⟨[3], [], [], [54, 58, 60, 61], [], []⟩, ⟨[7], [], [], [54, 58, 60, 61], [], []⟩, ⟨[55, 56], [1, 2], [], [54, 58, 60, 61], [], []⟩, ⟨[54, 57], [0, 1, 2, 3], [], [60, 61], [54], [58]⟩, ⟨[6], [], [54], [54, 58, 60, 61], [], []⟩, ⟨[59], [5], [54], [54, 58, 61], [], [60]⟩, ⟨[58, 60], [0, 1, 2, 3, 4, 5, 6], [54], [], [58], [61]⟩, ⟨[3], [], [54, 58], [54, 58, 60, 61], [], []⟩, ⟨[7], [], [54, 58], [54, 58, 60, 61], [], []⟩, ⟨[62, 63], [8, 9], [54, 58], [54, 58, 60, 61], [], []⟩, ⟨[], [0, 1, 2, 3, 4, 5, 6, 7, 8, 9, 10], [], [], [], []⟩, ⟨[], [0, 1, 2, 3, 4, 5, 6, 7, 8, 9, 10, 11], [], [], [], []⟩] [54, 55, 56, 57, 58, 59, 60, 61, 62, 63, 64] [54, 58, 60, 61] [54, 58] (by decide +kernel) (by kernel_rfl) (by kernel_rfl) (by kernel_rfl) ?_; simp only [go_sem, he, entsK_zero, tyAll, Nat.reduceAdd, Nat.reduceLT, Nat.reduceLeDiff, Nat.reduceEqDiff, Nat.reduceMul, Nat.reduceSub, Nat.reduceGT, reduceIte, Int.reduceNeg, Int.reduceToNat]) | (refine WP.drawW 14 (by decide +kernel) (by kernel_rfl) ?_; simp only [go_sem, he, entsK_zero, tyAll, Nat.reduceAdd, Nat.reduceLT, Nat.reduceLeDiff, Nat.reduceEqDiff, Nat.reduceMul, Nat.reduceSub, Nat.reduceGT, reduceIte, Int.reduceNeg, Int.reduceToNat]) |  refine And.intro ?_ ?_ | intro _))
    all_goals first | omega | skip
  | true =>
    by_cases hlt : k < C.length
    · have hli : (k : Int) < C.length := by omega
      have h1 := rowAt_map encI C k hlt
      by_cases hz : C[k] = 0
      · have hsk := entsK_skip (N := N) hlt hz
        (repeat' (first | refine WP.seq ?_ | refine WP.block ?_ | ((first | refine WP.region ?_ | refine WP.condW ?_ | refine WP.ret ?_ | refine WP.exit ?_ | refine WP.skip ?_); simp only [go_sem, hli, h1, encI, hz, tyAll, Nat.reduceAdd, Nat.reduceLT, Nat.reduceLeDiff, Nat.reduceEqDiff, Nat.reduceMul, Nat.reduceSub, Nat.reduceGT, reduceIte, Int.reduceNeg, Int.reduceToNat]) | (refine WP.flowW 12 [⟨[1], [], [], [6, 30], [], []⟩, ⟨[27], [0], [], [6, 30], [], []⟩, ⟨[5], [], [], [6, 30], [], []⟩, ⟨[28, 29], [0, 1, 2], [], [6], [], [30]⟩, ⟨[30], [0, 1, 2, 3], [], [6], [], []⟩, ⟨[1], [], [], [6, 30], [], []⟩, ⟨[32], [5], [], [6, 30], [], []⟩, ⟨[5], [], [], [6, 30], [], []⟩, ⟨[33, 34], [5, 6, 7], [], [6, 30], [], []⟩, ⟨[35], [5, 6, 7, 8], [], [6, 30], [], []⟩, ⟨[31, 36], [0, 1, 2, 3, 4, 5, 6, 7, 8, 9], [], [6], [], []⟩, ⟨[], [], [], [30], [], [6]⟩, ⟨[], [0, 1, 2, 3, 4, 5, 6, 7, 8, 9, 10, 11], [], [], [], []⟩] [6, 27, 28, 29, 30, 31, 32, 33, 34, 35, 36, 37] [6, 30] [] (by decide +kernel) (by kernel_rfl) (by kernel_rfl) (by kernel_rfl) ?_; simp only [go_sem, hli, h1, encI, hz, tyAll, Nat.reduceAdd, Nat.reduceLT, Nat.reduceLeDiff, Nat.reduceEqDiff, Nat.reduceMul, Nat.reduceSub, Nat.reduceGT, reduceIte, Int.reduceNeg, Int.reduceToNat]) | (refine WP.flowZ [3] 11 [⟨[], [], [], [58, 60, 61], [], [54]⟩, ⟨[3], [], [], [54, 58, 60, 61], [], []⟩, ⟨[7], [], [], [54, 58, 60, 61], [], []⟩, ⟨[55, 56], [1, 2], [], [54, 58, 60, 61], [], []⟩, ⟨[54, 57], [0, 1, 2, 3], [], [60, 61], [54], [58]⟩, ⟨[6], [], [54], [54, 58, 60, 61], [], []⟩, ⟨[59], [5], [54], [54, 58, 61], [], [60]⟩, ⟨[58, 60], [0, 1, 2, 3, 4, 5, 6], [54], [], [58], [61]⟩, ⟨[3], [], [54, 58], [54, 58, 60, 61], [], []⟩, ⟨[7], [], [54, 58], [54, 58, 60, 61], [], []⟩, ⟨[62, 63], [8, 9], [54, 58], [54, 58, 60, 61], [], []⟩, ⟨[], [0, 1, 2, 3, 4, 5, 6, 7, 8, 9, 10], [], [], [], []⟩, ⟨[], [0, 1, 2, 3, 4, 5, 6, 7, 8, 9, 10, 11], [], [], [], []⟩] [54, 55, 56, 57, 58, 59, 60, 61, 62, 63, 64] [54, 58, 60, 61] [54, 58] (by decide +kernel) (by kernel_rfl) (by kernel_rfl) (by kernel_rfl) ?_; simp only [go_sem, hli, h1, encI, hz, tyAll, Nat.reduceAdd, Nat.reduceLT, Nat.reduceLeDiff, Nat.reduceEqDiff, Nat.reduceMul, Nat.reduceSub, Nat.reduceGT, reduceIte, Int.reduceNeg, Int.reduceToNat]) | (refine WP.flowW 11 [⟨[], [], [], [58, 60, 61], [], [54]⟩, ⟨[3], [], [], [54, 58, 60, 61], [], []⟩, ⟨[7], [], [], [54, 58, 60, 61], [], []⟩, ⟨[55, 56], [1, 2], [], [54, 58, 60, 61], [], []⟩, ⟨[54, 57], [0, 1, 2, 3], [], [60, 61], [54], [58]⟩, ⟨[6], [], [54], [54, 58, 60, 61], [], []⟩, ⟨[59], [5], [54], [54, 58, 61], [], [60]⟩, ⟨[58, 60], [0, 1, 2, 3, 4, 5, 6], [54], [], [58], [61]⟩, ⟨[3], [], [54, 58], [54, 58, 60, 61], [], []⟩, ⟨[7], [], [54, 58], [54, 58, 60, 61], [], []⟩, ⟨[62, 63], [8, 9], [54, 58], [54, 58, 60, 61], [], []⟩, ⟨[], [0, 1, 2, 3, 4, 5, 6, 7, 8, 9, 10], [], [], [], []⟩, ⟨[], [0, 1, 2, 3, 4, 5, 6, 7, 8, 9, 10, 11], [], [], [], []⟩] [54, 55, 56, 57, 58, 59, 60, 61, 62, 63, 64] [54, 58, 60, 61] [54, 58] (by decide +kernel) (by kernel_rfl) (by kernel_rfl) (by kernel_rfl) ?_; simp only [go_sem, hli, h1, encI, hz, tyAll, Nat.reduceAdd, Nat.reduceLT, Nat.reduceLeDiff, Nat.reduceEqDiff, Nat.reduceMul, Nat.reduceSub, Nat.reduceGT, reduceIte, Int.reduceNeg, Int.reduceToNat]) | (refine WP.drawW 14 (by decide +kernel) (by kernel_rfl) ?_; simp only [go_sem, hli, h1, encI, hz, tyAll, Nat.reduceAdd, Nat.reduceLT, Nat.reduceLeDiff, Nat.reduceEqDiff, Nat.reduceMul, Nat.reduceSub, Nat.reduceGT, reduceIte, Int.reduceNeg, Int.reduceToNat]) |  refine And.intro ?_ ?_ | intro _))
        all_goals first | omega | skip
        exact ⟨k + 1, by omega, by omega, rfl, by rw [hsk]⟩
      · have hnw := entsK_new (N := N) hlt hz
        have hfr := wfFr_at N k
        have hsl := stackAt_len N k
        (repeat' (first | refine WP.seq ?_ | refine WP.block ?_ | ((first | refine WP.region ?_ | refine WP.condW ?_ | refine WP.ret ?_ | refine WP.exit ?_ | refine WP.skip ?_); simp only [go_sem, hli, h1, encI, hz, tyAll, Nat.reduceAdd, Nat.reduceLT, Nat.reduceLeDiff, Nat.reduceEqDiff, Nat.reduceMul, Nat.reduceSub, Nat.reduceGT, reduceIte, Int.reduceNeg, Int.reduceToNat]) | (refine WP.flowW 12 [⟨[1], [], [], [6, 30], [], []⟩, ⟨[27], [0], [], [6, 30], [], []⟩, ⟨[5], [], [], [6, 30], [], []⟩, ⟨[28, 29], [0, 1, 2], [], [6], [], [30]⟩, ⟨[30], [0, 1, 2, 3], [], [6], [], []⟩, ⟨[1], [], [], [6, 30], [], []⟩, ⟨[32], [5], [], [6, 30], [], []⟩, ⟨[5], [], [], [6, 30], [], []⟩, ⟨[33, 34], [5, 6, 7], [], [6, 30], [], []⟩, ⟨[35], [5, 6, 7, 8], [], [6, 30], [], []⟩, ⟨[31, 36], [0, 1, 2, 3, 4, 5, 6, 7, 8, 9], [], [6], [], []⟩, ⟨[], [], [], [30], [], [6]⟩, ⟨[], [0, 1, 2, 3, 4, 5, 6, 7, 8, 9, 10, 11], [], [], [], []⟩] [6, 27, 28, 29, 30, 31, 32, 33, 34, 35, 36, 37] [6, 30] [] (by decide +kernel) (by kernel_rfl) (by kernel_rfl) (by kernel_rfl) ?_; simp only [go_sem, hli, h1, encI, hz, tyAll, Nat.reduceAdd, Nat.reduceLT, Nat.reduceLeDiff, Nat.reduceEqDiff, Nat.reduceMul, Nat.reduceSub, Nat.reduceGT, reduceIte, Int.reduceNeg, Int.reduceToNat]) | (refine WP.flowZ [3] 11 [⟨[], [], [], [58, 60, 61], [], [54]⟩, ⟨[3], [], [], [54, 58, 60, 61], [], []⟩, ⟨[7], [], [], [54, 58, 60, 61], [], []⟩, ⟨[55, 56], [1, 2], [], [54, 58, 60, 61], [], []⟩, ⟨[54, 57], [0, 1, 2, 3], [], [60, 61], [54], [58]⟩, ⟨[6], [], [54], [54, 58, 60, 61], [], []⟩, ⟨[59], [5], [54], [54, 58, 61], [], [60]⟩, ⟨[58, 60], [0, 1, 2, 3, 4, 5, 6], [54], [], [58], [61]⟩, ⟨[3], [], [54, 58], [54, 58, 60, 61], [], []⟩, ⟨[7], [], [54, 58], [54, 58, 60, 61], [], []⟩, ⟨[62, 63], [8, 9], [54, 58], [54, 58, 60, 61], [], []⟩, ⟨[], [0, 1, 2, 3, 4, 5, 6, 7, 8, 9, 10], [], [], [], []⟩, ⟨[], [0, 1, 2, 3, 4, 5, 6, 7, 8, 9, 10, 11], [], [], [], []⟩] [54, 55, 56, 57, 58, 59, 60, 61, 62, 63, 64] [54, 58, 60, 61] [54, 58] (by decide +kernel) (by kernel_rfl) (by kernel_rfl) (by kernel_rfl) ?_; simp only [go_sem, hli, h1, encI, hz, tyAll, Nat.reduceAdd, Nat.reduceLT, Nat.reduceLeDiff, Nat.reduceEqDiff, Nat.reduceMul, Nat.reduceSub, Nat.reduceGT, reduceIte, Int.reduceNeg, Int.reduceToNat]) | (refine WP.flowW 11 [⟨[], [], [], [58, 60, 61], [], [54]⟩, ⟨[3], [], [], [54, 58, 60, 61], [], []⟩, ⟨[7], [], [], [54, 58, 60, 61], [], []⟩, ⟨[55, 56], [1, 2], [], [54, 58, 60, 61], [], []⟩, ⟨[54, 57], [0, 1, 2, 3], [], [60, 61], [54], [58]⟩, ⟨[6], [], [54], [54, 58, 60, 61], [], []⟩, ⟨[59], [5], [54], [54, 58, 61], [], [60]⟩, ⟨[58, 60], [0, 1, 2, 3, 4, 5, 6], [54], [], [58], [61]⟩, ⟨[3], [], [54, 58], [54, 58, 60, 61], [], []⟩, ⟨[7], [], [54, 58], [54, 58, 60, 61], [], []⟩, ⟨[62, 63], [8, 9], [54, 58], [54, 58, 60, 61], [], []⟩, ⟨[], [0, 1, 2, 3, 4, 5, 6, 7, 8, 9, 10], [], [], [], []⟩, ⟨[], [0, 1, 2, 3, 4, 5, 6, 7, 8, 9, 10, 11], [], [], [], []⟩] [54, 55, 56, 57, 58, 59, 60, 61, 62, 63, 64] [54, 58, 60, 61] [54, 58] (by decide +kernel) (by kernel_rfl) (by kernel_rfl) (by kernel_rfl) ?_; simp only [go_sem, hli, h1, encI, hz, tyAll, Nat.reduceAdd, Nat.reduceLT, Nat.reduceLeDiff, Nat.reduceEqDiff, Nat.reduceMul, Nat.reduceSub, Nat.reduceGT, reduceIte, Int.reduceNeg, Int.reduceToNat]) | (refine WP.drawW 14 (by decide +kernel) (by kernel_rfl) ?_; simp only [go_sem, hli, h1, encI, hz, tyAll, Nat.reduceAdd, Nat.reduceLT, Nat.reduceLeDiff, Nat.reduceEqDiff, Nat.reduceMul, Nat.reduceSub, Nat.reduceGT, reduceIte, Int.reduceNeg, Int.reduceToNat]) |  refine And.intro ?_ ?_ | intro _))
        all_goals first | omega | (simp only; omega) | exact Nat.le_trans (hs _ ‹_›) (by omega) | exact hfr _ ‹_› | exact ⟨_, _, _, rfl⟩ | skip
        refine WP.loop (fun q : Nat => ⟨[(1, .ptr 1 0 0 0), (3, .own 61), (4, .v (.bool true)), (5, .v (.int .i64 k)), (6, .ptr 6 0 0 0), (7, .v (.int .i64 q))],
          [(1, .box 35 [.sl 3 (N.map encNode), .sl 1 (C.map encI)]), (6, .box 66 [.v (.string (fmtF (stackAt N k))), .v (.int .i64 C[k])]), (61, .sl 66 2 ((entsK N C k).map encEntry))]⟩)
          (fun q => q ≤ (entsK N C k).length ∧ ∀ j (hj : j < (entsK N C k).length), j < q → ltE (entsK N C k)[j] ⟨fmtF (stackAt N k), C[k]⟩ = true) (fun q => (entsK N C k).length - q) 0 (by simp) ?_ ?_
        · (simp only [go_sem, tyAll, Nat.reduceAdd, Nat.reduceLT, Nat.reduceLeDiff, Nat.reduceEqDiff, Nat.reduceMul, Nat.reduceSub, Nat.reduceGT, reduceIte, Int.reduceNeg, Int.reduceToNat] <;> (first | rfl | exact ⟨rfl, rfl⟩ | exact ⟨rfl, rfl, rfl⟩ | exact ⟨rfl, rfl, rfl, rfl⟩ | exact ⟨rfl, rfl, rfl, rfl, rfl⟩ | exact ⟨⟨rfl, rfl⟩, rfl⟩ | simp))
        intro q ⟨hq, hf⟩
        by_cases hql : q < (entsK N C k).length
        · have hqi : (q : Int) < (entsK N C k).length := by omega
          have h2 := rowAt_map encEntry (entsK N C k) q hql
          cases hl : ltS (entsK N C k)[q].stack (fmtF (stackAt N k)) with
          | true =>
            (repeat' (first | refine WP.seq ?_ | refine WP.block ?_ | ((first | refine WP.region ?_ | refine WP.condW ?_ | refine WP.ret ?_ | refine WP.exit ?_ | refine WP.skip ?_); simp only [go_sem, hqi, h2, encEntry, ltS_def, hl, tyAll, Nat.reduceAdd, Nat.reduceLT, Nat.reduceLeDiff, Nat.reduceEqDiff, Nat.reduceMul, Nat.reduceSub, Nat.reduceGT, reduceIte, Int.reduceNeg, Int.reduceToNat]) | (refine WP.flowW 12 [⟨[1], [], [], [6, 30], [], []⟩, ⟨[27], [0], [], [6, 30], [], []⟩, ⟨[5], [], [], [6, 30], [], []⟩, ⟨[28, 29], [0, 1, 2], [], [6], [], [30]⟩, ⟨[30], [0, 1, 2, 3], [], [6], [], []⟩, ⟨[1], [], [], [6, 30], [], []⟩, ⟨[32], [5], [], [6, 30], [], []⟩, ⟨[5], [], [], [6, 30], [], []⟩, ⟨[33, 34], [5, 6, 7], [], [6, 30], [], []⟩, ⟨[35], [5, 6, 7, 8], [], [6, 30], [], []⟩, ⟨[31, 36], [0, 1, 2, 3, 4, 5, 6, 7, 8, 9], [], [6], [], []⟩, ⟨[], [], [], [30], [], [6]⟩, ⟨[], [0, 1, 2, 3, 4, 5, 6, 7, 8, 9, 10, 11], [], [], [], []⟩] [6, 27, 28, 29, 30, 31, 32, 33, 34, 35, 36, 37] [6, 30] [] (by decide +kernel) (by kernel_rfl) (by kernel_rfl) (by kernel_rfl) ?_; simp only [go_sem, hqi, h2, encEntry, ltS_def, hl, tyAll, Nat.reduceAdd, Nat.reduceLT, Nat.reduceLeDiff, Nat.reduceEqDiff, Nat.reduceMul, Nat.reduceSub, Nat.reduceGT, reduceIte, Int.reduceNeg, Int.reduceToNat]) | (refine WP.flowZ [3] 11 [⟨[], [], [], [58, 60, 61], [], [54]⟩, ⟨[3], [], [], [54, 58, 60, 61], [], []⟩, ⟨[7], [], [], [54, 58, 60, 61], [], []⟩, ⟨[55, 56], [1, 2], [], [54, 58, 60, 61], [], []⟩, ⟨[54, 57], [0, 1, 2, 3], [], [60, 61], [54], [58]⟩, ⟨[6], [], [54], [54, 58, 60, 61], [], []⟩, ⟨[59], [5], [54], [54, 58, 61], [], [60]⟩, ⟨[58, 60], [0, 1, 2, 3, 4, 5, 6], [54], [], [58], [61]⟩, ⟨[3], [], [54, 58], [54, 58, 60, 61], [], []⟩, ⟨[7], [], [54, 58], [54, 58, 60, 61], [], []⟩, ⟨[62, 63], [8, 9], [54, 58], [54, 58, 60, 61], [], []⟩, ⟨[], [0, 1, 2, 3, 4, 5, 6, 7, 8, 9, 10], [], [], [], []⟩, ⟨[], [0, 1, 2, 3, 4, 5, 6, 7, 8, 9, 10, 11], [], [], [], []⟩] [54, 55, 56, 57, 58, 59, 60, 61, 62, 63, 64] [54, 58, 60, 61] [54, 58] (by decide +kernel) (by kernel_rfl) (by kernel_rfl) (by kernel_rfl) ?_; simp only [go_sem, hqi, h2, encEntry, ltS_def, hl, tyAll, Nat.reduceAdd, Nat.reduceLT, Nat.reduceLeDiff, Nat.reduceEqDiff, Nat.reduceMul, Nat.reduceSub, Nat.reduceGT, reduceIte, Int.reduceNeg, Int.reduceToNat]) | (refine WP.flowW 11 [⟨[], [], [], [58, 60, 61], [], [54]⟩, ⟨[3], [], [], [54, 58, 60, 61], [], []⟩, ⟨[7], [], [], [54, 58, 60, 61], [], []⟩, ⟨[55, 56], [1, 2], [], [54, 58, 60, 61], [], []⟩, ⟨[54, 57], [0, 1, 2, 3], [], [60, 61], [54], [58]⟩, ⟨[6], [], [54], [54, 58, 60, 61], [], []⟩, ⟨[59], [5], [54], [54, 58, 61], [], [60]⟩, ⟨[58, 60], [0, 1, 2, 3, 4, 5, 6], [54], [], [58], [61]⟩, ⟨[3], [], [54, 58], [54, 58, 60, 61], [], []⟩, ⟨[7], [], [54, 58], [54, 58, 60, 61], [], []⟩, ⟨[62, 63], [8, 9], [54, 58], [54, 58, 60, 61], [], []⟩, ⟨[], [0, 1, 2, 3, 4, 5, 6, 7, 8, 9, 10], [], [], [], []⟩, ⟨[], [0, 1, 2, 3, 4, 5, 6, 7, 8, 9, 10, 11], [], [], [], []⟩] [54, 55, 56, 57, 58, 59, 60, 61, 62, 63, 64] [54, 58, 60, 61] [54, 58] (by decide +kernel) (by kernel_rfl) (by kernel_rfl) (by kernel_rfl) ?_; simp only [go_sem, hqi, h2, encEntry, ltS_def, hl, tyAll, Nat.reduceAdd, Nat.reduceLT, Nat.reduceLeDiff, Nat.reduceEqDiff, Nat.reduceMul, Nat.reduceSub, Nat.reduceGT, reduceIte, Int.reduceNeg, Int.reduceToNat]) | (refine WP.drawW 14 (by decide +kernel) (by kernel_rfl) ?_; simp only [go_sem, hqi, h2, encEntry, ltS_def, hl, tyAll, Nat.reduceAdd, Nat.reduceLT, Nat.reduceLeDiff, Nat.reduceEqDiff, Nat.reduceMul, Nat.reduceSub, Nat.reduceGT, reduceIte, Int.reduceNeg, Int.reduceToNat]) |  refine And.intro ?_ ?_ | intro _))
            all_goals first | omega | skip
            refine ⟨q + 1, ⟨by omega, fun j hj hjq => ?_⟩, by omega, by (first | rfl | exact ⟨rfl, rfl⟩ | exact ⟨rfl, rfl, rfl⟩ | exact ⟨rfl, rfl, rfl, rfl⟩ | exact ⟨rfl, rfl, rfl, rfl, rfl⟩ | exact ⟨⟨rfl, rfl⟩, rfl⟩ | simp)⟩
            rcases Nat.lt_or_ge j q with h | h
            · exact hf j hj h
            · have : j = q := by omega
              subst this; exact hl
          | false =>
            have hin := ins_at (lt := ltE) (x := ⟨fmtF (stackAt N k), C[k]⟩) hq hf (fun _ => hl)
            (repeat' (first | refine WP.seq ?_ | refine WP.block ?_ | ((first | refine WP.region ?_ | refine WP.condW ?_ | refine WP.ret ?_ | refine WP.exit ?_ | refine WP.skip ?_); simp only [go_sem, hqi, h2, encEntry, ltS_def, hl, tyAll, Nat.reduceAdd, Nat.reduceLT, Nat.reduceLeDiff, Nat.reduceEqDiff, Nat.reduceMul, Nat.reduceSub, Nat.reduceGT, reduceIte, Int.reduceNeg, Int.reduceToNat]) | (refine WP.flowW 12 [⟨[1], [], [], [6, 30], [], []⟩, ⟨[27], [0], [], [6, 30], [], []⟩, ⟨[5], [], [], [6, 30], [], []⟩, ⟨[28, 29], [0, 1, 2], [], [6], [], [30]⟩, ⟨[30], [0, 1, 2, 3], [], [6], [], []⟩, ⟨[1], [], [], [6, 30], [], []⟩, ⟨[32], [5], [], [6, 30], [], []⟩, ⟨[5], [], [], [6, 30], [], []⟩, ⟨[33, 34], [5, 6, 7], [], [6, 30], [], []⟩, ⟨[35], [5, 6, 7, 8], [], [6, 30], [], []⟩, ⟨[31, 36], [0, 1, 2, 3, 4, 5, 6, 7, 8, 9], [], [6], [], []⟩, ⟨[], [], [], [30], [], [6]⟩, ⟨[], [0, 1, 2, 3, 4, 5, 6, 7, 8, 9, 10, 11], [], [], [], []⟩] [6, 27, 28, 29, 30, 31, 32, 33, 34, 35, 36, 37] [6, 30] [] (by decide +kernel) (by kernel_rfl) (by kernel_rfl) (by kernel_rfl) ?_; simp only [go_sem, hqi, h2, encEntry, ltS_def, hl, tyAll, Nat.reduceAdd, Nat.reduceLT, Nat.reduceLeDiff, Nat.reduceEqDiff, Nat.reduceMul, Nat.reduceSub, Nat.reduceGT, reduceIte, Int.reduceNeg, Int.reduceToNat]) | (refine WP.flowZ [3] 11 [⟨[], [], [], [58, 60, 61], [], [54]⟩, ⟨[3], [], [], [54, 58, 60, 61], [], []⟩, ⟨[7], [], [], [54, 58, 60, 61], [], []⟩, ⟨[55, 56], [1, 2], [], [54, 58, 60, 61], [], []⟩, ⟨[54, 57], [0, 1, 2, 3], [], [60, 61], [54], [58]⟩, ⟨[6], [], [54], [54, 58, 60, 61], [], []⟩, ⟨[59], [5], [54], [54, 58, 61], [], [60]⟩, ⟨[58, 60], [0, 1, 2, 3, 4, 5, 6], [54], [], [58], [61]⟩, ⟨[3], [], [54, 58], [54, 58, 60, 61], [], []⟩, ⟨[7], [], [54, 58], [54, 58, 60, 61], [], []⟩, ⟨[62, 63], [8, 9], [54, 58], [54, 58, 60, 61], [], []⟩, ⟨[], [0, 1, 2, 3, 4, 5, 6, 7, 8, 9, 10], [], [], [], []⟩, ⟨[], [0, 1, 2, 3, 4, 5, 6, 7, 8, 9, 10, 11], [], [], [], []⟩] [54, 55, 56, 57, 58, 59, 60, 61, 62, 63, 64] [54, 58, 60, 61] [54, 58] (by decide +kernel) (by kernel_rfl) (by kernel_rfl) (by kernel_rfl) ?_; simp only [go_sem, hqi, h2, encEntry, ltS_def, hl, tyAll, Nat.reduceAdd, Nat.reduceLT, Nat.reduceLeDiff, Nat.reduceEqDiff, Nat.reduceMul, Nat.reduceSub, Nat.reduceGT, reduceIte, Int.reduceNeg, Int.reduceToNat]) | (refine WP.flowW 11 [⟨[], [], [], [58, 60, 61], [], [54]⟩, ⟨[3], [], [], [54, 58, 60, 61], [], []⟩, ⟨[7], [], [], [54, 58, 60, 61], [], []⟩, ⟨[55, 56], [1, 2], [], [54, 58, 60, 61], [], []⟩, ⟨[54, 57], [0, 1, 2, 3], [], [60, 61], [54], [58]⟩, ⟨[6], [], [54], [54, 58, 60, 61], [], []⟩, ⟨[59], [5], [54], [54, 58, 61], [], [60]⟩, ⟨[58, 60], [0, 1, 2, 3, 4, 5, 6], [54], [], [58], [61]⟩, ⟨[3], [], [54, 58], [54, 58, 60, 61], [], []⟩, ⟨[7], [], [54, 58], [54, 58, 60, 61], [], []⟩, ⟨[62, 63], [8, 9], [54, 58], [54, 58, 60, 61], [], []⟩, ⟨[], [0, 1, 2, 3, 4, 5, 6, 7, 8, 9, 10], [], [], [], []⟩, ⟨[], [0, 1, 2, 3, 4, 5, 6, 7, 8, 9, 10, 11], [], [], [], []⟩] [54, 55, 56, 57, 58, 59, 60, 61, 62, 63, 64] [54, 58, 60, 61] [54, 58] (by decide +kernel) (by kernel_rfl) (by kernel_rfl) (by kernel_rfl) ?_; simp only [go_sem, hqi, h2, encEntry, ltS_def, hl, tyAll, Nat.reduceAdd, Nat.reduceLT, Nat.reduceLeDiff, Nat.reduceEqDiff, Nat.reduceMul, Nat.reduceSub, Nat.reduceGT, reduceIte, Int.reduceNeg, Int.reduceToNat]) | (refine WP.drawW 14 (by decide +kernel) (by kernel_rfl) ?_; simp only [go_sem, hqi, h2, encEntry, ltS_def, hl, tyAll, Nat.reduceAdd, Nat.reduceLT, Nat.reduceLeDiff, Nat.reduceEqDiff, Nat.reduceMul, Nat.reduceSub, Nat.reduceGT, reduceIte, Int.reduceNeg, Int.reduceToNat]) |  refine And.intro ?_ ?_ | intro _))
            all_goals first | omega | exact rlEntry (List.mem_of_mem_take ‹_›) | exact rlEntry (List.mem_of_mem_drop ‹_›) | (simp only [List.length_append, List.length_take, List.length_drop, List.length_map, List.length_cons, List.length_nil]; omega) | skip
            exact ⟨k + 1, by omega, by omega, rfl, by rw [hnw, hin, List.map_append, List.map_cons, List.map_take, List.map_drop]; simp [encEntry]⟩
        · have hqe : ¬ (q : Int) < (entsK N C k).length := by omega
          have hin := ins_at (lt := ltE) (x := ⟨fmtF (stackAt N k), C[k]⟩) hq hf (fun h => absurd h hql)
          have hr0 : Go.Vc.rowAt ((entsK N C k).map encEntry) q = [] := by unfold Go.Vc.rowAt; rw [List.getElem?_eq_none (by rw [List.length_map]; omega)]; rfl
          (repeat' (first | refine WP.seq ?_ | refine WP.block ?_ | ((first | refine WP.region ?_ | refine WP.condW ?_ | refine WP.ret ?_ | refine WP.exit ?_ | refine WP.skip ?_); simp only [go_sem, hqe, hr0, tyAll, Nat.reduceAdd, Nat.reduceLT, Nat.reduceLeDiff, Nat.reduceEqDiff, Nat.reduceMul, Nat.reduceSub, Nat.reduceGT, reduceIte, Int.reduceNeg, Int.reduceToNat]) | (refine WP.flowW 12 [⟨[1], [], [], [6, 30], [], []⟩, ⟨[27], [0], [], [6, 30], [], []⟩, ⟨[5], [], [], [6, 30], [], []⟩, ⟨[28, 29], [0, 1, 2], [], [6], [], [30]⟩, ⟨[30], [0, 1, 2, 3], [], [6], [], []⟩, ⟨[1], [], [], [6, 30], [], []⟩, ⟨[32], [5], [], [6, 30], [], []⟩, ⟨[5], [], [], [6, 30], [], []⟩, ⟨[33, 34], [5, 6, 7], [], [6, 30], [], []⟩, ⟨[35], [5, 6, 7, 8], [], [6, 30], [], []⟩, ⟨[31, 36], [0, 1, 2, 3, 4, 5, 6, 7, 8, 9], [], [6], [], []⟩, ⟨[], [], [], [30], [], [6]⟩, ⟨[], [0, 1, 2, 3, 4, 5, 6, 7, 8, 9, 10, 11], [], [], [], []⟩] [6, 27, 28, 29, 30, 31, 32, 33, 34, 35, 36, 37] [6, 30] [] (by decide +kernel) (by kernel_rfl) (by kernel_rfl) (by kernel_rfl) ?_; simp only [go_sem, hqe, hr0, tyAll, Nat.reduceAdd, Nat.reduceLT, Nat.reduceLeDiff, Nat.reduceEqDiff, Nat.reduceMul, Nat.reduceSub, Nat.reduceGT, reduceIte, Int.reduceNeg, Int.reduceToNat]) | (refine WP.flowZ [3] 11 [⟨[], [], [], [58, 60, 61], [], [54]⟩, ⟨[3], [], [], [54, 58, 60, 61], [], []⟩, ⟨[7], [], [], [54, 58, 60, 61], [], []⟩, ⟨[55, 56], [1, 2], [], [54, 58, 60, 61], [], []⟩, ⟨[54, 57], [0, 1, 2, 3], [], [60, 61], [54], [58]⟩, ⟨[6], [], [54], [54, 58, 60, 61], [], []⟩, ⟨[59], [5], [54], [54, 58, 61], [], [60]⟩, ⟨[58, 60], [0, 1, 2, 3, 4, 5, 6], [54], [], [58], [61]⟩, ⟨[3], [], [54, 58], [54, 58, 60, 61], [], []⟩, ⟨[7], [], [54, 58], [54, 58, 60, 61], [], []⟩, ⟨[62, 63], [8, 9], [54, 58], [54, 58, 60, 61], [], []⟩, ⟨[], [0, 1, 2, 3, 4, 5, 6, 7, 8, 9, 10], [], [], [], []⟩, ⟨[], [0, 1, 2, 3, 4, 5, 6, 7, 8, 9, 10, 11], [], [], [], []⟩] [54, 55, 56, 57, 58, 59, 60, 61, 62, 63, 64] [54, 58, 60, 61] [54, 58] (by decide +kernel) (by kernel_rfl) (by kernel_rfl) (by kernel_rfl) ?_; simp only [go_sem, hqe, hr0, tyAll, Nat.reduceAdd, Nat.reduceLT, Nat.reduceLeDiff, Nat.reduceEqDiff, Nat.reduceMul, Nat.reduceSub, Nat.reduceGT, reduceIte, Int.reduceNeg, Int.reduceToNat]) | (refine WP.flowW 11 [⟨[], [], [], [58, 60, 61], [], [54]⟩, ⟨[3], [], [], [54, 58, 60, 61], [], []⟩, ⟨[7], [], [], [54, 58, 60, 61], [], []⟩, ⟨[55, 56], [1, 2], [], [54, 58, 60, 61], [], []⟩, ⟨[54, 57], [0, 1, 2, 3], [], [60, 61], [54], [58]⟩, ⟨[6], [], [54], [54, 58, 60, 61], [], []⟩, ⟨[59], [5], [54], [54, 58, 61], [], [60]⟩, ⟨[58, 60], [0, 1, 2, 3, 4, 5, 6], [54], [], [58], [61]⟩, ⟨[3], [], [54, 58], [54, 58, 60, 61], [], []⟩, ⟨[7], [], [54, 58], [54, 58, 60, 61], [], []⟩, ⟨[62, 63], [8, 9], [54, 58], [54, 58, 60, 61], [], []⟩, ⟨[], [0, 1, 2, 3, 4, 5, 6, 7, 8, 9, 10], [], [], [], []⟩, ⟨[], [0, 1, 2, 3, 4, 5, 6, 7, 8, 9, 10, 11], [], [], [], []⟩] [54, 55, 56, 57, 58, 59, 60, 61, 62, 63, 64] [54, 58, 60, 61] [54, 58] (by decide +kernel) (by kernel_rfl) (by kernel_rfl) (by kernel_rfl) ?_; simp only [go_sem, hqe, hr0, tyAll, Nat.reduceAdd, Nat.reduceLT, Nat.reduceLeDiff, Nat.reduceEqDiff, Nat.reduceMul, Nat.reduceSub, Nat.reduceGT, reduceIte, Int.reduceNeg, Int.reduceToNat]) | (refine WP.drawW 14 (by decide +kernel) (by kernel_rfl) ?_; simp only [go_sem, hqe, hr0, tyAll, Nat.reduceAdd, Nat.reduceLT, Nat.reduceLeDiff, Nat.reduceEqDiff, Nat.reduceMul, Nat.reduceSub, Nat.reduceGT, reduceIte, Int.reduceNeg, Int.reduceToNat]) |  refine And.intro ?_ ?_ | intro _))
          all_goals first | omega | exact rlEntry (List.mem_of_mem_take ‹_›) | exact rlEntry (List.mem_of_mem_drop ‹_›) | (simp only [List.length_append, List.length_take, List.length_drop, List.length_map, List.length_cons, List.length_nil]; omega) | skip
          exact ⟨k + 1, by omega, by omega, rfl, by rw [hnw, hin, List.map_append, List.map_cons, List.map_take, List.map_drop]; simp [encEntry]⟩
    · have hge : ¬ (k : Int) < C.length := by omega
      have he : entriesOf N C = entsK N C C.length := if_pos hp
      (repeat' (first | refine WP.seq ?_ | refine WP.block ?_ | ((first | refine WP.region ?_ | refine WP.condW ?_ | refine WP.ret ?_ | refine WP.exit ?_ | refine WP.skip ?_); simp only [go_sem, hge, he, tyAll, Nat.reduceAdd, Nat.reduceLT, Nat.reduceLeDiff, Nat.reduceEqDiff, Nat.reduceMul, Nat.reduceSub, Nat.reduceGT, reduceIte, Int.reduceNeg, Int.reduceToNat]) | (refine WP.flowW 12 [⟨[1], [], [], [6, 30], [], []⟩, ⟨[27], [0], [], [6, 30], [], []⟩, ⟨[5], [], [], [6, 30], [], []⟩, ⟨[28, 29], [0, 1, 2], [], [6], [], [30]⟩, ⟨[30], [0, 1, 2, 3], [], [6], [], []⟩, ⟨[1], [], [], [6, 30], [], []⟩, ⟨[32], [5], [], [6, 30], [], []⟩, ⟨[5], [], [], [6, 30], [], []⟩, ⟨[33, 34], [5, 6, 7], [], [6, 30], [], []⟩, ⟨[35], [5, 6, 7, 8], [], [6, 30], [], []⟩, ⟨[31, 36], [0, 1, 2, 3, 4, 5, 6, 7, 8, 9], [], [6], [], []⟩, ⟨[], [], [], [30], [], [6]⟩, ⟨[], [0, 1, 2, 3, 4, 5, 6, 7, 8, 9, 10, 11], [], [], [], []⟩] [6, 27, 28, 29, 30, 31, 32, 33, 34, 35, 36, 37] [6, 30] [] (by decide +kernel) (by kernel_rfl) (by kernel_rfl) (by kernel_rfl) ?_; simp only [go_sem, hge, he, tyAll, Nat.reduceAdd, Nat.reduceLT, Nat.reduceLeDiff, Nat.reduceEqDiff, Nat.reduceMul, Nat.reduceSub, Nat.reduceGT, reduceIte, Int.reduceNeg, Int.reduceToNat]) | (refine WP.flowZ [3] 11 [⟨[], [], [], [58, 60, 61], [], [54]⟩, ⟨[3], [], [], [54, 58, 60, 61], [], []⟩, ⟨[7], [], [], [54, 58, 60, 61], [], []⟩, ⟨[55, 56], [1, 2], [], [54, 58, 60, 61], [], []⟩, ⟨[54, 57], [0, 1, 2, 3], [], [60, 61], [54], [58]⟩, ⟨[6], [], [54], [54, 58, 60, 61], [], []⟩, ⟨[59], [5], [54], [54, 58, 61], [], [60]⟩, ⟨[58, 60], [0, 1, 2, 3, 4, 5, 6], [54], [], [58], [61]⟩, ⟨[3], [], [54, 58], [54, 58, 60, 61], [], []⟩, ⟨[7], [], [54, 58], [54, 58, 60, 61], [], []⟩, ⟨[62, 63], [8, 9], [54, 58], [54, 58, 60, 61], [], []⟩, ⟨[], [0, 1, 2, 3, 4, 5, 6, 7, 8, 9, 10], [], [], [], []⟩, ⟨[], [0, 1, 2, 3, 4, 5, 6, 7, 8, 9, 10, 11], [], [], [], []⟩] [54, 55, 56, 57, 58, 59, 60, 61, 62, 63, 64] [54, 58, 60, 61] [54, 58] (by decide +kernel) (by kernel_rfl) (by kernel_rfl) (by kernel_rfl) ?_; simp only [go_sem, hge, he, tyAll, Nat.reduceAdd, Nat.reduceLT, Nat.reduceLeDiff, Nat.reduceEqDiff, Nat.reduceMul, Nat.reduceSub, Nat.reduceGT, reduceIte, Int.reduceNeg, Int.reduceToNat]) | (refine WP.flowW 11 [⟨[], [], [], [58, 60, 61], [], [54]⟩, ⟨[3], [], [], [54, 58, 60, 61], [], []⟩, ⟨[7], [], [], [54, 58, 60, 61], [], []⟩, ⟨[55, 56], [1, 2], [], [54, 58, 60, 61], [], []⟩, ⟨[54, 57], [0, 1, 2, 3], [], [60, 61], [54], [58]⟩, ⟨[6], [], [54], [54, 58, 60, 61], [], []⟩, ⟨[59], [5], [54], [54, 58, 61], [], [60]⟩, ⟨[58, 60], [0, 1, 2, 3, 4, 5, 6], [54], [], [58], [61]⟩, ⟨[3], [], [54, 58], [54, 58, 60, 61], [], []⟩, ⟨[7], [], [54, 58], [54, 58, 60, 61], [], []⟩, ⟨[62, 63], [8, 9], [54, 58], [54, 58, 60, 61], [], []⟩, ⟨[], [0, 1, 2, 3, 4, 5, 6, 7, 8, 9, 10], [], [], [], []⟩, ⟨[], [0, 1, 2, 3, 4, 5, 6, 7, 8, 9, 10, 11], [], [], [], []⟩] [54, 55, 56, 57, 58, 59, 60, 61, 62, 63, 64] [54, 58, 60, 61] [54, 58] (by decide +kernel) (by kernel_rfl) (by kernel_rfl) (by kernel_rfl) ?_; simp only [go_sem, hge, he, tyAll, Nat.reduceAdd, Nat.reduceLT, Nat.reduceLeDiff, Nat.reduceEqDiff, Nat.reduceMul, Nat.reduceSub, Nat.reduceGT, reduceIte, Int.reduceNeg, Int.reduceToNat]) | (refine WP.drawW 14 (by decide +kernel) (by kernel_rfl) ?_; simp only [go_sem, hge, he, tyAll, Nat.reduceAdd, Nat.reduceLT, Nat.reduceLeDiff, Nat.reduceEqDiff, Nat.reduceMul, Nat.reduceSub, Nat.reduceGT, reduceIte, Int.reduceNeg, Int.reduceToNat]) |  refine And.intro ?_ ?_ | intro _))
      all_goals first | omega | skip
      rw [show k = C.length by omega]
end
end Go.Proofs.YtolnapfgfdgifaaGreatDoor
-- x

/-
  DERIVED. A list that a call hands back as its own, taken as one that may only be read.
-/
namespace Go.Vc
set_option linter.unusedVariables false
def allV (rows : List (List SV)) : Prop := ∀ row ∈ rows, ∀ c ∈ row, ∃ x, c = .v x
theorem ObR.toSl {w : World} {X X' : Nat → Prop} {β : Nat → Value} {v : Value} {e s : Nat} {rows : List (List SV)} (h : ObR w X' β v (.sl e s rows)) (hX : ∀ b, blk v = some b → ¬ X b) (hv : allV rows) : Rp w X (.sl s rows) v := by
  cases h with
  | nil e s h => subst h; exact .nil s _ _
  | sl b cap cur us hv' hh h1 h2 h3 h4 h5 h6 h7 =>
    subst hv'
    refine .sl b 0 cap us (hX b rfl) (lt_of_heap hh) h1 h4 (fun i k row c hr hc => ?_) h6 (fun i k row c hr hc => ?_)
    · simp only [World.cell?, hh, Nat.zero_add]
      exact h5 i k row c hr hc
    · obtain ⟨x, rfl⟩ := hv row (List.mem_of_getElem? hr) c (List.mem_of_getElem? hc)
      have := h7 i k row _ hr hc
      cases this
      exact .v _
section
variable {P : Program} {f : FuncId} {args : List SV} {d e s : Nat} {rows : List (List SV)}
theorem Holds.frozen (h : Holds P f args (.own d) [(d, .sl e s rows)]) (hv : allV rows) : Holds P f args (.sl s rows) [] := by
  intro w X vs hG hX hl ha
  refine (h w X vs hG hX hl ha).mono fun en w' ⟨v, β, he, hb, hβ, hR, hO, hn⟩ => ?_
  refine ⟨v, β, he, hb, hβ, ?_, ⟨fun id ob hi => (by cases hi), fun i j oi oj b hi => (by cases hi)⟩, fun id ob b hi => (by cases hi)⟩
  have := hR.own_inv; subst this
  refine .p ((hO.1 d (.sl e s rows) (by simp [lk])).toSl (fun b hb' hx => ?_) hv)
  have h1 := hn d (.sl e s rows) b (by simp [lk]) hb'
  rcases hx with hx | ⟨i, o, hi, _⟩
  · have := hX b hx; omega
  · cases hi
theorem Holds.frozenT {y : Value} (h : Holds P f args (.tup [.own d, .v y]) [(d, .sl e s rows)]) (hv : allV rows) : Holds P f args (.tup [.sl s rows, .v y]) [] := by
  intro w X vs hG hX hl ha
  refine (h w X vs hG hX hl ha).mono fun en w' ⟨v, β, he, hb, hβ, hR, hO, hn⟩ => ?_
  refine ⟨v, β, he, hb, hβ, ?_, ⟨fun id ob hi => (by cases hi), fun i j oi oj b hi => (by cases hi)⟩, fun id ob b hi => (by cases hi)⟩
  obtain ⟨us, rfl, hul, hh⟩ := hR.tup_inv
  refine .tup hul fun k c u hc hu => ?_
  match k, hc with
  | 0, hc =>
    simp at hc; subst hc
    have := (hh 0 _ u rfl hu).own_inv
    subst this
    refine .p ((hO.1 d (.sl e s rows) (by simp [lk])).toSl (fun b hb' hx => ?_) hv)
    have h1 := hn d (.sl e s rows) b (by simp [lk]) hb'
    rcases hx with hx | ⟨i, o, hi, _⟩
    · have := hX b hx; omega
    · cases hi
  | 1, hc =>
    simp at hc; subst hc
    have := (hh 1 _ u rfl hu).v_inv
    subst this; exact .p (.v _)
  | k + 2, hc => simp at hc
end
/-- the same of a struct of two lists -/
theorem Holds.frozenA {P : Program} {f : FuncId} {args : List SV} {d1 d2 e1 s1 e2 s2 : Nat} {rows1 rows2 : List (List SV)} (hd : d1 ≠ d2) (h : Holds P f args (.agg [.own d1, .own d2]) [(d1, .sl e1 s1 rows1), (d2, .sl e2 s2 rows2)]) (hv1 : allV rows1) (hv2 : allV rows2) : Holds P f args (.agg [.sl s1 rows1, .sl s2 rows2]) [] := by
  intro w X vs hG hX hl ha
  refine (h w X vs hG hX hl ha).mono fun en w' ⟨v, β, he, hb, hβ, hR, hO, hn⟩ => ?_
  refine ⟨v, β, he, hb, hβ, ?_, ⟨fun id ob hi => (by cases hi), fun i j oi oj b hi => (by cases hi)⟩, fun id ob b hi => (by cases hi)⟩
  obtain ⟨us, rfl, hul, hh⟩ := hR.agg_inv
  have l1 : lk d1 [(d1, Ob.sl e1 s1 rows1), (d2, .sl e2 s2 rows2)] = some (.sl e1 s1 rows1) := by simp [lk]
  have l2 : lk d2 [(d1, Ob.sl e1 s1 rows1), (d2, .sl e2 s2 rows2)] = some (.sl e2 s2 rows2) := by simp [lk, Ne.symm hd]
  have key : ∀ {d e s : Nat} {rows : List (List SV)}, lk d [(d1, Ob.sl e1 s1 rows1), (d2, .sl e2 s2 rows2)] = some (.sl e s rows) → allV rows → R w' (XX X β []) β (.sl s rows) (β d) := fun {d e s rows} hl hv => by
    refine .p ((hO.1 d _ hl).toSl (fun b hb' hx => ?_) hv)
    have h1 := hn d _ b hl hb'
    rcases hx with hx | ⟨i, o, hi, _⟩
    · have := hX b hx; omega
    · cases hi
  refine .agg hul fun k c u hc hu => ?_
  match k, hc with
  | 0, hc =>
    simp at hc; subst hc
    have := (hh 0 _ u rfl hu).own_inv
    subst this; exact key l1 hv1
  | 1, hc =>
    simp at hc; subst hc
    have := (hh 1 _ u rfl hu).own_inv
    subst this; exact key l2 hv2
  | k + 2, hc => simp at hc
theorem Cn.frozenA {P : Program} {f : FuncId} {X : Type} {dec : List SV → X} {A : X → List SV} {pre : X → Prop} {e1 s1 e2 s2 : Nat} {rows1 rows2 : X → List (List SV)} (hv1 : ∀ x, allV (rows1 x)) (hv2 : ∀ x, allV (rows2 x))
    (h : Cn P f (Go.Vc.pur dec A pre (fun d _ => .agg [.own d, .own (d + 1000)]) (fun d x => [(d, .sl e1 s1 (rows1 x)), (d + 1000, .sl e2 s2 (rows2 x))]))) : Cn P f (Go.Vc.pur dec A pre (fun _ x => .agg [.sl s1 (rows1 x), .sl s2 (rows2 x)]) (fun _ _ => [])) :=
  ⟨h.call, fun d args ha => (h.holds d args ha).frozenA (by omega) (hv1 _) (hv2 _), fun _ _ _ h => h.elim⟩
theorem Cn.frozen {P : Program} {f : FuncId} {X : Type} {dec : List SV → X} {A : X → List SV} {pre : X → Prop} {e s : Nat} {rows : X → List (List SV)} (hv : ∀ x, allV (rows x))
    (h : Cn P f (Go.Vc.pur dec A pre (fun d _ => .own d) (fun d x => [(d, .sl e s (rows x))]))) : Cn P f (Go.Vc.pur dec A pre (fun _ x => .sl s (rows x)) (fun _ _ => [])) :=
  ⟨h.call, fun d args ha => (h.holds d args ha).frozen (hv _), fun _ _ _ h => h.elim⟩
theorem Cn.frozenT {P : Program} {f : FuncId} {X : Type} {dec : List SV → X} {A : X → List SV} {pre : X → Prop} {e s : Nat} {rows : X → List (List SV)} {y : X → Value} (hv : ∀ x, allV (rows x))
    (h : Cn P f (Go.Vc.pur dec A pre (fun d x => .tup [.own d, .v (y x)]) (fun d x => [(d, .sl e s (rows x))]))) : Cn P f (Go.Vc.pur dec A pre (fun _ x => .tup [.sl s (rows x), .v (y x)]) (fun _ _ => [])) :=
  ⟨h.call, fun d args ha => (h.holds d args ha).frozenT (hv _), fun _ _ _ h => h.elim⟩
end Go.Vc

/-
  DERIVED. FocusOn, Ignore and TopFrames of the reference.
-/
namespace Go.Proofs.YtolnapfgfdgifaaGreatDoor
open Go.Vc
set_option linter.unusedSimpArgs false
set_option linter.unusedVariables false
set_option maxHeartbeats 1000000
set_option maxRecDepth 10000
attribute [local go_sem] St.runR St.runW St.stepV offV St.step St.stepU St.stepG mkCond guardB St.prK St.pr St.prLen St.eff St.callE St.callD St.callF St.callL aI aB aS aR aC St.isM St.argL Ctr.pure Ctr.lend Ctr.move Ctr.isL Ctr.wri pur len lentBy St.lentV St.lent1 nthS argsR restOf obsR pairs swapL unObs backL St.resL erL SV.ren1 SV.up SV.up2 Ob.up St.fzL cellIds partIds St.intoRow SV.ownId St.fz SV.fz1 St.prep St.mvL St.mv SV.re1 rnOk St.prEq vals eqCells scEq Value.kd St.prStr St.prCut cutR St.bnd St.prMin St.bld isShift outL retL outJ oR oC St.ev St.get St.put St.new St.kill SV.kill SV.kill1 Ob.kill St.app St.wrt St.rowsOf St.res St.killL lk er argsL SV.strip SV.need SV.share SV.share1 SV.owns SV.owns1 SV.owns2 SV.good SV.good1 SV.rok SV.rok1 SV.rok2 SV.isV SV.isV2 nodupN SV.cells SV.one SV.pur Ob.pb partsIn rowsIn splice cellsAt dstOk scal2 scal1 thenK blockK retK outK outs okC okL okA okT nilC nilL nilA nilT keepC keepL keepA keepT St.runG St.dltK St.least St.clean St.final St.hide offK badS badO SV.refs SV.leaf SV.leaf2 Ob.refs dlOk fpAt Go.Vc.cover tups SV.ofAgg St.out outC subL St.has rng wr Value.oneCell' Option.isSome_some Option.isSome_none List.nil_append Bool.false_eq_true List.map_cons List.map_nil List.all_cons List.all_nil List.length_cons List.length_nil List.drop_zero List.drop_succ_cons List.take_succ_cons List.take_zero List.drop_nil List.take_nil List.getElem?_cons_zero List.getElem?_cons_succ List.getElem?_nil List.cons_append List.nil_append List.append_nil List.append_assoc List.flatMap_cons List.flatMap_nil List.contains_cons List.contains_nil List.set_cons_zero List.set_cons_succ List.getElem?_toArray Option.getD_some Option.getD_none Option.map_some Option.map_none Option.bind_some Option.some.injEq Prod.mk.injEq if_true if_false true_and and_true and_self and_false false_and Bool.and_false Bool.false_and Bool.or_true Bool.true_or Bool.or_false Bool.false_or ne_eq not_true_eq_false not_false_eq_true decide_true decide_false List.mem_cons List.not_mem_nil List.filter_cons List.filter_nil List.any_cons List.any_nil List.isEmpty_nil List.isEmpty_cons Option.getD_none or_false false_or true_or or_true forall_eq_or_imp forall_eq reduceCtorEq exists_eq exists_eq' exists_eq_left' exists_eq_left exists_eq_right exists_eq_right' imp_self implies_true Bool.and_true Bool.true_and Bool.and_self beq_self_eq_true List.replicate_succ List.replicate_zero forall_const false_implies pickB_or pickB_and beqT beqF Int.toNat_natCast List.length_map List.length_replicate ge_iff_le gt_iff_lt decide_eq_true_eq decide_eq_false_iff_not Bool.and_eq_true Bool.or_eq_true Bool.not_eq_true' Bool.not_eq_false' condG List.toList_toArray Bool.or_eq_false_iff Bool.and_eq_false_iff Int.not_lt Int.not_le beq_iff_eq beq_eq_false_iff_ne bne_iff_ne bne_eq_false_iff_eq ne_eq Bool.not_true Bool.not_false exists_and_left
attribute [local irreducible] Go.Vc.WP
attribute [local go_sem] cx0_t cx0_c
attribute [local go_sem] isV_Node isV_It isV_Entry decNode_enc decFrame_enc oneFrame_enc stkA oneFrame_ab oneNode_abc decI_enc decS_enc aU prA decEntry_enc St.fzS addL behind
theorem allV_map {α : Type} {en : α → List SV} (h : ∀ x, ∀ c ∈ en x, ∃ v, c = .v v) (L : List α) : allV (L.map en) := fun row hr c hc => by
  obtain ⟨x, _, rfl⟩ := List.mem_map.1 hr
  exact h x c hc
theorem allV_Frame (L : List Frame) : allV (L.map encFrame) := allV_map (fun x c hc => by
  simp only [encFrame, List.mem_cons, List.not_mem_nil, or_false] at hc
  rcases hc with rfl | rfl <;> exact ⟨_, rfl⟩) L
theorem allV_Entry (L : List Entry) : allV (L.map encEntry) := allV_map (fun x c hc => by
  simp only [encEntry, List.mem_cons, List.not_mem_nil, or_false] at hc
  rcases hc with rfl | rfl <;> exact ⟨_, rfl⟩) L
/-- what is parsed, to be read only -/
def kParseZ : Ctr := pur (fun args => aS args 0) (fun s => [.v (.string s)]) (fun s => s.size ≤ 2147483648) (fun _ s => .tup [.sl 2 (((parseF s).getD []).map encFrame), .v (.bool (parseF s).isSome)]) (fun _ _ => [])
theorem cParseZS : Cn Tryz.prog 49 kParseZ := Cn.frozenT (fun s => allV_Frame _) cParseFS
def kEntZ : Ctr := pur (fun args => prA args 0) (fun x => [.agg [.sl 3 (x.1.map encNode), .sl 1 (x.2.map encI)]]) wfQ (fun _ x => .sl 2 ((entriesOf x.1 x.2).map encEntry)) (fun _ _ => [])
theorem cEntZS : Cn Tryz.prog 48 kEntZ := Cn.frozen (fun s => allV_Entry _) cEntS
def kIdxF : Ctr := pur (fun args => (decFrame (aR args 0), aS args 1)) (fun x => [.sl 2 (x.1.map encFrame), .v (.string x.2)]) (fun x => x.1.length ≤ 4398046511104) (fun _ x => .v (.int .i64 (idxF x.2 x.1))) (fun _ _ => [])
section
noncomputable def cxIxS : Cx := { P := Tryz.prog, tys := tys, C := [], hty := tysOk, hC := COk.nil _ }
theorem cxIxS_t : cxIxS.tys = tys := rfl
theorem cxIxS_c : cxIxS.C = [] := rfl
attribute [local go_sem] cxIxS_t cxIxS_c 
theorem cIdxS : Cn Tryz.prog 121 kIdxF := by
  refine Cn.pur Tryz.func121 (by kernel_rfl) rfl fun d x hx => ?_
  obtain ⟨L, s⟩ := x
  simp only at hx ⊢
  refine Holds.go (c := cxIxS) Tryz.func121 rfl Tryz.results121 Tryz.ntmps121 (by omega) (by simp) rfl ?_
  intro X0 w0
  (repeat' (first | refine WP.seq ?_ | refine WP.block ?_ | ((first | refine WP.region ?_ | refine WP.condW ?_ | refine WP.ret ?_ | refine WP.exit ?_ | refine WP.skip ?_); simp only [go_sem, tyAll, Nat.reduceAdd, Nat.reduceLT, Nat.reduceLeDiff, Nat.reduceEqDiff, Nat.reduceMul, Nat.reduceSub, Nat.reduceGT, reduceIte, Int.reduceNeg, Int.reduceToNat]) |  refine And.intro ?_ ?_ | intro _))
  refine WP.loop (fun k : Nat => ⟨[(0, .sl 2 (L.map encFrame)), (1, .v (.string s)), (5, .v (.int .i64 k))], []⟩) (fun k => k ≤ L.length ∧ ∀ i (hi : i < L.length), i < k → hasName s L[i] = false) (fun k => L.length - k) 0 (by simp) ?_ ?_
  · (simp only [go_sem, tyAll, Nat.reduceAdd, Nat.reduceLT, Nat.reduceLeDiff, Nat.reduceEqDiff, Nat.reduceMul, Nat.reduceSub, Nat.reduceGT, reduceIte, Int.reduceNeg, Int.reduceToNat] <;> (first | rfl | exact ⟨rfl, rfl⟩ | exact ⟨rfl, rfl, rfl⟩ | exact ⟨rfl, rfl, rfl, rfl⟩ | exact ⟨rfl, rfl, rfl, rfl, rfl⟩ | exact ⟨⟨rfl, rfl⟩, rfl⟩ | simp))
  intro k ⟨hk, hf⟩
  by_cases hlt : k < L.length
  · have hli : (k : Int) < L.length := by omega
    have h1 := rowAt_map encFrame L k hlt
    (repeat' (first | refine WP.seq ?_ | refine WP.block ?_ | ((first | refine WP.region ?_ | refine WP.condW ?_ | refine WP.ret ?_ | refine WP.exit ?_ | refine WP.skip ?_); simp only [go_sem, hli, h1, encFrame, tyAll, Nat.reduceAdd, Nat.reduceLT, Nat.reduceLeDiff, Nat.reduceEqDiff, Nat.reduceMul, Nat.reduceSub, Nat.reduceGT, reduceIte, Int.reduceNeg, Int.reduceToNat]) |  refine And.intro ?_ ?_ | intro _))
    all_goals first | omega | skip
    · rename_i he
      rw [show idxF s L = k from firstIdx_hit hlt hf (by simp [hasName, he])]
    · rename_i hne
      refine ⟨k + 1, ⟨by omega, fun i hi hik => ?_⟩, by omega, by (first | rfl | exact ⟨rfl, rfl⟩ | exact ⟨rfl, rfl, rfl⟩ | exact ⟨rfl, rfl, rfl, rfl⟩ | exact ⟨rfl, rfl, rfl, rfl, rfl⟩ | exact ⟨⟨rfl, rfl⟩, rfl⟩ | simp)⟩
      rcases Nat.lt_or_ge i k with h | h
      · exact hf i hi h
      · have : i = k := by omega
        subst this
        simp [hasName, hne]
  · have hge : ¬ (k : Int) < L.length := by omega
    (repeat' (first | refine WP.seq ?_ | refine WP.block ?_ | ((first | refine WP.region ?_ | refine WP.condW ?_ | refine WP.ret ?_ | refine WP.exit ?_ | refine WP.skip ?_); simp only [go_sem, hge, tyAll, Nat.reduceAdd, Nat.reduceLT, Nat.reduceLeDiff, Nat.reduceEqDiff, Nat.reduceMul, Nat.reduceSub, Nat.reduceGT, reduceIte, Int.reduceNeg, Int.reduceToNat]) |  refine And.intro ?_ ?_ | intro _))
    all_goals first | omega | skip
    rw [show idxF s L = -1 from firstIdx_none fun i hi => hf i hi (by omega)]
end
/-- what is known of the entries of a profile -/
theorem ent_sizes {N : List Node} {C : List Int} (hN : N.length ≤ 1048576) {e : Entry} (h : e ∈ entriesOf N C) : e.stack.size ≤ 12582912 ∧ (frsE e).length ≤ 1048576 ∧ ∀ f ∈ frsE e, f.name.size ≤ 8 := by
  have h1 := entriesOf_size h
  obtain ⟨_, _, _, h2, h3⟩ := ent_frs h
  have h4 := (parseF_small h3).2
  exact ⟨by omega, by omega, h4⟩
theorem wfE_filter {N : List Node} {C : List Int} (hN : N.length ≤ 1048576) (hC : C.length ≤ 1048576) (p : Entry → Bool) : wfE ((entriesOf N C).filter p) := by
  have h1 := entriesOf_len N C
  have h2 := List.length_filter_le p (entriesOf N C)
  refine ⟨by omega, fun e he => (ent_sizes hN ((List.mem_filter.1 he).1)).1⟩
theorem wfE_map {N : List Node} {C : List Int} (hN : N.length ≤ 1048576) (hC : C.length ≤ 1048576) {g : List Frame → List Frame} (hg : ∀ L, (g L).length ≤ L.length) : wfE ((entriesOf N C).filterMap (mapG g)) := by
  have h1 := entriesOf_len N C
  have h2 := List.length_filterMap_le (mapG g) (entriesOf N C)
  refine ⟨by omega, fun e he => ?_⟩
  obtain ⟨x, hx, hm⟩ := List.mem_filterMap.1 he
  unfold mapG at hm
  split at hm
  · cases hm
  · cases hm
    have h3 := fmtF_size (g (frsE x))
    have h4 := hg (frsE x)
    have h5 := (ent_sizes hN hx).2.1
    simp only; omega
def pR (d : Nat) : SV := .agg [.own d, .own (d + 1000)]
def kKeep : Ctr := pur (fun args => (prA args 0, aS args 1, aB args 2)) (fun x => [.agg [.sl 3 (x.1.1.map encNode), .sl 1 (x.1.2.map encI)], .v (.string x.2.1), .v (.bool x.2.2)])
  (fun x => (x.1.1.length ≤ 1048576 ∧ ∀ n ∈ x.1.1, n.name.size ≤ 1048576) ∧ x.1.2.length ≤ 1048576) (fun d _ => .agg [.own d, .own (d + 1000)])
  (fun d x => [(d, .sl 130 3 ((mapP (pick x.2.1 x.2.2) x.1.1 x.1.2).1.map encNode)), (d + 1000, .sl 3 1 ((mapP (pick x.2.1 x.2.2) x.1.1 x.1.2).2.map encI))])
section
noncomputable def cxKpS : Cx := { P := Tryz.prog, tys := tys, C := [(48, kEntZ), (49, kParseZ), (121, kIdxF), (79, kProfOf)], hty := tysOk, hC := COk.cons cEntZS (COk.cons cParseZS (COk.cons cIdxS (COk.cons cProfOfS (COk.nil _)))) }
theorem cxKpS_t : cxKpS.tys = tys := rfl
theorem cxKpS_c : cxKpS.C = [(48, kEntZ), (49, kParseZ), (121, kIdxF), (79, kProfOf)] := rfl
attribute [local go_sem] cxKpS_t cxKpS_c kEntZ kParseZ kIdxF kProfOf
theorem cKeepS : Cn Tryz.prog 86 kKeep := by
  refine Cn.pur Tryz.func86 (by kernel_rfl) rfl fun d x hx => ?_
  obtain ⟨⟨N, C⟩, s, b⟩ := x
  obtain ⟨⟨hN, hs⟩, hC⟩ := hx
  simp only at hN hs hC ⊢
  have hlen := entriesOf_len N C
  refine Holds.go (c := cxKpS) Tryz.func86 rfl Tryz.results86 Tryz.ntmps86 (by omega) (by simp) rfl ?_
  intro X0 w0
  (repeat' (first | refine WP.seq ?_ | refine WP.block ?_ | ((first | refine WP.region ?_ | refine WP.condW ?_ | refine WP.ret ?_ | refine WP.exit ?_ | refine WP.skip ?_); simp only [go_sem, tyAll, Nat.reduceAdd, Nat.reduceLT, Nat.reduceLeDiff, Nat.reduceEqDiff, Nat.reduceMul, Nat.reduceSub, Nat.reduceGT, reduceIte, Int.reduceNeg, Int.reduceToNat]) |  refine And.intro ?_ ?_ | intro _))
  all_goals first | omega | (simp only; omega) | exact Nat.le_trans (hs _ ‹_›) (by omega) | exact ⟨_, _, _, rfl⟩ | skip
  refine WP.loop (fun k : Nat => ⟨[(1, .v (.string s)), (2, .v (.bool b)), (6, .ptr 6 0 0 0), (7, .own 14), (8, .sl 2 ((entriesOf N C).map encEntry)), (9, .v (.int .i64 k))], [(6, .box 35 [.v (.slice none 0 0), .v (.slice none 0 0)]), (14, .sl 66 2 ((((entriesOf N C).take k).filter (keepS s b)).map encEntry))]⟩)
    (fun k => k ≤ (entriesOf N C).length) (fun k => (entriesOf N C).length - k) 0 (by simp) ?_ ?_
  · (simp only [go_sem, tyAll, Nat.reduceAdd, Nat.reduceLT, Nat.reduceLeDiff, Nat.reduceEqDiff, Nat.reduceMul, Nat.reduceSub, Nat.reduceGT, reduceIte, Int.reduceNeg, Int.reduceToNat] <;> (first | rfl | exact ⟨rfl, rfl⟩ | exact ⟨rfl, rfl, rfl⟩ | exact ⟨rfl, rfl, rfl, rfl⟩ | exact ⟨rfl, rfl, rfl, rfl, rfl⟩ | exact ⟨⟨rfl, rfl⟩, rfl⟩ | simp))
  intro k hk
  have hfl := List.length_filter_le (keepS s b) ((entriesOf N C).take k)
  rw [List.length_take] at hfl
  by_cases hlt : k < (entriesOf N C).length
  · have hli : (k : Int) < (entriesOf N C).length := by omega
    have h1 := rowAt_map encEntry (entriesOf N C) k hlt
    have hm := List.getElem_mem hlt
    obtain ⟨z1, z2, z3⟩ := ent_sizes hN hm
    have hsu := fl_succ (keepS s b) hlt
    have hfr : (parseF (entriesOf N C)[k].stack).getD [] = frsE (entriesOf N C)[k] := rfl
    cases hq : keepS s b (entriesOf N C)[k] with
    | true =>
      have hq' : (decide (0 ≤ idxF s (frsE (entriesOf N C)[k])) == b) = true := hq
      rw [hq, if_pos rfl] at hsu
      (repeat' (first | refine WP.seq ?_ | refine WP.block ?_ | ((first | refine WP.region ?_ | refine WP.condW ?_ | refine WP.ret ?_ | refine WP.exit ?_ | refine WP.skip ?_); simp only [go_sem, hli, h1, encEntry, hfr, hq', tyAll, Nat.reduceAdd, Nat.reduceLT, Nat.reduceLeDiff, Nat.reduceEqDiff, Nat.reduceMul, Nat.reduceSub, Nat.reduceGT, reduceIte, Int.reduceNeg, Int.reduceToNat]) |  refine And.intro ?_ ?_ | intro _))
      all_goals first | omega | (simp only; omega) | exact ⟨_, _, _, rfl⟩ | skip
      all_goals first | exact ⟨k + 1, by omega, by omega, by simp only [hsu, List.map_append]; (first | rfl | exact ⟨rfl, rfl⟩ | exact ⟨rfl, rfl, rfl⟩ | exact ⟨rfl, rfl, rfl, rfl⟩ | exact ⟨rfl, rfl, rfl, rfl, rfl⟩ | exact ⟨⟨rfl, rfl⟩, rfl⟩ | simp)⟩ | trace_state
    | false =>
      have hq' : (decide (0 ≤ idxF s (frsE (entriesOf N C)[k])) == b) = false := hq
      rw [hq, if_neg (by simp), List.append_nil] at hsu
      (repeat' (first | refine WP.seq ?_ | refine WP.block ?_ | ((first | refine WP.region ?_ | refine WP.condW ?_ | refine WP.ret ?_ | refine WP.exit ?_ | refine WP.skip ?_); simp only [go_sem, hli, h1, encEntry, hfr, hq', tyAll, Nat.reduceAdd, Nat.reduceLT, Nat.reduceLeDiff, Nat.reduceEqDiff, Nat.reduceMul, Nat.reduceSub, Nat.reduceGT, reduceIte, Int.reduceNeg, Int.reduceToNat]) |  refine And.intro ?_ ?_ | intro _))
      all_goals first | omega | (simp only; omega) | exact ⟨_, _, _, rfl⟩ | skip
      all_goals first | exact ⟨k + 1, by omega, by omega, by simp only [hsu]; (first | rfl | exact ⟨rfl, rfl⟩ | exact ⟨rfl, rfl, rfl⟩ | exact ⟨rfl, rfl, rfl, rfl⟩ | exact ⟨rfl, rfl, rfl, rfl, rfl⟩ | exact ⟨⟨rfl, rfl⟩, rfl⟩ | simp)⟩ | trace_state
  · have hge : ¬ (k : Int) < (entriesOf N C).length := by omega
    have hke : k = (entriesOf N C).length := by omega
    subst hke
    have hpl := pick_list N C s b
    have hwf := wfE_filter (N := N) (C := C) hN hC (keepS s b)
    rw [List.take_length]
    (repeat' (first | refine WP.seq ?_ | refine WP.block ?_ | ((first | refine WP.region ?_ | refine WP.condW ?_ | refine WP.ret ?_ | refine WP.exit ?_ | refine WP.skip ?_); simp only [go_sem, hge, mapP, hpl, tyAll, Nat.reduceAdd, Nat.reduceLT, Nat.reduceLeDiff, Nat.reduceEqDiff, Nat.reduceMul, Nat.reduceSub, Nat.reduceGT, reduceIte, Int.reduceNeg, Int.reduceToNat]) |  refine And.intro ?_ ?_ | intro _))
    all_goals first | omega | exact hwf.1 | exact hwf.2 _ ‹_› | exact ⟨_, _, _, rfl⟩ | exact ⟨_, _, rfl, _, _, rfl, rfl⟩ | exact if_neg (by omega) | exact ⟨_, _, if_neg (by omega)⟩ | exact ⟨_, _, rfl⟩ | skip
    all_goals trace_state
end
def kFocT : Ctr := pur (fun args => (prA args 0, aS args 1)) (fun x => [.agg [.sl 3 (x.1.1.map encNode), .sl 1 (x.1.2.map encI)], .v (.string x.2)])
  (fun x => (x.1.1.length ≤ 1048576 ∧ ∀ n ∈ x.1.1, n.name.size ≤ 1048576) ∧ x.1.2.length ≤ 1048576) (fun d _ => .agg [.own d, .own (d + 1000)])
  (fun d x => [(d, .sl 130 3 ((mapP (pick x.2 true) x.1.1 x.1.2).1.map encNode)), (d + 1000, .sl 3 1 ((mapP (pick x.2 true) x.1.1 x.1.2).2.map encI))])
def kFocF : Ctr := pur (fun args => (prA args 0, aS args 1)) (fun x => [.agg [.sl 3 (x.1.1.map encNode), .sl 1 (x.1.2.map encI)], .v (.string x.2)])
  (fun x => (x.1.1.length ≤ 1048576 ∧ ∀ n ∈ x.1.1, n.name.size ≤ 1048576) ∧ x.1.2.length ≤ 1048576) (fun d _ => .agg [.own d, .own (d + 1000)])
  (fun d x => [(d, .sl 130 3 ((mapP (pick x.2 false) x.1.1 x.1.2).1.map encNode)), (d + 1000, .sl 3 1 ((mapP (pick x.2 false) x.1.1 x.1.2).2.map encI))])
section
noncomputable def cxFoS : Cx := { P := Tryz.prog, tys := tys, C := [(86, kKeep)], hty := tysOk, hC := COk.cons cKeepS (COk.nil _) }
theorem cxFoS_t : cxFoS.tys = tys := rfl
theorem cxFoS_c : cxFoS.C = [(86, kKeep)] := rfl
attribute [local go_sem] cxFoS_t cxFoS_c kKeep
theorem cFocS : Cn Tryz.prog 40 kFocT := by
  refine Cn.pur Tryz.func40 (by kernel_rfl) rfl fun d x hx => ?_
  obtain ⟨⟨N, C⟩, s⟩ := x
  obtain ⟨⟨hN, hs⟩, hC⟩ := hx
  simp only at hN hs hC ⊢
  refine Holds.go (c := cxFoS) Tryz.func40 rfl Tryz.results40 Tryz.ntmps40 (by omega) (by simp) rfl ?_
  intro X0 w0
  (repeat' (first | refine WP.seq ?_ | refine WP.block ?_ | ((first | refine WP.region ?_ | refine WP.condW ?_ | refine WP.ret ?_ | refine WP.exit ?_ | refine WP.skip ?_); simp only [go_sem, tyAll, Nat.reduceAdd, Nat.reduceLT, Nat.reduceLeDiff, Nat.reduceEqDiff, Nat.reduceMul, Nat.reduceSub, Nat.reduceGT, reduceIte, Int.reduceNeg, Int.reduceToNat]) |  refine And.intro ?_ ?_ | intro _))
  all_goals first | omega | exact hs _ ‹_› | exact ⟨_, _, _, rfl⟩ | exact ⟨_, _, rfl, _, _, rfl, rfl⟩ | exact if_neg (by omega) | exact ⟨_, _, if_neg (by omega)⟩ | exact ⟨_, _, rfl⟩ | skip
  all_goals trace_state
theorem cIgnS : Cn Tryz.prog 42 kFocF := by
  refine Cn.pur Tryz.func42 (by kernel_rfl) rfl fun d x hx => ?_
  obtain ⟨⟨N, C⟩, s⟩ := x
  obtain ⟨⟨hN, hs⟩, hC⟩ := hx
  simp only at hN hs hC ⊢
  refine Holds.go (c := cxFoS) Tryz.func42 rfl Tryz.results42 Tryz.ntmps42 (by omega) (by simp) rfl ?_
  intro X0 w0
  (repeat' (first | refine WP.seq ?_ | refine WP.block ?_ | ((first | refine WP.region ?_ | refine WP.condW ?_ | refine WP.ret ?_ | refine WP.exit ?_ | refine WP.skip ?_); simp only [go_sem, tyAll, Nat.reduceAdd, Nat.reduceLT, Nat.reduceLeDiff, Nat.reduceEqDiff, Nat.reduceMul, Nat.reduceSub, Nat.reduceGT, reduceIte, Int.reduceNeg, Int.reduceToNat]) |  refine And.intro ?_ ?_ | intro _))
  all_goals first | omega | exact hs _ ‹_› | exact ⟨_, _, _, rfl⟩ | exact ⟨_, _, rfl, _, _, rfl, rfl⟩ | exact if_neg (by omega) | exact ⟨_, _, if_neg (by omega)⟩ | exact ⟨_, _, rfl⟩ | skip
end
def topP (n : Int) (N : List Node) (C : List Int) : List Node × List Int := if n < 1 then ([], []) else mapP (topF n) N C
def kTop : Ctr := pur (fun args => (prA args 0, aI args 1)) (fun x => [.agg [.sl 3 (x.1.1.map encNode), .sl 1 (x.1.2.map encI)], .v (.int .i64 x.2)])
  (fun x => (x.1.1.length ≤ 1048576 ∧ ∀ n ∈ x.1.1, n.name.size ≤ 1048576) ∧ x.1.2.length ≤ 1048576) (fun d _ => .agg [.own d, .own (d + 1000)])
  (fun d x => [(d, .sl 130 3 ((topP x.2 x.1.1 x.1.2).1.map encNode)), (d + 1000, .sl 3 1 ((topP x.2 x.1.1 x.1.2).2.map encI))])
theorem take_min (n : Int) (L : List Frame) : L.take (if (L.length : Int) < n then (L.length : Int) else n).toNat = topF n L := by
  unfold topF
  split
  · rw [Int.toNat_natCast, List.take_length, List.take_of_length_le (by omega)]
  · rfl
theorem take_enc (m : Nat) (L : List Frame) : (L.map encFrame).take m = (L.take m).map encFrame := List.map_take.symm
theorem wfFr_top {N : List Node} {C : List Int} (hN : N.length ≤ 1048576) {e : Entry} (h : e ∈ entriesOf N C) (n : Int) : ∀ f ∈ topF n (frsE e), f.name.size ≤ 1099511627776 := fun f hf => by
  have := (ent_sizes hN h).2.2 f (List.mem_of_mem_take hf)
  omega
section
noncomputable def cxTpS : Cx := { P := Tryz.prog, tys := tys, C := [(48, kEntZ), (49, kParseZ), (78, kFmtF), (79, kProfOf)], hty := tysOk, hC := COk.cons cEntZS (COk.cons cParseZS (COk.cons cFmtFS (COk.cons cProfOfS (COk.nil _)))) }
theorem cxTpS_t : cxTpS.tys = tys := rfl
theorem cxTpS_c : cxTpS.C = [(48, kEntZ), (49, kParseZ), (78, kFmtF), (79, kProfOf)] := rfl
attribute [local go_sem] cxTpS_t cxTpS_c kEntZ kParseZ kFmtF kProfOf
theorem cTopS : Cn Tryz.prog 35 kTop := by
  refine Cn.pur Tryz.func35 (by kernel_rfl) rfl fun d x hx => ?_
  obtain ⟨⟨N, C⟩, n⟩ := x
  obtain ⟨⟨hN, hs⟩, hC⟩ := hx
  simp only at hN hs hC ⊢
  have hlen := entriesOf_len N C
  refine Holds.go (c := cxTpS) Tryz.func35 rfl Tryz.results35 Tryz.ntmps35 (by omega) (by simp) rfl ?_
  intro X0 w0
  by_cases hn : n < 1
  · have e0 : topP n N C = ([], []) := if_pos hn
    (repeat' (first | refine WP.seq ?_ | refine WP.block ?_ | ((first | refine WP.region ?_ | refine WP.condW ?_ | refine WP.ret ?_ | refine WP.exit ?_ | refine WP.skip ?_); simp only [go_sem, hn, e0, tyAll, Nat.reduceAdd, Nat.reduceLT, Nat.reduceLeDiff, Nat.reduceEqDiff, Nat.reduceMul, Nat.reduceSub, Nat.reduceGT, reduceIte, Int.reduceNeg, Int.reduceToNat]) | (refine WP.flowZ [8] 15 [⟨[5], [], [], [47], [], []⟩, ⟨[8], [], [], [47], [], []⟩, ⟨[1], [], [], [47], [], []⟩, ⟨[8], [], [], [47], [], []⟩, ⟨[36], [3], [], [47], [], []⟩, ⟨[35, 37], [2, 3, 4], [], [47], [], []⟩, ⟨[34, 38], [1, 2, 3, 4, 5], [], [47], [], []⟩, ⟨[39], [1, 2, 3, 4, 5, 6], [], [47], [], []⟩, ⟨[6], [], [], [47], [], []⟩, ⟨[7], [], [], [47], [], []⟩, ⟨[41, 42], [8, 9], [], [47], [], []⟩, ⟨[43], [8, 9, 10], [], [47], [], []⟩, ⟨[44], [8, 9, 10, 11], [], [47], [], []⟩, ⟨[40, 45], [1, 2, 3, 4, 5, 6, 7, 8, 9, 10, 11, 12], [], [47], [], []⟩, ⟨[46], [1, 2, 3, 4, 5, 6, 7, 8, 9, 10, 11, 12, 13], [], [], [], [47]⟩, ⟨[], [0, 1, 2, 3, 4, 5, 6, 7, 8, 9, 10, 11, 12, 13, 14], [], [], [], []⟩, ⟨[], [0, 1, 2, 3, 4, 5, 6, 7, 8, 9, 10, 11, 12, 13, 14, 15], [], [], [], []⟩] [33, 34, 35, 36, 37, 38, 39, 40, 41, 42, 43, 44, 45, 46, 47] [47] [] (by decide +kernel) (by kernel_rfl) (by kernel_rfl) (by kernel_rfl) ?_; simp only [go_sem, hn, e0, tyAll, Nat.reduceAdd, Nat.reduceLT, Nat.reduceLeDiff, Nat.reduceEqDiff, Nat.reduceMul, Nat.reduceSub, Nat.reduceGT, reduceIte, Int.reduceNeg, Int.reduceToNat]) | (refine WP.flowW 15 [⟨[5], [], [], [47], [], []⟩, ⟨[8], [], [], [47], [], []⟩, ⟨[1], [], [], [47], [], []⟩, ⟨[8], [], [], [47], [], []⟩, ⟨[36], [3], [], [47], [], []⟩, ⟨[35, 37], [2, 3, 4], [], [47], [], []⟩, ⟨[34, 38], [1, 2, 3, 4, 5], [], [47], [], []⟩, ⟨[39], [1, 2, 3, 4, 5, 6], [], [47], [], []⟩, ⟨[6], [], [], [47], [], []⟩, ⟨[7], [], [], [47], [], []⟩, ⟨[41, 42], [8, 9], [], [47], [], []⟩, ⟨[43], [8, 9, 10], [], [47], [], []⟩, ⟨[44], [8, 9, 10, 11], [], [47], [], []⟩, ⟨[40, 45], [1, 2, 3, 4, 5, 6, 7, 8, 9, 10, 11, 12], [], [47], [], []⟩, ⟨[46], [1, 2, 3, 4, 5, 6, 7, 8, 9, 10, 11, 12, 13], [], [], [], [47]⟩, ⟨[], [0, 1, 2, 3, 4, 5, 6, 7, 8, 9, 10, 11, 12, 13, 14], [], [], [], []⟩, ⟨[], [0, 1, 2, 3, 4, 5, 6, 7, 8, 9, 10, 11, 12, 13, 14, 15], [], [], [], []⟩] [33, 34, 35, 36, 37, 38, 39, 40, 41, 42, 43, 44, 45, 46, 47] [47] [] (by decide +kernel) (by kernel_rfl) (by kernel_rfl) (by kernel_rfl) ?_; simp only [go_sem, hn, e0, tyAll, Nat.reduceAdd, Nat.reduceLT, Nat.reduceLeDiff, Nat.reduceEqDiff, Nat.reduceMul, Nat.reduceSub, Nat.reduceGT, reduceIte, Int.reduceNeg, Int.reduceToNat]) |  refine And.intro ?_ ?_ | intro _))
    all_goals first | omega | exact hs _ ‹_› | exact ⟨_, _, _, rfl⟩ | exact ⟨_, _, rfl, _, _, rfl, rfl⟩ | exact if_neg (by omega) | exact ⟨_, _, if_neg (by omega)⟩ | exact ⟨_, _, rfl⟩ | skip
    all_goals trace_state
  have e0 : topP n N C = mapP (topF n) N C := if_neg hn
  have htl := top_list N C (n := n) (by omega)
  rw [e0]
  (repeat' (first | refine WP.seq ?_ | refine WP.block ?_ | ((first | refine WP.region ?_ | refine WP.condW ?_ | refine WP.ret ?_ | refine WP.exit ?_ | refine WP.skip ?_); simp only [go_sem, hn, tyAll, Nat.reduceAdd, Nat.reduceLT, Nat.reduceLeDiff, Nat.reduceEqDiff, Nat.reduceMul, Nat.reduceSub, Nat.reduceGT, reduceIte, Int.reduceNeg, Int.reduceToNat]) | (refine WP.flowZ [8] 15 [⟨[5], [], [], [47], [], []⟩, ⟨[8], [], [], [47], [], []⟩, ⟨[1], [], [], [47], [], []⟩, ⟨[8], [], [], [47], [], []⟩, ⟨[36], [3], [], [47], [], []⟩, ⟨[35, 37], [2, 3, 4], [], [47], [], []⟩, ⟨[34, 38], [1, 2, 3, 4, 5], [], [47], [], []⟩, ⟨[39], [1, 2, 3, 4, 5, 6], [], [47], [], []⟩, ⟨[6], [], [], [47], [], []⟩, ⟨[7], [], [], [47], [], []⟩, ⟨[41, 42], [8, 9], [], [47], [], []⟩, ⟨[43], [8, 9, 10], [], [47], [], []⟩, ⟨[44], [8, 9, 10, 11], [], [47], [], []⟩, ⟨[40, 45], [1, 2, 3, 4, 5, 6, 7, 8, 9, 10, 11, 12], [], [47], [], []⟩, ⟨[46], [1, 2, 3, 4, 5, 6, 7, 8, 9, 10, 11, 12, 13], [], [], [], [47]⟩, ⟨[], [0, 1, 2, 3, 4, 5, 6, 7, 8, 9, 10, 11, 12, 13, 14], [], [], [], []⟩, ⟨[], [0, 1, 2, 3, 4, 5, 6, 7, 8, 9, 10, 11, 12, 13, 14, 15], [], [], [], []⟩] [33, 34, 35, 36, 37, 38, 39, 40, 41, 42, 43, 44, 45, 46, 47] [47] [] (by decide +kernel) (by kernel_rfl) (by kernel_rfl) (by kernel_rfl) ?_; simp only [go_sem, hn, tyAll, Nat.reduceAdd, Nat.reduceLT, Nat.reduceLeDiff, Nat.reduceEqDiff, Nat.reduceMul, Nat.reduceSub, Nat.reduceGT, reduceIte, Int.reduceNeg, Int.reduceToNat]) | (refine WP.flowW 15 [⟨[5], [], [], [47], [], []⟩, ⟨[8], [], [], [47], [], []⟩, ⟨[1], [], [], [47], [], []⟩, ⟨[8], [], [], [47], [], []⟩, ⟨[36], [3], [], [47], [], []⟩, ⟨[35, 37], [2, 3, 4], [], [47], [], []⟩, ⟨[34, 38], [1, 2, 3, 4, 5], [], [47], [], []⟩, ⟨[39], [1, 2, 3, 4, 5, 6], [], [47], [], []⟩, ⟨[6], [], [], [47], [], []⟩, ⟨[7], [], [], [47], [], []⟩, ⟨[41, 42], [8, 9], [], [47], [], []⟩, ⟨[43], [8, 9, 10], [], [47], [], []⟩, ⟨[44], [8, 9, 10, 11], [], [47], [], []⟩, ⟨[40, 45], [1, 2, 3, 4, 5, 6, 7, 8, 9, 10, 11, 12], [], [47], [], []⟩, ⟨[46], [1, 2, 3, 4, 5, 6, 7, 8, 9, 10, 11, 12, 13], [], [], [], [47]⟩, ⟨[], [0, 1, 2, 3, 4, 5, 6, 7, 8, 9, 10, 11, 12, 13, 14], [], [], [], []⟩, ⟨[], [0, 1, 2, 3, 4, 5, 6, 7, 8, 9, 10, 11, 12, 13, 14, 15], [], [], [], []⟩] [33, 34, 35, 36, 37, 38, 39, 40, 41, 42, 43, 44, 45, 46, 47] [47] [] (by decide +kernel) (by kernel_rfl) (by kernel_rfl) (by kernel_rfl) ?_; simp only [go_sem, hn, tyAll, Nat.reduceAdd, Nat.reduceLT, Nat.reduceLeDiff, Nat.reduceEqDiff, Nat.reduceMul, Nat.reduceSub, Nat.reduceGT, reduceIte, Int.reduceNeg, Int.reduceToNat]) |  refine And.intro ?_ ?_ | intro _))
  all_goals first | omega | (simp only; omega) | exact Nat.le_trans (hs _ ‹_›) (by omega) | exact ⟨_, _, _, rfl⟩ | skip
  refine WP.loop (fun k : Nat => ⟨[(1, .v (.int .i64 n)), (4, .ptr 4 0 0 0), (5, .own 12), (6, .sl 2 ((entriesOf N C).map encEntry)), (7, .v (.int .i64 k))], [(4, .box 35 [.v (.slice none 0 0), .v (.slice none 0 0)]), (12, .sl 66 2 ((((entriesOf N C).take k).map (topE n)).map encEntry))]⟩)
    (fun k => k ≤ (entriesOf N C).length) (fun k => (entriesOf N C).length - k) 0 (by simp) ?_ ?_
  · (simp only [go_sem, tyAll, Nat.reduceAdd, Nat.reduceLT, Nat.reduceLeDiff, Nat.reduceEqDiff, Nat.reduceMul, Nat.reduceSub, Nat.reduceGT, reduceIte, Int.reduceNeg, Int.reduceToNat] <;> (first | rfl | exact ⟨rfl, rfl⟩ | exact ⟨rfl, rfl, rfl⟩ | exact ⟨rfl, rfl, rfl, rfl⟩ | exact ⟨rfl, rfl, rfl, rfl, rfl⟩ | exact ⟨⟨rfl, rfl⟩, rfl⟩ | simp))
  intro k hk
  by_cases hlt : k < (entriesOf N C).length
  · have hli : (k : Int) < (entriesOf N C).length := by omega
    have h1 := rowAt_map encEntry (entriesOf N C) k hlt
    have hm := List.getElem_mem hlt
    obtain ⟨z1, z2, z3⟩ := ent_sizes hN hm
    have hsu := mp_succ (topE n) hlt
    have hfr : (parseF (entriesOf N C)[k].stack).getD [] = frsE (entriesOf N C)[k] := rfl
    have hwf := wfFr_top (C := C) hN hm n
    have htn := take_min n (frsE (entriesOf N C)[k])
    have htl := topF_len n (frsE (entriesOf N C)[k])
    (repeat' (first | refine WP.seq ?_ | refine WP.block ?_ | ((first | refine WP.region ?_ | refine WP.condW ?_ | refine WP.ret ?_ | refine WP.exit ?_ | refine WP.skip ?_); simp only [go_sem, hli, h1, encEntry, hfr, take_enc, htn, tyAll, Nat.reduceAdd, Nat.reduceLT, Nat.reduceLeDiff, Nat.reduceEqDiff, Nat.reduceMul, Nat.reduceSub, Nat.reduceGT, reduceIte, Int.reduceNeg, Int.reduceToNat]) | (refine WP.flowZ [8] 15 [⟨[5], [], [], [47], [], []⟩, ⟨[8], [], [], [47], [], []⟩, ⟨[1], [], [], [47], [], []⟩, ⟨[8], [], [], [47], [], []⟩, ⟨[36], [3], [], [47], [], []⟩, ⟨[35, 37], [2, 3, 4], [], [47], [], []⟩, ⟨[34, 38], [1, 2, 3, 4, 5], [], [47], [], []⟩, ⟨[39], [1, 2, 3, 4, 5, 6], [], [47], [], []⟩, ⟨[6], [], [], [47], [], []⟩, ⟨[7], [], [], [47], [], []⟩, ⟨[41, 42], [8, 9], [], [47], [], []⟩, ⟨[43], [8, 9, 10], [], [47], [], []⟩, ⟨[44], [8, 9, 10, 11], [], [47], [], []⟩, ⟨[40, 45], [1, 2, 3, 4, 5, 6, 7, 8, 9, 10, 11, 12], [], [47], [], []⟩, ⟨[46], [1, 2, 3, 4, 5, 6, 7, 8, 9, 10, 11, 12, 13], [], [], [], [47]⟩, ⟨[], [0, 1, 2, 3, 4, 5, 6, 7, 8, 9, 10, 11, 12, 13, 14], [], [], [], []⟩, ⟨[], [0, 1, 2, 3, 4, 5, 6, 7, 8, 9, 10, 11, 12, 13, 14, 15], [], [], [], []⟩] [33, 34, 35, 36, 37, 38, 39, 40, 41, 42, 43, 44, 45, 46, 47] [47] [] (by decide +kernel) (by kernel_rfl) (by kernel_rfl) (by kernel_rfl) ?_; simp only [go_sem, hli, h1, encEntry, hfr, take_enc, htn, tyAll, Nat.reduceAdd, Nat.reduceLT, Nat.reduceLeDiff, Nat.reduceEqDiff, Nat.reduceMul, Nat.reduceSub, Nat.reduceGT, reduceIte, Int.reduceNeg, Int.reduceToNat]) | (refine WP.flowW 15 [⟨[5], [], [], [47], [], []⟩, ⟨[8], [], [], [47], [], []⟩, ⟨[1], [], [], [47], [], []⟩, ⟨[8], [], [], [47], [], []⟩, ⟨[36], [3], [], [47], [], []⟩, ⟨[35, 37], [2, 3, 4], [], [47], [], []⟩, ⟨[34, 38], [1, 2, 3, 4, 5], [], [47], [], []⟩, ⟨[39], [1, 2, 3, 4, 5, 6], [], [47], [], []⟩, ⟨[6], [], [], [47], [], []⟩, ⟨[7], [], [], [47], [], []⟩, ⟨[41, 42], [8, 9], [], [47], [], []⟩, ⟨[43], [8, 9, 10], [], [47], [], []⟩, ⟨[44], [8, 9, 10, 11], [], [47], [], []⟩, ⟨[40, 45], [1, 2, 3, 4, 5, 6, 7, 8, 9, 10, 11, 12], [], [47], [], []⟩, ⟨[46], [1, 2, 3, 4, 5, 6, 7, 8, 9, 10, 11, 12, 13], [], [], [], [47]⟩, ⟨[], [0, 1, 2, 3, 4, 5, 6, 7, 8, 9, 10, 11, 12, 13, 14], [], [], [], []⟩, ⟨[], [0, 1, 2, 3, 4, 5, 6, 7, 8, 9, 10, 11, 12, 13, 14, 15], [], [], [], []⟩] [33, 34, 35, 36, 37, 38, 39, 40, 41, 42, 43, 44, 45, 46, 47] [47] [] (by decide +kernel) (by kernel_rfl) (by kernel_rfl) (by kernel_rfl) ?_; simp only [go_sem, hli, h1, encEntry, hfr, take_enc, htn, tyAll, Nat.reduceAdd, Nat.reduceLT, Nat.reduceLeDiff, Nat.reduceEqDiff, Nat.reduceMul, Nat.reduceSub, Nat.reduceGT, reduceIte, Int.reduceNeg, Int.reduceToNat]) |  refine And.intro ?_ ?_ | intro _))
    all_goals first | omega | (simp only; omega) | exact hwf _ ‹_› | exact ⟨_, _, _, rfl⟩ | (simp only [List.length_take]; omega) | skip
    all_goals first | exact ⟨k + 1, by omega, by omega, by simp only [hsu, List.map_append]; (first | rfl | exact ⟨rfl, rfl⟩ | exact ⟨rfl, rfl, rfl⟩ | exact ⟨rfl, rfl, rfl, rfl⟩ | exact ⟨rfl, rfl, rfl, rfl, rfl⟩ | exact ⟨⟨rfl, rfl⟩, rfl⟩ | simp)⟩ | trace_state
  · have hge : ¬ (k : Int) < (entriesOf N C).length := by omega
    have hke : k = (entriesOf N C).length := by omega
    subst hke
    have hwf := wfE_map (N := N) (C := C) hN hC (g := topF n) (topF_len n)
    rw [htl] at hwf
    rw [List.take_length]
    (repeat' (first | refine WP.seq ?_ | refine WP.block ?_ | ((first | refine WP.region ?_ | refine WP.condW ?_ | refine WP.ret ?_ | refine WP.exit ?_ | refine WP.skip ?_); simp only [go_sem, hge, mapP, htl, tyAll, Nat.reduceAdd, Nat.reduceLT, Nat.reduceLeDiff, Nat.reduceEqDiff, Nat.reduceMul, Nat.reduceSub, Nat.reduceGT, reduceIte, Int.reduceNeg, Int.reduceToNat]) | (refine WP.flowZ [8] 15 [⟨[5], [], [], [47], [], []⟩, ⟨[8], [], [], [47], [], []⟩, ⟨[1], [], [], [47], [], []⟩, ⟨[8], [], [], [47], [], []⟩, ⟨[36], [3], [], [47], [], []⟩, ⟨[35, 37], [2, 3, 4], [], [47], [], []⟩, ⟨[34, 38], [1, 2, 3, 4, 5], [], [47], [], []⟩, ⟨[39], [1, 2, 3, 4, 5, 6], [], [47], [], []⟩, ⟨[6], [], [], [47], [], []⟩, ⟨[7], [], [], [47], [], []⟩, ⟨[41, 42], [8, 9], [], [47], [], []⟩, ⟨[43], [8, 9, 10], [], [47], [], []⟩, ⟨[44], [8, 9, 10, 11], [], [47], [], []⟩, ⟨[40, 45], [1, 2, 3, 4, 5, 6, 7, 8, 9, 10, 11, 12], [], [47], [], []⟩, ⟨[46], [1, 2, 3, 4, 5, 6, 7, 8, 9, 10, 11, 12, 13], [], [], [], [47]⟩, ⟨[], [0, 1, 2, 3, 4, 5, 6, 7, 8, 9, 10, 11, 12, 13, 14], [], [], [], []⟩, ⟨[], [0, 1, 2, 3, 4, 5, 6, 7, 8, 9, 10, 11, 12, 13, 14, 15], [], [], [], []⟩] [33, 34, 35, 36, 37, 38, 39, 40, 41, 42, 43, 44, 45, 46, 47] [47] [] (by decide +kernel) (by kernel_rfl) (by kernel_rfl) (by kernel_rfl) ?_; simp only [go_sem, hge, mapP, htl, tyAll, Nat.reduceAdd, Nat.reduceLT, Nat.reduceLeDiff, Nat.reduceEqDiff, Nat.reduceMul, Nat.reduceSub, Nat.reduceGT, reduceIte, Int.reduceNeg, Int.reduceToNat]) | (refine WP.flowW 15 [⟨[5], [], [], [47], [], []⟩, ⟨[8], [], [], [47], [], []⟩, ⟨[1], [], [], [47], [], []⟩, ⟨[8], [], [], [47], [], []⟩, ⟨[36], [3], [], [47], [], []⟩, ⟨[35, 37], [2, 3, 4], [], [47], [], []⟩, ⟨[34, 38], [1, 2, 3, 4, 5], [], [47], [], []⟩, ⟨[39], [1, 2, 3, 4, 5, 6], [], [47], [], []⟩, ⟨[6], [], [], [47], [], []⟩, ⟨[7], [], [], [47], [], []⟩, ⟨[41, 42], [8, 9], [], [47], [], []⟩, ⟨[43], [8, 9, 10], [], [47], [], []⟩, ⟨[44], [8, 9, 10, 11], [], [47], [], []⟩, ⟨[40, 45], [1, 2, 3, 4, 5, 6, 7, 8, 9, 10, 11, 12], [], [47], [], []⟩, ⟨[46], [1, 2, 3, 4, 5, 6, 7, 8, 9, 10, 11, 12, 13], [], [], [], [47]⟩, ⟨[], [0, 1, 2, 3, 4, 5, 6, 7, 8, 9, 10, 11, 12, 13, 14], [], [], [], []⟩, ⟨[], [0, 1, 2, 3, 4, 5, 6, 7, 8, 9, 10, 11, 12, 13, 14, 15], [], [], [], []⟩] [33, 34, 35, 36, 37, 38, 39, 40, 41, 42, 43, 44, 45, 46, 47] [47] [] (by decide +kernel) (by kernel_rfl) (by kernel_rfl) (by kernel_rfl) ?_; simp only [go_sem, hge, mapP, htl, tyAll, Nat.reduceAdd, Nat.reduceLT, Nat.reduceLeDiff, Nat.reduceEqDiff, Nat.reduceMul, Nat.reduceSub, Nat.reduceGT, reduceIte, Int.reduceNeg, Int.reduceToNat]) |  refine And.intro ?_ ?_ | intro _))
    all_goals first | omega | exact hwf.1 | exact hwf.2 _ ‹_› | exact ⟨_, _, _, rfl⟩ | exact ⟨_, _, rfl, _, _, rfl, rfl⟩ | exact if_neg (by omega) | exact ⟨_, _, if_neg (by omega)⟩ | exact ⟨_, _, rfl⟩ | skip
    all_goals trace_state
end
end Go.Proofs.YtolnapfgfdgifaaGreatDoor

/-
  DERIVED. named, of the program: the first frame with a name.
-/
namespace Go.Proofs.YtolnapfgfdgifaaGreatDoor
open Go.Vc
set_option linter.unusedSimpArgs false
set_option linter.unusedVariables false
set_option maxHeartbeats 1000000
set_option maxRecDepth 10000
attribute [local go_sem] St.runR St.runW St.stepV offV St.step St.stepU St.stepG mkCond guardB St.prK St.pr St.prLen St.eff St.callE St.callD St.callF St.callL aI aB aS aR aC St.isM St.argL Ctr.pure Ctr.lend Ctr.move Ctr.isL Ctr.wri pur len lentBy St.lentV St.lent1 nthS argsR restOf obsR pairs swapL unObs backL St.resL erL SV.ren1 SV.up SV.up2 Ob.up St.fzL cellIds partIds St.intoRow SV.ownId St.fz SV.fz1 St.prep St.mvL St.mv SV.re1 rnOk St.prEq vals eqCells scEq Value.kd St.prStr St.prCut cutR St.bnd St.prMin St.bld isShift outL retL outJ oR oC St.ev St.get St.put St.new St.kill SV.kill SV.kill1 Ob.kill St.app St.wrt St.rowsOf St.res St.killL lk er argsL SV.strip SV.need SV.share SV.share1 SV.owns SV.owns1 SV.owns2 SV.good SV.good1 SV.rok SV.rok1 SV.rok2 SV.isV SV.isV2 nodupN SV.cells SV.one SV.pur Ob.pb partsIn rowsIn splice cellsAt dstOk scal2 scal1 thenK blockK retK outK outs okC okL okA okT nilC nilL nilA nilT keepC keepL keepA keepT St.runG St.dltK St.least St.clean St.final St.hide offK badS badO SV.refs SV.leaf SV.leaf2 Ob.refs dlOk fpAt Go.Vc.cover tups SV.ofAgg St.out outC subL St.has rng wr Value.oneCell' Option.isSome_some Option.isSome_none List.nil_append Bool.false_eq_true List.map_cons List.map_nil List.all_cons List.all_nil List.length_cons List.length_nil List.drop_zero List.drop_succ_cons List.take_succ_cons List.take_zero List.drop_nil List.take_nil List.getElem?_cons_zero List.getElem?_cons_succ List.getElem?_nil List.cons_append List.nil_append List.append_nil List.append_assoc List.flatMap_cons List.flatMap_nil List.contains_cons List.contains_nil List.set_cons_zero List.set_cons_succ List.getElem?_toArray Option.getD_some Option.getD_none Option.map_some Option.map_none Option.bind_some Option.some.injEq Prod.mk.injEq if_true if_false true_and and_true and_self and_false false_and Bool.and_false Bool.false_and Bool.or_true Bool.true_or Bool.or_false Bool.false_or ne_eq not_true_eq_false not_false_eq_true decide_true decide_false List.mem_cons List.not_mem_nil List.filter_cons List.filter_nil List.any_cons List.any_nil List.isEmpty_nil List.isEmpty_cons Option.getD_none or_false false_or true_or or_true forall_eq_or_imp forall_eq reduceCtorEq exists_eq exists_eq' exists_eq_left' exists_eq_left exists_eq_right exists_eq_right' imp_self implies_true Bool.and_true Bool.true_and Bool.and_self beq_self_eq_true List.replicate_succ List.replicate_zero forall_const false_implies pickB_or pickB_and beqT beqF Int.toNat_natCast List.length_map List.length_replicate ge_iff_le gt_iff_lt decide_eq_true_eq decide_eq_false_iff_not Bool.and_eq_true Bool.or_eq_true Bool.not_eq_true' Bool.not_eq_false' condG List.toList_toArray Bool.or_eq_false_iff Bool.and_eq_false_iff Int.not_lt Int.not_le beq_iff_eq beq_eq_false_iff_ne bne_iff_ne bne_eq_false_iff_eq ne_eq Bool.not_true Bool.not_false exists_and_left
attribute [local irreducible] Go.Vc.WP
attribute [local go_sem] cx0_t cx0_c
attribute [local go_sem] decFrame_enc oneFrame_enc capS
theorem oneFrame_ab' (a : ByteArray) (b : Int) : oneFrame [.v (.string a), .v (.int .i64 b)] = ⟨a, b⟩ := rfl
attribute [local go_sem] oneFrame_ab'
def kNamed1 : Ctr := pur (fun args => (oneFrame (aC args 0), capS args 1)) (fun x => [.agg (encFrame x.1), .rptr 1 [[.v (.string x.2)]] 0 0]) (fun _ => True) (fun _ x => .v (.bool (hasName x.2 x.1))) (fun _ _ => [])
section
noncomputable def cxNm1 : Cx := { P := Tryz.prog, tys := tys, C := [], hty := tysOk, hC := COk.nil _ }
theorem cxNm1_t : cxNm1.tys = tys := rfl
theorem cxNm1_c : cxNm1.C = [] := rfl
attribute [local go_sem] cxNm1_t cxNm1_c 
theorem cNamed1 : Cn Tryz.prog 106 kNamed1 := by
  refine Cn.pur Tryz.func106 (by kernel_rfl) rfl fun d x hx => ?_
  obtain ⟨x, s⟩ := x
  refine Holds.go (c := cxNm1) Tryz.func106 rfl Tryz.results106 Tryz.ntmps106 (by omega) (by simp) rfl ?_
  intro X0 w0
  have hr : Go.Vc.rowAt [[SV.v (Value.string s)]] 0 = [SV.v (Value.string s)] := rfl
  simp only [encFrame]
  (repeat' (first | refine WP.seq ?_ | refine WP.block ?_ | ((first | refine WP.region ?_ | refine WP.condW ?_ | refine WP.ret ?_ | refine WP.exit ?_ | refine WP.skip ?_); simp only [go_sem, hr, hasName, tyAll, Nat.reduceAdd, Nat.reduceLT, Nat.reduceLeDiff, Nat.reduceEqDiff, Nat.reduceMul, Nat.reduceSub, Nat.reduceGT, reduceIte, Int.reduceNeg, Int.reduceToNat]) |  refine And.intro ?_ ?_ | intro _))
  all_goals first | omega | skip
end
def kIdxFr : Ctr := pur (fun args => (decFrame (aR args 0), capS args 1)) (fun x => [.sl 2 (x.1.map encFrame), .fn 106 [.rptr 1 [[.v (.string x.2)]] 0 0]]) (fun x => x.1.length ≤ 4398046511104)
  (fun _ x => .v (.int .i64 (idxF x.2 x.1))) (fun _ _ => [])
section
noncomputable def cxNm2 : Cx := { P := Tryz.prog, tys := tys, C := [(106, kNamed1)], hty := tysOk, hC := COk.cons cNamed1 (COk.nil _) }
theorem cxNm2_t : cxNm2.tys = tys := rfl
theorem cxNm2_c : cxNm2.C = [(106, kNamed1)] := rfl
attribute [local go_sem] cxNm2_t cxNm2_c kNamed1
theorem cIdxFr : Cn Tryz.prog 105 kIdxFr := by
  refine Cn.pur Tryz.func105 (by kernel_rfl) rfl fun d x hx => ?_
  obtain ⟨L, s⟩ := x
  simp only at hx ⊢
  refine Holds.go (c := cxNm2) Tryz.func105 rfl Tryz.results105 Tryz.ntmps105 (by omega) (by simp) rfl ?_
  intro X0 w0
  (repeat' (first | refine WP.seq ?_ | refine WP.block ?_ | ((first | refine WP.region ?_ | refine WP.condW ?_ | refine WP.ret ?_ | refine WP.exit ?_ | refine WP.skip ?_); simp only [go_sem, tyAll, Nat.reduceAdd, Nat.reduceLT, Nat.reduceLeDiff, Nat.reduceEqDiff, Nat.reduceMul, Nat.reduceSub, Nat.reduceGT, reduceIte, Int.reduceNeg, Int.reduceToNat]) |  refine And.intro ?_ ?_ | intro _))
  refine WP.loop (fun k : Nat => ⟨[(0, .sl 2 (L.map encFrame)), (1, .fn 106 [.rptr 1 [[.v (.string s)]] 0 0]), (7, .v (.int .i64 L.length)), (8, .v (.int .i64 k))], []⟩)
    (fun k => k ≤ L.length ∧ ∀ i (hi : i < L.length), i < k → hasName s L[i] = false) (fun k => L.length - k) 0 (by simp) ?_ ?_
  · (simp only [go_sem, tyAll, Nat.reduceAdd, Nat.reduceLT, Nat.reduceLeDiff, Nat.reduceEqDiff, Nat.reduceMul, Nat.reduceSub, Nat.reduceGT, reduceIte, Int.reduceNeg, Int.reduceToNat] <;> (first | rfl | exact ⟨rfl, rfl⟩ | exact ⟨rfl, rfl, rfl⟩ | exact ⟨rfl, rfl, rfl, rfl⟩ | exact ⟨rfl, rfl, rfl, rfl, rfl⟩ | exact ⟨⟨rfl, rfl⟩, rfl⟩ | simp))
  intro k ⟨hk, hf⟩
  by_cases hlt : k < L.length
  · have hli : (k : Int) < L.length := by omega
    have h1 := rowAt_map encFrame L k hlt
    (repeat' (first | refine WP.seq ?_ | refine WP.block ?_ | ((first | refine WP.region ?_ | refine WP.condW ?_ | refine WP.ret ?_ | refine WP.exit ?_ | refine WP.skip ?_); simp only [go_sem, hli, h1, encFrame, tyAll, Nat.reduceAdd, Nat.reduceLT, Nat.reduceLeDiff, Nat.reduceEqDiff, Nat.reduceMul, Nat.reduceSub, Nat.reduceGT, reduceIte, Int.reduceNeg, Int.reduceToNat]) |  refine And.intro ?_ ?_ | intro _))
    all_goals first | omega | skip
    · rename_i hh
      rw [show idxF s L = k from firstIdx_hit (p := hasName s) hlt hf (by first | exact hh | simpa [hasName] using hh)]
    · rename_i hh
      refine ⟨k + 1, ⟨by omega, fun i hi hik => ?_⟩, by omega, rfl⟩
      rcases Nat.lt_or_ge i k with h | h
      · exact hf i hi h
      · have : i = k := by omega
        subst this
        first | exact hh | simpa [hasName] using hh
  · have hge : ¬ (k : Int) < L.length := by omega
    (repeat' (first | refine WP.seq ?_ | refine WP.block ?_ | ((first | refine WP.region ?_ | refine WP.condW ?_ | refine WP.ret ?_ | refine WP.exit ?_ | refine WP.skip ?_); simp only [go_sem, hge, tyAll, Nat.reduceAdd, Nat.reduceLT, Nat.reduceLeDiff, Nat.reduceEqDiff, Nat.reduceMul, Nat.reduceSub, Nat.reduceGT, reduceIte, Int.reduceNeg, Int.reduceToNat]) |  refine And.intro ?_ ?_ | intro _))
    all_goals first | omega | skip
    rw [show idxF s L = -1 from firstIdx_none fun i hi => hf i hi (by omega)]
end
def kNamed : Ctr := pur (fun args => (decFrame (aR args 0), aS args 1)) (fun x => [.sl 2 (x.1.map encFrame), .v (.string x.2)]) (fun x => x.1.length ≤ 4398046511104) (fun _ x => .v (.int .i64 (idxF x.2 x.1))) (fun _ _ => [])
section
noncomputable def cxNm3 : Cx := { P := Tryz.prog, tys := tys, C := [(105, kIdxFr)], hty := tysOk, hC := COk.cons cIdxFr (COk.nil _) }
theorem cxNm3_t : cxNm3.tys = tys := rfl
theorem cxNm3_c : cxNm3.C = [(105, kIdxFr)] := rfl
attribute [local go_sem] cxNm3_t cxNm3_c kIdxFr
theorem cNamed : Cn Tryz.prog 63 kNamed := by
  refine Cn.pur Tryz.func63 (by kernel_rfl) rfl fun d x hx => ?_
  obtain ⟨L, s⟩ := x
  simp only at hx ⊢
  refine Holds.go (c := cxNm3) Tryz.func63 rfl Tryz.results63 Tryz.ntmps63 (by omega) (by simp) rfl ?_
  intro X0 w0
  (repeat' (first | refine WP.seq ?_ | refine WP.block ?_ | ((first | refine WP.region ?_ | refine WP.condW ?_ | refine WP.ret ?_ | refine WP.exit ?_ | refine WP.skip ?_); simp only [go_sem, tyAll, Nat.reduceAdd, Nat.reduceLT, Nat.reduceLeDiff, Nat.reduceEqDiff, Nat.reduceMul, Nat.reduceSub, Nat.reduceGT, reduceIte, Int.reduceNeg, Int.reduceToNat]) |  refine And.intro ?_ ?_ | intro _))
  all_goals first | omega | skip
end
end Go.Proofs.YtolnapfgfdgifaaGreatDoor

/-
  DERIVED. The library's contracts, laid at this program: tables of numbers. Printed by the kit's tools (lay.py).
-/
namespace Go.Proofs
open Go.Shelf
def Tryz.lSlF06_98_ren : Go.Shelf.Ren := ⟨fun | 6 => 98 | 15 => 114 | 14 => 128 | 28 => 140 | 29 => 141 | 20 => 154 | 21 => 155 | 22 => 156 | 23 => 157 | 24 => 158 | 25 => 159 | 26 => 160 | 27 => 161 | 46 => 179 | 47 => 168 | 48 => 169 | 49 => 180 | 50 => 181 | 57 => 195 | n => n, fun | 22 => 44 | 24 => 66 | 25 => 107 | 3 => 3 | 39 => 122 | 0 => 0 | 53 => 144 | 55 => 146 | 4 => 4 | 46 => 138 | 45 => 137 | 50 => 103 | 5 => 5 | 9 => 9 | 66 => 169 | 70 => 173 | 76 => 185 | 77 => 186 | n => n, fun | n => n⟩
theorem Tryz.lSlF06_98 : Go.Proofs.SlLaysF0.n6 Tryz.prog Tryz.lSlF06_98_ren := {
  mixed := by kernel_rfl
  f6 := ⟨Tryz.f98.name, by decide, Tryz.func98.trans (congrArg some (by kernel_rfl))⟩
  f14 := ⟨Tryz.f128.name, by decide, Tryz.func128.trans (congrArg some (by kernel_rfl))⟩
  f15 := Tryz.func114.trans (congrArg some (by kernel_rfl))
  f20 := ⟨Tryz.f154.name, by decide, Tryz.func154.trans (congrArg some (by kernel_rfl))⟩
  f21 := ⟨Tryz.f155.name, by decide, Tryz.func155.trans (congrArg some (by kernel_rfl))⟩
  f22 := ⟨Tryz.f156.name, by decide, Tryz.func156.trans (congrArg some (by kernel_rfl))⟩
  f23 := ⟨Tryz.f157.name, by decide, Tryz.func157.trans (congrArg some (by kernel_rfl))⟩
  f24 := ⟨Tryz.f158.name, by decide, Tryz.func158.trans (congrArg some (by kernel_rfl))⟩
  f25 := ⟨Tryz.f159.name, by decide, Tryz.func159.trans (congrArg some (by kernel_rfl))⟩
  f26 := ⟨Tryz.f160.name, by decide, Tryz.func160.trans (congrArg some (by kernel_rfl))⟩
  f27 := ⟨Tryz.f161.name, by decide, Tryz.func161.trans (congrArg some (by kernel_rfl))⟩
  f28 := Tryz.func140.trans (congrArg some (by kernel_rfl))
  f29 := Tryz.func141.trans (congrArg some (by kernel_rfl))
  f46 := ⟨Tryz.f179.name, by decide, Tryz.func179.trans (congrArg some (by kernel_rfl))⟩
  f47 := Tryz.func168.trans (congrArg some (by kernel_rfl))
  f48 := Tryz.func169.trans (congrArg some (by kernel_rfl))
  f49 := ⟨Tryz.f180.name, by decide, Tryz.func180.trans (congrArg some (by kernel_rfl))⟩
  f50 := ⟨Tryz.f181.name, by decide, Tryz.func181.trans (congrArg some (by kernel_rfl))⟩
  f57 := ⟨Tryz.f195.name, by decide, Tryz.func195.trans (congrArg some (by kernel_rfl))⟩
  t0 := Tryz.underlying0
  a0 := Tryz.isAgg0
  z0 := Tryz.sizeOf0
  v0 := Tryz.zeroValue0
  t3 := Tryz.underlying3
  a3 := Tryz.isAgg3
  z3 := Tryz.sizeOf3
  v3 := Tryz.zeroValue3
  t4 := Tryz.underlying4
  a4 := Tryz.isAgg4
  z4 := Tryz.sizeOf4
  v4 := Tryz.zeroValue4
  t5 := Tryz.underlying5
  a5 := Tryz.isAgg5
  z5 := Tryz.sizeOf5
  v5 := Tryz.zeroValue5
  t9 := Tryz.underlying9
  a9 := Tryz.isAgg9
  z9 := Tryz.sizeOf9
  v9 := Tryz.zeroValue9
  t22 := Tryz.underlying44
  a22 := Tryz.isAgg44
  z22 := Tryz.sizeOf44
  v22 := Tryz.zeroValue44
  t25 := Tryz.underlying107
  a25 := Tryz.isAgg107
  z25 := Tryz.sizeOf107
  v25 := Tryz.zeroValue107
  t39 := Tryz.underlying122
  a39 := Tryz.isAgg122
  z39 := Tryz.sizeOf122
  v39 := Tryz.zeroValue122
  t45 := Tryz.underlying137
  a45 := Tryz.isAgg137
  z45 := Tryz.sizeOf137
  v45 := Tryz.zeroValue137
  t46 := Tryz.underlying138
  a46 := Tryz.isAgg138
  z46 := Tryz.sizeOf138
  v46 := Tryz.zeroValue138
  t50 := Tryz.underlying103
  a50 := Tryz.isAgg103
  z50 := Tryz.sizeOf103
  v50 := Tryz.zeroValue103
  t53 := Tryz.underlying144
  a53 := Tryz.isAgg144
  z53 := Tryz.sizeOf144
  v53 := Tryz.zeroValue144
  t55 := Tryz.underlying146
  a55 := Tryz.isAgg146
  z55 := Tryz.sizeOf146
  v55 := Tryz.zeroValue146
  t66 := Tryz.underlying169
  a66 := Tryz.isAgg169
  z66 := Tryz.sizeOf169
  v66 := Tryz.zeroValue169
  t70 := Tryz.underlying173
  a70 := Tryz.isAgg173
  z70 := Tryz.sizeOf173
  v70 := Tryz.zeroValue173
  t76 := Tryz.underlying185
  a76 := Tryz.isAgg185
  z76 := Tryz.sizeOf185
  v76 := Tryz.zeroValue185
  t77 := Tryz.underlying186
  a77 := Tryz.isAgg186
  z77 := Tryz.sizeOf186
  v77 := Tryz.zeroValue186 }
def Tryz.lSlF06_74_ren : Go.Shelf.Ren := ⟨fun | 6 => 74 | 15 => 114 | 14 => 113 | 28 => 140 | 29 => 141 | 20 => 132 | 21 => 133 | 22 => 134 | 23 => 135 | 24 => 136 | 25 => 137 | 26 => 138 | 27 => 139 | 46 => 167 | 47 => 168 | 48 => 169 | 49 => 170 | 50 => 171 | 57 => 189 | n => n, fun | 22 => 48 | 24 => 87 | 25 => 92 | 3 => 3 | 39 => 122 | 0 => 0 | 53 => 144 | 55 => 146 | 4 => 4 | 46 => 138 | 45 => 137 | 50 => 103 | 5 => 5 | 9 => 9 | 66 => 169 | 70 => 173 | 76 => 185 | 77 => 186 | n => n, fun | n => n⟩
theorem Tryz.lSlF06_74 : Go.Proofs.SlLaysF0.n6 Tryz.prog Tryz.lSlF06_74_ren := {
  mixed := by kernel_rfl
  f6 := ⟨Tryz.f74.name, by decide, Tryz.func74.trans (congrArg some (by kernel_rfl))⟩
  f14 := ⟨Tryz.f113.name, by decide, Tryz.func113.trans (congrArg some (by kernel_rfl))⟩
  f15 := Tryz.func114.trans (congrArg some (by kernel_rfl))
  f20 := ⟨Tryz.f132.name, by decide, Tryz.func132.trans (congrArg some (by kernel_rfl))⟩
  f21 := ⟨Tryz.f133.name, by decide, Tryz.func133.trans (congrArg some (by kernel_rfl))⟩
  f22 := ⟨Tryz.f134.name, by decide, Tryz.func134.trans (congrArg some (by kernel_rfl))⟩
  f23 := ⟨Tryz.f135.name, by decide, Tryz.func135.trans (congrArg some (by kernel_rfl))⟩
  f24 := ⟨Tryz.f136.name, by decide, Tryz.func136.trans (congrArg some (by kernel_rfl))⟩
  f25 := ⟨Tryz.f137.name, by decide, Tryz.func137.trans (congrArg some (by kernel_rfl))⟩
  f26 := ⟨Tryz.f138.name, by decide, Tryz.func138.trans (congrArg some (by kernel_rfl))⟩
  f27 := ⟨Tryz.f139.name, by decide, Tryz.func139.trans (congrArg some (by kernel_rfl))⟩
  f28 := Tryz.func140.trans (congrArg some (by kernel_rfl))
  f29 := Tryz.func141.trans (congrArg some (by kernel_rfl))
  f46 := ⟨Tryz.f167.name, by decide, Tryz.func167.trans (congrArg some (by kernel_rfl))⟩
  f47 := Tryz.func168.trans (congrArg some (by kernel_rfl))
  f48 := Tryz.func169.trans (congrArg some (by kernel_rfl))
  f49 := ⟨Tryz.f170.name, by decide, Tryz.func170.trans (congrArg some (by kernel_rfl))⟩
  f50 := ⟨Tryz.f171.name, by decide, Tryz.func171.trans (congrArg some (by kernel_rfl))⟩
  f57 := ⟨Tryz.f189.name, by decide, Tryz.func189.trans (congrArg some (by kernel_rfl))⟩
  t0 := Tryz.underlying0
  a0 := Tryz.isAgg0
  z0 := Tryz.sizeOf0
  v0 := Tryz.zeroValue0
  t3 := Tryz.underlying3
  a3 := Tryz.isAgg3
  z3 := Tryz.sizeOf3
  v3 := Tryz.zeroValue3
  t4 := Tryz.underlying4
  a4 := Tryz.isAgg4
  z4 := Tryz.sizeOf4
  v4 := Tryz.zeroValue4
  t5 := Tryz.underlying5
  a5 := Tryz.isAgg5
  z5 := Tryz.sizeOf5
  v5 := Tryz.zeroValue5
  t9 := Tryz.underlying9
  a9 := Tryz.isAgg9
  z9 := Tryz.sizeOf9
  v9 := Tryz.zeroValue9
  t22 := Tryz.underlying48
  a22 := Tryz.isAgg48
  z22 := Tryz.sizeOf48
  v22 := Tryz.zeroValue48
  t25 := Tryz.underlying92
  a25 := Tryz.isAgg92
  z25 := Tryz.sizeOf92
  v25 := Tryz.zeroValue92
  t39 := Tryz.underlying122
  a39 := Tryz.isAgg122
  z39 := Tryz.sizeOf122
  v39 := Tryz.zeroValue122
  t45 := Tryz.underlying137
  a45 := Tryz.isAgg137
  z45 := Tryz.sizeOf137
  v45 := Tryz.zeroValue137
  t46 := Tryz.underlying138
  a46 := Tryz.isAgg138
  z46 := Tryz.sizeOf138
  v46 := Tryz.zeroValue138
  t50 := Tryz.underlying103
  a50 := Tryz.isAgg103
  z50 := Tryz.sizeOf103
  v50 := Tryz.zeroValue103
  t53 := Tryz.underlying144
  a53 := Tryz.isAgg144
  z53 := Tryz.sizeOf144
  v53 := Tryz.zeroValue144
  t55 := Tryz.underlying146
  a55 := Tryz.isAgg146
  z55 := Tryz.sizeOf146
  v55 := Tryz.zeroValue146
  t66 := Tryz.underlying169
  a66 := Tryz.isAgg169
  z66 := Tryz.sizeOf169
  v66 := Tryz.zeroValue169
  t70 := Tryz.underlying173
  a70 := Tryz.isAgg173
  z70 := Tryz.sizeOf173
  v70 := Tryz.zeroValue173
  t76 := Tryz.underlying185
  a76 := Tryz.isAgg185
  z76 := Tryz.sizeOf185
  v76 := Tryz.zeroValue185
  t77 := Tryz.underlying186
  a77 := Tryz.isAgg186
  z77 := Tryz.sizeOf186
  v77 := Tryz.zeroValue186 }
end Go.Proofs

/-
  DERIVED. The library's sort of structs, as a contract of a list that is lent.
-/
namespace Go.Vc
open Go.Pl
set_option linter.unusedVariables false

theorem vrows_map {α : Type} (enc : α → List Value) (en : α → List SV) (h : ∀ x, (enc x).map SV.v = en x) (L : List α) : vrows (L.map enc) = L.map en := by
  unfold vrows
  rw [List.map_map]
  exact List.map_congr_left fun x _ => h x

theorem sortK_holdsL {P : Program} {ρ : Go.Shelf.Ren} (L : Go.Proofs.SlLaysF0.n6 P ρ) {α : Type} [Inhabited α] (k : Nat) (hk0 : 0 < k) (aE : ∀ w, (isAgg (ρ.t 24)).run P w = .ok true w) (zE : ∀ w, (Go.sizeOf (ρ.t 24)).run P w = .ok k w)
    (enc : α → List Value) (hk : ∀ x, (enc x).length = k) (h1 : ∀ x, ∀ v ∈ enc x, v.oneCell' = true) (cf : α → α → Int) (hO : Go.Sort.SWO (Go.Proofs.ltOf cf)) (g : Nat) (eg : ∀ args w, (callFunc g args).run P w = .ok (.enter g args) w)
    (hcmp : ∀ blk off size w, Go.Proofs.CmpLays P g #[] enc k cf blk off size w) (lt : α → α → Bool) (hlt : ∀ x y, Go.Proofs.ltOf cf x y = lt x y) (hS : Strict lt) (e : Nat) (M : List α) (hM : M.length ≤ 1099511627776)
    (hp : M.Pairwise fun a b => lt a b = true ∨ lt b a = true) :
    HoldsL P (ρ.f 6) (.own 1000000 :: [.fn g []]) [(1000000, .sl e k (vrows (M.map enc)))] (.tup []) [] [(1000000, .sl e k (vrows ((insAll lt M).map enc)))] := by
  have fnv : ∀ {w : World} {us : List Value}, us.length = [SV.fn g []].length → (∀ (i : Nat) (c : SV) (u : Value), [SV.fn g []][i]? = some c → us[i]? = some u → R w (fun _ => False) (fun _ => .slice none 0 0) c u) → us = [.func (.func g) #[] #[]] := fun {w us} hl ha => by
    match us, hl with
    | [u], _ =>
      obtain ⟨cs, rfl, hcl, _⟩ := (ha 0 _ u rfl rfl).fn_inv
      have : cs = [] := List.eq_nil_of_length_eq_zero (by simpa using hcl.symm)
      subst this; rfl
  refine HoldsL.cells (fun r hr => by obtain ⟨x, _, rfl⟩ := List.mem_map.1 hr; exact hk x) (by simp [insAll_len]) (fun r hr => by obtain ⟨x, _, rfl⟩ := List.mem_map.1 hr; exact hk x)
    (fun r hr u hu => by obtain ⟨x, _, rfl⟩ := List.mem_map.1 hr; exact h1 x u hu) (fun hn w us hl ha => ?_) (fun c hc => by simp only [List.mem_cons, List.not_mem_nil, or_false] at hc; exact .inl ⟨g, hc⟩) (fun w b cap cur us hG hh hrc hcm hsz hcell hl ha => ?_)
  · rw [fnv hl ha]
    exact (Go.Proofs.AnyF.slices_SortFunc_none L none 0 _ w).mono fun en w' ⟨he, hw⟩ => ⟨he, by rw [hw]; exact Go.RowKit.Below.refl _ _⟩
  · rw [fnv hl ha, List.length_map]
    have hd : M.toArray.size = M.length := by simp
    have hH : Go.Sort.HoldsK enc k w b 0 M.toArray := holds_cells (enc := id) hh (fun j hj => by
      rw [Go.Sort.size_flatK, hd] at hj
      rw [Go.Sort.get_flatK enc k _ j (by rw [hd]; exact hj)]
      have hq : j / k < M.length := Nat.div_lt_of_lt_mul (by rw [Nat.mul_comm]; exact hj)
      have hr : j % k < k := Nat.mod_lt _ hk0
      have hrow : (M.map enc)[j / k]? = some (enc M[j / k]) := by rw [List.getElem?_map, List.getElem?_eq_getElem hq]; rfl
      have hu : (enc M[j / k])[j % k]? = some ((enc M[j / k])[j % k]'(by rw [hk]; exact hr)) := List.getElem?_eq_getElem _
      have h2 := (hcell (j / k) (j % k) _ _ hrow hu).1
      have e1 : j / k * k + j % k = j := by rw [Nat.mul_comm]; exact Nat.div_add_mod j k
      rw [e1] at h2
      have e2 : M.toArray[j / k]! = M[j / k] := by rw [getElem!_pos _ _ (by simpa using hq)]; simp
      rw [h2, e2, getElem!_pos _ _ (by rw [hk]; exact hr)]; rfl)
    have hs := Go.Proofs.AnyQ.slices_SortFunc L k aE zE enc hk h1 cf hO g #[] b 0 cap M.toArray w eg (hcmp _ _ _ _) hH (lt_of_heap hh) (by rw [hd]; omega)
    rw [hd] at hs
    refine hs.mono fun en w' ⟨he, d', n, os, hpm, hst, hw⟩ => ⟨he, ?_⟩
    have hsize : d'.size = M.length := by rw [hpm.1, hd]
    have hperm : d'.toList.Perm M := by
      have := hpm.2.2
      have e1 : d'.extract 0 M.length = d' := Array.extract_eq_self_of_le (by omega)
      have e2 : M.toArray.extract 0 M.length = M.toArray := Array.extract_eq_self_of_le (by rw [hd]; exact Nat.le_refl _)
      rw [e1, e2] at this
      simpa using this
    have hsorted : d'.toList.Pairwise fun a b => lt b a = false := by
      rw [List.pairwise_iff_getElem]
      intro i j hi hj hij
      have h3 := hst i j (Nat.zero_le _) hij (by simpa [hsize] using hj)
      rw [hlt] at h3
      have hi' : i < d'.size := by simpa using hi
      have hj' : j < d'.size := by simpa using hj
      rw [getElem!_pos d' i hi', getElem!_pos d' j hj'] at h3
      simpa using h3
    have hins := insAll_unique hS hp hperm hsorted
    have hfl : (Go.Sort.flatK enc k d').size ≤ cur.size := by
      rw [Go.Sort.size_flatK, hsize, hsz]
      exact Nat.mul_le_mul_right k (by simpa using hrc)
    obtain ⟨hU, hnew⟩ := upd_putRow (id : Value → Value) n (Go.Sort.flatK enc k d') os hh hfl
    refine ⟨_, by rw [hw]; exact hU, fun i c r u hr hu => ?_⟩
    rw [← hins, List.getElem?_map] at hr
    have hil : i < d'.size := by
      by_cases h : i < d'.toList.length
      · simpa using h
      · rw [List.getElem?_eq_none (by omega)] at hr; cases hr
    rw [Array.getElem?_toList, Array.getElem?_eq_getElem hil] at hr
    simp only [Option.map_some, Option.some.injEq] at hr
    subst hr
    have hc : c < k := by rw [← hk d'[i]]; exact (List.getElem?_eq_some_iff.1 hu).1
    have hlt' : i * k + c < d'.size * k := by
      have := Nat.mul_le_mul_right k (show i + 1 ≤ d'.size from hil)
      rw [Nat.add_mul, Nat.one_mul] at this; omega
    have e1 : (i * k + c) / k = i := by rw [Nat.mul_comm, Nat.mul_add_div hk0, Nat.div_eq_of_lt hc]; rfl
    have e2 : (i * k + c) % k = c := by rw [Nat.mul_comm, Nat.mul_add_mod, Nat.mod_eq_of_lt hc]
    rw [hnew _ (by rw [Go.Sort.size_flatK]; exact hlt'), Go.Sort.get_flatK enc k d' _ hlt', e1, e2, getElem!_pos d' i hil]
    obtain ⟨hcl, hcv⟩ := List.getElem?_eq_some_iff.1 hu
    rw [getElem!_pos (enc d'[i]) c hcl, hcv]; rfl
end Go.Vc

/-
  DERIVED. The library's sort of entries, as the program calls it.
-/
namespace Go.Proofs.YtolnapfgfdgifaaGreatDoor
open Go.Vc Go.Pl Go.Shelf Go.RowKit Go.Lib Go.Sort
set_option linter.unusedVariables false
theorem cmp_less : ∀ a b : List UInt8, decide (compareBytes a b < 0) = Op.bytesLess a b
  | [], [] => rfl
  | [], _ :: _ => rfl
  | _ :: _, [] => rfl
  | a :: l, b :: m => by
    have ih := cmp_less l m
    unfold compareBytes Op.bytesLess
    by_cases h : a < b
    · simp [h]
    · by_cases h2 : b < a
      · have : ¬ a = b := fun e => by subst e; exact h h2
        simp [h, h2, this]
      · have : a = b := by
          have h3 : ¬ a.toNat < b.toNat := fun hh => h (UInt8.lt_iff_toNat_lt.2 hh)
          have h4 : ¬ b.toNat < a.toNat := fun hh => h2 (UInt8.lt_iff_toNat_lt.2 hh)
          exact UInt8.toNat_inj.1 (by omega)
        simp [h, h2, this, ih]
theorem toList_data (a : ByteArray) : a.data.toList = a.toList := by rw [ByteArray.toList_eq]
def cfE (x y : Entry) : Int := compareBytes x.stack.data.toList y.stack.data.toList
theorem ltE_cf (x y : Entry) : ltOf cfE x y = ltE x y := by
  unfold ltOf cfE ltE ltS
  rw [cmp_less, toList_data, toList_data]
theorem swoE : SWO (ltOf cfE) := ⟨fun x => by rw [ltE_cf]; exact ltS_irrefl _, fun x y z h1 h2 => by rw [ltE_cf] at h1 h2 ⊢; exact ltS_trans h1 h2, fun x y z h1 h2 => by rw [ltE_cf] at h1 h2 ⊢; exact ltS_ntrans h1 h2⟩
def vEntry (x : Entry) : List Value := [.string x.stack, .int .i64 x.count]
set_option maxHeartbeats 1000000 in
theorem closureE (x y : Entry) (W : World) : Calls Tryz.prog 99 #[.agg #[.string x.stack, .int .i64 x.count], .agg #[.string y.stack, .int .i64 y.count]] W fun e w' => e = .returned (.int .i64 (cfE x y)) ∧ ∃ q os', w' = grow (W.drewN q) os' := by
  unfold cfE
  have hcon := fun W' => Any.strings_Compare Tryz.l106 x.stack y.stack W'
  change ∀ W', Calls Tryz.prog 76 _ _ _ at hcon
  generalize Lib.compareBytes x.stack.data.toList y.stack.data.toList = r at hcon ⊢
  go_enter Tryz.func99, Tryz.ntmps99
  go_wp2_with (go_at_call 76; refine (hcon _).mono ?_; rintro e w' ⟨rfl, rfl⟩)
  go_ret
  exact ⟨rfl, 0, _, by rw [alloc_eq_grow, alloc_eq_grow, grow_grow]; rfl⟩
instance : Inhabited Entry := ⟨⟨⟨#[]⟩, 0⟩⟩
def kSortE : Ctr := len [0] [] (fun args obs => decEntry (oR obs 1000000)) (fun x => [.own 1000000, .fn 99 []]) (fun x => [(1000000, .sl 66 2 (x.map encEntry))])
  (fun x => x.length ≤ 1099511627776 ∧ x.Pairwise fun a b => ltE a b = true ∨ ltE b a = true) (fun _ x => .tup []) (fun _ _ => []) (fun x => [(1000000, .sl 66 2 ((insAll ltE x).map encEntry))])
theorem cSortE : Cn Tryz.prog 98 kSortE := by
  refine Cn.len Tryz.func98 (by kernel_rfl) rfl fun d x hd hx => ?_
  have eg : ∀ args w, (callFunc 99 args).run Tryz.prog w = .ok (.enter 99 args) w := enters_of Tryz.func99 (by kernel_rfl) rfl
  have h := sortK_holdsL Tryz.lSlF06_98 2 (by omega) Tryz.isAgg66 Tryz.sizeOf66 vEntry (fun _ => rfl) (fun x v hv => by simp [vEntry] at hv; rcases hv with rfl | rfl <;> rfl) cfE swoE 99 eg
    (fun blk off size w _ _ _ _ x y => closureE x y _) ltE ltE_cf ltE_strict 66 x hx.1 hx.2
  rw [vrows_map vEntry encEntry (fun _ => rfl), vrows_map vEntry encEntry (fun _ => rfl)] at h
  exact h
end Go.Proofs.YtolnapfgfdgifaaGreatDoor

/-
  DERIVED. EntriesOf, of the program.
-/
namespace Go.Proofs.YtolnapfgfdgifaaGreatDoor
open Go.Vc
set_option linter.unusedSimpArgs false
set_option linter.unusedVariables false
set_option maxHeartbeats 1000000
set_option maxRecDepth 10000
attribute [local go_sem] St.runR St.runW St.stepV offV St.step St.stepU St.stepG mkCond guardB St.prK St.pr St.prLen St.eff St.callE St.callD St.callF St.callL aI aB aS aR aC St.isM St.argL Ctr.pure Ctr.lend Ctr.move Ctr.isL Ctr.wri pur len lentBy St.lentV St.lent1 nthS argsR restOf obsR pairs swapL unObs backL St.resL erL SV.ren1 SV.up SV.up2 Ob.up St.fzL cellIds partIds St.intoRow SV.ownId St.fz SV.fz1 St.prep St.mvL St.mv SV.re1 rnOk St.prEq vals eqCells scEq Value.kd St.prStr St.prCut cutR St.bnd St.prMin St.bld isShift outL retL outJ oR oC St.ev St.get St.put St.new St.kill SV.kill SV.kill1 Ob.kill St.app St.wrt St.rowsOf St.res St.killL lk er argsL SV.strip SV.need SV.share SV.share1 SV.owns SV.owns1 SV.owns2 SV.good SV.good1 SV.rok SV.rok1 SV.rok2 SV.isV SV.isV2 nodupN SV.cells SV.one SV.pur Ob.pb partsIn rowsIn splice cellsAt dstOk scal2 scal1 thenK blockK retK outK outs okC okL okA okT nilC nilL nilA nilT keepC keepL keepA keepT St.runG St.dltK St.least St.clean St.final St.hide offK badS badO SV.refs SV.leaf SV.leaf2 Ob.refs dlOk fpAt Go.Vc.cover tups SV.ofAgg St.out outC subL St.has rng wr Value.oneCell' Option.isSome_some Option.isSome_none List.nil_append Bool.false_eq_true List.map_cons List.map_nil List.all_cons List.all_nil List.length_cons List.length_nil List.drop_zero List.drop_succ_cons List.take_succ_cons List.take_zero List.drop_nil List.take_nil List.getElem?_cons_zero List.getElem?_cons_succ List.getElem?_nil List.cons_append List.nil_append List.append_nil List.append_assoc List.flatMap_cons List.flatMap_nil List.contains_cons List.contains_nil List.set_cons_zero List.set_cons_succ List.getElem?_toArray Option.getD_some Option.getD_none Option.map_some Option.map_none Option.bind_some Option.some.injEq Prod.mk.injEq if_true if_false true_and and_true and_self and_false false_and Bool.and_false Bool.false_and Bool.or_true Bool.true_or Bool.or_false Bool.false_or ne_eq not_true_eq_false not_false_eq_true decide_true decide_false List.mem_cons List.not_mem_nil List.filter_cons List.filter_nil List.any_cons List.any_nil List.isEmpty_nil List.isEmpty_cons Option.getD_none or_false false_or true_or or_true forall_eq_or_imp forall_eq reduceCtorEq exists_eq exists_eq' exists_eq_left' exists_eq_left exists_eq_right exists_eq_right' imp_self implies_true Bool.and_true Bool.true_and Bool.and_self beq_self_eq_true List.replicate_succ List.replicate_zero forall_const false_implies pickB_or pickB_and beqT beqF Int.toNat_natCast List.length_map List.length_replicate ge_iff_le gt_iff_lt decide_eq_true_eq decide_eq_false_iff_not Bool.and_eq_true Bool.or_eq_true Bool.not_eq_true' Bool.not_eq_false' condG List.toList_toArray Bool.or_eq_false_iff Bool.and_eq_false_iff Int.not_lt Int.not_le beq_iff_eq beq_eq_false_iff_ne bne_iff_ne bne_eq_false_iff_eq ne_eq Bool.not_true Bool.not_false exists_and_left
attribute [local irreducible] Go.Vc.WP
attribute [local go_sem] cx0_t cx0_c
open Go.Pl
attribute [local go_sem] isV_Node isV_It isV_Entry decNode_enc decFrame_enc oneFrame_enc stkA oneFrame_ab oneNode_abc decI_enc decS_enc aU prA decEntry_enc St.ado St.adoptB St.adoptS rp isNil St.fzS
theorem rawE_skip {N : List Node} {C : List Int} {k : Nat} (hk : k < C.length) (h : C[k] = 0) : rawE N C (k + 1) = rawE N C k := by
  rw [rawE_succ, show entAt N C k = none from if_pos (by rw [List.getD_eq_getElem?_getD, List.getElem?_eq_getElem hk]; exact h)]
  simp
theorem rawE_new {N : List Node} {C : List Int} {k : Nat} (hk : k < C.length) (h : ¬ C[k] = 0) : rawE N C (k + 1) = rawE N C k ++ [⟨fmtF (stackAt N k), C[k]⟩] := by
  have e : C.getD k 0 = C[k] := by rw [List.getD_eq_getElem?_getD, List.getElem?_eq_getElem hk]; rfl
  rw [rawE_succ, show entAt N C k = some ⟨fmtF (stackAt N k), C[k]⟩ by unfold entAt; rw [e, if_neg h]]
  rfl
section
noncomputable def cxEoI : Cx := { P := Tryz.prog, tys := tys, C := [(52, kPrOk), (97, kStackAt), (96, kFmtF), (98, kSortE)], hty := tysOk, hC := COk.cons cPrOkI (COk.cons cStackAtI (COk.cons cFmtFI (COk.cons cSortE (COk.nil _)))) }
theorem cxEoI_t : cxEoI.tys = tys := rfl
theorem cxEoI_c : cxEoI.C = [(52, kPrOk), (97, kStackAt), (96, kFmtF), (98, kSortE)] := rfl
attribute [local go_sem] cxEoI_t cxEoI_c kPrOk kStackAt kFmtF kSortE
theorem cEntI : Cn Tryz.prog 54 kEnt := by
  refine Cn.pur Tryz.func54 (by kernel_rfl) rfl fun d x hx => ?_
  obtain ⟨N, C⟩ := x
  obtain ⟨⟨hN, hs⟩, hC⟩ := hx
  simp only at hN hs hC ⊢
  refine Holds.go (c := cxEoI) Tryz.func54 rfl Tryz.results54 Tryz.ntmps54 (by omega) (by simp) rfl ?_
  intro X0 w0
  (repeat' (first | refine WP.seq ?_ | refine WP.block ?_ | ((first | refine WP.region ?_ | refine WP.condW ?_ | refine WP.ret ?_ | refine WP.exit ?_ | refine WP.skip ?_); simp only [go_sem, tyAll, Nat.reduceAdd, Nat.reduceLT, Nat.reduceLeDiff, Nat.reduceEqDiff, Nat.reduceMul, Nat.reduceSub, Nat.reduceGT, reduceIte, Int.reduceNeg, Int.reduceToNat]) |  refine And.intro ?_ ?_ | intro _))
  all_goals first | omega | (simp only; omega) | exact Nat.le_trans (hs _ ‹_›) (by omega) | skip
  · rename_i h; rw [show entriesOf N C = [] from if_neg (by rw [h]; simp)]; exact ⟨_, _, rfl⟩
  rename_i hp
  have he : entriesOf N C = insAll ltE (rawE N C C.length) := if_pos hp
  refine WP.loop (fun k : Nat => ⟨[(1, .ptr 1 0 0 0), (3, .own 9), (11, .sl 1 (C.map encI)), (12, .v (.int .i64 C.length)), (13, .v (.int .i64 k))], [(1, .box 35 [.sl 3 (N.map encNode), .sl 1 (C.map encI)]), (9, .sl 66 2 ((rawE N C k).map encEntry))]⟩)
    (fun k => k ≤ C.length) (fun k => C.length - k) 0 (by simp) ?_ ?_
  · (simp only [go_sem, tyAll, Nat.reduceAdd, Nat.reduceLT, Nat.reduceLeDiff, Nat.reduceEqDiff, Nat.reduceMul, Nat.reduceSub, Nat.reduceGT, reduceIte, Int.reduceNeg, Int.reduceToNat] <;> (first | rfl | exact ⟨rfl, rfl⟩ | exact ⟨rfl, rfl, rfl⟩ | exact ⟨rfl, rfl, rfl, rfl⟩ | exact ⟨rfl, rfl, rfl, rfl, rfl⟩ | exact ⟨⟨rfl, rfl⟩, rfl⟩ | simp))
  intro k hk
  have hlen := rawE_len N C k
  by_cases hlt : k < C.length
  · have hli : (k : Int) < C.length := by omega
    have h1 := rowAt_map encI C k hlt
    have h3 := cntOk_at (profileOk_iff.1 hp).2.2 k hlt
    by_cases hz : C[k] = 0
    · have hsk := rawE_skip (N := N) hlt hz
      have hz0 : ¬ 0 < C[k] := by omega
      (repeat' (first | refine WP.seq ?_ | refine WP.block ?_ | ((first | refine WP.region ?_ | refine WP.condW ?_ | refine WP.ret ?_ | refine WP.exit ?_ | refine WP.skip ?_); simp only [go_sem, hli, h1, encI, hz0, tyAll, Nat.reduceAdd, Nat.reduceLT, Nat.reduceLeDiff, Nat.reduceEqDiff, Nat.reduceMul, Nat.reduceSub, Nat.reduceGT, reduceIte, Int.reduceNeg, Int.reduceToNat]) |  refine And.intro ?_ ?_ | intro _))
      all_goals first | omega | skip
      exact ⟨k + 1, by omega, by omega, rfl, by rw [hsk]⟩
    · have hnw := rawE_new (N := N) hlt hz
      have hfr := wfFr_at N k
      have hsl := stackAt_len N k
      have hz0 : 0 < C[k] := by omega
      (repeat' (first | refine WP.seq ?_ | refine WP.block ?_ | ((first | refine WP.region ?_ | refine WP.condW ?_ | refine WP.ret ?_ | refine WP.exit ?_ | refine WP.skip ?_); simp only [go_sem, hli, h1, encI, hz0, tyAll, Nat.reduceAdd, Nat.reduceLT, Nat.reduceLeDiff, Nat.reduceEqDiff, Nat.reduceMul, Nat.reduceSub, Nat.reduceGT, reduceIte, Int.reduceNeg, Int.reduceToNat]) |  refine And.intro ?_ ?_ | intro _))
      all_goals first | omega | (simp only; omega) | exact Nat.le_trans (hs _ ‹_›) (by omega) | exact hfr _ ‹_› | exact ⟨_, _, _, rfl⟩ | skip
      exact ⟨k + 1, by omega, by omega, rfl, by rw [hnw, List.map_append]; rfl⟩
  · have hge : ¬ (k : Int) < C.length := by omega
    have hpr := rawE_pair (profileOk_iff.1 hp).1 C C.length (by have := (profileOk_iff.1 hp).2.1; omega)
    rw [show k = C.length by omega] at hge ⊢
    have hll := rawE_len N C C.length
    (repeat' (first | refine WP.seq ?_ | refine WP.block ?_ | ((first | refine WP.region ?_ | refine WP.condW ?_ | refine WP.ret ?_ | refine WP.exit ?_ | refine WP.skip ?_); simp only [go_sem, hge, tyAll, Nat.reduceAdd, Nat.reduceLT, Nat.reduceLeDiff, Nat.reduceEqDiff, Nat.reduceMul, Nat.reduceSub, Nat.reduceGT, reduceIte, Int.reduceNeg, Int.reduceToNat]) |  refine And.intro ?_ ?_ | intro _))
    all_goals first | omega | skip
    rw [he]
end
end Go.Proofs.YtolnapfgfdgifaaGreatDoor
