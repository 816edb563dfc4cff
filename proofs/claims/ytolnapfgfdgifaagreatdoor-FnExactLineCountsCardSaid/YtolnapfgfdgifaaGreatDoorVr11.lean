/-
  DERIVED. Several texts of ours in one: VtLcS, VcRo, VcMp.
-/
import Derived.Test.YtolnapfgfdgifaaGreatDoorVr0
import Derived.Test.YtolnapfgfdgifaaGreatDoorVr1
import Derived.Test.YtolnapfgfdgifaaGreatDoorVr2
import Derived.Test.YtolnapfgfdgifaaGreatDoorVr3
import Derived.Test.YtolnapfgfdgifaaGreatDoorVr4
import Derived.Test.YtolnapfgfdgifaaGreatDoorVr5
import Derived.Test.YtolnapfgfdgifaaGreatDoorVr6
import Derived.Test.YtolnapfgfdgifaaGreatDoorVr7
import Derived.Test.YtolnapfgfdgifaaGreatDoorVr8
import Derived.Test.YtolnapfgfdgifaaGreatDoorVr9
import Derived.Test.YtolnapfgfdgifaaGreatDoorVr10
import Derived.MapKept
import Derived.WideMake
set_option linter.unusedSimpArgs false
set_option linter.unusedVariables false
/-
  DERIVED. LineCounts of the reference.
-/
namespace Go.Proofs.YtolnapfgfdgifaaGreatDoor
open Go.Vc
set_option linter.unusedSimpArgs false
set_option linter.unusedVariables false
set_option maxHeartbeats 1000000
set_option maxRecDepth 10000
attribute [local go_sem] St.runR St.runW St.stepV offV St.step St.stepU St.stepG mkCond guardB St.prK St.pr St.prLen St.eff St.callE St.callD St.callF St.callL aI aB aS aR aC St.isM St.argL Ctr.pure Ctr.lend Ctr.move Ctr.isL Ctr.wri pur len lentBy St.lentV St.lent1 nthS argsR restOf obsR pairs swapL unObs backL St.resL erL SV.ren1 SV.up SV.up2 Ob.up St.fzL cellIds partIds St.intoRow SV.ownId St.fz SV.fz1 St.prep St.mvL St.mv SV.re1 rnOk St.prEq vals eqCells scEq Value.kd St.prStr St.prCut cutR St.bnd St.prMin St.bld isShift outL retL outJ oR oC St.ev St.get St.put St.new St.kill SV.kill SV.kill1 Ob.kill St.app St.wrt St.rowsOf St.res St.killL lk er argsL SV.strip SV.need SV.share SV.share1 SV.owns SV.owns1 SV.owns2 SV.good SV.good1 SV.rok SV.rok1 SV.rok2 SV.isV SV.isV2 nodupN SV.cells SV.one SV.pur Ob.pb partsIn rowsIn splice cellsAt dstOk scal2 scal1 thenK blockK retK outK outs okC okL okA okT nilC nilL nilA nilT keepC keepL keepA keepT St.runG St.dltK St.least St.clean St.final St.hide offK badS badO SV.refs SV.leaf SV.leaf2 Ob.refs dlOk fpAt Go.Vc.cover tups SV.ofAgg St.out outC subL St.has rng wr Value.oneCell' Option.isSome_some Option.isSome_none List.nil_append Bool.false_eq_true List.map_cons List.map_nil List.all_cons List.all_nil List.length_cons List.length_nil List.drop_zero List.drop_succ_cons List.take_succ_cons List.take_zero List.drop_nil List.take_nil List.getElem?_cons_zero List.getElem?_cons_succ List.getElem?_nil List.cons_append List.nil_append List.append_nil List.append_assoc List.flatMap_cons List.flatMap_nil List.contains_cons List.contains_nil List.set_cons_zero List.set_cons_succ List.getElem?_toArray Option.getD_some Option.getD_none Option.map_some Option.map_none Option.bind_some Option.some.injEq Prod.mk.injEq if_true if_false true_and and_true and_self and_false false_and Bool.and_false Bool.false_and Bool.or_true Bool.true_or Bool.or_false Bool.false_or ne_eq not_true_eq_false not_false_eq_true decide_true decide_false List.mem_cons List.not_mem_nil List.filter_cons List.filter_nil List.any_cons List.any_nil List.isEmpty_nil List.isEmpty_cons Option.getD_none or_false false_or true_or or_true forall_eq_or_imp forall_eq reduceCtorEq exists_eq exists_eq' exists_eq_left' exists_eq_left exists_eq_right exists_eq_right' imp_self implies_true Bool.and_true Bool.true_and Bool.and_self beq_self_eq_true List.replicate_succ List.replicate_zero forall_const false_implies pickB_or pickB_and beqT beqF Int.toNat_natCast List.length_map List.length_replicate ge_iff_le gt_iff_lt decide_eq_true_eq decide_eq_false_iff_not Bool.and_eq_true Bool.or_eq_true Bool.not_eq_true' Bool.not_eq_false' condG List.toList_toArray Bool.or_eq_false_iff Bool.and_eq_false_iff Int.not_lt Int.not_le beq_iff_eq beq_eq_false_iff_ne bne_iff_ne bne_eq_false_iff_eq ne_eq Bool.not_true Bool.not_false exists_and_left
attribute [local irreducible] Go.Vc.WP
attribute [local go_sem] cx0_t cx0_c
attribute [local go_sem] isV_Node isV_It isV_Entry isV_LineCount decNode_enc decFrame_enc oneFrame_enc stkA oneFrame_ab oneNode_abc decI_enc decS_enc aU prA decEntry_enc decLineCount_enc St.fzS addL behind
section
variable {c : Int} {s t : Nat → Bool} {L : List LineCount} {p : Nat}
theorem lc_row (hp : p < L.length) (hs : s p = false) (ht : t p = false) : Go.Vc.rowAt ((addK c s t L).map encLineCount) p = [SV.v (.int .i64 L[p].self), SV.v (.int .i64 L[p].total)] := by
  rw [rowAt_map encLineCount _ p (by rw [addK_len]; exact hp), addK_get hp, hs, ht]
  simp [encLineCount]
theorem lc_row1 (hp : p < L.length) (hs : s p = false) (ht : t p = true) : Go.Vc.rowAt ((addK c s t L).map encLineCount) p = [SV.v (.int .i64 L[p].self), SV.v (.int .i64 (L[p].total + c))] := by
  rw [rowAt_map encLineCount _ p (by rw [addK_len]; exact hp), addK_get hp, hs, ht]
  simp [encLineCount]
theorem lc_setT (hp : p < L.length) (hs : s p = false) (ht : t p = false) : ((addK c s t L).map encLineCount).set p [SV.v (.int .i64 L[p].self), SV.v (.int .i64 (L[p].total + c))] = (addK c s (fun n => t n || decide (n = p)) L).map encLineCount := by
  have h := addK_tot (c := c) (sel := s) hp ht
  rw [hs] at h
  simp only [Bool.false_eq_true, if_false, Int.add_zero] at h
  rw [← h, List.map_set]; rfl
theorem lc_setS (hp : p < L.length) (hs : s p = false) (ht : t p = false) : ((addK c s t L).map encLineCount).set p [SV.v (.int .i64 (L[p].self + c)), SV.v (.int .i64 L[p].total)] = (addK c (fun n => s n || decide (n = p)) t L).map encLineCount := by
  have h := addK_sel (c := c) (tot := t) hp hs
  rw [ht] at h
  simp only [Bool.false_eq_true, if_false, Int.add_zero] at h
  rw [← h, List.map_set]; rfl
theorem lc_setS1 (hp : p < L.length) (hs : s p = false) (ht : t p = true) : ((addK c s t L).map encLineCount).set p [SV.v (.int .i64 (L[p].self + c)), SV.v (.int .i64 (L[p].total + c))] = (addK c (fun n => s n || decide (n = p)) t L).map encLineCount := by
  have h := addK_sel (c := c) (tot := t) hp hs
  rw [ht] at h
  simp only [if_true] at h
  rw [← h, List.map_set]; rfl
end
theorem zerLc (n : Nat) : List.replicate n [SV.v (.int .i64 0), SV.v (.int .i64 0)] = (List.replicate n (⟨0, 0⟩ : LineCount)).map encLineCount := by rw [List.map_replicate]; rfl
def kLc : Ctr := pur (fun args => (prA args 0, aI args 1)) (fun x => [.agg [.sl 3 (x.1.1.map encNode), .sl 1 (x.1.2.map encI)], .v (.int .i64 x.2)])
  (fun x => (x.1.1.length ≤ 1048576 ∧ ∀ n ∈ x.1.1, n.name.size ≤ 1048576) ∧ x.1.2.length ≤ 1048576) (fun d _ => .own d) (fun d x => [(d, .sl 70 2 ((lineCounts x.1.1 x.1.2 x.2).map encLineCount))])
section
noncomputable def cxLcS : Cx := { P := Tryz.prog, tys := tys, C := [(46, kPrOk), (47, k60), (48, kEntZ), (49, kParseZ)], hty := tysOk, hC := COk.cons cPrOkS (COk.cons c58 (COk.cons cEntZS (COk.cons cParseZS (COk.nil _)))) }
theorem cxLcS_t : cxLcS.tys = tys := rfl
theorem cxLcS_c : cxLcS.C = [(46, kPrOk), (47, k60), (48, kEntZ), (49, kParseZ)] := rfl
attribute [local go_sem] cxLcS_t cxLcS_c kPrOk k60 kEntZ kParseZ
set_option maxHeartbeats 20000000 in
theorem cLcS : Cn Tryz.prog 13 kLc := by
  refine Cn.pur Tryz.func13 (by kernel_rfl) rfl fun d x hx => ?_
  obtain ⟨⟨N, C⟩, n⟩ := x
  obtain ⟨⟨hN, hs⟩, hC⟩ := hx
  simp only at hN hs hC ⊢
  have hlen := entriesOf_len N C
  refine Holds.go (c := cxLcS) Tryz.func13 rfl Tryz.results13 Tryz.ntmps13 (by omega) (by simp) rfl ?_
  intro X0 w0
  cases hok : profileOk N C with
  | false =>
    have hr : lineCounts N C n = [] := if_neg fun h => by rw [h.1] at hok; cases hok
    (repeat' (first | refine WP.seq ?_ | refine WP.block ?_ | ((first | refine WP.region ?_ | refine WP.condW ?_ | refine WP.ret ?_ | refine WP.exit ?_ | refine WP.skip ?_); simp only [go_sem, hok, hr, tyAll, Nat.reduceAdd, Nat.reduceLT, Nat.reduceLeDiff, Nat.reduceEqDiff, Nat.reduceMul, Nat.reduceSub, Nat.reduceGT, reduceIte, Int.reduceNeg, Int.reduceToNat]) | (refine WP.flowW 13 [⟨[5], [], [], [], [], []⟩, ⟨[10], [], [], [], [], []⟩, ⟨[5], [], [], [], [], []⟩, ⟨[10], [], [], [], [], []⟩, ⟨[65, 66], [2, 3], [], [], [], []⟩, ⟨[67], [2, 3, 4], [], [], [], []⟩, ⟨[68], [2, 3, 4, 5], [], [], [], []⟩, ⟨[6], [], [], [], [], []⟩, ⟨[7], [], [], [], [], []⟩, ⟨[70, 71], [7, 8], [], [], [], []⟩, ⟨[72], [7, 8, 9], [], [], [], []⟩, ⟨[73], [7, 8, 9, 10], [], [], [], []⟩, ⟨[69, 74], [2, 3, 4, 5, 6, 7, 8, 9, 10, 11], [], [], [], []⟩, ⟨[], [0, 1, 2, 3, 4, 5, 6, 7, 8, 9, 10, 11, 12], [], [], [], []⟩, ⟨[], [0, 1, 2, 3, 4, 5, 6, 7, 8, 9, 10, 11, 12, 13], [], [], [], []⟩, ⟨[], [0, 1, 2, 3, 4, 5, 6, 7, 8, 9, 10, 11, 12, 13, 14], [], [], [], []⟩] [63, 64, 65, 66, 67, 68, 69, 70, 71, 72, 73, 74, 75] [] [] (by decide +kernel) (by kernel_rfl) (by kernel_rfl) (by kernel_rfl) ?_; simp only [go_sem, hok, hr, tyAll, Nat.reduceAdd, Nat.reduceLT, Nat.reduceLeDiff, Nat.reduceEqDiff, Nat.reduceMul, Nat.reduceSub, Nat.reduceGT, reduceIte, Int.reduceNeg, Int.reduceToNat]) | (refine WP.flowW 13 [⟨[5], [], [], [], [], []⟩, ⟨[10], [], [], [], [], []⟩, ⟨[5], [], [], [], [], []⟩, ⟨[10], [], [], [], [], []⟩, ⟨[89, 90], [2, 3], [], [], [], []⟩, ⟨[91], [2, 3, 4], [], [], [], []⟩, ⟨[92], [2, 3, 4, 5], [], [], [], []⟩, ⟨[6], [], [], [], [], []⟩, ⟨[7], [], [], [], [], []⟩, ⟨[94, 95], [7, 8], [], [], [], []⟩, ⟨[96], [7, 8, 9], [], [], [], []⟩, ⟨[97], [7, 8, 9, 10], [], [], [], []⟩, ⟨[93, 98], [2, 3, 4, 5, 6, 7, 8, 9, 10, 11], [], [], [], []⟩, ⟨[], [0, 1, 2, 3, 4, 5, 6, 7, 8, 9, 10, 11, 12], [], [], [], []⟩, ⟨[], [0, 1, 2, 3, 4, 5, 6, 7, 8, 9, 10, 11, 12, 13], [], [], [], []⟩, ⟨[], [0, 1, 2, 3, 4, 5, 6, 7, 8, 9, 10, 11, 12, 13, 14], [], [], [], []⟩] [87, 88, 89, 90, 91, 92, 93, 94, 95, 96, 97, 98, 99] [] [] (by decide +kernel) (by kernel_rfl) (by kernel_rfl) (by kernel_rfl) ?_; simp only [go_sem, hok, hr, tyAll, Nat.reduceAdd, Nat.reduceLT, Nat.reduceLeDiff, Nat.reduceEqDiff, Nat.reduceMul, Nat.reduceSub, Nat.reduceGT, reduceIte, Int.reduceNeg, Int.reduceToNat]) |  refine And.intro ?_ ?_ | intro _))
    all_goals first | omega | (simp only; omega) | exact Nat.le_trans (hs _ ‹_›) (by omega) | exact ⟨_, _, _, rfl⟩ | exact ⟨_, _, rfl⟩ | skip
    all_goals trace_state
  | true =>
  by_cases hrg : 0 ≤ n ∧ n ≤ 60
  rotate_left
  · have hr : lineCounts N C n = [] := if_neg fun h => hrg h.2
    have hrb : (decide (0 ≤ n) && decide (n ≤ 60)) = false := by
      rw [Bool.and_eq_false_iff, decide_eq_false_iff_not, decide_eq_false_iff_not]; omega
    (repeat' (first | refine WP.seq ?_ | refine WP.block ?_ | ((first | refine WP.region ?_ | refine WP.condW ?_ | refine WP.ret ?_ | refine WP.exit ?_ | refine WP.skip ?_); simp only [go_sem, hok, hr, hrb, tyAll, Nat.reduceAdd, Nat.reduceLT, Nat.reduceLeDiff, Nat.reduceEqDiff, Nat.reduceMul, Nat.reduceSub, Nat.reduceGT, reduceIte, Int.reduceNeg, Int.reduceToNat]) | (refine WP.flowW 13 [⟨[5], [], [], [], [], []⟩, ⟨[10], [], [], [], [], []⟩, ⟨[5], [], [], [], [], []⟩, ⟨[10], [], [], [], [], []⟩, ⟨[65, 66], [2, 3], [], [], [], []⟩, ⟨[67], [2, 3, 4], [], [], [], []⟩, ⟨[68], [2, 3, 4, 5], [], [], [], []⟩, ⟨[6], [], [], [], [], []⟩, ⟨[7], [], [], [], [], []⟩, ⟨[70, 71], [7, 8], [], [], [], []⟩, ⟨[72], [7, 8, 9], [], [], [], []⟩, ⟨[73], [7, 8, 9, 10], [], [], [], []⟩, ⟨[69, 74], [2, 3, 4, 5, 6, 7, 8, 9, 10, 11], [], [], [], []⟩, ⟨[], [0, 1, 2, 3, 4, 5, 6, 7, 8, 9, 10, 11, 12], [], [], [], []⟩, ⟨[], [0, 1, 2, 3, 4, 5, 6, 7, 8, 9, 10, 11, 12, 13], [], [], [], []⟩, ⟨[], [0, 1, 2, 3, 4, 5, 6, 7, 8, 9, 10, 11, 12, 13, 14], [], [], [], []⟩] [63, 64, 65, 66, 67, 68, 69, 70, 71, 72, 73, 74, 75] [] [] (by decide +kernel) (by kernel_rfl) (by kernel_rfl) (by kernel_rfl) ?_; simp only [go_sem, hok, hr, hrb, tyAll, Nat.reduceAdd, Nat.reduceLT, Nat.reduceLeDiff, Nat.reduceEqDiff, Nat.reduceMul, Nat.reduceSub, Nat.reduceGT, reduceIte, Int.reduceNeg, Int.reduceToNat]) | (refine WP.flowW 13 [⟨[5], [], [], [], [], []⟩, ⟨[10], [], [], [], [], []⟩, ⟨[5], [], [], [], [], []⟩, ⟨[10], [], [], [], [], []⟩, ⟨[89, 90], [2, 3], [], [], [], []⟩, ⟨[91], [2, 3, 4], [], [], [], []⟩, ⟨[92], [2, 3, 4, 5], [], [], [], []⟩, ⟨[6], [], [], [], [], []⟩, ⟨[7], [], [], [], [], []⟩, ⟨[94, 95], [7, 8], [], [], [], []⟩, ⟨[96], [7, 8, 9], [], [], [], []⟩, ⟨[97], [7, 8, 9, 10], [], [], [], []⟩, ⟨[93, 98], [2, 3, 4, 5, 6, 7, 8, 9, 10, 11], [], [], [], []⟩, ⟨[], [0, 1, 2, 3, 4, 5, 6, 7, 8, 9, 10, 11, 12], [], [], [], []⟩, ⟨[], [0, 1, 2, 3, 4, 5, 6, 7, 8, 9, 10, 11, 12, 13], [], [], [], []⟩, ⟨[], [0, 1, 2, 3, 4, 5, 6, 7, 8, 9, 10, 11, 12, 13, 14], [], [], [], []⟩] [87, 88, 89, 90, 91, 92, 93, 94, 95, 96, 97, 98, 99] [] [] (by decide +kernel) (by kernel_rfl) (by kernel_rfl) (by kernel_rfl) ?_; simp only [go_sem, hok, hr, hrb, tyAll, Nat.reduceAdd, Nat.reduceLT, Nat.reduceLeDiff, Nat.reduceEqDiff, Nat.reduceMul, Nat.reduceSub, Nat.reduceGT, reduceIte, Int.reduceNeg, Int.reduceToNat]) |  refine And.intro ?_ ?_ | intro _))
    all_goals first | omega | (simp only; omega) | exact Nat.le_trans (hs _ ‹_›) (by omega) | exact ⟨_, _, _, rfl⟩ | exact ⟨_, _, rfl⟩ | skip
    all_goals trace_state
  obtain ⟨c2, c3⟩ := hrg
  have hr : lineCounts N C n = lcGo (entriesOf N C) (List.replicate n.toNat ⟨0, 0⟩) := if_pos ⟨hok, c2, c3⟩
  rw [hr]
  have hz := zerLc n.toNat
  (repeat' (first | refine WP.seq ?_ | refine WP.block ?_ | ((first | refine WP.region ?_ | refine WP.condW ?_ | refine WP.ret ?_ | refine WP.exit ?_ | refine WP.skip ?_); simp only [go_sem, hok, c2, c3, hz, tyAll, Nat.reduceAdd, Nat.reduceLT, Nat.reduceLeDiff, Nat.reduceEqDiff, Nat.reduceMul, Nat.reduceSub, Nat.reduceGT, reduceIte, Int.reduceNeg, Int.reduceToNat]) | (refine WP.flowW 13 [⟨[5], [], [], [], [], []⟩, ⟨[10], [], [], [], [], []⟩, ⟨[5], [], [], [], [], []⟩, ⟨[10], [], [], [], [], []⟩, ⟨[65, 66], [2, 3], [], [], [], []⟩, ⟨[67], [2, 3, 4], [], [], [], []⟩, ⟨[68], [2, 3, 4, 5], [], [], [], []⟩, ⟨[6], [], [], [], [], []⟩, ⟨[7], [], [], [], [], []⟩, ⟨[70, 71], [7, 8], [], [], [], []⟩, ⟨[72], [7, 8, 9], [], [], [], []⟩, ⟨[73], [7, 8, 9, 10], [], [], [], []⟩, ⟨[69, 74], [2, 3, 4, 5, 6, 7, 8, 9, 10, 11], [], [], [], []⟩, ⟨[], [0, 1, 2, 3, 4, 5, 6, 7, 8, 9, 10, 11, 12], [], [], [], []⟩, ⟨[], [0, 1, 2, 3, 4, 5, 6, 7, 8, 9, 10, 11, 12, 13], [], [], [], []⟩, ⟨[], [0, 1, 2, 3, 4, 5, 6, 7, 8, 9, 10, 11, 12, 13, 14], [], [], [], []⟩] [63, 64, 65, 66, 67, 68, 69, 70, 71, 72, 73, 74, 75] [] [] (by decide +kernel) (by kernel_rfl) (by kernel_rfl) (by kernel_rfl) ?_; simp only [go_sem, hok, c2, c3, hz, tyAll, Nat.reduceAdd, Nat.reduceLT, Nat.reduceLeDiff, Nat.reduceEqDiff, Nat.reduceMul, Nat.reduceSub, Nat.reduceGT, reduceIte, Int.reduceNeg, Int.reduceToNat]) | (refine WP.flowW 13 [⟨[5], [], [], [], [], []⟩, ⟨[10], [], [], [], [], []⟩, ⟨[5], [], [], [], [], []⟩, ⟨[10], [], [], [], [], []⟩, ⟨[89, 90], [2, 3], [], [], [], []⟩, ⟨[91], [2, 3, 4], [], [], [], []⟩, ⟨[92], [2, 3, 4, 5], [], [], [], []⟩, ⟨[6], [], [], [], [], []⟩, ⟨[7], [], [], [], [], []⟩, ⟨[94, 95], [7, 8], [], [], [], []⟩, ⟨[96], [7, 8, 9], [], [], [], []⟩, ⟨[97], [7, 8, 9, 10], [], [], [], []⟩, ⟨[93, 98], [2, 3, 4, 5, 6, 7, 8, 9, 10, 11], [], [], [], []⟩, ⟨[], [0, 1, 2, 3, 4, 5, 6, 7, 8, 9, 10, 11, 12], [], [], [], []⟩, ⟨[], [0, 1, 2, 3, 4, 5, 6, 7, 8, 9, 10, 11, 12, 13], [], [], [], []⟩, ⟨[], [0, 1, 2, 3, 4, 5, 6, 7, 8, 9, 10, 11, 12, 13, 14], [], [], [], []⟩] [87, 88, 89, 90, 91, 92, 93, 94, 95, 96, 97, 98, 99] [] [] (by decide +kernel) (by kernel_rfl) (by kernel_rfl) (by kernel_rfl) ?_; simp only [go_sem, hok, c2, c3, hz, tyAll, Nat.reduceAdd, Nat.reduceLT, Nat.reduceLeDiff, Nat.reduceEqDiff, Nat.reduceMul, Nat.reduceSub, Nat.reduceGT, reduceIte, Int.reduceNeg, Int.reduceToNat]) |  refine And.intro ?_ ?_ | intro _))
  all_goals first | omega | (simp only; omega) | exact Nat.le_trans (hs _ ‹_›) (by omega) | exact ⟨_, _, _, rfl⟩ | skip
  have hZl : (List.replicate n.toNat (⟨0, 0⟩ : LineCount)).length = n.toNat := List.length_replicate ..
  refine WP.loop (fun k : Nat => ⟨[(1, .v (.int .i64 n)), (5, .own 23), (6, .sl 2 ((entriesOf N C).map encEntry)), (7, .v (.int .i64 k))], [(23, .sl 70 2 ((lcGo ((entriesOf N C).take k) (List.replicate n.toNat ⟨0, 0⟩)).map encLineCount))]⟩)
    (fun k => k ≤ (entriesOf N C).length) (fun k => (entriesOf N C).length - k) 0 (by simp) ?_ ?_
  · (simp only [go_sem, tyAll, Nat.reduceAdd, Nat.reduceLT, Nat.reduceLeDiff, Nat.reduceEqDiff, Nat.reduceMul, Nat.reduceSub, Nat.reduceGT, reduceIte, Int.reduceNeg, Int.reduceToNat] <;> (first | rfl | exact ⟨rfl, rfl⟩ | exact ⟨rfl, rfl, rfl⟩ | exact ⟨rfl, rfl, rfl, rfl⟩ | exact ⟨rfl, rfl, rfl, rfl, rfl⟩ | exact ⟨⟨rfl, rfl⟩, rfl⟩ | simp))
  intro k hk
  have hLl := lcGo_len ((entriesOf N C).take k) (List.replicate n.toNat ⟨0, 0⟩)
  rw [hZl] at hLl
  by_cases hkl : k < (entriesOf N C).length
  rotate_left
  · have hge : ¬ (k : Int) < (entriesOf N C).length := by omega
    have hke : k = (entriesOf N C).length := by omega
    subst hke
    rw [List.take_length]
    (repeat' (first | refine WP.seq ?_ | refine WP.block ?_ | ((first | refine WP.region ?_ | refine WP.condW ?_ | refine WP.ret ?_ | refine WP.exit ?_ | refine WP.skip ?_); simp only [go_sem, hge, tyAll, Nat.reduceAdd, Nat.reduceLT, Nat.reduceLeDiff, Nat.reduceEqDiff, Nat.reduceMul, Nat.reduceSub, Nat.reduceGT, reduceIte, Int.reduceNeg, Int.reduceToNat]) | (refine WP.flowW 13 [⟨[5], [], [], [], [], []⟩, ⟨[10], [], [], [], [], []⟩, ⟨[5], [], [], [], [], []⟩, ⟨[10], [], [], [], [], []⟩, ⟨[65, 66], [2, 3], [], [], [], []⟩, ⟨[67], [2, 3, 4], [], [], [], []⟩, ⟨[68], [2, 3, 4, 5], [], [], [], []⟩, ⟨[6], [], [], [], [], []⟩, ⟨[7], [], [], [], [], []⟩, ⟨[70, 71], [7, 8], [], [], [], []⟩, ⟨[72], [7, 8, 9], [], [], [], []⟩, ⟨[73], [7, 8, 9, 10], [], [], [], []⟩, ⟨[69, 74], [2, 3, 4, 5, 6, 7, 8, 9, 10, 11], [], [], [], []⟩, ⟨[], [0, 1, 2, 3, 4, 5, 6, 7, 8, 9, 10, 11, 12], [], [], [], []⟩, ⟨[], [0, 1, 2, 3, 4, 5, 6, 7, 8, 9, 10, 11, 12, 13], [], [], [], []⟩, ⟨[], [0, 1, 2, 3, 4, 5, 6, 7, 8, 9, 10, 11, 12, 13, 14], [], [], [], []⟩] [63, 64, 65, 66, 67, 68, 69, 70, 71, 72, 73, 74, 75] [] [] (by decide +kernel) (by kernel_rfl) (by kernel_rfl) (by kernel_rfl) ?_; simp only [go_sem, hge, tyAll, Nat.reduceAdd, Nat.reduceLT, Nat.reduceLeDiff, Nat.reduceEqDiff, Nat.reduceMul, Nat.reduceSub, Nat.reduceGT, reduceIte, Int.reduceNeg, Int.reduceToNat]) | (refine WP.flowW 13 [⟨[5], [], [], [], [], []⟩, ⟨[10], [], [], [], [], []⟩, ⟨[5], [], [], [], [], []⟩, ⟨[10], [], [], [], [], []⟩, ⟨[89, 90], [2, 3], [], [], [], []⟩, ⟨[91], [2, 3, 4], [], [], [], []⟩, ⟨[92], [2, 3, 4, 5], [], [], [], []⟩, ⟨[6], [], [], [], [], []⟩, ⟨[7], [], [], [], [], []⟩, ⟨[94, 95], [7, 8], [], [], [], []⟩, ⟨[96], [7, 8, 9], [], [], [], []⟩, ⟨[97], [7, 8, 9, 10], [], [], [], []⟩, ⟨[93, 98], [2, 3, 4, 5, 6, 7, 8, 9, 10, 11], [], [], [], []⟩, ⟨[], [0, 1, 2, 3, 4, 5, 6, 7, 8, 9, 10, 11, 12], [], [], [], []⟩, ⟨[], [0, 1, 2, 3, 4, 5, 6, 7, 8, 9, 10, 11, 12, 13], [], [], [], []⟩, ⟨[], [0, 1, 2, 3, 4, 5, 6, 7, 8, 9, 10, 11, 12, 13, 14], [], [], [], []⟩] [87, 88, 89, 90, 91, 92, 93, 94, 95, 96, 97, 98, 99] [] [] (by decide +kernel) (by kernel_rfl) (by kernel_rfl) (by kernel_rfl) ?_; simp only [go_sem, hge, tyAll, Nat.reduceAdd, Nat.reduceLT, Nat.reduceLeDiff, Nat.reduceEqDiff, Nat.reduceMul, Nat.reduceSub, Nat.reduceGT, reduceIte, Int.reduceNeg, Int.reduceToNat]) |  refine And.intro ?_ ?_ | intro _))
    all_goals first | omega | skip
    all_goals trace_state
  have hki : (k : Int) < (entriesOf N C).length := by omega
  have hE := rowAt_map encEntry (entriesOf N C) k hkl
  have hmem := List.getElem_mem hkl
  obtain ⟨z1, z2, z3⟩ := ent_sizes hN hmem
  have hF0 := (ent_frs hmem).1
  have hsu := lcGo_succ hkl (List.replicate n.toNat ⟨0, 0⟩)
  have hB := lc_LB (E := entriesOf N C) ent_pos n.toNat k (by omega)
  have hc := ent_pos _ hmem
  have hss := sumE_succ hkl
  have hst := (sumE_take_le (E := entriesOf N C) ent_pos (k + 1)).2
  rw [sumE_entries] at hst
  have htb := totalOf_bound N C
  have hfr : (parseF (entriesOf N C)[k].stack).getD [] = frsE (entriesOf N C)[k] := rfl
  unfold lineAdd at hsu
  generalize frsE (entriesOf N C)[k] = F at hsu hF0 z2 z3 hfr
  generalize hcE : (entriesOf N C)[k].count = c at hc hss hsu
  generalize lcGo ((entriesOf N C).take k) (List.replicate n.toNat ⟨0, 0⟩) = L at hB hsu hLl ⊢
  generalize sumE ((entriesOf N C).take k) = S at hB hss
  generalize sumE ((entriesOf N C).take (k + 1)) = S1 at hss hst
  have hFl : 0 < F.length := List.length_pos_iff.2 hF0
  (repeat' (first | refine WP.seq ?_ | refine WP.block ?_ | ((first | refine WP.region ?_ | refine WP.condW ?_ | refine WP.ret ?_ | refine WP.exit ?_ | refine WP.skip ?_); simp only [go_sem, hki, hE, encEntry, hfr, tyAll, Nat.reduceAdd, Nat.reduceLT, Nat.reduceLeDiff, Nat.reduceEqDiff, Nat.reduceMul, Nat.reduceSub, Nat.reduceGT, reduceIte, Int.reduceNeg, Int.reduceToNat]) | (refine WP.flowW 13 [⟨[5], [], [], [], [], []⟩, ⟨[10], [], [], [], [], []⟩, ⟨[5], [], [], [], [], []⟩, ⟨[10], [], [], [], [], []⟩, ⟨[65, 66], [2, 3], [], [], [], []⟩, ⟨[67], [2, 3, 4], [], [], [], []⟩, ⟨[68], [2, 3, 4, 5], [], [], [], []⟩, ⟨[6], [], [], [], [], []⟩, ⟨[7], [], [], [], [], []⟩, ⟨[70, 71], [7, 8], [], [], [], []⟩, ⟨[72], [7, 8, 9], [], [], [], []⟩, ⟨[73], [7, 8, 9, 10], [], [], [], []⟩, ⟨[69, 74], [2, 3, 4, 5, 6, 7, 8, 9, 10, 11], [], [], [], []⟩, ⟨[], [0, 1, 2, 3, 4, 5, 6, 7, 8, 9, 10, 11, 12], [], [], [], []⟩, ⟨[], [0, 1, 2, 3, 4, 5, 6, 7, 8, 9, 10, 11, 12, 13], [], [], [], []⟩, ⟨[], [0, 1, 2, 3, 4, 5, 6, 7, 8, 9, 10, 11, 12, 13, 14], [], [], [], []⟩] [63, 64, 65, 66, 67, 68, 69, 70, 71, 72, 73, 74, 75] [] [] (by decide +kernel) (by kernel_rfl) (by kernel_rfl) (by kernel_rfl) ?_; simp only [go_sem, hki, hE, encEntry, hfr, tyAll, Nat.reduceAdd, Nat.reduceLT, Nat.reduceLeDiff, Nat.reduceEqDiff, Nat.reduceMul, Nat.reduceSub, Nat.reduceGT, reduceIte, Int.reduceNeg, Int.reduceToNat]) | (refine WP.flowW 13 [⟨[5], [], [], [], [], []⟩, ⟨[10], [], [], [], [], []⟩, ⟨[5], [], [], [], [], []⟩, ⟨[10], [], [], [], [], []⟩, ⟨[89, 90], [2, 3], [], [], [], []⟩, ⟨[91], [2, 3, 4], [], [], [], []⟩, ⟨[92], [2, 3, 4, 5], [], [], [], []⟩, ⟨[6], [], [], [], [], []⟩, ⟨[7], [], [], [], [], []⟩, ⟨[94, 95], [7, 8], [], [], [], []⟩, ⟨[96], [7, 8, 9], [], [], [], []⟩, ⟨[97], [7, 8, 9, 10], [], [], [], []⟩, ⟨[93, 98], [2, 3, 4, 5, 6, 7, 8, 9, 10, 11], [], [], [], []⟩, ⟨[], [0, 1, 2, 3, 4, 5, 6, 7, 8, 9, 10, 11, 12], [], [], [], []⟩, ⟨[], [0, 1, 2, 3, 4, 5, 6, 7, 8, 9, 10, 11, 12, 13], [], [], [], []⟩, ⟨[], [0, 1, 2, 3, 4, 5, 6, 7, 8, 9, 10, 11, 12, 13, 14], [], [], [], []⟩] [87, 88, 89, 90, 91, 92, 93, 94, 95, 96, 97, 98, 99] [] [] (by decide +kernel) (by kernel_rfl) (by kernel_rfl) (by kernel_rfl) ?_; simp only [go_sem, hki, hE, encEntry, hfr, tyAll, Nat.reduceAdd, Nat.reduceLT, Nat.reduceLeDiff, Nat.reduceEqDiff, Nat.reduceMul, Nat.reduceSub, Nat.reduceGT, reduceIte, Int.reduceNeg, Int.reduceToNat]) |  refine And.intro ?_ ?_ | intro _))
  all_goals first | omega | exact ⟨_, _, _, rfl⟩ | skip
  refine WP.loop (fun m : Nat => ⟨[(1, .v (.int .i64 n)), (5, .own 23), (6, .sl 2 ((entriesOf N C).map encEntry)), (7, .v (.int .i64 k)), (8, .sl 2 (F.map encFrame)), (10, .v (.int .i64 m))], [(23, .sl 70 2 ((addK c (fun x => decide (x < m) && lastOn F x) (fun x => decide (x < m) && onLine F x) L).map encLineCount))]⟩)
    (fun m => m ≤ L.length) (fun m => L.length - m) 0 (by simp) ?_ ?_
  · have e0 : addK c (fun x => decide (x < 0) && lastOn F x) (fun x => decide (x < 0) && onLine F x) L = L := addK_none c L (fun _ _ => by simp) (fun _ _ => by simp)
    rw [e0]; (simp only [go_sem, tyAll, Nat.reduceAdd, Nat.reduceLT, Nat.reduceLeDiff, Nat.reduceEqDiff, Nat.reduceMul, Nat.reduceSub, Nat.reduceGT, reduceIte, Int.reduceNeg, Int.reduceToNat] <;> (first | rfl | exact ⟨rfl, rfl⟩ | exact ⟨rfl, rfl, rfl⟩ | exact ⟨rfl, rfl, rfl, rfl⟩ | exact ⟨rfl, rfl, rfl, rfl, rfl⟩ | exact ⟨⟨rfl, rfl⟩, rfl⟩ | simp))
  intro m hm
  by_cases hml : m < L.length
  rotate_left
  · have hge : ¬ (m : Int) < n := by omega
    have e1 : addK c (fun x => decide (x < m) && lastOn F x) (fun x => decide (x < m) && onLine F x) L = addK c (lastOn F) (onLine F) L := addK_congr (fun x hx => by simp [show x < m by omega]) (fun x hx => by simp [show x < m by omega])
    rw [e1, ← hsu]
    (repeat' (first | refine WP.seq ?_ | refine WP.block ?_ | ((first | refine WP.region ?_ | refine WP.condW ?_ | refine WP.ret ?_ | refine WP.exit ?_ | refine WP.skip ?_); simp only [go_sem, hge, tyAll, Nat.reduceAdd, Nat.reduceLT, Nat.reduceLeDiff, Nat.reduceEqDiff, Nat.reduceMul, Nat.reduceSub, Nat.reduceGT, reduceIte, Int.reduceNeg, Int.reduceToNat]) | (refine WP.flowW 13 [⟨[5], [], [], [], [], []⟩, ⟨[10], [], [], [], [], []⟩, ⟨[5], [], [], [], [], []⟩, ⟨[10], [], [], [], [], []⟩, ⟨[65, 66], [2, 3], [], [], [], []⟩, ⟨[67], [2, 3, 4], [], [], [], []⟩, ⟨[68], [2, 3, 4, 5], [], [], [], []⟩, ⟨[6], [], [], [], [], []⟩, ⟨[7], [], [], [], [], []⟩, ⟨[70, 71], [7, 8], [], [], [], []⟩, ⟨[72], [7, 8, 9], [], [], [], []⟩, ⟨[73], [7, 8, 9, 10], [], [], [], []⟩, ⟨[69, 74], [2, 3, 4, 5, 6, 7, 8, 9, 10, 11], [], [], [], []⟩, ⟨[], [0, 1, 2, 3, 4, 5, 6, 7, 8, 9, 10, 11, 12], [], [], [], []⟩, ⟨[], [0, 1, 2, 3, 4, 5, 6, 7, 8, 9, 10, 11, 12, 13], [], [], [], []⟩, ⟨[], [0, 1, 2, 3, 4, 5, 6, 7, 8, 9, 10, 11, 12, 13, 14], [], [], [], []⟩] [63, 64, 65, 66, 67, 68, 69, 70, 71, 72, 73, 74, 75] [] [] (by decide +kernel) (by kernel_rfl) (by kernel_rfl) (by kernel_rfl) ?_; simp only [go_sem, hge, tyAll, Nat.reduceAdd, Nat.reduceLT, Nat.reduceLeDiff, Nat.reduceEqDiff, Nat.reduceMul, Nat.reduceSub, Nat.reduceGT, reduceIte, Int.reduceNeg, Int.reduceToNat]) | (refine WP.flowW 13 [⟨[5], [], [], [], [], []⟩, ⟨[10], [], [], [], [], []⟩, ⟨[5], [], [], [], [], []⟩, ⟨[10], [], [], [], [], []⟩, ⟨[89, 90], [2, 3], [], [], [], []⟩, ⟨[91], [2, 3, 4], [], [], [], []⟩, ⟨[92], [2, 3, 4, 5], [], [], [], []⟩, ⟨[6], [], [], [], [], []⟩, ⟨[7], [], [], [], [], []⟩, ⟨[94, 95], [7, 8], [], [], [], []⟩, ⟨[96], [7, 8, 9], [], [], [], []⟩, ⟨[97], [7, 8, 9, 10], [], [], [], []⟩, ⟨[93, 98], [2, 3, 4, 5, 6, 7, 8, 9, 10, 11], [], [], [], []⟩, ⟨[], [0, 1, 2, 3, 4, 5, 6, 7, 8, 9, 10, 11, 12], [], [], [], []⟩, ⟨[], [0, 1, 2, 3, 4, 5, 6, 7, 8, 9, 10, 11, 12, 13], [], [], [], []⟩, ⟨[], [0, 1, 2, 3, 4, 5, 6, 7, 8, 9, 10, 11, 12, 13, 14], [], [], [], []⟩] [87, 88, 89, 90, 91, 92, 93, 94, 95, 96, 97, 98, 99] [] [] (by decide +kernel) (by kernel_rfl) (by kernel_rfl) (by kernel_rfl) ?_; simp only [go_sem, hge, tyAll, Nat.reduceAdd, Nat.reduceLT, Nat.reduceLeDiff, Nat.reduceEqDiff, Nat.reduceMul, Nat.reduceSub, Nat.reduceGT, reduceIte, Int.reduceNeg, Int.reduceToNat]) |  refine And.intro ?_ ?_ | intro _))
    all_goals first | omega | skip
    all_goals first | exact ⟨k + 1, by omega, by omega, by (first | rfl | exact ⟨rfl, rfl⟩ | exact ⟨rfl, rfl, rfl⟩ | exact ⟨rfl, rfl, rfl, rfl⟩ | exact ⟨rfl, rfl, rfl, rfl, rfl⟩ | exact ⟨⟨rfl, rfl⟩, rfl⟩ | simp)⟩ | trace_state
  have hmi : (m : Int) < n := by omega
  have hbr := hB _ (List.getElem_mem hml)
  have s0 : (fun x => decide (x < m) && lastOn F x) m = false := by simp
  have t0 : (fun x => decide (x < m) && onLine F x) m = false := by simp
  have g0 := lc_row (c := c) (L := L) (s := fun x => decide (x < m) && lastOn F x) (t := fun x => decide (x < m) && onLine F x) hml s0 t0
  have g1 := lc_setT (c := c) (L := L) (s := fun x => decide (x < m) && lastOn F x) (t := fun x => decide (x < m) && onLine F x) hml s0 t0
  have g2 := lc_setS (c := c) (L := L) (s := fun x => decide (x < m) && lastOn F x) (t := fun x => decide (x < m) && onLine F x) hml s0 t0
  have t1 : (fun x => (decide (x < m) && onLine F x) || decide (x = m)) m = true := by simp
  have g3 := lc_row1 (c := c) (L := L) (s := fun x => decide (x < m) && lastOn F x) (t := fun x => (decide (x < m) && onLine F x) || decide (x = m)) hml s0 t1
  have g4 := lc_setS1 (c := c) (L := L) (s := fun x => decide (x < m) && lastOn F x) (t := fun x => (decide (x < m) && onLine F x) || decide (x = m)) hml s0 t1
  have gl := addK_len c (fun x => decide (x < m) && lastOn F x) (fun x => decide (x < m) && onLine F x) L
  have gl1 := addK_len c (fun x => decide (x < m) && lastOn F x) (fun x => (decide (x < m) && onLine F x) || decide (x = m)) L
  have hsucc : ∀ (u v : Nat → Bool), (∀ x, x < L.length → u x = (decide (x < m + 1) && lastOn F x)) → (∀ x, x < L.length → v x = (decide (x < m + 1) && onLine F x)) → addK c u v L = addK c (fun x => decide (x < m + 1) && lastOn F x) (fun x => decide (x < m + 1) && onLine F x) L := fun u v h1 h2 => addK_congr h1 h2
  (repeat' (first | refine WP.seq ?_ | refine WP.block ?_ | ((first | refine WP.region ?_ | refine WP.condW ?_ | refine WP.ret ?_ | refine WP.exit ?_ | refine WP.skip ?_); simp only [go_sem, hmi, tyAll, Nat.reduceAdd, Nat.reduceLT, Nat.reduceLeDiff, Nat.reduceEqDiff, Nat.reduceMul, Nat.reduceSub, Nat.reduceGT, reduceIte, Int.reduceNeg, Int.reduceToNat]) | (refine WP.flowW 13 [⟨[5], [], [], [], [], []⟩, ⟨[10], [], [], [], [], []⟩, ⟨[5], [], [], [], [], []⟩, ⟨[10], [], [], [], [], []⟩, ⟨[65, 66], [2, 3], [], [], [], []⟩, ⟨[67], [2, 3, 4], [], [], [], []⟩, ⟨[68], [2, 3, 4, 5], [], [], [], []⟩, ⟨[6], [], [], [], [], []⟩, ⟨[7], [], [], [], [], []⟩, ⟨[70, 71], [7, 8], [], [], [], []⟩, ⟨[72], [7, 8, 9], [], [], [], []⟩, ⟨[73], [7, 8, 9, 10], [], [], [], []⟩, ⟨[69, 74], [2, 3, 4, 5, 6, 7, 8, 9, 10, 11], [], [], [], []⟩, ⟨[], [0, 1, 2, 3, 4, 5, 6, 7, 8, 9, 10, 11, 12], [], [], [], []⟩, ⟨[], [0, 1, 2, 3, 4, 5, 6, 7, 8, 9, 10, 11, 12, 13], [], [], [], []⟩, ⟨[], [0, 1, 2, 3, 4, 5, 6, 7, 8, 9, 10, 11, 12, 13, 14], [], [], [], []⟩] [63, 64, 65, 66, 67, 68, 69, 70, 71, 72, 73, 74, 75] [] [] (by decide +kernel) (by kernel_rfl) (by kernel_rfl) (by kernel_rfl) ?_; simp only [go_sem, hmi, tyAll, Nat.reduceAdd, Nat.reduceLT, Nat.reduceLeDiff, Nat.reduceEqDiff, Nat.reduceMul, Nat.reduceSub, Nat.reduceGT, reduceIte, Int.reduceNeg, Int.reduceToNat]) | (refine WP.flowW 13 [⟨[5], [], [], [], [], []⟩, ⟨[10], [], [], [], [], []⟩, ⟨[5], [], [], [], [], []⟩, ⟨[10], [], [], [], [], []⟩, ⟨[89, 90], [2, 3], [], [], [], []⟩, ⟨[91], [2, 3, 4], [], [], [], []⟩, ⟨[92], [2, 3, 4, 5], [], [], [], []⟩, ⟨[6], [], [], [], [], []⟩, ⟨[7], [], [], [], [], []⟩, ⟨[94, 95], [7, 8], [], [], [], []⟩, ⟨[96], [7, 8, 9], [], [], [], []⟩, ⟨[97], [7, 8, 9, 10], [], [], [], []⟩, ⟨[93, 98], [2, 3, 4, 5, 6, 7, 8, 9, 10, 11], [], [], [], []⟩, ⟨[], [0, 1, 2, 3, 4, 5, 6, 7, 8, 9, 10, 11, 12], [], [], [], []⟩, ⟨[], [0, 1, 2, 3, 4, 5, 6, 7, 8, 9, 10, 11, 12, 13], [], [], [], []⟩, ⟨[], [0, 1, 2, 3, 4, 5, 6, 7, 8, 9, 10, 11, 12, 13, 14], [], [], [], []⟩] [87, 88, 89, 90, 91, 92, 93, 94, 95, 96, 97, 98, 99] [] [] (by decide +kernel) (by kernel_rfl) (by kernel_rfl) (by kernel_rfl) ?_; simp only [go_sem, hmi, tyAll, Nat.reduceAdd, Nat.reduceLT, Nat.reduceLeDiff, Nat.reduceEqDiff, Nat.reduceMul, Nat.reduceSub, Nat.reduceGT, reduceIte, Int.reduceNeg, Int.reduceToNat]) |  refine And.intro ?_ ?_ | intro _))
  all_goals first | omega | skip
  refine WP.loop (fun i : Nat => ⟨[(1, .v (.int .i64 n)), (5, .own 23), (6, .sl 2 ((entriesOf N C).map encEntry)), (7, .v (.int .i64 k)), (8, .sl 2 (F.map encFrame)), (10, .v (.int .i64 m)), (11, .v (.bool (onLine (F.take i) m))), (12, .v (.int .i64 i))], [(23, .sl 70 2 ((addK c (fun x => decide (x < m) && lastOn F x) (fun x => decide (x < m) && onLine F x) L).map encLineCount))]⟩)
    (fun i => i ≤ F.length) (fun i => F.length - i) 0 (by simp) ?_ ?_
  · (simp only [go_sem, tyAll, Nat.reduceAdd, Nat.reduceLT, Nat.reduceLeDiff, Nat.reduceEqDiff, Nat.reduceMul, Nat.reduceSub, Nat.reduceGT, reduceIte, Int.reduceNeg, Int.reduceToNat] <;> (first | rfl | exact ⟨rfl, rfl⟩ | exact ⟨rfl, rfl, rfl⟩ | exact ⟨rfl, rfl, rfl, rfl⟩ | exact ⟨rfl, rfl, rfl, rfl, rfl⟩ | exact ⟨⟨rfl, rfl⟩, rfl⟩ | simp))
  intro i hi
  by_cases hil : i < F.length
  · have hii : (i : Int) < F.length := by omega
    have h1 := rowAt_map encFrame F i hil
    have hos := onLine_succ hil m
    cases ho : onLine (F.take i) m with
    | true =>
      rw [ho, Bool.true_or] at hos
      (repeat' (first | refine WP.seq ?_ | refine WP.block ?_ | ((first | refine WP.region ?_ | refine WP.condW ?_ | refine WP.ret ?_ | refine WP.exit ?_ | refine WP.skip ?_); simp only [go_sem, hii, h1, encFrame, tyAll, Nat.reduceAdd, Nat.reduceLT, Nat.reduceLeDiff, Nat.reduceEqDiff, Nat.reduceMul, Nat.reduceSub, Nat.reduceGT, reduceIte, Int.reduceNeg, Int.reduceToNat]) | (refine WP.flowW 13 [⟨[5], [], [], [], [], []⟩, ⟨[10], [], [], [], [], []⟩, ⟨[5], [], [], [], [], []⟩, ⟨[10], [], [], [], [], []⟩, ⟨[65, 66], [2, 3], [], [], [], []⟩, ⟨[67], [2, 3, 4], [], [], [], []⟩, ⟨[68], [2, 3, 4, 5], [], [], [], []⟩, ⟨[6], [], [], [], [], []⟩, ⟨[7], [], [], [], [], []⟩, ⟨[70, 71], [7, 8], [], [], [], []⟩, ⟨[72], [7, 8, 9], [], [], [], []⟩, ⟨[73], [7, 8, 9, 10], [], [], [], []⟩, ⟨[69, 74], [2, 3, 4, 5, 6, 7, 8, 9, 10, 11], [], [], [], []⟩, ⟨[], [0, 1, 2, 3, 4, 5, 6, 7, 8, 9, 10, 11, 12], [], [], [], []⟩, ⟨[], [0, 1, 2, 3, 4, 5, 6, 7, 8, 9, 10, 11, 12, 13], [], [], [], []⟩, ⟨[], [0, 1, 2, 3, 4, 5, 6, 7, 8, 9, 10, 11, 12, 13, 14], [], [], [], []⟩] [63, 64, 65, 66, 67, 68, 69, 70, 71, 72, 73, 74, 75] [] [] (by decide +kernel) (by kernel_rfl) (by kernel_rfl) (by kernel_rfl) ?_; simp only [go_sem, hii, h1, encFrame, tyAll, Nat.reduceAdd, Nat.reduceLT, Nat.reduceLeDiff, Nat.reduceEqDiff, Nat.reduceMul, Nat.reduceSub, Nat.reduceGT, reduceIte, Int.reduceNeg, Int.reduceToNat]) | (refine WP.flowW 13 [⟨[5], [], [], [], [], []⟩, ⟨[10], [], [], [], [], []⟩, ⟨[5], [], [], [], [], []⟩, ⟨[10], [], [], [], [], []⟩, ⟨[89, 90], [2, 3], [], [], [], []⟩, ⟨[91], [2, 3, 4], [], [], [], []⟩, ⟨[92], [2, 3, 4, 5], [], [], [], []⟩, ⟨[6], [], [], [], [], []⟩, ⟨[7], [], [], [], [], []⟩, ⟨[94, 95], [7, 8], [], [], [], []⟩, ⟨[96], [7, 8, 9], [], [], [], []⟩, ⟨[97], [7, 8, 9, 10], [], [], [], []⟩, ⟨[93, 98], [2, 3, 4, 5, 6, 7, 8, 9, 10, 11], [], [], [], []⟩, ⟨[], [0, 1, 2, 3, 4, 5, 6, 7, 8, 9, 10, 11, 12], [], [], [], []⟩, ⟨[], [0, 1, 2, 3, 4, 5, 6, 7, 8, 9, 10, 11, 12, 13], [], [], [], []⟩, ⟨[], [0, 1, 2, 3, 4, 5, 6, 7, 8, 9, 10, 11, 12, 13, 14], [], [], [], []⟩] [87, 88, 89, 90, 91, 92, 93, 94, 95, 96, 97, 98, 99] [] [] (by decide +kernel) (by kernel_rfl) (by kernel_rfl) (by kernel_rfl) ?_; simp only [go_sem, hii, h1, encFrame, tyAll, Nat.reduceAdd, Nat.reduceLT, Nat.reduceLeDiff, Nat.reduceEqDiff, Nat.reduceMul, Nat.reduceSub, Nat.reduceGT, reduceIte, Int.reduceNeg, Int.reduceToNat]) |  refine And.intro ?_ ?_ | intro _))
      all_goals first | omega | skip
      all_goals first | exact ⟨i + 1, by omega, by omega, by simp only [hos]; (first | rfl | exact ⟨rfl, rfl⟩ | exact ⟨rfl, rfl, rfl⟩ | exact ⟨rfl, rfl, rfl, rfl⟩ | exact ⟨rfl, rfl, rfl, rfl, rfl⟩ | exact ⟨⟨rfl, rfl⟩, rfl⟩ | simp)⟩ | trace_state
    | false =>
      rw [ho, Bool.false_or] at hos
      by_cases hq : F[i].line = (m : Int)
      · rw [decide_eq_true hq] at hos
        have hq' : (F[i].line = (m : Int)) = True := eq_true hq
        (repeat' (first | refine WP.seq ?_ | refine WP.block ?_ | ((first | refine WP.region ?_ | refine WP.condW ?_ | refine WP.ret ?_ | refine WP.exit ?_ | refine WP.skip ?_); simp only [go_sem, hii, h1, encFrame, hq', tyAll, Nat.reduceAdd, Nat.reduceLT, Nat.reduceLeDiff, Nat.reduceEqDiff, Nat.reduceMul, Nat.reduceSub, Nat.reduceGT, reduceIte, Int.reduceNeg, Int.reduceToNat]) | (refine WP.flowW 13 [⟨[5], [], [], [], [], []⟩, ⟨[10], [], [], [], [], []⟩, ⟨[5], [], [], [], [], []⟩, ⟨[10], [], [], [], [], []⟩, ⟨[65, 66], [2, 3], [], [], [], []⟩, ⟨[67], [2, 3, 4], [], [], [], []⟩, ⟨[68], [2, 3, 4, 5], [], [], [], []⟩, ⟨[6], [], [], [], [], []⟩, ⟨[7], [], [], [], [], []⟩, ⟨[70, 71], [7, 8], [], [], [], []⟩, ⟨[72], [7, 8, 9], [], [], [], []⟩, ⟨[73], [7, 8, 9, 10], [], [], [], []⟩, ⟨[69, 74], [2, 3, 4, 5, 6, 7, 8, 9, 10, 11], [], [], [], []⟩, ⟨[], [0, 1, 2, 3, 4, 5, 6, 7, 8, 9, 10, 11, 12], [], [], [], []⟩, ⟨[], [0, 1, 2, 3, 4, 5, 6, 7, 8, 9, 10, 11, 12, 13], [], [], [], []⟩, ⟨[], [0, 1, 2, 3, 4, 5, 6, 7, 8, 9, 10, 11, 12, 13, 14], [], [], [], []⟩] [63, 64, 65, 66, 67, 68, 69, 70, 71, 72, 73, 74, 75] [] [] (by decide +kernel) (by kernel_rfl) (by kernel_rfl) (by kernel_rfl) ?_; simp only [go_sem, hii, h1, encFrame, hq', tyAll, Nat.reduceAdd, Nat.reduceLT, Nat.reduceLeDiff, Nat.reduceEqDiff, Nat.reduceMul, Nat.reduceSub, Nat.reduceGT, reduceIte, Int.reduceNeg, Int.reduceToNat]) | (refine WP.flowW 13 [⟨[5], [], [], [], [], []⟩, ⟨[10], [], [], [], [], []⟩, ⟨[5], [], [], [], [], []⟩, ⟨[10], [], [], [], [], []⟩, ⟨[89, 90], [2, 3], [], [], [], []⟩, ⟨[91], [2, 3, 4], [], [], [], []⟩, ⟨[92], [2, 3, 4, 5], [], [], [], []⟩, ⟨[6], [], [], [], [], []⟩, ⟨[7], [], [], [], [], []⟩, ⟨[94, 95], [7, 8], [], [], [], []⟩, ⟨[96], [7, 8, 9], [], [], [], []⟩, ⟨[97], [7, 8, 9, 10], [], [], [], []⟩, ⟨[93, 98], [2, 3, 4, 5, 6, 7, 8, 9, 10, 11], [], [], [], []⟩, ⟨[], [0, 1, 2, 3, 4, 5, 6, 7, 8, 9, 10, 11, 12], [], [], [], []⟩, ⟨[], [0, 1, 2, 3, 4, 5, 6, 7, 8, 9, 10, 11, 12, 13], [], [], [], []⟩, ⟨[], [0, 1, 2, 3, 4, 5, 6, 7, 8, 9, 10, 11, 12, 13, 14], [], [], [], []⟩] [87, 88, 89, 90, 91, 92, 93, 94, 95, 96, 97, 98, 99] [] [] (by decide +kernel) (by kernel_rfl) (by kernel_rfl) (by kernel_rfl) ?_; simp only [go_sem, hii, h1, encFrame, hq', tyAll, Nat.reduceAdd, Nat.reduceLT, Nat.reduceLeDiff, Nat.reduceEqDiff, Nat.reduceMul, Nat.reduceSub, Nat.reduceGT, reduceIte, Int.reduceNeg, Int.reduceToNat]) |  refine And.intro ?_ ?_ | intro _))
        all_goals first | omega | skip
        all_goals first | exact ⟨i + 1, by omega, by omega, by simp only [hos]; first | ((first | rfl | exact ⟨rfl, rfl⟩ | exact ⟨rfl, rfl, rfl⟩ | exact ⟨rfl, rfl, rfl, rfl⟩ | exact ⟨rfl, rfl, rfl, rfl, rfl⟩ | exact ⟨⟨rfl, rfl⟩, rfl⟩ | simp); done) | ((first | rfl | exact ⟨rfl, rfl⟩ | exact ⟨rfl, rfl, rfl⟩ | exact ⟨rfl, rfl, rfl, rfl⟩ | exact ⟨rfl, rfl, rfl, rfl, rfl⟩ | exact ⟨⟨rfl, rfl⟩, rfl⟩ | simp); exact hq) | ((first | rfl | exact ⟨rfl, rfl⟩ | exact ⟨rfl, rfl, rfl⟩ | exact ⟨rfl, rfl, rfl, rfl⟩ | exact ⟨rfl, rfl, rfl, rfl, rfl⟩ | exact ⟨⟨rfl, rfl⟩, rfl⟩ | simp); simpa using hq)⟩ | trace_state
      · rw [decide_eq_false hq] at hos
        have hq' : (F[i].line = (m : Int)) = False := eq_false hq
        (repeat' (first | refine WP.seq ?_ | refine WP.block ?_ | ((first | refine WP.region ?_ | refine WP.condW ?_ | refine WP.ret ?_ | refine WP.exit ?_ | refine WP.skip ?_); simp only [go_sem, hii, h1, encFrame, hq', tyAll, Nat.reduceAdd, Nat.reduceLT, Nat.reduceLeDiff, Nat.reduceEqDiff, Nat.reduceMul, Nat.reduceSub, Nat.reduceGT, reduceIte, Int.reduceNeg, Int.reduceToNat]) | (refine WP.flowW 13 [⟨[5], [], [], [], [], []⟩, ⟨[10], [], [], [], [], []⟩, ⟨[5], [], [], [], [], []⟩, ⟨[10], [], [], [], [], []⟩, ⟨[65, 66], [2, 3], [], [], [], []⟩, ⟨[67], [2, 3, 4], [], [], [], []⟩, ⟨[68], [2, 3, 4, 5], [], [], [], []⟩, ⟨[6], [], [], [], [], []⟩, ⟨[7], [], [], [], [], []⟩, ⟨[70, 71], [7, 8], [], [], [], []⟩, ⟨[72], [7, 8, 9], [], [], [], []⟩, ⟨[73], [7, 8, 9, 10], [], [], [], []⟩, ⟨[69, 74], [2, 3, 4, 5, 6, 7, 8, 9, 10, 11], [], [], [], []⟩, ⟨[], [0, 1, 2, 3, 4, 5, 6, 7, 8, 9, 10, 11, 12], [], [], [], []⟩, ⟨[], [0, 1, 2, 3, 4, 5, 6, 7, 8, 9, 10, 11, 12, 13], [], [], [], []⟩, ⟨[], [0, 1, 2, 3, 4, 5, 6, 7, 8, 9, 10, 11, 12, 13, 14], [], [], [], []⟩] [63, 64, 65, 66, 67, 68, 69, 70, 71, 72, 73, 74, 75] [] [] (by decide +kernel) (by kernel_rfl) (by kernel_rfl) (by kernel_rfl) ?_; simp only [go_sem, hii, h1, encFrame, hq', tyAll, Nat.reduceAdd, Nat.reduceLT, Nat.reduceLeDiff, Nat.reduceEqDiff, Nat.reduceMul, Nat.reduceSub, Nat.reduceGT, reduceIte, Int.reduceNeg, Int.reduceToNat]) | (refine WP.flowW 13 [⟨[5], [], [], [], [], []⟩, ⟨[10], [], [], [], [], []⟩, ⟨[5], [], [], [], [], []⟩, ⟨[10], [], [], [], [], []⟩, ⟨[89, 90], [2, 3], [], [], [], []⟩, ⟨[91], [2, 3, 4], [], [], [], []⟩, ⟨[92], [2, 3, 4, 5], [], [], [], []⟩, ⟨[6], [], [], [], [], []⟩, ⟨[7], [], [], [], [], []⟩, ⟨[94, 95], [7, 8], [], [], [], []⟩, ⟨[96], [7, 8, 9], [], [], [], []⟩, ⟨[97], [7, 8, 9, 10], [], [], [], []⟩, ⟨[93, 98], [2, 3, 4, 5, 6, 7, 8, 9, 10, 11], [], [], [], []⟩, ⟨[], [0, 1, 2, 3, 4, 5, 6, 7, 8, 9, 10, 11, 12], [], [], [], []⟩, ⟨[], [0, 1, 2, 3, 4, 5, 6, 7, 8, 9, 10, 11, 12, 13], [], [], [], []⟩, ⟨[], [0, 1, 2, 3, 4, 5, 6, 7, 8, 9, 10, 11, 12, 13, 14], [], [], [], []⟩] [87, 88, 89, 90, 91, 92, 93, 94, 95, 96, 97, 98, 99] [] [] (by decide +kernel) (by kernel_rfl) (by kernel_rfl) (by kernel_rfl) ?_; simp only [go_sem, hii, h1, encFrame, hq', tyAll, Nat.reduceAdd, Nat.reduceLT, Nat.reduceLeDiff, Nat.reduceEqDiff, Nat.reduceMul, Nat.reduceSub, Nat.reduceGT, reduceIte, Int.reduceNeg, Int.reduceToNat]) |  refine And.intro ?_ ?_ | intro _))
        all_goals first | omega | skip
        all_goals first | exact ⟨i + 1, by omega, by omega, by simp only [hos]; first | ((first | rfl | exact ⟨rfl, rfl⟩ | exact ⟨rfl, rfl, rfl⟩ | exact ⟨rfl, rfl, rfl, rfl⟩ | exact ⟨rfl, rfl, rfl, rfl, rfl⟩ | exact ⟨⟨rfl, rfl⟩, rfl⟩ | simp); done) | ((first | rfl | exact ⟨rfl, rfl⟩ | exact ⟨rfl, rfl, rfl⟩ | exact ⟨rfl, rfl, rfl, rfl⟩ | exact ⟨rfl, rfl, rfl, rfl, rfl⟩ | exact ⟨⟨rfl, rfl⟩, rfl⟩ | simp); exact hq) | ((first | rfl | exact ⟨rfl, rfl⟩ | exact ⟨rfl, rfl, rfl⟩ | exact ⟨rfl, rfl, rfl, rfl⟩ | exact ⟨rfl, rfl, rfl, rfl, rfl⟩ | exact ⟨⟨rfl, rfl⟩, rfl⟩ | simp); simpa using hq)⟩ | trace_state
  have hge : ¬ (i : Int) < F.length := by omega
  have hie : i = F.length := by omega
  subst hie
  rw [List.take_length]
  have hlo := lastOn_at hF0 m
  have hfi : ((F.length : Int) - 1).toNat = F.length - 1 := by omega
  have hrl := rowAt_map encFrame F (F.length - 1) (by omega)
  have hb1 : ∀ x, x < m + 1 ↔ x < m ∨ x = m := fun x => by omega
  cases ho : onLine F m with
  | true =>
    by_cases hq : (F[F.length - 1]'(by omega)).line = (m : Int)
    · rw [decide_eq_true hq] at hlo
      have hq' : ((F[F.length - 1]'(by omega)).line = (m : Int)) = True := eq_true hq
      have hfin := hsucc (fun x => (decide (x < m) && lastOn F x) || decide (x = m)) (fun x => (decide (x < m) && onLine F x) || decide (x = m)) (fun x hx => by by_cases hxm : x = m <;> simp [hb1, hxm, hlo]) (fun x hx => by by_cases hxm : x = m <;> simp [hb1, hxm, ho])
      (repeat' (first | refine WP.seq ?_ | refine WP.block ?_ | ((first | refine WP.region ?_ | refine WP.condW ?_ | refine WP.ret ?_ | refine WP.exit ?_ | refine WP.skip ?_); simp only [go_sem, hge, hki, hE, hcE, encEntry, hfi, hrl, encFrame, hq', g0, g1, g3, g4, gl, gl1, tyAll, Nat.reduceAdd, Nat.reduceLT, Nat.reduceLeDiff, Nat.reduceEqDiff, Nat.reduceMul, Nat.reduceSub, Nat.reduceGT, reduceIte, Int.reduceNeg, Int.reduceToNat]) | (refine WP.flowW 13 [⟨[5], [], [], [], [], []⟩, ⟨[10], [], [], [], [], []⟩, ⟨[5], [], [], [], [], []⟩, ⟨[10], [], [], [], [], []⟩, ⟨[65, 66], [2, 3], [], [], [], []⟩, ⟨[67], [2, 3, 4], [], [], [], []⟩, ⟨[68], [2, 3, 4, 5], [], [], [], []⟩, ⟨[6], [], [], [], [], []⟩, ⟨[7], [], [], [], [], []⟩, ⟨[70, 71], [7, 8], [], [], [], []⟩, ⟨[72], [7, 8, 9], [], [], [], []⟩, ⟨[73], [7, 8, 9, 10], [], [], [], []⟩, ⟨[69, 74], [2, 3, 4, 5, 6, 7, 8, 9, 10, 11], [], [], [], []⟩, ⟨[], [0, 1, 2, 3, 4, 5, 6, 7, 8, 9, 10, 11, 12], [], [], [], []⟩, ⟨[], [0, 1, 2, 3, 4, 5, 6, 7, 8, 9, 10, 11, 12, 13], [], [], [], []⟩, ⟨[], [0, 1, 2, 3, 4, 5, 6, 7, 8, 9, 10, 11, 12, 13, 14], [], [], [], []⟩] [63, 64, 65, 66, 67, 68, 69, 70, 71, 72, 73, 74, 75] [] [] (by decide +kernel) (by kernel_rfl) (by kernel_rfl) (by kernel_rfl) ?_; simp only [go_sem, hge, hki, hE, hcE, encEntry, hfi, hrl, encFrame, hq', g0, g1, g3, g4, gl, gl1, tyAll, Nat.reduceAdd, Nat.reduceLT, Nat.reduceLeDiff, Nat.reduceEqDiff, Nat.reduceMul, Nat.reduceSub, Nat.reduceGT, reduceIte, Int.reduceNeg, Int.reduceToNat]) | (refine WP.flowW 13 [⟨[5], [], [], [], [], []⟩, ⟨[10], [], [], [], [], []⟩, ⟨[5], [], [], [], [], []⟩, ⟨[10], [], [], [], [], []⟩, ⟨[89, 90], [2, 3], [], [], [], []⟩, ⟨[91], [2, 3, 4], [], [], [], []⟩, ⟨[92], [2, 3, 4, 5], [], [], [], []⟩, ⟨[6], [], [], [], [], []⟩, ⟨[7], [], [], [], [], []⟩, ⟨[94, 95], [7, 8], [], [], [], []⟩, ⟨[96], [7, 8, 9], [], [], [], []⟩, ⟨[97], [7, 8, 9, 10], [], [], [], []⟩, ⟨[93, 98], [2, 3, 4, 5, 6, 7, 8, 9, 10, 11], [], [], [], []⟩, ⟨[], [0, 1, 2, 3, 4, 5, 6, 7, 8, 9, 10, 11, 12], [], [], [], []⟩, ⟨[], [0, 1, 2, 3, 4, 5, 6, 7, 8, 9, 10, 11, 12, 13], [], [], [], []⟩, ⟨[], [0, 1, 2, 3, 4, 5, 6, 7, 8, 9, 10, 11, 12, 13, 14], [], [], [], []⟩] [87, 88, 89, 90, 91, 92, 93, 94, 95, 96, 97, 98, 99] [] [] (by decide +kernel) (by kernel_rfl) (by kernel_rfl) (by kernel_rfl) ?_; simp only [go_sem, hge, hki, hE, hcE, encEntry, hfi, hrl, encFrame, hq', g0, g1, g3, g4, gl, gl1, tyAll, Nat.reduceAdd, Nat.reduceLT, Nat.reduceLeDiff, Nat.reduceEqDiff, Nat.reduceMul, Nat.reduceSub, Nat.reduceGT, reduceIte, Int.reduceNeg, Int.reduceToNat]) |  refine And.intro ?_ ?_ | intro _))
      all_goals first | omega | skip
      all_goals first | exact ⟨m + 1, by omega, by omega, by simp only [← hfin]; (first | rfl | exact ⟨rfl, rfl⟩ | exact ⟨rfl, rfl, rfl⟩ | exact ⟨rfl, rfl, rfl, rfl⟩ | exact ⟨rfl, rfl, rfl, rfl, rfl⟩ | exact ⟨⟨rfl, rfl⟩, rfl⟩ | simp)⟩ | trace_state
    · rw [decide_eq_false hq] at hlo
      have hq' : ((F[F.length - 1]'(by omega)).line = (m : Int)) = False := eq_false hq
      have hfin := hsucc (fun x => decide (x < m) && lastOn F x) (fun x => (decide (x < m) && onLine F x) || decide (x = m)) (fun x hx => by by_cases hxm : x = m <;> simp [hb1, hxm, hlo]) (fun x hx => by by_cases hxm : x = m <;> simp [hb1, hxm, ho])
      (repeat' (first | refine WP.seq ?_ | refine WP.block ?_ | ((first | refine WP.region ?_ | refine WP.condW ?_ | refine WP.ret ?_ | refine WP.exit ?_ | refine WP.skip ?_); simp only [go_sem, hge, hki, hE, hcE, encEntry, hfi, hrl, encFrame, hq', g0, g1, gl, tyAll, Nat.reduceAdd, Nat.reduceLT, Nat.reduceLeDiff, Nat.reduceEqDiff, Nat.reduceMul, Nat.reduceSub, Nat.reduceGT, reduceIte, Int.reduceNeg, Int.reduceToNat]) | (refine WP.flowW 13 [⟨[5], [], [], [], [], []⟩, ⟨[10], [], [], [], [], []⟩, ⟨[5], [], [], [], [], []⟩, ⟨[10], [], [], [], [], []⟩, ⟨[65, 66], [2, 3], [], [], [], []⟩, ⟨[67], [2, 3, 4], [], [], [], []⟩, ⟨[68], [2, 3, 4, 5], [], [], [], []⟩, ⟨[6], [], [], [], [], []⟩, ⟨[7], [], [], [], [], []⟩, ⟨[70, 71], [7, 8], [], [], [], []⟩, ⟨[72], [7, 8, 9], [], [], [], []⟩, ⟨[73], [7, 8, 9, 10], [], [], [], []⟩, ⟨[69, 74], [2, 3, 4, 5, 6, 7, 8, 9, 10, 11], [], [], [], []⟩, ⟨[], [0, 1, 2, 3, 4, 5, 6, 7, 8, 9, 10, 11, 12], [], [], [], []⟩, ⟨[], [0, 1, 2, 3, 4, 5, 6, 7, 8, 9, 10, 11, 12, 13], [], [], [], []⟩, ⟨[], [0, 1, 2, 3, 4, 5, 6, 7, 8, 9, 10, 11, 12, 13, 14], [], [], [], []⟩] [63, 64, 65, 66, 67, 68, 69, 70, 71, 72, 73, 74, 75] [] [] (by decide +kernel) (by kernel_rfl) (by kernel_rfl) (by kernel_rfl) ?_; simp only [go_sem, hge, hki, hE, hcE, encEntry, hfi, hrl, encFrame, hq', g0, g1, gl, tyAll, Nat.reduceAdd, Nat.reduceLT, Nat.reduceLeDiff, Nat.reduceEqDiff, Nat.reduceMul, Nat.reduceSub, Nat.reduceGT, reduceIte, Int.reduceNeg, Int.reduceToNat]) | (refine WP.flowW 13 [⟨[5], [], [], [], [], []⟩, ⟨[10], [], [], [], [], []⟩, ⟨[5], [], [], [], [], []⟩, ⟨[10], [], [], [], [], []⟩, ⟨[89, 90], [2, 3], [], [], [], []⟩, ⟨[91], [2, 3, 4], [], [], [], []⟩, ⟨[92], [2, 3, 4, 5], [], [], [], []⟩, ⟨[6], [], [], [], [], []⟩, ⟨[7], [], [], [], [], []⟩, ⟨[94, 95], [7, 8], [], [], [], []⟩, ⟨[96], [7, 8, 9], [], [], [], []⟩, ⟨[97], [7, 8, 9, 10], [], [], [], []⟩, ⟨[93, 98], [2, 3, 4, 5, 6, 7, 8, 9, 10, 11], [], [], [], []⟩, ⟨[], [0, 1, 2, 3, 4, 5, 6, 7, 8, 9, 10, 11, 12], [], [], [], []⟩, ⟨[], [0, 1, 2, 3, 4, 5, 6, 7, 8, 9, 10, 11, 12, 13], [], [], [], []⟩, ⟨[], [0, 1, 2, 3, 4, 5, 6, 7, 8, 9, 10, 11, 12, 13, 14], [], [], [], []⟩] [87, 88, 89, 90, 91, 92, 93, 94, 95, 96, 97, 98, 99] [] [] (by decide +kernel) (by kernel_rfl) (by kernel_rfl) (by kernel_rfl) ?_; simp only [go_sem, hge, hki, hE, hcE, encEntry, hfi, hrl, encFrame, hq', g0, g1, gl, tyAll, Nat.reduceAdd, Nat.reduceLT, Nat.reduceLeDiff, Nat.reduceEqDiff, Nat.reduceMul, Nat.reduceSub, Nat.reduceGT, reduceIte, Int.reduceNeg, Int.reduceToNat]) |  refine And.intro ?_ ?_ | intro _))
      all_goals first | omega | skip
      all_goals first | exact ⟨m + 1, by omega, by omega, by simp only [← hfin]; (first | rfl | exact ⟨rfl, rfl⟩ | exact ⟨rfl, rfl, rfl⟩ | exact ⟨rfl, rfl, rfl, rfl⟩ | exact ⟨rfl, rfl, rfl, rfl, rfl⟩ | exact ⟨⟨rfl, rfl⟩, rfl⟩ | simp)⟩ | trace_state
  | false =>
    by_cases hq : (F[F.length - 1]'(by omega)).line = (m : Int)
    · rw [decide_eq_true hq] at hlo
      have hq' : ((F[F.length - 1]'(by omega)).line = (m : Int)) = True := eq_true hq
      have hfin := hsucc (fun x => (decide (x < m) && lastOn F x) || decide (x = m)) (fun x => decide (x < m) && onLine F x) (fun x hx => by by_cases hxm : x = m <;> simp [hb1, hxm, hlo]) (fun x hx => by by_cases hxm : x = m <;> simp [hb1, hxm, ho])
      (repeat' (first | refine WP.seq ?_ | refine WP.block ?_ | ((first | refine WP.region ?_ | refine WP.condW ?_ | refine WP.ret ?_ | refine WP.exit ?_ | refine WP.skip ?_); simp only [go_sem, hge, hki, hE, hcE, encEntry, hfi, hrl, encFrame, hq', g0, g2, gl, tyAll, Nat.reduceAdd, Nat.reduceLT, Nat.reduceLeDiff, Nat.reduceEqDiff, Nat.reduceMul, Nat.reduceSub, Nat.reduceGT, reduceIte, Int.reduceNeg, Int.reduceToNat]) | (refine WP.flowW 13 [⟨[5], [], [], [], [], []⟩, ⟨[10], [], [], [], [], []⟩, ⟨[5], [], [], [], [], []⟩, ⟨[10], [], [], [], [], []⟩, ⟨[65, 66], [2, 3], [], [], [], []⟩, ⟨[67], [2, 3, 4], [], [], [], []⟩, ⟨[68], [2, 3, 4, 5], [], [], [], []⟩, ⟨[6], [], [], [], [], []⟩, ⟨[7], [], [], [], [], []⟩, ⟨[70, 71], [7, 8], [], [], [], []⟩, ⟨[72], [7, 8, 9], [], [], [], []⟩, ⟨[73], [7, 8, 9, 10], [], [], [], []⟩, ⟨[69, 74], [2, 3, 4, 5, 6, 7, 8, 9, 10, 11], [], [], [], []⟩, ⟨[], [0, 1, 2, 3, 4, 5, 6, 7, 8, 9, 10, 11, 12], [], [], [], []⟩, ⟨[], [0, 1, 2, 3, 4, 5, 6, 7, 8, 9, 10, 11, 12, 13], [], [], [], []⟩, ⟨[], [0, 1, 2, 3, 4, 5, 6, 7, 8, 9, 10, 11, 12, 13, 14], [], [], [], []⟩] [63, 64, 65, 66, 67, 68, 69, 70, 71, 72, 73, 74, 75] [] [] (by decide +kernel) (by kernel_rfl) (by kernel_rfl) (by kernel_rfl) ?_; simp only [go_sem, hge, hki, hE, hcE, encEntry, hfi, hrl, encFrame, hq', g0, g2, gl, tyAll, Nat.reduceAdd, Nat.reduceLT, Nat.reduceLeDiff, Nat.reduceEqDiff, Nat.reduceMul, Nat.reduceSub, Nat.reduceGT, reduceIte, Int.reduceNeg, Int.reduceToNat]) | (refine WP.flowW 13 [⟨[5], [], [], [], [], []⟩, ⟨[10], [], [], [], [], []⟩, ⟨[5], [], [], [], [], []⟩, ⟨[10], [], [], [], [], []⟩, ⟨[89, 90], [2, 3], [], [], [], []⟩, ⟨[91], [2, 3, 4], [], [], [], []⟩, ⟨[92], [2, 3, 4, 5], [], [], [], []⟩, ⟨[6], [], [], [], [], []⟩, ⟨[7], [], [], [], [], []⟩, ⟨[94, 95], [7, 8], [], [], [], []⟩, ⟨[96], [7, 8, 9], [], [], [], []⟩, ⟨[97], [7, 8, 9, 10], [], [], [], []⟩, ⟨[93, 98], [2, 3, 4, 5, 6, 7, 8, 9, 10, 11], [], [], [], []⟩, ⟨[], [0, 1, 2, 3, 4, 5, 6, 7, 8, 9, 10, 11, 12], [], [], [], []⟩, ⟨[], [0, 1, 2, 3, 4, 5, 6, 7, 8, 9, 10, 11, 12, 13], [], [], [], []⟩, ⟨[], [0, 1, 2, 3, 4, 5, 6, 7, 8, 9, 10, 11, 12, 13, 14], [], [], [], []⟩] [87, 88, 89, 90, 91, 92, 93, 94, 95, 96, 97, 98, 99] [] [] (by decide +kernel) (by kernel_rfl) (by kernel_rfl) (by kernel_rfl) ?_; simp only [go_sem, hge, hki, hE, hcE, encEntry, hfi, hrl, encFrame, hq', g0, g2, gl, tyAll, Nat.reduceAdd, Nat.reduceLT, Nat.reduceLeDiff, Nat.reduceEqDiff, Nat.reduceMul, Nat.reduceSub, Nat.reduceGT, reduceIte, Int.reduceNeg, Int.reduceToNat]) |  refine And.intro ?_ ?_ | intro _))
      all_goals first | omega | skip
      all_goals first | exact ⟨m + 1, by omega, by omega, by simp only [← hfin]; (first | rfl | exact ⟨rfl, rfl⟩ | exact ⟨rfl, rfl, rfl⟩ | exact ⟨rfl, rfl, rfl, rfl⟩ | exact ⟨rfl, rfl, rfl, rfl, rfl⟩ | exact ⟨⟨rfl, rfl⟩, rfl⟩ | simp)⟩ | trace_state
    · rw [decide_eq_false hq] at hlo
      have hq' : ((F[F.length - 1]'(by omega)).line = (m : Int)) = False := eq_false hq
      have hfin := hsucc (fun x => decide (x < m) && lastOn F x) (fun x => decide (x < m) && onLine F x) (fun x hx => by by_cases hxm : x = m <;> simp [hb1, hxm, hlo]) (fun x hx => by by_cases hxm : x = m <;> simp [hb1, hxm, ho])
      (repeat' (first | refine WP.seq ?_ | refine WP.block ?_ | ((first | refine WP.region ?_ | refine WP.condW ?_ | refine WP.ret ?_ | refine WP.exit ?_ | refine WP.skip ?_); simp only [go_sem, hge, hki, hE, hcE, encEntry, hfi, hrl, encFrame, hq', tyAll, Nat.reduceAdd, Nat.reduceLT, Nat.reduceLeDiff, Nat.reduceEqDiff, Nat.reduceMul, Nat.reduceSub, Nat.reduceGT, reduceIte, Int.reduceNeg, Int.reduceToNat]) | (refine WP.flowW 13 [⟨[5], [], [], [], [], []⟩, ⟨[10], [], [], [], [], []⟩, ⟨[5], [], [], [], [], []⟩, ⟨[10], [], [], [], [], []⟩, ⟨[65, 66], [2, 3], [], [], [], []⟩, ⟨[67], [2, 3, 4], [], [], [], []⟩, ⟨[68], [2, 3, 4, 5], [], [], [], []⟩, ⟨[6], [], [], [], [], []⟩, ⟨[7], [], [], [], [], []⟩, ⟨[70, 71], [7, 8], [], [], [], []⟩, ⟨[72], [7, 8, 9], [], [], [], []⟩, ⟨[73], [7, 8, 9, 10], [], [], [], []⟩, ⟨[69, 74], [2, 3, 4, 5, 6, 7, 8, 9, 10, 11], [], [], [], []⟩, ⟨[], [0, 1, 2, 3, 4, 5, 6, 7, 8, 9, 10, 11, 12], [], [], [], []⟩, ⟨[], [0, 1, 2, 3, 4, 5, 6, 7, 8, 9, 10, 11, 12, 13], [], [], [], []⟩, ⟨[], [0, 1, 2, 3, 4, 5, 6, 7, 8, 9, 10, 11, 12, 13, 14], [], [], [], []⟩] [63, 64, 65, 66, 67, 68, 69, 70, 71, 72, 73, 74, 75] [] [] (by decide +kernel) (by kernel_rfl) (by kernel_rfl) (by kernel_rfl) ?_; simp only [go_sem, hge, hki, hE, hcE, encEntry, hfi, hrl, encFrame, hq', tyAll, Nat.reduceAdd, Nat.reduceLT, Nat.reduceLeDiff, Nat.reduceEqDiff, Nat.reduceMul, Nat.reduceSub, Nat.reduceGT, reduceIte, Int.reduceNeg, Int.reduceToNat]) | (refine WP.flowW 13 [⟨[5], [], [], [], [], []⟩, ⟨[10], [], [], [], [], []⟩, ⟨[5], [], [], [], [], []⟩, ⟨[10], [], [], [], [], []⟩, ⟨[89, 90], [2, 3], [], [], [], []⟩, ⟨[91], [2, 3, 4], [], [], [], []⟩, ⟨[92], [2, 3, 4, 5], [], [], [], []⟩, ⟨[6], [], [], [], [], []⟩, ⟨[7], [], [], [], [], []⟩, ⟨[94, 95], [7, 8], [], [], [], []⟩, ⟨[96], [7, 8, 9], [], [], [], []⟩, ⟨[97], [7, 8, 9, 10], [], [], [], []⟩, ⟨[93, 98], [2, 3, 4, 5, 6, 7, 8, 9, 10, 11], [], [], [], []⟩, ⟨[], [0, 1, 2, 3, 4, 5, 6, 7, 8, 9, 10, 11, 12], [], [], [], []⟩, ⟨[], [0, 1, 2, 3, 4, 5, 6, 7, 8, 9, 10, 11, 12, 13], [], [], [], []⟩, ⟨[], [0, 1, 2, 3, 4, 5, 6, 7, 8, 9, 10, 11, 12, 13, 14], [], [], [], []⟩] [87, 88, 89, 90, 91, 92, 93, 94, 95, 96, 97, 98, 99] [] [] (by decide +kernel) (by kernel_rfl) (by kernel_rfl) (by kernel_rfl) ?_; simp only [go_sem, hge, hki, hE, hcE, encEntry, hfi, hrl, encFrame, hq', tyAll, Nat.reduceAdd, Nat.reduceLT, Nat.reduceLeDiff, Nat.reduceEqDiff, Nat.reduceMul, Nat.reduceSub, Nat.reduceGT, reduceIte, Int.reduceNeg, Int.reduceToNat]) |  refine And.intro ?_ ?_ | intro _))
      all_goals first | omega | skip
      all_goals first | exact ⟨m + 1, by omega, by omega, by simp only [← hfin]; (first | rfl | exact ⟨rfl, rfl⟩ | exact ⟨rfl, rfl, rfl⟩ | exact ⟨rfl, rfl, rfl, rfl⟩ | exact ⟨rfl, rfl, rfl, rfl, rfl⟩ | exact ⟨⟨rfl, rfl⟩, rfl⟩ | simp)⟩ | trace_state
end
end Go.Proofs.YtolnapfgfdgifaaGreatDoor

/-
  DERIVED. A region with a fixed order, in which an operation that is not wanted may be taken to yield anything.
-/
namespace Go.Vc
set_option linter.unusedVariables false
def St.stepO (tys : List (Nat × TyD)) (C : List (FuncId × Ctr)) (N : Nat) (ops : Array Oper) (o : Oper) (st : St) (K : St → Prop) : Prop :=
  match o.guard with
  | none => st.step tys C N ops o K
  | some (j, want) => match (ops[j]?).bind (·.dst) with
    | some t => match guardB want (st.get t) with
      | some false => dstOk N o.dst = true ∧ K (st.put o.dst (.cond false (offV tys o)))
      | _ => st.step tys C N ops o K
    | none => False
def St.runO (tys : List (Nat × TyD)) (C : List (FuncId × Ctr)) (N : Nat) (ops : Array Oper) : List Oper → St → (St → Prop) → Prop
  | [], st, K => K st
  | o :: l, st, K => st.stepO tys C N ops o fun st' => St.runO tys C N ops l st' K
section
variable {P : Program} {tys : List (Nat × TyD)} {C : List (FuncId × Ctr)} {N : Nat} {X0 : Nat → Prop} {M : Nat → Value → Prop} {w0 : World} {st : St} {β : Nat → Value} {a : Act} {w : World}
theorem wanted_eq (h : Sim N X0 M w0 st β a w) {ops : Array Oper} {o : Oper} {j t : Nat} {want g : Bool} (hg : o.guard = some (j, want)) (ht : (ops[j]?).bind (·.dst) = some t) (hc : guardB want (st.get t) = some g) : Region.wanted o (yielded ops a.tmps) = g := by
  have hR : R w (XX X0 β st.hp) β (st.get t) (a.eval (.tmp t)) := St.ev_ok h (.tmp t)
  have hy : yielded ops a.tmps j = (match a.tmps.getD t undef with | .bool b => some b | _ => none) := by
    unfold yielded
    rw [ht]
    simp only [Option.bind_some]
    rw [Array.getD_eq_getD_getElem?]
    cases hq : a.tmps[t]? with
    | none => rfl
    | some v => cases v <;> rfl
  simp only [Region.wanted, hg, hy]
  generalize st.get t = y at hc hR
  unfold guardB at hc
  split at hc
  · rename_i b
    have hv : a.tmps.getD t undef = .bool b := hR.v_inv
    rw [hv]
    cases hc
    cases b <;> cases want <;> rfl
  · rename_i g' b
    cases hc
    cases g' with
    | false =>
      have hv : a.tmps.getD t undef = undef := hR.cond_undef rfl
      rw [hv]; rfl
    | true =>
      have hv : a.tmps.getD t undef = .bool b := (hR.cond_inv rfl).v_inv
      rw [hv]
      cases b <;> cases want <;> rfl
  · cases hc
theorem stepO_sound (hA : Ap P X0 M w0) (hty : ∀ T d, lk T tys = some d → TyOk P T d) (hC : COk P C) (h : Sim N X0 M w0 st β a w) {ops : Array Oper} {o : Oper} {K : St → Prop} (hw : st.stepO tys C N ops o K) {Q : Exit → Act → World → Prop} :
    if Region.wanted o (yielded ops a.tmps) then o.wp P a w (Ok N X0 M w0 K) Q else Ok N X0 M w0 K (a.put o.dst undef) w := by
  unfold St.stepO at hw
  cases hg : o.guard with
  | none => rw [hg] at hw; exact step_sound hA hty hC h hw
  | some gw =>
    obtain ⟨j, want⟩ := gw
    rw [hg] at hw
    simp only at hw
    split at hw
    case h_2 => exact hw.elim
    case h_1 _ t ht =>
      split at hw
      case h_2 => exact step_sound hA hty hC h hw
      case h_1 _ hc =>
        have hwt := wanted_eq h hg ht hc
        rw [hwt, if_neg (by simp)]
        obtain ⟨hd, hK⟩ := hw
        cases hdd : o.dst with
        | none => rw [hdd] at hK; exact ⟨_, β, hK, h⟩
        | some d => rw [hdd] at hK hd; exact ⟨_, β, hK, h.put (by simpa [dstOk] using hd) (.cond (fun hh => by cases hh) fun _ => rfl)⟩
theorem runO_sound (hA : Ap P X0 M w0) (hty : ∀ T d, lk T tys = some d → TyOk P T d) (hC : COk P C) {ops : Array Oper} {K : St → Prop} {Q : Exit → Act → World → Prop} (hQ : ∀ a w, Ok N X0 M w0 K a w → Q .normal a w) :
    ∀ (l : List Oper) {st : St} {β : Nat → Value} {a : Act} {w : World}, Sim N X0 M w0 st β a w → St.runO tys C N ops l st K → wpList P ops Q l a w
  | [], st, β, a, w, h, hw => hQ a w ⟨st, β, hw, h⟩
  | o :: l, st, β, a, w, h, hw => by
    have h1 := stepO_sound (Q := Q) hA hty hC h hw
    unfold wpList
    split
    · rename_i hwt
      rw [if_pos hwt] at h1
      exact .inl (Oper.wp_mono (fun a' w' ⟨st', β', h2, h3⟩ => runO_sound hA hty hC hQ l h3 h2) h1)
    · rename_i hwt
      rw [if_neg hwt] at h1
      obtain ⟨st', β', h2, h3⟩ := h1
      exact runO_sound hA hty hC hQ l h3 h2
end
section
variable {c : Cx} {N : Nat} {X0 : Nat → Prop} {M : Nat → Value → Prop} {w0 : World} {st : St} {K : Exit → St → Prop}
theorem WP.regionO {id : Nat} {l : List Oper} (h : St.runO c.tys c.C N l.toArray l st (K .normal)) : WP c N X0 M w0 (.region id l.toArray false) st K := fun hA β a w hs =>
  wp_region_lit (runO_sound hA c.hty c.hC (fun a w hk => hk) l hs h)
end
/-! ## sums and products that wrap -/
def wrapI (op : BinOp) (a b : Int) : Int := match op with
  | .add => IntKind.i64.wrap (a + b)
  | .sub => IntKind.i64.wrap (a - b)
  | .mul => IntKind.i64.wrap (a * b)
  | _ => 0
def isArith : BinOp → Bool
  | .add => true
  | .sub => true
  | .mul => true
  | _ => false
def St.stepWr (tys : List (Nat × TyD)) (C : List (FuncId × Ctr)) (N : Nat) (ops : Array Oper) (o : Oper) (st : St) (K : St → Prop) : Prop :=
  match o.op with
  | .binOp op T x y U => match st.ev x, st.ev y with
    | .v (.int .i64 a), .v (.int .i64 b) => if isArith op = true ∧ o.guard.isNone = true then dstOk N o.dst = true ∧ K (st.put o.dst (.v (.int .i64 (wrapI op a b)))) else st.step tys C N ops o K
    | _, _ => st.step tys C N ops o K
  | _ => st.step tys C N ops o K
def St.runWr (tys : List (Nat × TyD)) (C : List (FuncId × Ctr)) (N : Nat) (ops : Array Oper) : List Oper → St → (St → Prop) → Prop
  | [], st, K => K st
  | o :: l, st, K => st.stepWr tys C N ops o fun st' => St.runWr tys C N ops l st' K
theorem wrap_run {P : Program} {op : BinOp} {T : Nat} {a b : Int} (h : isArith op = true) (ox oy : Operand) (w : World) :
    (do eqGuard op T ox oy (.int .i64 a) (.int .i64 b); binOp op T (.int .i64 a) (.int .i64 b) : Sem Value).run P w = .ok (.int .i64 (wrapI op a b)) w := by
  cases op <;> first | (cases h; done) | simp [eqGuard, binOp, Op.intArith, wrapI]
section
variable {P : Program} {tys : List (Nat × TyD)} {C : List (FuncId × Ctr)} {N : Nat} {X0 : Nat → Prop} {M : Nat → Value → Prop} {w0 : World} {st : St} {β : Nat → Value} {a : Act} {w : World}
theorem stepWr_sound (hA : Ap P X0 M w0) (hty : ∀ T d, lk T tys = some d → TyOk P T d) (hC : COk P C) (h : Sim N X0 M w0 st β a w) {ops : Array Oper} {o : Oper} {K : St → Prop} (hw : st.stepWr tys C N ops o K) {Q : Exit → Act → World → Prop} :
    if Region.wanted o (yielded ops a.tmps) then o.wp P a w (Ok N X0 M w0 K) Q else Ok N X0 M w0 K (a.put o.dst undef) w := by
  unfold St.stepWr at hw
  split at hw
  case h_2 => exact step_sound hA hty hC h hw
  case h_1 _ op T x y U ho =>
    split at hw
    case h_2 => exact step_sound hA hty hC h hw
    case h_1 _ _ p q hx hy =>
      split at hw
      case isFalse => exact step_sound hA hty hC h hw
      case isTrue hc =>
        obtain ⟨h1, h2⟩ := hc
        obtain ⟨hd, hK⟩ := hw
        have hg : o.guard = none := by simpa using h2
        have hwt : Region.wanted o (yielded ops a.tmps) = true := by simp [Region.wanted, hg]
        rw [if_pos hwt]
        have e1 : a.eval x = .int .i64 p := (hx ▸ St.ev_ok h x : R w _ β (.v (.int .i64 p)) (a.eval x)).v_inv
        have e2 : a.eval y = .int .i64 q := (hy ▸ St.ev_ok h y : R w _ β (.v (.int .i64 q)) (a.eval y)).v_inv
        have hr := wrap_run (P := P) (T := T) (a := p) (b := q) h1 x y w
        refine wp_of_Yl h hd ⟨.int .i64 (wrapI op p q), ?_, .p (.v _)⟩ hK
        simp only [Sem.run_bind] at hr
        simp only [execOp, ho, e1, e2, Sem.run_bind, hr, Result.andThen_ok, Sem.run_pure]
theorem runWr_sound (hA : Ap P X0 M w0) (hty : ∀ T d, lk T tys = some d → TyOk P T d) (hC : COk P C) {ops : Array Oper} {K : St → Prop} {Q : Exit → Act → World → Prop} (hQ : ∀ a w, Ok N X0 M w0 K a w → Q .normal a w) :
    ∀ (l : List Oper) {st : St} {β : Nat → Value} {a : Act} {w : World}, Sim N X0 M w0 st β a w → St.runWr tys C N ops l st K → wpList P ops Q l a w
  | [], st, β, a, w, h, hw => hQ a w ⟨st, β, hw, h⟩
  | o :: l, st, β, a, w, h, hw => by
    have h1 := stepWr_sound (Q := Q) hA hty hC h hw
    unfold wpList
    split
    · rename_i hwt
      rw [if_pos hwt] at h1
      exact .inl (Oper.wp_mono (fun a' w' ⟨st', β', h2, h3⟩ => runWr_sound hA hty hC hQ l h3 h2) h1)
    · rename_i hwt
      rw [if_neg hwt] at h1
      obtain ⟨st', β', h2, h3⟩ := h1
      exact runWr_sound hA hty hC hQ l h3 h2
end
section
variable {c : Cx} {N : Nat} {X0 : Nat → Prop} {M : Nat → Value → Prop} {w0 : World} {st : St} {K : Exit → St → Prop}
theorem WP.regionWr {id : Nat} {l : List Oper} (h : St.runWr c.tys c.C N l.toArray l st (K .normal)) : WP c N X0 M w0 (.region id l.toArray false) st K := fun hA β a w hs =>
  wp_region_lit (runWr_sound hA c.hty c.hC (fun a w hk => hk) l hs h)
end
end Go.Vc

/-
  DERIVED. Maps of one's own, with keys that are numbers, texts or truth values: made, asked, changed.
-/
namespace Go.Vc
open Go.MapKept
set_option linter.unusedVariables false
set_option linter.unusedSimpArgs false
structure MapTy where
  key : Nat
  elem : Nat
  d : TypeDesc
  z : Value
structure MapOk (P : Program) (T : Nat) (m : MapTy) : Prop where
  map : P.underlying T = some (.map m.key m.elem)
  key : P.underlying m.key = some m.d
  zero : ∀ w, (zeroValue m.elem).run P w = .ok m.z w
theorem zero_run {P : Program} {T : Nat} {z : Value} (h : (P.info? T).map (·.zero) = some (some z)) (w : World) : (zeroValue T).run P w = .ok z w := by
  cases hi : P.info? T with
  | none => rw [hi] at h; cases h
  | some i =>
    rw [hi] at h
    simp only [Option.map_some, Option.some.injEq] at h
    simp [zeroValue, Go.typeInfo, hi, h]
def keyB : TypeDesc → Value → Bool
  | .bool, .bool _ => true
  | .int k, .int k' _ => decide (k' = k)
  | .string, .string _ => true
  | _, _ => false
theorem keyB_ok {d : TypeDesc} {v : Value} (h : keyB d v = true) : IsKey d v := by
  cases d <;> cases v <;> simp_all [keyB, IsKey]
def sameB : Value → Value → Bool
  | .int k x, .int k' y => decide (k = k') && decide (x = y)
  | .string x, .string y => decide (x = y)
  | .bool x, .bool y => x == y
  | _, _ => false
theorem sameB_iff {d : TypeDesc} {a b : Value} (ha : IsKey d a) (hb : IsKey d b) : sameB a b = true ↔ a = b := by
  cases d <;> cases a <;> cases b <;> simp_all [IsKey, sameB]
def findI (k : Value) : List (Value × Value) → Nat → Option (Nat × Value)
  | [], _ => none
  | e :: es, i => if sameB k e.1 = true then some (i, e.2) else findI k es (i + 1)
/-- what a map holds for k -/
def mget (k : Value) (es : List (Value × Value)) (z : Value) : Value := ((findI k es 0).map (·.2)).getD z
/-- the map with v for k -/
def mset (k v : Value) (es : List (Value × Value)) : List (Value × Value) := match findI k es 0 with
  | some (i, _) => es.set i (k, v)
  | none => es ++ [(k, v)]
def kv (e : MapEntry) : Value × Value := (e.key, e.val)
theorem findNow_eq {d : TypeDesc} {k : Value} (hk : IsKey d k) : ∀ (l : List MapEntry) (i : Nat), (∀ x ∈ l, IsKey d x.key) → Instr.findNow d k l i = some (findI k (l.map kv) i)
  | [], i, _ => rfl
  | e :: es, i, h => by
    have he := h e List.mem_cons_self
    obtain ⟨r, hr, hiff⟩ := sameNow_of_keys hk he
    have hs := sameB_iff hk he
    have ih := findNow_eq hk es (i + 1) fun x hx => h x (List.mem_cons_of_mem _ hx)
    simp only [List.map_cons, findI, kv]
    unfold Instr.findNow
    rw [hr]
    cases r with
    | true =>
      have := hiff.1 rfl
      rw [if_pos (hs.2 this)]
    | false =>
      have : ¬ sameB k e.key = true := fun h2 => by have := hiff.2 (hs.1 h2); cases this
      rw [if_neg this]
      exact ih
theorem findI_at {k : Value} : ∀ (es : List (Value × Value)) (i j : Nat) (v : Value), findI k es i = some (j, v) → ∃ q, j = i + q ∧ ∃ e, es[q]? = some e ∧ sameB k e.1 = true ∧ e.2 = v
  | [], i, j, v, h => by cases h
  | e :: es, i, j, v, h => by
    rw [findI] at h
    split at h
    · rename_i hs
      simp only [Option.some.injEq, Prod.mk.injEq] at h
      exact ⟨0, by omega, e, rfl, hs, h.2⟩
    · obtain ⟨q, h1, x, h2, h3, h4⟩ := findI_at es (i + 1) j v h
      exact ⟨q + 1, by omega, x, by simpa using h2, h3, h4⟩
/-! ## the three operations -/
section
variable {P : Program} {w : World} {T b clock : Nat} {ents : Array MapEntry} {m : MapTy} {k v : Value}
theorem lookup_run (hm : MapOk P T m) (hb : w.heap[b]? = some (.map ents clock)) (hk : keyB m.d k = true) (hks : ((ents.toList.map kv).all fun e => keyB m.d e.1) = true) : (Instr.lookup T (.map (some b)) k false).run P w = .ok (mget k (ents.toList.map kv) m.z) w := by
  have hk' := keyB_ok hk
  have hf := findNow_eq hk' ents.toList 0 fun x hx => keyB_ok (List.all_eq_true.1 hks (kv x) (List.mem_map.2 ⟨x, hx, rfl⟩))
  have hc := Go.MapKept.run_checkKey (P := P) (w := w) hm.key hk' ents.isEmpty 9999
  have hr := Go.MapKept.run_findKey (P := P) (w := w) hm.key hf
  unfold mget
  cases hfi : findI k (ents.toList.map kv) 0 with
  | none =>
    rw [hfi] at hr
    simp [Instr.lookup, run_underlying hm.map, Go.MapKept.run_getObj_map hb, hc, hr, hm.zero, Result.andThen]
  | some x =>
    rw [hfi] at hr
    simp [Instr.lookup, run_underlying hm.map, Go.MapKept.run_getObj_map hb, hc, hr, Result.andThen]
theorem update_run (hm : MapOk P T m) (hb : w.heap[b]? = some (.map ents clock)) (hk : keyB m.d k = true) (hks : ((ents.toList.map kv).all fun e => keyB m.d e.1) = true) :
    ∃ ents' clock', (Instr.mapUpdate T (.map (some b)) k v).run P w = .ok () { w with heap := w.heap.setIfInBounds b (.map ents' clock') } ∧ ents'.toList.map kv = mset k v (ents.toList.map kv) := by
  have hk' := keyB_ok hk
  have hf := findNow_eq hk' ents.toList 0 fun x hx => keyB_ok (List.all_eq_true.1 hks (kv x) (List.mem_map.2 ⟨x, hx, rfl⟩))
  have hc := Go.MapKept.run_checkKey (P := P) (w := w) hm.key hk' false 9999
  have hr := Go.MapKept.run_findKey (P := P) (w := w) hm.key hf
  cases hfi : findI k (ents.toList.map kv) 0 with
  | none =>
    rw [hfi] at hr
    refine ⟨ents.push { key := k, val := v, born := clock }, clock + 1, ?_, ?_⟩
    · simp [Instr.mapUpdate, run_underlying hm.map, Go.MapKept.run_getObj_map hb, hc, hr, Go.MapKept.run_setObj_map _ hb, Result.andThen]
    · unfold mset; rw [hfi]; simp [kv]
  | some x =>
    obtain ⟨i, u⟩ := x
    rw [hfi] at hr
    obtain ⟨q, hq, e, he, hs, _⟩ := findI_at _ _ _ _ hfi
    have hqi : q = i := by omega
    subst hqi
    rw [List.getElem?_map] at he
    cases hx : ents.toList[q]? with
    | none => rw [hx] at he; cases he
    | some x0 =>
      rw [hx] at he
      simp only [Option.map_some, Option.some.injEq] at he
      subst he
      have hx' : ents[q]? = some x0 := by simpa using hx
      have hk0 : IsKey m.d x0.key := keyB_ok (List.all_eq_true.1 hks (kv x0) (List.mem_map.2 ⟨x0, List.mem_of_getElem? hx, rfl⟩))
      have hke : x0.key = k := ((sameB_iff hk' hk0).1 hs).symm
      refine ⟨ents.modify q fun e => { e with key := k, val := v }, clock, ?_, ?_⟩
      · simp [Instr.mapUpdate, run_underlying hm.map, Go.MapKept.run_getObj_map hb, hc, hr, hx', hke, Go.MapKept.run_keyThatStays hk', Go.MapKept.run_setObj_map _ hb, Result.andThen]
      · unfold mset; rw [hfi]
        apply List.ext_getElem?
        intro j
        simp only [List.getElem?_map, Array.getElem?_toList, Array.getElem?_modify, List.getElem?_set]
        by_cases hj : q = j
        · subst hj
          have hlt : q < ents.size := (Array.getElem?_eq_some_iff.1 hx').1
          simp [hx', kv, hlt]
        · simp [hj]
end
/-! ## a region in which they stand -/
def St.stepM (mt : List (Nat × MapTy)) (tys : List (Nat × TyD)) (C : List (FuncId × Ctr)) (N : Nat) (ops : Array Oper) (o : Oper) (st : St) (K : St → Prop) : Prop :=
  match o.op with
  | .makeMap T none => match o.dst with
    | some d => o.guard.isNone = true ∧ d < N ∧ K (st.new d (.mp T []) (.own d))
    | none => False
  | .lookup T x y false => match lk T mt, st.ev x, st.ev y with
    | some m, .own id, .v k => (match lk id st.hp with
      | some (.mp _ es) => o.guard.isNone = true ∧ dstOk N o.dst = true ∧ keyB m.d k = true ∧ (es.all fun e => keyB m.d e.1) = true ∧ K (st.put o.dst (.v (mget k es m.z)))
      | _ => False)
    | _, _, _ => False
  | .mapUpdate T x y z => match lk T mt, st.ev x, st.ev y, st.ev z with
    | some m, .own id, .v k, .v u => (match lk id st.hp with
      | some (.mp e es) => o.guard.isNone = true ∧ o.dst.isNone = true ∧ keyB m.d k = true ∧ (es.all fun e => keyB m.d e.1) = true ∧ K (st.wrt id (.mp e (mset k u es)))
      | _ => False)
    | _, _, _, _ => False
  | _ => st.step tys C N ops o K
def St.runM (mt : List (Nat × MapTy)) (tys : List (Nat × TyD)) (C : List (FuncId × Ctr)) (N : Nat) (ops : Array Oper) : List Oper → St → (St → Prop) → Prop
  | [], st, K => K st
  | o :: l, st, K => st.stepM mt tys C N ops o fun st' => St.runM mt tys C N ops l st' K
theorem ObR.mp_form {w : World} {X : Nat → Prop} {β : Nat → Value} {v : Value} {e : Nat} {es : List (Value × Value)} (h : ObR w X β v (.mp e es)) : ∃ b clock ents, v = .map (some b) ∧ w.heap[b]? = some (.map ents clock) ∧ ents.toList.map kv = es := by
  cases h with
  | mp b clock ents hv hh he => exact ⟨b, clock, ents, hv, hh, he⟩
section
variable {P : Program} {tys : List (Nat × TyD)} {C : List (FuncId × Ctr)} {N : Nat} {X0 : Nat → Prop} {M : Nat → Value → Prop} {w0 : World} {st : St} {β : Nat → Value} {a : Act} {w : World} {mt : List (Nat × MapTy)}
theorem stepM_sound (hmt : ∀ T m, lk T mt = some m → MapOk P T m) (hA : Ap P X0 M w0) (hty : ∀ T d, lk T tys = some d → TyOk P T d) (hC : COk P C) (h : Sim N X0 M w0 st β a w) {ops : Array Oper} {o : Oper} {K : St → Prop} (hw : st.stepM mt tys C N ops o K) {Q : Exit → Act → World → Prop} :
    if Region.wanted o (yielded ops a.tmps) then o.wp P a w (Ok N X0 M w0 K) Q else Ok N X0 M w0 K (a.put o.dst undef) w := by
  have wt : o.guard.isNone = true → Region.wanted o (yielded ops a.tmps) = true := fun hg => by
    have : o.guard = none := by simpa using hg
    simp [Region.wanted, this]
  unfold St.stepM at hw
  split at hw
  case h_1 _ T ho =>
    split at hw
    case h_2 => exact hw.elim
    case h_1 _ d hd =>
      obtain ⟨hg, hdN, hK⟩ := hw
      rw [if_pos (wt hg)]
      refine fresh_wp h hd hdN (w' := w.alloc (.map #[] 0)) (v := .map (some w.heap.size)) ?_ (alloc_below w _) rfl (fun b hb => ?_) (fun X' hX => .mp w.heap.size 0 #[] rfl (heap_alloc_new w _) rfl) (.inl rfl) hK
      · simp [execOp, ho, run_makeMap_plain]
      · cases hb; exact ⟨Nat.le_refl _, by simp⟩
  case h_2 _ T x y ho =>
    split at hw
    case h_2 => exact hw.elim
    case h_1 _ _ _ m id k hm hx hy =>
      split at hw
      case h_2 => exact hw.elim
      case h_1 _ e es hl =>
        obtain ⟨hg, hd, h1, h2, hK⟩ := hw
        rw [if_pos (wt hg)]
        have e1 : a.eval x = β id := (hx ▸ St.ev_ok h x : R w _ β (.own id) (a.eval x)).own_inv
        have e2 : a.eval y = k := (hy ▸ St.ev_ok h y : R w _ β (.v k) (a.eval y)).v_inv
        obtain ⟨b, clock, ents, hv, hb, he⟩ := (h.objs id _ hl).mp_form
        subst he
        have hr := lookup_run (hmt T m hm) hb h1 h2
        refine wp_of_Yl h hd ⟨mget k (ents.toList.map kv) m.z, ?_, .p (.v _)⟩ hK
        simp only [execOp, ho, e1, e2, hv, Sem.run_bind, hr, Result.andThen_ok, Sem.run_pure]
  case h_3 _ T x y z ho =>
    split at hw
    case h_2 => exact hw.elim
    case h_1 _ _ _ _ m id k u hm hx hy hz =>
      split at hw
      case h_2 => exact hw.elim
      case h_1 _ e es hl =>
        obtain ⟨hg, hd, h1, h2, hK⟩ := hw
        rw [if_pos (wt hg)]
        have e1 : a.eval x = β id := (hx ▸ St.ev_ok h x : R w _ β (.own id) (a.eval x)).own_inv
        have e2 : a.eval y = k := (hy ▸ St.ev_ok h y : R w _ β (.v k) (a.eval y)).v_inv
        have e3 : a.eval z = u := (hz ▸ St.ev_ok h z : R w _ β (.v u) (a.eval z)).v_inv
        obtain ⟨b, clock, ents, hv, hb, he⟩ := (h.objs id _ hl).mp_form
        subst he
        obtain ⟨ents', clock', hr, he'⟩ := update_run (v := u) (hmt T m hm) hb h1 h2
        have hbb : blk (β id) = some b := by rw [hv]; rfl
        have hd0 : o.dst = none := by simpa using hd
        unfold Oper.wp
        have hrun : (execOp a.eval o).run P w = .ok .skip { w with heap := w.heap.setIfInBounds b (.map ents' clock') } := by
          simp only [execOp, ho, e1, e2, e3, hv, Sem.run_bind, hr, Result.andThen_ok, Sem.run_pure]
        rw [hrun, Oper.upon_skip, hd0]
        refine ⟨_, β, hK, ?_⟩
        obtain ⟨q1, q2⟩ := Go.MapKept.heap_set (o' := .map ents' clock') hb
        refine h.write hl rfl rfl rfl (by simp) (fun b' _ hne => q2 b' fun e => hne (by rw [e]; exact hbb)) ?_
        rw [hv]
        exact .mp b clock' ents' rfl q1 he'
  case h_4 => exact step_sound hA hty hC h hw
theorem runM_sound (hmt : ∀ T m, lk T mt = some m → MapOk P T m) (hA : Ap P X0 M w0) (hty : ∀ T d, lk T tys = some d → TyOk P T d) (hC : COk P C) {ops : Array Oper} {K : St → Prop} {Q : Exit → Act → World → Prop} (hQ : ∀ a w, Ok N X0 M w0 K a w → Q .normal a w) :
    ∀ (l : List Oper) {st : St} {β : Nat → Value} {a : Act} {w : World}, Sim N X0 M w0 st β a w → St.runM mt tys C N ops l st K → wpList P ops Q l a w
  | [], st, β, a, w, h, hw => hQ a w ⟨st, β, hw, h⟩
  | o :: l, st, β, a, w, h, hw => by
    have h1 := stepM_sound (Q := Q) hmt hA hty hC h hw
    unfold wpList
    split
    · rename_i hwt
      rw [if_pos hwt] at h1
      exact .inl (Oper.wp_mono (fun a' w' ⟨st', β', h2, h3⟩ => runM_sound hmt hA hty hC hQ l h3 h2) h1)
    · rename_i hwt
      rw [if_neg hwt] at h1
      obtain ⟨st', β', h2, h3⟩ := h1
      exact runM_sound hmt hA hty hC hQ l h3 h2
end
section
variable {c : Cx} {N : Nat} {X0 : Nat → Prop} {M : Nat → Value → Prop} {w0 : World} {st : St} {K : Exit → St → Prop}
theorem WP.regionM {id : Nat} {l : List Oper} (mt : List (Nat × MapTy)) (hmt : ∀ T m, lk T mt = some m → MapOk c.P T m) (h : St.runM mt c.tys c.C N l.toArray l st (K .normal)) : WP c N X0 M w0 (.region id l.toArray false) st K := fun hA β a w hs =>
  wp_region_lit (runM_sound hmt hA c.hty c.hC (fun a w hk => hk) l hs h)
end
/-! ## a set of numbers -/
def setE (l : Int) : Value × Value := (.int .i64 l, .bool true)
theorem findI_set (l : Int) : ∀ (S : List Int) (i : Nat), (findI (.int .i64 l) (S.map setE) i).map (·.2) = if l ∈ S then some (.bool true) else none
  | [], i => rfl
  | x :: S, i => by
    have ih := findI_set l S (i + 1)
    simp only [List.map_cons, findI, setE, sameB, decide_true, Bool.true_and, decide_eq_true_eq]
    by_cases h : l = x
    · rw [if_pos h, if_pos (by rw [h]; exact List.mem_cons_self)]; rfl
    · rw [if_neg h]
      have e : (l ∈ x :: S) ↔ l ∈ S := by simp [h]
      simp only [e]
      exact ih
theorem mget_set (l : Int) (S : List Int) : mget (.int .i64 l) (S.map setE) (.bool false) = .bool (decide (l ∈ S)) := by
  unfold mget
  rw [findI_set]
  by_cases h : l ∈ S
  · rw [if_pos h]; simp [h]
  · rw [if_neg h]; simp [h]
theorem mset_set {l : Int} {S : List Int} (h : l ∉ S) : mset (.int .i64 l) (.bool true) (S.map setE) = (S ++ [l]).map setE := by
  unfold mset
  have := findI_set l S 0
  rw [if_neg h] at this
  cases hf : findI (.int .i64 l) (S.map setE) 0 with
  | none => rw [List.map_append]; rfl
  | some x => rw [hf] at this; cases this
theorem keyB_set (S : List Int) : ((S.map setE).all fun e => keyB (.int .i64) e.1) = true := by
  rw [List.all_eq_true]
  intro e he
  obtain ⟨l, _, rfl⟩ := List.mem_map.1 he
  rfl
end Go.Vc
