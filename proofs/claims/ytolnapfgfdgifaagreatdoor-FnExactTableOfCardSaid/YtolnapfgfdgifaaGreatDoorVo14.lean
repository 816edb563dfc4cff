/-
  DERIVED. Several texts of ours in one: VtTabI, VgTableRowM, VtTabL.
-/
import Derived.Test.YtolnapfgfdgifaaGreatDoorVo0
import Derived.Test.YtolnapfgfdgifaaGreatDoorVo1
import Derived.Test.YtolnapfgfdgifaaGreatDoorVo2
import Derived.Test.YtolnapfgfdgifaaGreatDoorVo3
import Derived.Test.YtolnapfgfdgifaaGreatDoorVo4
import Derived.Test.YtolnapfgfdgifaaGreatDoorVo5
import Derived.Test.YtolnapfgfdgifaaGreatDoorVo6
import Derived.Test.YtolnapfgfdgifaaGreatDoorVo7
import Derived.Test.YtolnapfgfdgifaaGreatDoorVo8
import Derived.Test.YtolnapfgfdgifaaGreatDoorVo9
import Derived.Test.YtolnapfgfdgifaaGreatDoorVo10
import Derived.Test.YtolnapfgfdgifaaGreatDoorVo11
import Derived.Test.YtolnapfgfdgifaaGreatDoorVo12
import Derived.Test.YtolnapfgfdgifaaGreatDoorVo13
set_option linter.unusedSimpArgs false
set_option linter.unusedVariables false
/-
  DERIVED. TableOf of the program. Printed by program (gentab.py).
-/
namespace Go.Proofs.YtolnapfgfdgifaaGreatDoor
open Go.Vc
set_option linter.unusedSimpArgs false
set_option linter.unusedVariables false
set_option maxHeartbeats 1000000
set_option maxRecDepth 10000
attribute [local go_sem] St.runR St.runW St.stepV offV St.step St.stepU St.stepG mkCond guardB St.prK St.pr St.prLen St.eff St.callE St.callD St.callF St.callL aI aB aS aR aC St.isM St.argL Ctr.pure Ctr.lend Ctr.move Ctr.isL Ctr.wri pur len lentBy St.lentV St.lent1 nthS argsR restOf obsR pairs swapL unObs backL St.resL erL SV.ren1 SV.up SV.up2 Ob.up St.fzL cellIds partIds St.intoRow SV.ownId St.fz SV.fz1 St.prep St.mvL St.mv SV.re1 rnOk St.prEq vals eqCells scEq Value.kd St.prStr St.prCut cutR St.bnd St.prMin St.bld isShift outL retL outJ oR oC St.ev St.get St.put St.new St.kill SV.kill SV.kill1 Ob.kill St.app St.wrt St.rowsOf St.res St.killL lk er argsL SV.strip SV.need SV.share SV.share1 SV.owns SV.owns1 SV.owns2 SV.good SV.good1 SV.rok SV.rok1 SV.rok2 SV.isV SV.isV2 nodupN SV.cells SV.one SV.pur partsIn rowsIn splice cellsAt dstOk scal2 scal1 thenK blockK retK outK outs okC okL okA okT nilC nilL nilA nilT keepC keepL keepA keepT St.runG St.dltK St.least St.clean St.final St.hide offK badS badO SV.refs SV.leaf SV.leaf2 Ob.refs dlOk fpAt Go.Vc.cover tups SV.ofAgg St.out outC subL St.has rng wr Value.oneCell' Option.isSome_some Option.isSome_none List.nil_append Bool.false_eq_true List.map_cons List.map_nil List.all_cons List.all_nil List.length_cons List.length_nil List.drop_zero List.drop_succ_cons List.take_succ_cons List.take_zero List.drop_nil List.take_nil List.getElem?_cons_zero List.getElem?_cons_succ List.getElem?_nil List.cons_append List.nil_append List.append_nil List.append_assoc List.flatMap_cons List.flatMap_nil List.contains_cons List.contains_nil List.set_cons_zero List.set_cons_succ List.getElem?_toArray Option.getD_some Option.getD_none Option.map_some Option.map_none Option.bind_some Option.some.injEq Prod.mk.injEq if_true if_false true_and and_true and_self and_false false_and Bool.and_false Bool.false_and Bool.or_true Bool.true_or Bool.or_false Bool.false_or ne_eq not_true_eq_false not_false_eq_true decide_true decide_false List.mem_cons List.not_mem_nil List.filter_cons List.filter_nil List.any_cons List.any_nil List.isEmpty_nil List.isEmpty_cons Option.getD_none or_false false_or true_or or_true forall_eq_or_imp forall_eq reduceCtorEq exists_eq exists_eq' exists_eq_left' exists_eq_left exists_eq_right exists_eq_right' imp_self implies_true Bool.and_true Bool.true_and Bool.and_self beq_self_eq_true List.replicate_succ List.replicate_zero forall_const false_implies pickB_or pickB_and beqT beqF Int.toNat_natCast List.length_map List.length_replicate ge_iff_le gt_iff_lt decide_eq_true_eq decide_eq_false_iff_not Bool.and_eq_true Bool.or_eq_true Bool.not_eq_true' Bool.not_eq_false' condG List.toList_toArray Bool.or_eq_false_iff Bool.and_eq_false_iff Int.not_lt Int.not_le beq_iff_eq beq_eq_false_iff_ne bne_iff_ne bne_eq_false_iff_eq ne_eq Bool.not_true Bool.not_false exists_and_left
attribute [local irreducible] Go.Vc.WP
attribute [local go_sem] cx0_t cx0_c
attribute [local go_sem] isV_Node isV_It isV_Entry isV_S isV_TableRow decNode_enc decFrame_enc decTableRow_enc oneFrame_enc stkA oneFrame_ab oneNode_abc decI_enc decS_enc aU prA decEntry_enc St.fzS addL behind
open Go.Pl

section
noncomputable def cxTbI : Cx := { P := Tryz.prog, tys := tys, C := [(52, kPrOk), (54, kEntZ), (71, kNamesZ), (72, kRowOf), (73, kHasS), (74, kSortT)], hty := tysOk, hC := COk.cons cPrOkI (COk.cons cEntZI (COk.cons cNamesI (COk.cons cRowOfI (COk.cons cHasS (COk.cons cSortT (COk.nil _)))))) }
theorem cxTbI_t : cxTbI.tys = tys := rfl
theorem cxTbI_c : cxTbI.C = [(52, kPrOk), (54, kEntZ), (71, kNamesZ), (72, kRowOf), (73, kHasS), (74, kSortT)] := rfl
attribute [local go_sem] cxTbI_t cxTbI_c kPrOk kEntZ kNamesZ kRowOf kHasS kSortT
set_option maxHeartbeats 20000000 in
theorem cTabI : Cn Tryz.prog 31 kTab := by
  refine Cn.pur Tryz.func31 (by kernel_rfl) rfl fun d x hx => ?_
  obtain ⟨N, C⟩ := x
  obtain ⟨⟨hN, hs⟩, hC⟩ := hx
  simp only at hN hs hC ⊢
  have hlen := entriesOf_len N C
  refine Holds.go (c := cxTbI) Tryz.func31 rfl Tryz.results31 Tryz.ntmps31 (by omega) (by simp) rfl ?_
  intro X0 w0
  cases hok : profileOk N C with
  | false =>
    have h0 : tableOf N C = [] := by unfold tableOf entriesOf; rw [if_neg (by rw [hok]; simp)]; rfl
    (repeat' (first | refine WP.seq ?_ | refine WP.block ?_ | ((first | refine WP.region ?_ | refine WP.condW ?_ | refine WP.ret ?_ | refine WP.exit ?_ | refine WP.skip ?_); simp only [go_sem, hok, h0, tyAll, Nat.reduceAdd, Nat.reduceLT, Nat.reduceLeDiff, Nat.reduceEqDiff, Nat.reduceMul, Nat.reduceSub, Nat.reduceGT, reduceIte, Int.reduceNeg, Int.reduceToNat]) | (refine WP.flowW 7 [⟨[3], [], [], [], [], []⟩, ⟨[9], [], [], [], [], []⟩, ⟨[49, 50], [0, 1], [], [], [], []⟩, ⟨[51], [0, 1, 2], [], [], [], []⟩, ⟨[52], [0, 1, 2, 3], [], [], [], []⟩, ⟨[5], [], [], [], [], []⟩, ⟨[54], [5], [], [], [], []⟩, ⟨[], [0, 1, 2, 3, 4, 5, 6], [], [], [], []⟩, ⟨[], [0, 1, 2, 3, 4, 5, 6, 7], [], [], [], []⟩, ⟨[], [0, 1, 2, 3, 4, 5, 6, 7, 8], [], [], [], []⟩, ⟨[], [0, 1, 2, 3, 4, 5, 6, 7, 8, 9], [], [], [], []⟩] [49, 50, 51, 52, 53, 54, 55] [] [] (by decide +kernel) (by kernel_rfl) (by kernel_rfl) (by kernel_rfl) ?_; simp only [go_sem, hok, h0, tyAll, Nat.reduceAdd, Nat.reduceLT, Nat.reduceLeDiff, Nat.reduceEqDiff, Nat.reduceMul, Nat.reduceSub, Nat.reduceGT, reduceIte, Int.reduceNeg, Int.reduceToNat]) | (refine WP.flowW 7 [⟨[3], [], [], [], [], []⟩, ⟨[9], [], [], [], [], []⟩, ⟨[64, 65], [0, 1], [], [], [], []⟩, ⟨[66], [0, 1, 2], [], [], [], []⟩, ⟨[67], [0, 1, 2, 3], [], [], [], []⟩, ⟨[5], [], [], [], [], []⟩, ⟨[69], [5], [], [], [], []⟩, ⟨[], [0, 1, 2, 3, 4, 5, 6], [], [], [], []⟩, ⟨[], [0, 1, 2, 3, 4, 5, 6, 7], [], [], [], []⟩, ⟨[], [0, 1, 2, 3, 4, 5, 6, 7, 8], [], [], [], []⟩, ⟨[], [0, 1, 2, 3, 4, 5, 6, 7, 8, 9], [], [], [], []⟩] [64, 65, 66, 67, 68, 69, 70] [] [] (by decide +kernel) (by kernel_rfl) (by kernel_rfl) (by kernel_rfl) ?_; simp only [go_sem, hok, h0, tyAll, Nat.reduceAdd, Nat.reduceLT, Nat.reduceLeDiff, Nat.reduceEqDiff, Nat.reduceMul, Nat.reduceSub, Nat.reduceGT, reduceIte, Int.reduceNeg, Int.reduceToNat]) |  refine And.intro ?_ ?_ | intro _))
    all_goals first | omega | (simp only; omega) | exact Nat.le_trans (hs _ ‹_›) (by omega) | exact ⟨_, _, _, rfl⟩ | exact ⟨_, _, rfl⟩ | skip
    all_goals trace_state
  | true =>
  (repeat' (first | refine WP.seq ?_ | refine WP.block ?_ | ((first | refine WP.region ?_ | refine WP.condW ?_ | refine WP.ret ?_ | refine WP.exit ?_ | refine WP.skip ?_); simp only [go_sem, hok, tyAll, Nat.reduceAdd, Nat.reduceLT, Nat.reduceLeDiff, Nat.reduceEqDiff, Nat.reduceMul, Nat.reduceSub, Nat.reduceGT, reduceIte, Int.reduceNeg, Int.reduceToNat]) | (refine WP.flowW 7 [⟨[3], [], [], [], [], []⟩, ⟨[9], [], [], [], [], []⟩, ⟨[49, 50], [0, 1], [], [], [], []⟩, ⟨[51], [0, 1, 2], [], [], [], []⟩, ⟨[52], [0, 1, 2, 3], [], [], [], []⟩, ⟨[5], [], [], [], [], []⟩, ⟨[54], [5], [], [], [], []⟩, ⟨[], [0, 1, 2, 3, 4, 5, 6], [], [], [], []⟩, ⟨[], [0, 1, 2, 3, 4, 5, 6, 7], [], [], [], []⟩, ⟨[], [0, 1, 2, 3, 4, 5, 6, 7, 8], [], [], [], []⟩, ⟨[], [0, 1, 2, 3, 4, 5, 6, 7, 8, 9], [], [], [], []⟩] [49, 50, 51, 52, 53, 54, 55] [] [] (by decide +kernel) (by kernel_rfl) (by kernel_rfl) (by kernel_rfl) ?_; simp only [go_sem, hok, tyAll, Nat.reduceAdd, Nat.reduceLT, Nat.reduceLeDiff, Nat.reduceEqDiff, Nat.reduceMul, Nat.reduceSub, Nat.reduceGT, reduceIte, Int.reduceNeg, Int.reduceToNat]) | (refine WP.flowW 7 [⟨[3], [], [], [], [], []⟩, ⟨[9], [], [], [], [], []⟩, ⟨[64, 65], [0, 1], [], [], [], []⟩, ⟨[66], [0, 1, 2], [], [], [], []⟩, ⟨[67], [0, 1, 2, 3], [], [], [], []⟩, ⟨[5], [], [], [], [], []⟩, ⟨[69], [5], [], [], [], []⟩, ⟨[], [0, 1, 2, 3, 4, 5, 6], [], [], [], []⟩, ⟨[], [0, 1, 2, 3, 4, 5, 6, 7], [], [], [], []⟩, ⟨[], [0, 1, 2, 3, 4, 5, 6, 7, 8], [], [], [], []⟩, ⟨[], [0, 1, 2, 3, 4, 5, 6, 7, 8, 9], [], [], [], []⟩] [64, 65, 66, 67, 68, 69, 70] [] [] (by decide +kernel) (by kernel_rfl) (by kernel_rfl) (by kernel_rfl) ?_; simp only [go_sem, hok, tyAll, Nat.reduceAdd, Nat.reduceLT, Nat.reduceLeDiff, Nat.reduceEqDiff, Nat.reduceMul, Nat.reduceSub, Nat.reduceGT, reduceIte, Int.reduceNeg, Int.reduceToNat]) |  refine And.intro ?_ ?_ | intro _))
  all_goals first | omega | (simp only; omega) | exact Nat.le_trans (hs _ ‹_›) (by omega) | exact ⟨_, _, _, rfl⟩ | skip
  refine WP.loop (fun k : Nat => ⟨[(3, .own 13), (15, .sl 2 ((entriesOf N C).map encEntry)), (16, .v (.int .i64 (entriesOf N C).length)), (17, .v (.int .i64 k))], [(13, .sl 87 3 ((tabE ((entriesOf N C).take k)).map encTableRow))]⟩)
    (fun k => k ≤ (entriesOf N C).length) (fun k => (entriesOf N C).length - k) 0 (by simp) ?_ ?_
  · (simp only [go_sem, tyAll, Nat.reduceAdd, Nat.reduceLT, Nat.reduceLeDiff, Nat.reduceEqDiff, Nat.reduceMul, Nat.reduceSub, Nat.reduceGT, reduceIte, Int.reduceNeg, Int.reduceToNat] <;> (first | rfl | exact ⟨rfl, rfl⟩ | exact ⟨rfl, rfl, rfl⟩ | exact ⟨rfl, rfl, rfl, rfl⟩ | exact ⟨rfl, rfl, rfl, rfl, rfl⟩ | exact ⟨⟨rfl, rfl⟩, rfl⟩ | simp))
  intro k hk
  have hTl := tabE_len (B := 1048576) (fun e he => namesE_len hN he) k hk
  have hTk : 1048576 * k ≤ 1048576 * 1048576 := Nat.mul_le_mul_left _ (by omega)
  by_cases hkl : k < (entriesOf N C).length
  · have hki : (k : Int) < (entriesOf N C).length := by omega
    have hE := rowAt_map encEntry (entriesOf N C) k hkl
    have hmem := List.getElem_mem hkl
    obtain ⟨z1, z2, z3⟩ := ent_sizes hN hmem
    have hsu := tabE_succ hkl
    have hnl := namesE_len hN hmem
    obtain ⟨hT, hS⟩ := tabE_TB (E := entriesOf N C) ent_pos k (by omega) (entriesOf N C)[k].count
    have hc := ent_pos _ hmem
    have hss := sumE_succ hkl
    have hst := (sumE_take_le (E := entriesOf N C) ent_pos (k + 1)).2
    rw [sumE_entries] at hst
    have htb := totalOf_bound N C
    have hns : (frsS (entriesOf N C)[k].stack).map (fun x => x.name) = namesE (entriesOf N C)[k] := rfl
    generalize namesE (entriesOf N C)[k] = ns at hsu hnl hns
    generalize hcE : (entriesOf N C)[k].count = c at hT hc hss hsu
    generalize tabE ((entriesOf N C).take k) = L at hT hsu hTl ⊢
    generalize sumE ((entriesOf N C).take k) = S at hT hS hss
    generalize sumE ((entriesOf N C).take (k + 1)) = S1 at hss hst
    (repeat' (first | refine WP.seq ?_ | refine WP.block ?_ | ((first | refine WP.region ?_ | refine WP.condW ?_ | refine WP.ret ?_ | refine WP.exit ?_ | refine WP.skip ?_); simp only [go_sem, hki, hE, encEntry, hns, hcE, tyAll, Nat.reduceAdd, Nat.reduceLT, Nat.reduceLeDiff, Nat.reduceEqDiff, Nat.reduceMul, Nat.reduceSub, Nat.reduceGT, reduceIte, Int.reduceNeg, Int.reduceToNat]) | (refine WP.flowW 7 [⟨[3], [], [], [], [], []⟩, ⟨[9], [], [], [], [], []⟩, ⟨[49, 50], [0, 1], [], [], [], []⟩, ⟨[51], [0, 1, 2], [], [], [], []⟩, ⟨[52], [0, 1, 2, 3], [], [], [], []⟩, ⟨[5], [], [], [], [], []⟩, ⟨[54], [5], [], [], [], []⟩, ⟨[], [0, 1, 2, 3, 4, 5, 6], [], [], [], []⟩, ⟨[], [0, 1, 2, 3, 4, 5, 6, 7], [], [], [], []⟩, ⟨[], [0, 1, 2, 3, 4, 5, 6, 7, 8], [], [], [], []⟩, ⟨[], [0, 1, 2, 3, 4, 5, 6, 7, 8, 9], [], [], [], []⟩] [49, 50, 51, 52, 53, 54, 55] [] [] (by decide +kernel) (by kernel_rfl) (by kernel_rfl) (by kernel_rfl) ?_; simp only [go_sem, hki, hE, encEntry, hns, hcE, tyAll, Nat.reduceAdd, Nat.reduceLT, Nat.reduceLeDiff, Nat.reduceEqDiff, Nat.reduceMul, Nat.reduceSub, Nat.reduceGT, reduceIte, Int.reduceNeg, Int.reduceToNat]) | (refine WP.flowW 7 [⟨[3], [], [], [], [], []⟩, ⟨[9], [], [], [], [], []⟩, ⟨[64, 65], [0, 1], [], [], [], []⟩, ⟨[66], [0, 1, 2], [], [], [], []⟩, ⟨[67], [0, 1, 2, 3], [], [], [], []⟩, ⟨[5], [], [], [], [], []⟩, ⟨[69], [5], [], [], [], []⟩, ⟨[], [0, 1, 2, 3, 4, 5, 6], [], [], [], []⟩, ⟨[], [0, 1, 2, 3, 4, 5, 6, 7], [], [], [], []⟩, ⟨[], [0, 1, 2, 3, 4, 5, 6, 7, 8], [], [], [], []⟩, ⟨[], [0, 1, 2, 3, 4, 5, 6, 7, 8, 9], [], [], [], []⟩] [64, 65, 66, 67, 68, 69, 70] [] [] (by decide +kernel) (by kernel_rfl) (by kernel_rfl) (by kernel_rfl) ?_; simp only [go_sem, hki, hE, encEntry, hns, hcE, tyAll, Nat.reduceAdd, Nat.reduceLT, Nat.reduceLeDiff, Nat.reduceEqDiff, Nat.reduceMul, Nat.reduceSub, Nat.reduceGT, reduceIte, Int.reduceNeg, Int.reduceToNat]) |  refine And.intro ?_ ?_ | intro _))
    all_goals first | omega | exact ⟨_, _, _, rfl⟩ | skip
    refine WP.loop (fun i : Nat => ⟨[(3, .own 13), (5, .ptr 5 0 0 0), (6, .sl 1 (ns.map encS)), (15, .sl 2 ((entriesOf N C).map encEntry)), (16, .v (.int .i64 (entriesOf N C).length)), (17, .v (.int .i64 k)), (24, .sl 1 (ns.map encS)), (25, .v (.int .i64 ns.length)), (26, .v (.int .i64 i))], [(5, .box 66 [.v (.string (entriesOf N C)[k].stack), .v (.int .i64 c)]), (13, .sl 87 3 ((tabK c ns L i).map encTableRow))]⟩) (fun i => i ≤ ns.length) (fun i => ns.length - i) 0 (by simp) ?_ ?_
    · (simp only [go_sem, tyAll, Nat.reduceAdd, Nat.reduceLT, Nat.reduceLeDiff, Nat.reduceEqDiff, Nat.reduceMul, Nat.reduceSub, Nat.reduceGT, reduceIte, Int.reduceNeg, Int.reduceToNat] <;> (first | rfl | exact ⟨rfl, rfl⟩ | exact ⟨rfl, rfl, rfl⟩ | exact ⟨rfl, rfl, rfl, rfl⟩ | exact ⟨rfl, rfl, rfl, rfl, rfl⟩ | exact ⟨⟨rfl, rfl⟩, rfl⟩ | simp))
    intro i hi
    by_cases hlt : i < ns.length
    · skip
      have hli : (i : Int) < ns.length := by omega
      have h1 := rowAt_map encS ns i hlt
      obtain ⟨L2, p, r, e2, ep, hp, hr, hrn⟩ := tab_at (tabK c ns L i) ns[i]
      have hstep := step_any (c := c) hlt e2 ep
      have hb := tabK_TB (ns := ns) hS hc hT i (by omega)
      rw [decide_eq_false (by omega), Bool.false_and] at hb
      have hb2 := hb.add hS hc ns[i]
      rw [e2] at hb2
      have hbr := hb2 r (by rw [← hr]; exact getD_mem hp)
      rw [hrn] at hbr
      simp only [Bool.false_eq_true, if_false] at hbr
      have hMl := tabK_len c ns L i
      have hL2l := rowAdd_len (tabK c ns L i) ns[i]
      rw [e2] at hL2l
      have hl3 : (setAt L2 p (upTot c)).length = L2.length := setAt_len _ _
      have f1 := tab_row hp
      have f2 := tab_set L2 p (upTot c)
      have f3 := tab_row (L := setAt L2 p (upTot c)) (by rw [hl3]; exact hp)
      have f4 := tab_set (setAt L2 p (upTot c)) p (upSelf c)
      have f5 := tab_set L2 p (upSelf c)
      rw [hr] at f1 f2 f5
      rw [setAt_get hp, hr] at f3 f4
      simp only [encTableRow, upTot, upSelf] at f1 f2 f3 f4 f5
      change _ = List.map encTableRow (setAt L2 p (upTot c)) at f2
      generalize tabK c ns L i = M at e2 ep hMl hL2l ⊢
      by_cases hidx : firstIdx (rowHit ns[i]) M < 0
      · obtain ⟨a1, a2⟩ := rowAdd_new hidx
        rw [e2] at a1
        rw [ep] at a2
        have a3 : ((M.length : Nat) : Int) = (p : Int) := by omega
        by_cases hm : ns[i] ∈ ns.take i
        · simp only [if_pos hm] at hstep hbr
          by_cases hl : i + 1 = ns.length
          · simp only [if_pos hl] at hstep
            have hq : ((i : Int) = (ns.length : Int) - 1) = True := eq_true (by omega)
            (repeat' (first | refine WP.seq ?_ | refine WP.block ?_ | ((first | refine WP.region ?_ | refine WP.condW ?_ | refine WP.ret ?_ | refine WP.exit ?_ | refine WP.skip ?_); simp only [go_sem, hki, hE, hcE, hli, h1, encS, encEntry, encTableRow0, hidx, a1, a3, hm, take_encS, hq, f1, f5, tyAll, Nat.reduceAdd, Nat.reduceLT, Nat.reduceLeDiff, Nat.reduceEqDiff, Nat.reduceMul, Nat.reduceSub, Nat.reduceGT, reduceIte, Int.reduceNeg, Int.reduceToNat]) | (refine WP.flowW 7 [⟨[3], [], [], [], [], []⟩, ⟨[9], [], [], [], [], []⟩, ⟨[49, 50], [0, 1], [], [], [], []⟩, ⟨[51], [0, 1, 2], [], [], [], []⟩, ⟨[52], [0, 1, 2, 3], [], [], [], []⟩, ⟨[5], [], [], [], [], []⟩, ⟨[54], [5], [], [], [], []⟩, ⟨[], [0, 1, 2, 3, 4, 5, 6], [], [], [], []⟩, ⟨[], [0, 1, 2, 3, 4, 5, 6, 7], [], [], [], []⟩, ⟨[], [0, 1, 2, 3, 4, 5, 6, 7, 8], [], [], [], []⟩, ⟨[], [0, 1, 2, 3, 4, 5, 6, 7, 8, 9], [], [], [], []⟩] [49, 50, 51, 52, 53, 54, 55] [] [] (by decide +kernel) (by kernel_rfl) (by kernel_rfl) (by kernel_rfl) ?_; simp only [go_sem, hki, hE, hcE, hli, h1, encS, encEntry, encTableRow0, hidx, a1, a3, hm, take_encS, hq, f1, f5, tyAll, Nat.reduceAdd, Nat.reduceLT, Nat.reduceLeDiff, Nat.reduceEqDiff, Nat.reduceMul, Nat.reduceSub, Nat.reduceGT, reduceIte, Int.reduceNeg, Int.reduceToNat]) | (refine WP.flowW 7 [⟨[3], [], [], [], [], []⟩, ⟨[9], [], [], [], [], []⟩, ⟨[64, 65], [0, 1], [], [], [], []⟩, ⟨[66], [0, 1, 2], [], [], [], []⟩, ⟨[67], [0, 1, 2, 3], [], [], [], []⟩, ⟨[5], [], [], [], [], []⟩, ⟨[69], [5], [], [], [], []⟩, ⟨[], [0, 1, 2, 3, 4, 5, 6], [], [], [], []⟩, ⟨[], [0, 1, 2, 3, 4, 5, 6, 7], [], [], [], []⟩, ⟨[], [0, 1, 2, 3, 4, 5, 6, 7, 8], [], [], [], []⟩, ⟨[], [0, 1, 2, 3, 4, 5, 6, 7, 8, 9], [], [], [], []⟩] [64, 65, 66, 67, 68, 69, 70] [] [] (by decide +kernel) (by kernel_rfl) (by kernel_rfl) (by kernel_rfl) ?_; simp only [go_sem, hki, hE, hcE, hli, h1, encS, encEntry, encTableRow0, hidx, a1, a3, hm, take_encS, hq, f1, f5, tyAll, Nat.reduceAdd, Nat.reduceLT, Nat.reduceLeDiff, Nat.reduceEqDiff, Nat.reduceMul, Nat.reduceSub, Nat.reduceGT, reduceIte, Int.reduceNeg, Int.reduceToNat]) |  refine And.intro ?_ ?_ | intro _))
            all_goals first | omega | exact ⟨_, _, _, rfl⟩ | (simp only [List.length_append, List.length_map, List.length_cons, List.length_nil, List.length_take]; omega) | skip
            all_goals first | exact ⟨i + 1, by omega, by omega, by simp only [hstep]; (first | rfl | exact ⟨rfl, rfl⟩ | exact ⟨rfl, rfl, rfl⟩ | exact ⟨rfl, rfl, rfl, rfl⟩ | exact ⟨rfl, rfl, rfl, rfl, rfl⟩ | exact ⟨⟨rfl, rfl⟩, rfl⟩ | simp)⟩ | trace_state
          · simp only [if_neg hl] at hstep
            have hq : ((i : Int) = (ns.length : Int) - 1) = False := eq_false (by omega)
            (repeat' (first | refine WP.seq ?_ | refine WP.block ?_ | ((first | refine WP.region ?_ | refine WP.condW ?_ | refine WP.ret ?_ | refine WP.exit ?_ | refine WP.skip ?_); simp only [go_sem, hki, hE, hcE, hli, h1, encS, encEntry, encTableRow0, hidx, a1, a3, hm, take_encS, hq, f1, tyAll, Nat.reduceAdd, Nat.reduceLT, Nat.reduceLeDiff, Nat.reduceEqDiff, Nat.reduceMul, Nat.reduceSub, Nat.reduceGT, reduceIte, Int.reduceNeg, Int.reduceToNat]) | (refine WP.flowW 7 [⟨[3], [], [], [], [], []⟩, ⟨[9], [], [], [], [], []⟩, ⟨[49, 50], [0, 1], [], [], [], []⟩, ⟨[51], [0, 1, 2], [], [], [], []⟩, ⟨[52], [0, 1, 2, 3], [], [], [], []⟩, ⟨[5], [], [], [], [], []⟩, ⟨[54], [5], [], [], [], []⟩, ⟨[], [0, 1, 2, 3, 4, 5, 6], [], [], [], []⟩, ⟨[], [0, 1, 2, 3, 4, 5, 6, 7], [], [], [], []⟩, ⟨[], [0, 1, 2, 3, 4, 5, 6, 7, 8], [], [], [], []⟩, ⟨[], [0, 1, 2, 3, 4, 5, 6, 7, 8, 9], [], [], [], []⟩] [49, 50, 51, 52, 53, 54, 55] [] [] (by decide +kernel) (by kernel_rfl) (by kernel_rfl) (by kernel_rfl) ?_; simp only [go_sem, hki, hE, hcE, hli, h1, encS, encEntry, encTableRow0, hidx, a1, a3, hm, take_encS, hq, f1, tyAll, Nat.reduceAdd, Nat.reduceLT, Nat.reduceLeDiff, Nat.reduceEqDiff, Nat.reduceMul, Nat.reduceSub, Nat.reduceGT, reduceIte, Int.reduceNeg, Int.reduceToNat]) | (refine WP.flowW 7 [⟨[3], [], [], [], [], []⟩, ⟨[9], [], [], [], [], []⟩, ⟨[64, 65], [0, 1], [], [], [], []⟩, ⟨[66], [0, 1, 2], [], [], [], []⟩, ⟨[67], [0, 1, 2, 3], [], [], [], []⟩, ⟨[5], [], [], [], [], []⟩, ⟨[69], [5], [], [], [], []⟩, ⟨[], [0, 1, 2, 3, 4, 5, 6], [], [], [], []⟩, ⟨[], [0, 1, 2, 3, 4, 5, 6, 7], [], [], [], []⟩, ⟨[], [0, 1, 2, 3, 4, 5, 6, 7, 8], [], [], [], []⟩, ⟨[], [0, 1, 2, 3, 4, 5, 6, 7, 8, 9], [], [], [], []⟩] [64, 65, 66, 67, 68, 69, 70] [] [] (by decide +kernel) (by kernel_rfl) (by kernel_rfl) (by kernel_rfl) ?_; simp only [go_sem, hki, hE, hcE, hli, h1, encS, encEntry, encTableRow0, hidx, a1, a3, hm, take_encS, hq, f1, tyAll, Nat.reduceAdd, Nat.reduceLT, Nat.reduceLeDiff, Nat.reduceEqDiff, Nat.reduceMul, Nat.reduceSub, Nat.reduceGT, reduceIte, Int.reduceNeg, Int.reduceToNat]) |  refine And.intro ?_ ?_ | intro _))
            all_goals first | omega | exact ⟨_, _, _, rfl⟩ | (simp only [List.length_append, List.length_map, List.length_cons, List.length_nil, List.length_take]; omega) | skip
            all_goals first | exact ⟨i + 1, by omega, by omega, by simp only [hstep]; (first | rfl | exact ⟨rfl, rfl⟩ | exact ⟨rfl, rfl, rfl⟩ | exact ⟨rfl, rfl, rfl, rfl⟩ | exact ⟨rfl, rfl, rfl, rfl, rfl⟩ | exact ⟨⟨rfl, rfl⟩, rfl⟩ | simp)⟩ | trace_state
        · simp only [if_neg hm] at hstep hbr
          by_cases hl : i + 1 = ns.length
          · simp only [if_pos hl] at hstep
            have hq : ((i : Int) = (ns.length : Int) - 1) = True := eq_true (by omega)
            (repeat' (first | refine WP.seq ?_ | refine WP.block ?_ | ((first | refine WP.region ?_ | refine WP.condW ?_ | refine WP.ret ?_ | refine WP.exit ?_ | refine WP.skip ?_); simp only [go_sem, hki, hE, hcE, hli, h1, encS, encEntry, encTableRow0, hidx, a1, a3, hm, take_encS, hq, f1, f2, f3, f4, hl3, tyAll, Nat.reduceAdd, Nat.reduceLT, Nat.reduceLeDiff, Nat.reduceEqDiff, Nat.reduceMul, Nat.reduceSub, Nat.reduceGT, reduceIte, Int.reduceNeg, Int.reduceToNat]) | (refine WP.flowW 7 [⟨[3], [], [], [], [], []⟩, ⟨[9], [], [], [], [], []⟩, ⟨[49, 50], [0, 1], [], [], [], []⟩, ⟨[51], [0, 1, 2], [], [], [], []⟩, ⟨[52], [0, 1, 2, 3], [], [], [], []⟩, ⟨[5], [], [], [], [], []⟩, ⟨[54], [5], [], [], [], []⟩, ⟨[], [0, 1, 2, 3, 4, 5, 6], [], [], [], []⟩, ⟨[], [0, 1, 2, 3, 4, 5, 6, 7], [], [], [], []⟩, ⟨[], [0, 1, 2, 3, 4, 5, 6, 7, 8], [], [], [], []⟩, ⟨[], [0, 1, 2, 3, 4, 5, 6, 7, 8, 9], [], [], [], []⟩] [49, 50, 51, 52, 53, 54, 55] [] [] (by decide +kernel) (by kernel_rfl) (by kernel_rfl) (by kernel_rfl) ?_; simp only [go_sem, hki, hE, hcE, hli, h1, encS, encEntry, encTableRow0, hidx, a1, a3, hm, take_encS, hq, f1, f2, f3, f4, hl3, tyAll, Nat.reduceAdd, Nat.reduceLT, Nat.reduceLeDiff, Nat.reduceEqDiff, Nat.reduceMul, Nat.reduceSub, Nat.reduceGT, reduceIte, Int.reduceNeg, Int.reduceToNat]) | (refine WP.flowW 7 [⟨[3], [], [], [], [], []⟩, ⟨[9], [], [], [], [], []⟩, ⟨[64, 65], [0, 1], [], [], [], []⟩, ⟨[66], [0, 1, 2], [], [], [], []⟩, ⟨[67], [0, 1, 2, 3], [], [], [], []⟩, ⟨[5], [], [], [], [], []⟩, ⟨[69], [5], [], [], [], []⟩, ⟨[], [0, 1, 2, 3, 4, 5, 6], [], [], [], []⟩, ⟨[], [0, 1, 2, 3, 4, 5, 6, 7], [], [], [], []⟩, ⟨[], [0, 1, 2, 3, 4, 5, 6, 7, 8], [], [], [], []⟩, ⟨[], [0, 1, 2, 3, 4, 5, 6, 7, 8, 9], [], [], [], []⟩] [64, 65, 66, 67, 68, 69, 70] [] [] (by decide +kernel) (by kernel_rfl) (by kernel_rfl) (by kernel_rfl) ?_; simp only [go_sem, hki, hE, hcE, hli, h1, encS, encEntry, encTableRow0, hidx, a1, a3, hm, take_encS, hq, f1, f2, f3, f4, hl3, tyAll, Nat.reduceAdd, Nat.reduceLT, Nat.reduceLeDiff, Nat.reduceEqDiff, Nat.reduceMul, Nat.reduceSub, Nat.reduceGT, reduceIte, Int.reduceNeg, Int.reduceToNat]) |  refine And.intro ?_ ?_ | intro _))
            all_goals first | omega | exact ⟨_, _, _, rfl⟩ | (simp only [List.length_append, List.length_map, List.length_cons, List.length_nil, List.length_take]; omega) | skip
            all_goals first | exact ⟨i + 1, by omega, by omega, by simp only [hstep]; (first | rfl | exact ⟨rfl, rfl⟩ | exact ⟨rfl, rfl, rfl⟩ | exact ⟨rfl, rfl, rfl, rfl⟩ | exact ⟨rfl, rfl, rfl, rfl, rfl⟩ | exact ⟨⟨rfl, rfl⟩, rfl⟩ | simp)⟩ | trace_state
          · simp only [if_neg hl] at hstep
            have hq : ((i : Int) = (ns.length : Int) - 1) = False := eq_false (by omega)
            (repeat' (first | refine WP.seq ?_ | refine WP.block ?_ | ((first | refine WP.region ?_ | refine WP.condW ?_ | refine WP.ret ?_ | refine WP.exit ?_ | refine WP.skip ?_); simp only [go_sem, hki, hE, hcE, hli, h1, encS, encEntry, encTableRow0, hidx, a1, a3, hm, take_encS, hq, f1, f2, tyAll, Nat.reduceAdd, Nat.reduceLT, Nat.reduceLeDiff, Nat.reduceEqDiff, Nat.reduceMul, Nat.reduceSub, Nat.reduceGT, reduceIte, Int.reduceNeg, Int.reduceToNat]) | (refine WP.flowW 7 [⟨[3], [], [], [], [], []⟩, ⟨[9], [], [], [], [], []⟩, ⟨[49, 50], [0, 1], [], [], [], []⟩, ⟨[51], [0, 1, 2], [], [], [], []⟩, ⟨[52], [0, 1, 2, 3], [], [], [], []⟩, ⟨[5], [], [], [], [], []⟩, ⟨[54], [5], [], [], [], []⟩, ⟨[], [0, 1, 2, 3, 4, 5, 6], [], [], [], []⟩, ⟨[], [0, 1, 2, 3, 4, 5, 6, 7], [], [], [], []⟩, ⟨[], [0, 1, 2, 3, 4, 5, 6, 7, 8], [], [], [], []⟩, ⟨[], [0, 1, 2, 3, 4, 5, 6, 7, 8, 9], [], [], [], []⟩] [49, 50, 51, 52, 53, 54, 55] [] [] (by decide +kernel) (by kernel_rfl) (by kernel_rfl) (by kernel_rfl) ?_; simp only [go_sem, hki, hE, hcE, hli, h1, encS, encEntry, encTableRow0, hidx, a1, a3, hm, take_encS, hq, f1, f2, tyAll, Nat.reduceAdd, Nat.reduceLT, Nat.reduceLeDiff, Nat.reduceEqDiff, Nat.reduceMul, Nat.reduceSub, Nat.reduceGT, reduceIte, Int.reduceNeg, Int.reduceToNat]) | (refine WP.flowW 7 [⟨[3], [], [], [], [], []⟩, ⟨[9], [], [], [], [], []⟩, ⟨[64, 65], [0, 1], [], [], [], []⟩, ⟨[66], [0, 1, 2], [], [], [], []⟩, ⟨[67], [0, 1, 2, 3], [], [], [], []⟩, ⟨[5], [], [], [], [], []⟩, ⟨[69], [5], [], [], [], []⟩, ⟨[], [0, 1, 2, 3, 4, 5, 6], [], [], [], []⟩, ⟨[], [0, 1, 2, 3, 4, 5, 6, 7], [], [], [], []⟩, ⟨[], [0, 1, 2, 3, 4, 5, 6, 7, 8], [], [], [], []⟩, ⟨[], [0, 1, 2, 3, 4, 5, 6, 7, 8, 9], [], [], [], []⟩] [64, 65, 66, 67, 68, 69, 70] [] [] (by decide +kernel) (by kernel_rfl) (by kernel_rfl) (by kernel_rfl) ?_; simp only [go_sem, hki, hE, hcE, hli, h1, encS, encEntry, encTableRow0, hidx, a1, a3, hm, take_encS, hq, f1, f2, tyAll, Nat.reduceAdd, Nat.reduceLT, Nat.reduceLeDiff, Nat.reduceEqDiff, Nat.reduceMul, Nat.reduceSub, Nat.reduceGT, reduceIte, Int.reduceNeg, Int.reduceToNat]) |  refine And.intro ?_ ?_ | intro _))
            all_goals first | omega | exact ⟨_, _, _, rfl⟩ | (simp only [List.length_append, List.length_map, List.length_cons, List.length_nil, List.length_take]; omega) | skip
            all_goals first | exact ⟨i + 1, by omega, by omega, by simp only [hstep]; (first | rfl | exact ⟨rfl, rfl⟩ | exact ⟨rfl, rfl, rfl⟩ | exact ⟨rfl, rfl, rfl, rfl⟩ | exact ⟨rfl, rfl, rfl, rfl, rfl⟩ | exact ⟨⟨rfl, rfl⟩, rfl⟩ | simp)⟩ | trace_state
      · obtain ⟨b1, b2⟩ := rowAdd_old hidx
        rw [e2] at b1
        rw [ep] at b2
        subst b1
        have hpn : ¬ (p : Int) < 0 := by omega
        by_cases hm : ns[i] ∈ ns.take i
        · simp only [if_pos hm] at hstep hbr
          by_cases hl : i + 1 = ns.length
          · simp only [if_pos hl] at hstep
            have hq : ((i : Int) = (ns.length : Int) - 1) = True := eq_true (by omega)
            (repeat' (first | refine WP.seq ?_ | refine WP.block ?_ | ((first | refine WP.region ?_ | refine WP.condW ?_ | refine WP.ret ?_ | refine WP.exit ?_ | refine WP.skip ?_); simp only [go_sem, hki, hE, hcE, hli, h1, encS, encEntry, encTableRow0, b2, hpn, hm, take_encS, hq, f1, f5, tyAll, Nat.reduceAdd, Nat.reduceLT, Nat.reduceLeDiff, Nat.reduceEqDiff, Nat.reduceMul, Nat.reduceSub, Nat.reduceGT, reduceIte, Int.reduceNeg, Int.reduceToNat]) | (refine WP.flowW 7 [⟨[3], [], [], [], [], []⟩, ⟨[9], [], [], [], [], []⟩, ⟨[49, 50], [0, 1], [], [], [], []⟩, ⟨[51], [0, 1, 2], [], [], [], []⟩, ⟨[52], [0, 1, 2, 3], [], [], [], []⟩, ⟨[5], [], [], [], [], []⟩, ⟨[54], [5], [], [], [], []⟩, ⟨[], [0, 1, 2, 3, 4, 5, 6], [], [], [], []⟩, ⟨[], [0, 1, 2, 3, 4, 5, 6, 7], [], [], [], []⟩, ⟨[], [0, 1, 2, 3, 4, 5, 6, 7, 8], [], [], [], []⟩, ⟨[], [0, 1, 2, 3, 4, 5, 6, 7, 8, 9], [], [], [], []⟩] [49, 50, 51, 52, 53, 54, 55] [] [] (by decide +kernel) (by kernel_rfl) (by kernel_rfl) (by kernel_rfl) ?_; simp only [go_sem, hki, hE, hcE, hli, h1, encS, encEntry, encTableRow0, b2, hpn, hm, take_encS, hq, f1, f5, tyAll, Nat.reduceAdd, Nat.reduceLT, Nat.reduceLeDiff, Nat.reduceEqDiff, Nat.reduceMul, Nat.reduceSub, Nat.reduceGT, reduceIte, Int.reduceNeg, Int.reduceToNat]) | (refine WP.flowW 7 [⟨[3], [], [], [], [], []⟩, ⟨[9], [], [], [], [], []⟩, ⟨[64, 65], [0, 1], [], [], [], []⟩, ⟨[66], [0, 1, 2], [], [], [], []⟩, ⟨[67], [0, 1, 2, 3], [], [], [], []⟩, ⟨[5], [], [], [], [], []⟩, ⟨[69], [5], [], [], [], []⟩, ⟨[], [0, 1, 2, 3, 4, 5, 6], [], [], [], []⟩, ⟨[], [0, 1, 2, 3, 4, 5, 6, 7], [], [], [], []⟩, ⟨[], [0, 1, 2, 3, 4, 5, 6, 7, 8], [], [], [], []⟩, ⟨[], [0, 1, 2, 3, 4, 5, 6, 7, 8, 9], [], [], [], []⟩] [64, 65, 66, 67, 68, 69, 70] [] [] (by decide +kernel) (by kernel_rfl) (by kernel_rfl) (by kernel_rfl) ?_; simp only [go_sem, hki, hE, hcE, hli, h1, encS, encEntry, encTableRow0, b2, hpn, hm, take_encS, hq, f1, f5, tyAll, Nat.reduceAdd, Nat.reduceLT, Nat.reduceLeDiff, Nat.reduceEqDiff, Nat.reduceMul, Nat.reduceSub, Nat.reduceGT, reduceIte, Int.reduceNeg, Int.reduceToNat]) |  refine And.intro ?_ ?_ | intro _))
            all_goals first | omega | exact ⟨_, _, _, rfl⟩ | (simp only [List.length_append, List.length_map, List.length_cons, List.length_nil, List.length_take]; omega) | skip
            all_goals first | exact ⟨i + 1, by omega, by omega, by simp only [hstep]; (first | rfl | exact ⟨rfl, rfl⟩ | exact ⟨rfl, rfl, rfl⟩ | exact ⟨rfl, rfl, rfl, rfl⟩ | exact ⟨rfl, rfl, rfl, rfl, rfl⟩ | exact ⟨⟨rfl, rfl⟩, rfl⟩ | simp)⟩ | trace_state
          · simp only [if_neg hl] at hstep
            have hq : ((i : Int) = (ns.length : Int) - 1) = False := eq_false (by omega)
            (repeat' (first | refine WP.seq ?_ | refine WP.block ?_ | ((first | refine WP.region ?_ | refine WP.condW ?_ | refine WP.ret ?_ | refine WP.exit ?_ | refine WP.skip ?_); simp only [go_sem, hki, hE, hcE, hli, h1, encS, encEntry, encTableRow0, b2, hpn, hm, take_encS, hq, f1, tyAll, Nat.reduceAdd, Nat.reduceLT, Nat.reduceLeDiff, Nat.reduceEqDiff, Nat.reduceMul, Nat.reduceSub, Nat.reduceGT, reduceIte, Int.reduceNeg, Int.reduceToNat]) | (refine WP.flowW 7 [⟨[3], [], [], [], [], []⟩, ⟨[9], [], [], [], [], []⟩, ⟨[49, 50], [0, 1], [], [], [], []⟩, ⟨[51], [0, 1, 2], [], [], [], []⟩, ⟨[52], [0, 1, 2, 3], [], [], [], []⟩, ⟨[5], [], [], [], [], []⟩, ⟨[54], [5], [], [], [], []⟩, ⟨[], [0, 1, 2, 3, 4, 5, 6], [], [], [], []⟩, ⟨[], [0, 1, 2, 3, 4, 5, 6, 7], [], [], [], []⟩, ⟨[], [0, 1, 2, 3, 4, 5, 6, 7, 8], [], [], [], []⟩, ⟨[], [0, 1, 2, 3, 4, 5, 6, 7, 8, 9], [], [], [], []⟩] [49, 50, 51, 52, 53, 54, 55] [] [] (by decide +kernel) (by kernel_rfl) (by kernel_rfl) (by kernel_rfl) ?_; simp only [go_sem, hki, hE, hcE, hli, h1, encS, encEntry, encTableRow0, b2, hpn, hm, take_encS, hq, f1, tyAll, Nat.reduceAdd, Nat.reduceLT, Nat.reduceLeDiff, Nat.reduceEqDiff, Nat.reduceMul, Nat.reduceSub, Nat.reduceGT, reduceIte, Int.reduceNeg, Int.reduceToNat]) | (refine WP.flowW 7 [⟨[3], [], [], [], [], []⟩, ⟨[9], [], [], [], [], []⟩, ⟨[64, 65], [0, 1], [], [], [], []⟩, ⟨[66], [0, 1, 2], [], [], [], []⟩, ⟨[67], [0, 1, 2, 3], [], [], [], []⟩, ⟨[5], [], [], [], [], []⟩, ⟨[69], [5], [], [], [], []⟩, ⟨[], [0, 1, 2, 3, 4, 5, 6], [], [], [], []⟩, ⟨[], [0, 1, 2, 3, 4, 5, 6, 7], [], [], [], []⟩, ⟨[], [0, 1, 2, 3, 4, 5, 6, 7, 8], [], [], [], []⟩, ⟨[], [0, 1, 2, 3, 4, 5, 6, 7, 8, 9], [], [], [], []⟩] [64, 65, 66, 67, 68, 69, 70] [] [] (by decide +kernel) (by kernel_rfl) (by kernel_rfl) (by kernel_rfl) ?_; simp only [go_sem, hki, hE, hcE, hli, h1, encS, encEntry, encTableRow0, b2, hpn, hm, take_encS, hq, f1, tyAll, Nat.reduceAdd, Nat.reduceLT, Nat.reduceLeDiff, Nat.reduceEqDiff, Nat.reduceMul, Nat.reduceSub, Nat.reduceGT, reduceIte, Int.reduceNeg, Int.reduceToNat]) |  refine And.intro ?_ ?_ | intro _))
            all_goals first | omega | exact ⟨_, _, _, rfl⟩ | (simp only [List.length_append, List.length_map, List.length_cons, List.length_nil, List.length_take]; omega) | skip
            all_goals first | exact ⟨i + 1, by omega, by omega, by simp only [hstep]; (first | rfl | exact ⟨rfl, rfl⟩ | exact ⟨rfl, rfl, rfl⟩ | exact ⟨rfl, rfl, rfl, rfl⟩ | exact ⟨rfl, rfl, rfl, rfl, rfl⟩ | exact ⟨⟨rfl, rfl⟩, rfl⟩ | simp)⟩ | trace_state
        · simp only [if_neg hm] at hstep hbr
          by_cases hl : i + 1 = ns.length
          · simp only [if_pos hl] at hstep
            have hq : ((i : Int) = (ns.length : Int) - 1) = True := eq_true (by omega)
            (repeat' (first | refine WP.seq ?_ | refine WP.block ?_ | ((first | refine WP.region ?_ | refine WP.condW ?_ | refine WP.ret ?_ | refine WP.exit ?_ | refine WP.skip ?_); simp only [go_sem, hki, hE, hcE, hli, h1, encS, encEntry, encTableRow0, b2, hpn, hm, take_encS, hq, f1, f2, f3, f4, hl3, tyAll, Nat.reduceAdd, Nat.reduceLT, Nat.reduceLeDiff, Nat.reduceEqDiff, Nat.reduceMul, Nat.reduceSub, Nat.reduceGT, reduceIte, Int.reduceNeg, Int.reduceToNat]) | (refine WP.flowW 7 [⟨[3], [], [], [], [], []⟩, ⟨[9], [], [], [], [], []⟩, ⟨[49, 50], [0, 1], [], [], [], []⟩, ⟨[51], [0, 1, 2], [], [], [], []⟩, ⟨[52], [0, 1, 2, 3], [], [], [], []⟩, ⟨[5], [], [], [], [], []⟩, ⟨[54], [5], [], [], [], []⟩, ⟨[], [0, 1, 2, 3, 4, 5, 6], [], [], [], []⟩, ⟨[], [0, 1, 2, 3, 4, 5, 6, 7], [], [], [], []⟩, ⟨[], [0, 1, 2, 3, 4, 5, 6, 7, 8], [], [], [], []⟩, ⟨[], [0, 1, 2, 3, 4, 5, 6, 7, 8, 9], [], [], [], []⟩] [49, 50, 51, 52, 53, 54, 55] [] [] (by decide +kernel) (by kernel_rfl) (by kernel_rfl) (by kernel_rfl) ?_; simp only [go_sem, hki, hE, hcE, hli, h1, encS, encEntry, encTableRow0, b2, hpn, hm, take_encS, hq, f1, f2, f3, f4, hl3, tyAll, Nat.reduceAdd, Nat.reduceLT, Nat.reduceLeDiff, Nat.reduceEqDiff, Nat.reduceMul, Nat.reduceSub, Nat.reduceGT, reduceIte, Int.reduceNeg, Int.reduceToNat]) | (refine WP.flowW 7 [⟨[3], [], [], [], [], []⟩, ⟨[9], [], [], [], [], []⟩, ⟨[64, 65], [0, 1], [], [], [], []⟩, ⟨[66], [0, 1, 2], [], [], [], []⟩, ⟨[67], [0, 1, 2, 3], [], [], [], []⟩, ⟨[5], [], [], [], [], []⟩, ⟨[69], [5], [], [], [], []⟩, ⟨[], [0, 1, 2, 3, 4, 5, 6], [], [], [], []⟩, ⟨[], [0, 1, 2, 3, 4, 5, 6, 7], [], [], [], []⟩, ⟨[], [0, 1, 2, 3, 4, 5, 6, 7, 8], [], [], [], []⟩, ⟨[], [0, 1, 2, 3, 4, 5, 6, 7, 8, 9], [], [], [], []⟩] [64, 65, 66, 67, 68, 69, 70] [] [] (by decide +kernel) (by kernel_rfl) (by kernel_rfl) (by kernel_rfl) ?_; simp only [go_sem, hki, hE, hcE, hli, h1, encS, encEntry, encTableRow0, b2, hpn, hm, take_encS, hq, f1, f2, f3, f4, hl3, tyAll, Nat.reduceAdd, Nat.reduceLT, Nat.reduceLeDiff, Nat.reduceEqDiff, Nat.reduceMul, Nat.reduceSub, Nat.reduceGT, reduceIte, Int.reduceNeg, Int.reduceToNat]) |  refine And.intro ?_ ?_ | intro _))
            all_goals first | omega | exact ⟨_, _, _, rfl⟩ | (simp only [List.length_append, List.length_map, List.length_cons, List.length_nil, List.length_take]; omega) | skip
            all_goals first | exact ⟨i + 1, by omega, by omega, by simp only [hstep]; (first | rfl | exact ⟨rfl, rfl⟩ | exact ⟨rfl, rfl, rfl⟩ | exact ⟨rfl, rfl, rfl, rfl⟩ | exact ⟨rfl, rfl, rfl, rfl, rfl⟩ | exact ⟨⟨rfl, rfl⟩, rfl⟩ | simp)⟩ | trace_state
          · simp only [if_neg hl] at hstep
            have hq : ((i : Int) = (ns.length : Int) - 1) = False := eq_false (by omega)
            (repeat' (first | refine WP.seq ?_ | refine WP.block ?_ | ((first | refine WP.region ?_ | refine WP.condW ?_ | refine WP.ret ?_ | refine WP.exit ?_ | refine WP.skip ?_); simp only [go_sem, hki, hE, hcE, hli, h1, encS, encEntry, encTableRow0, b2, hpn, hm, take_encS, hq, f1, f2, tyAll, Nat.reduceAdd, Nat.reduceLT, Nat.reduceLeDiff, Nat.reduceEqDiff, Nat.reduceMul, Nat.reduceSub, Nat.reduceGT, reduceIte, Int.reduceNeg, Int.reduceToNat]) | (refine WP.flowW 7 [⟨[3], [], [], [], [], []⟩, ⟨[9], [], [], [], [], []⟩, ⟨[49, 50], [0, 1], [], [], [], []⟩, ⟨[51], [0, 1, 2], [], [], [], []⟩, ⟨[52], [0, 1, 2, 3], [], [], [], []⟩, ⟨[5], [], [], [], [], []⟩, ⟨[54], [5], [], [], [], []⟩, ⟨[], [0, 1, 2, 3, 4, 5, 6], [], [], [], []⟩, ⟨[], [0, 1, 2, 3, 4, 5, 6, 7], [], [], [], []⟩, ⟨[], [0, 1, 2, 3, 4, 5, 6, 7, 8], [], [], [], []⟩, ⟨[], [0, 1, 2, 3, 4, 5, 6, 7, 8, 9], [], [], [], []⟩] [49, 50, 51, 52, 53, 54, 55] [] [] (by decide +kernel) (by kernel_rfl) (by kernel_rfl) (by kernel_rfl) ?_; simp only [go_sem, hki, hE, hcE, hli, h1, encS, encEntry, encTableRow0, b2, hpn, hm, take_encS, hq, f1, f2, tyAll, Nat.reduceAdd, Nat.reduceLT, Nat.reduceLeDiff, Nat.reduceEqDiff, Nat.reduceMul, Nat.reduceSub, Nat.reduceGT, reduceIte, Int.reduceNeg, Int.reduceToNat]) | (refine WP.flowW 7 [⟨[3], [], [], [], [], []⟩, ⟨[9], [], [], [], [], []⟩, ⟨[64, 65], [0, 1], [], [], [], []⟩, ⟨[66], [0, 1, 2], [], [], [], []⟩, ⟨[67], [0, 1, 2, 3], [], [], [], []⟩, ⟨[5], [], [], [], [], []⟩, ⟨[69], [5], [], [], [], []⟩, ⟨[], [0, 1, 2, 3, 4, 5, 6], [], [], [], []⟩, ⟨[], [0, 1, 2, 3, 4, 5, 6, 7], [], [], [], []⟩, ⟨[], [0, 1, 2, 3, 4, 5, 6, 7, 8], [], [], [], []⟩, ⟨[], [0, 1, 2, 3, 4, 5, 6, 7, 8, 9], [], [], [], []⟩] [64, 65, 66, 67, 68, 69, 70] [] [] (by decide +kernel) (by kernel_rfl) (by kernel_rfl) (by kernel_rfl) ?_; simp only [go_sem, hki, hE, hcE, hli, h1, encS, encEntry, encTableRow0, b2, hpn, hm, take_encS, hq, f1, f2, tyAll, Nat.reduceAdd, Nat.reduceLT, Nat.reduceLeDiff, Nat.reduceEqDiff, Nat.reduceMul, Nat.reduceSub, Nat.reduceGT, reduceIte, Int.reduceNeg, Int.reduceToNat]) |  refine And.intro ?_ ?_ | intro _))
            all_goals first | omega | exact ⟨_, _, _, rfl⟩ | (simp only [List.length_append, List.length_map, List.length_cons, List.length_nil, List.length_take]; omega) | skip
            all_goals first | exact ⟨i + 1, by omega, by omega, by simp only [hstep]; (first | rfl | exact ⟨rfl, rfl⟩ | exact ⟨rfl, rfl, rfl⟩ | exact ⟨rfl, rfl, rfl, rfl⟩ | exact ⟨rfl, rfl, rfl, rfl, rfl⟩ | exact ⟨⟨rfl, rfl⟩, rfl⟩ | simp)⟩ | trace_state
    · have hge : ¬ (i : Int) < ns.length := by omega
      have hie : i = ns.length := by omega
      subst hie
      (repeat' (first | refine WP.seq ?_ | refine WP.block ?_ | ((first | refine WP.region ?_ | refine WP.condW ?_ | refine WP.ret ?_ | refine WP.exit ?_ | refine WP.skip ?_); simp only [go_sem, hge, tyAll, Nat.reduceAdd, Nat.reduceLT, Nat.reduceLeDiff, Nat.reduceEqDiff, Nat.reduceMul, Nat.reduceSub, Nat.reduceGT, reduceIte, Int.reduceNeg, Int.reduceToNat]) | (refine WP.flowW 7 [⟨[3], [], [], [], [], []⟩, ⟨[9], [], [], [], [], []⟩, ⟨[49, 50], [0, 1], [], [], [], []⟩, ⟨[51], [0, 1, 2], [], [], [], []⟩, ⟨[52], [0, 1, 2, 3], [], [], [], []⟩, ⟨[5], [], [], [], [], []⟩, ⟨[54], [5], [], [], [], []⟩, ⟨[], [0, 1, 2, 3, 4, 5, 6], [], [], [], []⟩, ⟨[], [0, 1, 2, 3, 4, 5, 6, 7], [], [], [], []⟩, ⟨[], [0, 1, 2, 3, 4, 5, 6, 7, 8], [], [], [], []⟩, ⟨[], [0, 1, 2, 3, 4, 5, 6, 7, 8, 9], [], [], [], []⟩] [49, 50, 51, 52, 53, 54, 55] [] [] (by decide +kernel) (by kernel_rfl) (by kernel_rfl) (by kernel_rfl) ?_; simp only [go_sem, hge, tyAll, Nat.reduceAdd, Nat.reduceLT, Nat.reduceLeDiff, Nat.reduceEqDiff, Nat.reduceMul, Nat.reduceSub, Nat.reduceGT, reduceIte, Int.reduceNeg, Int.reduceToNat]) | (refine WP.flowW 7 [⟨[3], [], [], [], [], []⟩, ⟨[9], [], [], [], [], []⟩, ⟨[64, 65], [0, 1], [], [], [], []⟩, ⟨[66], [0, 1, 2], [], [], [], []⟩, ⟨[67], [0, 1, 2, 3], [], [], [], []⟩, ⟨[5], [], [], [], [], []⟩, ⟨[69], [5], [], [], [], []⟩, ⟨[], [0, 1, 2, 3, 4, 5, 6], [], [], [], []⟩, ⟨[], [0, 1, 2, 3, 4, 5, 6, 7], [], [], [], []⟩, ⟨[], [0, 1, 2, 3, 4, 5, 6, 7, 8], [], [], [], []⟩, ⟨[], [0, 1, 2, 3, 4, 5, 6, 7, 8, 9], [], [], [], []⟩] [64, 65, 66, 67, 68, 69, 70] [] [] (by decide +kernel) (by kernel_rfl) (by kernel_rfl) (by kernel_rfl) ?_; simp only [go_sem, hge, tyAll, Nat.reduceAdd, Nat.reduceLT, Nat.reduceLeDiff, Nat.reduceEqDiff, Nat.reduceMul, Nat.reduceSub, Nat.reduceGT, reduceIte, Int.reduceNeg, Int.reduceToNat]) |  refine And.intro ?_ ?_ | intro _))
      all_goals first | omega | skip
      all_goals first | exact ⟨k + 1, by omega, by omega, by simp only [hsu]; (first | rfl | exact ⟨rfl, rfl⟩ | exact ⟨rfl, rfl, rfl⟩ | exact ⟨rfl, rfl, rfl, rfl⟩ | exact ⟨rfl, rfl, rfl, rfl, rfl⟩ | exact ⟨⟨rfl, rfl⟩, rfl⟩ | simp)⟩ | trace_state
  have hge : ¬ (k : Int) < (entriesOf N C).length := by omega
  have hke : k = (entriesOf N C).length := by omega
  subst hke
  rw [List.take_length] at hTl ⊢
  have hR : tableOf N C = insAll ltT (tabE (entriesOf N C)) := rfl
  have hpr := tabE_pair (entriesOf N C)
  have hTl2 : (tabE (entriesOf N C)).length ≤ 1099511627776 := by omega
  rw [hR]
  generalize tabE (entriesOf N C) = R at hTl2 hpr ⊢
  (repeat' (first | refine WP.seq ?_ | refine WP.block ?_ | ((first | refine WP.region ?_ | refine WP.condW ?_ | refine WP.ret ?_ | refine WP.exit ?_ | refine WP.skip ?_); simp only [go_sem, hge, tyAll, Nat.reduceAdd, Nat.reduceLT, Nat.reduceLeDiff, Nat.reduceEqDiff, Nat.reduceMul, Nat.reduceSub, Nat.reduceGT, reduceIte, Int.reduceNeg, Int.reduceToNat]) | (refine WP.flowW 7 [⟨[3], [], [], [], [], []⟩, ⟨[9], [], [], [], [], []⟩, ⟨[49, 50], [0, 1], [], [], [], []⟩, ⟨[51], [0, 1, 2], [], [], [], []⟩, ⟨[52], [0, 1, 2, 3], [], [], [], []⟩, ⟨[5], [], [], [], [], []⟩, ⟨[54], [5], [], [], [], []⟩, ⟨[], [0, 1, 2, 3, 4, 5, 6], [], [], [], []⟩, ⟨[], [0, 1, 2, 3, 4, 5, 6, 7], [], [], [], []⟩, ⟨[], [0, 1, 2, 3, 4, 5, 6, 7, 8], [], [], [], []⟩, ⟨[], [0, 1, 2, 3, 4, 5, 6, 7, 8, 9], [], [], [], []⟩] [49, 50, 51, 52, 53, 54, 55] [] [] (by decide +kernel) (by kernel_rfl) (by kernel_rfl) (by kernel_rfl) ?_; simp only [go_sem, hge, tyAll, Nat.reduceAdd, Nat.reduceLT, Nat.reduceLeDiff, Nat.reduceEqDiff, Nat.reduceMul, Nat.reduceSub, Nat.reduceGT, reduceIte, Int.reduceNeg, Int.reduceToNat]) | (refine WP.flowW 7 [⟨[3], [], [], [], [], []⟩, ⟨[9], [], [], [], [], []⟩, ⟨[64, 65], [0, 1], [], [], [], []⟩, ⟨[66], [0, 1, 2], [], [], [], []⟩, ⟨[67], [0, 1, 2, 3], [], [], [], []⟩, ⟨[5], [], [], [], [], []⟩, ⟨[69], [5], [], [], [], []⟩, ⟨[], [0, 1, 2, 3, 4, 5, 6], [], [], [], []⟩, ⟨[], [0, 1, 2, 3, 4, 5, 6, 7], [], [], [], []⟩, ⟨[], [0, 1, 2, 3, 4, 5, 6, 7, 8], [], [], [], []⟩, ⟨[], [0, 1, 2, 3, 4, 5, 6, 7, 8, 9], [], [], [], []⟩] [64, 65, 66, 67, 68, 69, 70] [] [] (by decide +kernel) (by kernel_rfl) (by kernel_rfl) (by kernel_rfl) ?_; simp only [go_sem, hge, tyAll, Nat.reduceAdd, Nat.reduceLT, Nat.reduceLeDiff, Nat.reduceEqDiff, Nat.reduceMul, Nat.reduceSub, Nat.reduceGT, reduceIte, Int.reduceNeg, Int.reduceToNat]) |  refine And.intro ?_ ?_ | intro _))
  all_goals first | omega | exact hpr | exact ⟨_, _, _, rfl⟩ | skip
  all_goals trace_state
end
end Go.Proofs.YtolnapfgfdgifaaGreatDoor

/-
  DERIVED. Lists of the struct TableRow: what the law's helpers compare, mark and look for. Printed by program (fam.py).
-/
namespace Go.Proofs.YtolnapfgfdgifaaGreatDoor
open Go.Vc
set_option linter.unusedSimpArgs false
set_option linter.unusedVariables false
set_option maxHeartbeats 1000000
attribute [local go_sem] St.runR St.runW St.stepV offV St.step St.stepU St.stepG mkCond guardB St.prK St.pr St.prLen St.eff St.callE St.callD St.callF St.callL aI aB aS aR aC St.isM St.argL Ctr.pure Ctr.lend Ctr.move Ctr.isL Ctr.wri pur len lentBy St.lentV St.lent1 nthS argsR restOf obsR pairs swapL unObs backL St.resL erL SV.ren1 SV.up SV.up2 Ob.up St.fzL cellIds partIds St.intoRow SV.ownId St.fz SV.fz1 St.prep St.mvL St.mv SV.re1 rnOk St.prEq vals eqCells scEq Value.kd St.prStr St.prCut cutR St.bnd St.prMin St.bld isShift outL retL outJ oR oC St.ev St.get St.put St.new St.kill SV.kill SV.kill1 Ob.kill St.app St.wrt St.rowsOf St.res St.killL lk er argsL SV.strip SV.need SV.share SV.share1 SV.owns SV.owns1 SV.owns2 SV.good SV.good1 SV.rok SV.rok1 SV.rok2 SV.isV SV.isV2 nodupN SV.cells SV.one SV.pur partsIn rowsIn splice cellsAt dstOk scal2 scal1 thenK blockK retK outK outs okC okL okA okT nilC nilL nilA nilT keepC keepL keepA keepT St.runG St.dltK St.least St.clean St.final St.hide offK badS badO SV.refs SV.leaf SV.leaf2 Ob.refs dlOk fpAt Go.Vc.cover tups SV.ofAgg St.out outC subL St.has rng wr Value.oneCell' Option.isSome_some Option.isSome_none List.nil_append Bool.false_eq_true List.map_cons List.map_nil List.all_cons List.all_nil List.length_cons List.length_nil List.drop_zero List.drop_succ_cons List.take_succ_cons List.take_zero List.drop_nil List.take_nil List.getElem?_cons_zero List.getElem?_cons_succ List.getElem?_nil List.cons_append List.nil_append List.append_nil List.append_assoc List.flatMap_cons List.flatMap_nil List.contains_cons List.contains_nil List.set_cons_zero List.set_cons_succ List.getElem?_toArray Option.getD_some Option.getD_none Option.map_some Option.map_none Option.bind_some Option.some.injEq Prod.mk.injEq if_true if_false true_and and_true and_self and_false false_and Bool.and_false Bool.false_and Bool.or_true Bool.true_or Bool.or_false Bool.false_or ne_eq not_true_eq_false not_false_eq_true decide_true decide_false List.mem_cons List.not_mem_nil List.filter_cons List.filter_nil List.any_cons List.any_nil List.isEmpty_nil List.isEmpty_cons Option.getD_none or_false false_or true_or or_true forall_eq_or_imp forall_eq reduceCtorEq exists_eq exists_eq' exists_eq_left' exists_eq_left exists_eq_right exists_eq_right' imp_self implies_true Bool.and_true Bool.true_and Bool.and_self beq_self_eq_true List.replicate_succ List.replicate_zero forall_const false_implies pickB_or pickB_and beqT beqF Int.toNat_natCast List.length_map List.length_replicate ge_iff_le gt_iff_lt decide_eq_true_eq decide_eq_false_iff_not Bool.and_eq_true Bool.or_eq_true Bool.not_eq_true' Bool.not_eq_false' condG List.toList_toArray Bool.or_eq_false_iff Bool.and_eq_false_iff Int.not_lt Int.not_le beq_iff_eq beq_eq_false_iff_ne bne_iff_ne bne_eq_false_iff_eq ne_eq Bool.not_true Bool.not_false exists_and_left
attribute [local irreducible] Go.Vc.WP
attribute [local go_sem] cx0_t cx0_c

theorem extTableRow {a b : TableRow} (h0 : a.name = b.name) (h1 : a.self = b.self) (h2 : a.total = b.total) : a = b := by cases a; cases b; simp_all
def mrkTableRow (v : Int) : TableRow := ⟨markT (v), v + 1, v + 1 + 1⟩
def marksTableRow (k : Int) (n : Nat) : List TableRow := (List.range n).map fun i : Nat => mrkTableRow (k + 3 * (i : Int))
theorem marksTableRow_len (k : Int) (n : Nat) : (marksTableRow k n).length = n := by simp [marksTableRow]
def halfTableRow (L : List TableRow) (k0 : Int) (k : Nat) : List TableRow := marksTableRow k0 k ++ L.drop k
theorem halfTableRow_len (L : List TableRow) (k0 : Int) (k : Nat) (h : k ≤ L.length) : (halfTableRow L k0 k).length = L.length := by simp [halfTableRow, marksTableRow_len]; omega
theorem halfTableRow_set (L : List TableRow) (k0 : Int) (k : Nat) (h : k < L.length) : ((halfTableRow L k0 k).map encTableRow).set k (encTableRow (mrkTableRow (k0 + 3 * (k : Int)))) = (halfTableRow L k0 (k + 1)).map encTableRow := by
  rw [← List.map_set]
  congr 1
  unfold halfTableRow
  rw [List.set_append, if_neg (by simp [marksTableRow_len]), marksTableRow_len, Nat.sub_self, List.drop_eq_getElem_cons h, List.set_cons_zero]
  simp [marksTableRow, List.range_succ]
noncomputable def cxMkTableRow : Cx := { P := Tryz.prog, tys := tys, C := [(67, kmarkT)], hty := tysOk, hC := COk.cons cmarkT (COk.nil _) }
theorem cxMkTableRow_t : cxMkTableRow.tys = tys := rfl
theorem cxMkTableRow_c : cxMkTableRow.C = [(67, kmarkT)] := rfl
attribute [local go_sem] cxMkTableRow_t cxMkTableRow_c kmarkT

def kmarkTableRowS : Ctr := len [0] [] (fun args obs => (decTableRow (oR obs 1000000), aI args 1)) (fun x => [.own 1000000, .v (.int .i64 x.2)]) (fun x => [(1000000, .sl 87 3 (x.1.map encTableRow))]) (fun x => x.1.length ≤ 4398046511104 ∧ 0 ≤ x.2 ∧ x.2 ≤ 500000000000000)
  (fun _ x => .v (.int .i64 (x.2 + 3 * x.1.length))) (fun _ _ => []) (fun x => [(1000000, .sl 87 3 ((marksTableRow x.2 x.1.length).map encTableRow))])
theorem cmarkTableRowS : Cn Tryz.prog 33 kmarkTableRowS := by
  refine Cn.len Tryz.func33 (by kernel_rfl) rfl fun d x hd hx => ?_
  obtain ⟨L, k0⟩ := x
  obtain ⟨hL, h0, h1⟩ := hx
  simp only at hL h0 h1 ⊢
  refine HoldsL.go (c := cxMkTableRow) Tryz.func33 rfl Tryz.results33 Tryz.ntmps33 (by omega) (by simp) rfl (by simp) (by simp [SV.owns2, SV.owns, SV.owns1]) (by simp) rfl rfl (by simp) ?_
  intro X0 M w0
  (repeat' (first | refine WP.seq ?_ | refine WP.block ?_ | ((first | refine WP.region ?_ | refine WP.condW ?_ | refine WP.ret ?_ | refine WP.exit ?_ | refine WP.skip ?_); simp only [go_sem, tyAll, Nat.reduceAdd, Nat.reduceLT, Nat.reduceLeDiff, Nat.reduceEqDiff, Nat.reduceMul, Nat.reduceSub, Nat.reduceGT, reduceIte, Int.reduceNeg, Int.reduceToNat]) |  refine And.intro ?_ ?_ | intro _))
  refine WP.loop (fun k : Nat => ⟨[(0, .own 1000000), (1, .v (.int .i64 (k0 + 3 * (k : Int)))), (5, .v (.int .i64 k))], [(1000000, .sl 87 3 ((halfTableRow L k0 k).map encTableRow))]⟩) (fun k => k ≤ L.length) (fun k => L.length - k) 0 (by omega) ?_ ?_
  · have e : halfTableRow L k0 0 = L := by simp [halfTableRow, marksTableRow]
    rw [e]; (simp only [go_sem, tyAll, Nat.reduceAdd, Nat.reduceLT, Nat.reduceLeDiff, Nat.reduceEqDiff, Nat.reduceMul, Nat.reduceSub, Nat.reduceGT, reduceIte, Int.reduceNeg, Int.reduceToNat] <;> (first | rfl | exact ⟨rfl, rfl⟩ | exact ⟨rfl, rfl, rfl⟩ | exact ⟨rfl, rfl, rfl, rfl⟩ | exact ⟨rfl, rfl, rfl, rfl, rfl⟩ | exact ⟨⟨rfl, rfl⟩, rfl⟩ | simp))
  intro k hk
  have h2 := halfTableRow_len L k0 k hk
  by_cases hlt : k < L.length
  · have h3 := halfTableRow_set L k0 k hlt
    rw [encTableRow, mrkTableRow] at h3
    simp only at h3
    have h4 := rowAt_map encTableRow (halfTableRow L k0 k) k (by omega)
    have h5 : ∀ r : List SV, Go.Vc.rowAt (((halfTableRow L k0 k).map encTableRow).set k r) k = r := fun r => rowAt_set _ _ _ (by rw [List.length_map]; omega)
    (repeat' (first | refine WP.seq ?_ | refine WP.block ?_ | ((first | refine WP.region ?_ | refine WP.condW ?_ | refine WP.ret ?_ | refine WP.exit ?_ | refine WP.skip ?_); simp only [go_sem, h2, h3, h4, h5, encTableRow, List.set_set, List.length_set, tyAll, Nat.reduceAdd, Nat.reduceLT, Nat.reduceLeDiff, Nat.reduceEqDiff, Nat.reduceMul, Nat.reduceSub, Nat.reduceGT, reduceIte, Int.reduceNeg, Int.reduceToNat]) |  refine And.intro ?_ ?_ | intro _))
    all_goals first | omega | skip
    refine ⟨k + 1, by omega, by omega, ⟨?_, rfl⟩, rfl⟩
    rw [show k0 + 3 * (k : Int) + 1 + 1 + 1 = k0 + 3 * ((k + 1 : Nat) : Int) by omega]
  · have h5 : halfTableRow L k0 k = marksTableRow k0 L.length := by rw [show k = L.length by omega]; simp [halfTableRow]
    have h6 := marksTableRow_len k0 L.length
    (repeat' (first | refine WP.seq ?_ | refine WP.block ?_ | ((first | refine WP.region ?_ | refine WP.condW ?_ | refine WP.ret ?_ | refine WP.exit ?_ | refine WP.skip ?_); simp only [go_sem, h2, h5, h6, tyAll, Nat.reduceAdd, Nat.reduceLT, Nat.reduceLeDiff, Nat.reduceEqDiff, Nat.reduceMul, Nat.reduceSub, Nat.reduceGT, reduceIte, Int.reduceNeg, Int.reduceToNat]) |  refine And.intro ?_ ?_ | intro _))
    all_goals first | omega | skip
    all_goals rw [show k = L.length by omega]

def kheldTableRowS : Ctr := pur (fun args => (decTableRow (aR args 0), aI args 1)) (fun x => [.sl 3 (x.1.map encTableRow), .v (.int .i64 x.2)]) (fun x => x.1.length ≤ 4398046511104 ∧ 0 ≤ x.2 ∧ x.2 ≤ 500000000000000)
  (fun _ x => .v (.int .i64 (if x.1 = marksTableRow x.2 x.1.length then x.2 + 3 * x.1.length else -1))) (fun _ _ => [])
theorem cheldTableRowS : Cn Tryz.prog 34 kheldTableRowS := by
  refine Cn.pur Tryz.func34 (by kernel_rfl) rfl fun d x hx => ?_
  obtain ⟨L, k0⟩ := x
  obtain ⟨hL, h0, h1⟩ := hx
  simp only at hL h0 h1 ⊢
  refine Holds.go (c := cxMkTableRow) Tryz.func34 rfl Tryz.results34 Tryz.ntmps34 (by omega) (by simp) rfl ?_
  intro X0 w0
  (repeat' (first | refine WP.seq ?_ | refine WP.block ?_ | ((first | refine WP.region ?_ | refine WP.condW ?_ | refine WP.ret ?_ | refine WP.exit ?_ | refine WP.skip ?_); simp only [go_sem, tyAll, Nat.reduceAdd, Nat.reduceLT, Nat.reduceLeDiff, Nat.reduceEqDiff, Nat.reduceMul, Nat.reduceSub, Nat.reduceGT, reduceIte, Int.reduceNeg, Int.reduceToNat]) | (refine WP.drawW 8 (by decide +kernel) (by kernel_rfl) ?_; simp only [go_sem, tyAll, Nat.reduceAdd, Nat.reduceLT, Nat.reduceLeDiff, Nat.reduceEqDiff, Nat.reduceMul, Nat.reduceSub, Nat.reduceGT, reduceIte, Int.reduceNeg, Int.reduceToNat]) |  refine And.intro ?_ ?_ | intro _))
  refine WP.loop (fun k : Nat => ⟨[(0, .sl 3 (L.map encTableRow)), (1, .v (.int .i64 (k0 + 3 * (k : Int)))), (5, .v (.int .i64 k))], []⟩) (fun k => k ≤ L.length ∧ L.take k = marksTableRow k0 k) (fun k => L.length - k) 0 (by simp [marksTableRow]) ?_ ?_
  · (simp only [go_sem, tyAll, Nat.reduceAdd, Nat.reduceLT, Nat.reduceLeDiff, Nat.reduceEqDiff, Nat.reduceMul, Nat.reduceSub, Nat.reduceGT, reduceIte, Int.reduceNeg, Int.reduceToNat] <;> (first | rfl | exact ⟨rfl, rfl⟩ | exact ⟨rfl, rfl, rfl⟩ | exact ⟨rfl, rfl, rfl, rfl⟩ | exact ⟨rfl, rfl, rfl, rfl, rfl⟩ | exact ⟨⟨rfl, rfl⟩, rfl⟩ | simp))
  intro k ⟨hk, ht⟩
  by_cases hlt : k < L.length
  · have h3 := rowAt_map encTableRow L k hlt
    (repeat' (first | refine WP.seq ?_ | refine WP.block ?_ | ((first | refine WP.region ?_ | refine WP.condW ?_ | refine WP.ret ?_ | refine WP.exit ?_ | refine WP.skip ?_); simp only [go_sem, h3, encTableRow, tyAll, Nat.reduceAdd, Nat.reduceLT, Nat.reduceLeDiff, Nat.reduceEqDiff, Nat.reduceMul, Nat.reduceSub, Nat.reduceGT, reduceIte, Int.reduceNeg, Int.reduceToNat]) | (refine WP.drawW 8 (by decide +kernel) (by kernel_rfl) ?_; simp only [go_sem, h3, encTableRow, tyAll, Nat.reduceAdd, Nat.reduceLT, Nat.reduceLeDiff, Nat.reduceEqDiff, Nat.reduceMul, Nat.reduceSub, Nat.reduceGT, reduceIte, Int.reduceNeg, Int.reduceToNat]) |  refine And.intro ?_ ?_ | intro _))
    all_goals first | omega | skip
    · rename_i hne
      rw [if_neg]
      intro e
      have e2 : L[k] = (marksTableRow k0 L.length)[k]'(by rw [marksTableRow_len]; exact hlt) := by congr 1
      exact hne (by rw [e2]; simp [marksTableRow, mrkTableRow])
    · rename_i hne
      rw [if_neg]
      intro e
      have e2 : L[k] = (marksTableRow k0 L.length)[k]'(by rw [marksTableRow_len]; exact hlt) := by congr 1
      exact hne (by rw [e2]; simp [marksTableRow, mrkTableRow])
    · rename_i hne
      rw [if_neg]
      intro e
      have e2 : L[k] = (marksTableRow k0 L.length)[k]'(by rw [marksTableRow_len]; exact hlt) := by congr 1
      exact hne (by rw [e2]; simp [marksTableRow, mrkTableRow])
    · rename_i g0 g1 g2
      refine ⟨k + 1, ⟨by omega, ?_⟩, by omega, ?_, rfl⟩
      · have he : L[k] = mrkTableRow (k0 + 3 * (k : Int)) := extTableRow g0 g1 g2
        rw [List.take_succ_eq_append_getElem hlt, ht, he]; simp [marksTableRow, List.range_succ]
      · rw [show k0 + 3 * (k : Int) + 1 + 1 + 1 = k0 + 3 * ((k + 1 : Nat) : Int) by omega]
  · (repeat' (first | refine WP.seq ?_ | refine WP.block ?_ | ((first | refine WP.region ?_ | refine WP.condW ?_ | refine WP.ret ?_ | refine WP.exit ?_ | refine WP.skip ?_); simp only [go_sem, tyAll, Nat.reduceAdd, Nat.reduceLT, Nat.reduceLeDiff, Nat.reduceEqDiff, Nat.reduceMul, Nat.reduceSub, Nat.reduceGT, reduceIte, Int.reduceNeg, Int.reduceToNat]) | (refine WP.drawW 8 (by decide +kernel) (by kernel_rfl) ?_; simp only [go_sem, tyAll, Nat.reduceAdd, Nat.reduceLT, Nat.reduceLeDiff, Nat.reduceEqDiff, Nat.reduceMul, Nat.reduceSub, Nat.reduceGT, reduceIte, Int.reduceNeg, Int.reduceToNat]) |  refine And.intro ?_ ?_ | intro _))
    all_goals first | omega | skip
    rw [show k = L.length by omega, List.take_length] at ht
    rw [if_pos ht, show k = L.length by omega]
end Go.Proofs.YtolnapfgfdgifaaGreatDoor

/-
  DERIVED. The law's function of TableOf returns true.
-/
namespace Go.Proofs.YtolnapfgfdgifaaGreatDoor
open Go.Vc
set_option linter.unusedSimpArgs false
set_option linter.unusedVariables false
set_option maxHeartbeats 1000000
set_option maxRecDepth 10000
attribute [local go_sem] St.runR St.runW St.stepV offV St.step St.stepU St.stepG mkCond guardB St.prK St.pr St.prLen St.eff St.callE St.callD St.callF St.callL aI aB aS aR aC St.isM St.argL Ctr.pure Ctr.lend Ctr.move Ctr.isL Ctr.wri pur len lentBy St.lentV St.lent1 nthS argsR restOf obsR pairs swapL unObs backL St.resL erL SV.ren1 SV.up SV.up2 Ob.up St.fzL cellIds partIds St.intoRow SV.ownId St.fz SV.fz1 St.prep St.mvL St.mv SV.re1 rnOk St.prEq vals eqCells scEq Value.kd St.prStr St.prCut cutR St.bnd St.prMin St.bld isShift outL retL outJ oR oC St.ev St.get St.put St.new St.kill SV.kill SV.kill1 Ob.kill St.app St.wrt St.rowsOf St.res St.killL lk er argsL SV.strip SV.need SV.share SV.share1 SV.owns SV.owns1 SV.owns2 SV.good SV.good1 SV.rok SV.rok1 SV.rok2 SV.isV SV.isV2 nodupN SV.cells SV.one SV.pur partsIn rowsIn splice cellsAt dstOk scal2 scal1 thenK blockK retK outK outs okC okL okA okT nilC nilL nilA nilT keepC keepL keepA keepT St.runG St.dltK St.least St.clean St.final St.hide offK badS badO SV.refs SV.leaf SV.leaf2 Ob.refs dlOk fpAt Go.Vc.cover tups SV.ofAgg St.out outC subL St.has rng wr Value.oneCell' Option.isSome_some Option.isSome_none List.nil_append Bool.false_eq_true List.map_cons List.map_nil List.all_cons List.all_nil List.length_cons List.length_nil List.drop_zero List.drop_succ_cons List.take_succ_cons List.take_zero List.drop_nil List.take_nil List.getElem?_cons_zero List.getElem?_cons_succ List.getElem?_nil List.cons_append List.nil_append List.append_nil List.append_assoc List.flatMap_cons List.flatMap_nil List.contains_cons List.contains_nil List.set_cons_zero List.set_cons_succ List.getElem?_toArray Option.getD_some Option.getD_none Option.map_some Option.map_none Option.bind_some Option.some.injEq Prod.mk.injEq if_true if_false true_and and_true and_self and_false false_and Bool.and_false Bool.false_and Bool.or_true Bool.true_or Bool.or_false Bool.false_or ne_eq not_true_eq_false not_false_eq_true decide_true decide_false List.mem_cons List.not_mem_nil List.filter_cons List.filter_nil List.any_cons List.any_nil List.isEmpty_nil List.isEmpty_cons Option.getD_none or_false false_or true_or or_true forall_eq_or_imp forall_eq reduceCtorEq exists_eq exists_eq' exists_eq_left' exists_eq_left exists_eq_right exists_eq_right' imp_self implies_true Bool.and_true Bool.true_and Bool.and_self beq_self_eq_true List.replicate_succ List.replicate_zero forall_const false_implies pickB_or pickB_and beqT beqF Int.toNat_natCast List.length_map List.length_replicate ge_iff_le gt_iff_lt decide_eq_true_eq decide_eq_false_iff_not Bool.and_eq_true Bool.or_eq_true Bool.not_eq_true' Bool.not_eq_false' condG List.toList_toArray Bool.or_eq_false_iff Bool.and_eq_false_iff Int.not_lt Int.not_le beq_iff_eq beq_eq_false_iff_ne bne_iff_ne bne_eq_false_iff_eq ne_eq Bool.not_true Bool.not_false exists_and_left
attribute [local irreducible] Go.Vc.WP
attribute [local go_sem] cx0_t cx0_c
attribute [local go_sem] isV_Node isV_It isV_TableRow decNode_enc decTableRow_enc decFrame_enc oneFrame_enc stkA oneFrame_ab oneNode_abc decI_enc prA encI_inj
open Go.Pl
theorem tableOf_len {N : List Node} {C : List Int} (hN : N.length ≤ 1048576) (hC : C.length ≤ 1048576) : (tableOf N C).length ≤ 1099511627776 := by
  unfold tableOf
  rw [insAll_len]
  have h1 := tabE_len (B := 1048576) (E := entriesOf N C) (fun e he => namesE_len hN he) (entriesOf N C).length (Nat.le_refl _)
  rw [List.take_length] at h1
  have h2 := entriesOf_len N C
  have h3 : 1048576 * (entriesOf N C).length ≤ 1048576 * 1048576 := Nat.mul_le_mul_left _ (by omega)
  omega
section
noncomputable def cxTbL : Cx := { P := Tryz.prog, tys := tys, C := [(12, kszPr), (14, ktoPr), (17, keqPr), (18, kmarkPr), (32, keqTableRowS), (33, kmarkTableRowS), (34, kheldTableRowS), (30, kTab), (31, kTab)], hty := tysOk, hC := COk.cons cszPr (COk.cons ctoPr (COk.cons ceqPr (COk.cons cmarkPr (COk.cons ceqTableRowS (COk.cons cmarkTableRowS (COk.cons cheldTableRowS (COk.cons cTabS (COk.cons cTabI (COk.nil _))))))))) }
theorem cxTbL_t : cxTbL.tys = tys := rfl
theorem cxTbL_c : cxTbL.C = [(12, kszPr), (14, ktoPr), (17, keqPr), (18, kmarkPr), (32, keqTableRowS), (33, kmarkTableRowS), (34, kheldTableRowS), (30, kTab), (31, kTab)] := rfl
attribute [local go_sem] cxTbL_t cxTbL_c kszPr ktoPr keqPr kmarkPr keqTableRowS kmarkTableRowS kheldTableRowS kTab
theorem lawTableOf (x : List Node × List Int) (hx : wfM x) : Holds Tryz.prog 7 [.agg [.sl 3 (x.1.map encNode), .sl 1 (x.2.map encI)]] (.v (.bool true)) [] := by
  obtain ⟨N, C⟩ := x
  obtain ⟨hN, hs, hC⟩ := hx
  simp only at hN hs hC ⊢
  refine Holds.go (c := cxTbL) Tryz.func7 rfl Tryz.results7 Tryz.ntmps7 (by omega) (by simp) rfl ?_
  intro X0 w0
  have key : 0 ≤ szvPr (N, C) 1048576 → (N.length ≤ 1048576 ∧ ∀ n ∈ N, n.name.size ≤ 1048576) ∧ C.length ≤ 1048576 := fun h => szvPr_ok (x := (N, C)) (l := 1048576) (Int.le_refl _) (Int.not_lt.2 h)
  have key1 : 0 ≤ szvPr (N, C) 1048576 → N.length ≤ 1048576 := fun h => (key h).1.1
  have key2 : 0 ≤ szvPr (N, C) 1048576 → C.length ≤ 1048576 := fun h => (key h).2
  have key3 : 0 ≤ szvPr (N, C) 1048576 → (tableOf N C).length ≤ 4398046511104 := fun h => by have := tableOf_len (key1 h) (key2 h); omega
  generalize hP : tableOf N C = P at key3
  have m1 := marksTableRow_len 1 P.length
  (repeat' (first | refine WP.seq ?_ | refine WP.block ?_ | ((first | refine WP.region ?_ | refine WP.condW ?_ | refine WP.ret ?_ | refine WP.exit ?_ | refine WP.skip ?_); simp only [go_sem, m1, hP, tyAll, Nat.reduceAdd, Nat.reduceLT, Nat.reduceLeDiff, Nat.reduceEqDiff, Nat.reduceMul, Nat.reduceSub, Nat.reduceGT, reduceIte, Int.reduceNeg, Int.reduceToNat]) | (refine WP.flowW 3 [⟨[5], [], [], [29, 1029], [], []⟩, ⟨[1], [], [], [29, 1029], [], []⟩, ⟨[28], [1], [], [], [], [29, 1029]⟩, ⟨[], [0, 1, 2], [], [], [], []⟩, ⟨[], [0, 1, 2, 3], [], [], [], []⟩] [27, 28, 29] [29, 1029] [] (by decide +kernel) (by kernel_rfl) (by kernel_rfl) (by kernel_rfl) ?_; simp only [go_sem, m1, hP, tyAll, Nat.reduceAdd, Nat.reduceLT, Nat.reduceLeDiff, Nat.reduceEqDiff, Nat.reduceMul, Nat.reduceSub, Nat.reduceGT, reduceIte, Int.reduceNeg, Int.reduceToNat]) |  refine And.intro ?_ ?_ | intro _))
  all_goals first | omega | exact ⟨_, _, _, rfl⟩ | exact hs _ ‹_› | exact Nat.le_trans (key1 ‹_›) (by omega) | exact Nat.le_trans (key2 ‹_›) (by omega) | exact Nat.le_trans ((key ‹_›).1.2 _ ‹_›) (by omega) | exact key3 ‹_› | skip
  all_goals trace_state
end
end Go.Proofs.YtolnapfgfdgifaaGreatDoor
