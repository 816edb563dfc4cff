/-
  DERIVED. Several texts of ours in one: VtNbI, VgEntryM, VtNbL.
-/
import Derived.Test.YtolnapfgfdgifaaGreatDoorVo0
import Derived.Test.YtolnapfgfdgifaaGreatDoorVo1
import Derived.Test.YtolnapfgfdgifaaGreatDoorVo2
import Derived.Test.YtolnapfgfdgifaaGreatDoorVo3
import Derived.Test.YtolnapfgfdgifaaGreatDoorVo4
import Derived.Test.YtolnapfgfdgifaaGreatDoorVo5
import Derived.Test.YtolnapfgfdgifaaGreatDoorVo6
import Derived.Test.YtolnapfgfdgifaaGreatDoorVo7
import Derived.Test.YtolnapfgfdgifaaGreatDoorVo8
import Derived.Test.YtolnapfgfdgifaaGreatDoorVo9
import Derived.Test.YtolnapfgfdgifaaGreatDoorVo10
import Derived.Test.YtolnapfgfdgifaaGreatDoorVo11
import Derived.Test.YtolnapfgfdgifaaGreatDoorVq12
set_option linter.unusedSimpArgs false
set_option linter.unusedVariables false
/-
  DERIVED. What stands beside a name, of the program.
-/
namespace Go.Proofs.YtolnapfgfdgifaaGreatDoor
open Go.Vc
set_option linter.unusedSimpArgs false
set_option linter.unusedVariables false
set_option maxHeartbeats 1000000
set_option maxRecDepth 10000
attribute [local go_sem] St.runR St.runW St.stepV offV St.step St.stepU St.stepG mkCond guardB St.prK St.pr St.prLen St.eff St.callE St.callD St.callF St.callL aI aB aS aR aC St.isM St.argL Ctr.pure Ctr.lend Ctr.move Ctr.isL Ctr.wri pur len lentBy St.lentV St.lent1 nthS argsR restOf obsR pairs swapL unObs backL St.resL erL SV.ren1 SV.up SV.up2 Ob.up St.fzL cellIds partIds St.intoRow SV.ownId St.fz SV.fz1 St.prep St.mvL St.mv SV.re1 rnOk St.prEq vals eqCells scEq Value.kd St.prStr St.prCut cutR St.bnd St.prMin St.bld isShift outL retL outJ oR oC St.ev St.get St.put St.new St.kill SV.kill SV.kill1 Ob.kill St.app St.wrt St.rowsOf St.res St.killL lk er argsL SV.strip SV.need SV.share SV.share1 SV.owns SV.owns1 SV.owns2 SV.good SV.good1 SV.rok SV.rok1 SV.rok2 SV.isV SV.isV2 nodupN SV.cells SV.one SV.pur partsIn rowsIn splice cellsAt dstOk scal2 scal1 thenK blockK retK outK outs okC okL okA okT nilC nilL nilA nilT keepC keepL keepA keepT St.runG St.dltK St.least St.clean St.final St.hide offK badS badO SV.refs SV.leaf SV.leaf2 Ob.refs dlOk fpAt Go.Vc.cover tups SV.ofAgg St.out outC subL St.has rng wr Value.oneCell' Option.isSome_some Option.isSome_none List.nil_append Bool.false_eq_true List.map_cons List.map_nil List.all_cons List.all_nil List.length_cons List.length_nil List.drop_zero List.drop_succ_cons List.take_succ_cons List.take_zero List.drop_nil List.take_nil List.getElem?_cons_zero List.getElem?_cons_succ List.getElem?_nil List.cons_append List.nil_append List.append_nil List.append_assoc List.flatMap_cons List.flatMap_nil List.contains_cons List.contains_nil List.set_cons_zero List.set_cons_succ List.getElem?_toArray Option.getD_some Option.getD_none Option.map_some Option.map_none Option.bind_some Option.some.injEq Prod.mk.injEq if_true if_false true_and and_true and_self and_false false_and Bool.and_false Bool.false_and Bool.or_true Bool.true_or Bool.or_false Bool.false_or ne_eq not_true_eq_false not_false_eq_true decide_true decide_false List.mem_cons List.not_mem_nil List.filter_cons List.filter_nil List.any_cons List.any_nil List.isEmpty_nil List.isEmpty_cons Option.getD_none or_false false_or true_or or_true forall_eq_or_imp forall_eq reduceCtorEq exists_eq exists_eq' exists_eq_left' exists_eq_left exists_eq_right exists_eq_right' imp_self implies_true Bool.and_true Bool.true_and Bool.and_self beq_self_eq_true List.replicate_succ List.replicate_zero forall_const false_implies pickB_or pickB_and beqT beqF Int.toNat_natCast List.length_map List.length_replicate ge_iff_le gt_iff_lt decide_eq_true_eq decide_eq_false_iff_not Bool.and_eq_true Bool.or_eq_true Bool.not_eq_true' Bool.not_eq_false' condG List.toList_toArray Bool.or_eq_false_iff Bool.and_eq_false_iff Int.not_lt Int.not_le beq_iff_eq beq_eq_false_iff_ne bne_iff_ne bne_eq_false_iff_eq ne_eq Bool.not_true Bool.not_false exists_and_left
attribute [local irreducible] Go.Vc.WP
attribute [local go_sem] cx0_t cx0_c
attribute [local go_sem] isV_Node isV_It isV_Entry isV_S decNode_enc decFrame_enc oneFrame_enc stkA oneFrame_ab oneNode_abc decI_enc decS_enc aU prA decEntry_enc St.fzS addL behind St.runO St.stepO capS
open Go.Pl
section
noncomputable def cxNbI : Cx := { P := Tryz.prog, tys := tys, C := [(52, kPrOk), (54, kEntZ), (71, kNamesZ), (53, k60), (73, kHasS), (107, kIdxE), (98, kSortN)], hty := tysOk, hC := COk.cons cPrOkI (COk.cons cEntZI (COk.cons cNamesI (COk.cons c60 (COk.cons cHasS (COk.cons cIdxE (COk.cons cSortN (COk.nil _))))))) }
theorem cxNbI_t : cxNbI.tys = tys := rfl
theorem cxNbI_c : cxNbI.C = [(52, kPrOk), (54, kEntZ), (71, kNamesZ), (53, k60), (73, kHasS), (107, kIdxE), (98, kSortN)] := rfl
attribute [local go_sem] cxNbI_t cxNbI_c kPrOk kEntZ kNamesZ k60 kHasS kIdxE kSortN
set_option maxHeartbeats 20000000 in
theorem cNbI : Cn Tryz.prog 65 kNb := by
  refine Cn.pur Tryz.func65 (by kernel_rfl) rfl fun d x hx => ?_
  obtain ⟨⟨N, C⟩, s, dd⟩ := x
  obtain ⟨⟨⟨hN, hs⟩, hC⟩, hd0, hd1⟩ := hx
  simp only at hN hs hC hd0 hd1 ⊢
  have hlen := entriesOf_len N C
  refine Holds.go (c := cxNbI) Tryz.func65 rfl Tryz.results65 Tryz.ntmps65 (by omega) (by simp) rfl ?_
  intro X0 w0
  cases hok : profileOk N C with
  | false =>
    have h0 : nbO s dd (entriesOf N C) = [] := by unfold entriesOf; rw [if_neg (by rw [hok]; simp)]; rfl
    (repeat' (first | refine WP.seq ?_ | refine WP.block ?_ | ((first | refine WP.region ?_ | refine WP.condW ?_ | refine WP.ret ?_ | refine WP.exit ?_ | refine WP.skip ?_); simp only [go_sem, hok, h0, tyAll, Nat.reduceAdd, Nat.reduceLT, Nat.reduceLeDiff, Nat.reduceEqDiff, Nat.reduceMul, Nat.reduceSub, Nat.reduceGT, reduceIte, Int.reduceNeg, Int.reduceToNat]) | (refine WP.flowW 7 [⟨[7], [], [], [], [], []⟩, ⟨[17], [], [], [], [], []⟩, ⟨[88, 89], [0, 1], [], [], [], []⟩, ⟨[90], [0, 1, 2], [], [], [], []⟩, ⟨[91], [0, 1, 2, 3], [], [], [], []⟩, ⟨[9], [], [], [], [], []⟩, ⟨[93], [5], [], [], [], []⟩, ⟨[], [0, 1, 2, 3, 4, 5, 6], [], [], [], []⟩, ⟨[], [0, 1, 2, 3, 4, 5, 6, 7], [], [], [], []⟩, ⟨[], [0, 1, 2, 3, 4, 5, 6, 7, 8], [], [], [], []⟩, ⟨[], [0, 1, 2, 3, 4, 5, 6, 7, 8, 9], [], [], [], []⟩] [88, 89, 90, 91, 92, 93, 94] [] [] (by decide +kernel) (by kernel_rfl) (by kernel_rfl) (by kernel_rfl) ?_; simp only [go_sem, hok, h0, tyAll, Nat.reduceAdd, Nat.reduceLT, Nat.reduceLeDiff, Nat.reduceEqDiff, Nat.reduceMul, Nat.reduceSub, Nat.reduceGT, reduceIte, Int.reduceNeg, Int.reduceToNat]) |  refine And.intro ?_ ?_ | intro _))
    all_goals first | omega | (simp only; omega) | exact Nat.le_trans (hs _ ‹_›) (by omega) | exact ⟨_, _, _, rfl⟩ | exact ⟨_, _, rfl⟩ | skip
    all_goals trace_state
  | true =>
  (repeat' (first | refine WP.seq ?_ | refine WP.block ?_ | ((first | refine WP.region ?_ | refine WP.condW ?_ | refine WP.ret ?_ | refine WP.exit ?_ | refine WP.skip ?_); simp only [go_sem, hok, tyAll, Nat.reduceAdd, Nat.reduceLT, Nat.reduceLeDiff, Nat.reduceEqDiff, Nat.reduceMul, Nat.reduceSub, Nat.reduceGT, reduceIte, Int.reduceNeg, Int.reduceToNat]) | (refine WP.flowW 7 [⟨[7], [], [], [], [], []⟩, ⟨[17], [], [], [], [], []⟩, ⟨[88, 89], [0, 1], [], [], [], []⟩, ⟨[90], [0, 1, 2], [], [], [], []⟩, ⟨[91], [0, 1, 2, 3], [], [], [], []⟩, ⟨[9], [], [], [], [], []⟩, ⟨[93], [5], [], [], [], []⟩, ⟨[], [0, 1, 2, 3, 4, 5, 6], [], [], [], []⟩, ⟨[], [0, 1, 2, 3, 4, 5, 6, 7], [], [], [], []⟩, ⟨[], [0, 1, 2, 3, 4, 5, 6, 7, 8], [], [], [], []⟩, ⟨[], [0, 1, 2, 3, 4, 5, 6, 7, 8, 9], [], [], [], []⟩] [88, 89, 90, 91, 92, 93, 94] [] [] (by decide +kernel) (by kernel_rfl) (by kernel_rfl) (by kernel_rfl) ?_; simp only [go_sem, hok, tyAll, Nat.reduceAdd, Nat.reduceLT, Nat.reduceLeDiff, Nat.reduceEqDiff, Nat.reduceMul, Nat.reduceSub, Nat.reduceGT, reduceIte, Int.reduceNeg, Int.reduceToNat]) |  refine And.intro ?_ ?_ | intro _))
  all_goals first | omega | (simp only; omega) | exact Nat.le_trans (hs _ ‹_›) (by omega) | exact ⟨_, _, _, rfl⟩ | skip
  refine WP.loop (fun k : Nat => ⟨[(1, .v (.string s)), (2, .v (.int .i64 dd)), (7, .own 21), (23, .sl 2 ((entriesOf N C).map encEntry)), (24, .v (.int .i64 (entriesOf N C).length)), (25, .v (.int .i64 k))], [(21, .sl 66 2 ((nbI s dd ((entriesOf N C).take k)).map encEntry))]⟩)
    (fun k => k ≤ (entriesOf N C).length) (fun k => (entriesOf N C).length - k) 0 (by simp) ?_ ?_
  · (simp only [go_sem, tyAll, Nat.reduceAdd, Nat.reduceLT, Nat.reduceLeDiff, Nat.reduceEqDiff, Nat.reduceMul, Nat.reduceSub, Nat.reduceGT, reduceIte, Int.reduceNeg, Int.reduceToNat] <;> (first | rfl | exact ⟨rfl, rfl⟩ | exact ⟨rfl, rfl, rfl⟩ | exact ⟨rfl, rfl, rfl, rfl⟩ | exact ⟨rfl, rfl, rfl, rfl, rfl⟩ | exact ⟨⟨rfl, rfl⟩, rfl⟩ | simp))
  intro k hk
  have hTl := nbI_len (B := 1048576) (s := s) (d := dd) (fun e he => namesE_len2 hN he) k hk
  have hTk : 1048576 * k ≤ 1048576 * 1048576 := Nat.mul_le_mul_left _ (by omega)
  by_cases hkl : k < (entriesOf N C).length
  rotate_left
  · have hge : ¬ (k : Int) < (entriesOf N C).length := by omega
    have hke : k = (entriesOf N C).length := by omega
    subst hke
    rw [List.take_length] at hTl ⊢
    obtain ⟨hio, hpr⟩ := nbIO s dd (entriesOf N C)
    rw [← hio]
    (repeat' (first | refine WP.seq ?_ | refine WP.block ?_ | ((first | refine WP.region ?_ | refine WP.condW ?_ | refine WP.ret ?_ | refine WP.exit ?_ | refine WP.skip ?_); simp only [go_sem, hge, tyAll, Nat.reduceAdd, Nat.reduceLT, Nat.reduceLeDiff, Nat.reduceEqDiff, Nat.reduceMul, Nat.reduceSub, Nat.reduceGT, reduceIte, Int.reduceNeg, Int.reduceToNat]) | (refine WP.flowW 7 [⟨[7], [], [], [], [], []⟩, ⟨[17], [], [], [], [], []⟩, ⟨[88, 89], [0, 1], [], [], [], []⟩, ⟨[90], [0, 1, 2], [], [], [], []⟩, ⟨[91], [0, 1, 2, 3], [], [], [], []⟩, ⟨[9], [], [], [], [], []⟩, ⟨[93], [5], [], [], [], []⟩, ⟨[], [0, 1, 2, 3, 4, 5, 6], [], [], [], []⟩, ⟨[], [0, 1, 2, 3, 4, 5, 6, 7], [], [], [], []⟩, ⟨[], [0, 1, 2, 3, 4, 5, 6, 7, 8], [], [], [], []⟩, ⟨[], [0, 1, 2, 3, 4, 5, 6, 7, 8, 9], [], [], [], []⟩] [88, 89, 90, 91, 92, 93, 94] [] [] (by decide +kernel) (by kernel_rfl) (by kernel_rfl) (by kernel_rfl) ?_; simp only [go_sem, hge, tyAll, Nat.reduceAdd, Nat.reduceLT, Nat.reduceLeDiff, Nat.reduceEqDiff, Nat.reduceMul, Nat.reduceSub, Nat.reduceGT, reduceIte, Int.reduceNeg, Int.reduceToNat]) |  refine And.intro ?_ ?_ | intro _))
    all_goals first | omega | exact hpr | skip
    all_goals trace_state
  have hki : (k : Int) < (entriesOf N C).length := by omega
  have hE := rowAt_map encEntry (entriesOf N C) k hkl
  have hmem := List.getElem_mem hkl
  obtain ⟨z1, z2, z3⟩ := ent_sizes hN hmem
  have hsu := nbI_succ s dd hkl
  have hnl := namesE_len2 hN hmem
  obtain ⟨hB, hS⟩ := nbF_bd (E := entriesOf N C) s dd ent_pos k (by omega) (entriesOf N C)[k].count
  have hR := nbI_rep s dd ((entriesOf N C).take k)
  have hc := ent_pos _ hmem
  have hss := sumE_succ hkl
  have hst := (sumE_take_le (E := entriesOf N C) ent_pos (k + 1)).2
  rw [sumE_entries] at hst
  have htb := totalOf_bound N C
  have hns : (frsS (entriesOf N C)[k].stack).map (fun x => x.name) = namesE (entriesOf N C)[k] := rfl
  unfold nearE at hsu
  generalize namesE (entriesOf N C)[k] = ns at hsu hnl hns
  generalize hcE : (entriesOf N C)[k].count = c at hB hc hss hsu
  generalize nbI s dd ((entriesOf N C).take k) = L at hR hsu hTl ⊢
  generalize nbF s dd ((entriesOf N C).take k) = fF at hB hR
  generalize sumE ((entriesOf N C).take k) = S at hB hS hss
  generalize sumE ((entriesOf N C).take (k + 1)) = S1 at hss hst
  (repeat' (first | refine WP.seq ?_ | refine WP.block ?_ | ((first | refine WP.region ?_ | refine WP.condW ?_ | refine WP.ret ?_ | refine WP.exit ?_ | refine WP.skip ?_); simp only [go_sem, hki, hE, encEntry, hns, hcE, tyAll, Nat.reduceAdd, Nat.reduceLT, Nat.reduceLeDiff, Nat.reduceEqDiff, Nat.reduceMul, Nat.reduceSub, Nat.reduceGT, reduceIte, Int.reduceNeg, Int.reduceToNat]) | (refine WP.flowW 7 [⟨[7], [], [], [], [], []⟩, ⟨[17], [], [], [], [], []⟩, ⟨[88, 89], [0, 1], [], [], [], []⟩, ⟨[90], [0, 1, 2], [], [], [], []⟩, ⟨[91], [0, 1, 2, 3], [], [], [], []⟩, ⟨[9], [], [], [], [], []⟩, ⟨[93], [5], [], [], [], []⟩, ⟨[], [0, 1, 2, 3, 4, 5, 6], [], [], [], []⟩, ⟨[], [0, 1, 2, 3, 4, 5, 6, 7], [], [], [], []⟩, ⟨[], [0, 1, 2, 3, 4, 5, 6, 7, 8], [], [], [], []⟩, ⟨[], [0, 1, 2, 3, 4, 5, 6, 7, 8, 9], [], [], [], []⟩] [88, 89, 90, 91, 92, 93, 94] [] [] (by decide +kernel) (by kernel_rfl) (by kernel_rfl) (by kernel_rfl) ?_; simp only [go_sem, hki, hE, encEntry, hns, hcE, tyAll, Nat.reduceAdd, Nat.reduceLT, Nat.reduceLeDiff, Nat.reduceEqDiff, Nat.reduceMul, Nat.reduceSub, Nat.reduceGT, reduceIte, Int.reduceNeg, Int.reduceToNat]) |  refine And.intro ?_ ?_ | intro _))
  all_goals first | omega | exact ⟨_, _, _, rfl⟩ | skip
  refine WP.loop (fun i : Nat => ⟨[(1, .v (.string s)), (2, .v (.int .i64 dd)), (7, .own 21), (9, .ptr 9 0 0 0), (10, .sl 1 (ns.map encS)), (11, .own 32), (23, .sl 2 ((entriesOf N C).map encEntry)), (24, .v (.int .i64 (entriesOf N C).length)), (25, .v (.int .i64 k)), (33, .sl 1 (ns.map encS)), (34, .v (.int .i64 ns.length)), (35, .v (.int .i64 i))],
      [(9, .box 66 [.v (.string (entriesOf N C)[k].stack), .v (.int .i64 c)]), (21, .sl 66 2 (L.map encEntry)), (32, .sl 9 1 ((nearK s dd ns i).map encS))]⟩) (fun i => i ≤ ns.length) (fun i => ns.length - i) 0 (by simp) ?_ ?_
  · (simp only [go_sem, tyAll, Nat.reduceAdd, Nat.reduceLT, Nat.reduceLeDiff, Nat.reduceEqDiff, Nat.reduceMul, Nat.reduceSub, Nat.reduceGT, reduceIte, Int.reduceNeg, Int.reduceToNat] <;> (first | rfl | exact ⟨rfl, rfl⟩ | exact ⟨rfl, rfl, rfl⟩ | exact ⟨rfl, rfl, rfl, rfl⟩ | exact ⟨rfl, rfl, rfl, rfl, rfl⟩ | exact ⟨⟨rfl, rfl⟩, rfl⟩ | simp))
  intro i hi
  by_cases hlt : i < ns.length
  · have hli : (i : Int) < ns.length := by omega
    have h1 := rowAt_map encS ns i hlt
    have hkk := nearK_len s dd ns i
    by_cases hcond : ns[i] = s ∧ 0 ≤ (i : Int) + dd ∧ (i : Int) + dd < ns.length
    rotate_left
    · have hno := near_no (d := dd) hlt hcond
      have hro : (∃ t, Go.Vc.rowAt (ns.map encS) ((i : Int) + dd).toNat = [SV.v (.string t)]) ∨ Go.Vc.rowAt (ns.map encS) ((i : Int) + dd).toNat = [] := by
        by_cases hz : ((i : Int) + dd).toNat < ns.length
        · exact .inl ⟨_, rowAt_map encS ns _ hz⟩
        · right; unfold Go.Vc.rowAt; rw [List.getElem?_eq_none (by rw [List.length_map]; omega)]; rfl
      rcases hro with ⟨t, ht⟩ | ht
      all_goals
        by_cases q1 : ns[i] = s
        · by_cases q2 : 0 ≤ (i : Int) + dd
          · have q3 : ¬ (i : Int) + dd ≤ (ns.length : Int) - 1 := fun h => hcond ⟨q1, q2, by omega⟩
            (repeat' (first | (refine WP.regionO (id := 13) ?_; simp only [go_sem, hli, h1, encS, q1, q2, q3, ht, tyAll, Nat.reduceAdd, Nat.reduceLT, Nat.reduceLeDiff, Nat.reduceEqDiff, Nat.reduceMul, Nat.reduceSub, Nat.reduceGT, reduceIte, Int.reduceNeg, Int.reduceToNat]) | refine WP.seq ?_ | refine WP.block ?_ | ((first | refine WP.region ?_ | refine WP.condW ?_ | refine WP.ret ?_ | refine WP.exit ?_ | refine WP.skip ?_); simp only [go_sem, hli, h1, encS, q1, q2, q3, ht, tyAll, Nat.reduceAdd, Nat.reduceLT, Nat.reduceLeDiff, Nat.reduceEqDiff, Nat.reduceMul, Nat.reduceSub, Nat.reduceGT, reduceIte, Int.reduceNeg, Int.reduceToNat]) | (refine WP.flowW 7 [⟨[7], [], [], [], [], []⟩, ⟨[17], [], [], [], [], []⟩, ⟨[88, 89], [0, 1], [], [], [], []⟩, ⟨[90], [0, 1, 2], [], [], [], []⟩, ⟨[91], [0, 1, 2, 3], [], [], [], []⟩, ⟨[9], [], [], [], [], []⟩, ⟨[93], [5], [], [], [], []⟩, ⟨[], [0, 1, 2, 3, 4, 5, 6], [], [], [], []⟩, ⟨[], [0, 1, 2, 3, 4, 5, 6, 7], [], [], [], []⟩, ⟨[], [0, 1, 2, 3, 4, 5, 6, 7, 8], [], [], [], []⟩, ⟨[], [0, 1, 2, 3, 4, 5, 6, 7, 8, 9], [], [], [], []⟩] [88, 89, 90, 91, 92, 93, 94] [] [] (by decide +kernel) (by kernel_rfl) (by kernel_rfl) (by kernel_rfl) ?_; simp only [go_sem, hli, h1, encS, q1, q2, q3, ht, tyAll, Nat.reduceAdd, Nat.reduceLT, Nat.reduceLeDiff, Nat.reduceEqDiff, Nat.reduceMul, Nat.reduceSub, Nat.reduceGT, reduceIte, Int.reduceNeg, Int.reduceToNat]) |  refine And.intro ?_ ?_ | intro _))
            all_goals first | omega | skip
            all_goals first | exact ⟨i + 1, by omega, by omega, by simp only [hno]; (first | rfl | exact ⟨rfl, rfl⟩ | exact ⟨rfl, rfl, rfl⟩ | exact ⟨rfl, rfl, rfl, rfl⟩ | exact ⟨rfl, rfl, rfl, rfl, rfl⟩ | exact ⟨⟨rfl, rfl⟩, rfl⟩ | simp)⟩ | trace_state
          · (repeat' (first | (refine WP.regionO (id := 13) ?_; simp only [go_sem, hli, h1, encS, q1, q2, ht, tyAll, Nat.reduceAdd, Nat.reduceLT, Nat.reduceLeDiff, Nat.reduceEqDiff, Nat.reduceMul, Nat.reduceSub, Nat.reduceGT, reduceIte, Int.reduceNeg, Int.reduceToNat]) | refine WP.seq ?_ | refine WP.block ?_ | ((first | refine WP.region ?_ | refine WP.condW ?_ | refine WP.ret ?_ | refine WP.exit ?_ | refine WP.skip ?_); simp only [go_sem, hli, h1, encS, q1, q2, ht, tyAll, Nat.reduceAdd, Nat.reduceLT, Nat.reduceLeDiff, Nat.reduceEqDiff, Nat.reduceMul, Nat.reduceSub, Nat.reduceGT, reduceIte, Int.reduceNeg, Int.reduceToNat]) | (refine WP.flowW 7 [⟨[7], [], [], [], [], []⟩, ⟨[17], [], [], [], [], []⟩, ⟨[88, 89], [0, 1], [], [], [], []⟩, ⟨[90], [0, 1, 2], [], [], [], []⟩, ⟨[91], [0, 1, 2, 3], [], [], [], []⟩, ⟨[9], [], [], [], [], []⟩, ⟨[93], [5], [], [], [], []⟩, ⟨[], [0, 1, 2, 3, 4, 5, 6], [], [], [], []⟩, ⟨[], [0, 1, 2, 3, 4, 5, 6, 7], [], [], [], []⟩, ⟨[], [0, 1, 2, 3, 4, 5, 6, 7, 8], [], [], [], []⟩, ⟨[], [0, 1, 2, 3, 4, 5, 6, 7, 8, 9], [], [], [], []⟩] [88, 89, 90, 91, 92, 93, 94] [] [] (by decide +kernel) (by kernel_rfl) (by kernel_rfl) (by kernel_rfl) ?_; simp only [go_sem, hli, h1, encS, q1, q2, ht, tyAll, Nat.reduceAdd, Nat.reduceLT, Nat.reduceLeDiff, Nat.reduceEqDiff, Nat.reduceMul, Nat.reduceSub, Nat.reduceGT, reduceIte, Int.reduceNeg, Int.reduceToNat]) |  refine And.intro ?_ ?_ | intro _))
            all_goals first | omega | skip
            all_goals first | exact ⟨i + 1, by omega, by omega, by simp only [hno]; (first | rfl | exact ⟨rfl, rfl⟩ | exact ⟨rfl, rfl, rfl⟩ | exact ⟨rfl, rfl, rfl, rfl⟩ | exact ⟨rfl, rfl, rfl, rfl, rfl⟩ | exact ⟨⟨rfl, rfl⟩, rfl⟩ | simp)⟩ | trace_state
        · (repeat' (first | (refine WP.regionO (id := 13) ?_; simp only [go_sem, hli, h1, encS, q1, ht, tyAll, Nat.reduceAdd, Nat.reduceLT, Nat.reduceLeDiff, Nat.reduceEqDiff, Nat.reduceMul, Nat.reduceSub, Nat.reduceGT, reduceIte, Int.reduceNeg, Int.reduceToNat]) | refine WP.seq ?_ | refine WP.block ?_ | ((first | refine WP.region ?_ | refine WP.condW ?_ | refine WP.ret ?_ | refine WP.exit ?_ | refine WP.skip ?_); simp only [go_sem, hli, h1, encS, q1, ht, tyAll, Nat.reduceAdd, Nat.reduceLT, Nat.reduceLeDiff, Nat.reduceEqDiff, Nat.reduceMul, Nat.reduceSub, Nat.reduceGT, reduceIte, Int.reduceNeg, Int.reduceToNat]) | (refine WP.flowW 7 [⟨[7], [], [], [], [], []⟩, ⟨[17], [], [], [], [], []⟩, ⟨[88, 89], [0, 1], [], [], [], []⟩, ⟨[90], [0, 1, 2], [], [], [], []⟩, ⟨[91], [0, 1, 2, 3], [], [], [], []⟩, ⟨[9], [], [], [], [], []⟩, ⟨[93], [5], [], [], [], []⟩, ⟨[], [0, 1, 2, 3, 4, 5, 6], [], [], [], []⟩, ⟨[], [0, 1, 2, 3, 4, 5, 6, 7], [], [], [], []⟩, ⟨[], [0, 1, 2, 3, 4, 5, 6, 7, 8], [], [], [], []⟩, ⟨[], [0, 1, 2, 3, 4, 5, 6, 7, 8, 9], [], [], [], []⟩] [88, 89, 90, 91, 92, 93, 94] [] [] (by decide +kernel) (by kernel_rfl) (by kernel_rfl) (by kernel_rfl) ?_; simp only [go_sem, hli, h1, encS, q1, ht, tyAll, Nat.reduceAdd, Nat.reduceLT, Nat.reduceLeDiff, Nat.reduceEqDiff, Nat.reduceMul, Nat.reduceSub, Nat.reduceGT, reduceIte, Int.reduceNeg, Int.reduceToNat]) |  refine And.intro ?_ ?_ | intro _))
          all_goals first | omega | skip
          all_goals first | exact ⟨i + 1, by omega, by omega, by simp only [hno]; (first | rfl | exact ⟨rfl, rfl⟩ | exact ⟨rfl, rfl, rfl⟩ | exact ⟨rfl, rfl, rfl, rfl⟩ | exact ⟨rfl, rfl, rfl, rfl, rfl⟩ | exact ⟨⟨rfl, rfl⟩, rfl⟩ | simp)⟩ | trace_state
    obtain ⟨q1, q2, q3⟩ := hcond
    obtain ⟨j, hj⟩ : ∃ j : Nat, (j : Int) = (i : Int) + dd := ⟨((i : Int) + dd).toNat, by omega⟩
    have hjl : j < ns.length := by omega
    have hjt : ((i : Int) + dd).toNat = j := by omega
    have hrj := rowAt_map encS ns j hjl
    have q3' : (i : Int) + dd ≤ (ns.length : Int) - 1 := by omega
    by_cases hin : ns[j] ∈ nearK s dd ns i
    · have hno := near_old hlt hjl hj hin
      (repeat' (first | (refine WP.regionO (id := 13) ?_; simp only [go_sem, hli, h1, hrj, encS, q1, q2, q3', hjt, hin, tyAll, Nat.reduceAdd, Nat.reduceLT, Nat.reduceLeDiff, Nat.reduceEqDiff, Nat.reduceMul, Nat.reduceSub, Nat.reduceGT, reduceIte, Int.reduceNeg, Int.reduceToNat]) | refine WP.seq ?_ | refine WP.block ?_ | ((first | refine WP.region ?_ | refine WP.condW ?_ | refine WP.ret ?_ | refine WP.exit ?_ | refine WP.skip ?_); simp only [go_sem, hli, h1, hrj, encS, q1, q2, q3', hjt, hin, tyAll, Nat.reduceAdd, Nat.reduceLT, Nat.reduceLeDiff, Nat.reduceEqDiff, Nat.reduceMul, Nat.reduceSub, Nat.reduceGT, reduceIte, Int.reduceNeg, Int.reduceToNat]) | (refine WP.flowW 7 [⟨[7], [], [], [], [], []⟩, ⟨[17], [], [], [], [], []⟩, ⟨[88, 89], [0, 1], [], [], [], []⟩, ⟨[90], [0, 1, 2], [], [], [], []⟩, ⟨[91], [0, 1, 2, 3], [], [], [], []⟩, ⟨[9], [], [], [], [], []⟩, ⟨[93], [5], [], [], [], []⟩, ⟨[], [0, 1, 2, 3, 4, 5, 6], [], [], [], []⟩, ⟨[], [0, 1, 2, 3, 4, 5, 6, 7], [], [], [], []⟩, ⟨[], [0, 1, 2, 3, 4, 5, 6, 7, 8], [], [], [], []⟩, ⟨[], [0, 1, 2, 3, 4, 5, 6, 7, 8, 9], [], [], [], []⟩] [88, 89, 90, 91, 92, 93, 94] [] [] (by decide +kernel) (by kernel_rfl) (by kernel_rfl) (by kernel_rfl) ?_; simp only [go_sem, hli, h1, hrj, encS, q1, q2, q3', hjt, hin, tyAll, Nat.reduceAdd, Nat.reduceLT, Nat.reduceLeDiff, Nat.reduceEqDiff, Nat.reduceMul, Nat.reduceSub, Nat.reduceGT, reduceIte, Int.reduceNeg, Int.reduceToNat]) |  refine And.intro ?_ ?_ | intro _))
      all_goals first | omega | skip
      all_goals first | exact ⟨i + 1, by omega, by omega, by simp only [hno]; (first | rfl | exact ⟨rfl, rfl⟩ | exact ⟨rfl, rfl, rfl⟩ | exact ⟨rfl, rfl, rfl, rfl⟩ | exact ⟨rfl, rfl, rfl, rfl, rfl⟩ | exact ⟨⟨rfl, rfl⟩, rfl⟩ | simp)⟩ | trace_state
    · have hnew := near_new hlt hjl hj q1 hin
      have hsn : (nearK s dd ns i).map encS ++ [[SV.v (.string ns[j])]] = (nearK s dd ns (i + 1)).map encS := by rw [hnew, List.map_append]; rfl
      (repeat' (first | (refine WP.regionO (id := 13) ?_; simp only [go_sem, hli, h1, hrj, encS, q1, q2, q3', hjt, hin, hsn, tyAll, Nat.reduceAdd, Nat.reduceLT, Nat.reduceLeDiff, Nat.reduceEqDiff, Nat.reduceMul, Nat.reduceSub, Nat.reduceGT, reduceIte, Int.reduceNeg, Int.reduceToNat]) | refine WP.seq ?_ | refine WP.block ?_ | ((first | refine WP.region ?_ | refine WP.condW ?_ | refine WP.ret ?_ | refine WP.exit ?_ | refine WP.skip ?_); simp only [go_sem, hli, h1, hrj, encS, q1, q2, q3', hjt, hin, hsn, tyAll, Nat.reduceAdd, Nat.reduceLT, Nat.reduceLeDiff, Nat.reduceEqDiff, Nat.reduceMul, Nat.reduceSub, Nat.reduceGT, reduceIte, Int.reduceNeg, Int.reduceToNat]) | (refine WP.flowW 7 [⟨[7], [], [], [], [], []⟩, ⟨[17], [], [], [], [], []⟩, ⟨[88, 89], [0, 1], [], [], [], []⟩, ⟨[90], [0, 1, 2], [], [], [], []⟩, ⟨[91], [0, 1, 2, 3], [], [], [], []⟩, ⟨[9], [], [], [], [], []⟩, ⟨[93], [5], [], [], [], []⟩, ⟨[], [0, 1, 2, 3, 4, 5, 6], [], [], [], []⟩, ⟨[], [0, 1, 2, 3, 4, 5, 6, 7], [], [], [], []⟩, ⟨[], [0, 1, 2, 3, 4, 5, 6, 7, 8], [], [], [], []⟩, ⟨[], [0, 1, 2, 3, 4, 5, 6, 7, 8, 9], [], [], [], []⟩] [88, 89, 90, 91, 92, 93, 94] [] [] (by decide +kernel) (by kernel_rfl) (by kernel_rfl) (by kernel_rfl) ?_; simp only [go_sem, hli, h1, hrj, encS, q1, q2, q3', hjt, hin, hsn, tyAll, Nat.reduceAdd, Nat.reduceLT, Nat.reduceLeDiff, Nat.reduceEqDiff, Nat.reduceMul, Nat.reduceSub, Nat.reduceGT, reduceIte, Int.reduceNeg, Int.reduceToNat]) |  refine And.intro ?_ ?_ | intro _))
      all_goals first | omega | exact ⟨_, _, _, rfl⟩ | (simp only [List.length_map]; omega) | skip
      all_goals first | exact ⟨i + 1, by omega, by omega, by (first | rfl | exact ⟨rfl, rfl⟩ | exact ⟨rfl, rfl, rfl⟩ | exact ⟨rfl, rfl, rfl, rfl⟩ | exact ⟨rfl, rfl, rfl, rfl, rfl⟩ | exact ⟨⟨rfl, rfl⟩, rfl⟩ | simp)⟩ | trace_state
  have hge : ¬ (i : Int) < ns.length := by omega
  have hie : i = ns.length := by omega
  have hnd := nearK_nodup s dd ns ns.length
  have hNl := nearK_len s dd ns ns.length
  subst hie
  generalize nearK s dd ns ns.length = K at hnd hNl hsu ⊢
  (repeat' (first | refine WP.seq ?_ | refine WP.block ?_ | ((first | refine WP.region ?_ | refine WP.condW ?_ | refine WP.ret ?_ | refine WP.exit ?_ | refine WP.skip ?_); simp only [go_sem, hge, tyAll, Nat.reduceAdd, Nat.reduceLT, Nat.reduceLeDiff, Nat.reduceEqDiff, Nat.reduceMul, Nat.reduceSub, Nat.reduceGT, reduceIte, Int.reduceNeg, Int.reduceToNat]) | (refine WP.flowW 7 [⟨[7], [], [], [], [], []⟩, ⟨[17], [], [], [], [], []⟩, ⟨[88, 89], [0, 1], [], [], [], []⟩, ⟨[90], [0, 1, 2], [], [], [], []⟩, ⟨[91], [0, 1, 2, 3], [], [], [], []⟩, ⟨[9], [], [], [], [], []⟩, ⟨[93], [5], [], [], [], []⟩, ⟨[], [0, 1, 2, 3, 4, 5, 6], [], [], [], []⟩, ⟨[], [0, 1, 2, 3, 4, 5, 6, 7], [], [], [], []⟩, ⟨[], [0, 1, 2, 3, 4, 5, 6, 7, 8], [], [], [], []⟩, ⟨[], [0, 1, 2, 3, 4, 5, 6, 7, 8, 9], [], [], [], []⟩] [88, 89, 90, 91, 92, 93, 94] [] [] (by decide +kernel) (by kernel_rfl) (by kernel_rfl) (by kernel_rfl) ?_; simp only [go_sem, hge, tyAll, Nat.reduceAdd, Nat.reduceLT, Nat.reduceLeDiff, Nat.reduceEqDiff, Nat.reduceMul, Nat.reduceSub, Nat.reduceGT, reduceIte, Int.reduceNeg, Int.reduceToNat]) |  refine And.intro ?_ ?_ | intro _))
  all_goals first | omega | skip
  refine WP.loop (fun t : Nat => ⟨[(1, .v (.string s)), (2, .v (.int .i64 dd)), (7, .own 21), (9, .ptr 9 0 0 0), (23, .sl 2 ((entriesOf N C).map encEntry)), (24, .v (.int .i64 (entriesOf N C).length)), (25, .v (.int .i64 k)), (70, .own 32), (71, .v (.int .i64 K.length)), (72, .v (.int .i64 t))],
      [(9, .box 66 [.v (.string (entriesOf N C)[k].stack), .v (.int .i64 c)]), (21, .sl 66 2 ((addI c (K.take t) L).map encEntry)), (32, .sl 9 1 (K.map encS))]⟩) (fun t => t ≤ K.length) (fun t => K.length - t) 0 (by simp) ?_ ?_
  · (simp only [go_sem, tyAll, Nat.reduceAdd, Nat.reduceLT, Nat.reduceLeDiff, Nat.reduceEqDiff, Nat.reduceMul, Nat.reduceSub, Nat.reduceGT, reduceIte, Int.reduceNeg, Int.reduceToNat] <;> (first | rfl | exact ⟨rfl, rfl⟩ | exact ⟨rfl, rfl, rfl⟩ | exact ⟨rfl, rfl, rfl, rfl⟩ | exact ⟨rfl, rfl, rfl, rfl, rfl⟩ | exact ⟨⟨rfl, rfl⟩, rfl⟩ | simp))
  intro t ht
  have hOl := addI_len c (K.take t) L
  rw [List.length_take] at hOl
  by_cases htl : t < K.length
  rotate_left
  · have htg : ¬ (t : Int) < K.length := by omega
    have hte : t = K.length := by omega
    subst hte
    rw [List.take_length] at hOl ⊢
    (repeat' (first | refine WP.seq ?_ | refine WP.block ?_ | ((first | refine WP.region ?_ | refine WP.condW ?_ | refine WP.ret ?_ | refine WP.exit ?_ | refine WP.skip ?_); simp only [go_sem, htg, tyAll, Nat.reduceAdd, Nat.reduceLT, Nat.reduceLeDiff, Nat.reduceEqDiff, Nat.reduceMul, Nat.reduceSub, Nat.reduceGT, reduceIte, Int.reduceNeg, Int.reduceToNat]) | (refine WP.flowW 7 [⟨[7], [], [], [], [], []⟩, ⟨[17], [], [], [], [], []⟩, ⟨[88, 89], [0, 1], [], [], [], []⟩, ⟨[90], [0, 1, 2], [], [], [], []⟩, ⟨[91], [0, 1, 2, 3], [], [], [], []⟩, ⟨[9], [], [], [], [], []⟩, ⟨[93], [5], [], [], [], []⟩, ⟨[], [0, 1, 2, 3, 4, 5, 6], [], [], [], []⟩, ⟨[], [0, 1, 2, 3, 4, 5, 6, 7], [], [], [], []⟩, ⟨[], [0, 1, 2, 3, 4, 5, 6, 7, 8], [], [], [], []⟩, ⟨[], [0, 1, 2, 3, 4, 5, 6, 7, 8, 9], [], [], [], []⟩] [88, 89, 90, 91, 92, 93, 94] [] [] (by decide +kernel) (by kernel_rfl) (by kernel_rfl) (by kernel_rfl) ?_; simp only [go_sem, htg, tyAll, Nat.reduceAdd, Nat.reduceLT, Nat.reduceLeDiff, Nat.reduceEqDiff, Nat.reduceMul, Nat.reduceSub, Nat.reduceGT, reduceIte, Int.reduceNeg, Int.reduceToNat]) |  refine And.intro ?_ ?_ | intro _))
    all_goals first | omega | skip
    all_goals first | exact ⟨k + 1, by omega, by omega, by simp only [hsu]; (first | rfl | exact ⟨rfl, rfl⟩ | exact ⟨rfl, rfl, rfl⟩ | exact ⟨rfl, rfl, rfl, rfl⟩ | exact ⟨rfl, rfl, rfl, rfl, rfl⟩ | exact ⟨⟨rfl, rfl⟩, rfl⟩ | simp)⟩ | trace_state
  have hti : (t : Int) < K.length := by omega
  have hrK := rowAt_map encS K t htl
  have hadd := addI_succ c htl L
  have hR1 := addI_rep c (K.take t) hR
  have hnt : (K.take t).Nodup := (List.take_sublist t K).nodup hnd
  have hnot : K[t] ∉ K.take t := fun hm => by
    obtain ⟨y, hy, he⟩ := List.mem_take_iff_getElem.1 hm
    exact (List.pairwise_iff_getElem.1 hnd) y t (by omega) htl (by omega) he
  have hroom : ∀ e ∈ addI c (K.take t) L, e.stack = K[t] → 0 ≤ e.count ∧ e.count ≤ S := fun e he hs => room_rep hc hS hB hnt hR1 he (by rw [hs]; exact hnot)
  have hr16 : Go.Vc.rowAt [[SV.v (Value.string K[t])]] 0 = [SV.v (Value.string K[t])] := rfl
  generalize addI c (K.take t) L = O at hOl hadd hR1 hroom ⊢
  by_cases hidx : firstIdx (isAt K[t]) O < 0
  · have hbn := bump_new (c := c) hidx
    rw [← hadd] at hbn
    (repeat' (first | refine WP.seq ?_ | refine WP.block ?_ | ((first | refine WP.region ?_ | refine WP.condW ?_ | refine WP.ret ?_ | refine WP.exit ?_ | refine WP.skip ?_); simp only [go_sem, hti, hrK, encS, hr16, hidx, hbn, tyAll, Nat.reduceAdd, Nat.reduceLT, Nat.reduceLeDiff, Nat.reduceEqDiff, Nat.reduceMul, Nat.reduceSub, Nat.reduceGT, reduceIte, Int.reduceNeg, Int.reduceToNat]) | (refine WP.flowW 7 [⟨[7], [], [], [], [], []⟩, ⟨[17], [], [], [], [], []⟩, ⟨[88, 89], [0, 1], [], [], [], []⟩, ⟨[90], [0, 1, 2], [], [], [], []⟩, ⟨[91], [0, 1, 2, 3], [], [], [], []⟩, ⟨[9], [], [], [], [], []⟩, ⟨[93], [5], [], [], [], []⟩, ⟨[], [0, 1, 2, 3, 4, 5, 6], [], [], [], []⟩, ⟨[], [0, 1, 2, 3, 4, 5, 6, 7], [], [], [], []⟩, ⟨[], [0, 1, 2, 3, 4, 5, 6, 7, 8], [], [], [], []⟩, ⟨[], [0, 1, 2, 3, 4, 5, 6, 7, 8, 9], [], [], [], []⟩] [88, 89, 90, 91, 92, 93, 94] [] [] (by decide +kernel) (by kernel_rfl) (by kernel_rfl) (by kernel_rfl) ?_; simp only [go_sem, hti, hrK, encS, hr16, hidx, hbn, tyAll, Nat.reduceAdd, Nat.reduceLT, Nat.reduceLeDiff, Nat.reduceEqDiff, Nat.reduceMul, Nat.reduceSub, Nat.reduceGT, reduceIte, Int.reduceNeg, Int.reduceToNat]) |  refine And.intro ?_ ?_ | intro _))
    all_goals first | omega | exact ⟨_, _, _, rfl⟩ | (simp only [List.length_map]; omega) | skip
    all_goals first | exact ⟨t + 1, by omega, by omega, by (first | rfl | exact ⟨rfl, rfl⟩ | exact ⟨rfl, rfl, rfl⟩ | exact ⟨rfl, rfl, rfl, rfl⟩ | exact ⟨rfl, rfl, rfl, rfl, rfl⟩ | exact ⟨⟨rfl, rfl⟩, rfl⟩ | simp)⟩ | trace_state
  · obtain ⟨p, hp, hfi, hst2, hset⟩ := bump_old (c := c) hidx
    rw [← hadd] at hset
    have hO := rowAt_map encEntry O p hp
    have hrm := hroom O[p] (List.getElem_mem hp) hst2
    have hpn : ¬ (p : Int) < 0 := by omega
    (repeat' (first | refine WP.seq ?_ | refine WP.block ?_ | ((first | refine WP.region ?_ | refine WP.condW ?_ | refine WP.ret ?_ | refine WP.exit ?_ | refine WP.skip ?_); simp only [go_sem, hti, hrK, encS, encEntry, hr16, hfi, hpn, hO, hset, tyAll, Nat.reduceAdd, Nat.reduceLT, Nat.reduceLeDiff, Nat.reduceEqDiff, Nat.reduceMul, Nat.reduceSub, Nat.reduceGT, reduceIte, Int.reduceNeg, Int.reduceToNat]) | (refine WP.flowW 7 [⟨[7], [], [], [], [], []⟩, ⟨[17], [], [], [], [], []⟩, ⟨[88, 89], [0, 1], [], [], [], []⟩, ⟨[90], [0, 1, 2], [], [], [], []⟩, ⟨[91], [0, 1, 2, 3], [], [], [], []⟩, ⟨[9], [], [], [], [], []⟩, ⟨[93], [5], [], [], [], []⟩, ⟨[], [0, 1, 2, 3, 4, 5, 6], [], [], [], []⟩, ⟨[], [0, 1, 2, 3, 4, 5, 6, 7], [], [], [], []⟩, ⟨[], [0, 1, 2, 3, 4, 5, 6, 7, 8], [], [], [], []⟩, ⟨[], [0, 1, 2, 3, 4, 5, 6, 7, 8, 9], [], [], [], []⟩] [88, 89, 90, 91, 92, 93, 94] [] [] (by decide +kernel) (by kernel_rfl) (by kernel_rfl) (by kernel_rfl) ?_; simp only [go_sem, hti, hrK, encS, encEntry, hr16, hfi, hpn, hO, hset, tyAll, Nat.reduceAdd, Nat.reduceLT, Nat.reduceLeDiff, Nat.reduceEqDiff, Nat.reduceMul, Nat.reduceSub, Nat.reduceGT, reduceIte, Int.reduceNeg, Int.reduceToNat]) |  refine And.intro ?_ ?_ | intro _))
    all_goals first | omega | exact ⟨_, _, _, rfl⟩ | (simp only [List.length_map]; omega) | skip
    all_goals first | exact ⟨t + 1, by omega, by omega, by (first | rfl | exact ⟨rfl, rfl⟩ | exact ⟨rfl, rfl, rfl⟩ | exact ⟨rfl, rfl, rfl, rfl⟩ | exact ⟨rfl, rfl, rfl, rfl, rfl⟩ | exact ⟨⟨rfl, rfl⟩, rfl⟩ | simp)⟩ | trace_state
end
end Go.Proofs.YtolnapfgfdgifaaGreatDoor

/-
  DERIVED. Lists of the struct Entry: what the law's helpers compare, mark and look for. Printed by program (fam.py).
-/
namespace Go.Proofs.YtolnapfgfdgifaaGreatDoor
open Go.Vc
set_option linter.unusedSimpArgs false
set_option linter.unusedVariables false
set_option maxHeartbeats 1000000
attribute [local go_sem] St.runR St.runW St.stepV offV St.step St.stepU St.stepG mkCond guardB St.prK St.pr St.prLen St.eff St.callE St.callD St.callF St.callL aI aB aS aR aC St.isM St.argL Ctr.pure Ctr.lend Ctr.move Ctr.isL Ctr.wri pur len lentBy St.lentV St.lent1 nthS argsR restOf obsR pairs swapL unObs backL St.resL erL SV.ren1 SV.up SV.up2 Ob.up St.fzL cellIds partIds St.intoRow SV.ownId St.fz SV.fz1 St.prep St.mvL St.mv SV.re1 rnOk St.prEq vals eqCells scEq Value.kd St.prStr St.prCut cutR St.bnd St.prMin St.bld isShift outL retL outJ oR oC St.ev St.get St.put St.new St.kill SV.kill SV.kill1 Ob.kill St.app St.wrt St.rowsOf St.res St.killL lk er argsL SV.strip SV.need SV.share SV.share1 SV.owns SV.owns1 SV.owns2 SV.good SV.good1 SV.rok SV.rok1 SV.rok2 SV.isV SV.isV2 nodupN SV.cells SV.one SV.pur partsIn rowsIn splice cellsAt dstOk scal2 scal1 thenK blockK retK outK outs okC okL okA okT nilC nilL nilA nilT keepC keepL keepA keepT St.runG St.dltK St.least St.clean St.final St.hide offK badS badO SV.refs SV.leaf SV.leaf2 Ob.refs dlOk fpAt Go.Vc.cover tups SV.ofAgg St.out outC subL St.has rng wr Value.oneCell' Option.isSome_some Option.isSome_none List.nil_append Bool.false_eq_true List.map_cons List.map_nil List.all_cons List.all_nil List.length_cons List.length_nil List.drop_zero List.drop_succ_cons List.take_succ_cons List.take_zero List.drop_nil List.take_nil List.getElem?_cons_zero List.getElem?_cons_succ List.getElem?_nil List.cons_append List.nil_append List.append_nil List.append_assoc List.flatMap_cons List.flatMap_nil List.contains_cons List.contains_nil List.set_cons_zero List.set_cons_succ List.getElem?_toArray Option.getD_some Option.getD_none Option.map_some Option.map_none Option.bind_some Option.some.injEq Prod.mk.injEq if_true if_false true_and and_true and_self and_false false_and Bool.and_false Bool.false_and Bool.or_true Bool.true_or Bool.or_false Bool.false_or ne_eq not_true_eq_false not_false_eq_true decide_true decide_false List.mem_cons List.not_mem_nil List.filter_cons List.filter_nil List.any_cons List.any_nil List.isEmpty_nil List.isEmpty_cons Option.getD_none or_false false_or true_or or_true forall_eq_or_imp forall_eq reduceCtorEq exists_eq exists_eq' exists_eq_left' exists_eq_left exists_eq_right exists_eq_right' imp_self implies_true Bool.and_true Bool.true_and Bool.and_self beq_self_eq_true List.replicate_succ List.replicate_zero forall_const false_implies pickB_or pickB_and beqT beqF Int.toNat_natCast List.length_map List.length_replicate ge_iff_le gt_iff_lt decide_eq_true_eq decide_eq_false_iff_not Bool.and_eq_true Bool.or_eq_true Bool.not_eq_true' Bool.not_eq_false' condG List.toList_toArray Bool.or_eq_false_iff Bool.and_eq_false_iff Int.not_lt Int.not_le beq_iff_eq beq_eq_false_iff_ne bne_iff_ne bne_eq_false_iff_eq ne_eq Bool.not_true Bool.not_false exists_and_left
attribute [local irreducible] Go.Vc.WP
attribute [local go_sem] cx0_t cx0_c

noncomputable def cxeqEntry : Cx := { P := Tryz.prog, tys := tys, C := [(66, keqEntry)], hty := tysOk, hC := COk.cons ceqEntry (COk.nil _) }
theorem cxeqEntry_t : cxeqEntry.tys = tys := rfl
theorem cxeqEntry_c : cxeqEntry.C = [(66, keqEntry)] := rfl
def keqEntryS : Ctr := pur (fun args => (decEntry (aR args 0), decEntry (aR args 1))) (fun x => [.sl 2 (x.1.map encEntry), .sl 2 (x.2.map encEntry)]) (fun x => x.1.length ≤ 4398046511104) (fun _ x => .v (.bool (decide (x.1 = x.2)))) (fun _ _ => [])
section
attribute [local go_sem] cxeqEntry_t cxeqEntry_c keqEntry oneEntry
theorem ceqEntryS : Cn Tryz.prog 25 keqEntryS := by
  refine Cn.pur Tryz.func25 (by kernel_rfl) rfl fun d x hL => ?_
  obtain ⟨L, M⟩ := x
  simp only at hL ⊢
  refine Holds.go (c := cxeqEntry) Tryz.func25 rfl Tryz.results25 Tryz.ntmps25 (by omega) (by simp) rfl ?_
  intro X0 w0
  (repeat' (first | refine WP.seq ?_ | refine WP.block ?_ | ((first | refine WP.region ?_ | refine WP.condW ?_ | refine WP.ret ?_ | refine WP.exit ?_ | refine WP.skip ?_); simp only [go_sem, tyAll, Nat.reduceAdd, Nat.reduceLT, Nat.reduceLeDiff, Nat.reduceEqDiff, Nat.reduceMul, Nat.reduceSub, Nat.reduceGT, reduceIte, Int.reduceNeg, Int.reduceToNat]) |  refine And.intro ?_ ?_ | intro _))
  · simp; intro h; subst h; simp_all
  have hlen : L.length = M.length := by omega
  refine WP.loop (fun k : Nat => ⟨[(0, .sl 2 (L.map encEntry)), (1, .sl 2 (M.map encEntry)), (5, .v (.int .i64 k))], []⟩) (fun k => k ≤ L.length ∧ L.take k = M.take k) (fun k => L.length - k) 0 (by simp) ?_ ?_
  · simp only [go_sem, tyAll, Nat.reduceAdd, Nat.reduceLT, Nat.reduceLeDiff, Nat.reduceEqDiff, Nat.reduceMul, Nat.reduceSub, Nat.reduceGT, reduceIte, Int.reduceNeg, Int.reduceToNat]; rfl
  intro k ⟨hk, ht⟩
  by_cases hlt : k < L.length
  · have h1 := rowAt_map encEntry L k hlt
    have h2 := rowAt_map encEntry M k (by omega)
    (repeat' (first | refine WP.seq ?_ | refine WP.block ?_ | ((first | refine WP.region ?_ | refine WP.condW ?_ | refine WP.ret ?_ | refine WP.exit ?_ | refine WP.skip ?_); simp only [go_sem, h1, h2, encEntry, tyAll, Nat.reduceAdd, Nat.reduceLT, Nat.reduceLeDiff, Nat.reduceEqDiff, Nat.reduceMul, Nat.reduceSub, Nat.reduceGT, reduceIte, Int.reduceNeg, Int.reduceToNat]) | (refine WP.drawW 10 (by kernel_rfl) (by kernel_rfl) ?_; simp only [go_sem, h1, h2, encEntry, tyAll, Nat.reduceAdd, Nat.reduceLT, Nat.reduceLeDiff, Nat.reduceEqDiff, Nat.reduceMul, Nat.reduceSub, Nat.reduceGT, reduceIte, Int.reduceNeg, Int.reduceToNat]) |  refine And.intro ?_ ?_ | intro _))
    all_goals first | omega | skip
    · rename_i hne
      rw [show decide (L = M) = false from decide_eq_false fun e => by subst e; exact hne rfl]
    · rename_i he
      refine ⟨k + 1, ⟨by omega, ?_⟩, by omega, rfl⟩
      have he' : L[k] = M[k] := he
      rw [List.take_succ_eq_append_getElem hlt, List.take_succ_eq_append_getElem (by omega : k < M.length), ht, he']
  · (repeat' (first | refine WP.seq ?_ | refine WP.block ?_ | ((first | refine WP.region ?_ | refine WP.condW ?_ | refine WP.ret ?_ | refine WP.exit ?_ | refine WP.skip ?_); simp only [go_sem, tyAll, Nat.reduceAdd, Nat.reduceLT, Nat.reduceLeDiff, Nat.reduceEqDiff, Nat.reduceMul, Nat.reduceSub, Nat.reduceGT, reduceIte, Int.reduceNeg, Int.reduceToNat]) |  refine And.intro ?_ ?_ | intro _))
    all_goals first | omega | skip
    rw [show decide (L = M) = true from decide_eq_true ?_]
    rw [show k = L.length by omega, List.take_length, hlen, List.take_length] at ht
    exact ht
end

theorem extEntry {a b : Entry} (h0 : a.stack = b.stack) (h1 : a.count = b.count) : a = b := by cases a; cases b; simp_all
def mrkEntry (v : Int) : Entry := ⟨markT (v), v + 1⟩
def marksEntry (k : Int) (n : Nat) : List Entry := (List.range n).map fun i : Nat => mrkEntry (k + 2 * (i : Int))
theorem marksEntry_len (k : Int) (n : Nat) : (marksEntry k n).length = n := by simp [marksEntry]
def halfEntry (L : List Entry) (k0 : Int) (k : Nat) : List Entry := marksEntry k0 k ++ L.drop k
theorem halfEntry_len (L : List Entry) (k0 : Int) (k : Nat) (h : k ≤ L.length) : (halfEntry L k0 k).length = L.length := by simp [halfEntry, marksEntry_len]; omega
theorem halfEntry_set (L : List Entry) (k0 : Int) (k : Nat) (h : k < L.length) : ((halfEntry L k0 k).map encEntry).set k (encEntry (mrkEntry (k0 + 2 * (k : Int)))) = (halfEntry L k0 (k + 1)).map encEntry := by
  rw [← List.map_set]
  congr 1
  unfold halfEntry
  rw [List.set_append, if_neg (by simp [marksEntry_len]), marksEntry_len, Nat.sub_self, List.drop_eq_getElem_cons h, List.set_cons_zero]
  simp [marksEntry, List.range_succ]
noncomputable def cxMkEntry : Cx := { P := Tryz.prog, tys := tys, C := [(67, kmarkT)], hty := tysOk, hC := COk.cons cmarkT (COk.nil _) }
theorem cxMkEntry_t : cxMkEntry.tys = tys := rfl
theorem cxMkEntry_c : cxMkEntry.C = [(67, kmarkT)] := rfl
attribute [local go_sem] cxMkEntry_t cxMkEntry_c kmarkT

def kmarkEntryS : Ctr := len [0] [] (fun args obs => (decEntry (oR obs 1000000), aI args 1)) (fun x => [.own 1000000, .v (.int .i64 x.2)]) (fun x => [(1000000, .sl 66 2 (x.1.map encEntry))]) (fun x => x.1.length ≤ 4398046511104 ∧ 0 ≤ x.2 ∧ x.2 ≤ 500000000000000)
  (fun _ x => .v (.int .i64 (x.2 + 2 * x.1.length))) (fun _ _ => []) (fun x => [(1000000, .sl 66 2 ((marksEntry x.2 x.1.length).map encEntry))])
theorem cmarkEntryS : Cn Tryz.prog 26 kmarkEntryS := by
  refine Cn.len Tryz.func26 (by kernel_rfl) rfl fun d x hd hx => ?_
  obtain ⟨L, k0⟩ := x
  obtain ⟨hL, h0, h1⟩ := hx
  simp only at hL h0 h1 ⊢
  refine HoldsL.go (c := cxMkEntry) Tryz.func26 rfl Tryz.results26 Tryz.ntmps26 (by omega) (by simp) rfl (by simp) (by simp [SV.owns2, SV.owns, SV.owns1]) (by simp) rfl rfl (by simp) ?_
  intro X0 M w0
  (repeat' (first | refine WP.seq ?_ | refine WP.block ?_ | ((first | refine WP.region ?_ | refine WP.condW ?_ | refine WP.ret ?_ | refine WP.exit ?_ | refine WP.skip ?_); simp only [go_sem, tyAll, Nat.reduceAdd, Nat.reduceLT, Nat.reduceLeDiff, Nat.reduceEqDiff, Nat.reduceMul, Nat.reduceSub, Nat.reduceGT, reduceIte, Int.reduceNeg, Int.reduceToNat]) |  refine And.intro ?_ ?_ | intro _))
  refine WP.loop (fun k : Nat => ⟨[(0, .own 1000000), (1, .v (.int .i64 (k0 + 2 * (k : Int)))), (5, .v (.int .i64 k))], [(1000000, .sl 66 2 ((halfEntry L k0 k).map encEntry))]⟩) (fun k => k ≤ L.length) (fun k => L.length - k) 0 (by omega) ?_ ?_
  · have e : halfEntry L k0 0 = L := by simp [halfEntry, marksEntry]
    rw [e]; (simp only [go_sem, tyAll, Nat.reduceAdd, Nat.reduceLT, Nat.reduceLeDiff, Nat.reduceEqDiff, Nat.reduceMul, Nat.reduceSub, Nat.reduceGT, reduceIte, Int.reduceNeg, Int.reduceToNat] <;> (first | rfl | exact ⟨rfl, rfl⟩ | exact ⟨rfl, rfl, rfl⟩ | exact ⟨rfl, rfl, rfl, rfl⟩ | exact ⟨rfl, rfl, rfl, rfl, rfl⟩ | exact ⟨⟨rfl, rfl⟩, rfl⟩ | simp))
  intro k hk
  have h2 := halfEntry_len L k0 k hk
  by_cases hlt : k < L.length
  · have h3 := halfEntry_set L k0 k hlt
    rw [encEntry, mrkEntry] at h3
    simp only at h3
    have h4 := rowAt_map encEntry (halfEntry L k0 k) k (by omega)
    have h5 : ∀ r : List SV, Go.Vc.rowAt (((halfEntry L k0 k).map encEntry).set k r) k = r := fun r => rowAt_set _ _ _ (by rw [List.length_map]; omega)
    (repeat' (first | refine WP.seq ?_ | refine WP.block ?_ | ((first | refine WP.region ?_ | refine WP.condW ?_ | refine WP.ret ?_ | refine WP.exit ?_ | refine WP.skip ?_); simp only [go_sem, h2, h3, h4, h5, encEntry, List.set_set, List.length_set, tyAll, Nat.reduceAdd, Nat.reduceLT, Nat.reduceLeDiff, Nat.reduceEqDiff, Nat.reduceMul, Nat.reduceSub, Nat.reduceGT, reduceIte, Int.reduceNeg, Int.reduceToNat]) |  refine And.intro ?_ ?_ | intro _))
    all_goals first | omega | skip
    refine ⟨k + 1, by omega, by omega, ⟨?_, rfl⟩, rfl⟩
    rw [show k0 + 2 * (k : Int) + 1 + 1 = k0 + 2 * ((k + 1 : Nat) : Int) by omega]
  · have h5 : halfEntry L k0 k = marksEntry k0 L.length := by rw [show k = L.length by omega]; simp [halfEntry]
    have h6 := marksEntry_len k0 L.length
    (repeat' (first | refine WP.seq ?_ | refine WP.block ?_ | ((first | refine WP.region ?_ | refine WP.condW ?_ | refine WP.ret ?_ | refine WP.exit ?_ | refine WP.skip ?_); simp only [go_sem, h2, h5, h6, tyAll, Nat.reduceAdd, Nat.reduceLT, Nat.reduceLeDiff, Nat.reduceEqDiff, Nat.reduceMul, Nat.reduceSub, Nat.reduceGT, reduceIte, Int.reduceNeg, Int.reduceToNat]) |  refine And.intro ?_ ?_ | intro _))
    all_goals first | omega | skip
    all_goals rw [show k = L.length by omega]

def kheldEntryS : Ctr := pur (fun args => (decEntry (aR args 0), aI args 1)) (fun x => [.sl 2 (x.1.map encEntry), .v (.int .i64 x.2)]) (fun x => x.1.length ≤ 4398046511104 ∧ 0 ≤ x.2 ∧ x.2 ≤ 500000000000000)
  (fun _ x => .v (.int .i64 (if x.1 = marksEntry x.2 x.1.length then x.2 + 2 * x.1.length else -1))) (fun _ _ => [])
theorem cheldEntryS : Cn Tryz.prog 27 kheldEntryS := by
  refine Cn.pur Tryz.func27 (by kernel_rfl) rfl fun d x hx => ?_
  obtain ⟨L, k0⟩ := x
  obtain ⟨hL, h0, h1⟩ := hx
  simp only at hL h0 h1 ⊢
  refine Holds.go (c := cxMkEntry) Tryz.func27 rfl Tryz.results27 Tryz.ntmps27 (by omega) (by simp) rfl ?_
  intro X0 w0
  (repeat' (first | refine WP.seq ?_ | refine WP.block ?_ | ((first | refine WP.region ?_ | refine WP.condW ?_ | refine WP.ret ?_ | refine WP.exit ?_ | refine WP.skip ?_); simp only [go_sem, tyAll, Nat.reduceAdd, Nat.reduceLT, Nat.reduceLeDiff, Nat.reduceEqDiff, Nat.reduceMul, Nat.reduceSub, Nat.reduceGT, reduceIte, Int.reduceNeg, Int.reduceToNat]) | (refine WP.drawW 8 (by decide +kernel) (by kernel_rfl) ?_; simp only [go_sem, tyAll, Nat.reduceAdd, Nat.reduceLT, Nat.reduceLeDiff, Nat.reduceEqDiff, Nat.reduceMul, Nat.reduceSub, Nat.reduceGT, reduceIte, Int.reduceNeg, Int.reduceToNat]) |  refine And.intro ?_ ?_ | intro _))
  refine WP.loop (fun k : Nat => ⟨[(0, .sl 2 (L.map encEntry)), (1, .v (.int .i64 (k0 + 2 * (k : Int)))), (5, .v (.int .i64 k))], []⟩) (fun k => k ≤ L.length ∧ L.take k = marksEntry k0 k) (fun k => L.length - k) 0 (by simp [marksEntry]) ?_ ?_
  · (simp only [go_sem, tyAll, Nat.reduceAdd, Nat.reduceLT, Nat.reduceLeDiff, Nat.reduceEqDiff, Nat.reduceMul, Nat.reduceSub, Nat.reduceGT, reduceIte, Int.reduceNeg, Int.reduceToNat] <;> (first | rfl | exact ⟨rfl, rfl⟩ | exact ⟨rfl, rfl, rfl⟩ | exact ⟨rfl, rfl, rfl, rfl⟩ | exact ⟨rfl, rfl, rfl, rfl, rfl⟩ | exact ⟨⟨rfl, rfl⟩, rfl⟩ | simp))
  intro k ⟨hk, ht⟩
  by_cases hlt : k < L.length
  · have h3 := rowAt_map encEntry L k hlt
    (repeat' (first | refine WP.seq ?_ | refine WP.block ?_ | ((first | refine WP.region ?_ | refine WP.condW ?_ | refine WP.ret ?_ | refine WP.exit ?_ | refine WP.skip ?_); simp only [go_sem, h3, encEntry, tyAll, Nat.reduceAdd, Nat.reduceLT, Nat.reduceLeDiff, Nat.reduceEqDiff, Nat.reduceMul, Nat.reduceSub, Nat.reduceGT, reduceIte, Int.reduceNeg, Int.reduceToNat]) | (refine WP.drawW 8 (by decide +kernel) (by kernel_rfl) ?_; simp only [go_sem, h3, encEntry, tyAll, Nat.reduceAdd, Nat.reduceLT, Nat.reduceLeDiff, Nat.reduceEqDiff, Nat.reduceMul, Nat.reduceSub, Nat.reduceGT, reduceIte, Int.reduceNeg, Int.reduceToNat]) |  refine And.intro ?_ ?_ | intro _))
    all_goals first | omega | skip
    · rename_i hne
      rw [if_neg]
      intro e
      have e2 : L[k] = (marksEntry k0 L.length)[k]'(by rw [marksEntry_len]; exact hlt) := by congr 1
      exact hne (by rw [e2]; simp [marksEntry, mrkEntry])
    · rename_i hne
      rw [if_neg]
      intro e
      have e2 : L[k] = (marksEntry k0 L.length)[k]'(by rw [marksEntry_len]; exact hlt) := by congr 1
      exact hne (by rw [e2]; simp [marksEntry, mrkEntry])
    · rename_i g0 g1
      refine ⟨k + 1, ⟨by omega, ?_⟩, by omega, ?_, rfl⟩
      · have he : L[k] = mrkEntry (k0 + 2 * (k : Int)) := extEntry g0 g1
        rw [List.take_succ_eq_append_getElem hlt, ht, he]; simp [marksEntry, List.range_succ]
      · rw [show k0 + 2 * (k : Int) + 1 + 1 = k0 + 2 * ((k + 1 : Nat) : Int) by omega]
  · (repeat' (first | refine WP.seq ?_ | refine WP.block ?_ | ((first | refine WP.region ?_ | refine WP.condW ?_ | refine WP.ret ?_ | refine WP.exit ?_ | refine WP.skip ?_); simp only [go_sem, tyAll, Nat.reduceAdd, Nat.reduceLT, Nat.reduceLeDiff, Nat.reduceEqDiff, Nat.reduceMul, Nat.reduceSub, Nat.reduceGT, reduceIte, Int.reduceNeg, Int.reduceToNat]) | (refine WP.drawW 8 (by decide +kernel) (by kernel_rfl) ?_; simp only [go_sem, tyAll, Nat.reduceAdd, Nat.reduceLT, Nat.reduceLeDiff, Nat.reduceEqDiff, Nat.reduceMul, Nat.reduceSub, Nat.reduceGT, reduceIte, Int.reduceNeg, Int.reduceToNat]) |  refine And.intro ?_ ?_ | intro _))
    all_goals first | omega | skip
    rw [show k = L.length by omega, List.take_length] at ht
    rw [if_pos ht, show k = L.length by omega]
end Go.Proofs.YtolnapfgfdgifaaGreatDoor

/-
  DERIVED. CallersOf and CalleesOf, of the reference and of the program; the laws' functions.
-/
namespace Go.Proofs.YtolnapfgfdgifaaGreatDoor
open Go.Vc
set_option linter.unusedSimpArgs false
set_option linter.unusedVariables false
set_option maxHeartbeats 1000000
set_option maxRecDepth 10000
attribute [local go_sem] St.runR St.runW St.stepV offV St.step St.stepU St.stepG mkCond guardB St.prK St.pr St.prLen St.eff St.callE St.callD St.callF St.callL aI aB aS aR aC St.isM St.argL Ctr.pure Ctr.lend Ctr.move Ctr.isL Ctr.wri pur len lentBy St.lentV St.lent1 nthS argsR restOf obsR pairs swapL unObs backL St.resL erL SV.ren1 SV.up SV.up2 Ob.up St.fzL cellIds partIds St.intoRow SV.ownId St.fz SV.fz1 St.prep St.mvL St.mv SV.re1 rnOk St.prEq vals eqCells scEq Value.kd St.prStr St.prCut cutR St.bnd St.prMin St.bld isShift outL retL outJ oR oC St.ev St.get St.put St.new St.kill SV.kill SV.kill1 Ob.kill St.app St.wrt St.rowsOf St.res St.killL lk er argsL SV.strip SV.need SV.share SV.share1 SV.owns SV.owns1 SV.owns2 SV.good SV.good1 SV.rok SV.rok1 SV.rok2 SV.isV SV.isV2 nodupN SV.cells SV.one SV.pur partsIn rowsIn splice cellsAt dstOk scal2 scal1 thenK blockK retK outK outs okC okL okA okT nilC nilL nilA nilT keepC keepL keepA keepT St.runG St.dltK St.least St.clean St.final St.hide offK badS badO SV.refs SV.leaf SV.leaf2 Ob.refs dlOk fpAt Go.Vc.cover tups SV.ofAgg St.out outC subL St.has rng wr Value.oneCell' Option.isSome_some Option.isSome_none List.nil_append Bool.false_eq_true List.map_cons List.map_nil List.all_cons List.all_nil List.length_cons List.length_nil List.drop_zero List.drop_succ_cons List.take_succ_cons List.take_zero List.drop_nil List.take_nil List.getElem?_cons_zero List.getElem?_cons_succ List.getElem?_nil List.cons_append List.nil_append List.append_nil List.append_assoc List.flatMap_cons List.flatMap_nil List.contains_cons List.contains_nil List.set_cons_zero List.set_cons_succ List.getElem?_toArray Option.getD_some Option.getD_none Option.map_some Option.map_none Option.bind_some Option.some.injEq Prod.mk.injEq if_true if_false true_and and_true and_self and_false false_and Bool.and_false Bool.false_and Bool.or_true Bool.true_or Bool.or_false Bool.false_or ne_eq not_true_eq_false not_false_eq_true decide_true decide_false List.mem_cons List.not_mem_nil List.filter_cons List.filter_nil List.any_cons List.any_nil List.isEmpty_nil List.isEmpty_cons Option.getD_none or_false false_or true_or or_true forall_eq_or_imp forall_eq reduceCtorEq exists_eq exists_eq' exists_eq_left' exists_eq_left exists_eq_right exists_eq_right' imp_self implies_true Bool.and_true Bool.true_and Bool.and_self beq_self_eq_true List.replicate_succ List.replicate_zero forall_const false_implies pickB_or pickB_and beqT beqF Int.toNat_natCast List.length_map List.length_replicate ge_iff_le gt_iff_lt decide_eq_true_eq decide_eq_false_iff_not Bool.and_eq_true Bool.or_eq_true Bool.not_eq_true' Bool.not_eq_false' condG List.toList_toArray Bool.or_eq_false_iff Bool.and_eq_false_iff Int.not_lt Int.not_le beq_iff_eq beq_eq_false_iff_ne bne_iff_ne bne_eq_false_iff_eq ne_eq Bool.not_true Bool.not_false exists_and_left
attribute [local irreducible] Go.Vc.WP
attribute [local go_sem] cx0_t cx0_c
attribute [local go_sem] isV_Node isV_It isV_Entry decNode_enc decEntry_enc decFrame_enc oneFrame_enc stkA oneFrame_ab oneNode_abc decI_enc prA encI_inj
open Go.Pl
theorem nbE_len (s : ByteArray) (d : Int) {N : List Node} {C : List Int} (hN : N.length ≤ 1048576) (hC : C.length ≤ 1048576) : (nbO s d (entriesOf N C)).length ≤ 1099511627776 := by
  have h1 := nbO_len (B := 1048576) (s := s) (d := d) (E := entriesOf N C) (fun e he => namesE_len2 hN he) (entriesOf N C).length (Nat.le_refl _)
  rw [List.take_length] at h1
  have h2 := entriesOf_len N C
  have h3 : 1048576 * (entriesOf N C).length ≤ 1048576 * 1048576 := Nat.mul_le_mul_left _ (by omega)
  omega
def kCallersOf : Ctr := pur (fun args => (prA args 0, aS args 1)) (fun x => [.agg [.sl 3 (x.1.1.map encNode), .sl 1 (x.1.2.map encI)], .v (.string x.2)])
  (fun x => (x.1.1.length ≤ 1048576 ∧ ∀ n ∈ x.1.1, n.name.size ≤ 1048576) ∧ x.1.2.length ≤ 1048576) (fun d _ => .own d) (fun d x => [(d, .sl 66 2 ((nbO x.2 (-1) (entriesOf x.1.1 x.1.2)).map encEntry))])
def kCalleesOf : Ctr := pur (fun args => (prA args 0, aS args 1)) (fun x => [.agg [.sl 3 (x.1.1.map encNode), .sl 1 (x.1.2.map encI)], .v (.string x.2)])
  (fun x => (x.1.1.length ≤ 1048576 ∧ ∀ n ∈ x.1.1, n.name.size ≤ 1048576) ∧ x.1.2.length ≤ 1048576) (fun d _ => .own d) (fun d x => [(d, .sl 66 2 ((nbO x.2 1 (entriesOf x.1.1 x.1.2)).map encEntry))])
section
noncomputable def cxNCallersOfS : Cx := { P := Tryz.prog, tys := tys, C := [(64, kNb)], hty := tysOk, hC := COk.cons cNbS (COk.nil _) }
theorem cxNCallersOfS_t : cxNCallersOfS.tys = tys := rfl
theorem cxNCallersOfS_c : cxNCallersOfS.C = [(64, kNb)] := rfl
attribute [local go_sem] cxNCallersOfS_t cxNCallersOfS_c kNb
theorem cCallersOfS : Cn Tryz.prog 28 kCallersOf := by
  refine Cn.pur Tryz.func28 (by kernel_rfl) rfl fun d x hx => ?_
  obtain ⟨⟨N, C⟩, s⟩ := x
  obtain ⟨⟨hN, hs⟩, hC⟩ := hx
  simp only at hN hs hC ⊢
  refine Holds.go (c := cxNCallersOfS) Tryz.func28 rfl Tryz.results28 Tryz.ntmps28 (by omega) (by simp) rfl ?_
  intro X0 w0
  (repeat' (first | refine WP.seq ?_ | refine WP.block ?_ | ((first | refine WP.region ?_ | refine WP.condW ?_ | refine WP.ret ?_ | refine WP.exit ?_ | refine WP.skip ?_); simp only [go_sem, tyAll, Nat.reduceAdd, Nat.reduceLT, Nat.reduceLeDiff, Nat.reduceEqDiff, Nat.reduceMul, Nat.reduceSub, Nat.reduceGT, reduceIte, Int.reduceNeg, Int.reduceToNat]) |  refine And.intro ?_ ?_ | intro _))
  all_goals first | omega | exact hs _ ‹_› | exact ⟨_, _, _, rfl⟩ | skip
  all_goals trace_state
end
section
noncomputable def cxNCallersOfI : Cx := { P := Tryz.prog, tys := tys, C := [(65, kNb)], hty := tysOk, hC := COk.cons cNbI (COk.nil _) }
theorem cxNCallersOfI_t : cxNCallersOfI.tys = tys := rfl
theorem cxNCallersOfI_c : cxNCallersOfI.C = [(65, kNb)] := rfl
attribute [local go_sem] cxNCallersOfI_t cxNCallersOfI_c kNb
theorem cCallersOfI : Cn Tryz.prog 29 kCallersOf := by
  refine Cn.pur Tryz.func29 (by kernel_rfl) rfl fun d x hx => ?_
  obtain ⟨⟨N, C⟩, s⟩ := x
  obtain ⟨⟨hN, hs⟩, hC⟩ := hx
  simp only at hN hs hC ⊢
  refine Holds.go (c := cxNCallersOfI) Tryz.func29 rfl Tryz.results29 Tryz.ntmps29 (by omega) (by simp) rfl ?_
  intro X0 w0
  (repeat' (first | refine WP.seq ?_ | refine WP.block ?_ | ((first | refine WP.region ?_ | refine WP.condW ?_ | refine WP.ret ?_ | refine WP.exit ?_ | refine WP.skip ?_); simp only [go_sem, tyAll, Nat.reduceAdd, Nat.reduceLT, Nat.reduceLeDiff, Nat.reduceEqDiff, Nat.reduceMul, Nat.reduceSub, Nat.reduceGT, reduceIte, Int.reduceNeg, Int.reduceToNat]) |  refine And.intro ?_ ?_ | intro _))
  all_goals first | omega | exact hs _ ‹_› | exact ⟨_, _, _, rfl⟩ | skip
  all_goals trace_state
end
section
noncomputable def cxNCallersOfL : Cx := { P := Tryz.prog, tys := tys, C := [(12, kszPr), (14, ktoPr), (17, keqPr), (18, kmarkPr), (25, keqEntryS), (26, kmarkEntryS), (27, kheldEntryS), (28, kCallersOf), (29, kCallersOf)], hty := tysOk, hC := COk.cons cszPr (COk.cons ctoPr (COk.cons ceqPr (COk.cons cmarkPr (COk.cons ceqEntryS (COk.cons cmarkEntryS (COk.cons cheldEntryS (COk.cons cCallersOfS (COk.cons cCallersOfI (COk.nil _))))))))) }
theorem cxNCallersOfL_t : cxNCallersOfL.tys = tys := rfl
theorem cxNCallersOfL_c : cxNCallersOfL.C = [(12, kszPr), (14, ktoPr), (17, keqPr), (18, kmarkPr), (25, keqEntryS), (26, kmarkEntryS), (27, kheldEntryS), (28, kCallersOf), (29, kCallersOf)] := rfl
attribute [local go_sem] cxNCallersOfL_t cxNCallersOfL_c kszPr ktoPr keqPr kmarkPr keqEntryS kmarkEntryS kheldEntryS kCallersOf
theorem lawCallersOf (x : List Node × List Int) (s : ByteArray) (hx : wfM x) : Holds Tryz.prog 6 [.agg [.sl 3 (x.1.map encNode), .sl 1 (x.2.map encI)], .v (.string s)] (.v (.bool true)) [] := by
  obtain ⟨N, C⟩ := x
  obtain ⟨hN, hs, hC⟩ := hx
  simp only at hN hs hC ⊢
  refine Holds.go (c := cxNCallersOfL) Tryz.func6 rfl Tryz.results6 Tryz.ntmps6 (by omega) (by simp) rfl ?_
  intro X0 w0
  have key : 0 ≤ szvPr (N, C) 1048576 → (N.length ≤ 1048576 ∧ ∀ n ∈ N, n.name.size ≤ 1048576) ∧ C.length ≤ 1048576 := fun h => szvPr_ok (x := (N, C)) (l := 1048576) (Int.le_refl _) (Int.not_lt.2 h)
  have key1 : 0 ≤ szvPr (N, C) 1048576 → N.length ≤ 1048576 := fun h => (key h).1.1
  have key2 : 0 ≤ szvPr (N, C) 1048576 → C.length ≤ 1048576 := fun h => (key h).2
  have key3 : 0 ≤ szvPr (N, C) 1048576 → (nbO s (-1) (entriesOf N C)).length ≤ 4398046511104 := fun h => by have := nbE_len s (-1) (key1 h) (key2 h); omega
  generalize hP : nbO s (-1) (entriesOf N C) = P at key3
  have m1 := marksEntry_len 1 P.length
  (repeat' (first | refine WP.seq ?_ | refine WP.block ?_ | ((first | refine WP.region ?_ | refine WP.condW ?_ | refine WP.ret ?_ | refine WP.exit ?_ | refine WP.skip ?_); simp only [go_sem, m1, hP, tyAll, Nat.reduceAdd, Nat.reduceLT, Nat.reduceLeDiff, Nat.reduceEqDiff, Nat.reduceMul, Nat.reduceSub, Nat.reduceGT, reduceIte, Int.reduceNeg, Int.reduceToNat]) | (refine WP.flowW 3 [⟨[7], [], [], [36, 1036], [], []⟩, ⟨[2], [], [], [36, 1036], [], []⟩, ⟨[35], [1], [], [], [], [36, 1036]⟩, ⟨[], [0, 1, 2], [], [], [], []⟩, ⟨[], [0, 1, 2, 3], [], [], [], []⟩] [34, 35, 36] [36, 1036] [] (by decide +kernel) (by kernel_rfl) (by kernel_rfl) (by kernel_rfl) ?_; simp only [go_sem, m1, hP, tyAll, Nat.reduceAdd, Nat.reduceLT, Nat.reduceLeDiff, Nat.reduceEqDiff, Nat.reduceMul, Nat.reduceSub, Nat.reduceGT, reduceIte, Int.reduceNeg, Int.reduceToNat]) |  refine And.intro ?_ ?_ | intro _))
  all_goals first | omega | exact ⟨_, _, _, rfl⟩ | exact hs _ ‹_› | exact Nat.le_trans (key1 ‹_›) (by omega) | exact Nat.le_trans (key2 ‹_›) (by omega) | exact Nat.le_trans ((key ‹_›).1.2 _ ‹_›) (by omega) | exact key3 ‹_› | skip
  all_goals trace_state
end
section
noncomputable def cxNCalleesOfS : Cx := { P := Tryz.prog, tys := tys, C := [(64, kNb)], hty := tysOk, hC := COk.cons cNbS (COk.nil _) }
theorem cxNCalleesOfS_t : cxNCalleesOfS.tys = tys := rfl
theorem cxNCalleesOfS_c : cxNCalleesOfS.C = [(64, kNb)] := rfl
attribute [local go_sem] cxNCalleesOfS_t cxNCalleesOfS_c kNb
theorem cCalleesOfS : Cn Tryz.prog 23 kCalleesOf := by
  refine Cn.pur Tryz.func23 (by kernel_rfl) rfl fun d x hx => ?_
  obtain ⟨⟨N, C⟩, s⟩ := x
  obtain ⟨⟨hN, hs⟩, hC⟩ := hx
  simp only at hN hs hC ⊢
  refine Holds.go (c := cxNCalleesOfS) Tryz.func23 rfl Tryz.results23 Tryz.ntmps23 (by omega) (by simp) rfl ?_
  intro X0 w0
  (repeat' (first | refine WP.seq ?_ | refine WP.block ?_ | ((first | refine WP.region ?_ | refine WP.condW ?_ | refine WP.ret ?_ | refine WP.exit ?_ | refine WP.skip ?_); simp only [go_sem, tyAll, Nat.reduceAdd, Nat.reduceLT, Nat.reduceLeDiff, Nat.reduceEqDiff, Nat.reduceMul, Nat.reduceSub, Nat.reduceGT, reduceIte, Int.reduceNeg, Int.reduceToNat]) |  refine And.intro ?_ ?_ | intro _))
  all_goals first | omega | exact hs _ ‹_› | exact ⟨_, _, _, rfl⟩ | skip
  all_goals trace_state
end
section
noncomputable def cxNCalleesOfI : Cx := { P := Tryz.prog, tys := tys, C := [(65, kNb)], hty := tysOk, hC := COk.cons cNbI (COk.nil _) }
theorem cxNCalleesOfI_t : cxNCalleesOfI.tys = tys := rfl
theorem cxNCalleesOfI_c : cxNCalleesOfI.C = [(65, kNb)] := rfl
attribute [local go_sem] cxNCalleesOfI_t cxNCalleesOfI_c kNb
theorem cCalleesOfI : Cn Tryz.prog 24 kCalleesOf := by
  refine Cn.pur Tryz.func24 (by kernel_rfl) rfl fun d x hx => ?_
  obtain ⟨⟨N, C⟩, s⟩ := x
  obtain ⟨⟨hN, hs⟩, hC⟩ := hx
  simp only at hN hs hC ⊢
  refine Holds.go (c := cxNCalleesOfI) Tryz.func24 rfl Tryz.results24 Tryz.ntmps24 (by omega) (by simp) rfl ?_
  intro X0 w0
  (repeat' (first | refine WP.seq ?_ | refine WP.block ?_ | ((first | refine WP.region ?_ | refine WP.condW ?_ | refine WP.ret ?_ | refine WP.exit ?_ | refine WP.skip ?_); simp only [go_sem, tyAll, Nat.reduceAdd, Nat.reduceLT, Nat.reduceLeDiff, Nat.reduceEqDiff, Nat.reduceMul, Nat.reduceSub, Nat.reduceGT, reduceIte, Int.reduceNeg, Int.reduceToNat]) |  refine And.intro ?_ ?_ | intro _))
  all_goals first | omega | exact hs _ ‹_› | exact ⟨_, _, _, rfl⟩ | skip
  all_goals trace_state
end
section
noncomputable def cxNCalleesOfL : Cx := { P := Tryz.prog, tys := tys, C := [(12, kszPr), (14, ktoPr), (17, keqPr), (18, kmarkPr), (25, keqEntryS), (26, kmarkEntryS), (27, kheldEntryS), (23, kCalleesOf), (24, kCalleesOf)], hty := tysOk, hC := COk.cons cszPr (COk.cons ctoPr (COk.cons ceqPr (COk.cons cmarkPr (COk.cons ceqEntryS (COk.cons cmarkEntryS (COk.cons cheldEntryS (COk.cons cCalleesOfS (COk.cons cCalleesOfI (COk.nil _))))))))) }
theorem cxNCalleesOfL_t : cxNCalleesOfL.tys = tys := rfl
theorem cxNCalleesOfL_c : cxNCalleesOfL.C = [(12, kszPr), (14, ktoPr), (17, keqPr), (18, kmarkPr), (25, keqEntryS), (26, kmarkEntryS), (27, kheldEntryS), (23, kCalleesOf), (24, kCalleesOf)] := rfl
attribute [local go_sem] cxNCalleesOfL_t cxNCalleesOfL_c kszPr ktoPr keqPr kmarkPr keqEntryS kmarkEntryS kheldEntryS kCalleesOf
theorem lawCalleesOf (x : List Node × List Int) (s : ByteArray) (hx : wfM x) : Holds Tryz.prog 5 [.agg [.sl 3 (x.1.map encNode), .sl 1 (x.2.map encI)], .v (.string s)] (.v (.bool true)) [] := by
  obtain ⟨N, C⟩ := x
  obtain ⟨hN, hs, hC⟩ := hx
  simp only at hN hs hC ⊢
  refine Holds.go (c := cxNCalleesOfL) Tryz.func5 rfl Tryz.results5 Tryz.ntmps5 (by omega) (by simp) rfl ?_
  intro X0 w0
  have key : 0 ≤ szvPr (N, C) 1048576 → (N.length ≤ 1048576 ∧ ∀ n ∈ N, n.name.size ≤ 1048576) ∧ C.length ≤ 1048576 := fun h => szvPr_ok (x := (N, C)) (l := 1048576) (Int.le_refl _) (Int.not_lt.2 h)
  have key1 : 0 ≤ szvPr (N, C) 1048576 → N.length ≤ 1048576 := fun h => (key h).1.1
  have key2 : 0 ≤ szvPr (N, C) 1048576 → C.length ≤ 1048576 := fun h => (key h).2
  have key3 : 0 ≤ szvPr (N, C) 1048576 → (nbO s 1 (entriesOf N C)).length ≤ 4398046511104 := fun h => by have := nbE_len s 1 (key1 h) (key2 h); omega
  generalize hP : nbO s 1 (entriesOf N C) = P at key3
  have m1 := marksEntry_len 1 P.length
  (repeat' (first | refine WP.seq ?_ | refine WP.block ?_ | ((first | refine WP.region ?_ | refine WP.condW ?_ | refine WP.ret ?_ | refine WP.exit ?_ | refine WP.skip ?_); simp only [go_sem, m1, hP, tyAll, Nat.reduceAdd, Nat.reduceLT, Nat.reduceLeDiff, Nat.reduceEqDiff, Nat.reduceMul, Nat.reduceSub, Nat.reduceGT, reduceIte, Int.reduceNeg, Int.reduceToNat]) | (refine WP.flowW 3 [⟨[7], [], [], [36, 1036], [], []⟩, ⟨[2], [], [], [36, 1036], [], []⟩, ⟨[35], [1], [], [], [], [36, 1036]⟩, ⟨[], [0, 1, 2], [], [], [], []⟩, ⟨[], [0, 1, 2, 3], [], [], [], []⟩] [34, 35, 36] [36, 1036] [] (by decide +kernel) (by kernel_rfl) (by kernel_rfl) (by kernel_rfl) ?_; simp only [go_sem, m1, hP, tyAll, Nat.reduceAdd, Nat.reduceLT, Nat.reduceLeDiff, Nat.reduceEqDiff, Nat.reduceMul, Nat.reduceSub, Nat.reduceGT, reduceIte, Int.reduceNeg, Int.reduceToNat]) |  refine And.intro ?_ ?_ | intro _))
  all_goals first | omega | exact ⟨_, _, _, rfl⟩ | exact hs _ ‹_› | exact Nat.le_trans (key1 ‹_›) (by omega) | exact Nat.le_trans (key2 ‹_›) (by omega) | exact Nat.le_trans ((key ‹_›).1.2 _ ‹_›) (by omega) | exact key3 ‹_› | skip
  all_goals trace_state
end
end Go.Proofs.YtolnapfgfdgifaaGreatDoor
