/-
  DERIVED. Several texts of ours in one: VtPtS, VtPe, VpKeep, VpNbr.
-/
import Derived.Test.YtdhkhapbldkkdaaDoorVq0
import Derived.Test.YtdhkhapbldkkdaaDoorVq1
import Derived.Test.YtdhkhapbldkkdaaDoorVq2
import Derived.Test.YtdhkhapbldkkdaaDoorVq3
import Derived.Test.YtdhkhapbldkkdaaDoorVq4
import Derived.Test.YtdhkhapbldkkdaaDoorVq5
import Derived.Test.YtdhkhapbldkkdaaDoorVq6
import Derived.Test.YtdhkhapbldkkdaaDoorVq7
set_option linter.unusedSimpArgs false
set_option linter.unusedVariables false
namespace Go.Proofs.YtdhkhapbldkkdaaDoor
open Go.Vc
attribute [local go_sem] St.runR St.runW St.stepV offV St.step St.stepU St.stepG mkCond guardB St.prK St.pr St.prLen St.eff St.callE St.callD St.callF St.callL aI aB aS aR aC St.isM St.argL Ctr.pure Ctr.lend Ctr.move Ctr.isL Ctr.wri pur len lentBy St.lentV St.lent1 nthS argsR restOf obsR pairs swapL unObs backL St.resL erL SV.ren1 SV.up SV.up2 Ob.up St.fzL cellIds partIds St.intoRow SV.ownId St.fz SV.fz1 St.prep St.mvL St.mv SV.re1 rnOk St.prEq vals eqCells scEq Value.kd St.prStr St.prCut cutR St.bnd St.prMin St.bld isShift outL retL outJ oR oC oE oD SV.upq SV.isSl SV.shut St.deepK St.dpArg St.deepQ absC Ob.pl St.ev St.get St.put St.new St.kill SV.kill SV.kill1 Ob.kill St.app St.wrt St.rowsOf St.res St.killL lk er argsL SV.strip SV.need SV.share SV.share1 SV.owns SV.owns1 SV.owns2 SV.good SV.good1 SV.rok SV.rok1 SV.rok2 SV.isV SV.isV2 nodupN SV.cells SV.one SV.pur Ob.pb partsIn rowsIn splice cellsAt dstOk scal2 scal1 thenK blockK retK outK outs okC okL okA okT nilC nilL nilA nilT keepC keepL keepA keepT St.runG St.dltK St.least St.clean St.final St.hide offK badS badO SV.refs SV.leaf SV.leaf2 Ob.refs dlOk fpAt Go.Vc.cover tups SV.ofAgg St.out outC subL St.has rng wr Value.oneCell' Option.isSome_some Option.isSome_none List.nil_append Bool.false_eq_true List.map_cons List.map_nil List.all_cons List.all_nil List.length_cons List.length_nil List.drop_zero List.drop_succ_cons List.take_succ_cons List.take_zero List.drop_nil List.take_nil List.getElem?_cons_zero List.getElem?_cons_succ List.getElem?_nil List.cons_append List.nil_append List.append_nil List.append_assoc List.flatMap_cons List.flatMap_nil List.contains_cons List.contains_nil List.set_cons_zero List.set_cons_succ List.getElem?_toArray Option.getD_some Option.getD_none Option.map_some Option.map_none Option.bind_some Option.some.injEq Prod.mk.injEq if_true if_false true_and and_true and_self and_false false_and Bool.and_false Bool.false_and Bool.or_true Bool.true_or Bool.or_false Bool.false_or ne_eq not_true_eq_false not_false_eq_true decide_true decide_false List.mem_cons List.not_mem_nil List.filter_cons List.filter_nil List.any_cons List.any_nil List.isEmpty_nil List.isEmpty_cons Option.getD_none or_false false_or true_or or_true forall_eq_or_imp forall_eq reduceCtorEq exists_eq exists_eq' exists_eq_left' exists_eq_left exists_eq_right exists_eq_right' imp_self implies_true Bool.and_true Bool.true_and Bool.and_self beq_self_eq_true List.replicate_succ List.replicate_zero forall_const false_implies pickB_or pickB_and beqT beqF Int.toNat_natCast List.length_map List.length_replicate ge_iff_le gt_iff_lt decide_eq_true_eq decide_eq_false_iff_not Bool.and_eq_true Bool.or_eq_true Bool.not_eq_true' Bool.not_eq_false' condG List.toList_toArray Bool.or_eq_false_iff Bool.and_eq_false_iff Int.not_lt Int.not_le beq_iff_eq beq_eq_false_iff_ne bne_iff_ne bne_eq_false_iff_eq ne_eq Bool.not_true Bool.not_false exists_and_left
section
open Go.Vc
set_option linter.unusedSimpArgs false
set_option linter.unusedVariables false
set_option maxHeartbeats 1000000
set_option maxRecDepth 10000
attribute [local irreducible] Go.Vc.WP
attribute [local go_sem] cx0_t cx0_c
def fl18df023180 : List Go.Vc.Fp := [⟨[4], [], [], [61], [], []⟩, ⟨[0], [], [], [61], [], []⟩, ⟨[0], [], [], [61], [], []⟩, ⟨[49], [2], [], [61], [], []⟩, ⟨[50], [2, 3], [], [61], [], []⟩, ⟨[48, 51], [1, 2, 3, 4], [], [61], [], []⟩, ⟨[52], [1, 2, 3, 4, 5], [], [61], [], []⟩, ⟨[53], [1, 2, 3, 4, 5, 6], [], [61], [], []⟩, ⟨[0], [], [], [61], [], []⟩, ⟨[0], [], [], [61], [], []⟩, ⟨[56], [9], [], [61], [], []⟩, ⟨[57], [9, 10], [], [61], [], []⟩, ⟨[55, 58], [8, 9, 10, 11], [], [61], [], []⟩, ⟨[54, 59], [1, 2, 3, 4, 5, 6, 7, 8, 9, 10, 11, 12], [], [61], [], []⟩, ⟨[60], [1, 2, 3, 4, 5, 6, 7, 8, 9, 10, 11, 12, 13], [], [], [], [61]⟩, ⟨[], [0, 1, 2, 3, 4, 5, 6, 7, 8, 9, 10, 11, 12, 13, 14], [], [], [], []⟩, ⟨[], [0, 1, 2, 3, 4, 5, 6, 7, 8, 9, 10, 11, 12, 13, 14, 15], [], [], [], []⟩]
attribute [local go_sem] fl18df023180
attribute [local go_sem] decTok_enc oneTok_f decS_enc St.fzS addL behind St.runO St.stepO aU
theorem enc_ops (n : Nat) : (opsTo (n + 1)).map encTok = (opsTo n).map encTok ++ [[SV.v (.int .i64 ((n : Int) + 2)), SV.v (.int .i64 0), SV.v (.string ⟨#[]⟩)]] := by
  rw [opsTo, List.map_append]; rfl
theorem candNum_len (s : ByteArray) : (candNum s).length ≤ 1 := by
  unfold candNum
  split
  · split <;> simp
  · simp
theorem candCall_len (s : ByteArray) : (candCall s).length ≤ 1 := by unfold candCall; split <;> simp
theorem candS_len (s : ByteArray) : (candS s).length ≤ 8 := by
  unfold candS
  have := candNum_len s
  have := candCall_len s
  simp only [List.length_cons, List.length_append, opsTo_len]
  omega
section
set_option maxHeartbeats 8000000
noncomputable def cxPtS : Cx := { P := Tryd.prog, tys := tys, C := [(24, kParseU), (54, kTokOk), (55, kFmtT)], hty := tysOk, hC := COk.cons cParseUS (COk.cons cTokOkS (COk.cons cFmtTS (COk.nil _))) }
theorem cxPtS_t : cxPtS.tys = tys := rfl
theorem cxPtS_c : cxPtS.C = [(24, kParseU), (54, kTokOk), (55, kFmtT)] := rfl
attribute [local go_sem] cxPtS_t cxPtS_c kParseU kTokOk kFmtT
theorem cPTS : Cn Tryd.prog 39 kPT := by
  refine Cn.pur Tryd.func39 (by kernel_rfl) rfl fun d x hx => ?_
  rename ByteArray => s
  refine Holds.go (c := cxPtS) Tryd.func39 rfl Tryd.results39 Tryd.ntmps39 (by omega) (by simp) rfl ?_
  intro X0 w0
  have hsm : ∀ t ∈ candS s, smTok t := fun t ht => by
    have := candS_small ht
    unfold smTok; omega
  have hnxt : ∀ k (hk : k < (candS s).length), (∀ i (hi : i < (candS s).length), i < k → ¬ (tokOk (candS s)[i] = true ∧ fmtTok (candS s)[i] = s)) → ¬ (tokOk (candS s)[k] = true ∧ fmtTok (candS s)[k] = s) → ∀ i (hi : i < (candS s).length), i < k + 1 → ¬ (tokOk (candS s)[i] = true ∧ fmtTok (candS s)[i] = s) := fun k hk hf hn i hi hik => by
    rcases Nat.lt_or_ge i k with q | q
    · exact hf i hi q
    · have : i = k := by omega
      subst this; exact hn
  have hhit : ∀ k (hk : k < (candS s).length), tokOk (candS s)[k] = true → fmtTok (candS s)[k] = s → tokOf s = some (candS s)[k] := fun k hk a b => tokOf_iff.2 ⟨a, b⟩
  have hend : (∀ i (hi : i < (candS s).length), ¬ (tokOk (candS s)[i] = true ∧ fmtTok (candS s)[i] = s)) → tokOf s = none := fun h => candS_none fun t ht => by
    obtain ⟨i, hi, rfl⟩ := List.mem_iff_getElem.1 ht
    exact h i hi
  (repeat' (first | refine WP.seq ?_ | refine WP.block ?_ | ((first | refine WP.region ?_ | refine WP.condW ?_ | refine WP.ret ?_ | refine WP.exit ?_ | refine WP.skip ?_); simp only [go_sem, tyAll, Nat.reduceAdd, Nat.reduceLT, Nat.reduceLeDiff, Nat.reduceEqDiff, Nat.reduceMul, Nat.reduceSub, Nat.reduceGT, reduceIte, Int.reduceNeg, Int.reduceToNat]) | ((first | refine WP.flowZ [0] 15 fl18df023180 [47, 48, 49, 50, 51, 52, 53, 54, 55, 56, 57, 58, 59, 60, 61] [61] [] (by decide +kernel) (by kernel_rfl) (by kernel_rfl) (by kernel_rfl) ?_ | refine WP.flowW 15 fl18df023180 [47, 48, 49, 50, 51, 52, 53, 54, 55, 56, 57, 58, 59, 60, 61] [61] [] (by decide +kernel) (by kernel_rfl) (by kernel_rfl) (by kernel_rfl) ?_); simp only [go_sem, tyAll, Nat.reduceAdd, Nat.reduceLT, Nat.reduceLeDiff, Nat.reduceEqDiff, Nat.reduceMul, Nat.reduceSub, Nat.reduceGT, reduceIte, Int.reduceNeg, Int.reduceToNat]) |  refine And.intro ?_ ?_ | intro _))
  all_goals first | omega | skip
  refine WP.loop (fun n : Nat => ⟨[(0, .v (.string s)), (2, .ptr 2 0 0 0), (4, .own 11), (5, .v (.int .i64 ((n : Int) + 2)))], [(2, .box 63 [.v (.int .i64 0), .v (.int .i64 0), .v (.string ⟨#[]⟩)]), (11, .sl 63 3 ([.v (.int .i64 1), .v (.int .i64 0), .v (.string s)] :: (opsTo n).map encTok))]⟩) (fun n => n ≤ 5) (fun n => 5 - n) 0 (by simp) ?_ ?_
  · have e : (opsTo 0).map encTok = [] := rfl
    rw [e]; (simp only [go_sem, tyAll, Nat.reduceAdd, Nat.reduceLT, Nat.reduceLeDiff, Nat.reduceEqDiff, Nat.reduceMul, Nat.reduceSub, Nat.reduceGT, reduceIte, Int.reduceNeg, Int.reduceToNat] <;> (first | rfl | exact ⟨rfl, rfl⟩ | exact ⟨rfl, rfl, rfl⟩ | exact ⟨rfl, rfl, rfl, rfl⟩ | exact ⟨rfl, rfl, rfl, rfl, rfl⟩ | exact ⟨⟨rfl, rfl⟩, rfl⟩ | simp))
  intro n hn
  by_cases hn5 : n < 5
  · have hle : (n : Int) + 2 ≤ 6 := by omega
    have hol := opsTo_len n
    have hen := enc_ops n
    (repeat' (first | refine WP.seq ?_ | refine WP.block ?_ | ((first | refine WP.region ?_ | refine WP.condW ?_ | refine WP.ret ?_ | refine WP.exit ?_ | refine WP.skip ?_); simp only [go_sem, hle, hol, tyAll, Nat.reduceAdd, Nat.reduceLT, Nat.reduceLeDiff, Nat.reduceEqDiff, Nat.reduceMul, Nat.reduceSub, Nat.reduceGT, reduceIte, Int.reduceNeg, Int.reduceToNat]) | ((first | refine WP.flowZ [0] 15 fl18df023180 [47, 48, 49, 50, 51, 52, 53, 54, 55, 56, 57, 58, 59, 60, 61] [61] [] (by decide +kernel) (by kernel_rfl) (by kernel_rfl) (by kernel_rfl) ?_ | refine WP.flowW 15 fl18df023180 [47, 48, 49, 50, 51, 52, 53, 54, 55, 56, 57, 58, 59, 60, 61] [61] [] (by decide +kernel) (by kernel_rfl) (by kernel_rfl) (by kernel_rfl) ?_); simp only [go_sem, hle, hol, tyAll, Nat.reduceAdd, Nat.reduceLT, Nat.reduceLeDiff, Nat.reduceEqDiff, Nat.reduceMul, Nat.reduceSub, Nat.reduceGT, reduceIte, Int.reduceNeg, Int.reduceToNat]) |  refine And.intro ?_ ?_ | intro _))
    all_goals first | omega | exact ⟨n + 1, by omega, by omega, by rw [hen, show ((n + 1 : Nat) : Int) + 2 = (n : Int) + 2 + 1 by omega]; (first | rfl | exact ⟨rfl, rfl⟩ | exact ⟨rfl, rfl, rfl⟩ | exact ⟨rfl, rfl, rfl, rfl⟩ | exact ⟨rfl, rfl, rfl, rfl, rfl⟩ | exact ⟨⟨rfl, rfl⟩, rfl⟩ | simp)⟩ | skip
    all_goals trace_state
  have hn6 : n = 5 := by omega
  subst hn6
  have hle : ¬ ((5 : Nat) : Int) + 2 ≤ 6 := by omega
  have hsz : (s.size : Int) ≤ 1048576 := by omega
  have hol5 := opsTo_len 5
  have hcl := candS_len s
  cases hu : parseU s with
  | none =>
    have hcn : candNum s = [] := by unfold candNum; rw [hu]
    by_cases h2 : 2 < s.size
    · obtain ⟨m, hm⟩ : ∃ m, s.size = m + 2 := ⟨s.size - 2, by omega⟩
      have h2i : (2 : Int) < s.size := by omega
      have q2 : ((s.size : Int) - 2).toNat = s.size - 2 := by omega
      have q1 : ((s.size : Int) - 1).toNat = s.size - 1 := by omega
      by_cases h47 : s[s.size - 2]! = 47
      · have h47i : (s[s.size - 2]!.toNat : Int) = 47 := by rw [h47]; rfl
        have hcc : candCall s = [⟨7, (s[s.size - 1]!.toNat : Int) - 48, s.extract 0 (s.size - 2)⟩] := if_pos ⟨h2, h47⟩
        have hCe : (candS s).map encTok = ([SV.v (.int .i64 1), SV.v (.int .i64 0), SV.v (.string s)] :: (opsTo 5).map encTok) ++ [[SV.v (.int .i64 7), SV.v (.int .i64 ((s[s.size - 1]!.toNat : Int) - 48)), SV.v (.string (s.extract 0 (s.size - 2)))]] := by unfold candS; rw [hcn, hcc]; simp only [List.append_nil, List.map_append, List.map_cons, List.map_nil, encTok, List.cons_append, List.append_assoc, List.nil_append]
        have hb := s[s.size - 1]!.toNat_lt
        (repeat' (first | refine WP.seq ?_ | refine WP.block ?_ | ((first | refine WP.region ?_ | refine WP.condW ?_ | refine WP.ret ?_ | refine WP.exit ?_ | refine WP.skip ?_); simp only [go_sem, hle, hol5, hu, h2i, q1, q2, h47i, tyAll, Nat.reduceAdd, Nat.reduceLT, Nat.reduceLeDiff, Nat.reduceEqDiff, Nat.reduceMul, Nat.reduceSub, Nat.reduceGT, reduceIte, Int.reduceNeg, Int.reduceToNat]) | ((first | refine WP.flowZ [0] 15 fl18df023180 [47, 48, 49, 50, 51, 52, 53, 54, 55, 56, 57, 58, 59, 60, 61] [61] [] (by decide +kernel) (by kernel_rfl) (by kernel_rfl) (by kernel_rfl) ?_ | refine WP.flowW 15 fl18df023180 [47, 48, 49, 50, 51, 52, 53, 54, 55, 56, 57, 58, 59, 60, 61] [61] [] (by decide +kernel) (by kernel_rfl) (by kernel_rfl) (by kernel_rfl) ?_); simp only [go_sem, hle, hol5, hu, h2i, q1, q2, h47i, tyAll, Nat.reduceAdd, Nat.reduceLT, Nat.reduceLeDiff, Nat.reduceEqDiff, Nat.reduceMul, Nat.reduceSub, Nat.reduceGT, reduceIte, Int.reduceNeg, Int.reduceToNat]) |  refine And.intro ?_ ?_ | intro _))
        all_goals first | omega | (simp only [List.length_append, List.length_map, List.length_cons, List.length_nil, hol5]; omega) | skip
        refine WP.loop (fun k : Nat => ⟨[(0, .v (.string s)), (2, .ptr 2 0 0 0), (4, .own 11), (8, .v (.int .i64 k))], [(2, .box 63 [.v (.int .i64 0), .v (.int .i64 0), .v (.string ⟨#[]⟩)]), (11, .sl 63 3 ((candS s).map encTok))]⟩) (fun k => k ≤ (candS s).length ∧ ∀ i (hi : i < (candS s).length), i < k → ¬ (tokOk (candS s)[i] = true ∧ fmtTok (candS s)[i] = s)) (fun k => (candS s).length - k) 0 (by simp) ?_ ?_
        · rw [hCe]; (simp only [go_sem, tyAll, Nat.reduceAdd, Nat.reduceLT, Nat.reduceLeDiff, Nat.reduceEqDiff, Nat.reduceMul, Nat.reduceSub, Nat.reduceGT, reduceIte, Int.reduceNeg, Int.reduceToNat] <;> (first | rfl | exact ⟨rfl, rfl⟩ | exact ⟨rfl, rfl, rfl⟩ | exact ⟨rfl, rfl, rfl, rfl⟩ | exact ⟨rfl, rfl, rfl, rfl, rfl⟩ | exact ⟨⟨rfl, rfl⟩, rfl⟩ | simp))
        rintro k ⟨hk, hf⟩
        by_cases hlt : k < (candS s).length
        · have hli : (k : Int) < (candS s).length := by omega
          have h1 := rowAt_map encTok (candS s) k hlt
          have h2 := hsm _ (List.getElem_mem hlt)
          have h4 := hnxt k hlt hf
          have h5 := hhit k hlt
          generalize (candS s)[k] = y at h1 h2 h4 h5
          obtain ⟨yk, yn, ys⟩ := y
          rw [encTok] at h1
          simp only at h1
          cases hy : tokOk ⟨yk, yn, ys⟩ with
          | false =>
            (repeat' (first | refine WP.seq ?_ | refine WP.block ?_ | ((first | refine WP.region ?_ | refine WP.condW ?_ | refine WP.ret ?_ | refine WP.exit ?_ | refine WP.skip ?_); simp only [go_sem, hli, h1, hy, tyAll, Nat.reduceAdd, Nat.reduceLT, Nat.reduceLeDiff, Nat.reduceEqDiff, Nat.reduceMul, Nat.reduceSub, Nat.reduceGT, reduceIte, Int.reduceNeg, Int.reduceToNat]) | ((first | refine WP.flowZ [0] 15 fl18df023180 [47, 48, 49, 50, 51, 52, 53, 54, 55, 56, 57, 58, 59, 60, 61] [61] [] (by decide +kernel) (by kernel_rfl) (by kernel_rfl) (by kernel_rfl) ?_ | refine WP.flowW 15 fl18df023180 [47, 48, 49, 50, 51, 52, 53, 54, 55, 56, 57, 58, 59, 60, 61] [61] [] (by decide +kernel) (by kernel_rfl) (by kernel_rfl) (by kernel_rfl) ?_); simp only [go_sem, hli, h1, hy, tyAll, Nat.reduceAdd, Nat.reduceLT, Nat.reduceLeDiff, Nat.reduceEqDiff, Nat.reduceMul, Nat.reduceSub, Nat.reduceGT, reduceIte, Int.reduceNeg, Int.reduceToNat]) |  refine And.intro ?_ ?_ | intro _))
            all_goals first | omega | exact h2 | exact ⟨k + 1, ⟨by omega, h4 (by rw [hy]; simp)⟩, by omega, by (first | rfl | exact ⟨rfl, rfl⟩ | exact ⟨rfl, rfl, rfl⟩ | exact ⟨rfl, rfl, rfl, rfl⟩ | exact ⟨rfl, rfl, rfl, rfl, rfl⟩ | exact ⟨⟨rfl, rfl⟩, rfl⟩ | simp)⟩ | skip
            all_goals trace_state
          | true =>
            by_cases hq : fmtTok ⟨yk, yn, ys⟩ = s
            · have hyes := h5 hy hq
              rw [hyes, tokD_yes hyes]
              (repeat' (first | refine WP.seq ?_ | refine WP.block ?_ | ((first | refine WP.region ?_ | refine WP.condW ?_ | refine WP.ret ?_ | refine WP.exit ?_ | refine WP.skip ?_); simp only [go_sem, hli, h1, hy, hq, tyAll, Nat.reduceAdd, Nat.reduceLT, Nat.reduceLeDiff, Nat.reduceEqDiff, Nat.reduceMul, Nat.reduceSub, Nat.reduceGT, reduceIte, Int.reduceNeg, Int.reduceToNat]) | ((first | refine WP.flowZ [0] 15 fl18df023180 [47, 48, 49, 50, 51, 52, 53, 54, 55, 56, 57, 58, 59, 60, 61] [61] [] (by decide +kernel) (by kernel_rfl) (by kernel_rfl) (by kernel_rfl) ?_ | refine WP.flowW 15 fl18df023180 [47, 48, 49, 50, 51, 52, 53, 54, 55, 56, 57, 58, 59, 60, 61] [61] [] (by decide +kernel) (by kernel_rfl) (by kernel_rfl) (by kernel_rfl) ?_); simp only [go_sem, hli, h1, hy, hq, tyAll, Nat.reduceAdd, Nat.reduceLT, Nat.reduceLeDiff, Nat.reduceEqDiff, Nat.reduceMul, Nat.reduceSub, Nat.reduceGT, reduceIte, Int.reduceNeg, Int.reduceToNat]) |  refine And.intro ?_ ?_ | intro _))
              all_goals first | omega | exact h2 | rfl | exact ⟨_, _, rfl, _, _, rfl, rfl⟩ | skip
              all_goals trace_state
            · (repeat' (first | refine WP.seq ?_ | refine WP.block ?_ | ((first | refine WP.region ?_ | refine WP.condW ?_ | refine WP.ret ?_ | refine WP.exit ?_ | refine WP.skip ?_); simp only [go_sem, hli, h1, hy, hq, tyAll, Nat.reduceAdd, Nat.reduceLT, Nat.reduceLeDiff, Nat.reduceEqDiff, Nat.reduceMul, Nat.reduceSub, Nat.reduceGT, reduceIte, Int.reduceNeg, Int.reduceToNat]) | ((first | refine WP.flowZ [0] 15 fl18df023180 [47, 48, 49, 50, 51, 52, 53, 54, 55, 56, 57, 58, 59, 60, 61] [61] [] (by decide +kernel) (by kernel_rfl) (by kernel_rfl) (by kernel_rfl) ?_ | refine WP.flowW 15 fl18df023180 [47, 48, 49, 50, 51, 52, 53, 54, 55, 56, 57, 58, 59, 60, 61] [61] [] (by decide +kernel) (by kernel_rfl) (by kernel_rfl) (by kernel_rfl) ?_); simp only [go_sem, hli, h1, hy, hq, tyAll, Nat.reduceAdd, Nat.reduceLT, Nat.reduceLeDiff, Nat.reduceEqDiff, Nat.reduceMul, Nat.reduceSub, Nat.reduceGT, reduceIte, Int.reduceNeg, Int.reduceToNat]) |  refine And.intro ?_ ?_ | intro _))
              all_goals first | omega | exact h2 | exact ⟨k + 1, ⟨by omega, h4 (fun e => hq e.2)⟩, by omega, by (first | rfl | exact ⟨rfl, rfl⟩ | exact ⟨rfl, rfl, rfl⟩ | exact ⟨rfl, rfl, rfl, rfl⟩ | exact ⟨rfl, rfl, rfl, rfl, rfl⟩ | exact ⟨⟨rfl, rfl⟩, rfl⟩ | simp)⟩ | skip
              all_goals trace_state
        · have hge : ¬ (k : Int) < (candS s).length := by omega
          have hn := hend fun i hi => hf i hi (by omega)
          rw [hn, tokD_no hn]
          (repeat' (first | refine WP.seq ?_ | refine WP.block ?_ | ((first | refine WP.region ?_ | refine WP.condW ?_ | refine WP.ret ?_ | refine WP.exit ?_ | refine WP.skip ?_); simp only [go_sem, hge, tyAll, Nat.reduceAdd, Nat.reduceLT, Nat.reduceLeDiff, Nat.reduceEqDiff, Nat.reduceMul, Nat.reduceSub, Nat.reduceGT, reduceIte, Int.reduceNeg, Int.reduceToNat]) | ((first | refine WP.flowZ [0] 15 fl18df023180 [47, 48, 49, 50, 51, 52, 53, 54, 55, 56, 57, 58, 59, 60, 61] [61] [] (by decide +kernel) (by kernel_rfl) (by kernel_rfl) (by kernel_rfl) ?_ | refine WP.flowW 15 fl18df023180 [47, 48, 49, 50, 51, 52, 53, 54, 55, 56, 57, 58, 59, 60, 61] [61] [] (by decide +kernel) (by kernel_rfl) (by kernel_rfl) (by kernel_rfl) ?_); simp only [go_sem, hge, tyAll, Nat.reduceAdd, Nat.reduceLT, Nat.reduceLeDiff, Nat.reduceEqDiff, Nat.reduceMul, Nat.reduceSub, Nat.reduceGT, reduceIte, Int.reduceNeg, Int.reduceToNat]) |  refine And.intro ?_ ?_ | intro _))
          all_goals first | omega | rfl | exact ⟨_, _, rfl, _, _, rfl, rfl⟩ | skip
          all_goals trace_state
      · have h47i : ¬ (s[s.size - 2]!.toNat : Int) = 47 := fun e => h47 (UInt8.toNat_inj.1 (by show _ = 47; omega))
        have hcc : candCall s = [] := if_neg fun e => h47 e.2
        have hCe : (candS s).map encTok = ([SV.v (.int .i64 1), SV.v (.int .i64 0), SV.v (.string s)] :: (opsTo 5).map encTok) := by unfold candS; rw [hcn, hcc]; simp only [List.append_nil, List.map_append, List.map_cons, List.map_nil, encTok, List.cons_append, List.append_assoc, List.nil_append]
        (repeat' (first | refine WP.seq ?_ | refine WP.block ?_ | ((first | refine WP.region ?_ | refine WP.condW ?_ | refine WP.ret ?_ | refine WP.exit ?_ | refine WP.skip ?_); simp only [go_sem, hle, hol5, hu, h2i, q1, q2, h47i, tyAll, Nat.reduceAdd, Nat.reduceLT, Nat.reduceLeDiff, Nat.reduceEqDiff, Nat.reduceMul, Nat.reduceSub, Nat.reduceGT, reduceIte, Int.reduceNeg, Int.reduceToNat]) | ((first | refine WP.flowZ [0] 15 fl18df023180 [47, 48, 49, 50, 51, 52, 53, 54, 55, 56, 57, 58, 59, 60, 61] [61] [] (by decide +kernel) (by kernel_rfl) (by kernel_rfl) (by kernel_rfl) ?_ | refine WP.flowW 15 fl18df023180 [47, 48, 49, 50, 51, 52, 53, 54, 55, 56, 57, 58, 59, 60, 61] [61] [] (by decide +kernel) (by kernel_rfl) (by kernel_rfl) (by kernel_rfl) ?_); simp only [go_sem, hle, hol5, hu, h2i, q1, q2, h47i, tyAll, Nat.reduceAdd, Nat.reduceLT, Nat.reduceLeDiff, Nat.reduceEqDiff, Nat.reduceMul, Nat.reduceSub, Nat.reduceGT, reduceIte, Int.reduceNeg, Int.reduceToNat]) |  refine And.intro ?_ ?_ | intro _))
        all_goals first | omega | (simp only [List.length_append, List.length_map, List.length_cons, List.length_nil, hol5]; omega) | skip
        refine WP.loop (fun k : Nat => ⟨[(0, .v (.string s)), (2, .ptr 2 0 0 0), (4, .own 11), (8, .v (.int .i64 k))], [(2, .box 63 [.v (.int .i64 0), .v (.int .i64 0), .v (.string ⟨#[]⟩)]), (11, .sl 63 3 ((candS s).map encTok))]⟩) (fun k => k ≤ (candS s).length ∧ ∀ i (hi : i < (candS s).length), i < k → ¬ (tokOk (candS s)[i] = true ∧ fmtTok (candS s)[i] = s)) (fun k => (candS s).length - k) 0 (by simp) ?_ ?_
        · rw [hCe]; (simp only [go_sem, tyAll, Nat.reduceAdd, Nat.reduceLT, Nat.reduceLeDiff, Nat.reduceEqDiff, Nat.reduceMul, Nat.reduceSub, Nat.reduceGT, reduceIte, Int.reduceNeg, Int.reduceToNat] <;> (first | rfl | exact ⟨rfl, rfl⟩ | exact ⟨rfl, rfl, rfl⟩ | exact ⟨rfl, rfl, rfl, rfl⟩ | exact ⟨rfl, rfl, rfl, rfl, rfl⟩ | exact ⟨⟨rfl, rfl⟩, rfl⟩ | simp))
        rintro k ⟨hk, hf⟩
        by_cases hlt : k < (candS s).length
        · have hli : (k : Int) < (candS s).length := by omega
          have h1 := rowAt_map encTok (candS s) k hlt
          have h2 := hsm _ (List.getElem_mem hlt)
          have h4 := hnxt k hlt hf
          have h5 := hhit k hlt
          generalize (candS s)[k] = y at h1 h2 h4 h5
          obtain ⟨yk, yn, ys⟩ := y
          rw [encTok] at h1
          simp only at h1
          cases hy : tokOk ⟨yk, yn, ys⟩ with
          | false =>
            (repeat' (first | refine WP.seq ?_ | refine WP.block ?_ | ((first | refine WP.region ?_ | refine WP.condW ?_ | refine WP.ret ?_ | refine WP.exit ?_ | refine WP.skip ?_); simp only [go_sem, hli, h1, hy, tyAll, Nat.reduceAdd, Nat.reduceLT, Nat.reduceLeDiff, Nat.reduceEqDiff, Nat.reduceMul, Nat.reduceSub, Nat.reduceGT, reduceIte, Int.reduceNeg, Int.reduceToNat]) | ((first | refine WP.flowZ [0] 15 fl18df023180 [47, 48, 49, 50, 51, 52, 53, 54, 55, 56, 57, 58, 59, 60, 61] [61] [] (by decide +kernel) (by kernel_rfl) (by kernel_rfl) (by kernel_rfl) ?_ | refine WP.flowW 15 fl18df023180 [47, 48, 49, 50, 51, 52, 53, 54, 55, 56, 57, 58, 59, 60, 61] [61] [] (by decide +kernel) (by kernel_rfl) (by kernel_rfl) (by kernel_rfl) ?_); simp only [go_sem, hli, h1, hy, tyAll, Nat.reduceAdd, Nat.reduceLT, Nat.reduceLeDiff, Nat.reduceEqDiff, Nat.reduceMul, Nat.reduceSub, Nat.reduceGT, reduceIte, Int.reduceNeg, Int.reduceToNat]) |  refine And.intro ?_ ?_ | intro _))
            all_goals first | omega | exact h2 | exact ⟨k + 1, ⟨by omega, h4 (by rw [hy]; simp)⟩, by omega, by (first | rfl | exact ⟨rfl, rfl⟩ | exact ⟨rfl, rfl, rfl⟩ | exact ⟨rfl, rfl, rfl, rfl⟩ | exact ⟨rfl, rfl, rfl, rfl, rfl⟩ | exact ⟨⟨rfl, rfl⟩, rfl⟩ | simp)⟩ | skip
            all_goals trace_state
          | true =>
            by_cases hq : fmtTok ⟨yk, yn, ys⟩ = s
            · have hyes := h5 hy hq
              rw [hyes, tokD_yes hyes]
              (repeat' (first | refine WP.seq ?_ | refine WP.block ?_ | ((first | refine WP.region ?_ | refine WP.condW ?_ | refine WP.ret ?_ | refine WP.exit ?_ | refine WP.skip ?_); simp only [go_sem, hli, h1, hy, hq, tyAll, Nat.reduceAdd, Nat.reduceLT, Nat.reduceLeDiff, Nat.reduceEqDiff, Nat.reduceMul, Nat.reduceSub, Nat.reduceGT, reduceIte, Int.reduceNeg, Int.reduceToNat]) | ((first | refine WP.flowZ [0] 15 fl18df023180 [47, 48, 49, 50, 51, 52, 53, 54, 55, 56, 57, 58, 59, 60, 61] [61] [] (by decide +kernel) (by kernel_rfl) (by kernel_rfl) (by kernel_rfl) ?_ | refine WP.flowW 15 fl18df023180 [47, 48, 49, 50, 51, 52, 53, 54, 55, 56, 57, 58, 59, 60, 61] [61] [] (by decide +kernel) (by kernel_rfl) (by kernel_rfl) (by kernel_rfl) ?_); simp only [go_sem, hli, h1, hy, hq, tyAll, Nat.reduceAdd, Nat.reduceLT, Nat.reduceLeDiff, Nat.reduceEqDiff, Nat.reduceMul, Nat.reduceSub, Nat.reduceGT, reduceIte, Int.reduceNeg, Int.reduceToNat]) |  refine And.intro ?_ ?_ | intro _))
              all_goals first | omega | exact h2 | rfl | exact ⟨_, _, rfl, _, _, rfl, rfl⟩ | skip
              all_goals trace_state
            · (repeat' (first | refine WP.seq ?_ | refine WP.block ?_ | ((first | refine WP.region ?_ | refine WP.condW ?_ | refine WP.ret ?_ | refine WP.exit ?_ | refine WP.skip ?_); simp only [go_sem, hli, h1, hy, hq, tyAll, Nat.reduceAdd, Nat.reduceLT, Nat.reduceLeDiff, Nat.reduceEqDiff, Nat.reduceMul, Nat.reduceSub, Nat.reduceGT, reduceIte, Int.reduceNeg, Int.reduceToNat]) | ((first | refine WP.flowZ [0] 15 fl18df023180 [47, 48, 49, 50, 51, 52, 53, 54, 55, 56, 57, 58, 59, 60, 61] [61] [] (by decide +kernel) (by kernel_rfl) (by kernel_rfl) (by kernel_rfl) ?_ | refine WP.flowW 15 fl18df023180 [47, 48, 49, 50, 51, 52, 53, 54, 55, 56, 57, 58, 59, 60, 61] [61] [] (by decide +kernel) (by kernel_rfl) (by kernel_rfl) (by kernel_rfl) ?_); simp only [go_sem, hli, h1, hy, hq, tyAll, Nat.reduceAdd, Nat.reduceLT, Nat.reduceLeDiff, Nat.reduceEqDiff, Nat.reduceMul, Nat.reduceSub, Nat.reduceGT, reduceIte, Int.reduceNeg, Int.reduceToNat]) |  refine And.intro ?_ ?_ | intro _))
              all_goals first | omega | exact h2 | exact ⟨k + 1, ⟨by omega, h4 (fun e => hq e.2)⟩, by omega, by (first | rfl | exact ⟨rfl, rfl⟩ | exact ⟨rfl, rfl, rfl⟩ | exact ⟨rfl, rfl, rfl, rfl⟩ | exact ⟨rfl, rfl, rfl, rfl, rfl⟩ | exact ⟨⟨rfl, rfl⟩, rfl⟩ | simp)⟩ | skip
              all_goals trace_state
        · have hge : ¬ (k : Int) < (candS s).length := by omega
          have hn := hend fun i hi => hf i hi (by omega)
          rw [hn, tokD_no hn]
          (repeat' (first | refine WP.seq ?_ | refine WP.block ?_ | ((first | refine WP.region ?_ | refine WP.condW ?_ | refine WP.ret ?_ | refine WP.exit ?_ | refine WP.skip ?_); simp only [go_sem, hge, tyAll, Nat.reduceAdd, Nat.reduceLT, Nat.reduceLeDiff, Nat.reduceEqDiff, Nat.reduceMul, Nat.reduceSub, Nat.reduceGT, reduceIte, Int.reduceNeg, Int.reduceToNat]) | ((first | refine WP.flowZ [0] 15 fl18df023180 [47, 48, 49, 50, 51, 52, 53, 54, 55, 56, 57, 58, 59, 60, 61] [61] [] (by decide +kernel) (by kernel_rfl) (by kernel_rfl) (by kernel_rfl) ?_ | refine WP.flowW 15 fl18df023180 [47, 48, 49, 50, 51, 52, 53, 54, 55, 56, 57, 58, 59, 60, 61] [61] [] (by decide +kernel) (by kernel_rfl) (by kernel_rfl) (by kernel_rfl) ?_); simp only [go_sem, hge, tyAll, Nat.reduceAdd, Nat.reduceLT, Nat.reduceLeDiff, Nat.reduceEqDiff, Nat.reduceMul, Nat.reduceSub, Nat.reduceGT, reduceIte, Int.reduceNeg, Int.reduceToNat]) |  refine And.intro ?_ ?_ | intro _))
          all_goals first | omega | rfl | exact ⟨_, _, rfl, _, _, rfl, rfl⟩ | skip
          all_goals trace_state
    · have h2i : ¬ (2 : Int) < s.size := by omega
      have hcc : candCall s = [] := if_neg fun e => h2 e.1
      have hCe : (candS s).map encTok = ([SV.v (.int .i64 1), SV.v (.int .i64 0), SV.v (.string s)] :: (opsTo 5).map encTok) := by unfold candS; rw [hcn, hcc]; simp only [List.append_nil, List.map_append, List.map_cons, List.map_nil, encTok, List.cons_append, List.append_assoc, List.nil_append]
      (repeat' (first | (refine WP.regionO (id := 9) ?_; simp only [go_sem, hle, hol5, hu, h2i, tyAll, Nat.reduceAdd, Nat.reduceLT, Nat.reduceLeDiff, Nat.reduceEqDiff, Nat.reduceMul, Nat.reduceSub, Nat.reduceGT, reduceIte, Int.reduceNeg, Int.reduceToNat]) | refine WP.seq ?_ | refine WP.block ?_ | ((first | refine WP.region ?_ | refine WP.condW ?_ | refine WP.ret ?_ | refine WP.exit ?_ | refine WP.skip ?_); simp only [go_sem, hle, hol5, hu, h2i, tyAll, Nat.reduceAdd, Nat.reduceLT, Nat.reduceLeDiff, Nat.reduceEqDiff, Nat.reduceMul, Nat.reduceSub, Nat.reduceGT, reduceIte, Int.reduceNeg, Int.reduceToNat]) | ((first | refine WP.flowZ [0] 15 fl18df023180 [47, 48, 49, 50, 51, 52, 53, 54, 55, 56, 57, 58, 59, 60, 61] [61] [] (by decide +kernel) (by kernel_rfl) (by kernel_rfl) (by kernel_rfl) ?_ | refine WP.flowW 15 fl18df023180 [47, 48, 49, 50, 51, 52, 53, 54, 55, 56, 57, 58, 59, 60, 61] [61] [] (by decide +kernel) (by kernel_rfl) (by kernel_rfl) (by kernel_rfl) ?_); simp only [go_sem, hle, hol5, hu, h2i, tyAll, Nat.reduceAdd, Nat.reduceLT, Nat.reduceLeDiff, Nat.reduceEqDiff, Nat.reduceMul, Nat.reduceSub, Nat.reduceGT, reduceIte, Int.reduceNeg, Int.reduceToNat]) |  refine And.intro ?_ ?_ | intro _))
      all_goals first | omega | (simp only [List.length_append, List.length_map, List.length_cons, List.length_nil, hol5]; omega) | skip
      refine WP.loop (fun k : Nat => ⟨[(0, .v (.string s)), (2, .ptr 2 0 0 0), (4, .own 11), (8, .v (.int .i64 k))], [(2, .box 63 [.v (.int .i64 0), .v (.int .i64 0), .v (.string ⟨#[]⟩)]), (11, .sl 63 3 ((candS s).map encTok))]⟩) (fun k => k ≤ (candS s).length ∧ ∀ i (hi : i < (candS s).length), i < k → ¬ (tokOk (candS s)[i] = true ∧ fmtTok (candS s)[i] = s)) (fun k => (candS s).length - k) 0 (by simp) ?_ ?_
      · rw [hCe]; (simp only [go_sem, tyAll, Nat.reduceAdd, Nat.reduceLT, Nat.reduceLeDiff, Nat.reduceEqDiff, Nat.reduceMul, Nat.reduceSub, Nat.reduceGT, reduceIte, Int.reduceNeg, Int.reduceToNat] <;> (first | rfl | exact ⟨rfl, rfl⟩ | exact ⟨rfl, rfl, rfl⟩ | exact ⟨rfl, rfl, rfl, rfl⟩ | exact ⟨rfl, rfl, rfl, rfl, rfl⟩ | exact ⟨⟨rfl, rfl⟩, rfl⟩ | simp))
      rintro k ⟨hk, hf⟩
      by_cases hlt : k < (candS s).length
      · have hli : (k : Int) < (candS s).length := by omega
        have h1 := rowAt_map encTok (candS s) k hlt
        have h2 := hsm _ (List.getElem_mem hlt)
        have h4 := hnxt k hlt hf
        have h5 := hhit k hlt
        generalize (candS s)[k] = y at h1 h2 h4 h5
        obtain ⟨yk, yn, ys⟩ := y
        rw [encTok] at h1
        simp only at h1
        cases hy : tokOk ⟨yk, yn, ys⟩ with
        | false =>
          (repeat' (first | refine WP.seq ?_ | refine WP.block ?_ | ((first | refine WP.region ?_ | refine WP.condW ?_ | refine WP.ret ?_ | refine WP.exit ?_ | refine WP.skip ?_); simp only [go_sem, hli, h1, hy, tyAll, Nat.reduceAdd, Nat.reduceLT, Nat.reduceLeDiff, Nat.reduceEqDiff, Nat.reduceMul, Nat.reduceSub, Nat.reduceGT, reduceIte, Int.reduceNeg, Int.reduceToNat]) | ((first | refine WP.flowZ [0] 15 fl18df023180 [47, 48, 49, 50, 51, 52, 53, 54, 55, 56, 57, 58, 59, 60, 61] [61] [] (by decide +kernel) (by kernel_rfl) (by kernel_rfl) (by kernel_rfl) ?_ | refine WP.flowW 15 fl18df023180 [47, 48, 49, 50, 51, 52, 53, 54, 55, 56, 57, 58, 59, 60, 61] [61] [] (by decide +kernel) (by kernel_rfl) (by kernel_rfl) (by kernel_rfl) ?_); simp only [go_sem, hli, h1, hy, tyAll, Nat.reduceAdd, Nat.reduceLT, Nat.reduceLeDiff, Nat.reduceEqDiff, Nat.reduceMul, Nat.reduceSub, Nat.reduceGT, reduceIte, Int.reduceNeg, Int.reduceToNat]) |  refine And.intro ?_ ?_ | intro _))
          all_goals first | omega | exact h2 | exact ⟨k + 1, ⟨by omega, h4 (by rw [hy]; simp)⟩, by omega, by (first | rfl | exact ⟨rfl, rfl⟩ | exact ⟨rfl, rfl, rfl⟩ | exact ⟨rfl, rfl, rfl, rfl⟩ | exact ⟨rfl, rfl, rfl, rfl, rfl⟩ | exact ⟨⟨rfl, rfl⟩, rfl⟩ | simp)⟩ | skip
          all_goals trace_state
        | true =>
          by_cases hq : fmtTok ⟨yk, yn, ys⟩ = s
          · have hyes := h5 hy hq
            rw [hyes, tokD_yes hyes]
            (repeat' (first | refine WP.seq ?_ | refine WP.block ?_ | ((first | refine WP.region ?_ | refine WP.condW ?_ | refine WP.ret ?_ | refine WP.exit ?_ | refine WP.skip ?_); simp only [go_sem, hli, h1, hy, hq, tyAll, Nat.reduceAdd, Nat.reduceLT, Nat.reduceLeDiff, Nat.reduceEqDiff, Nat.reduceMul, Nat.reduceSub, Nat.reduceGT, reduceIte, Int.reduceNeg, Int.reduceToNat]) | ((first | refine WP.flowZ [0] 15 fl18df023180 [47, 48, 49, 50, 51, 52, 53, 54, 55, 56, 57, 58, 59, 60, 61] [61] [] (by decide +kernel) (by kernel_rfl) (by kernel_rfl) (by kernel_rfl) ?_ | refine WP.flowW 15 fl18df023180 [47, 48, 49, 50, 51, 52, 53, 54, 55, 56, 57, 58, 59, 60, 61] [61] [] (by decide +kernel) (by kernel_rfl) (by kernel_rfl) (by kernel_rfl) ?_); simp only [go_sem, hli, h1, hy, hq, tyAll, Nat.reduceAdd, Nat.reduceLT, Nat.reduceLeDiff, Nat.reduceEqDiff, Nat.reduceMul, Nat.reduceSub, Nat.reduceGT, reduceIte, Int.reduceNeg, Int.reduceToNat]) |  refine And.intro ?_ ?_ | intro _))
            all_goals first | omega | exact h2 | rfl | exact ⟨_, _, rfl, _, _, rfl, rfl⟩ | skip
            all_goals trace_state
          · (repeat' (first | refine WP.seq ?_ | refine WP.block ?_ | ((first | refine WP.region ?_ | refine WP.condW ?_ | refine WP.ret ?_ | refine WP.exit ?_ | refine WP.skip ?_); simp only [go_sem, hli, h1, hy, hq, tyAll, Nat.reduceAdd, Nat.reduceLT, Nat.reduceLeDiff, Nat.reduceEqDiff, Nat.reduceMul, Nat.reduceSub, Nat.reduceGT, reduceIte, Int.reduceNeg, Int.reduceToNat]) | ((first | refine WP.flowZ [0] 15 fl18df023180 [47, 48, 49, 50, 51, 52, 53, 54, 55, 56, 57, 58, 59, 60, 61] [61] [] (by decide +kernel) (by kernel_rfl) (by kernel_rfl) (by kernel_rfl) ?_ | refine WP.flowW 15 fl18df023180 [47, 48, 49, 50, 51, 52, 53, 54, 55, 56, 57, 58, 59, 60, 61] [61] [] (by decide +kernel) (by kernel_rfl) (by kernel_rfl) (by kernel_rfl) ?_); simp only [go_sem, hli, h1, hy, hq, tyAll, Nat.reduceAdd, Nat.reduceLT, Nat.reduceLeDiff, Nat.reduceEqDiff, Nat.reduceMul, Nat.reduceSub, Nat.reduceGT, reduceIte, Int.reduceNeg, Int.reduceToNat]) |  refine And.intro ?_ ?_ | intro _))
            all_goals first | omega | exact h2 | exact ⟨k + 1, ⟨by omega, h4 (fun e => hq e.2)⟩, by omega, by (first | rfl | exact ⟨rfl, rfl⟩ | exact ⟨rfl, rfl, rfl⟩ | exact ⟨rfl, rfl, rfl, rfl⟩ | exact ⟨rfl, rfl, rfl, rfl, rfl⟩ | exact ⟨⟨rfl, rfl⟩, rfl⟩ | simp)⟩ | skip
            all_goals trace_state
      · have hge : ¬ (k : Int) < (candS s).length := by omega
        have hn := hend fun i hi => hf i hi (by omega)
        rw [hn, tokD_no hn]
        (repeat' (first | refine WP.seq ?_ | refine WP.block ?_ | ((first | refine WP.region ?_ | refine WP.condW ?_ | refine WP.ret ?_ | refine WP.exit ?_ | refine WP.skip ?_); simp only [go_sem, hge, tyAll, Nat.reduceAdd, Nat.reduceLT, Nat.reduceLeDiff, Nat.reduceEqDiff, Nat.reduceMul, Nat.reduceSub, Nat.reduceGT, reduceIte, Int.reduceNeg, Int.reduceToNat]) | ((first | refine WP.flowZ [0] 15 fl18df023180 [47, 48, 49, 50, 51, 52, 53, 54, 55, 56, 57, 58, 59, 60, 61] [61] [] (by decide +kernel) (by kernel_rfl) (by kernel_rfl) (by kernel_rfl) ?_ | refine WP.flowW 15 fl18df023180 [47, 48, 49, 50, 51, 52, 53, 54, 55, 56, 57, 58, 59, 60, 61] [61] [] (by decide +kernel) (by kernel_rfl) (by kernel_rfl) (by kernel_rfl) ?_); simp only [go_sem, hge, tyAll, Nat.reduceAdd, Nat.reduceLT, Nat.reduceLeDiff, Nat.reduceEqDiff, Nat.reduceMul, Nat.reduceSub, Nat.reduceGT, reduceIte, Int.reduceNeg, Int.reduceToNat]) |  refine And.intro ?_ ?_ | intro _))
        all_goals first | omega | rfl | exact ⟨_, _, rfl, _, _, rfl, rfl⟩ | skip
        all_goals trace_state
  | some n =>
    by_cases h9 : (n : Int) ≤ 999
    · have hcn : candNum s = [⟨0, (n : Int), ⟨#[]⟩⟩] := by unfold candNum; rw [hu]; simp only; rw [if_pos (by omega)]
      by_cases h2 : 2 < s.size
      · obtain ⟨m, hm⟩ : ∃ m, s.size = m + 2 := ⟨s.size - 2, by omega⟩
        have h2i : (2 : Int) < s.size := by omega
        have q2 : ((s.size : Int) - 2).toNat = s.size - 2 := by omega
        have q1 : ((s.size : Int) - 1).toNat = s.size - 1 := by omega
        by_cases h47 : s[s.size - 2]! = 47
        · have h47i : (s[s.size - 2]!.toNat : Int) = 47 := by rw [h47]; rfl
          have hcc : candCall s = [⟨7, (s[s.size - 1]!.toNat : Int) - 48, s.extract 0 (s.size - 2)⟩] := if_pos ⟨h2, h47⟩
          have hCe : (candS s).map encTok = ([SV.v (.int .i64 1), SV.v (.int .i64 0), SV.v (.string s)] :: (opsTo 5).map encTok) ++ [[SV.v (.int .i64 0), SV.v (.int .i64 (n : Int)), SV.v (.string ⟨#[]⟩)], [SV.v (.int .i64 7), SV.v (.int .i64 ((s[s.size - 1]!.toNat : Int) - 48)), SV.v (.string (s.extract 0 (s.size - 2)))]] := by unfold candS; rw [hcn, hcc]; simp only [List.append_nil, List.map_append, List.map_cons, List.map_nil, encTok, List.cons_append, List.append_assoc, List.nil_append]
          have hb := s[s.size - 1]!.toNat_lt
          (repeat' (first | refine WP.seq ?_ | refine WP.block ?_ | ((first | refine WP.region ?_ | refine WP.condW ?_ | refine WP.ret ?_ | refine WP.exit ?_ | refine WP.skip ?_); simp only [go_sem, hle, hol5, hu, h9, h2i, q1, q2, h47i, tyAll, Nat.reduceAdd, Nat.reduceLT, Nat.reduceLeDiff, Nat.reduceEqDiff, Nat.reduceMul, Nat.reduceSub, Nat.reduceGT, reduceIte, Int.reduceNeg, Int.reduceToNat]) | ((first | refine WP.flowZ [0] 15 fl18df023180 [47, 48, 49, 50, 51, 52, 53, 54, 55, 56, 57, 58, 59, 60, 61] [61] [] (by decide +kernel) (by kernel_rfl) (by kernel_rfl) (by kernel_rfl) ?_ | refine WP.flowW 15 fl18df023180 [47, 48, 49, 50, 51, 52, 53, 54, 55, 56, 57, 58, 59, 60, 61] [61] [] (by decide +kernel) (by kernel_rfl) (by kernel_rfl) (by kernel_rfl) ?_); simp only [go_sem, hle, hol5, hu, h9, h2i, q1, q2, h47i, tyAll, Nat.reduceAdd, Nat.reduceLT, Nat.reduceLeDiff, Nat.reduceEqDiff, Nat.reduceMul, Nat.reduceSub, Nat.reduceGT, reduceIte, Int.reduceNeg, Int.reduceToNat]) |  refine And.intro ?_ ?_ | intro _))
          all_goals first | omega | (simp only [List.length_append, List.length_map, List.length_cons, List.length_nil, hol5]; omega) | skip
          refine WP.loop (fun k : Nat => ⟨[(0, .v (.string s)), (2, .ptr 2 0 0 0), (4, .own 11), (8, .v (.int .i64 k))], [(2, .box 63 [.v (.int .i64 0), .v (.int .i64 0), .v (.string ⟨#[]⟩)]), (11, .sl 63 3 ((candS s).map encTok))]⟩) (fun k => k ≤ (candS s).length ∧ ∀ i (hi : i < (candS s).length), i < k → ¬ (tokOk (candS s)[i] = true ∧ fmtTok (candS s)[i] = s)) (fun k => (candS s).length - k) 0 (by simp) ?_ ?_
          · rw [hCe]; (simp only [go_sem, tyAll, Nat.reduceAdd, Nat.reduceLT, Nat.reduceLeDiff, Nat.reduceEqDiff, Nat.reduceMul, Nat.reduceSub, Nat.reduceGT, reduceIte, Int.reduceNeg, Int.reduceToNat] <;> (first | rfl | exact ⟨rfl, rfl⟩ | exact ⟨rfl, rfl, rfl⟩ | exact ⟨rfl, rfl, rfl, rfl⟩ | exact ⟨rfl, rfl, rfl, rfl, rfl⟩ | exact ⟨⟨rfl, rfl⟩, rfl⟩ | simp))
          rintro k ⟨hk, hf⟩
          by_cases hlt : k < (candS s).length
          · have hli : (k : Int) < (candS s).length := by omega
            have h1 := rowAt_map encTok (candS s) k hlt
            have h2 := hsm _ (List.getElem_mem hlt)
            have h4 := hnxt k hlt hf
            have h5 := hhit k hlt
            generalize (candS s)[k] = y at h1 h2 h4 h5
            obtain ⟨yk, yn, ys⟩ := y
            rw [encTok] at h1
            simp only at h1
            cases hy : tokOk ⟨yk, yn, ys⟩ with
            | false =>
              (repeat' (first | refine WP.seq ?_ | refine WP.block ?_ | ((first | refine WP.region ?_ | refine WP.condW ?_ | refine WP.ret ?_ | refine WP.exit ?_ | refine WP.skip ?_); simp only [go_sem, hli, h1, hy, tyAll, Nat.reduceAdd, Nat.reduceLT, Nat.reduceLeDiff, Nat.reduceEqDiff, Nat.reduceMul, Nat.reduceSub, Nat.reduceGT, reduceIte, Int.reduceNeg, Int.reduceToNat]) | ((first | refine WP.flowZ [0] 15 fl18df023180 [47, 48, 49, 50, 51, 52, 53, 54, 55, 56, 57, 58, 59, 60, 61] [61] [] (by decide +kernel) (by kernel_rfl) (by kernel_rfl) (by kernel_rfl) ?_ | refine WP.flowW 15 fl18df023180 [47, 48, 49, 50, 51, 52, 53, 54, 55, 56, 57, 58, 59, 60, 61] [61] [] (by decide +kernel) (by kernel_rfl) (by kernel_rfl) (by kernel_rfl) ?_); simp only [go_sem, hli, h1, hy, tyAll, Nat.reduceAdd, Nat.reduceLT, Nat.reduceLeDiff, Nat.reduceEqDiff, Nat.reduceMul, Nat.reduceSub, Nat.reduceGT, reduceIte, Int.reduceNeg, Int.reduceToNat]) |  refine And.intro ?_ ?_ | intro _))
              all_goals first | omega | exact h2 | exact ⟨k + 1, ⟨by omega, h4 (by rw [hy]; simp)⟩, by omega, by (first | rfl | exact ⟨rfl, rfl⟩ | exact ⟨rfl, rfl, rfl⟩ | exact ⟨rfl, rfl, rfl, rfl⟩ | exact ⟨rfl, rfl, rfl, rfl, rfl⟩ | exact ⟨⟨rfl, rfl⟩, rfl⟩ | simp)⟩ | skip
              all_goals trace_state
            | true =>
              by_cases hq : fmtTok ⟨yk, yn, ys⟩ = s
              · have hyes := h5 hy hq
                rw [hyes, tokD_yes hyes]
                (repeat' (first | refine WP.seq ?_ | refine WP.block ?_ | ((first | refine WP.region ?_ | refine WP.condW ?_ | refine WP.ret ?_ | refine WP.exit ?_ | refine WP.skip ?_); simp only [go_sem, hli, h1, hy, hq, tyAll, Nat.reduceAdd, Nat.reduceLT, Nat.reduceLeDiff, Nat.reduceEqDiff, Nat.reduceMul, Nat.reduceSub, Nat.reduceGT, reduceIte, Int.reduceNeg, Int.reduceToNat]) | ((first | refine WP.flowZ [0] 15 fl18df023180 [47, 48, 49, 50, 51, 52, 53, 54, 55, 56, 57, 58, 59, 60, 61] [61] [] (by decide +kernel) (by kernel_rfl) (by kernel_rfl) (by kernel_rfl) ?_ | refine WP.flowW 15 fl18df023180 [47, 48, 49, 50, 51, 52, 53, 54, 55, 56, 57, 58, 59, 60, 61] [61] [] (by decide +kernel) (by kernel_rfl) (by kernel_rfl) (by kernel_rfl) ?_); simp only [go_sem, hli, h1, hy, hq, tyAll, Nat.reduceAdd, Nat.reduceLT, Nat.reduceLeDiff, Nat.reduceEqDiff, Nat.reduceMul, Nat.reduceSub, Nat.reduceGT, reduceIte, Int.reduceNeg, Int.reduceToNat]) |  refine And.intro ?_ ?_ | intro _))
                all_goals first | omega | exact h2 | rfl | exact ⟨_, _, rfl, _, _, rfl, rfl⟩ | skip
                all_goals trace_state
              · (repeat' (first | refine WP.seq ?_ | refine WP.block ?_ | ((first | refine WP.region ?_ | refine WP.condW ?_ | refine WP.ret ?_ | refine WP.exit ?_ | refine WP.skip ?_); simp only [go_sem, hli, h1, hy, hq, tyAll, Nat.reduceAdd, Nat.reduceLT, Nat.reduceLeDiff, Nat.reduceEqDiff, Nat.reduceMul, Nat.reduceSub, Nat.reduceGT, reduceIte, Int.reduceNeg, Int.reduceToNat]) | ((first | refine WP.flowZ [0] 15 fl18df023180 [47, 48, 49, 50, 51, 52, 53, 54, 55, 56, 57, 58, 59, 60, 61] [61] [] (by decide +kernel) (by kernel_rfl) (by kernel_rfl) (by kernel_rfl) ?_ | refine WP.flowW 15 fl18df023180 [47, 48, 49, 50, 51, 52, 53, 54, 55, 56, 57, 58, 59, 60, 61] [61] [] (by decide +kernel) (by kernel_rfl) (by kernel_rfl) (by kernel_rfl) ?_); simp only [go_sem, hli, h1, hy, hq, tyAll, Nat.reduceAdd, Nat.reduceLT, Nat.reduceLeDiff, Nat.reduceEqDiff, Nat.reduceMul, Nat.reduceSub, Nat.reduceGT, reduceIte, Int.reduceNeg, Int.reduceToNat]) |  refine And.intro ?_ ?_ | intro _))
                all_goals first | omega | exact h2 | exact ⟨k + 1, ⟨by omega, h4 (fun e => hq e.2)⟩, by omega, by (first | rfl | exact ⟨rfl, rfl⟩ | exact ⟨rfl, rfl, rfl⟩ | exact ⟨rfl, rfl, rfl, rfl⟩ | exact ⟨rfl, rfl, rfl, rfl, rfl⟩ | exact ⟨⟨rfl, rfl⟩, rfl⟩ | simp)⟩ | skip
                all_goals trace_state
          · have hge : ¬ (k : Int) < (candS s).length := by omega
            have hn := hend fun i hi => hf i hi (by omega)
            rw [hn, tokD_no hn]
            (repeat' (first | refine WP.seq ?_ | refine WP.block ?_ | ((first | refine WP.region ?_ | refine WP.condW ?_ | refine WP.ret ?_ | refine WP.exit ?_ | refine WP.skip ?_); simp only [go_sem, hge, tyAll, Nat.reduceAdd, Nat.reduceLT, Nat.reduceLeDiff, Nat.reduceEqDiff, Nat.reduceMul, Nat.reduceSub, Nat.reduceGT, reduceIte, Int.reduceNeg, Int.reduceToNat]) | ((first | refine WP.flowZ [0] 15 fl18df023180 [47, 48, 49, 50, 51, 52, 53, 54, 55, 56, 57, 58, 59, 60, 61] [61] [] (by decide +kernel) (by kernel_rfl) (by kernel_rfl) (by kernel_rfl) ?_ | refine WP.flowW 15 fl18df023180 [47, 48, 49, 50, 51, 52, 53, 54, 55, 56, 57, 58, 59, 60, 61] [61] [] (by decide +kernel) (by kernel_rfl) (by kernel_rfl) (by kernel_rfl) ?_); simp only [go_sem, hge, tyAll, Nat.reduceAdd, Nat.reduceLT, Nat.reduceLeDiff, Nat.reduceEqDiff, Nat.reduceMul, Nat.reduceSub, Nat.reduceGT, reduceIte, Int.reduceNeg, Int.reduceToNat]) |  refine And.intro ?_ ?_ | intro _))
            all_goals first | omega | rfl | exact ⟨_, _, rfl, _, _, rfl, rfl⟩ | skip
            all_goals trace_state
        · have h47i : ¬ (s[s.size - 2]!.toNat : Int) = 47 := fun e => h47 (UInt8.toNat_inj.1 (by show _ = 47; omega))
          have hcc : candCall s = [] := if_neg fun e => h47 e.2
          have hCe : (candS s).map encTok = ([SV.v (.int .i64 1), SV.v (.int .i64 0), SV.v (.string s)] :: (opsTo 5).map encTok) ++ [[SV.v (.int .i64 0), SV.v (.int .i64 (n : Int)), SV.v (.string ⟨#[]⟩)]] := by unfold candS; rw [hcn, hcc]; simp only [List.append_nil, List.map_append, List.map_cons, List.map_nil, encTok, List.cons_append, List.append_assoc, List.nil_append]
          (repeat' (first | refine WP.seq ?_ | refine WP.block ?_ | ((first | refine WP.region ?_ | refine WP.condW ?_ | refine WP.ret ?_ | refine WP.exit ?_ | refine WP.skip ?_); simp only [go_sem, hle, hol5, hu, h9, h2i, q1, q2, h47i, tyAll, Nat.reduceAdd, Nat.reduceLT, Nat.reduceLeDiff, Nat.reduceEqDiff, Nat.reduceMul, Nat.reduceSub, Nat.reduceGT, reduceIte, Int.reduceNeg, Int.reduceToNat]) | ((first | refine WP.flowZ [0] 15 fl18df023180 [47, 48, 49, 50, 51, 52, 53, 54, 55, 56, 57, 58, 59, 60, 61] [61] [] (by decide +kernel) (by kernel_rfl) (by kernel_rfl) (by kernel_rfl) ?_ | refine WP.flowW 15 fl18df023180 [47, 48, 49, 50, 51, 52, 53, 54, 55, 56, 57, 58, 59, 60, 61] [61] [] (by decide +kernel) (by kernel_rfl) (by kernel_rfl) (by kernel_rfl) ?_); simp only [go_sem, hle, hol5, hu, h9, h2i, q1, q2, h47i, tyAll, Nat.reduceAdd, Nat.reduceLT, Nat.reduceLeDiff, Nat.reduceEqDiff, Nat.reduceMul, Nat.reduceSub, Nat.reduceGT, reduceIte, Int.reduceNeg, Int.reduceToNat]) |  refine And.intro ?_ ?_ | intro _))
          all_goals first | omega | (simp only [List.length_append, List.length_map, List.length_cons, List.length_nil, hol5]; omega) | skip
          refine WP.loop (fun k : Nat => ⟨[(0, .v (.string s)), (2, .ptr 2 0 0 0), (4, .own 11), (8, .v (.int .i64 k))], [(2, .box 63 [.v (.int .i64 0), .v (.int .i64 0), .v (.string ⟨#[]⟩)]), (11, .sl 63 3 ((candS s).map encTok))]⟩) (fun k => k ≤ (candS s).length ∧ ∀ i (hi : i < (candS s).length), i < k → ¬ (tokOk (candS s)[i] = true ∧ fmtTok (candS s)[i] = s)) (fun k => (candS s).length - k) 0 (by simp) ?_ ?_
          · rw [hCe]; (simp only [go_sem, tyAll, Nat.reduceAdd, Nat.reduceLT, Nat.reduceLeDiff, Nat.reduceEqDiff, Nat.reduceMul, Nat.reduceSub, Nat.reduceGT, reduceIte, Int.reduceNeg, Int.reduceToNat] <;> (first | rfl | exact ⟨rfl, rfl⟩ | exact ⟨rfl, rfl, rfl⟩ | exact ⟨rfl, rfl, rfl, rfl⟩ | exact ⟨rfl, rfl, rfl, rfl, rfl⟩ | exact ⟨⟨rfl, rfl⟩, rfl⟩ | simp))
          rintro k ⟨hk, hf⟩
          by_cases hlt : k < (candS s).length
          · have hli : (k : Int) < (candS s).length := by omega
            have h1 := rowAt_map encTok (candS s) k hlt
            have h2 := hsm _ (List.getElem_mem hlt)
            have h4 := hnxt k hlt hf
            have h5 := hhit k hlt
            generalize (candS s)[k] = y at h1 h2 h4 h5
            obtain ⟨yk, yn, ys⟩ := y
            rw [encTok] at h1
            simp only at h1
            cases hy : tokOk ⟨yk, yn, ys⟩ with
            | false =>
              (repeat' (first | refine WP.seq ?_ | refine WP.block ?_ | ((first | refine WP.region ?_ | refine WP.condW ?_ | refine WP.ret ?_ | refine WP.exit ?_ | refine WP.skip ?_); simp only [go_sem, hli, h1, hy, tyAll, Nat.reduceAdd, Nat.reduceLT, Nat.reduceLeDiff, Nat.reduceEqDiff, Nat.reduceMul, Nat.reduceSub, Nat.reduceGT, reduceIte, Int.reduceNeg, Int.reduceToNat]) | ((first | refine WP.flowZ [0] 15 fl18df023180 [47, 48, 49, 50, 51, 52, 53, 54, 55, 56, 57, 58, 59, 60, 61] [61] [] (by decide +kernel) (by kernel_rfl) (by kernel_rfl) (by kernel_rfl) ?_ | refine WP.flowW 15 fl18df023180 [47, 48, 49, 50, 51, 52, 53, 54, 55, 56, 57, 58, 59, 60, 61] [61] [] (by decide +kernel) (by kernel_rfl) (by kernel_rfl) (by kernel_rfl) ?_); simp only [go_sem, hli, h1, hy, tyAll, Nat.reduceAdd, Nat.reduceLT, Nat.reduceLeDiff, Nat.reduceEqDiff, Nat.reduceMul, Nat.reduceSub, Nat.reduceGT, reduceIte, Int.reduceNeg, Int.reduceToNat]) |  refine And.intro ?_ ?_ | intro _))
              all_goals first | omega | exact h2 | exact ⟨k + 1, ⟨by omega, h4 (by rw [hy]; simp)⟩, by omega, by (first | rfl | exact ⟨rfl, rfl⟩ | exact ⟨rfl, rfl, rfl⟩ | exact ⟨rfl, rfl, rfl, rfl⟩ | exact ⟨rfl, rfl, rfl, rfl, rfl⟩ | exact ⟨⟨rfl, rfl⟩, rfl⟩ | simp)⟩ | skip
              all_goals trace_state
            | true =>
              by_cases hq : fmtTok ⟨yk, yn, ys⟩ = s
              · have hyes := h5 hy hq
                rw [hyes, tokD_yes hyes]
                (repeat' (first | refine WP.seq ?_ | refine WP.block ?_ | ((first | refine WP.region ?_ | refine WP.condW ?_ | refine WP.ret ?_ | refine WP.exit ?_ | refine WP.skip ?_); simp only [go_sem, hli, h1, hy, hq, tyAll, Nat.reduceAdd, Nat.reduceLT, Nat.reduceLeDiff, Nat.reduceEqDiff, Nat.reduceMul, Nat.reduceSub, Nat.reduceGT, reduceIte, Int.reduceNeg, Int.reduceToNat]) | ((first | refine WP.flowZ [0] 15 fl18df023180 [47, 48, 49, 50, 51, 52, 53, 54, 55, 56, 57, 58, 59, 60, 61] [61] [] (by decide +kernel) (by kernel_rfl) (by kernel_rfl) (by kernel_rfl) ?_ | refine WP.flowW 15 fl18df023180 [47, 48, 49, 50, 51, 52, 53, 54, 55, 56, 57, 58, 59, 60, 61] [61] [] (by decide +kernel) (by kernel_rfl) (by kernel_rfl) (by kernel_rfl) ?_); simp only [go_sem, hli, h1, hy, hq, tyAll, Nat.reduceAdd, Nat.reduceLT, Nat.reduceLeDiff, Nat.reduceEqDiff, Nat.reduceMul, Nat.reduceSub, Nat.reduceGT, reduceIte, Int.reduceNeg, Int.reduceToNat]) |  refine And.intro ?_ ?_ | intro _))
                all_goals first | omega | exact h2 | rfl | exact ⟨_, _, rfl, _, _, rfl, rfl⟩ | skip
                all_goals trace_state
              · (repeat' (first | refine WP.seq ?_ | refine WP.block ?_ | ((first | refine WP.region ?_ | refine WP.condW ?_ | refine WP.ret ?_ | refine WP.exit ?_ | refine WP.skip ?_); simp only [go_sem, hli, h1, hy, hq, tyAll, Nat.reduceAdd, Nat.reduceLT, Nat.reduceLeDiff, Nat.reduceEqDiff, Nat.reduceMul, Nat.reduceSub, Nat.reduceGT, reduceIte, Int.reduceNeg, Int.reduceToNat]) | ((first | refine WP.flowZ [0] 15 fl18df023180 [47, 48, 49, 50, 51, 52, 53, 54, 55, 56, 57, 58, 59, 60, 61] [61] [] (by decide +kernel) (by kernel_rfl) (by kernel_rfl) (by kernel_rfl) ?_ | refine WP.flowW 15 fl18df023180 [47, 48, 49, 50, 51, 52, 53, 54, 55, 56, 57, 58, 59, 60, 61] [61] [] (by decide +kernel) (by kernel_rfl) (by kernel_rfl) (by kernel_rfl) ?_); simp only [go_sem, hli, h1, hy, hq, tyAll, Nat.reduceAdd, Nat.reduceLT, Nat.reduceLeDiff, Nat.reduceEqDiff, Nat.reduceMul, Nat.reduceSub, Nat.reduceGT, reduceIte, Int.reduceNeg, Int.reduceToNat]) |  refine And.intro ?_ ?_ | intro _))
                all_goals first | omega | exact h2 | exact ⟨k + 1, ⟨by omega, h4 (fun e => hq e.2)⟩, by omega, by (first | rfl | exact ⟨rfl, rfl⟩ | exact ⟨rfl, rfl, rfl⟩ | exact ⟨rfl, rfl, rfl, rfl⟩ | exact ⟨rfl, rfl, rfl, rfl, rfl⟩ | exact ⟨⟨rfl, rfl⟩, rfl⟩ | simp)⟩ | skip
                all_goals trace_state
          · have hge : ¬ (k : Int) < (candS s).length := by omega
            have hn := hend fun i hi => hf i hi (by omega)
            rw [hn, tokD_no hn]
            (repeat' (first | refine WP.seq ?_ | refine WP.block ?_ | ((first | refine WP.region ?_ | refine WP.condW ?_ | refine WP.ret ?_ | refine WP.exit ?_ | refine WP.skip ?_); simp only [go_sem, hge, tyAll, Nat.reduceAdd, Nat.reduceLT, Nat.reduceLeDiff, Nat.reduceEqDiff, Nat.reduceMul, Nat.reduceSub, Nat.reduceGT, reduceIte, Int.reduceNeg, Int.reduceToNat]) | ((first | refine WP.flowZ [0] 15 fl18df023180 [47, 48, 49, 50, 51, 52, 53, 54, 55, 56, 57, 58, 59, 60, 61] [61] [] (by decide +kernel) (by kernel_rfl) (by kernel_rfl) (by kernel_rfl) ?_ | refine WP.flowW 15 fl18df023180 [47, 48, 49, 50, 51, 52, 53, 54, 55, 56, 57, 58, 59, 60, 61] [61] [] (by decide +kernel) (by kernel_rfl) (by kernel_rfl) (by kernel_rfl) ?_); simp only [go_sem, hge, tyAll, Nat.reduceAdd, Nat.reduceLT, Nat.reduceLeDiff, Nat.reduceEqDiff, Nat.reduceMul, Nat.reduceSub, Nat.reduceGT, reduceIte, Int.reduceNeg, Int.reduceToNat]) |  refine And.intro ?_ ?_ | intro _))
            all_goals first | omega | rfl | exact ⟨_, _, rfl, _, _, rfl, rfl⟩ | skip
            all_goals trace_state
      · have h2i : ¬ (2 : Int) < s.size := by omega
        have hcc : candCall s = [] := if_neg fun e => h2 e.1
        have hCe : (candS s).map encTok = ([SV.v (.int .i64 1), SV.v (.int .i64 0), SV.v (.string s)] :: (opsTo 5).map encTok) ++ [[SV.v (.int .i64 0), SV.v (.int .i64 (n : Int)), SV.v (.string ⟨#[]⟩)]] := by unfold candS; rw [hcn, hcc]; simp only [List.append_nil, List.map_append, List.map_cons, List.map_nil, encTok, List.cons_append, List.append_assoc, List.nil_append]
        (repeat' (first | (refine WP.regionO (id := 9) ?_; simp only [go_sem, hle, hol5, hu, h9, h2i, tyAll, Nat.reduceAdd, Nat.reduceLT, Nat.reduceLeDiff, Nat.reduceEqDiff, Nat.reduceMul, Nat.reduceSub, Nat.reduceGT, reduceIte, Int.reduceNeg, Int.reduceToNat]) | refine WP.seq ?_ | refine WP.block ?_ | ((first | refine WP.region ?_ | refine WP.condW ?_ | refine WP.ret ?_ | refine WP.exit ?_ | refine WP.skip ?_); simp only [go_sem, hle, hol5, hu, h9, h2i, tyAll, Nat.reduceAdd, Nat.reduceLT, Nat.reduceLeDiff, Nat.reduceEqDiff, Nat.reduceMul, Nat.reduceSub, Nat.reduceGT, reduceIte, Int.reduceNeg, Int.reduceToNat]) | ((first | refine WP.flowZ [0] 15 fl18df023180 [47, 48, 49, 50, 51, 52, 53, 54, 55, 56, 57, 58, 59, 60, 61] [61] [] (by decide +kernel) (by kernel_rfl) (by kernel_rfl) (by kernel_rfl) ?_ | refine WP.flowW 15 fl18df023180 [47, 48, 49, 50, 51, 52, 53, 54, 55, 56, 57, 58, 59, 60, 61] [61] [] (by decide +kernel) (by kernel_rfl) (by kernel_rfl) (by kernel_rfl) ?_); simp only [go_sem, hle, hol5, hu, h9, h2i, tyAll, Nat.reduceAdd, Nat.reduceLT, Nat.reduceLeDiff, Nat.reduceEqDiff, Nat.reduceMul, Nat.reduceSub, Nat.reduceGT, reduceIte, Int.reduceNeg, Int.reduceToNat]) |  refine And.intro ?_ ?_ | intro _))
        all_goals first | omega | (simp only [List.length_append, List.length_map, List.length_cons, List.length_nil, hol5]; omega) | skip
        refine WP.loop (fun k : Nat => ⟨[(0, .v (.string s)), (2, .ptr 2 0 0 0), (4, .own 11), (8, .v (.int .i64 k))], [(2, .box 63 [.v (.int .i64 0), .v (.int .i64 0), .v (.string ⟨#[]⟩)]), (11, .sl 63 3 ((candS s).map encTok))]⟩) (fun k => k ≤ (candS s).length ∧ ∀ i (hi : i < (candS s).length), i < k → ¬ (tokOk (candS s)[i] = true ∧ fmtTok (candS s)[i] = s)) (fun k => (candS s).length - k) 0 (by simp) ?_ ?_
        · rw [hCe]; (simp only [go_sem, tyAll, Nat.reduceAdd, Nat.reduceLT, Nat.reduceLeDiff, Nat.reduceEqDiff, Nat.reduceMul, Nat.reduceSub, Nat.reduceGT, reduceIte, Int.reduceNeg, Int.reduceToNat] <;> (first | rfl | exact ⟨rfl, rfl⟩ | exact ⟨rfl, rfl, rfl⟩ | exact ⟨rfl, rfl, rfl, rfl⟩ | exact ⟨rfl, rfl, rfl, rfl, rfl⟩ | exact ⟨⟨rfl, rfl⟩, rfl⟩ | simp))
        rintro k ⟨hk, hf⟩
        by_cases hlt : k < (candS s).length
        · have hli : (k : Int) < (candS s).length := by omega
          have h1 := rowAt_map encTok (candS s) k hlt
          have h2 := hsm _ (List.getElem_mem hlt)
          have h4 := hnxt k hlt hf
          have h5 := hhit k hlt
          generalize (candS s)[k] = y at h1 h2 h4 h5
          obtain ⟨yk, yn, ys⟩ := y
          rw [encTok] at h1
          simp only at h1
          cases hy : tokOk ⟨yk, yn, ys⟩ with
          | false =>
            (repeat' (first | refine WP.seq ?_ | refine WP.block ?_ | ((first | refine WP.region ?_ | refine WP.condW ?_ | refine WP.ret ?_ | refine WP.exit ?_ | refine WP.skip ?_); simp only [go_sem, hli, h1, hy, tyAll, Nat.reduceAdd, Nat.reduceLT, Nat.reduceLeDiff, Nat.reduceEqDiff, Nat.reduceMul, Nat.reduceSub, Nat.reduceGT, reduceIte, Int.reduceNeg, Int.reduceToNat]) | ((first | refine WP.flowZ [0] 15 fl18df023180 [47, 48, 49, 50, 51, 52, 53, 54, 55, 56, 57, 58, 59, 60, 61] [61] [] (by decide +kernel) (by kernel_rfl) (by kernel_rfl) (by kernel_rfl) ?_ | refine WP.flowW 15 fl18df023180 [47, 48, 49, 50, 51, 52, 53, 54, 55, 56, 57, 58, 59, 60, 61] [61] [] (by decide +kernel) (by kernel_rfl) (by kernel_rfl) (by kernel_rfl) ?_); simp only [go_sem, hli, h1, hy, tyAll, Nat.reduceAdd, Nat.reduceLT, Nat.reduceLeDiff, Nat.reduceEqDiff, Nat.reduceMul, Nat.reduceSub, Nat.reduceGT, reduceIte, Int.reduceNeg, Int.reduceToNat]) |  refine And.intro ?_ ?_ | intro _))
            all_goals first | omega | exact h2 | exact ⟨k + 1, ⟨by omega, h4 (by rw [hy]; simp)⟩, by omega, by (first | rfl | exact ⟨rfl, rfl⟩ | exact ⟨rfl, rfl, rfl⟩ | exact ⟨rfl, rfl, rfl, rfl⟩ | exact ⟨rfl, rfl, rfl, rfl, rfl⟩ | exact ⟨⟨rfl, rfl⟩, rfl⟩ | simp)⟩ | skip
            all_goals trace_state
          | true =>
            by_cases hq : fmtTok ⟨yk, yn, ys⟩ = s
            · have hyes := h5 hy hq
              rw [hyes, tokD_yes hyes]
              (repeat' (first | refine WP.seq ?_ | refine WP.block ?_ | ((first | refine WP.region ?_ | refine WP.condW ?_ | refine WP.ret ?_ | refine WP.exit ?_ | refine WP.skip ?_); simp only [go_sem, hli, h1, hy, hq, tyAll, Nat.reduceAdd, Nat.reduceLT, Nat.reduceLeDiff, Nat.reduceEqDiff, Nat.reduceMul, Nat.reduceSub, Nat.reduceGT, reduceIte, Int.reduceNeg, Int.reduceToNat]) | ((first | refine WP.flowZ [0] 15 fl18df023180 [47, 48, 49, 50, 51, 52, 53, 54, 55, 56, 57, 58, 59, 60, 61] [61] [] (by decide +kernel) (by kernel_rfl) (by kernel_rfl) (by kernel_rfl) ?_ | refine WP.flowW 15 fl18df023180 [47, 48, 49, 50, 51, 52, 53, 54, 55, 56, 57, 58, 59, 60, 61] [61] [] (by decide +kernel) (by kernel_rfl) (by kernel_rfl) (by kernel_rfl) ?_); simp only [go_sem, hli, h1, hy, hq, tyAll, Nat.reduceAdd, Nat.reduceLT, Nat.reduceLeDiff, Nat.reduceEqDiff, Nat.reduceMul, Nat.reduceSub, Nat.reduceGT, reduceIte, Int.reduceNeg, Int.reduceToNat]) |  refine And.intro ?_ ?_ | intro _))
              all_goals first | omega | exact h2 | rfl | exact ⟨_, _, rfl, _, _, rfl, rfl⟩ | skip
              all_goals trace_state
            · (repeat' (first | refine WP.seq ?_ | refine WP.block ?_ | ((first | refine WP.region ?_ | refine WP.condW ?_ | refine WP.ret ?_ | refine WP.exit ?_ | refine WP.skip ?_); simp only [go_sem, hli, h1, hy, hq, tyAll, Nat.reduceAdd, Nat.reduceLT, Nat.reduceLeDiff, Nat.reduceEqDiff, Nat.reduceMul, Nat.reduceSub, Nat.reduceGT, reduceIte, Int.reduceNeg, Int.reduceToNat]) | ((first | refine WP.flowZ [0] 15 fl18df023180 [47, 48, 49, 50, 51, 52, 53, 54, 55, 56, 57, 58, 59, 60, 61] [61] [] (by decide +kernel) (by kernel_rfl) (by kernel_rfl) (by kernel_rfl) ?_ | refine WP.flowW 15 fl18df023180 [47, 48, 49, 50, 51, 52, 53, 54, 55, 56, 57, 58, 59, 60, 61] [61] [] (by decide +kernel) (by kernel_rfl) (by kernel_rfl) (by kernel_rfl) ?_); simp only [go_sem, hli, h1, hy, hq, tyAll, Nat.reduceAdd, Nat.reduceLT, Nat.reduceLeDiff, Nat.reduceEqDiff, Nat.reduceMul, Nat.reduceSub, Nat.reduceGT, reduceIte, Int.reduceNeg, Int.reduceToNat]) |  refine And.intro ?_ ?_ | intro _))
              all_goals first | omega | exact h2 | exact ⟨k + 1, ⟨by omega, h4 (fun e => hq e.2)⟩, by omega, by (first | rfl | exact ⟨rfl, rfl⟩ | exact ⟨rfl, rfl, rfl⟩ | exact ⟨rfl, rfl, rfl, rfl⟩ | exact ⟨rfl, rfl, rfl, rfl, rfl⟩ | exact ⟨⟨rfl, rfl⟩, rfl⟩ | simp)⟩ | skip
              all_goals trace_state
        · have hge : ¬ (k : Int) < (candS s).length := by omega
          have hn := hend fun i hi => hf i hi (by omega)
          rw [hn, tokD_no hn]
          (repeat' (first | refine WP.seq ?_ | refine WP.block ?_ | ((first | refine WP.region ?_ | refine WP.condW ?_ | refine WP.ret ?_ | refine WP.exit ?_ | refine WP.skip ?_); simp only [go_sem, hge, tyAll, Nat.reduceAdd, Nat.reduceLT, Nat.reduceLeDiff, Nat.reduceEqDiff, Nat.reduceMul, Nat.reduceSub, Nat.reduceGT, reduceIte, Int.reduceNeg, Int.reduceToNat]) | ((first | refine WP.flowZ [0] 15 fl18df023180 [47, 48, 49, 50, 51, 52, 53, 54, 55, 56, 57, 58, 59, 60, 61] [61] [] (by decide +kernel) (by kernel_rfl) (by kernel_rfl) (by kernel_rfl) ?_ | refine WP.flowW 15 fl18df023180 [47, 48, 49, 50, 51, 52, 53, 54, 55, 56, 57, 58, 59, 60, 61] [61] [] (by decide +kernel) (by kernel_rfl) (by kernel_rfl) (by kernel_rfl) ?_); simp only [go_sem, hge, tyAll, Nat.reduceAdd, Nat.reduceLT, Nat.reduceLeDiff, Nat.reduceEqDiff, Nat.reduceMul, Nat.reduceSub, Nat.reduceGT, reduceIte, Int.reduceNeg, Int.reduceToNat]) |  refine And.intro ?_ ?_ | intro _))
          all_goals first | omega | rfl | exact ⟨_, _, rfl, _, _, rfl, rfl⟩ | skip
          all_goals trace_state
    · have hcn : candNum s = [] := by unfold candNum; rw [hu]; simp only; rw [if_neg (by omega)]
      by_cases h2 : 2 < s.size
      · obtain ⟨m, hm⟩ : ∃ m, s.size = m + 2 := ⟨s.size - 2, by omega⟩
        have h2i : (2 : Int) < s.size := by omega
        have q2 : ((s.size : Int) - 2).toNat = s.size - 2 := by omega
        have q1 : ((s.size : Int) - 1).toNat = s.size - 1 := by omega
        by_cases h47 : s[s.size - 2]! = 47
        · have h47i : (s[s.size - 2]!.toNat : Int) = 47 := by rw [h47]; rfl
          have hcc : candCall s = [⟨7, (s[s.size - 1]!.toNat : Int) - 48, s.extract 0 (s.size - 2)⟩] := if_pos ⟨h2, h47⟩
          have hCe : (candS s).map encTok = ([SV.v (.int .i64 1), SV.v (.int .i64 0), SV.v (.string s)] :: (opsTo 5).map encTok) ++ [[SV.v (.int .i64 7), SV.v (.int .i64 ((s[s.size - 1]!.toNat : Int) - 48)), SV.v (.string (s.extract 0 (s.size - 2)))]] := by unfold candS; rw [hcn, hcc]; simp only [List.append_nil, List.map_append, List.map_cons, List.map_nil, encTok, List.cons_append, List.append_assoc, List.nil_append]
          have hb := s[s.size - 1]!.toNat_lt
          (repeat' (first | refine WP.seq ?_ | refine WP.block ?_ | ((first | refine WP.region ?_ | refine WP.condW ?_ | refine WP.ret ?_ | refine WP.exit ?_ | refine WP.skip ?_); simp only [go_sem, hle, hol5, hu, h9, h2i, q1, q2, h47i, tyAll, Nat.reduceAdd, Nat.reduceLT, Nat.reduceLeDiff, Nat.reduceEqDiff, Nat.reduceMul, Nat.reduceSub, Nat.reduceGT, reduceIte, Int.reduceNeg, Int.reduceToNat]) | ((first | refine WP.flowZ [0] 15 fl18df023180 [47, 48, 49, 50, 51, 52, 53, 54, 55, 56, 57, 58, 59, 60, 61] [61] [] (by decide +kernel) (by kernel_rfl) (by kernel_rfl) (by kernel_rfl) ?_ | refine WP.flowW 15 fl18df023180 [47, 48, 49, 50, 51, 52, 53, 54, 55, 56, 57, 58, 59, 60, 61] [61] [] (by decide +kernel) (by kernel_rfl) (by kernel_rfl) (by kernel_rfl) ?_); simp only [go_sem, hle, hol5, hu, h9, h2i, q1, q2, h47i, tyAll, Nat.reduceAdd, Nat.reduceLT, Nat.reduceLeDiff, Nat.reduceEqDiff, Nat.reduceMul, Nat.reduceSub, Nat.reduceGT, reduceIte, Int.reduceNeg, Int.reduceToNat]) |  refine And.intro ?_ ?_ | intro _))
          all_goals first | omega | (simp only [List.length_append, List.length_map, List.length_cons, List.length_nil, hol5]; omega) | skip
          refine WP.loop (fun k : Nat => ⟨[(0, .v (.string s)), (2, .ptr 2 0 0 0), (4, .own 11), (8, .v (.int .i64 k))], [(2, .box 63 [.v (.int .i64 0), .v (.int .i64 0), .v (.string ⟨#[]⟩)]), (11, .sl 63 3 ((candS s).map encTok))]⟩) (fun k => k ≤ (candS s).length ∧ ∀ i (hi : i < (candS s).length), i < k → ¬ (tokOk (candS s)[i] = true ∧ fmtTok (candS s)[i] = s)) (fun k => (candS s).length - k) 0 (by simp) ?_ ?_
          · rw [hCe]; (simp only [go_sem, tyAll, Nat.reduceAdd, Nat.reduceLT, Nat.reduceLeDiff, Nat.reduceEqDiff, Nat.reduceMul, Nat.reduceSub, Nat.reduceGT, reduceIte, Int.reduceNeg, Int.reduceToNat] <;> (first | rfl | exact ⟨rfl, rfl⟩ | exact ⟨rfl, rfl, rfl⟩ | exact ⟨rfl, rfl, rfl, rfl⟩ | exact ⟨rfl, rfl, rfl, rfl, rfl⟩ | exact ⟨⟨rfl, rfl⟩, rfl⟩ | simp))
          rintro k ⟨hk, hf⟩
          by_cases hlt : k < (candS s).length
          · have hli : (k : Int) < (candS s).length := by omega
            have h1 := rowAt_map encTok (candS s) k hlt
            have h2 := hsm _ (List.getElem_mem hlt)
            have h4 := hnxt k hlt hf
            have h5 := hhit k hlt
            generalize (candS s)[k] = y at h1 h2 h4 h5
            obtain ⟨yk, yn, ys⟩ := y
            rw [encTok] at h1
            simp only at h1
            cases hy : tokOk ⟨yk, yn, ys⟩ with
            | false =>
              (repeat' (first | refine WP.seq ?_ | refine WP.block ?_ | ((first | refine WP.region ?_ | refine WP.condW ?_ | refine WP.ret ?_ | refine WP.exit ?_ | refine WP.skip ?_); simp only [go_sem, hli, h1, hy, tyAll, Nat.reduceAdd, Nat.reduceLT, Nat.reduceLeDiff, Nat.reduceEqDiff, Nat.reduceMul, Nat.reduceSub, Nat.reduceGT, reduceIte, Int.reduceNeg, Int.reduceToNat]) | ((first | refine WP.flowZ [0] 15 fl18df023180 [47, 48, 49, 50, 51, 52, 53, 54, 55, 56, 57, 58, 59, 60, 61] [61] [] (by decide +kernel) (by kernel_rfl) (by kernel_rfl) (by kernel_rfl) ?_ | refine WP.flowW 15 fl18df023180 [47, 48, 49, 50, 51, 52, 53, 54, 55, 56, 57, 58, 59, 60, 61] [61] [] (by decide +kernel) (by kernel_rfl) (by kernel_rfl) (by kernel_rfl) ?_); simp only [go_sem, hli, h1, hy, tyAll, Nat.reduceAdd, Nat.reduceLT, Nat.reduceLeDiff, Nat.reduceEqDiff, Nat.reduceMul, Nat.reduceSub, Nat.reduceGT, reduceIte, Int.reduceNeg, Int.reduceToNat]) |  refine And.intro ?_ ?_ | intro _))
              all_goals first | omega | exact h2 | exact ⟨k + 1, ⟨by omega, h4 (by rw [hy]; simp)⟩, by omega, by (first | rfl | exact ⟨rfl, rfl⟩ | exact ⟨rfl, rfl, rfl⟩ | exact ⟨rfl, rfl, rfl, rfl⟩ | exact ⟨rfl, rfl, rfl, rfl, rfl⟩ | exact ⟨⟨rfl, rfl⟩, rfl⟩ | simp)⟩ | skip
              all_goals trace_state
            | true =>
              by_cases hq : fmtTok ⟨yk, yn, ys⟩ = s
              · have hyes := h5 hy hq
                rw [hyes, tokD_yes hyes]
                (repeat' (first | refine WP.seq ?_ | refine WP.block ?_ | ((first | refine WP.region ?_ | refine WP.condW ?_ | refine WP.ret ?_ | refine WP.exit ?_ | refine WP.skip ?_); simp only [go_sem, hli, h1, hy, hq, tyAll, Nat.reduceAdd, Nat.reduceLT, Nat.reduceLeDiff, Nat.reduceEqDiff, Nat.reduceMul, Nat.reduceSub, Nat.reduceGT, reduceIte, Int.reduceNeg, Int.reduceToNat]) | ((first | refine WP.flowZ [0] 15 fl18df023180 [47, 48, 49, 50, 51, 52, 53, 54, 55, 56, 57, 58, 59, 60, 61] [61] [] (by decide +kernel) (by kernel_rfl) (by kernel_rfl) (by kernel_rfl) ?_ | refine WP.flowW 15 fl18df023180 [47, 48, 49, 50, 51, 52, 53, 54, 55, 56, 57, 58, 59, 60, 61] [61] [] (by decide +kernel) (by kernel_rfl) (by kernel_rfl) (by kernel_rfl) ?_); simp only [go_sem, hli, h1, hy, hq, tyAll, Nat.reduceAdd, Nat.reduceLT, Nat.reduceLeDiff, Nat.reduceEqDiff, Nat.reduceMul, Nat.reduceSub, Nat.reduceGT, reduceIte, Int.reduceNeg, Int.reduceToNat]) |  refine And.intro ?_ ?_ | intro _))
                all_goals first | omega | exact h2 | rfl | exact ⟨_, _, rfl, _, _, rfl, rfl⟩ | skip
                all_goals trace_state
              · (repeat' (first | refine WP.seq ?_ | refine WP.block ?_ | ((first | refine WP.region ?_ | refine WP.condW ?_ | refine WP.ret ?_ | refine WP.exit ?_ | refine WP.skip ?_); simp only [go_sem, hli, h1, hy, hq, tyAll, Nat.reduceAdd, Nat.reduceLT, Nat.reduceLeDiff, Nat.reduceEqDiff, Nat.reduceMul, Nat.reduceSub, Nat.reduceGT, reduceIte, Int.reduceNeg, Int.reduceToNat]) | ((first | refine WP.flowZ [0] 15 fl18df023180 [47, 48, 49, 50, 51, 52, 53, 54, 55, 56, 57, 58, 59, 60, 61] [61] [] (by decide +kernel) (by kernel_rfl) (by kernel_rfl) (by kernel_rfl) ?_ | refine WP.flowW 15 fl18df023180 [47, 48, 49, 50, 51, 52, 53, 54, 55, 56, 57, 58, 59, 60, 61] [61] [] (by decide +kernel) (by kernel_rfl) (by kernel_rfl) (by kernel_rfl) ?_); simp only [go_sem, hli, h1, hy, hq, tyAll, Nat.reduceAdd, Nat.reduceLT, Nat.reduceLeDiff, Nat.reduceEqDiff, Nat.reduceMul, Nat.reduceSub, Nat.reduceGT, reduceIte, Int.reduceNeg, Int.reduceToNat]) |  refine And.intro ?_ ?_ | intro _))
                all_goals first | omega | exact h2 | exact ⟨k + 1, ⟨by omega, h4 (fun e => hq e.2)⟩, by omega, by (first | rfl | exact ⟨rfl, rfl⟩ | exact ⟨rfl, rfl, rfl⟩ | exact ⟨rfl, rfl, rfl, rfl⟩ | exact ⟨rfl, rfl, rfl, rfl, rfl⟩ | exact ⟨⟨rfl, rfl⟩, rfl⟩ | simp)⟩ | skip
                all_goals trace_state
          · have hge : ¬ (k : Int) < (candS s).length := by omega
            have hn := hend fun i hi => hf i hi (by omega)
            rw [hn, tokD_no hn]
            (repeat' (first | refine WP.seq ?_ | refine WP.block ?_ | ((first | refine WP.region ?_ | refine WP.condW ?_ | refine WP.ret ?_ | refine WP.exit ?_ | refine WP.skip ?_); simp only [go_sem, hge, tyAll, Nat.reduceAdd, Nat.reduceLT, Nat.reduceLeDiff, Nat.reduceEqDiff, Nat.reduceMul, Nat.reduceSub, Nat.reduceGT, reduceIte, Int.reduceNeg, Int.reduceToNat]) | ((first | refine WP.flowZ [0] 15 fl18df023180 [47, 48, 49, 50, 51, 52, 53, 54, 55, 56, 57, 58, 59, 60, 61] [61] [] (by decide +kernel) (by kernel_rfl) (by kernel_rfl) (by kernel_rfl) ?_ | refine WP.flowW 15 fl18df023180 [47, 48, 49, 50, 51, 52, 53, 54, 55, 56, 57, 58, 59, 60, 61] [61] [] (by decide +kernel) (by kernel_rfl) (by kernel_rfl) (by kernel_rfl) ?_); simp only [go_sem, hge, tyAll, Nat.reduceAdd, Nat.reduceLT, Nat.reduceLeDiff, Nat.reduceEqDiff, Nat.reduceMul, Nat.reduceSub, Nat.reduceGT, reduceIte, Int.reduceNeg, Int.reduceToNat]) |  refine And.intro ?_ ?_ | intro _))
            all_goals first | omega | rfl | exact ⟨_, _, rfl, _, _, rfl, rfl⟩ | skip
            all_goals trace_state
        · have h47i : ¬ (s[s.size - 2]!.toNat : Int) = 47 := fun e => h47 (UInt8.toNat_inj.1 (by show _ = 47; omega))
          have hcc : candCall s = [] := if_neg fun e => h47 e.2
          have hCe : (candS s).map encTok = ([SV.v (.int .i64 1), SV.v (.int .i64 0), SV.v (.string s)] :: (opsTo 5).map encTok) := by unfold candS; rw [hcn, hcc]; simp only [List.append_nil, List.map_append, List.map_cons, List.map_nil, encTok, List.cons_append, List.append_assoc, List.nil_append]
          (repeat' (first | refine WP.seq ?_ | refine WP.block ?_ | ((first | refine WP.region ?_ | refine WP.condW ?_ | refine WP.ret ?_ | refine WP.exit ?_ | refine WP.skip ?_); simp only [go_sem, hle, hol5, hu, h9, h2i, q1, q2, h47i, tyAll, Nat.reduceAdd, Nat.reduceLT, Nat.reduceLeDiff, Nat.reduceEqDiff, Nat.reduceMul, Nat.reduceSub, Nat.reduceGT, reduceIte, Int.reduceNeg, Int.reduceToNat]) | ((first | refine WP.flowZ [0] 15 fl18df023180 [47, 48, 49, 50, 51, 52, 53, 54, 55, 56, 57, 58, 59, 60, 61] [61] [] (by decide +kernel) (by kernel_rfl) (by kernel_rfl) (by kernel_rfl) ?_ | refine WP.flowW 15 fl18df023180 [47, 48, 49, 50, 51, 52, 53, 54, 55, 56, 57, 58, 59, 60, 61] [61] [] (by decide +kernel) (by kernel_rfl) (by kernel_rfl) (by kernel_rfl) ?_); simp only [go_sem, hle, hol5, hu, h9, h2i, q1, q2, h47i, tyAll, Nat.reduceAdd, Nat.reduceLT, Nat.reduceLeDiff, Nat.reduceEqDiff, Nat.reduceMul, Nat.reduceSub, Nat.reduceGT, reduceIte, Int.reduceNeg, Int.reduceToNat]) |  refine And.intro ?_ ?_ | intro _))
          all_goals first | omega | (simp only [List.length_append, List.length_map, List.length_cons, List.length_nil, hol5]; omega) | skip
          refine WP.loop (fun k : Nat => ⟨[(0, .v (.string s)), (2, .ptr 2 0 0 0), (4, .own 11), (8, .v (.int .i64 k))], [(2, .box 63 [.v (.int .i64 0), .v (.int .i64 0), .v (.string ⟨#[]⟩)]), (11, .sl 63 3 ((candS s).map encTok))]⟩) (fun k => k ≤ (candS s).length ∧ ∀ i (hi : i < (candS s).length), i < k → ¬ (tokOk (candS s)[i] = true ∧ fmtTok (candS s)[i] = s)) (fun k => (candS s).length - k) 0 (by simp) ?_ ?_
          · rw [hCe]; (simp only [go_sem, tyAll, Nat.reduceAdd, Nat.reduceLT, Nat.reduceLeDiff, Nat.reduceEqDiff, Nat.reduceMul, Nat.reduceSub, Nat.reduceGT, reduceIte, Int.reduceNeg, Int.reduceToNat] <;> (first | rfl | exact ⟨rfl, rfl⟩ | exact ⟨rfl, rfl, rfl⟩ | exact ⟨rfl, rfl, rfl, rfl⟩ | exact ⟨rfl, rfl, rfl, rfl, rfl⟩ | exact ⟨⟨rfl, rfl⟩, rfl⟩ | simp))
          rintro k ⟨hk, hf⟩
          by_cases hlt : k < (candS s).length
          · have hli : (k : Int) < (candS s).length := by omega
            have h1 := rowAt_map encTok (candS s) k hlt
            have h2 := hsm _ (List.getElem_mem hlt)
            have h4 := hnxt k hlt hf
            have h5 := hhit k hlt
            generalize (candS s)[k] = y at h1 h2 h4 h5
            obtain ⟨yk, yn, ys⟩ := y
            rw [encTok] at h1
            simp only at h1
            cases hy : tokOk ⟨yk, yn, ys⟩ with
            | false =>
              (repeat' (first | refine WP.seq ?_ | refine WP.block ?_ | ((first | refine WP.region ?_ | refine WP.condW ?_ | refine WP.ret ?_ | refine WP.exit ?_ | refine WP.skip ?_); simp only [go_sem, hli, h1, hy, tyAll, Nat.reduceAdd, Nat.reduceLT, Nat.reduceLeDiff, Nat.reduceEqDiff, Nat.reduceMul, Nat.reduceSub, Nat.reduceGT, reduceIte, Int.reduceNeg, Int.reduceToNat]) | ((first | refine WP.flowZ [0] 15 fl18df023180 [47, 48, 49, 50, 51, 52, 53, 54, 55, 56, 57, 58, 59, 60, 61] [61] [] (by decide +kernel) (by kernel_rfl) (by kernel_rfl) (by kernel_rfl) ?_ | refine WP.flowW 15 fl18df023180 [47, 48, 49, 50, 51, 52, 53, 54, 55, 56, 57, 58, 59, 60, 61] [61] [] (by decide +kernel) (by kernel_rfl) (by kernel_rfl) (by kernel_rfl) ?_); simp only [go_sem, hli, h1, hy, tyAll, Nat.reduceAdd, Nat.reduceLT, Nat.reduceLeDiff, Nat.reduceEqDiff, Nat.reduceMul, Nat.reduceSub, Nat.reduceGT, reduceIte, Int.reduceNeg, Int.reduceToNat]) |  refine And.intro ?_ ?_ | intro _))
              all_goals first | omega | exact h2 | exact ⟨k + 1, ⟨by omega, h4 (by rw [hy]; simp)⟩, by omega, by (first | rfl | exact ⟨rfl, rfl⟩ | exact ⟨rfl, rfl, rfl⟩ | exact ⟨rfl, rfl, rfl, rfl⟩ | exact ⟨rfl, rfl, rfl, rfl, rfl⟩ | exact ⟨⟨rfl, rfl⟩, rfl⟩ | simp)⟩ | skip
              all_goals trace_state
            | true =>
              by_cases hq : fmtTok ⟨yk, yn, ys⟩ = s
              · have hyes := h5 hy hq
                rw [hyes, tokD_yes hyes]
                (repeat' (first | refine WP.seq ?_ | refine WP.block ?_ | ((first | refine WP.region ?_ | refine WP.condW ?_ | refine WP.ret ?_ | refine WP.exit ?_ | refine WP.skip ?_); simp only [go_sem, hli, h1, hy, hq, tyAll, Nat.reduceAdd, Nat.reduceLT, Nat.reduceLeDiff, Nat.reduceEqDiff, Nat.reduceMul, Nat.reduceSub, Nat.reduceGT, reduceIte, Int.reduceNeg, Int.reduceToNat]) | ((first | refine WP.flowZ [0] 15 fl18df023180 [47, 48, 49, 50, 51, 52, 53, 54, 55, 56, 57, 58, 59, 60, 61] [61] [] (by decide +kernel) (by kernel_rfl) (by kernel_rfl) (by kernel_rfl) ?_ | refine WP.flowW 15 fl18df023180 [47, 48, 49, 50, 51, 52, 53, 54, 55, 56, 57, 58, 59, 60, 61] [61] [] (by decide +kernel) (by kernel_rfl) (by kernel_rfl) (by kernel_rfl) ?_); simp only [go_sem, hli, h1, hy, hq, tyAll, Nat.reduceAdd, Nat.reduceLT, Nat.reduceLeDiff, Nat.reduceEqDiff, Nat.reduceMul, Nat.reduceSub, Nat.reduceGT, reduceIte, Int.reduceNeg, Int.reduceToNat]) |  refine And.intro ?_ ?_ | intro _))
                all_goals first | omega | exact h2 | rfl | exact ⟨_, _, rfl, _, _, rfl, rfl⟩ | skip
                all_goals trace_state
              · (repeat' (first | refine WP.seq ?_ | refine WP.block ?_ | ((first | refine WP.region ?_ | refine WP.condW ?_ | refine WP.ret ?_ | refine WP.exit ?_ | refine WP.skip ?_); simp only [go_sem, hli, h1, hy, hq, tyAll, Nat.reduceAdd, Nat.reduceLT, Nat.reduceLeDiff, Nat.reduceEqDiff, Nat.reduceMul, Nat.reduceSub, Nat.reduceGT, reduceIte, Int.reduceNeg, Int.reduceToNat]) | ((first | refine WP.flowZ [0] 15 fl18df023180 [47, 48, 49, 50, 51, 52, 53, 54, 55, 56, 57, 58, 59, 60, 61] [61] [] (by decide +kernel) (by kernel_rfl) (by kernel_rfl) (by kernel_rfl) ?_ | refine WP.flowW 15 fl18df023180 [47, 48, 49, 50, 51, 52, 53, 54, 55, 56, 57, 58, 59, 60, 61] [61] [] (by decide +kernel) (by kernel_rfl) (by kernel_rfl) (by kernel_rfl) ?_); simp only [go_sem, hli, h1, hy, hq, tyAll, Nat.reduceAdd, Nat.reduceLT, Nat.reduceLeDiff, Nat.reduceEqDiff, Nat.reduceMul, Nat.reduceSub, Nat.reduceGT, reduceIte, Int.reduceNeg, Int.reduceToNat]) |  refine And.intro ?_ ?_ | intro _))
                all_goals first | omega | exact h2 | exact ⟨k + 1, ⟨by omega, h4 (fun e => hq e.2)⟩, by omega, by (first | rfl | exact ⟨rfl, rfl⟩ | exact ⟨rfl, rfl, rfl⟩ | exact ⟨rfl, rfl, rfl, rfl⟩ | exact ⟨rfl, rfl, rfl, rfl, rfl⟩ | exact ⟨⟨rfl, rfl⟩, rfl⟩ | simp)⟩ | skip
                all_goals trace_state
          · have hge : ¬ (k : Int) < (candS s).length := by omega
            have hn := hend fun i hi => hf i hi (by omega)
            rw [hn, tokD_no hn]
            (repeat' (first | refine WP.seq ?_ | refine WP.block ?_ | ((first | refine WP.region ?_ | refine WP.condW ?_ | refine WP.ret ?_ | refine WP.exit ?_ | refine WP.skip ?_); simp only [go_sem, hge, tyAll, Nat.reduceAdd, Nat.reduceLT, Nat.reduceLeDiff, Nat.reduceEqDiff, Nat.reduceMul, Nat.reduceSub, Nat.reduceGT, reduceIte, Int.reduceNeg, Int.reduceToNat]) | ((first | refine WP.flowZ [0] 15 fl18df023180 [47, 48, 49, 50, 51, 52, 53, 54, 55, 56, 57, 58, 59, 60, 61] [61] [] (by decide +kernel) (by kernel_rfl) (by kernel_rfl) (by kernel_rfl) ?_ | refine WP.flowW 15 fl18df023180 [47, 48, 49, 50, 51, 52, 53, 54, 55, 56, 57, 58, 59, 60, 61] [61] [] (by decide +kernel) (by kernel_rfl) (by kernel_rfl) (by kernel_rfl) ?_); simp only [go_sem, hge, tyAll, Nat.reduceAdd, Nat.reduceLT, Nat.reduceLeDiff, Nat.reduceEqDiff, Nat.reduceMul, Nat.reduceSub, Nat.reduceGT, reduceIte, Int.reduceNeg, Int.reduceToNat]) |  refine And.intro ?_ ?_ | intro _))
            all_goals first | omega | rfl | exact ⟨_, _, rfl, _, _, rfl, rfl⟩ | skip
            all_goals trace_state
      · have h2i : ¬ (2 : Int) < s.size := by omega
        have hcc : candCall s = [] := if_neg fun e => h2 e.1
        have hCe : (candS s).map encTok = ([SV.v (.int .i64 1), SV.v (.int .i64 0), SV.v (.string s)] :: (opsTo 5).map encTok) := by unfold candS; rw [hcn, hcc]; simp only [List.append_nil, List.map_append, List.map_cons, List.map_nil, encTok, List.cons_append, List.append_assoc, List.nil_append]
        (repeat' (first | (refine WP.regionO (id := 9) ?_; simp only [go_sem, hle, hol5, hu, h9, h2i, tyAll, Nat.reduceAdd, Nat.reduceLT, Nat.reduceLeDiff, Nat.reduceEqDiff, Nat.reduceMul, Nat.reduceSub, Nat.reduceGT, reduceIte, Int.reduceNeg, Int.reduceToNat]) | refine WP.seq ?_ | refine WP.block ?_ | ((first | refine WP.region ?_ | refine WP.condW ?_ | refine WP.ret ?_ | refine WP.exit ?_ | refine WP.skip ?_); simp only [go_sem, hle, hol5, hu, h9, h2i, tyAll, Nat.reduceAdd, Nat.reduceLT, Nat.reduceLeDiff, Nat.reduceEqDiff, Nat.reduceMul, Nat.reduceSub, Nat.reduceGT, reduceIte, Int.reduceNeg, Int.reduceToNat]) | ((first | refine WP.flowZ [0] 15 fl18df023180 [47, 48, 49, 50, 51, 52, 53, 54, 55, 56, 57, 58, 59, 60, 61] [61] [] (by decide +kernel) (by kernel_rfl) (by kernel_rfl) (by kernel_rfl) ?_ | refine WP.flowW 15 fl18df023180 [47, 48, 49, 50, 51, 52, 53, 54, 55, 56, 57, 58, 59, 60, 61] [61] [] (by decide +kernel) (by kernel_rfl) (by kernel_rfl) (by kernel_rfl) ?_); simp only [go_sem, hle, hol5, hu, h9, h2i, tyAll, Nat.reduceAdd, Nat.reduceLT, Nat.reduceLeDiff, Nat.reduceEqDiff, Nat.reduceMul, Nat.reduceSub, Nat.reduceGT, reduceIte, Int.reduceNeg, Int.reduceToNat]) |  refine And.intro ?_ ?_ | intro _))
        all_goals first | omega | (simp only [List.length_append, List.length_map, List.length_cons, List.length_nil, hol5]; omega) | skip
        refine WP.loop (fun k : Nat => ⟨[(0, .v (.string s)), (2, .ptr 2 0 0 0), (4, .own 11), (8, .v (.int .i64 k))], [(2, .box 63 [.v (.int .i64 0), .v (.int .i64 0), .v (.string ⟨#[]⟩)]), (11, .sl 63 3 ((candS s).map encTok))]⟩) (fun k => k ≤ (candS s).length ∧ ∀ i (hi : i < (candS s).length), i < k → ¬ (tokOk (candS s)[i] = true ∧ fmtTok (candS s)[i] = s)) (fun k => (candS s).length - k) 0 (by simp) ?_ ?_
        · rw [hCe]; (simp only [go_sem, tyAll, Nat.reduceAdd, Nat.reduceLT, Nat.reduceLeDiff, Nat.reduceEqDiff, Nat.reduceMul, Nat.reduceSub, Nat.reduceGT, reduceIte, Int.reduceNeg, Int.reduceToNat] <;> (first | rfl | exact ⟨rfl, rfl⟩ | exact ⟨rfl, rfl, rfl⟩ | exact ⟨rfl, rfl, rfl, rfl⟩ | exact ⟨rfl, rfl, rfl, rfl, rfl⟩ | exact ⟨⟨rfl, rfl⟩, rfl⟩ | simp))
        rintro k ⟨hk, hf⟩
        by_cases hlt : k < (candS s).length
        · have hli : (k : Int) < (candS s).length := by omega
          have h1 := rowAt_map encTok (candS s) k hlt
          have h2 := hsm _ (List.getElem_mem hlt)
          have h4 := hnxt k hlt hf
          have h5 := hhit k hlt
          generalize (candS s)[k] = y at h1 h2 h4 h5
          obtain ⟨yk, yn, ys⟩ := y
          rw [encTok] at h1
          simp only at h1
          cases hy : tokOk ⟨yk, yn, ys⟩ with
          | false =>
            (repeat' (first | refine WP.seq ?_ | refine WP.block ?_ | ((first | refine WP.region ?_ | refine WP.condW ?_ | refine WP.ret ?_ | refine WP.exit ?_ | refine WP.skip ?_); simp only [go_sem, hli, h1, hy, tyAll, Nat.reduceAdd, Nat.reduceLT, Nat.reduceLeDiff, Nat.reduceEqDiff, Nat.reduceMul, Nat.reduceSub, Nat.reduceGT, reduceIte, Int.reduceNeg, Int.reduceToNat]) | ((first | refine WP.flowZ [0] 15 fl18df023180 [47, 48, 49, 50, 51, 52, 53, 54, 55, 56, 57, 58, 59, 60, 61] [61] [] (by decide +kernel) (by kernel_rfl) (by kernel_rfl) (by kernel_rfl) ?_ | refine WP.flowW 15 fl18df023180 [47, 48, 49, 50, 51, 52, 53, 54, 55, 56, 57, 58, 59, 60, 61] [61] [] (by decide +kernel) (by kernel_rfl) (by kernel_rfl) (by kernel_rfl) ?_); simp only [go_sem, hli, h1, hy, tyAll, Nat.reduceAdd, Nat.reduceLT, Nat.reduceLeDiff, Nat.reduceEqDiff, Nat.reduceMul, Nat.reduceSub, Nat.reduceGT, reduceIte, Int.reduceNeg, Int.reduceToNat]) |  refine And.intro ?_ ?_ | intro _))
            all_goals first | omega | exact h2 | exact ⟨k + 1, ⟨by omega, h4 (by rw [hy]; simp)⟩, by omega, by (first | rfl | exact ⟨rfl, rfl⟩ | exact ⟨rfl, rfl, rfl⟩ | exact ⟨rfl, rfl, rfl, rfl⟩ | exact ⟨rfl, rfl, rfl, rfl, rfl⟩ | exact ⟨⟨rfl, rfl⟩, rfl⟩ | simp)⟩ | skip
            all_goals trace_state
          | true =>
            by_cases hq : fmtTok ⟨yk, yn, ys⟩ = s
            · have hyes := h5 hy hq
              rw [hyes, tokD_yes hyes]
              (repeat' (first | refine WP.seq ?_ | refine WP.block ?_ | ((first | refine WP.region ?_ | refine WP.condW ?_ | refine WP.ret ?_ | refine WP.exit ?_ | refine WP.skip ?_); simp only [go_sem, hli, h1, hy, hq, tyAll, Nat.reduceAdd, Nat.reduceLT, Nat.reduceLeDiff, Nat.reduceEqDiff, Nat.reduceMul, Nat.reduceSub, Nat.reduceGT, reduceIte, Int.reduceNeg, Int.reduceToNat]) | ((first | refine WP.flowZ [0] 15 fl18df023180 [47, 48, 49, 50, 51, 52, 53, 54, 55, 56, 57, 58, 59, 60, 61] [61] [] (by decide +kernel) (by kernel_rfl) (by kernel_rfl) (by kernel_rfl) ?_ | refine WP.flowW 15 fl18df023180 [47, 48, 49, 50, 51, 52, 53, 54, 55, 56, 57, 58, 59, 60, 61] [61] [] (by decide +kernel) (by kernel_rfl) (by kernel_rfl) (by kernel_rfl) ?_); simp only [go_sem, hli, h1, hy, hq, tyAll, Nat.reduceAdd, Nat.reduceLT, Nat.reduceLeDiff, Nat.reduceEqDiff, Nat.reduceMul, Nat.reduceSub, Nat.reduceGT, reduceIte, Int.reduceNeg, Int.reduceToNat]) |  refine And.intro ?_ ?_ | intro _))
              all_goals first | omega | exact h2 | rfl | exact ⟨_, _, rfl, _, _, rfl, rfl⟩ | skip
              all_goals trace_state
            · (repeat' (first | refine WP.seq ?_ | refine WP.block ?_ | ((first | refine WP.region ?_ | refine WP.condW ?_ | refine WP.ret ?_ | refine WP.exit ?_ | refine WP.skip ?_); simp only [go_sem, hli, h1, hy, hq, tyAll, Nat.reduceAdd, Nat.reduceLT, Nat.reduceLeDiff, Nat.reduceEqDiff, Nat.reduceMul, Nat.reduceSub, Nat.reduceGT, reduceIte, Int.reduceNeg, Int.reduceToNat]) | ((first | refine WP.flowZ [0] 15 fl18df023180 [47, 48, 49, 50, 51, 52, 53, 54, 55, 56, 57, 58, 59, 60, 61] [61] [] (by decide +kernel) (by kernel_rfl) (by kernel_rfl) (by kernel_rfl) ?_ | refine WP.flowW 15 fl18df023180 [47, 48, 49, 50, 51, 52, 53, 54, 55, 56, 57, 58, 59, 60, 61] [61] [] (by decide +kernel) (by kernel_rfl) (by kernel_rfl) (by kernel_rfl) ?_); simp only [go_sem, hli, h1, hy, hq, tyAll, Nat.reduceAdd, Nat.reduceLT, Nat.reduceLeDiff, Nat.reduceEqDiff, Nat.reduceMul, Nat.reduceSub, Nat.reduceGT, reduceIte, Int.reduceNeg, Int.reduceToNat]) |  refine And.intro ?_ ?_ | intro _))
              all_goals first | omega | exact h2 | exact ⟨k + 1, ⟨by omega, h4 (fun e => hq e.2)⟩, by omega, by (first | rfl | exact ⟨rfl, rfl⟩ | exact ⟨rfl, rfl, rfl⟩ | exact ⟨rfl, rfl, rfl, rfl⟩ | exact ⟨rfl, rfl, rfl, rfl, rfl⟩ | exact ⟨⟨rfl, rfl⟩, rfl⟩ | simp)⟩ | skip
              all_goals trace_state
        · have hge : ¬ (k : Int) < (candS s).length := by omega
          have hn := hend fun i hi => hf i hi (by omega)
          rw [hn, tokD_no hn]
          (repeat' (first | refine WP.seq ?_ | refine WP.block ?_ | ((first | refine WP.region ?_ | refine WP.condW ?_ | refine WP.ret ?_ | refine WP.exit ?_ | refine WP.skip ?_); simp only [go_sem, hge, tyAll, Nat.reduceAdd, Nat.reduceLT, Nat.reduceLeDiff, Nat.reduceEqDiff, Nat.reduceMul, Nat.reduceSub, Nat.reduceGT, reduceIte, Int.reduceNeg, Int.reduceToNat]) | ((first | refine WP.flowZ [0] 15 fl18df023180 [47, 48, 49, 50, 51, 52, 53, 54, 55, 56, 57, 58, 59, 60, 61] [61] [] (by decide +kernel) (by kernel_rfl) (by kernel_rfl) (by kernel_rfl) ?_ | refine WP.flowW 15 fl18df023180 [47, 48, 49, 50, 51, 52, 53, 54, 55, 56, 57, 58, 59, 60, 61] [61] [] (by decide +kernel) (by kernel_rfl) (by kernel_rfl) (by kernel_rfl) ?_); simp only [go_sem, hge, tyAll, Nat.reduceAdd, Nat.reduceLT, Nat.reduceLeDiff, Nat.reduceEqDiff, Nat.reduceMul, Nat.reduceSub, Nat.reduceGT, reduceIte, Int.reduceNeg, Int.reduceToNat]) |  refine And.intro ?_ ?_ | intro _))
          all_goals first | omega | rfl | exact ⟨_, _, rfl, _, _, rfl, rfl⟩ | skip
          all_goals trace_state
end
end
section
open Go.Vc
set_option linter.unusedSimpArgs false
set_option linter.unusedVariables false
set_option maxHeartbeats 1000000
set_option maxRecDepth 10000
attribute [local irreducible] Go.Vc.WP
attribute [local go_sem] cx0_t cx0_c
attribute [local go_sem] decTok_enc oneTok_f decS_enc St.fzS addL behind St.runO St.stepO
def wfW (W : List ByteArray) : Prop := W.length ≤ 1048576 ∧ ∀ w ∈ W, w.size ≤ 1048576
theorem wfW_mk {W : List ByteArray} (h : W.length ≤ 1048576) (h2 : ∀ w ∈ W, w.size ≤ 1048576) : wfW W := ⟨h, h2⟩
def kPE : Ctr := pur (fun args => decS (aR args 0)) (fun W => [.sl 1 (W.map encS)]) wfW (fun d W => .tup [.own d, .v (.bool (exprOf W).isSome)]) (fun d W => [(d, .sl 63 3 (((exprOf W).getD []).map encTok))])
theorem addT (F : List Tok) (t : Tok) : F.map encTok ++ [[SV.v (.int .i64 t.kind), SV.v (.int .i64 t.num), SV.v (.string t.name)]] = (F ++ [t]).map encTok := by rw [List.map_append]; rfl
theorem tokOk_name {t : Tok} (h : tokOk t = true) : t.name.size ≤ 8 := by
  rcases tokOk_cases h with ⟨a, b, c, d⟩ | ⟨a, b, c⟩ | ⟨a, b, c, d⟩ | ⟨a, b, c, d⟩
  · rw [d]; decide
  · exact (nameOk_letters c).2.2
  · exact (nameOk_letters d).2.2
  · rw [d]; decide
theorem smToks_ok {F : List Tok} (h : F.length ≤ 1048576) (h2 : ∀ t ∈ F, tokOk t = true) : smToks F := ⟨h, fun t ht => by have := tokOk_name (h2 t ht); unfold smTok; omega⟩
theorem eEnd_no {W : List ByteArray} {k : Nat} {F : List Tok} (h : xpInv W k F) (hk : W.length ≤ k) (hc : exprOk F = false) : exprOf W = none := by rw [xpInv_end h hk, hc]; rfl
theorem eEnd_yes {W : List ByteArray} {k : Nat} {F : List Tok} (h : xpInv W k F) (hk : W.length ≤ k) (hc : exprOk F = true) : exprOf W = some F := by rw [xpInv_end h hk, if_pos hc]
section
noncomputable def cxPeI : Cx := { P := Tryd.prog, tys := tys, C := [(47, kPT), (48, kExOk)], hty := tysOk, hC := COk.cons cPTI (COk.cons cExOkI (COk.nil _)) }
theorem cxPeI_t : cxPeI.tys = tys := rfl
theorem cxPeI_c : cxPeI.C = [(47, kPT), (48, kExOk)] := rfl
attribute [local go_sem] cxPeI_t cxPeI_c kPT kExOk
theorem cPEI : Cn Tryd.prog 34 kPE := by
  refine Cn.pur Tryd.func34 (by kernel_rfl) rfl fun d x hx => ?_
  rename List ByteArray => W
  have hL := hx.1
  refine Holds.go (c := cxPeI) Tryd.func34 rfl Tryd.results34 Tryd.ntmps34 (by omega) (by simp) rfl ?_
  intro X0 w0
  (repeat' (first | refine WP.seq ?_ | refine WP.block ?_ | ((first | refine WP.region ?_ | refine WP.condW ?_ | refine WP.ret ?_ | refine WP.exit ?_ | refine WP.skip ?_); simp only [go_sem, tyAll, Nat.reduceAdd, Nat.reduceLT, Nat.reduceLeDiff, Nat.reduceEqDiff, Nat.reduceMul, Nat.reduceSub, Nat.reduceGT, reduceIte, Int.reduceNeg, Int.reduceToNat]) |  refine And.intro ?_ ?_ | intro _))
  all_goals first | omega | skip
  refine WP.loop (fun q : Nat × List Tok => ⟨[(4, .own 9), (10, .sl 1 (W.map encS)), (11, .v (.int .i64 W.length)), (12, .v (.int .i64 q.1))], [(9, .sl 63 3 (q.2.map encTok))]⟩) (fun q => q.1 ≤ W.length ∧ xpInv W q.1 q.2) (fun q => W.length - q.1) (0, []) ⟨by simp, xpInv_zero W⟩ ?_ ?_
  · (simp only [go_sem, tyAll, Nat.reduceAdd, Nat.reduceLT, Nat.reduceLeDiff, Nat.reduceEqDiff, Nat.reduceMul, Nat.reduceSub, Nat.reduceGT, reduceIte, Int.reduceNeg, Int.reduceToNat] <;> (first | rfl | exact ⟨rfl, rfl⟩ | exact ⟨rfl, rfl, rfl⟩ | exact ⟨rfl, rfl, rfl, rfl⟩ | exact ⟨rfl, rfl, rfl, rfl, rfl⟩ | exact ⟨⟨rfl, rfl⟩, rfl⟩ | simp))
  rintro ⟨k, F⟩ ⟨hk, hI⟩
  simp only at hk hI ⊢
  have hFl := hI.2.1
  by_cases hlt : k < W.length
  · have hli : (k : Int) < W.length := by omega
    have h1 := rowAt_map encS W k hlt
    have h2 := hx.2 _ (List.getElem_mem hlt)
    cases ht : tokOf W[k] with
    | none =>
      have hno := xpInv_none hI hlt ht
      rw [hno]
      (repeat' (first | refine WP.seq ?_ | refine WP.block ?_ | ((first | refine WP.region ?_ | refine WP.condW ?_ | refine WP.ret ?_ | refine WP.exit ?_ | refine WP.skip ?_); simp only [go_sem, hli, h1, encS, ht, tyAll, Nat.reduceAdd, Nat.reduceLT, Nat.reduceLeDiff, Nat.reduceEqDiff, Nat.reduceMul, Nat.reduceSub, Nat.reduceGT, reduceIte, Int.reduceNeg, Int.reduceToNat]) |  refine And.intro ?_ ?_ | intro _))
      all_goals first | omega | exact ⟨_, _, rfl⟩ | rfl | skip
      all_goals trace_state
    | some t =>
      have hyes := xpInv_some hI hlt ht
      have htd := tokD_yes ht
      have had := addT F t
      (repeat' (first | refine WP.seq ?_ | refine WP.block ?_ | ((first | refine WP.region ?_ | refine WP.condW ?_ | refine WP.ret ?_ | refine WP.exit ?_ | refine WP.skip ?_); simp only [go_sem, hli, h1, encS, ht, htd, had, tyAll, Nat.reduceAdd, Nat.reduceLT, Nat.reduceLeDiff, Nat.reduceEqDiff, Nat.reduceMul, Nat.reduceSub, Nat.reduceGT, reduceIte, Int.reduceNeg, Int.reduceToNat]) |  refine And.intro ?_ ?_ | intro _))
      all_goals first | omega | exact ⟨(k + 1, F ++ [t]), ⟨by simp only; omega, hyes⟩, by simp only; omega, by (first | rfl | exact ⟨rfl, rfl⟩ | exact ⟨rfl, rfl, rfl⟩ | exact ⟨rfl, rfl, rfl, rfl⟩ | exact ⟨rfl, rfl, rfl, rfl, rfl⟩ | exact ⟨⟨rfl, rfl⟩, rfl⟩ | simp)⟩ | skip
      all_goals trace_state
  · have hge : ¬ (k : Int) < W.length := by omega
    have hsm := smToks_ok (by omega) hI.2.2
    cases hok : exprOk F with
    | false =>
      rw [eEnd_no hI (by omega) hok]
      (repeat' (first | refine WP.seq ?_ | refine WP.block ?_ | ((first | refine WP.region ?_ | refine WP.condW ?_ | refine WP.ret ?_ | refine WP.exit ?_ | refine WP.skip ?_); simp only [go_sem, hge, hok, tyAll, Nat.reduceAdd, Nat.reduceLT, Nat.reduceLeDiff, Nat.reduceEqDiff, Nat.reduceMul, Nat.reduceSub, Nat.reduceGT, reduceIte, Int.reduceNeg, Int.reduceToNat]) |  refine And.intro ?_ ?_ | intro _))
      all_goals first | omega | exact hsm | exact hsm.2 _ ‹_› | exact ⟨_, _, rfl⟩ | rfl | skip
      all_goals trace_state
    | true =>
      rw [eEnd_yes hI (by omega) hok]
      (repeat' (first | refine WP.seq ?_ | refine WP.block ?_ | ((first | refine WP.region ?_ | refine WP.condW ?_ | refine WP.ret ?_ | refine WP.exit ?_ | refine WP.skip ?_); simp only [go_sem, hge, hok, tyAll, Nat.reduceAdd, Nat.reduceLT, Nat.reduceLeDiff, Nat.reduceEqDiff, Nat.reduceMul, Nat.reduceSub, Nat.reduceGT, reduceIte, Int.reduceNeg, Int.reduceToNat]) |  refine And.intro ?_ ?_ | intro _))
      all_goals first | omega | exact hsm | exact hsm.2 _ ‹_› | exact ⟨_, _, rfl⟩ | rfl | skip
      all_goals trace_state
end
section
noncomputable def cxPeS : Cx := { P := Tryd.prog, tys := tys, C := [(39, kPT), (40, kExOk)], hty := tysOk, hC := COk.cons cPTS (COk.cons cExOkS (COk.nil _)) }
theorem cxPeS_t : cxPeS.tys = tys := rfl
theorem cxPeS_c : cxPeS.C = [(39, kPT), (40, kExOk)] := rfl
attribute [local go_sem] cxPeS_t cxPeS_c kPT kExOk
theorem cPES : Cn Tryd.prog 27 kPE := by
  refine Cn.pur Tryd.func27 (by kernel_rfl) rfl fun d x hx => ?_
  rename List ByteArray => W
  have hL := hx.1
  refine Holds.go (c := cxPeS) Tryd.func27 rfl Tryd.results27 Tryd.ntmps27 (by omega) (by simp) rfl ?_
  intro X0 w0
  (repeat' (first | refine WP.seq ?_ | refine WP.block ?_ | ((first | refine WP.region ?_ | refine WP.condW ?_ | refine WP.ret ?_ | refine WP.exit ?_ | refine WP.skip ?_); simp only [go_sem, tyAll, Nat.reduceAdd, Nat.reduceLT, Nat.reduceLeDiff, Nat.reduceEqDiff, Nat.reduceMul, Nat.reduceSub, Nat.reduceGT, reduceIte, Int.reduceNeg, Int.reduceToNat]) |  refine And.intro ?_ ?_ | intro _))
  all_goals first | omega | skip
  refine WP.loop (fun q : Nat × List Tok => ⟨[(0, .sl 1 (W.map encS)), (4, .own 8), (5, .v (.int .i64 q.1))], [(8, .sl 63 3 (q.2.map encTok))]⟩) (fun q => q.1 ≤ W.length ∧ xpInv W q.1 q.2) (fun q => W.length - q.1) (0, []) ⟨by simp, xpInv_zero W⟩ ?_ ?_
  · (simp only [go_sem, tyAll, Nat.reduceAdd, Nat.reduceLT, Nat.reduceLeDiff, Nat.reduceEqDiff, Nat.reduceMul, Nat.reduceSub, Nat.reduceGT, reduceIte, Int.reduceNeg, Int.reduceToNat] <;> (first | rfl | exact ⟨rfl, rfl⟩ | exact ⟨rfl, rfl, rfl⟩ | exact ⟨rfl, rfl, rfl, rfl⟩ | exact ⟨rfl, rfl, rfl, rfl, rfl⟩ | exact ⟨⟨rfl, rfl⟩, rfl⟩ | simp))
  rintro ⟨k, F⟩ ⟨hk, hI⟩
  simp only at hk hI ⊢
  have hFl := hI.2.1
  by_cases hlt : k < W.length
  · have hli : (k : Int) < W.length := by omega
    have h1 := rowAt_map encS W k hlt
    have h2 := hx.2 _ (List.getElem_mem hlt)
    cases ht : tokOf W[k] with
    | none =>
      have hno := xpInv_none hI hlt ht
      rw [hno]
      (repeat' (first | refine WP.seq ?_ | refine WP.block ?_ | ((first | refine WP.region ?_ | refine WP.condW ?_ | refine WP.ret ?_ | refine WP.exit ?_ | refine WP.skip ?_); simp only [go_sem, hli, h1, encS, ht, tyAll, Nat.reduceAdd, Nat.reduceLT, Nat.reduceLeDiff, Nat.reduceEqDiff, Nat.reduceMul, Nat.reduceSub, Nat.reduceGT, reduceIte, Int.reduceNeg, Int.reduceToNat]) |  refine And.intro ?_ ?_ | intro _))
      all_goals first | omega | exact ⟨_, _, rfl⟩ | rfl | skip
      all_goals trace_state
    | some t =>
      have hyes := xpInv_some hI hlt ht
      have htd := tokD_yes ht
      have had := addT F t
      (repeat' (first | refine WP.seq ?_ | refine WP.block ?_ | ((first | refine WP.region ?_ | refine WP.condW ?_ | refine WP.ret ?_ | refine WP.exit ?_ | refine WP.skip ?_); simp only [go_sem, hli, h1, encS, ht, htd, had, tyAll, Nat.reduceAdd, Nat.reduceLT, Nat.reduceLeDiff, Nat.reduceEqDiff, Nat.reduceMul, Nat.reduceSub, Nat.reduceGT, reduceIte, Int.reduceNeg, Int.reduceToNat]) |  refine And.intro ?_ ?_ | intro _))
      all_goals first | omega | exact ⟨(k + 1, F ++ [t]), ⟨by simp only; omega, hyes⟩, by simp only; omega, by (first | rfl | exact ⟨rfl, rfl⟩ | exact ⟨rfl, rfl, rfl⟩ | exact ⟨rfl, rfl, rfl, rfl⟩ | exact ⟨rfl, rfl, rfl, rfl, rfl⟩ | exact ⟨⟨rfl, rfl⟩, rfl⟩ | simp)⟩ | skip
      all_goals trace_state
  · have hge : ¬ (k : Int) < W.length := by omega
    have hsm := smToks_ok (by omega) hI.2.2
    cases hok : exprOk F with
    | false =>
      rw [eEnd_no hI (by omega) hok]
      (repeat' (first | refine WP.seq ?_ | refine WP.block ?_ | ((first | refine WP.region ?_ | refine WP.condW ?_ | refine WP.ret ?_ | refine WP.exit ?_ | refine WP.skip ?_); simp only [go_sem, hge, hok, tyAll, Nat.reduceAdd, Nat.reduceLT, Nat.reduceLeDiff, Nat.reduceEqDiff, Nat.reduceMul, Nat.reduceSub, Nat.reduceGT, reduceIte, Int.reduceNeg, Int.reduceToNat]) |  refine And.intro ?_ ?_ | intro _))
      all_goals first | omega | exact hsm | exact hsm.2 _ ‹_› | exact ⟨_, _, rfl⟩ | rfl | skip
      all_goals trace_state
    | true =>
      rw [eEnd_yes hI (by omega) hok]
      (repeat' (first | refine WP.seq ?_ | refine WP.block ?_ | ((first | refine WP.region ?_ | refine WP.condW ?_ | refine WP.ret ?_ | refine WP.exit ?_ | refine WP.skip ?_); simp only [go_sem, hge, hok, tyAll, Nat.reduceAdd, Nat.reduceLT, Nat.reduceLeDiff, Nat.reduceEqDiff, Nat.reduceMul, Nat.reduceSub, Nat.reduceGT, reduceIte, Int.reduceNeg, Int.reduceToNat]) |  refine And.intro ?_ ?_ | intro _))
      all_goals first | omega | exact hsm | exact hsm.2 _ ‹_› | exact ⟨_, _, rfl⟩ | rfl | skip
      all_goals trace_state
end
end
end Go.Proofs.YtdhkhapbldkkdaaDoor
/-
  DERIVED. Plain lists: which entries of a profile are kept, and as what; what the totals are.
-/
namespace Go.Proofs.YtdhkhapbldkkdaaDoor
set_option linter.unusedVariables false
open Go.Pl

def hasName (s : ByteArray) (f : Frame) : Bool := decide (f.name = s)
def idxF (s : ByteArray) (L : List Frame) : Int := firstIdx (hasName s) L
def frsE (e : Entry) : List Frame := (parseF e.stack).getD []
def mapG (g : List Frame → List Frame) (e : Entry) : Option Entry := if g (frsE e) = [] then none else some ⟨fmtF (g (frsE e)), e.count⟩
def keepS (s : ByteArray) (b : Bool) (e : Entry) : Bool := decide (0 ≤ idxF s (frsE e)) == b
def pick (s : ByteArray) (b : Bool) (L : List Frame) : List Frame := if (decide (0 ≤ idxF s L) == b) = true then L else []
def mapP (g : List Frame → List Frame) (N : List Node) (C : List Int) : List Node × List Int := (profileOf ((entriesOf N C).filterMap (mapG g))).getD ([], [])
theorem pick_len (s : ByteArray) (b : Bool) (L : List Frame) : (pick s b L).length ≤ L.length := by
  unfold pick
  split <;> simp
theorem ent_frs {N : List Node} {C : List Int} {e : Entry} (h : e ∈ entriesOf N C) : frsE e ≠ [] ∧ fmtF (frsE e) = e.stack ∧ (frsE e).all frOk = true ∧ (frsE e).length ≤ N.length ∧ parseF e.stack = some (frsE e) := by
  obtain ⟨k, hk, h1, h2, h3⟩ := entriesOf_parse h
  have : frsE e = stackAt N k := by unfold frsE; rw [h2]; rfl
  rw [this]; exact ⟨h3, h1.symm, stackAt_ok N k, stackAt_len N k, h2⟩
theorem fm_filter {g : List Frame → List Frame} {p : Entry → Bool} : ∀ {L : List Entry}, (∀ e ∈ L, mapG g e = if p e = true then some e else none) → L.filterMap (mapG g) = L.filter p
  | [], _ => rfl
  | e :: L, h => by
    have ih := fm_filter (L := L) fun x hx => h x (List.mem_cons_of_mem _ hx)
    rw [List.filterMap_cons, h e List.mem_cons_self, List.filter_cons, ih]
    cases p e <;> rfl
theorem pick_mapG {N : List Node} {C : List Int} {s : ByteArray} {b : Bool} {e : Entry} (h : e ∈ entriesOf N C) : mapG (pick s b) e = if keepS s b e = true then some e else none := by
  obtain ⟨h1, h2, _⟩ := ent_frs h
  unfold mapG pick keepS
  by_cases hk : (decide (0 ≤ idxF s (frsE e)) == b) = true
  · simp only [if_pos hk]
    rw [if_neg h1, h2]
  · simp only [if_neg hk]
    first | done | rfl | simp
theorem pick_list (N : List Node) (C : List Int) (s : ByteArray) (b : Bool) : (entriesOf N C).filterMap (mapG (pick s b)) = (entriesOf N C).filter (keepS s b) :=
  fm_filter fun e he => pick_mapG he
theorem fm_succ {α β : Type} (g : α → Option β) {L : List α} {k : Nat} (h : k < L.length) : (L.take (k + 1)).filterMap g = (L.take k).filterMap g ++ (g L[k]).toList := by
  rw [List.take_succ_eq_append_getElem h, List.filterMap_append]
  congr 1
  all_goals (cases hg : g L[k] <;> simp [hg])
theorem fl_succ {α : Type} (p : α → Bool) {L : List α} {k : Nat} (h : k < L.length) : (L.take (k + 1)).filter p = (L.take k).filter p ++ (if p L[k] = true then [L[k]] else []) := by
  rw [List.take_succ_eq_append_getElem h, List.filter_append]
  congr 1
  all_goals (cases hg : p L[k] <;> simp [hg])
theorem mp_succ {α β : Type} (f : α → β) {L : List α} {k : Nat} (h : k < L.length) : (L.take (k + 1)).map f = (L.take k).map f ++ [f L[k]] := by
  rw [List.take_succ_eq_append_getElem h, List.map_append]; rfl

/-! ## interning keeps what is right -/
theorem firstIdx_neg {α : Type} {p : α → Bool} {L : List α} (h : firstIdx p L < 0) : ∀ x ∈ L, p x = false := by
  unfold firstIdx at h
  split at h
  · omega
  · rename_i hn
    intro x hx
    have := List.findIdx?_eq_none_iff.1 hn x hx
    simpa using this
theorem stacksOk_snoc {N : List Node} {p : Int} {f : Frame} (h : stacksOk N = true) (hp : -1 ≤ p) (hq : p < N.length) (hf : frOk f = true) (hc : child N p f < 0) : stacksOk (N ++ [mkNode p f]) = true := by
  refine stacksOk_all fun k hk => ?_
  simp only [List.length_append, List.length_cons, List.length_nil] at hk
  rcases Nat.lt_or_ge k N.length with h1 | h1
  · have := stacksOk_at h k h1
    unfold stNode at this ⊢
    rw [List.getElem_append_left h1, List.take_append_of_le_length (by omega)]
    exact this
  · obtain rfl : k = N.length := by omega
    rw [List.getElem_append_right (by omega)]
    simp only [Nat.sub_self, List.getElem_cons_zero]
    refine stNode_iff.2 ⟨hp, by simp only [mkNode]; omega, hf, fun y hy he => ?_⟩
    rw [List.take_append_of_le_length (by omega), List.take_length] at hy
    have := firstIdx_neg hc y hy
    rw [he] at this
    simp [hitNode, mkNode, nodeFr] at this
theorem intGo_ok : ∀ (L : List Frame) (s : List Node × Int), stacksOk s.1 = true → L.all frOk = true → -1 ≤ s.2 → s.2 < s.1.length → stacksOk (intGo L s).1 = true
  | [], s, h, _, _, _ => h
  | f :: L, s, h, ha, h1, h2 => by
    simp only [List.all_cons, Bool.and_eq_true] at ha
    have hb := child_bound s.1 s.2 f
    rw [intGo]
    split
    · rename_i hc
      exact intGo_ok L _ (stacksOk_snoc h h1 h2 ha.1 hc) ha.2 (by simp only; omega) (by simp only [List.length_append, List.length_cons, List.length_nil]; omega)
    · exact intGo_ok L _ h ha.2 hb.1 hb.2
theorem intern_ok {N : List Node} {L : List Frame} (h : stacksOk N = true) : stacksOk (intern N L).1 = true := by
  unfold intern
  split
  · rename_i hh
    exact intGo_ok L (N, -1) h hh.2.2 (by simp only; omega) (by simp only; omega)
  · exact h
theorem intern_pos {N : List Node} {L : List Frame} (h : stacksOk N = true) (hL : L ≠ []) (ha : L.all frOk = true) : 0 ≤ (intern N L).2 ∧ (intern N L).2 < (intern N L).1.length := by
  unfold intern
  rw [if_pos ⟨h, hL, ha⟩]
  exact intGo_at L (N, -1) fun e => absurd e hL

/-! ## sums -/
theorem sum_set : ∀ {C : List Int} {k : Nat} (n : Int), k < C.length → (C.set k (C.getD k 0 + n)).sum = C.sum + n
  | x :: C, 0, n, _ => by simp; omega
  | x :: C, k + 1, n, h => by
    have := sum_set (C := C) (k := k) n (by simpa using h)
    simp only [List.set_cons_succ, List.sum_cons, List.getD_cons_succ]
    rw [this]; omega
theorem sum_nonneg : ∀ {C : List Int}, (∀ x ∈ C, 0 ≤ x) → 0 ≤ C.sum
  | [], _ => by simp
  | x :: C, h => by
    have := sum_nonneg (C := C) fun y hy => h y (List.mem_cons_of_mem _ hy)
    have := h x List.mem_cons_self
    simp only [List.sum_cons]; omega
theorem sum_rep (n : Nat) : (List.replicate n (0 : Int)).sum = 0 := by
  induction n with
  | zero => rfl
  | succ n ih => rw [List.replicate_succ, List.sum_cons, ih]; rfl
theorem cntOk_total {C : List Int} (h0 : ∀ x ∈ C, 0 ≤ x) (ht : C.sum ≤ 1000000000000) : cntOk C = true := by
  unfold cntOk
  refine decide_eq_true fun k hk => ⟨h0 _ (List.getElem_mem hk), ?_⟩
  have h1 := take_sum C k hk
  have h2 : C.sum = (C.take (k + 1)).sum + (C.drop (k + 1)).sum := by rw [← List.sum_append, List.take_append_drop]
  have h3 : 0 ≤ (C.drop (k + 1)).sum := sum_nonneg fun x hx => h0 x (List.mem_of_mem_drop hx)
  omega
theorem cntOk_nonneg {C : List Int} (h : cntOk C = true) : ∀ x ∈ C, 0 ≤ x := fun x hx => by
  obtain ⟨k, hk, rfl⟩ := List.mem_iff_getElem.1 hx
  exact (cntOk_at h k hk).1
theorem addC_sum {C : List Int} {m k : Nat} (n : Int) (hk : k < max C.length m) : (addC C m k n).sum = C.sum + n := by
  unfold addC
  rw [sum_set n (by simp only [List.length_append, List.length_replicate]; omega), List.sum_append, sum_rep]; omega
theorem mem_set' {α : Type} {L : List α} {k : Nat} {x y : α} (h : y ∈ L.set k x) : y = x ∨ y ∈ L := by
  rcases List.mem_or_eq_of_mem_set h with h | h
  · exact .inr h
  · exact .inl h
theorem addC_nonneg {C : List Int} {m k : Nat} {n : Int} (h0 : ∀ x ∈ C, 0 ≤ x) (hn : 0 ≤ n) : ∀ x ∈ addC C m k n, 0 ≤ x := by
  have hD : ∀ x ∈ C ++ List.replicate (m - C.length) (0 : Int), 0 ≤ x := fun x hx => by
    rcases List.mem_append.1 hx with h | h
    · exact h0 x h
    · rw [List.mem_replicate] at h; omega
  intro x hx
  unfold addC at hx
  rcases mem_set' hx with h | h
  · rw [h]
    have : 0 ≤ (C ++ List.replicate (m - C.length) (0 : Int)).getD k 0 := by
      rw [List.getD_eq_getElem?_getD]
      cases hg : (C ++ List.replicate (m - C.length) (0 : Int))[k]? with
      | none => simp
      | some y => exact hD y (List.mem_of_getElem? hg)
    omega
  · exact hD x h
theorem addStack_total {N : List Node} {C : List Int} {L : List Frame} {n : Int} (hp : profileOk N C = true) (hL : L ≠ []) (ha : L.all frOk = true) (h0 : 0 ≤ n) (hs : C.sum + n ≤ 1000000000000) :
    (addStack N C L n).2 = true ∧ (addStack N C L n).1.2.sum = C.sum + n ∧ profileOk (addStack N C L n).1.1 (addStack N C L n).1.2 = true := by
  obtain ⟨p1, p2, p3⟩ := profileOk_iff.1 hp
  have hn := cntOk_nonneg p3
  have hC0 := sum_nonneg hn
  obtain ⟨i0, i1⟩ := intern_pos (N := N) p1 hL ha
  have il := (intern_len N L).1
  have hk : (intern N L).2.toNat < max C.length (intern N L).1.length := by omega
  have hsum := addC_sum (C := C) (m := (intern N L).1.length) n hk
  have hok : profileOk (intern N L).1 (addC C (intern N L).1.length (intern N L).2.toNat n) = true :=
    profileOk_iff.2 ⟨intern_ok p1, by rw [addC_len]; omega, cntOk_total (addC_nonneg hn h0) (by rw [hsum]; exact hs)⟩
  have hcond : profileOk N C = true ∧ 0 ≤ n ∧ n ≤ 1000000000000 ∧ 0 ≤ (intern N L).2 ∧ profileOk (intern N L).1 (addC C (intern N L).1.length (intern N L).2.toNat n) = true := ⟨hp, h0, by omega, i0, hok⟩
  unfold addStack
  rw [if_pos hcond]
  exact ⟨rfl, hsum, hok⟩
def sumE (L : List Entry) : Int := (L.map (·.count)).sum
theorem profGo_total : ∀ (L : List Entry) (s : List Node × List Int), profileOk s.1 s.2 = true → (∀ e ∈ L, frsE e ≠ [] ∧ (frsE e).all frOk = true ∧ parseF e.stack = some (frsE e) ∧ 0 ≤ e.count) → s.2.sum + sumE L ≤ 1000000000000 →
    ∃ t, profGo L s = some t ∧ profileOk t.1 t.2 = true ∧ t.2.sum = s.2.sum + sumE L
  | [], s, h, _, _ => ⟨s, rfl, h, by simp [sumE]⟩
  | e :: L, s, h, he, hs => by
    obtain ⟨e1, e2, e3, e4⟩ := he e List.mem_cons_self
    have hL : 0 ≤ sumE L := sum_nonneg fun x hx => by
      obtain ⟨y, hy, rfl⟩ := List.mem_map.1 hx
      exact (he y (List.mem_cons_of_mem _ hy)).2.2.2
    have hc : sumE (e :: L) = e.count + sumE L := by simp [sumE]
    obtain ⟨a1, a2, a3⟩ := addStack_total (n := e.count) h e1 e2 e4 (by omega)
    obtain ⟨t, t1, t2, t3⟩ := profGo_total L _ a3 (fun x hx => he x (List.mem_cons_of_mem _ hx)) (by rw [a2]; omega)
    exact ⟨t, by rw [profGo_ok e3 a1]; exact t1, t2, by rw [t3, a2]; omega⟩
theorem nilOk : profileOk [] [] = true := by decide
theorem profileOf_total {L : List Entry} (he : ∀ e ∈ L, frsE e ≠ [] ∧ (frsE e).all frOk = true ∧ parseF e.stack = some (frsE e) ∧ 0 ≤ e.count) (hs : sumE L ≤ 1000000000000) :
    ∃ t, profileOf L = some t ∧ profileOk t.1 t.2 = true ∧ t.2.sum = sumE L := by
  obtain ⟨t, h1, h2, h3⟩ := profGo_total L ([], []) nilOk he (by simpa using hs)
  exact ⟨t, h1, h2, by simpa using h3⟩
theorem perm_sum {L M : List Int} (h : L.Perm M) : L.sum = M.sum := by
  induction h with
  | nil => rfl
  | cons x _ ih => simp only [List.sum_cons, ih]
  | swap x y l => simp only [List.sum_cons]; omega
  | trans _ _ h1 h2 => exact h1.trans h2
theorem rawE_sum (N : List Node) (C : List Int) : ∀ n, n ≤ C.length → sumE (rawE N C n) = (C.take n).sum
  | 0, _ => by simp [rawE_zero, sumE]
  | n + 1, h => by
    have ih := rawE_sum N C n (by omega)
    rw [rawE_succ, take_sum C n h, ← ih]
    have e : C.getD n 0 = C[n] := by rw [List.getD_eq_getElem?_getD, List.getElem?_eq_getElem h]; rfl
    unfold entAt
    rw [e]
    split
    · rename_i h0; simp [sumE, h0]
    · simp [sumE]
theorem sumE_entries (N : List Node) (C : List Int) : sumE (entriesOf N C) = totalOf N C := by
  unfold entriesOf totalOf
  split
  · have h1 : ((insAll ltE (rawE N C C.length)).map (·.count)).Perm ((rawE N C C.length).map (·.count)) := (insAll_perm _).map _
    have h2 := perm_sum h1
    have h3 := rawE_sum N C C.length (Nat.le_refl _)
    rw [List.take_length] at h3
    unfold sumE at h3 ⊢
    rw [h2, h3]
  · rfl
theorem sum_filter_le {p : Entry → Bool} : ∀ {L : List Entry}, (∀ e ∈ L, 0 ≤ e.count) → 0 ≤ sumE (L.filter p) ∧ sumE (L.filter p) ≤ sumE L
  | [], _ => by simp [sumE]
  | e :: L, h => by
    obtain ⟨h1, h2⟩ := sum_filter_le (p := p) (L := L) fun x hx => h x (List.mem_cons_of_mem _ hx)
    have h3 := h e List.mem_cons_self
    have hc : sumE (e :: L) = e.count + sumE L := by simp [sumE]
    rw [List.filter_cons]
    split
    · have hd : sumE (e :: L.filter p) = e.count + sumE (L.filter p) := by simp [sumE]
      omega
    · omega
theorem totalOf_bound (N : List Node) (C : List Int) : 0 ≤ totalOf N C ∧ totalOf N C ≤ 1000000000000 := by
  unfold totalOf
  split
  · rename_i h
    have := profileOk_sum h C.length (Nat.le_refl _)
    rw [List.take_length] at this
    exact this
  · omega
theorem filter_total (N : List Node) (C : List Int) (p : Entry → Bool) : ∃ t, profileOf ((entriesOf N C).filter p) = some t ∧ profileOk t.1 t.2 = true ∧ t.2.sum = sumE ((entriesOf N C).filter p) := by
  have hp : ∀ e ∈ entriesOf N C, 0 ≤ e.count := fun e he => by obtain ⟨_, k, _, _, _, h, _⟩ := entriesOf_mem he; omega
  refine profileOf_total (fun e he => ?_) ?_
  · have hm := (List.mem_filter.1 he).1
    obtain ⟨h1, _, h2, _, h3⟩ := ent_frs hm
    exact ⟨h1, h2, h3, hp e hm⟩
  · have h1 := (sum_filter_le (p := p) hp).2
    rw [sumE_entries] at h1
    have := totalOf_bound N C
    omega
theorem filter_totalOf (N : List Node) (C : List Int) (p : Entry → Bool) : totalOf ((profileOf ((entriesOf N C).filter p)).getD ([], [])).1 ((profileOf ((entriesOf N C).filter p)).getD ([], [])).2 = sumE ((entriesOf N C).filter p) := by
  obtain ⟨t, h1, h2, h3⟩ := filter_total N C p
  rw [h1]
  simp only [Option.getD_some]
  unfold totalOf
  rw [if_pos h2, h3]
/-! ## the first frames -/
def topF (n : Int) (L : List Frame) : List Frame := L.take n.toNat
theorem topF_len (n : Int) (L : List Frame) : (topF n L).length ≤ L.length := by
  unfold topF; rw [List.length_take]; omega
def topE (n : Int) (e : Entry) : Entry := ⟨fmtF (topF n (frsE e)), e.count⟩
theorem top_list (N : List Node) (C : List Int) {n : Int} (hn : 1 ≤ n) : (entriesOf N C).filterMap (mapG (topF n)) = (entriesOf N C).map (topE n) := by
  have : ∀ L : List Entry, (∀ e ∈ L, e ∈ entriesOf N C) → L.filterMap (mapG (topF n)) = L.map (topE n) := by
    intro L
    induction L with
    | nil => intro _; rfl
    | cons e L ih =>
      intro h
      have h1 := (ent_frs (h e List.mem_cons_self)).1
      have h2 : topF n (frsE e) ≠ [] := by
        unfold topF
        cases hf : frsE e with
        | nil => exact absurd hf h1
        | cons a b =>
          obtain ⟨m, hm⟩ : ∃ m, n.toNat = m + 1 := ⟨n.toNat - 1, by omega⟩
          rw [hm, List.take_succ_cons]; simp
      rw [List.filterMap_cons, List.map_cons, ih fun x hx => h x (List.mem_cons_of_mem _ hx)]
      unfold mapG
      rw [if_neg h2]
      rfl
  exact this _ fun _ h => h
/-! ## how large a profile becomes -/
theorem profGo_len {B : Nat} : ∀ (L : List Entry) (s : List Node × List Int) (m : Nat), (∀ e ∈ L, ∀ f, parseF e.stack = some f → f.length ≤ B) → s.1.length ≤ m → s.2.length ≤ m → ∀ t, profGo L s = some t → t.1.length ≤ m + B * L.length ∧ t.2.length ≤ m + B * L.length
  | [], s, m, _, h1, h2, t, ht => by
    rw [profGo] at ht
    cases ht
    simp only [List.length_nil, Nat.mul_zero, Nat.add_zero]
    exact ⟨h1, h2⟩
  | e :: L, s, m, he, h1, h2, t, ht => by
    cases hp : parseF e.stack with
    | none => rw [profGo_no hp] at ht; cases ht
    | some f =>
      cases hb : (addStack s.1 s.2 f e.count).2 with
      | false => rw [profGo_bad hp hb] at ht; cases ht
      | true =>
        rw [profGo_ok hp hb] at ht
        have h3 := he e List.mem_cons_self f hp
        have h4 := addStack_len s.1 s.2 f e.count
        have h5 := profGo_len L _ (m + B) (fun x hx => he x (List.mem_cons_of_mem _ hx)) (by omega) (by omega) t ht
        simp only [List.length_cons, Nat.mul_add, Nat.mul_one]
        omega
end Go.Proofs.YtdhkhapbldkkdaaDoor

/-
  DERIVED. Plain lists: counts by name, as they are summed up in place and as they are kept in order.
-/
namespace Go.Proofs.YtdhkhapbldkkdaaDoor
set_option linter.unusedVariables false
open Go.Pl
instance inhE : Inhabited Entry := ⟨⟨⟨#[]⟩, 0⟩⟩
instance memBA (t : ByteArray) (ns : List ByteArray) : Decidable (t ∈ ns) := decidable_of_iff (∃ x, x ∈ ns ∧ x = t) (by simp)
def isAt (s : ByteArray) (e : Entry) : Bool := decide (e.stack = s)
/-- c more for s: in place, or at the end -/
def bump (L : List Entry) (s : ByteArray) (c : Int) : List Entry :=
  if firstIdx (isAt s) L < 0 then L ++ [⟨s, c⟩] else L.set (firstIdx (isAt s) L).toNat ⟨s, (L.getD (firstIdx (isAt s) L).toNat default).count + c⟩
/-- where s stands or belongs in a list that ascends -/
def posE (L : List Entry) (s : ByteArray) : Nat := (L.takeWhile fun x => ltS x.stack s).length
/-- .. in order -/
def insB (L : List Entry) (s : ByteArray) (c : Int) : List Entry :=
  if (posE L s < L.length ∧ (L.getD (posE L s) default).stack = s) then L.set (posE L s) ⟨s, (L.getD (posE L s) default).count + c⟩ else L.take (posE L s) ++ ⟨s, c⟩ :: L.drop (posE L s)
/-- what a list of counts is as a function -/
structure Rep' (L : List Entry) (f : ByteArray → Option Int) : Prop where
  nd : L.Pairwise fun a b => a.stack ≠ b.stack
  mem : ∀ e : Entry, e ∈ L ↔ f e.stack = some e.count
def updF (f : ByteArray → Option Int) (s : ByteArray) (c : Int) (t : ByteArray) : Option Int := if t = s then some ((f s).getD 0 + c) else f t
theorem Rep'.nodup {L : List Entry} {f : ByteArray → Option Int} (h : Rep' L f) : L.Nodup := h.nd.imp fun hne e => hne (by rw [e])
theorem Rep'.perm {L M : List Entry} {f : ByteArray → Option Int} (h : Rep' L f) (g : Rep' M f) : L.Perm M :=
  (List.perm_ext_iff_of_nodup h.nodup g.nodup).2 fun e => by rw [h.mem, g.mem]
theorem Rep'.nil : Rep' [] (fun _ => none) := ⟨.nil, fun e => by simp⟩
theorem Rep'.none {L : List Entry} {f : ByteArray → Option Int} (h : Rep' L f) {s : ByteArray} (hs : ∀ x ∈ L, x.stack ≠ s) : f s = none := by
  cases hf : f s with
  | none => rfl
  | some n => exact absurd rfl (hs ⟨s, n⟩ ((h.mem _).2 hf))
/-- one is put in, wherever -/
theorem Rep'.put {L A B : List Entry} {f : ByteArray → Option Int} (h : Rep' L f) (hL : L = A ++ B) {s : ByteArray} {c : Int} (hs : ∀ x ∈ L, x.stack ≠ s) : Rep' (A ++ ⟨s, c⟩ :: B) (updF f s c) := by
  have hp : (A ++ ⟨s, c⟩ :: B).Perm (⟨s, c⟩ :: L) := by rw [hL]; exact List.perm_middle
  have hn := h.none hs
  refine ⟨?_, fun e => ?_⟩
  · refine (hp.pairwise_iff (fun {a b} hh => Ne.symm hh)).2 ?_
    exact List.pairwise_cons.2 ⟨fun x hx => Ne.symm (hs x hx), h.nd⟩
  · rw [hp.mem_iff, List.mem_cons, h.mem]
    unfold updF
    by_cases he : e.stack = s
    · rw [if_pos he, he, hn]
      constructor
      · rintro (h1 | h1)
        · rw [h1]; simp
        · cases h1
      · intro h1
        left
        obtain ⟨a, b⟩ := e
        simp only at he
        simp only [Option.getD_none, Int.zero_add, Option.some.injEq] at h1
        rw [he, h1]
    · rw [if_neg he]
      constructor
      · rintro (h1 | h1)
        · exact absurd (by rw [h1]) he
        · exact h1
      · exact .inr
/-- one is counted up -/
theorem Rep'.up {L : List Entry} {f : ByteArray → Option Int} (h : Rep' L f) {k : Nat} (hk : k < L.length) (c : Int) : Rep' (L.set k ⟨L[k].stack, L[k].count + c⟩) (updF f L[k].stack c) := by
  have hat : ∀ i (hi : i < L.length), L[i].stack = L[k].stack → i = k := fun i hi he => by
    rcases Nat.lt_trichotomy i k with h1 | h1 | h1
    · exact absurd he ((List.pairwise_iff_getElem.1 h.nd) i k hi hk h1)
    · exact h1
    · exact absurd he.symm ((List.pairwise_iff_getElem.1 h.nd) k i hk hi h1)
  have hf : f L[k].stack = some L[k].count := (h.mem _).1 (List.getElem_mem hk)
  refine ⟨?_, fun e => ?_⟩
  · rw [List.pairwise_iff_getElem]
    intro i j hi hj hij
    simp only [List.length_set] at hi hj
    have h0 := (List.pairwise_iff_getElem.1 h.nd) i j hi hj hij
    rw [List.getElem_set, List.getElem_set]
    by_cases h1 : k = i
    · subst h1
      rw [if_pos rfl, if_neg (by omega)]; exact h0
    · rw [if_neg h1]
      by_cases h2 : k = j
      · subst h2; rw [if_pos rfl]; exact h0
      · rw [if_neg h2]; exact h0
  · unfold updF
    by_cases he : e.stack = L[k].stack
    · rw [if_pos he, hf]
      constructor
      · intro hm
        obtain ⟨i, hi, hie⟩ := List.mem_iff_getElem.1 hm
        simp only [List.length_set] at hi
        rw [List.getElem_set] at hie
        by_cases h1 : k = i
        · rw [if_pos h1] at hie; rw [← hie]; rfl
        · rw [if_neg h1] at hie
          exact absurd (hat i hi (by rw [hie, he])).symm h1
      · intro h1
        simp only [Option.getD_some, Option.some.injEq] at h1
        have : e = ⟨L[k].stack, L[k].count + c⟩ := by
          obtain ⟨a, b⟩ := e
          simp only at he h1
          rw [he, h1]
        rw [this]
        exact List.mem_iff_getElem.2 ⟨k, by simpa using hk, by simp⟩
    · rw [if_neg he, ← h.mem]
      constructor
      · intro hm
        rcases mem_set' hm with h1 | h1
        · exact absurd (by rw [h1]) he
        · exact h1
      · intro hm
        obtain ⟨i, hi, hie⟩ := List.mem_iff_getElem.1 hm
        have : k ≠ i := fun e1 => by subst e1; exact he (by rw [hie])
        exact List.mem_iff_getElem.2 ⟨i, by simpa using hi, by rw [List.getElem_set, if_neg this]; exact hie⟩
theorem firstIdx_pos {α : Type} {p : α → Bool} {L : List α} (h : ¬ firstIdx p L < 0) : ∃ (k : Nat) (hk : k < L.length), firstIdx p L = k ∧ p L[k] = true := by
  unfold firstIdx at h ⊢
  split at h
  · rename_i i hi
    obtain ⟨h1, h2, _⟩ := List.findIdx?_eq_some_iff_getElem.1 hi
    exact ⟨i, h1, rfl, h2⟩
  · omega
theorem Rep'.bump {L : List Entry} {f : ByteArray → Option Int} (h : Rep' L f) (s : ByteArray) (c : Int) : Rep' (Go.Proofs.YtdhkhapbldkkdaaDoor.bump L s c) (updF f s c) := by
  unfold Go.Proofs.YtdhkhapbldkkdaaDoor.bump
  split
  · rename_i hn
    have := h.put (A := L) (B := []) (by simp) (s := s) (c := c) (fun x hx he => by
      have := firstIdx_neg hn x hx
      simp [isAt, he] at this)
    exact this
  · rename_i hn
    obtain ⟨k, hk, h1, h2⟩ := firstIdx_pos hn
    have hs : L[k].stack = s := by simpa [isAt] using h2
    rw [h1, Int.toNat_natCast, List.getD_eq_getElem?_getD, List.getElem?_eq_getElem hk, Option.getD_some]
    have := h.up hk c
    rw [hs] at this
    exact this
theorem posE_le (L : List Entry) (s : ByteArray) : posE L s ≤ L.length := by
  unfold posE; exact (List.takeWhile_sublist _).length_le
theorem posE_lt {L : List Entry} {s : ByteArray} {i : Nat} (hi : i < L.length) (h : i < posE L s) : ltS L[i].stack s = true := by
  have h1 : L[i] ∈ L.takeWhile (fun x => ltS x.stack s) := by
    have h2 := List.takeWhile_prefix (l := L) (fun x => ltS x.stack s)
    have h3 : (L.takeWhile (fun x => ltS x.stack s))[i]'h = L[i] := h2.getElem h
    rw [← h3]; exact List.getElem_mem _
  have := (mem_takeWhile' h1).1
  exact this
theorem posE_ge {L : List Entry} {s : ByteArray} (h : posE L s < L.length) : ltS L[posE L s].stack s = false := by
  have h1 : L.dropWhile (fun x => ltS x.stack s) = L.drop (posE L s) := by
    have h2 := List.takeWhile_append_dropWhile (p := fun x : Entry => ltS x.stack s) (l := L)
    have h3 : L.drop (posE L s) = (L.takeWhile (fun x => ltS x.stack s) ++ L.dropWhile (fun x => ltS x.stack s)).drop (posE L s) := by rw [h2]
    rw [h3]; unfold posE; rw [List.drop_left]
  rw [List.drop_eq_getElem_cons h] at h1
  have h4 : L.dropWhile (fun x => ltS x.stack s) ≠ [] := by rw [h1]; exact List.cons_ne_nil _ _
  have h5 := List.head_dropWhile_not (fun x : Entry => ltS x.stack s) h4
  have h6 : (L.dropWhile (fun x => ltS x.stack s)).head h4 = L[posE L s] := by simp only [h1, List.head_cons]
  rw [h6] at h5
  simpa using h5
theorem posE_eq {L : List Entry} {s : ByteArray} {n : Nat} (hn : n ≤ L.length) (h1 : ∀ j (hj : j < L.length), j < n → ltS L[j].stack s = true) (h2 : ∀ h : n < L.length, ltS L[n].stack s = false) : posE L s = n := by
  rcases Nat.lt_trichotomy (posE L s) n with h | h | h
  · have h3 := posE_ge (L := L) (s := s) (by omega)
    rw [h1 _ (by omega) h] at h3; cases h3
  · exact h
  · have := posE_le L s
    have h3 := posE_lt (L := L) (s := s) (i := n) (by omega) h
    rw [h2 (by omega)] at h3; cases h3
theorem Rep'.insB {L : List Entry} {f : ByteArray → Option Int} (h : Rep' L f) (ha : Asc ltE L) (s : ByteArray) (c : Int) : Rep' (Go.Proofs.YtdhkhapbldkkdaaDoor.insB L s c) (updF f s c) ∧ Asc ltE (Go.Proofs.YtdhkhapbldkkdaaDoor.insB L s c) := by
  have hle := posE_le L s
  unfold Go.Proofs.YtdhkhapbldkkdaaDoor.insB
  split
  · rename_i hh
    obtain ⟨hk, hs⟩ := hh
    rw [List.getD_eq_getElem?_getD, List.getElem?_eq_getElem hk, Option.getD_some] at hs ⊢
    have h1 := h.up hk c
    rw [hs] at h1
    refine ⟨h1, ?_⟩
    unfold Asc at ha ⊢
    rw [List.pairwise_iff_getElem] at ha ⊢
    intro i j hi hj hij
    simp only [List.length_set] at hi hj
    have h0 := ha i j hi hj hij
    have key : ∀ (q : Nat) (hq : q < L.length), ((L.set (posE L s) ⟨s, L[posE L s].count + c⟩)[q]'(by simpa using hq)).stack = L[q].stack := fun q hq => by
      rw [List.getElem_set]
      split
      · rename_i e; subst e; exact hs.symm
      · rfl
    unfold ltE at h0 ⊢
    rw [key i hi, key j hj]; exact h0
  · rename_i hh
    have hne : ∀ x ∈ L, x.stack ≠ s := fun x hx he => by
      obtain ⟨i, hi, rfl⟩ := List.mem_iff_getElem.1 hx
      rcases Nat.lt_or_ge i (posE L s) with h1 | h1
      · exact ltS_ne (posE_lt hi h1) he
      · rcases Nat.lt_or_ge (posE L s) i with h2 | h2
        · have h3 := posE_ge (L := L) (s := s) (by omega)
          unfold Asc at ha
          have h4 := (List.pairwise_iff_getElem.1 ha) (posE L s) i (by omega) hi h2
          unfold ltE at h4
          rw [he] at h4
          rw [h3] at h4; cases h4
        · obtain rfl : i = posE L s := by omega
          exact hh ⟨hi, by rw [List.getD_eq_getElem?_getD, List.getElem?_eq_getElem hi]; exact he⟩
    refine ⟨h.put (List.take_append_drop _ _).symm hne, ?_⟩
    have hins : ins ltE ⟨s, c⟩ L = L.take (posE L s) ++ ⟨s, c⟩ :: L.drop (posE L s) := by
      unfold ins posE
      have h2 := List.takeWhile_append_dropWhile (p := fun y : Entry => ltS y.stack s) (l := L)
      have e1 : L.take (L.takeWhile fun x => ltS x.stack s).length = L.takeWhile fun x => ltS x.stack s := by
        have : L.take (L.takeWhile fun x => ltS x.stack s).length = (L.takeWhile (fun x => ltS x.stack s) ++ L.dropWhile (fun x => ltS x.stack s)).take (L.takeWhile fun x => ltS x.stack s).length := by rw [h2]
        rw [this, List.take_left]
      have e2 : L.drop (L.takeWhile fun x => ltS x.stack s).length = L.dropWhile fun x => ltS x.stack s := by
        have : L.drop (L.takeWhile fun x => ltS x.stack s).length = (L.takeWhile (fun x => ltS x.stack s) ++ L.dropWhile (fun x => ltS x.stack s)).drop (L.takeWhile fun x => ltS x.stack s).length := by rw [h2]
        rw [this, List.drop_left]
      rw [e1, e2]
      rfl
    rw [← hins]
    exact ins_asc ltE_strict ha fun y hy => ltE_ne (hne y hy)
/-! ## the names beside a name -/
def namesE (e : Entry) : List ByteArray := (frsE e).map (·.name)
def nearK (s : ByteArray) (d : Int) (ns : List ByteArray) : Nat → List ByteArray
  | 0 => []
  | k + 1 => if ns.getD k ⟨#[]⟩ = s ∧ 0 ≤ (k : Int) + d ∧ (k : Int) + d < ns.length ∧ ns.getD ((k : Int) + d).toNat ⟨#[]⟩ ∉ nearK s d ns k then nearK s d ns k ++ [ns.getD ((k : Int) + d).toNat ⟨#[]⟩] else nearK s d ns k
theorem nearK_len (s : ByteArray) (d : Int) (ns : List ByteArray) : ∀ k, (nearK s d ns k).length ≤ k
  | 0 => by simp [nearK]
  | k + 1 => by
    have := nearK_len s d ns k
    rw [nearK]
    split
    · simp only [List.length_append, List.length_cons, List.length_nil]; omega
    · omega
def nearE (s : ByteArray) (d : Int) (e : Entry) : List ByteArray := nearK s d (namesE e) (namesE e).length
/-- the names of one entry, each counted -/
def addI (c : Int) (ns : List ByteArray) (L : List Entry) : List Entry := ns.foldl (fun L s => bump L s c) L
def addO (c : Int) (ns : List ByteArray) (L : List Entry) : List Entry := ns.foldl (fun L s => insB L s c) L
def nbI (s : ByteArray) (d : Int) (E : List Entry) : List Entry := E.foldl (fun L e => addI e.count (nearE s d e) L) []
def nbO (s : ByteArray) (d : Int) (E : List Entry) : List Entry := E.foldl (fun L e => addO e.count (nearE s d e) L) []
def addF' (c : Int) (ns : List ByteArray) (f : ByteArray → Option Int) : ByteArray → Option Int := ns.foldl (fun f s => updF f s c) f
def nbF (s : ByteArray) (d : Int) (E : List Entry) : ByteArray → Option Int := E.foldl (fun f e => addF' e.count (nearE s d e) f) (fun _ => none)
theorem addI_rep (c : Int) : ∀ (ns : List ByteArray) {L : List Entry} {f : ByteArray → Option Int}, Rep' L f → Rep' (addI c ns L) (addF' c ns f)
  | [], L, f, h => h
  | s :: ns, L, f, h => addI_rep c ns (h.bump s c)
theorem addO_rep (c : Int) : ∀ (ns : List ByteArray) {L : List Entry} {f : ByteArray → Option Int}, Rep' L f → Asc ltE L → Rep' (addO c ns L) (addF' c ns f) ∧ Asc ltE (addO c ns L)
  | [], L, f, h, h2 => ⟨h, h2⟩
  | s :: ns, L, f, h, h2 => addO_rep c ns (h.insB h2 s c).1 (h.insB h2 s c).2
theorem nbI_aux (s : ByteArray) (d : Int) : ∀ (E : List Entry) {L : List Entry} {f : ByteArray → Option Int}, Rep' L f → Rep' (E.foldl (fun L e => addI e.count (nearE s d e) L) L) (E.foldl (fun f e => addF' e.count (nearE s d e) f) f)
  | [], L, f, h => h
  | e :: E, L, f, h => nbI_aux s d E (addI_rep e.count (nearE s d e) h)
theorem nbO_aux (s : ByteArray) (d : Int) : ∀ (E : List Entry) {L : List Entry} {f : ByteArray → Option Int}, Rep' L f → Asc ltE L → Rep' (E.foldl (fun L e => addO e.count (nearE s d e) L) L) (E.foldl (fun f e => addF' e.count (nearE s d e) f) f) ∧ Asc ltE (E.foldl (fun L e => addO e.count (nearE s d e) L) L)
  | [], L, f, h, h2 => ⟨h, h2⟩
  | e :: E, L, f, h, h2 => nbO_aux s d E (addO_rep e.count (nearE s d e) h h2).1 (addO_rep e.count (nearE s d e) h h2).2
theorem nbI_rep (s : ByteArray) (d : Int) (E : List Entry) : Rep' (nbI s d E) (nbF s d E) := nbI_aux s d E Rep'.nil
theorem nbO_rep (s : ByteArray) (d : Int) (E : List Entry) : Rep' (nbO s d E) (nbF s d E) ∧ Asc ltE (nbO s d E) := nbO_aux s d E Rep'.nil .nil
theorem nbIO (s : ByteArray) (d : Int) (E : List Entry) : insAll ltE (nbI s d E) = nbO s d E ∧ (nbI s d E).Pairwise fun a b => ltE a b = true ∨ ltE b a = true := by
  have h1 := nbI_rep s d E
  obtain ⟨h2, h3⟩ := nbO_rep s d E
  have hp : (nbI s d E).Pairwise fun a b => ltE a b = true ∨ ltE b a = true := h1.nd.imp fun h => ltE_ne h
  refine ⟨(insAll_unique ltE_strict hp (h2.perm h1) ?_).symm, hp⟩
  exact List.Pairwise.imp (fun h => ltE_strict.asymm h) h3
/-! ## one more -/
theorem addI_succ (c : Int) {ns : List ByteArray} {j : Nat} (hj : j < ns.length) (L : List Entry) : addI c (ns.take (j + 1)) L = bump (addI c (ns.take j) L) ns[j] c := by
  unfold addI; rw [List.take_succ_eq_append_getElem hj, List.foldl_append]; rfl
theorem addO_succ (c : Int) {ns : List ByteArray} {j : Nat} (hj : j < ns.length) (L : List Entry) : addO c (ns.take (j + 1)) L = insB (addO c (ns.take j) L) ns[j] c := by
  unfold addO; rw [List.take_succ_eq_append_getElem hj, List.foldl_append]; rfl
theorem nbI_succ (s : ByteArray) (d : Int) {E : List Entry} {k : Nat} (hk : k < E.length) : nbI s d (E.take (k + 1)) = addI E[k].count (nearE s d E[k]) (nbI s d (E.take k)) := by
  unfold nbI; rw [List.take_succ_eq_append_getElem hk, List.foldl_append]; rfl
theorem nbO_succ (s : ByteArray) (d : Int) {E : List Entry} {k : Nat} (hk : k < E.length) : nbO s d (E.take (k + 1)) = addO E[k].count (nearE s d E[k]) (nbO s d (E.take k)) := by
  unfold nbO; rw [List.take_succ_eq_append_getElem hk, List.foldl_append]; rfl
theorem nbF_succ (s : ByteArray) (d : Int) {E : List Entry} {k : Nat} (hk : k < E.length) : nbF s d (E.take (k + 1)) = addF' E[k].count (nearE s d E[k]) (nbF s d (E.take k)) := by
  unfold nbF; rw [List.take_succ_eq_append_getElem hk, List.foldl_append]; rfl
theorem sumE_succ {E : List Entry} {k : Nat} (hk : k < E.length) : sumE (E.take (k + 1)) = sumE (E.take k) + E[k].count := by
  unfold sumE; rw [List.take_succ_eq_append_getElem hk, List.map_append, List.sum_append]; simp
/-! ## how large the counts are -/
theorem nearK_nodup (s : ByteArray) (d : Int) (ns : List ByteArray) : ∀ k, (nearK s d ns k).Nodup
  | 0 => by simp [nearK]
  | k + 1 => by
    have ih := nearK_nodup s d ns k
    rw [nearK]
    split
    · rename_i h
      rw [List.nodup_append]
      refine ⟨ih, by simp, fun a ha b hb => ?_⟩
      simp only [List.mem_cons, List.not_mem_nil, or_false] at hb
      rw [hb]
      exact fun e => h.2.2.2 (by rw [← e]; exact ha)
    · exact ih
def Bd (f : ByteArray → Option Int) (S : Int) (ns : List ByteArray) (c : Int) : Prop := ∀ t n, f t = some n → 0 ≤ n ∧ n ≤ S + (if t ∈ ns then c else 0)
theorem addF_bd {c S : Int} (hc : 0 ≤ c) (hS : 0 ≤ S) {f : ByteArray → Option Int} (h : Bd f S [] c) {ns : List ByteArray} (hn : ns.Nodup) : ∀ j, j ≤ ns.length → Bd (addF' c (ns.take j) f) S (ns.take j) c
  | 0, _ => by simpa [addF'] using h
  | j + 1, hj => by
    have ih := addF_bd hc hS h hn j (by omega)
    have hj' : j < ns.length := by omega
    have hnot : ns[j] ∉ ns.take j := fun hm => by
      obtain ⟨i, hi, he⟩ := List.mem_take_iff_getElem.1 hm
      have := (List.pairwise_iff_getElem.1 hn) i j (by omega) hj' (by omega)
      exact this he
    intro t n ht
    have e1 : addF' c (ns.take (j + 1)) f = updF (addF' c (ns.take j) f) ns[j] c := by
      unfold addF'; rw [List.take_succ_eq_append_getElem hj', List.foldl_append]; rfl
    rw [e1] at ht
    unfold updF at ht
    rw [List.take_succ_eq_append_getElem hj']
    by_cases h1 : t = ns[j]
    · rw [if_pos h1] at ht
      simp only [Option.some.injEq] at ht
      rw [if_pos (List.mem_append_right _ (List.mem_singleton.2 h1))]
      cases hq : addF' c (ns.take j) f ns[j] with
      | none => rw [hq] at ht; simp only [Option.getD_none] at ht; omega
      | some m =>
        have := ih _ _ hq
        rw [if_neg hnot] at this
        rw [hq] at ht; simp only [Option.getD_some] at ht; omega
    · rw [if_neg h1] at ht
      have := ih _ _ ht
      have e2 : (t ∈ ns.take j ++ [ns[j]]) ↔ t ∈ ns.take j := by rw [List.mem_append, List.mem_singleton]; exact ⟨fun h => h.resolve_right h1, .inl⟩
      simp only [e2]; exact this
theorem nbF_bd (s : ByteArray) (d : Int) {E : List Entry} (h : ∀ e ∈ E, 0 ≤ e.count) : ∀ k, k ≤ E.length → ∀ c, Bd (nbF s d (E.take k)) (sumE (E.take k)) [] c ∧ 0 ≤ sumE (E.take k)
  | 0, _, c => ⟨fun t n ht => by simp [nbF] at ht, by simp [sumE]⟩
  | k + 1, hk, c => by
    have hk' : k < E.length := by omega
    obtain ⟨ih, h0⟩ := nbF_bd s d h k (by omega) E[k].count
    have hc := h _ (List.getElem_mem hk')
    have h1 := addF_bd hc h0 ih (nearK_nodup s d (namesE E[k]) (namesE E[k]).length) _ (Nat.le_refl _)
    rw [List.take_length] at h1
    rw [sumE_succ hk', nbF_succ s d hk']
    refine ⟨fun t n ht => ?_, by omega⟩
    have := h1 t n ht
    simp only [List.not_mem_nil, if_false]
    split at this <;> omega
/-- what stands for a name that has not come up yet in this entry -/
theorem nb_room {s : ByteArray} {d : Int} {E : List Entry} (h : ∀ e ∈ E, 0 ≤ e.count) {k : Nat} (hk : k < E.length) {j : Nat} (hj : j < (nearE s d E[k]).length) {n : Int}
    (hn : addF' E[k].count ((nearE s d E[k]).take j) (nbF s d (E.take k)) (nearE s d E[k])[j] = some n) : 0 ≤ n ∧ n + E[k].count ≤ sumE (E.take (k + 1)) := by
  obtain ⟨h1, h0⟩ := nbF_bd s d h k (by omega) E[k].count
  have hc := h _ (List.getElem_mem hk)
  have hnd := nearK_nodup s d (namesE E[k]) (namesE E[k]).length
  have h2 := addF_bd hc h0 h1 hnd j (by unfold nearE at hj; omega)
  have h3 : 0 ≤ n ∧ n ≤ sumE (E.take k) + (if (nearE s d E[k])[j] ∈ (nearE s d E[k]).take j then E[k].count else 0) := h2 _ _ hn
  have hnot : (nearE s d E[k])[j] ∉ (nearE s d E[k]).take j := fun hm => by
    obtain ⟨i, hi, he⟩ := List.mem_take_iff_getElem.1 hm
    have := (List.pairwise_iff_getElem.1 hnd) i j (by unfold nearE at hj; omega) (by unfold nearE at hj; omega) (by omega)
    exact this he
  rw [if_neg hnot] at h3
  rw [sumE_succ hk]
  omega
end Go.Proofs.YtdhkhapbldkkdaaDoor

