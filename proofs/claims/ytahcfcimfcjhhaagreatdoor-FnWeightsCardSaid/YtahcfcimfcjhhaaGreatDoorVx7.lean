/-
  DERIVED. Several texts of ours in one: VtPrf, VtStk3, VtPrf2, VcW, VtDraw, VcFz, VcFr, VsLay, VpCut, VcU, VsLib.
-/
import Derived.Test.YtahcfcimfcjhhaaGreatDoorVx0
import Derived.Test.YtahcfcimfcjhhaaGreatDoorVx1
import Derived.Test.YtahcfcimfcjhhaaGreatDoorVx2
import Derived.Test.YtahcfcimfcjhhaaGreatDoorVx3
import Derived.Test.YtahcfcimfcjhhaaGreatDoorVx4
import Derived.Test.YtahcfcimfcjhhaaGreatDoorVx5
import Derived.Test.YtahcfcimfcjhhaaGreatDoorVx6
import Derived.Shelf.LaysM
import Derived.Shelf.Small.Strs
import Derived.Shelf.Strings.OnBuilder
import Derived.Test.YtahcfcimfcjhhaaGreatDoorProg
import Derived.Lib.Split
import Derived.Lib.SplitLaws
import Derived.Lib.CountLaws
import Derived.Lib.ItoaNum
import Derived.Lib.IndexMore
import Derived.Sort.Grow
import Derived.Shelf.Strconv.Itoa3
import Derived.Shelf.Strings.Cut
import Derived.Shelf.Strings.Split
set_option linter.unusedSimpArgs false
set_option linter.unusedVariables false
namespace Go.Proofs.YtahcfcimfcjhhaaGreatDoor
open Go.Vc
attribute [local go_sem] St.runR St.runW St.stepV offV St.step St.stepU St.stepG mkCond guardB St.prK St.pr St.prLen St.eff St.callE St.callD St.callF St.callL aI aB aS aR aC St.isM St.argL Ctr.pure Ctr.lend Ctr.move Ctr.isL Ctr.wri pur len lentBy St.lentV St.lent1 nthS argsR restOf obsR pairs swapL unObs backL St.resL erL SV.ren1 SV.up SV.up2 Ob.up St.fzL cellIds partIds St.intoRow SV.ownId St.fz SV.fz1 St.prep St.mvL St.mv SV.re1 rnOk St.prEq vals eqCells scEq Value.kd St.prStr St.prCut cutR St.bnd St.prMin St.bld isShift outL retL outJ oR oC St.ev St.get St.put St.new St.kill SV.kill SV.kill1 Ob.kill St.app St.wrt St.rowsOf St.res St.killL lk er argsL SV.strip SV.need SV.share SV.share1 SV.owns SV.owns1 SV.owns2 SV.good SV.good1 SV.rok SV.rok1 SV.rok2 SV.isV SV.isV2 nodupN SV.cells SV.one SV.pur Ob.pb partsIn rowsIn splice cellsAt dstOk scal2 scal1 thenK blockK retK outK outs okC okL okA okT nilC nilL nilA nilT keepC keepL keepA keepT St.runG St.dltK St.least St.clean St.final St.hide offK badS badO SV.refs SV.leaf SV.leaf2 Ob.refs dlOk fpAt Go.Vc.cover tups SV.ofAgg St.out outC subL St.has rng wr Value.oneCell' Option.isSome_some Option.isSome_none List.nil_append Bool.false_eq_true List.map_cons List.map_nil List.all_cons List.all_nil List.length_cons List.length_nil List.drop_zero List.drop_succ_cons List.take_succ_cons List.take_zero List.drop_nil List.take_nil List.getElem?_cons_zero List.getElem?_cons_succ List.getElem?_nil List.cons_append List.nil_append List.append_nil List.append_assoc List.flatMap_cons List.flatMap_nil List.contains_cons List.contains_nil List.set_cons_zero List.set_cons_succ List.getElem?_toArray Option.getD_some Option.getD_none Option.map_some Option.map_none Option.bind_some Option.some.injEq Prod.mk.injEq if_true if_false true_and and_true and_self and_false false_and Bool.and_false Bool.false_and Bool.or_true Bool.true_or Bool.or_false Bool.false_or ne_eq not_true_eq_false not_false_eq_true decide_true decide_false List.mem_cons List.not_mem_nil List.filter_cons List.filter_nil List.any_cons List.any_nil List.isEmpty_nil List.isEmpty_cons Option.getD_none or_false false_or true_or or_true forall_eq_or_imp forall_eq reduceCtorEq exists_eq exists_eq' exists_eq_left' exists_eq_left exists_eq_right exists_eq_right' imp_self implies_true Bool.and_true Bool.true_and Bool.and_self beq_self_eq_true List.replicate_succ List.replicate_zero forall_const false_implies pickB_or pickB_and beqT beqF Int.toNat_natCast List.length_map List.length_replicate ge_iff_le gt_iff_lt decide_eq_true_eq decide_eq_false_iff_not Bool.and_eq_true Bool.or_eq_true Bool.not_eq_true' Bool.not_eq_false' condG List.toList_toArray Bool.or_eq_false_iff Bool.and_eq_false_iff Int.not_lt Int.not_le beq_iff_eq beq_eq_false_iff_ne bne_iff_ne bne_eq_false_iff_eq ne_eq Bool.not_true Bool.not_false exists_and_left
section
open Go.Vc
set_option linter.unusedSimpArgs false
set_option linter.unusedVariables false
set_option maxHeartbeats 1000000
set_option maxRecDepth 10000
attribute [local irreducible] Go.Vc.WP
attribute [local go_sem] cx0_t cx0_c
def fl9d07e2ccfb : List Go.Vc.Fp := [⟨[1], [], [], [5, 6], [], []⟩, ⟨[3], [0], [], [5, 6], [], []⟩, ⟨[4], [0, 1], [], [6], [], [5]⟩, ⟨[], [], [], [5], [], [6]⟩, ⟨[1], [], [], [5, 6], [], []⟩, ⟨[7], [4], [], [5, 6], [], []⟩, ⟨[], [0, 1, 2, 3, 4, 5], [], [], [], []⟩, ⟨[], [0, 1, 2, 3, 4, 5, 6], [], [], [], []⟩, ⟨[], [0, 1, 2, 3, 4, 5, 6, 7], [], [], [], []⟩]
attribute [local go_sem] fl9d07e2ccfb
attribute [local go_sem] decNode_enc decFrame_enc oneFrame_enc stkA oneFrame_ab oneNode_abc decI_enc
/-- a profile: its nodes and its counts -/
def prA (args : List SV) (i : Nat) : List Node × List Int := match args[i]? with
  | some (.agg [.sl _ r, .sl _ q]) => (decNode r, decI q)
  | _ => ([], [])
attribute [local go_sem] prA
def encPr (x : List Node × List Int) : SV := .agg [.sl 3 (x.1.map encNode), .sl 1 (x.2.map encI)]
def wfP (x : List Node × List Int) : Prop := (x.1.length ≤ 4398046511104 ∧ ∀ n ∈ x.1, n.name.size ≤ 1099511627776) ∧ x.2.length ≤ 4398046511104
theorem cntOk_bad {C : List Int} {k : Nat} (hk : k < C.length) (h : C[k] < 0 ∨ 1000000000000 - (C.take k).sum < C[k]) : cntOk C = false := by
  cases hs : cntOk C with
  | false => rfl
  | true => have := cntOk_at hs k hk; omega
theorem profNo {N : List Node} {C : List Int} (h : stacksOk N = false ∨ ¬ (C.length : Int) = N.length ∨ cntOk C = false) : profileOk N C = false := by
  cases hs : profileOk N C with
  | false => rfl
  | true =>
    obtain ⟨h1, h2, h3⟩ := profileOk_iff.1 hs
    rcases h with h | h | h
    · rw [h1] at h; cases h
    · omega
    · rw [h3] at h; cases h
theorem cntOk_all {C : List Int} (h : ∀ j (hj : j < C.length), 0 ≤ C[j] ∧ C[j] ≤ 1000000000000 - (C.take j).sum) : cntOk C = true := by
  unfold cntOk
  exact decide_eq_true h
def kPrOk : Ctr := pur (fun args => prA args 0) (fun x => [.agg [.sl 3 (x.1.map encNode), .sl 1 (x.2.map encI)]]) wfP (fun _ x => .v (.bool (profileOk x.1 x.2))) (fun _ _ => [])
section
noncomputable def cxPoS : Cx := { P := Tryz.prog, tys := tys, C := [(77, kStOk), (30, k60)], hty := tysOk, hC := COk.cons cStOkS (COk.cons c58 (COk.nil _)) }
theorem cxPoS_t : cxPoS.tys = tys := rfl
theorem cxPoS_c : cxPoS.C = [(77, kStOk), (30, k60)] := rfl
attribute [local go_sem] cxPoS_t cxPoS_c kStOk k60
theorem cPrOkS : Cn Tryz.prog 39 kPrOk := by
  refine Cn.pur Tryz.func39 (by kernel_rfl) rfl fun d x hx => ?_
  obtain ⟨N, C⟩ := x
  obtain ⟨⟨hN, hs⟩, hC⟩ := hx
  simp only at hN hs hC ⊢
  refine Holds.go (c := cxPoS) Tryz.func39 rfl Tryz.results39 Tryz.ntmps39 (by omega) (by simp) rfl ?_
  intro X0 w0
  (repeat' (first | refine WP.seq ?_ | refine WP.block ?_ | ((first | refine WP.region ?_ | refine WP.condW ?_ | refine WP.ret ?_ | refine WP.exit ?_ | refine WP.skip ?_); simp only [go_sem, tyAll, Nat.reduceAdd, Nat.reduceLT, Nat.reduceLeDiff, Nat.reduceEqDiff, Nat.reduceMul, Nat.reduceSub, Nat.reduceGT, reduceIte, Int.reduceNeg, Int.reduceToNat]) |  refine And.intro ?_ ?_ | intro _))
  all_goals first | omega | exact hs _ ‹_› | skip
  · rename_i h; rw [profNo (h.imp_right .inl)]
  rename_i h
  refine WP.loop (fun k : Nat => ⟨[(1, .ptr 1 0 0 0), (3, .v (.int .i64 (C.take k).sum)), (4, .v (.int .i64 k))], [(1, .box 39 [.sl 3 (N.map encNode), .sl 1 (C.map encI)])]⟩)
    (fun k => k ≤ C.length ∧ ∀ j (hj : j < C.length), j < k → 0 ≤ C[j] ∧ C[j] ≤ 1000000000000 - (C.take j).sum) (fun k => C.length - k) 0 (by simp) ?_ ?_
  · (simp only [go_sem, tyAll, Nat.reduceAdd, Nat.reduceLT, Nat.reduceLeDiff, Nat.reduceEqDiff, Nat.reduceMul, Nat.reduceSub, Nat.reduceGT, reduceIte, Int.reduceNeg, Int.reduceToNat] <;> (first | rfl | exact ⟨rfl, rfl⟩ | exact ⟨rfl, rfl, rfl⟩ | exact ⟨rfl, rfl, rfl, rfl⟩ | exact ⟨rfl, rfl, rfl, rfl, rfl⟩ | exact ⟨⟨rfl, rfl⟩, rfl⟩ | simp))
  intro k ⟨hk, hf⟩
  have hsum : 0 ≤ (C.take k).sum ∧ (C.take k).sum ≤ 1000000000000 := by
    have := cntOk_sum (C := C.take k) (fun j hj => by
      rw [List.length_take] at hj
      have := hf j (by omega) (by omega)
      rw [List.getElem_take, List.take_take, Nat.min_eq_left (by omega)]
      exact this) k (by rw [List.length_take]; omega)
    rwa [List.take_take, Nat.min_self] at this
  by_cases hlt : k < C.length
  · have h1 := rowAt_map encI C k hlt
    have h2 := take_sum C k hlt
    (repeat' (first | refine WP.seq ?_ | refine WP.block ?_ | ((first | refine WP.region ?_ | refine WP.condW ?_ | refine WP.ret ?_ | refine WP.exit ?_ | refine WP.skip ?_); simp only [go_sem, h1, encI, tyAll, Nat.reduceAdd, Nat.reduceLT, Nat.reduceLeDiff, Nat.reduceEqDiff, Nat.reduceMul, Nat.reduceSub, Nat.reduceGT, reduceIte, Int.reduceNeg, Int.reduceToNat]) |  refine And.intro ?_ ?_ | intro _))
    all_goals first | omega | skip
    · rename_i hb; rw [profNo (.inr (.inr (cntOk_bad hlt (by omega))))]
    · rename_i hb
      refine ⟨k + 1, ⟨by omega, fun j hj hjk => ?_⟩, by omega, by rw [h2]; (first | rfl | exact ⟨rfl, rfl⟩ | exact ⟨rfl, rfl, rfl⟩ | exact ⟨rfl, rfl, rfl, rfl⟩ | exact ⟨rfl, rfl, rfl, rfl, rfl⟩ | exact ⟨⟨rfl, rfl⟩, rfl⟩ | simp)⟩
      rcases Nat.lt_or_ge j k with hh | hh
      · exact hf j hj hh
      · have : j = k := by omega
        subst this; omega
  · (repeat' (first | refine WP.seq ?_ | refine WP.block ?_ | ((first | refine WP.region ?_ | refine WP.condW ?_ | refine WP.ret ?_ | refine WP.exit ?_ | refine WP.skip ?_); simp only [go_sem, tyAll, Nat.reduceAdd, Nat.reduceLT, Nat.reduceLeDiff, Nat.reduceEqDiff, Nat.reduceMul, Nat.reduceSub, Nat.reduceGT, reduceIte, Int.reduceNeg, Int.reduceToNat]) |  refine And.intro ?_ ?_ | intro _))
    all_goals first | omega | skip
    rw [profileOk_iff.2 ⟨h.1, by omega, cntOk_all fun j hj => hf j hj (by omega)⟩]
end
section
noncomputable def cxPoI : Cx := { P := Tryz.prog, tys := tys, C := [(79, kStOk), (44, k60)], hty := tysOk, hC := COk.cons cStOkI (COk.cons c60 (COk.nil _)) }
theorem cxPoI_t : cxPoI.tys = tys := rfl
theorem cxPoI_c : cxPoI.C = [(79, kStOk), (44, k60)] := rfl
attribute [local go_sem] cxPoI_t cxPoI_c kStOk k60
theorem cPrOkI : Cn Tryz.prog 41 kPrOk := by
  refine Cn.pur Tryz.func41 (by kernel_rfl) rfl fun d x hx => ?_
  obtain ⟨N, C⟩ := x
  obtain ⟨⟨hN, hs⟩, hC⟩ := hx
  simp only at hN hs hC ⊢
  refine Holds.go (c := cxPoI) Tryz.func41 rfl Tryz.results41 Tryz.ntmps41 (by omega) (by simp) rfl ?_
  intro X0 w0
  (repeat' (first | refine WP.seq ?_ | refine WP.block ?_ | ((first | refine WP.region ?_ | refine WP.condW ?_ | refine WP.ret ?_ | refine WP.exit ?_ | refine WP.skip ?_); simp only [go_sem, tyAll, Nat.reduceAdd, Nat.reduceLT, Nat.reduceLeDiff, Nat.reduceEqDiff, Nat.reduceMul, Nat.reduceSub, Nat.reduceGT, reduceIte, Int.reduceNeg, Int.reduceToNat]) |  refine And.intro ?_ ?_ | intro _))
  all_goals first | omega | exact hs _ ‹_› | skip
  · rename_i h; rw [profNo (h.imp_right .inl)]
  rename_i h
  refine WP.loop (fun k : Nat => ⟨[(3, .v (.int .i64 (1000000000000 - (C.take k).sum))), (21, .sl 1 (C.map encI)), (22, .v (.int .i64 C.length)), (23, .v (.int .i64 k))], []⟩)
    (fun k => k ≤ C.length ∧ ∀ j (hj : j < C.length), j < k → 0 ≤ C[j] ∧ C[j] ≤ 1000000000000 - (C.take j).sum) (fun k => C.length - k) 0 (by simp) ?_ ?_
  · (simp only [go_sem, tyAll, Nat.reduceAdd, Nat.reduceLT, Nat.reduceLeDiff, Nat.reduceEqDiff, Nat.reduceMul, Nat.reduceSub, Nat.reduceGT, reduceIte, Int.reduceNeg, Int.reduceToNat] <;> (first | rfl | exact ⟨rfl, rfl⟩ | exact ⟨rfl, rfl, rfl⟩ | exact ⟨rfl, rfl, rfl, rfl⟩ | exact ⟨rfl, rfl, rfl, rfl, rfl⟩ | exact ⟨⟨rfl, rfl⟩, rfl⟩ | simp))
  intro k ⟨hk, hf⟩
  have hsum : 0 ≤ (C.take k).sum ∧ (C.take k).sum ≤ 1000000000000 := by
    have := cntOk_sum (C := C.take k) (fun j hj => by
      rw [List.length_take] at hj
      have := hf j (by omega) (by omega)
      rw [List.getElem_take, List.take_take, Nat.min_eq_left (by omega)]
      exact this) k (by rw [List.length_take]; omega)
    rwa [List.take_take, Nat.min_self] at this
  by_cases hlt : k < C.length
  · have h1 := rowAt_map encI C k hlt
    have h2 := take_sum C k hlt
    (repeat' (first | refine WP.seq ?_ | refine WP.block ?_ | ((first | refine WP.region ?_ | refine WP.condW ?_ | refine WP.ret ?_ | refine WP.exit ?_ | refine WP.skip ?_); simp only [go_sem, h1, encI, tyAll, Nat.reduceAdd, Nat.reduceLT, Nat.reduceLeDiff, Nat.reduceEqDiff, Nat.reduceMul, Nat.reduceSub, Nat.reduceGT, reduceIte, Int.reduceNeg, Int.reduceToNat]) |  refine And.intro ?_ ?_ | intro _))
    all_goals first | omega | skip
    · rename_i hb; rw [profNo (.inr (.inr (cntOk_bad hlt (by omega))))]
    · rename_i hb
      refine ⟨k + 1, ⟨by omega, fun j hj hjk => ?_⟩, by omega, by rw [h2, ← Int.sub_sub]; (first | rfl | exact ⟨rfl, rfl⟩ | exact ⟨rfl, rfl, rfl⟩ | exact ⟨rfl, rfl, rfl, rfl⟩ | exact ⟨rfl, rfl, rfl, rfl, rfl⟩ | exact ⟨⟨rfl, rfl⟩, rfl⟩ | simp)⟩
      rcases Nat.lt_or_ge j k with hh | hh
      · exact hf j hj hh
      · have : j = k := by omega
        subst this; omega
  · (repeat' (first | refine WP.seq ?_ | refine WP.block ?_ | ((first | refine WP.region ?_ | refine WP.condW ?_ | refine WP.ret ?_ | refine WP.exit ?_ | refine WP.skip ?_); simp only [go_sem, tyAll, Nat.reduceAdd, Nat.reduceLT, Nat.reduceLeDiff, Nat.reduceEqDiff, Nat.reduceMul, Nat.reduceSub, Nat.reduceGT, reduceIte, Int.reduceNeg, Int.reduceToNat]) |  refine And.intro ?_ ?_ | intro _))
    all_goals first | omega | skip
    rw [profileOk_iff.2 ⟨h.1, by omega, cntOk_all fun j hj => hf j hj (by omega)⟩]
end
def kCopyPr : Ctr := pur (fun args => prA args 0) (fun x => [.agg [.sl 3 (x.1.map encNode), .sl 1 (x.2.map encI)]]) (fun x => x.1.length ≤ 4398046511104 ∧ x.2.length ≤ 4398046511104) (fun d _ => .agg [.own d, .own (d + 1000)]) (fun d x => [(d, .sl 132 3 (x.1.map encNode)), (d + 1000, .sl 3 1 (x.2.map encI))])
section
noncomputable def cxCpS : Cx := { P := Tryz.prog, tys := tys, C := [(130, kCopyStk)], hty := tysOk, hC := COk.cons cCopyStkS (COk.nil _) }
theorem cxCpS_t : cxCpS.tys = tys := rfl
theorem cxCpS_c : cxCpS.C = [(130, kCopyStk)] := rfl
attribute [local go_sem] cxCpS_t cxCpS_c kCopyStk
theorem cCopyPrS : Cn Tryz.prog 101 kCopyPr := by
  refine Cn.pur Tryz.func101 (by kernel_rfl) rfl fun d x hx => ?_
  obtain ⟨N, C⟩ := x
  obtain ⟨hN, hC⟩ := hx
  simp only at hN hC ⊢
  refine Holds.go (c := cxCpS) Tryz.func101 rfl Tryz.results101 Tryz.ntmps101 (by omega) (by simp) rfl ?_
  intro X0 w0
  (repeat' (first | refine WP.seq ?_ | refine WP.block ?_ | ((first | refine WP.region ?_ | refine WP.condW ?_ | refine WP.ret ?_ | refine WP.exit ?_ | refine WP.skip ?_); simp only [go_sem, tyAll, Nat.reduceAdd, Nat.reduceLT, Nat.reduceLeDiff, Nat.reduceEqDiff, Nat.reduceMul, Nat.reduceSub, Nat.reduceGT, reduceIte, Int.reduceNeg, Int.reduceToNat]) | ((first | refine WP.flowW 6 fl9d07e2ccfb [3, 4, 5, 6, 7, 8] [5, 6] [] (by decide +kernel) (by kernel_rfl) (by kernel_rfl) (by kernel_rfl) ?_); simp only [go_sem, tyAll, Nat.reduceAdd, Nat.reduceLT, Nat.reduceLeDiff, Nat.reduceEqDiff, Nat.reduceMul, Nat.reduceSub, Nat.reduceGT, reduceIte, Int.reduceNeg, Int.reduceToNat]) |  refine And.intro ?_ ?_ | intro _))
  all_goals first | omega | exact rlNode ‹_› | exact rlI ‹_› | exact ⟨_, _, _, rfl⟩ | exact ⟨_, _, rfl, _, _, rfl, rfl⟩ | exact if_neg (by omega) | skip
end
section
noncomputable def cxCpI : Cx := { P := Tryz.prog, tys := tys, C := [(90, kCopyStk)], hty := tysOk, hC := COk.cons cCopyStkI (COk.nil _) }
theorem cxCpI_t : cxCpI.tys = tys := rfl
theorem cxCpI_c : cxCpI.C = [(90, kCopyStk)] := rfl
attribute [local go_sem] cxCpI_t cxCpI_c kCopyStk
theorem cCopyPrI : Cn Tryz.prog 65 kCopyPr := by
  refine Cn.pur Tryz.func65 (by kernel_rfl) rfl fun d x hx => ?_
  obtain ⟨N, C⟩ := x
  obtain ⟨hN, hC⟩ := hx
  simp only at hN hC ⊢
  refine Holds.go (c := cxCpI) Tryz.func65 rfl Tryz.results65 Tryz.ntmps65 (by omega) (by simp) rfl ?_
  intro X0 w0
  (repeat' (first | refine WP.seq ?_ | refine WP.block ?_ | ((first | refine WP.region ?_ | refine WP.condW ?_ | refine WP.ret ?_ | refine WP.exit ?_ | refine WP.skip ?_); simp only [go_sem, tyAll, Nat.reduceAdd, Nat.reduceLT, Nat.reduceLeDiff, Nat.reduceEqDiff, Nat.reduceMul, Nat.reduceSub, Nat.reduceGT, reduceIte, Int.reduceNeg, Int.reduceToNat]) | ((first | refine WP.flowW 6 fl9d07e2ccfb [3, 4, 5, 6, 7, 8] [5, 6] [] (by decide +kernel) (by kernel_rfl) (by kernel_rfl) (by kernel_rfl) ?_); simp only [go_sem, tyAll, Nat.reduceAdd, Nat.reduceLT, Nat.reduceLeDiff, Nat.reduceEqDiff, Nat.reduceMul, Nat.reduceSub, Nat.reduceGT, reduceIte, Int.reduceNeg, Int.reduceToNat]) |  refine And.intro ?_ ?_ | intro _))
  all_goals first | omega | exact rlNode ‹_› | exact rlI ‹_› | exact ⟨_, _, _, rfl⟩ | exact ⟨_, _, rfl, _, _, rfl, rfl⟩ | exact if_neg (by omega) | skip
end
end
section
open Go.Vc
set_option linter.unusedSimpArgs false
set_option linter.unusedVariables false
set_option maxHeartbeats 1000000
set_option maxRecDepth 10000
attribute [local irreducible] Go.Vc.WP
attribute [local go_sem] cx0_t cx0_c
def flc3c988df08 : List Go.Vc.Fp := [⟨[6], [], [], [55], [], []⟩, ⟨[47], [0], [], [55], [], []⟩, ⟨[7], [], [], [55], [], []⟩, ⟨[1], [], [], [55], [], []⟩, ⟨[8], [], [], [55], [], []⟩, ⟨[50, 51], [3, 4], [], [55], [], []⟩, ⟨[52], [3, 4, 5], [], [55], [], []⟩, ⟨[49, 53], [2, 3, 4, 5, 6], [], [55], [], []⟩, ⟨[54], [2, 3, 4, 5, 6, 7], [], [], [], [55]⟩, ⟨[], [0, 1, 2, 3, 4, 5, 6, 7, 8], [], [], [], []⟩, ⟨[], [0, 1, 2, 3, 4, 5, 6, 7, 8, 9], [], [], [], []⟩, ⟨[], [0, 1, 2, 3, 4, 5, 6, 7, 8, 9, 10], [], [], [], []⟩]
attribute [local go_sem] flc3c988df08
attribute [local go_sem] decNode_enc decFrame_enc oneFrame_enc stkA oneFrame_ab oneNode_abc
theorem intGo_step {L : List Frame} {k : Nat} (hk : k < L.length) (s : List Node × Int) : intGo (L.drop k) s = intGo (L.drop (k + 1)) (if child s.1 s.2 L[k] < 0 then (s.1 ++ [mkNode s.2 L[k]], (s.1.length : Int)) else (s.1, child s.1 s.2 L[k])) := by
  rw [List.drop_eq_getElem_cons hk, intGo]
theorem intern_no {N : List Node} {L : List Frame} (h : stacksOk N = false ∨ L.length = 0) : intern N L = (N, -1) := by
  unfold intern
  rw [if_neg]
  rintro ⟨h1, h2, _⟩
  rcases h with h | h
  · rw [h1] at h; cases h
  · exact h2 (List.eq_nil_of_length_eq_zero h)
theorem intern_bad {N : List Node} {L : List Frame} {k : Nat} (hk : k < L.length) (h : frOk L[k] = false) : intern N L = (N, -1) := by
  unfold intern
  rw [if_neg]
  rintro ⟨_, _, h3⟩
  rw [List.all_eq_true] at h3
  rw [h3 _ (List.getElem_mem hk)] at h; cases h
def wfF (L : List Frame) : Prop := L.length ≤ 1099511627776 ∧ ∀ f ∈ L, f.name.size ≤ 1099511627776
def kIntern : Ctr := pur (fun args => (stkA args 0, decFrame (aR args 1))) (fun x => [.agg [.sl 3 (x.1.map encNode)], .sl 2 (x.2.map encFrame)]) (fun x => (x.1.length + x.2.length ≤ 4398046511104 ∧ ∀ n ∈ x.1, n.name.size ≤ 1099511627776) ∧ ∀ f ∈ x.2, f.name.size ≤ 1099511627776)
  (fun d x => .tup [.agg [.own d], .v (.int .i64 (intern x.1 x.2).2)]) (fun d x => [(d, .sl 132 3 ((intern x.1 x.2).1.map encNode))])
theorem bndN {N M : List Node} {L : List Frame} {k : Nat} (h1 : M.length ≤ N.length + k) (h2 : k ≤ L.length) (h3 : N.length + L.length ≤ 4398046511104) : M.length ≤ 4398046511104 := by omega
section
noncomputable def cxInS : Cx := { P := Tryz.prog, tys := tys, C := [(77, kStOk), (130, kCopyStk), (100, kFrOk), (131, kChild)], hty := tysOk, hC := COk.cons cStOkS (COk.cons cCopyStkS (COk.cons cFrOkS (COk.cons cChildS (COk.nil _)))) }
theorem cxInS_t : cxInS.tys = tys := rfl
theorem cxInS_c : cxInS.C = [(77, kStOk), (130, kCopyStk), (100, kFrOk), (131, kChild)] := rfl
attribute [local go_sem] cxInS_t cxInS_c kStOk kCopyStk kFrOk kChild
theorem cInternS : Cn Tryz.prog 102 kIntern := by
  refine Cn.pur Tryz.func102 (by kernel_rfl) rfl fun d x hx => ?_
  obtain ⟨N, L⟩ := x
  obtain ⟨⟨hN, hs⟩, hL⟩ := hx
  simp only at hN hs hL ⊢
  refine Holds.go (c := cxInS) Tryz.func102 rfl Tryz.results102 Tryz.ntmps102 (by omega) (by simp) rfl ?_
  intro X0 w0
  (repeat' (first | refine WP.seq ?_ | refine WP.block ?_ | ((first | refine WP.region ?_ | refine WP.condW ?_ | refine WP.ret ?_ | refine WP.exit ?_ | refine WP.skip ?_); simp only [go_sem, tyAll, Nat.reduceAdd, Nat.reduceLT, Nat.reduceLeDiff, Nat.reduceEqDiff, Nat.reduceMul, Nat.reduceSub, Nat.reduceGT, reduceIte, Int.reduceNeg, Int.reduceToNat]) | ((first | refine WP.flowW 9 flc3c988df08 [47, 48, 49, 50, 51, 52, 53, 54, 55] [55] [] (by decide +kernel) (by kernel_rfl) (by kernel_rfl) (by kernel_rfl) ?_ | refine WP.drawW 7 (by decide +kernel) (by kernel_rfl) ?_); simp only [go_sem, tyAll, Nat.reduceAdd, Nat.reduceLT, Nat.reduceLeDiff, Nat.reduceEqDiff, Nat.reduceMul, Nat.reduceSub, Nat.reduceGT, reduceIte, Int.reduceNeg, Int.reduceToNat]) |  refine And.intro ?_ ?_ | intro _))
  all_goals first | omega | exact hs _ ‹_› | exact ⟨_, _, _, rfl⟩ | exact ⟨_, _, rfl, _, _, rfl, rfl⟩ | skip
  · rename_i h; rw [intern_no (h.imp_right fun e => by omega)]
  · rename_i h; rw [intern_no (h.imp_right fun e => by omega)]
  rename_i h
  have hi : intern N L = if L.all frOk = true then intGo L (N, -1) else (N, -1) := by
    unfold intern
    by_cases ha : L.all frOk = true
    · rw [if_pos ha, if_pos ⟨h.1, fun e => by subst e; simp at h, ha⟩]
    · rw [if_neg ha, if_neg fun hc => ha hc.2.2]
  refine WP.loop (fun s : Nat × List Node × Int => ⟨[(1, .sl 2 (L.map encFrame)), (2, .ptr 2 0 0 0), (4, .ptr 4 0 0 0), (6, .ptr 6 0 0 0), (7, .v (.int .i64 s.2.2)), (8, .v (.int .i64 s.1))],
    [(2, .box 37 [.sl 3 (N.map encNode)]), (4, .box 37 [.v (.slice none 0 0)]), (6, .box 37 [.own 11]), (11, .sl 132 3 (s.2.1.map encNode))]⟩)
    (fun s => s.1 ≤ L.length ∧ (∀ j (hj : j < L.length), j < s.1 → frOk L[j] = true) ∧ intGo L (N, -1) = intGo (L.drop s.1) s.2 ∧ s.2.1.length ≤ N.length + s.1 ∧ -1 ≤ s.2.2 ∧ s.2.2 < s.2.1.length) (fun s => L.length - s.1) (0, N, -1) ⟨by simp, by simp, by simp, by simp, by simp only; omega, by simp only; omega⟩ ?_ ?_
  · (simp only [go_sem, tyAll, Nat.reduceAdd, Nat.reduceLT, Nat.reduceLeDiff, Nat.reduceEqDiff, Nat.reduceMul, Nat.reduceSub, Nat.reduceGT, reduceIte, Int.reduceNeg, Int.reduceToNat] <;> (first | rfl | exact ⟨rfl, rfl⟩ | exact ⟨rfl, rfl, rfl⟩ | exact ⟨rfl, rfl, rfl, rfl⟩ | exact ⟨rfl, rfl, rfl, rfl, rfl⟩ | exact ⟨⟨rfl, rfl⟩, rfl⟩ | simp))
  rintro ⟨k, M, at'⟩ ⟨hk, hf, hg, hm, ha0, ha1⟩
  simp only at hk hf hg hm ha0 ha1 ⊢
  by_cases hlt : k < L.length
  · have h1 := rowAt_map encFrame L k hlt
    have hnm := hL _ (List.getElem_mem hlt)
    have hst := intGo_step hlt (M, at')
    have hcb := child_bound M at' L[k]
    rw [← hg] at hst
    simp only at hst hcb
    (repeat' (first | refine WP.seq ?_ | refine WP.block ?_ | ((first | refine WP.region ?_ | refine WP.condW ?_ | refine WP.ret ?_ | refine WP.exit ?_ | refine WP.skip ?_); simp only [go_sem, h1, encFrame, tyAll, Nat.reduceAdd, Nat.reduceLT, Nat.reduceLeDiff, Nat.reduceEqDiff, Nat.reduceMul, Nat.reduceSub, Nat.reduceGT, reduceIte, Int.reduceNeg, Int.reduceToNat]) | ((first | refine WP.flowW 9 flc3c988df08 [47, 48, 49, 50, 51, 52, 53, 54, 55] [55] [] (by decide +kernel) (by kernel_rfl) (by kernel_rfl) (by kernel_rfl) ?_ | refine WP.drawW 7 (by decide +kernel) (by kernel_rfl) ?_); simp only [go_sem, h1, encFrame, tyAll, Nat.reduceAdd, Nat.reduceLT, Nat.reduceLeDiff, Nat.reduceEqDiff, Nat.reduceMul, Nat.reduceSub, Nat.reduceGT, reduceIte, Int.reduceNeg, Int.reduceToNat]) |  refine And.intro ?_ ?_ | intro _))
    all_goals first | omega | exact rlNode ‹_› | exact ⟨_, _, _, rfl⟩ | exact ⟨_, _, rfl, _, _, rfl, rfl⟩ | skip
    · rename_i hb; rw [intern_bad hlt hb]
    · rename_i hb; rw [intern_bad hlt hb]
    · rename_i hfr hc
      have hc' : child M at' L[k] < 0 := hc
      rw [if_pos hc'] at hst
      refine ⟨(k + 1, M ++ [mkNode at' L[k]], (M.length : Int)), ⟨by simp only; omega, fun j hj hjk => ?_, hst, by simp only [List.length_append, List.length_cons, List.length_nil]; omega, by simp only; omega, by simp only [List.length_append, List.length_cons, List.length_nil]; omega⟩, by simp only; omega, by (first | rfl | exact ⟨rfl, rfl⟩ | exact ⟨rfl, rfl, rfl⟩ | exact ⟨rfl, rfl, rfl, rfl⟩ | exact ⟨rfl, rfl, rfl, rfl, rfl⟩ | exact ⟨⟨rfl, rfl⟩, rfl⟩ | simp), by simp only [List.map_append, List.map_cons, List.map_nil]; rfl⟩
      rcases Nat.lt_or_ge j k with hh | hh
      · exact hf j hj hh
      · have : j = k := by omega
        subst this; exact hfr
    · rename_i hfr hc
      have hc' : ¬ child M at' L[k] < 0 := by show ¬ child M at' ⟨L[k].name, L[k].line⟩ < 0; omega
      rw [if_neg hc'] at hst
      refine ⟨(k + 1, M, child M at' L[k]), ⟨by simp only; omega, fun j hj hjk => ?_, hst, by simp only; omega, by simp only; omega, by simp only; omega⟩, by simp only; omega, by (first | rfl | exact ⟨rfl, rfl⟩ | exact ⟨rfl, rfl, rfl⟩ | exact ⟨rfl, rfl, rfl, rfl⟩ | exact ⟨rfl, rfl, rfl, rfl, rfl⟩ | exact ⟨⟨rfl, rfl⟩, rfl⟩ | simp)⟩
      rcases Nat.lt_or_ge j k with hh | hh
      · exact hf j hj hh
      · have : j = k := by omega
        subst this; exact hfr
  · have hall : L.all frOk = true := by
      rw [List.all_eq_true]
      intro f hfm
      obtain ⟨j, hj, rfl⟩ := List.mem_iff_getElem.1 hfm
      exact hf j hj (by omega)
    rw [if_pos hall, hg, show k = L.length by omega, List.drop_length, intGo] at hi
    (repeat' (first | refine WP.seq ?_ | refine WP.block ?_ | ((first | refine WP.region ?_ | refine WP.condW ?_ | refine WP.ret ?_ | refine WP.exit ?_ | refine WP.skip ?_); simp only [go_sem, tyAll, Nat.reduceAdd, Nat.reduceLT, Nat.reduceLeDiff, Nat.reduceEqDiff, Nat.reduceMul, Nat.reduceSub, Nat.reduceGT, reduceIte, Int.reduceNeg, Int.reduceToNat]) | ((first | refine WP.flowW 9 flc3c988df08 [47, 48, 49, 50, 51, 52, 53, 54, 55] [55] [] (by decide +kernel) (by kernel_rfl) (by kernel_rfl) (by kernel_rfl) ?_ | refine WP.drawW 7 (by decide +kernel) (by kernel_rfl) ?_); simp only [go_sem, tyAll, Nat.reduceAdd, Nat.reduceLT, Nat.reduceLeDiff, Nat.reduceEqDiff, Nat.reduceMul, Nat.reduceSub, Nat.reduceGT, reduceIte, Int.reduceNeg, Int.reduceToNat]) |  refine And.intro ?_ ?_ | intro _))
    all_goals first | omega | exact rlNode ‹_› | exact ⟨_, _, _, rfl⟩ | exact ⟨_, _, rfl, _, _, rfl, rfl⟩ | skip
    · rw [hi]
    · rw [hi]
end
section
noncomputable def cxInI : Cx := { P := Tryz.prog, tys := tys, C := [(79, kStOk), (90, kCopyStk), (91, kFrOk), (92, kChild)], hty := tysOk, hC := COk.cons cStOkI (COk.cons cCopyStkI (COk.cons cFrOkI (COk.cons cChildI (COk.nil _)))) }
theorem cxInI_t : cxInI.tys = tys := rfl
theorem cxInI_c : cxInI.C = [(79, kStOk), (90, kCopyStk), (91, kFrOk), (92, kChild)] := rfl
attribute [local go_sem] cxInI_t cxInI_c kStOk kCopyStk kFrOk kChild
theorem cInternI : Cn Tryz.prog 66 kIntern := by
  refine Cn.pur Tryz.func66 (by kernel_rfl) rfl fun d x hx => ?_
  obtain ⟨N, L⟩ := x
  obtain ⟨⟨hN, hs⟩, hL⟩ := hx
  simp only at hN hs hL ⊢
  refine Holds.go (c := cxInI) Tryz.func66 rfl Tryz.results66 Tryz.ntmps66 (by omega) (by simp) rfl ?_
  intro X0 w0
  (repeat' (first | refine WP.seq ?_ | refine WP.block ?_ | ((first | refine WP.region ?_ | refine WP.condW ?_ | refine WP.ret ?_ | refine WP.exit ?_ | refine WP.skip ?_); simp only [go_sem, tyAll, Nat.reduceAdd, Nat.reduceLT, Nat.reduceLeDiff, Nat.reduceEqDiff, Nat.reduceMul, Nat.reduceSub, Nat.reduceGT, reduceIte, Int.reduceNeg, Int.reduceToNat]) |  refine And.intro ?_ ?_ | intro _))
  all_goals first | omega | exact hs _ ‹_› | exact ⟨_, _, _, rfl⟩ | exact ⟨_, _, rfl, _, _, rfl, rfl⟩ | skip
  · rename_i h; rw [intern_no (h.imp_right fun e => by omega)]
  · rename_i h; rw [intern_no (h.imp_right fun e => by omega)]
  rename_i h
  have hi : intern N L = if L.all frOk = true then intGo L (N, -1) else (N, -1) := by
    unfold intern
    by_cases ha : L.all frOk = true
    · rw [if_pos ha, if_pos ⟨h.1, fun e => by subst e; simp at h, ha⟩]
    · rw [if_neg ha, if_neg fun hc => ha hc.2.2]
  refine WP.loop (fun k : Nat => ⟨[(1, .sl 2 (L.map encFrame)), (4, .ptr 4 0 0 0), (6, .ptr 6 0 0 0), (24, .sl 2 (L.map encFrame)), (25, .v (.int .i64 L.length)), (26, .v (.int .i64 k))],
    [(4, .box 37 [.v (.slice none 0 0)]), (6, .box 37 [.own 14]), (14, .sl 132 3 (N.map encNode))]⟩)
    (fun k => k ≤ L.length ∧ (∀ j (hj : j < L.length), j < k → frOk L[j] = true)) (fun k => L.length - k) 0 ⟨by simp, by simp⟩ ?_ ?_
  · (simp only [go_sem, tyAll, Nat.reduceAdd, Nat.reduceLT, Nat.reduceLeDiff, Nat.reduceEqDiff, Nat.reduceMul, Nat.reduceSub, Nat.reduceGT, reduceIte, Int.reduceNeg, Int.reduceToNat] <;> (first | rfl | exact ⟨rfl, rfl⟩ | exact ⟨rfl, rfl, rfl⟩ | exact ⟨rfl, rfl, rfl, rfl⟩ | exact ⟨rfl, rfl, rfl, rfl, rfl⟩ | exact ⟨⟨rfl, rfl⟩, rfl⟩ | simp))
  intro k ⟨hk, hf⟩
  by_cases hlt : k < L.length
  · have h1 := rowAt_map encFrame L k hlt
    have hnm := hL _ (List.getElem_mem hlt)
    (repeat' (first | refine WP.seq ?_ | refine WP.block ?_ | ((first | refine WP.region ?_ | refine WP.condW ?_ | refine WP.ret ?_ | refine WP.exit ?_ | refine WP.skip ?_); simp only [go_sem, h1, encFrame, tyAll, Nat.reduceAdd, Nat.reduceLT, Nat.reduceLeDiff, Nat.reduceEqDiff, Nat.reduceMul, Nat.reduceSub, Nat.reduceGT, reduceIte, Int.reduceNeg, Int.reduceToNat]) |  refine And.intro ?_ ?_ | intro _))
    all_goals first | omega | exact rlNode ‹_› | exact ⟨_, _, _, rfl⟩ | exact ⟨_, _, rfl, _, _, rfl, rfl⟩ | skip
    · rename_i hb; rw [intern_bad hlt hb]
    · rename_i hb; rw [intern_bad hlt hb]
    · rename_i hfr
      refine ⟨k + 1, ⟨by omega, fun j hj hjk => ?_⟩, by omega, by (first | rfl | exact ⟨rfl, rfl⟩ | exact ⟨rfl, rfl, rfl⟩ | exact ⟨rfl, rfl, rfl, rfl⟩ | exact ⟨rfl, rfl, rfl, rfl, rfl⟩ | exact ⟨⟨rfl, rfl⟩, rfl⟩ | simp)⟩
      rcases Nat.lt_or_ge j k with hh | hh
      · exact hf j hj hh
      · have : j = k := by omega
        subst this; exact hfr
  have hall : L.all frOk = true := by
    rw [List.all_eq_true]
    intro f hfm
    obtain ⟨j, hj, rfl⟩ := List.mem_iff_getElem.1 hfm
    exact hf j hj (by omega)
  rw [if_pos hall] at hi
  (repeat' (first | refine WP.seq ?_ | refine WP.block ?_ | ((first | refine WP.region ?_ | refine WP.condW ?_ | refine WP.ret ?_ | refine WP.exit ?_ | refine WP.skip ?_); simp only [go_sem, tyAll, Nat.reduceAdd, Nat.reduceLT, Nat.reduceLeDiff, Nat.reduceEqDiff, Nat.reduceMul, Nat.reduceSub, Nat.reduceGT, reduceIte, Int.reduceNeg, Int.reduceToNat]) |  refine And.intro ?_ ?_ | intro _))
  all_goals first | omega | skip
  refine WP.loop (fun s : Nat × List Node × Int => ⟨[(4, .ptr 4 0 0 0), (6, .ptr 6 0 0 0), (9, .v (.int .i64 s.2.2)), (35, .sl 2 (L.map encFrame)), (36, .v (.int .i64 L.length)), (37, .v (.int .i64 s.1))],
    [(4, .box 37 [.v (.slice none 0 0)]), (6, .box 37 [.own 14]), (14, .sl 132 3 (s.2.1.map encNode))]⟩)
    (fun s => s.1 ≤ L.length ∧ intGo L (N, -1) = intGo (L.drop s.1) s.2 ∧ s.2.1.length ≤ N.length + s.1 ∧ -1 ≤ s.2.2 ∧ s.2.2 < s.2.1.length) (fun s => L.length - s.1) (0, N, -1) ⟨by simp, by simp, by simp, by simp only; omega, by simp only; omega⟩ ?_ ?_
  · (simp only [go_sem, tyAll, Nat.reduceAdd, Nat.reduceLT, Nat.reduceLeDiff, Nat.reduceEqDiff, Nat.reduceMul, Nat.reduceSub, Nat.reduceGT, reduceIte, Int.reduceNeg, Int.reduceToNat] <;> (first | rfl | exact ⟨rfl, rfl⟩ | exact ⟨rfl, rfl, rfl⟩ | exact ⟨rfl, rfl, rfl, rfl⟩ | exact ⟨rfl, rfl, rfl, rfl, rfl⟩ | exact ⟨⟨rfl, rfl⟩, rfl⟩ | simp))
  rintro ⟨k, M, at'⟩ ⟨hk, hg, hm, ha0, ha1⟩
  simp only at hk hg hm ha0 ha1 ⊢
  by_cases hlt : k < L.length
  · have h1 := rowAt_map encFrame L k hlt
    have hnm := hL _ (List.getElem_mem hlt)
    have hst := intGo_step hlt (M, at')
    have hcb := child_bound M at' L[k]
    rw [← hg] at hst
    simp only at hst hcb
    (repeat' (first | refine WP.seq ?_ | refine WP.block ?_ | ((first | refine WP.region ?_ | refine WP.condW ?_ | refine WP.ret ?_ | refine WP.exit ?_ | refine WP.skip ?_); simp only [go_sem, h1, encFrame, tyAll, Nat.reduceAdd, Nat.reduceLT, Nat.reduceLeDiff, Nat.reduceEqDiff, Nat.reduceMul, Nat.reduceSub, Nat.reduceGT, reduceIte, Int.reduceNeg, Int.reduceToNat]) |  refine And.intro ?_ ?_ | intro _))
    all_goals first | omega | exact rlNode ‹_› | exact ⟨_, _, _, rfl⟩ | exact ⟨_, _, rfl, _, _, rfl, rfl⟩ | skip
    · rename_i hc
      have hc' : child M at' L[k] < 0 := hc
      rw [if_pos hc'] at hst
      refine ⟨(k + 1, M ++ [mkNode at' L[k]], (M.length : Int)), ⟨by simp only; omega, hst, by simp only [List.length_append, List.length_cons, List.length_nil]; omega, by simp only; omega, by simp only [List.length_append, List.length_cons, List.length_nil]; omega⟩, by simp only; omega, by (first | rfl | exact ⟨rfl, rfl⟩ | exact ⟨rfl, rfl, rfl⟩ | exact ⟨rfl, rfl, rfl, rfl⟩ | exact ⟨rfl, rfl, rfl, rfl, rfl⟩ | exact ⟨⟨rfl, rfl⟩, rfl⟩ | simp), by simp only [List.map_append, List.map_cons, List.map_nil]; rfl⟩
    · rename_i hc
      have hc' : ¬ child M at' L[k] < 0 := by show ¬ child M at' ⟨L[k].name, L[k].line⟩ < 0; omega
      rw [if_neg hc'] at hst
      refine ⟨(k + 1, M, child M at' L[k]), ⟨by simp only; omega, hst, by simp only; omega, by simp only; omega, by simp only; omega⟩, by simp only; omega, by (first | rfl | exact ⟨rfl, rfl⟩ | exact ⟨rfl, rfl, rfl⟩ | exact ⟨rfl, rfl, rfl, rfl⟩ | exact ⟨rfl, rfl, rfl, rfl, rfl⟩ | exact ⟨⟨rfl, rfl⟩, rfl⟩ | simp)⟩
  · rw [hg, show k = L.length by omega, List.drop_length, intGo] at hi
    (repeat' (first | refine WP.seq ?_ | refine WP.block ?_ | ((first | refine WP.region ?_ | refine WP.condW ?_ | refine WP.ret ?_ | refine WP.exit ?_ | refine WP.skip ?_); simp only [go_sem, tyAll, Nat.reduceAdd, Nat.reduceLT, Nat.reduceLeDiff, Nat.reduceEqDiff, Nat.reduceMul, Nat.reduceSub, Nat.reduceGT, reduceIte, Int.reduceNeg, Int.reduceToNat]) |  refine And.intro ?_ ?_ | intro _))
    all_goals first | omega | exact rlNode ‹_› | exact ⟨_, _, _, rfl⟩ | exact ⟨_, _, rfl, _, _, rfl, rfl⟩ | skip
    · rw [hi]
    · rw [hi]
end
end
section
open Go.Vc
set_option linter.unusedSimpArgs false
set_option linter.unusedVariables false
set_option maxHeartbeats 1000000
set_option maxRecDepth 10000
attribute [local irreducible] Go.Vc.WP
attribute [local go_sem] cx0_t cx0_c
attribute [local go_sem] decNode_enc decFrame_enc oneFrame_enc stkA oneFrame_ab oneNode_abc decI_enc prA
theorem padC (C : List Int) (j : Nat) : (C ++ List.replicate j 0).map encI ++ [[SV.v (.int .i64 0)]] = (C ++ List.replicate (j + 1) 0).map encI := by
  rw [List.replicate_succ', ← List.append_assoc, List.map_append (l₂ := [0])]; rfl
theorem padC_get {C : List Int} {m k : Nat} (hk : k < C.length + m) (h0 : ∀ x ∈ C, 0 ≤ x ∧ x ≤ 1000000000000) : 0 ≤ (C ++ List.replicate m 0).getD k 0 ∧ (C ++ List.replicate m 0).getD k 0 ≤ 1000000000000 := by
  rw [List.getD_eq_getElem?_getD, List.getElem?_append]
  split
  · rename_i h
    rw [List.getElem?_eq_getElem h]
    exact h0 _ (List.getElem_mem h)
  · rename_i h
    rw [List.getElem?_replicate, if_pos (by omega)]; simp
def kAddStack : Ctr := pur (fun args => (prA args 0, decFrame (aR args 1), aI args 2)) (fun x => [.agg [.sl 3 (x.1.1.map encNode), .sl 1 (x.1.2.map encI)], .sl 2 (x.2.1.map encFrame), .v (.int .i64 x.2.2)])
  (fun x => (x.1.1.length + x.2.1.length ≤ 4398046511104 ∧ (∀ n ∈ x.1.1, n.name.size ≤ 1099511627776) ∧ x.1.2.length ≤ 4398046511104) ∧ ∀ f ∈ x.2.1, f.name.size ≤ 1099511627776)
  (fun d x => .tup [.agg [.own d, .own (d + 1000)], .v (.bool (addStack x.1.1 x.1.2 x.2.1 x.2.2).2)]) (fun d x => [(d, .sl 132 3 ((addStack x.1.1 x.1.2 x.2.1 x.2.2).1.1.map encNode)), (d + 1000, .sl 3 1 ((addStack x.1.1 x.1.2 x.2.1 x.2.2).1.2.map encI))])
theorem addNo {N : List Node} {C : List Int} {L : List Frame} {n : Int} (h : profileOk N C = false ∨ n < 0 ∨ 1000000000000 < n ∨ (intern N L).2 < 0) : addStack N C L n = ((N, C), false) := by
  unfold addStack
  rw [if_neg]
  rintro ⟨h1, h2, h3, h4, _⟩
  rcases h with h | h | h | h
  · rw [h1] at h; cases h
  · omega
  · omega
  · omega
section
noncomputable def cxAsS : Cx := { P := Tryz.prog, tys := tys, C := [(39, kPrOk), (30, k60), (101, kCopyPr), (102, kIntern)], hty := tysOk, hC := COk.cons cPrOkS (COk.cons c58 (COk.cons cCopyPrS (COk.cons cInternS (COk.nil _)))) }
theorem cxAsS_t : cxAsS.tys = tys := rfl
theorem cxAsS_c : cxAsS.C = [(39, kPrOk), (30, k60), (101, kCopyPr), (102, kIntern)] := rfl
attribute [local go_sem] cxAsS_t cxAsS_c kPrOk k60 kCopyPr kIntern
theorem cAddStackS : Cn Tryz.prog 78 kAddStack := by
  refine Cn.pur Tryz.func78 (by kernel_rfl) rfl fun d x hx => ?_
  obtain ⟨⟨N, C⟩, L, n⟩ := x
  obtain ⟨⟨hN, hs, hC⟩, hL⟩ := hx
  simp only at hN hs hC hL ⊢
  have hil := intern_len N L
  have hia := intern_at N L
  have hin := intern_names (B := 1099511627776) hs hL
  have hadd : profileOk N C = false ∨ n < 0 ∨ 1000000000000 < n ∨ (intern N L).2 < 0 → addStack N C L n = ((N, C), false) := addNo
  have hyes : profileOk N C = true → 0 ≤ n → n ≤ 1000000000000 → 0 ≤ (intern N L).2 → addStack N C L n = if profileOk (intern N L).1 (addC C (intern N L).1.length (intern N L).2.toNat n) = true then (((intern N L).1, addC C (intern N L).1.length (intern N L).2.toNat n), true) else ((N, C), false) := fun h1 h2 h3 h4 => by
    unfold addStack
    by_cases hp : profileOk (intern N L).1 (addC C (intern N L).1.length (intern N L).2.toNat n) = true
    · rw [if_pos hp, if_pos ⟨h1, h2, h3, h4, hp⟩]
    · rw [if_neg hp, if_neg fun hc => hp hc.2.2.2.2]
  generalize hI : intern N L = I at *
  obtain ⟨M, at'⟩ := I
  simp only at hil hia hin hadd hyes
  generalize hA : addStack N C L n = A at *
  refine Holds.go (c := cxAsS) Tryz.func78 rfl Tryz.results78 Tryz.ntmps78 (by omega) (by simp) rfl ?_
  intro X0 w0
  (repeat' (first | refine WP.seq ?_ | refine WP.block ?_ | ((first | refine WP.region ?_ | refine WP.condW ?_ | refine WP.ret ?_ | refine WP.exit ?_ | refine WP.skip ?_); simp only [go_sem, hI, tyAll, Nat.reduceAdd, Nat.reduceLT, Nat.reduceLeDiff, Nat.reduceEqDiff, Nat.reduceMul, Nat.reduceSub, Nat.reduceGT, reduceIte, Int.reduceNeg, Int.reduceToNat]) | ((first | refine WP.drawW 10 (by decide +kernel) (by kernel_rfl) ?_); simp only [go_sem, hI, tyAll, Nat.reduceAdd, Nat.reduceLT, Nat.reduceLeDiff, Nat.reduceEqDiff, Nat.reduceMul, Nat.reduceSub, Nat.reduceGT, reduceIte, Int.reduceNeg, Int.reduceToNat]) |  refine And.intro ?_ ?_ | intro _))
  all_goals first | omega | (simp only; omega) | exact hs _ ‹_› | exact hL _ ‹_› | exact ⟨_, _, _, rfl⟩ | exact ⟨_, _, rfl, _, _, rfl, rfl⟩ | skip
  iterate 3
    · rename_i h
      have e := hadd (h.elim .inl fun h => .inr (h.elim .inl fun h => .inr (.inl h)))
      subst e
      first | rfl | exact if_neg (by omega)
  iterate 3
    · rename_i h1 h
      have e := hadd (.inr (.inr (.inr h)))
      subst e
      first | rfl | exact if_neg (by omega)
  rename_i h h0
  obtain ⟨hpo, hn0, hn1⟩ := h
  have hy := hyes hpo hn0 hn1 (by omega)
  obtain ⟨_, hlen, hcnt⟩ := profileOk_iff.1 hpo
  have hpos : ∀ x ∈ C, 0 ≤ x ∧ x ≤ 1000000000000 := fun x hx => by
    obtain ⟨j, hj, rfl⟩ := List.mem_iff_getElem.1 hx
    have h1 := cntOk_at hcnt j hj
    have h2 := profileOk_sum hpo j (by omega)
    omega
  refine WP.loop (fun j : Nat => ⟨[(2, .v (.int .i64 n)), (3, .ptr 3 0 0 0), (6, .ptr 6 0 0 0), (8, .ptr 8 0 0 0), (9, .ptr 9 0 0 0), (10, .v (.int .i64 at'))],
    [(3, .box 39 [.sl 3 (N.map encNode), .sl 1 (C.map encI)]), (6, .box 39 [.v (.slice none 0 0), .v (.slice none 0 0)]), (8, .box 39 [.own 27, .own 1022]), (9, .box 37 [.own 27]), (27, .sl 132 3 (M.map encNode)), (1022, .sl 3 1 ((C ++ List.replicate j 0).map encI))]⟩)
    (fun j => C.length + j ≤ M.length) (fun j => M.length - j) 0 (by omega) ?_ ?_
  · have e0 : C ++ List.replicate 0 0 = C := by simp
    (simp only [go_sem, e0, tyAll, Nat.reduceAdd, Nat.reduceLT, Nat.reduceLeDiff, Nat.reduceEqDiff, Nat.reduceMul, Nat.reduceSub, Nat.reduceGT, reduceIte, Int.reduceNeg, Int.reduceToNat] <;> (first | rfl | exact ⟨rfl, rfl⟩ | exact ⟨rfl, rfl, rfl⟩ | exact ⟨rfl, rfl, rfl, rfl⟩ | exact ⟨rfl, rfl, rfl, rfl, rfl⟩ | exact ⟨⟨rfl, rfl⟩, rfl⟩ | simp))
  intro j hj
  have hcl : (C ++ List.replicate j (0 : Int)).length = C.length + j := by simp
  by_cases hlt : C.length + j < M.length
  · have hpad := padC C j
    (repeat' (first | refine WP.seq ?_ | refine WP.block ?_ | ((first | refine WP.region ?_ | refine WP.condW ?_ | refine WP.ret ?_ | refine WP.exit ?_ | refine WP.skip ?_); simp only [go_sem, hcl, hpad, tyAll, Nat.reduceAdd, Nat.reduceLT, Nat.reduceLeDiff, Nat.reduceEqDiff, Nat.reduceMul, Nat.reduceSub, Nat.reduceGT, reduceIte, Int.reduceNeg, Int.reduceToNat]) | ((first | refine WP.drawW 10 (by decide +kernel) (by kernel_rfl) ?_); simp only [go_sem, hcl, hpad, tyAll, Nat.reduceAdd, Nat.reduceLT, Nat.reduceLeDiff, Nat.reduceEqDiff, Nat.reduceMul, Nat.reduceSub, Nat.reduceGT, reduceIte, Int.reduceNeg, Int.reduceToNat]) |  refine And.intro ?_ ?_ | intro _))
    all_goals first | omega | exact rlI ‹_› | exact ⟨_, _, _, rfl⟩ | exact ⟨_, _, rfl, _, _, rfl, rfl⟩ | skip
    all_goals exact ⟨j + 1, by omega, by omega, by (first | rfl | exact ⟨rfl, rfl⟩ | exact ⟨rfl, rfl, rfl⟩ | exact ⟨rfl, rfl, rfl, rfl⟩ | exact ⟨rfl, rfl, rfl, rfl, rfl⟩ | exact ⟨⟨rfl, rfl⟩, rfl⟩ | simp)⟩
  · have hj2 : j = M.length - C.length := by omega
    have hk : at'.toNat < (C ++ List.replicate j (0 : Int)).length := by omega
    have h1 := rowAt_map encI (C ++ List.replicate j 0) at'.toNat hk
    have hb := padC_get (C := C) (m := j) (k := at'.toNat) (by omega) hpos
    have hg : (C ++ List.replicate j (0 : Int))[at'.toNat] = (C ++ List.replicate j 0).getD at'.toNat 0 := by rw [List.getD_eq_getElem?_getD, List.getElem?_eq_getElem hk]; rfl
    rw [hg] at h1
    have hset : addC C M.length at'.toNat n = (C ++ List.replicate j 0).set at'.toNat ((C ++ List.replicate j 0).getD at'.toNat 0 + n) := by rw [hj2]; rfl
    have hal := addC_len C M.length at'.toNat n
    rw [hset] at hy hal
    generalize (C ++ List.replicate j (0 : Int)).getD at'.toNat 0 = v at *
    have hse : ((C ++ List.replicate j 0).map encI).set at'.toNat [SV.v (.int .i64 (v + n))] = ((C ++ List.replicate j 0).set at'.toNat (v + n)).map encI := by rw [List.map_set]; rfl
    generalize (C ++ List.replicate j (0 : Int)).set at'.toNat (v + n) = D at *
    (repeat' (first | refine WP.seq ?_ | refine WP.block ?_ | ((first | refine WP.region ?_ | refine WP.condW ?_ | refine WP.ret ?_ | refine WP.exit ?_ | refine WP.skip ?_); simp only [go_sem, hcl, h1, hse, encI, tyAll, Nat.reduceAdd, Nat.reduceLT, Nat.reduceLeDiff, Nat.reduceEqDiff, Nat.reduceMul, Nat.reduceSub, Nat.reduceGT, reduceIte, Int.reduceNeg, Int.reduceToNat]) | ((first | refine WP.drawW 10 (by decide +kernel) (by kernel_rfl) ?_); simp only [go_sem, hcl, h1, hse, encI, tyAll, Nat.reduceAdd, Nat.reduceLT, Nat.reduceLeDiff, Nat.reduceEqDiff, Nat.reduceMul, Nat.reduceSub, Nat.reduceGT, reduceIte, Int.reduceNeg, Int.reduceToNat]) |  refine And.intro ?_ ?_ | intro _))
    all_goals first | omega | (simp only; omega) | exact hin _ ‹_› | exact ⟨_, _, _, rfl⟩ | exact ⟨_, _, rfl, _, _, rfl, rfl⟩ | skip
    iterate 3
      · rename_i h8 hf
        have e : A = ((N, C), false) := by rw [hy, if_neg (by rw [hf]; simp)]
        subst e
        first | rfl | exact if_neg (by omega)
    iterate 3
      · rename_i h8 hf
        have e : A = ((M, D), true) := by rw [hy, if_pos hf]
        subst e
        first | rfl | exact if_neg (by omega)
end
section
noncomputable def cxAsI : Cx := { P := Tryz.prog, tys := tys, C := [(41, kPrOk), (44, k60), (65, kCopyPr), (66, kIntern)], hty := tysOk, hC := COk.cons cPrOkI (COk.cons c60 (COk.cons cCopyPrI (COk.cons cInternI (COk.nil _)))) }
theorem cxAsI_t : cxAsI.tys = tys := rfl
theorem cxAsI_c : cxAsI.C = [(41, kPrOk), (44, k60), (65, kCopyPr), (66, kIntern)] := rfl
attribute [local go_sem] cxAsI_t cxAsI_c kPrOk k60 kCopyPr kIntern
theorem cAddStackI : Cn Tryz.prog 34 kAddStack := by
  refine Cn.pur Tryz.func34 (by kernel_rfl) rfl fun d x hx => ?_
  obtain ⟨⟨N, C⟩, L, n⟩ := x
  obtain ⟨⟨hN, hs, hC⟩, hL⟩ := hx
  simp only at hN hs hC hL ⊢
  have hil := intern_len N L
  have hia := intern_at N L
  have hin := intern_names (B := 1099511627776) hs hL
  have hadd : profileOk N C = false ∨ n < 0 ∨ 1000000000000 < n ∨ (intern N L).2 < 0 → addStack N C L n = ((N, C), false) := addNo
  have hyes : profileOk N C = true → 0 ≤ n → n ≤ 1000000000000 → 0 ≤ (intern N L).2 → addStack N C L n = if profileOk (intern N L).1 (addC C (intern N L).1.length (intern N L).2.toNat n) = true then (((intern N L).1, addC C (intern N L).1.length (intern N L).2.toNat n), true) else ((N, C), false) := fun h1 h2 h3 h4 => by
    unfold addStack
    by_cases hp : profileOk (intern N L).1 (addC C (intern N L).1.length (intern N L).2.toNat n) = true
    · rw [if_pos hp, if_pos ⟨h1, h2, h3, h4, hp⟩]
    · rw [if_neg hp, if_neg fun hc => hp hc.2.2.2.2]
  generalize hI : intern N L = I at *
  obtain ⟨M, at'⟩ := I
  simp only at hil hia hin hadd hyes
  generalize hA : addStack N C L n = A at *
  refine Holds.go (c := cxAsI) Tryz.func34 rfl Tryz.results34 Tryz.ntmps34 (by omega) (by simp) rfl ?_
  intro X0 w0
  (repeat' (first | refine WP.seq ?_ | refine WP.block ?_ | ((first | refine WP.region ?_ | refine WP.condW ?_ | refine WP.ret ?_ | refine WP.exit ?_ | refine WP.skip ?_); simp only [go_sem, hI, tyAll, Nat.reduceAdd, Nat.reduceLT, Nat.reduceLeDiff, Nat.reduceEqDiff, Nat.reduceMul, Nat.reduceSub, Nat.reduceGT, reduceIte, Int.reduceNeg, Int.reduceToNat]) |  refine And.intro ?_ ?_ | intro _))
  all_goals first | omega | (simp only; omega) | exact hs _ ‹_› | exact hL _ ‹_› | exact ⟨_, _, _, rfl⟩ | exact ⟨_, _, rfl, _, _, rfl, rfl⟩ | skip
  iterate 3
    · rename_i h
      have e := hadd (h.elim .inl fun h => .inr (h.elim .inl fun h => .inr (.inl h)))
      subst e
      first | rfl | exact if_neg (by omega)
  iterate 3
    · rename_i h1 h
      have e := hadd (.inr (.inr (.inr h)))
      subst e
      first | rfl | exact if_neg (by omega)
  rename_i h h0
  obtain ⟨hpo, hn0, hn1⟩ := h
  have hy := hyes hpo hn0 hn1 (by omega)
  obtain ⟨_, hlen, hcnt⟩ := profileOk_iff.1 hpo
  have hpos : ∀ x ∈ C, 0 ≤ x ∧ x ≤ 1000000000000 := fun x hx => by
    obtain ⟨j, hj, rfl⟩ := List.mem_iff_getElem.1 hx
    have h1 := cntOk_at hcnt j hj
    have h2 := profileOk_sum hpo j (by omega)
    omega
  refine WP.loop (fun j : Nat => ⟨[(2, .v (.int .i64 n)), (3, .ptr 3 0 0 0), (6, .ptr 6 0 0 0), (8, .ptr 8 0 0 0), (9, .ptr 9 0 0 0), (10, .v (.int .i64 at'))],
    [(3, .box 39 [.sl 3 (N.map encNode), .sl 1 (C.map encI)]), (6, .box 39 [.v (.slice none 0 0), .v (.slice none 0 0)]), (8, .box 39 [.own 27, .own 1022]), (9, .box 37 [.own 27]), (27, .sl 132 3 (M.map encNode)), (1022, .sl 3 1 ((C ++ List.replicate j 0).map encI))]⟩)
    (fun j => C.length + j ≤ M.length) (fun j => M.length - j) 0 (by omega) ?_ ?_
  · have e0 : C ++ List.replicate 0 0 = C := by simp
    (simp only [go_sem, e0, tyAll, Nat.reduceAdd, Nat.reduceLT, Nat.reduceLeDiff, Nat.reduceEqDiff, Nat.reduceMul, Nat.reduceSub, Nat.reduceGT, reduceIte, Int.reduceNeg, Int.reduceToNat] <;> (first | rfl | exact ⟨rfl, rfl⟩ | exact ⟨rfl, rfl, rfl⟩ | exact ⟨rfl, rfl, rfl, rfl⟩ | exact ⟨rfl, rfl, rfl, rfl, rfl⟩ | exact ⟨⟨rfl, rfl⟩, rfl⟩ | simp))
  intro j hj
  have hcl : (C ++ List.replicate j (0 : Int)).length = C.length + j := by simp
  by_cases hlt : C.length + j < M.length
  · have hpad := padC C j
    (repeat' (first | refine WP.seq ?_ | refine WP.block ?_ | ((first | refine WP.region ?_ | refine WP.condW ?_ | refine WP.ret ?_ | refine WP.exit ?_ | refine WP.skip ?_); simp only [go_sem, hcl, hpad, tyAll, Nat.reduceAdd, Nat.reduceLT, Nat.reduceLeDiff, Nat.reduceEqDiff, Nat.reduceMul, Nat.reduceSub, Nat.reduceGT, reduceIte, Int.reduceNeg, Int.reduceToNat]) |  refine And.intro ?_ ?_ | intro _))
    all_goals first | omega | exact rlI ‹_› | exact ⟨_, _, _, rfl⟩ | exact ⟨_, _, rfl, _, _, rfl, rfl⟩ | skip
    all_goals exact ⟨j + 1, by omega, by omega, by (first | rfl | exact ⟨rfl, rfl⟩ | exact ⟨rfl, rfl, rfl⟩ | exact ⟨rfl, rfl, rfl, rfl⟩ | exact ⟨rfl, rfl, rfl, rfl, rfl⟩ | exact ⟨⟨rfl, rfl⟩, rfl⟩ | simp)⟩
  · have hj2 : j = M.length - C.length := by omega
    have hk : at'.toNat < (C ++ List.replicate j (0 : Int)).length := by omega
    have h1 := rowAt_map encI (C ++ List.replicate j 0) at'.toNat hk
    have hb := padC_get (C := C) (m := j) (k := at'.toNat) (by omega) hpos
    have hg : (C ++ List.replicate j (0 : Int))[at'.toNat] = (C ++ List.replicate j 0).getD at'.toNat 0 := by rw [List.getD_eq_getElem?_getD, List.getElem?_eq_getElem hk]; rfl
    rw [hg] at h1
    have hset : addC C M.length at'.toNat n = (C ++ List.replicate j 0).set at'.toNat ((C ++ List.replicate j 0).getD at'.toNat 0 + n) := by rw [hj2]; rfl
    have hal := addC_len C M.length at'.toNat n
    rw [hset] at hy hal
    generalize (C ++ List.replicate j (0 : Int)).getD at'.toNat 0 = v at *
    have hse : ((C ++ List.replicate j 0).map encI).set at'.toNat [SV.v (.int .i64 (v + n))] = ((C ++ List.replicate j 0).set at'.toNat (v + n)).map encI := by rw [List.map_set]; rfl
    generalize (C ++ List.replicate j (0 : Int)).set at'.toNat (v + n) = D at *
    (repeat' (first | refine WP.seq ?_ | refine WP.block ?_ | ((first | refine WP.region ?_ | refine WP.condW ?_ | refine WP.ret ?_ | refine WP.exit ?_ | refine WP.skip ?_); simp only [go_sem, hcl, h1, hse, encI, tyAll, Nat.reduceAdd, Nat.reduceLT, Nat.reduceLeDiff, Nat.reduceEqDiff, Nat.reduceMul, Nat.reduceSub, Nat.reduceGT, reduceIte, Int.reduceNeg, Int.reduceToNat]) |  refine And.intro ?_ ?_ | intro _))
    all_goals first | omega | (simp only; omega) | exact hin _ ‹_› | exact ⟨_, _, _, rfl⟩ | exact ⟨_, _, rfl, _, _, rfl, rfl⟩ | skip
    iterate 3
      · rename_i h8 hf
        have e : A = ((N, C), false) := by rw [hy, if_neg (by rw [hf]; simp)]
        subst e
        first | rfl | exact if_neg (by omega)
    iterate 3
      · rename_i h8 hf
        have e : A = ((M, D), true) := by rw [hy, if_pos hf]
        subst e
        first | rfl | exact if_neg (by omega)
end
end
end Go.Proofs.YtahcfcimfcjhhaaGreatDoor
/-
  DERIVED. A nil slice in a slot or in a variable's cell as a list of one's own that holds nothing.
-/
namespace Go.Vc
set_option linter.unusedVariables false

/-- object t is turned into what stands for the same cells -/
def rp (t : Nat) (ob : Ob) : List (Nat × Ob) → List (Nat × Ob)
  | [] => []
  | (u, o) :: l => (if u = t then (u, ob) else (u, o)) :: rp t ob l
theorem lk_rp {t : Nat} {ob : Ob} {j : Nat} : ∀ {l : List (Nat × Ob)} {o : Ob}, lk j (rp t ob l) = some o → ∃ o0, lk j l = some o0 ∧ (j = t → o = ob) ∧ (j ≠ t → o = o0)
  | (u, o1) :: l, o, h => by
    simp only [rp] at h
    by_cases hu : u = t
    · rw [if_pos hu] at h
      simp only [lk] at h ⊢
      by_cases hj : j = u
      · rw [if_pos hj] at h ⊢; cases h
        exact ⟨o1, rfl, fun _ => rfl, fun hn => absurd (hj.trans hu) hn⟩
      · rw [if_neg hj] at h ⊢; exact lk_rp h
    · rw [if_neg hu] at h
      simp only [lk] at h ⊢
      by_cases hj : j = u
      · rw [if_pos hj] at h ⊢; cases h
        exact ⟨_, rfl, fun e => absurd (hj.symm.trans e) hu, fun _ => rfl⟩
      · rw [if_neg hj] at h ⊢; exact lk_rp h
def isNil : SV → Bool
  | .v (.slice none 0 0) => true
  | _ => false
/-- cell k of variable t, a nil slice, is list id from here on (elements of type e, of s cells) -/
def St.adoptB (st : St) (t k id e s : Nat) : St :=
  match lk t (st.kill id).hp with
  | some (.box e' cs) => match cs[k]? with
    | some c => if isNil c = true ∧ id < 1000000 ∧ t ≠ id then { fr := (st.kill id).fr, hp := rp t (.box e' (cs.set k (.own id))) ((id, .sl e s []) :: (st.kill id).hp) } else st
    | none => st
  | _ => st
/-- .. what slot t holds -/
def St.adoptS (st : St) (t id e s : Nat) : St :=
  match lk t (st.kill id).fr with
  | some c => if isNil c = true ∧ id < 1000000 then { fr := (t, .own id) :: er t (st.kill id).fr, hp := (id, .sl e s []) :: (st.kill id).hp } else st
  | none => st
section
variable {c : Cx} {P : Program} {N : Nat} {X0 : Nat → Prop} {M : Nat → Value → Prop} {w0 : World} {st : St} {K : Exit → St → Prop}
theorem isNil_eq {x : SV} (h : isNil x = true) : x = .v (.slice none 0 0) := by
  unfold isNil at h
  split at h
  · rfl
  · cases h
theorem Sim.nilObj {β : Nat → Value} {a : Act} {w : World} (h : Sim N X0 M w0 st β a w) {id e s : Nat} (hid : id < 1000000) :
    ∃ β', β' id = .slice none 0 0 ∧ Sim N X0 M w0 { fr := (st.kill id).fr, hp := (id, .sl e s []) :: (st.kill id).hp } β' a w := by
  let β' : Nat → Value := fun i => if i = id then .slice none 0 0 else β i
  have hβ : ∀ i, i ≠ id → β' i = β i := fun i hi => by show (if i = id then _ else β i) = _; rw [if_neg hi]
  have hβd : β' id = .slice none 0 0 := by show (if id = id then _ else β id) = _; rw [if_pos rfl]
  have h1 := h.kill id hid hβ (by rw [hβd]; rfl) (w' := w) rfl rfl rfl (Nat.le_refl _) (fun _ _ _ => rfl) (X1 := X0) (fun b _ hb => .inl hb) h.x0
  refine ⟨β', hβd, ?_⟩
  exact h1.add (j := id) (lk_kill st id) (ob := .sl e s []) (.nil e s hβd) (fun b hb => by rw [hβd] at hb; cases hb) (fun b hb => by rw [hβd] at hb; cases hb) (fun b i o hb => by rw [hβd] at hb; cases hb)
theorem Sim.rp {β : Nat → Value} {a : Act} {w : World} (h : Sim N X0 M w0 st β a w) {t e' : Nat} {cs ds : List SV} (ht : lk t st.hp = some (.box e' cs)) (hl : ds.length = cs.length)
    (hd : ∀ (k : Nat) (d : SV), ds[k]? = some d → ∃ c, cs[k]? = some c ∧ ∀ u, R w (XX X0 β st.hp) β c u → R w (XX X0 β st.hp) β d u) : Sim N X0 M w0 { fr := st.fr, hp := Go.Vc.rp t (.box e' ds) st.hp } β a w := by
  have hX : ∀ b, XX X0 β (Go.Vc.rp t (.box e' ds) st.hp) b → XX X0 β st.hp b := fun b hb => by
    rcases hb with hb | ⟨j, o, hj, hb⟩
    · exact .inl hb
    · obtain ⟨o0, h1, _⟩ := lk_rp hj; exact .inr ⟨j, o0, h1, hb⟩
  have hS : Same (XX X0 β st.hp) w w := ⟨Nat.le_refl _, fun _ _ _ => rfl⟩
  exact { h with
    slots := fun u x hx => (h.slots u x hx).mono hS fun b _ => hX b
    objs := fun j o hj => by
      obtain ⟨o0, h1, h2, h3⟩ := lk_rp hj
      by_cases hjt : j = t
      · rw [h2 hjt]
        subst hjt
        have hO := h.objs j _ ht
        cases hO with
        | box b cur hv hh hlen hc =>
          refine .box b cur hv hh (by rw [hl]; exact hlen) fun k d u hk hu => ?_
          obtain ⟨c0, hc0, hR⟩ := hd k d hk
          obtain ⟨g1, g2⟩ := hc k c0 u hc0 hu
          exact ⟨g1, (hR u g2).mono hS fun b _ => hX b⟩
      · rw [h3 hjt]
        exact (h.objs j o0 h1).mono hS (fun b _ hb => hX b hb) (fun _ _ => rfl)
    inj := fun p q op oq b hp hq hbp hbq => by
      obtain ⟨o1, e1, _⟩ := lk_rp hp
      obtain ⟨o2, e2, _⟩ := lk_rp hq
      exact h.inj p q o1 o2 b e1 e2 hbp hbq
    mine := fun j o b hj hb => by
      obtain ⟨o1, e1, _⟩ := lk_rp hj
      exact h.mine j o1 b e1 hb }
theorem Sim.adoptB {β : Nat → Value} {a : Act} {w : World} (h : Sim N X0 M w0 st β a w) (t k id e s : Nat) : ∃ β', Sim N X0 M w0 (st.adoptB t k id e s) β' a w := by
  unfold St.adoptB
  split
  case h_2 => exact ⟨β, h⟩
  case h_1 _ e' cs hl =>
  split
  case h_2 => exact ⟨β, h⟩
  case h_1 _ c0 hc =>
  split
  case isFalse => exact ⟨β, h⟩
  case isTrue hh =>
  obtain ⟨hn, hid, hne⟩ := hh
  have hc0 := isNil_eq hn
  subst hc0
  obtain ⟨β', hb, h1⟩ := h.nilObj (e := e) (s := s) hid
  refine ⟨β', ?_⟩
  have hlt : k < cs.length := (List.getElem?_eq_some_iff.1 hc).1
  refine h1.rp (t := t) (e' := e') (cs := cs) (ds := cs.set k (.own id)) ?_ (by simp) fun i d hd => ?_
  · simp only [lk, if_neg hne]; exact hl
  · rw [List.getElem?_set] at hd
    split at hd
    · rename_i hik
      subst hik
      try rw [if_pos hlt] at hd
      cases hd
      exact ⟨_, hc, fun u hu => by have := hu.v_inv; subst this; rw [← hb]; exact .own id⟩
    · exact ⟨d, hd, fun u hu => hu⟩
theorem Sim.adoptS {β : Nat → Value} {a : Act} {w : World} (h : Sim N X0 M w0 st β a w) (t id e s : Nat) : ∃ β', Sim N X0 M w0 (st.adoptS t id e s) β' a w := by
  unfold St.adoptS
  split
  case h_2 => exact ⟨β, h⟩
  case h_1 _ c0 hc =>
  split
  case isFalse => exact ⟨β, h⟩
  case isTrue hh =>
  obtain ⟨hn, hid⟩ := hh
  have hc0 := isNil_eq hn
  subst hc0
  obtain ⟨β', hb, h1⟩ := h.nilObj (e := e) (s := s) hid
  refine ⟨β', ?_⟩
  have hv := (h1.slots t _ hc).v_inv
  exact { h1 with
    slots := fun u x hx => by
      simp only [lk] at hx
      split at hx
      · rename_i hut
        cases hx
        rw [hut, hv, ← hb]; exact .own id
      · rename_i hut
        rw [lk_er_ne hut] at hx
        exact h1.slots u x hx }
/-- a list of such changes -/
inductive Ado where
  | b (t k id e s : Nat)
  | s (t id e s : Nat)
def St.ado (st : St) : List Ado → St
  | [] => st
  | .b t k id e s :: l => (st.adoptB t k id e s).ado l
  | .s t id e s :: l => (st.adoptS t id e s).ado l
theorem Sim.ado {a : Act} {w : World} : ∀ (l : List Ado) {st : St} {β : Nat → Value}, Sim N X0 M w0 st β a w → ∃ β', Sim N X0 M w0 (st.ado l) β' a w
  | [], st, β, h => ⟨β, h⟩
  | .b t k id e s :: l, st, β, h => by obtain ⟨β', h'⟩ := h.adoptB t k id e s; exact Sim.ado l h'
  | .s t id e s :: l, st, β, h => by obtain ⟨β', h'⟩ := h.adoptS t id e s; exact Sim.ado l h'
theorem WP.ado (l : List Ado) {code : Code} (h : WP c N X0 M w0 code (st.ado l) K) : WP c N X0 M w0 code st K := fun hA β a w hs => by
  obtain ⟨β', h'⟩ := hs.ado l
  exact h hA β' a w h'
end
end Go.Vc

namespace Go.Proofs.YtahcfcimfcjhhaaGreatDoor
open Go.Vc
attribute [local go_sem] St.runR St.runW St.stepV offV St.step St.stepU St.stepG mkCond guardB St.prK St.pr St.prLen St.eff St.callE St.callD St.callF St.callL aI aB aS aR aC St.isM St.argL Ctr.pure Ctr.lend Ctr.move Ctr.isL Ctr.wri pur len lentBy St.lentV St.lent1 nthS argsR restOf obsR pairs swapL unObs backL St.resL erL SV.ren1 SV.up SV.up2 Ob.up St.fzL cellIds partIds St.intoRow SV.ownId St.fz SV.fz1 St.prep St.mvL St.mv SV.re1 rnOk St.prEq vals eqCells scEq Value.kd St.prStr St.prCut cutR St.bnd St.prMin St.bld isShift outL retL outJ oR oC St.ev St.get St.put St.new St.kill SV.kill SV.kill1 Ob.kill St.app St.wrt St.rowsOf St.res St.killL lk er argsL SV.strip SV.need SV.share SV.share1 SV.owns SV.owns1 SV.owns2 SV.good SV.good1 SV.rok SV.rok1 SV.rok2 SV.isV SV.isV2 nodupN SV.cells SV.one SV.pur Ob.pb partsIn rowsIn splice cellsAt dstOk scal2 scal1 thenK blockK retK outK outs okC okL okA okT nilC nilL nilA nilT keepC keepL keepA keepT St.runG St.dltK St.least St.clean St.final St.hide offK badS badO SV.refs SV.leaf SV.leaf2 Ob.refs dlOk fpAt Go.Vc.cover tups SV.ofAgg St.out outC subL St.has rng wr Value.oneCell' Option.isSome_some Option.isSome_none List.nil_append Bool.false_eq_true List.map_cons List.map_nil List.all_cons List.all_nil List.length_cons List.length_nil List.drop_zero List.drop_succ_cons List.take_succ_cons List.take_zero List.drop_nil List.take_nil List.getElem?_cons_zero List.getElem?_cons_succ List.getElem?_nil List.cons_append List.nil_append List.append_nil List.append_assoc List.flatMap_cons List.flatMap_nil List.contains_cons List.contains_nil List.set_cons_zero List.set_cons_succ List.getElem?_toArray Option.getD_some Option.getD_none Option.map_some Option.map_none Option.bind_some Option.some.injEq Prod.mk.injEq if_true if_false true_and and_true and_self and_false false_and Bool.and_false Bool.false_and Bool.or_true Bool.true_or Bool.or_false Bool.false_or ne_eq not_true_eq_false not_false_eq_true decide_true decide_false List.mem_cons List.not_mem_nil List.filter_cons List.filter_nil List.any_cons List.any_nil List.isEmpty_nil List.isEmpty_cons Option.getD_none or_false false_or true_or or_true forall_eq_or_imp forall_eq reduceCtorEq exists_eq exists_eq' exists_eq_left' exists_eq_left exists_eq_right exists_eq_right' imp_self implies_true Bool.and_true Bool.true_and Bool.and_self beq_self_eq_true List.replicate_succ List.replicate_zero forall_const false_implies pickB_or pickB_and beqT beqF Int.toNat_natCast List.length_map List.length_replicate ge_iff_le gt_iff_lt decide_eq_true_eq decide_eq_false_iff_not Bool.and_eq_true Bool.or_eq_true Bool.not_eq_true' Bool.not_eq_false' condG List.toList_toArray Bool.or_eq_false_iff Bool.and_eq_false_iff Int.not_lt Int.not_le beq_iff_eq beq_eq_false_iff_ne bne_iff_ne bne_eq_false_iff_eq ne_eq Bool.not_true Bool.not_false exists_and_left
section
open Go.Vc
set_option linter.unusedSimpArgs false
set_option linter.unusedVariables false
set_option maxHeartbeats 1000000
set_option maxRecDepth 10000
attribute [local irreducible] Go.Vc.WP
attribute [local go_sem] cx0_t cx0_c
def fl674b519c88 : List Go.Vc.Fp := [⟨[3], [], [], [15, 17, 19, 1019], [], []⟩, ⟨[0], [], [], [15, 17, 19, 1019], [], []⟩, ⟨[14], [1], [], [17, 19, 1019], [], [15]⟩, ⟨[0], [], [], [15, 17, 19, 1019], [], []⟩, ⟨[], [], [], [15, 19, 1019], [], [17]⟩, ⟨[16, 17], [1, 2, 3, 4], [], [19, 1019], [], []⟩, ⟨[13, 15, 18], [0, 1, 2, 3, 4, 5], [], [], [], [19, 1019]⟩, ⟨[19], [0, 1, 2, 3, 4, 5, 6], [], [], [], []⟩, ⟨[12], [0, 1, 2, 3, 4, 5, 6, 7], [], [], [], []⟩, ⟨[12], [0, 1, 2, 3, 4, 5, 6, 7], [], [], [], []⟩, ⟨[], [0, 1, 2, 3, 4, 5, 6, 7, 8, 9], [], [], [], []⟩]
def fl4226c7e014 : List Go.Vc.Fp := [⟨[5], [], [], [12, 1012], [], []⟩, ⟨[4], [], [], [12, 1012], [], []⟩, ⟨[11], [1], [], [], [], [12, 1012]⟩, ⟨[], [0, 1, 2], [], [], [], []⟩, ⟨[], [0, 1, 2, 3], [], [], [], []⟩]
attribute [local go_sem] fl674b519c88 fl4226c7e014
attribute [local go_sem] len2 decCur_abc decU_enc decFrame_enc decI_enc St.thr St.offO pureBox St.thrC St.thrK St.dltTK St.runTG St.has1 St.fzS addL behind cur_eta decNode_enc oneNode_abc oneFrame_ab oneFrame_enc prA stkA isV_Node isV_It St.ado St.adoptB St.adoptS rp isNil
theorem drp_names {P : List Node × List Int} {n : Nat} (h : DrP P n) : ∀ x ∈ P.1, x.name.size ≤ 8 := by
  intro x hx
  obtain ⟨k, hk, rfl⟩ := List.mem_iff_getElem.1 hx
  have h1 := stacksOk_at (profileOk_iff.1 h.ok).1 k hk
  unfold stNode at h1
  simp only [Bool.and_eq_true, decide_eq_true_eq] at h1
  have h2 : nameOk P.1[k].name = true := by
    first
    | exact (frOk_iff.1 h1.1.2).1
    | exact (frOk_iff.1 h1.2.1).1
    | simp_all [frOk, nodeFr]
  exact (nameOk_letters h2).2.2
theorem drp_lens {P : List Node × List Int} {n : Nat} (h : DrP P n) : P.1.length ≤ 4 * n ∧ P.2.length ≤ 4 * n := by
  have h1 := h.len
  have h2 := (profileOk_iff.1 h.ok).2.1
  omega
def kPrD : Ctr := len2 [0] [] (fun args obs => decCur (oC obs 1000000)) (fun c => [.ptr 1000000 0 0 0]) (fun c => [(1000000, .box 102 (encCur c))]) CurOk
  (fun d _ => .agg [.own d, .own (d + 1000)]) (fun d c => [(d, .sl 132 3 ((prD c).1.1.map encNode)), (d + 1000, .sl 3 1 ((prD c).1.2.map encI))]) (fun c => [(1000000, .box 102 (encCur (prD c).2))])
def litC : List (List SV) := [[.v (.int .i64 1)], [.v (.int .i64 1)], [.v (.int .i64 2)], [.v (.int .i64 5)], [.v (.int .i64 40)]]
theorem row_cnt {q : Nat} (h : q < 5) : (decI [[.v (.int .i64 1)], [.v (.int .i64 1)], [.v (.int .i64 2)], [.v (.int .i64 5)], [.v (.int .i64 40)]]).getD q 0 = cntAt q := by
  match q, h with
  | 0, _ => rfl
  | 1, _ => rfl
  | 2, _ => rfl
  | 3, _ => rfl
  | 4, _ => rfl
section
noncomputable def cxPrD : Cx := { P := Tryz.prog, tys := tys, C := [(32, kBelow), (33, kStk), (61, kPickI), (78, kAddStack)], hty := tysOk, hC := COk.cons cBelowS (COk.cons cStkS (COk.cons cPickIS (COk.cons cAddStackS (COk.nil _)))) }
theorem cxPrD_t : cxPrD.tys = tys := rfl
theorem cxPrD_c : cxPrD.C = [(32, kBelow), (33, kStk), (61, kPickI), (78, kAddStack)] := rfl
attribute [local go_sem] cxPrD_t cxPrD_c kBelow kStk kPickI kAddStack
theorem cPrD : Cn Tryz.prog 40 kPrD := by
  refine Cn.len2 Tryz.func40 (by kernel_rfl) rfl fun d x hd hx => ?_
  rename Cur => c
  have hb := belowV_bd c (n := 8) (by omega)
  have hc8 := hx.belowC 8
  have hKn : belowV c 8 = (prN c : Int) := (Int.toNat_of_nonneg hb.1).symm
  refine HoldsL.go (c := cxPrD) Tryz.func40 rfl Tryz.results40 Tryz.ntmps40 (by omega) (by simp) rfl (by simp <;> omega) (by simp [SV.owns2, SV.owns, SV.owns1]) (by simp) rfl rfl (by simp) ?_
  intro X0 M w0
  (repeat' (first | refine WP.seq ?_ | refine WP.block ?_ | ((first | refine WP.region ?_ | refine WP.condW ?_ | refine WP.ret ?_ | refine WP.exit ?_ | refine WP.skip ?_); simp only [go_sem, encCur, hKn, tyAll, Nat.reduceAdd, Nat.reduceLT, Nat.reduceLeDiff, Nat.reduceEqDiff, Nat.reduceMul, Nat.reduceSub, Nat.reduceGT, reduceIte, Int.reduceNeg, Int.reduceToNat]) | ((first | refine WP.flowE 10 9 [] 10 fl674b519c88 [12, 13, 14, 15, 16, 17, 18, 19, 20, 21] [15, 17, 19, 1019] [] (by decide +kernel) (by decide +kernel) (by kernel_rfl) (by kernel_rfl) (by kernel_rfl) ?_); simp only [go_sem, encCur, hKn, tyAll, Nat.reduceAdd, Nat.reduceLT, Nat.reduceLeDiff, Nat.reduceEqDiff, Nat.reduceMul, Nat.reduceSub, Nat.reduceGT, reduceIte, Int.reduceNeg, Int.reduceToNat]) |  refine And.intro ?_ ?_ | intro _))
  all_goals first | omega | exact hx | skip
  refine WP.ado [.b 3 0 19 132 3, .b 3 1 1019 3 1] ?_
  refine WP.loop (fun j : Nat => ⟨[(0, .ptr 1000000 0 0 0), (2, .ptr 2 0 0 0), (3, .ptr 3 0 0 0), (4, .v (.int .i64 ((prN c : Int) - j)))],
    [(1000000, .box 102 (encCur (prGo j (([], []), belowC c 8)).2)), (2, .box 39 [.v (.slice none 0 0), .v (.slice none 0 0)]), (3, .box 39 [.own 19, .own 1019]),
      (19, .sl 132 3 ((prGo j (([], []), belowC c 8)).1.1.map encNode)), (1019, .sl 3 1 ((prGo j (([], []), belowC c 8)).1.2.map encI))]⟩)
    (fun j => j ≤ prN c) (fun j => prN c - j) 0 (by simp) ?_ ?_
  · simp only [encCur, prGo]; (simp only [go_sem, tyAll, Nat.reduceAdd, Nat.reduceLT, Nat.reduceLeDiff, Nat.reduceEqDiff, Nat.reduceMul, Nat.reduceSub, Nat.reduceGT, reduceIte, Int.reduceNeg, Int.reduceToNat] <;> (first | rfl | exact ⟨rfl, rfl⟩ | exact ⟨rfl, rfl, rfl⟩ | exact ⟨rfl, rfl, rfl, rfl⟩ | exact ⟨rfl, rfl, rfl, rfl, rfl⟩ | exact ⟨⟨rfl, rfl⟩, rfl⟩ | simp))
  intro j hj
  have hN7 := prN_le c
  obtain ⟨g1, g2⟩ := prGo_ok (belowC c 8) hc8 j (by omega)
  have hnx : prGo (j + 1) (([], []), belowC c 8) = prStep (prGo j (([], []), belowC c 8)) := rfl
  refine WP.prep [] [(19, 50), (1019, 1050)] rfl ?_
  by_cases hlt : j < prN c
  · have hli : (0 : Int) < (prN c : Int) - j := by omega
    generalize prGo j (([], []), belowC c 8) = S at g1 g2 hnx
    obtain ⟨⟨N, C⟩, u⟩ := S
    simp only at g1 g2 hnx ⊢
    obtain ⟨hs1, hs2⟩ := stkD_drawn u g2
    have hl := drp_lens g1
    have hnm : ∀ x ∈ N, x.name.size ≤ 1099511627776 := fun x hx => Nat.le_trans (drp_names g1 x hx) (by omega)
    have hfn : ∀ f ∈ (stkD u).1, f.name.size ≤ 1099511627776 := fun f hf => by
      have := (nameOk_letters (frOk_iff.1 (List.all_eq_true.1 hs1.ok f hf)).1).2.2
      omega
    have hsl := hs1.len
    have hq0 := belowV_bd (stkD u).2 (n := 5) (by omega)
    obtain ⟨q, hq⟩ : ∃ q : Nat, belowV (stkD u).2 5 = q := ⟨_, (Int.toNat_of_nonneg hq0.1).symm⟩
    have hr := row_cnt (q := q) (by omega)
    have hc5 : ((5 : Nat) : Int) = 5 := rfl
    have h5 : (decI [[.v (.int .i64 1)], [.v (.int .i64 1)], [.v (.int .i64 2)], [.v (.int .i64 5)], [.v (.int .i64 40)]]).length = 5 := rfl
    have hst : prStep ((N, C), u) = ((addStack N C (stkD u).1 (cntAt q)).1, belowC (stkD u).2 5) := by unfold prStep; simp only [hq]
    rw [hst] at hnx
    simp only at hl
    (repeat' (first | (refine WP.flowTE 1000000 [2, 5] 10 9 [] 10 [⟨[3], [], [17], [15, 17, 19, 1019], [], []⟩, ⟨[0], [], [], [15, 17, 19, 1019], [], []⟩, ⟨[14], [1], [], [17, 19, 1019], [], [15]⟩, ⟨[0], [], [], [15, 17, 19, 1019], [], []⟩, ⟨[], [], [], [15, 19, 1019], [], [17]⟩, ⟨[16, 17], [1, 2, 3, 4], [], [19, 1019], [17], []⟩, ⟨[13, 15, 18], [0, 1, 2, 3, 4, 5], [17], [], [], [19, 1019]⟩, ⟨[19], [0, 1, 2, 3, 4, 5, 6], [17], [], [], []⟩, ⟨[12], [0, 1, 2, 3, 4, 5, 6, 7], [17], [], [], []⟩, ⟨[12], [0, 1, 2, 3, 4, 5, 6, 7], [17], [], [], []⟩, ⟨[], [0, 1, 2, 3, 4, 5, 6, 7, 8, 9], [], [], [], []⟩] [12, 13, 14, 15, 16, 17, 18, 19, 20, 21] [15, 17, 19, 1019] [17] (by decide +kernel) (by decide +kernel) (by decide +kernel) (by kernel_rfl) (by kernel_rfl) (by kernel_rfl) ?_; simp only [go_sem, encCur, hli, hq, hr, h5, hc5, tyAll, Nat.reduceAdd, Nat.reduceLT, Nat.reduceLeDiff, Nat.reduceEqDiff, Nat.reduceMul, Nat.reduceSub, Nat.reduceGT, reduceIte, Int.reduceNeg, Int.reduceToNat]) | refine WP.seq ?_ | refine WP.block ?_ | ((first | refine WP.region ?_ | refine WP.condW ?_ | refine WP.ret ?_ | refine WP.exit ?_ | refine WP.skip ?_); simp only [go_sem, encCur, hli, hq, hr, h5, hc5, tyAll, Nat.reduceAdd, Nat.reduceLT, Nat.reduceLeDiff, Nat.reduceEqDiff, Nat.reduceMul, Nat.reduceSub, Nat.reduceGT, reduceIte, Int.reduceNeg, Int.reduceToNat]) | ((first | refine WP.flowE 10 9 [] 10 fl674b519c88 [12, 13, 14, 15, 16, 17, 18, 19, 20, 21] [15, 17, 19, 1019] [] (by decide +kernel) (by decide +kernel) (by kernel_rfl) (by kernel_rfl) (by kernel_rfl) ?_); simp only [go_sem, encCur, hli, hq, hr, h5, hc5, tyAll, Nat.reduceAdd, Nat.reduceLT, Nat.reduceLeDiff, Nat.reduceEqDiff, Nat.reduceMul, Nat.reduceSub, Nat.reduceGT, reduceIte, Int.reduceNeg, Int.reduceToNat]) |  refine And.intro ?_ ?_ | intro _))
    all_goals first | omega | exact g2 | exact hs2 | exact hnm _ ‹_› | exact hfn _ ‹_› | rfl | exact ⟨_, _, _, rfl⟩ | skip
    all_goals first | exact ⟨j + 1, by omega, by omega, by rw [show (prN c : Int) - j - 1 = (prN c : Int) - ((j + 1 : Nat) : Int) by omega], by rw [hnx], by rw [hnx], by rw [hnx]⟩ | trace_state
  · have hge : ¬ (0 : Int) < (prN c : Int) - j := by omega
    have hje : j = prN c := by omega
    subst hje
    (repeat' (first | refine WP.seq ?_ | refine WP.block ?_ | ((first | refine WP.region ?_ | refine WP.condW ?_ | refine WP.ret ?_ | refine WP.exit ?_ | refine WP.skip ?_); simp only [go_sem, encCur, hge, tyAll, Nat.reduceAdd, Nat.reduceLT, Nat.reduceLeDiff, Nat.reduceEqDiff, Nat.reduceMul, Nat.reduceSub, Nat.reduceGT, reduceIte, Int.reduceNeg, Int.reduceToNat]) | ((first | refine WP.flowE 10 9 [] 10 fl674b519c88 [12, 13, 14, 15, 16, 17, 18, 19, 20, 21] [15, 17, 19, 1019] [] (by decide +kernel) (by decide +kernel) (by kernel_rfl) (by kernel_rfl) (by kernel_rfl) ?_); simp only [go_sem, encCur, hge, tyAll, Nat.reduceAdd, Nat.reduceLT, Nat.reduceLeDiff, Nat.reduceEqDiff, Nat.reduceMul, Nat.reduceSub, Nat.reduceGT, reduceIte, Int.reduceNeg, Int.reduceToNat]) |  refine And.intro ?_ ?_ | intro _))
    all_goals first | omega | rfl | exact ⟨_, _, rfl⟩ | exact ⟨_, _, rfl, _, _, rfl, rfl⟩ | (rw [if_neg (by omega)]; rfl) | skip
    all_goals trace_state
end
def kDraw : Ctr := pur (fun args => decU (aR args 0)) (fun b => [.sl 1 (b.map encU)]) (fun b => b.length ≤ 1048576 ∧ ∀ z ∈ b, 0 ≤ z ∧ z ≤ 255) (fun d _ => .tup [.agg [.own d, .own (d + 1000)], .agg [.own (d + 2000), .own (d + 3000)]])
  (fun d b => [(d, .sl 132 3 ((drA b).1.map encNode)), (d + 1000, .sl 3 1 ((drA b).2.map encI)), (d + 2000, .sl 132 3 ((drB b).1.map encNode)), (d + 3000, .sl 3 1 ((drB b).2.map encI))])
section
noncomputable def cxDrP : Cx := { P := Tryz.prog, tys := tys, C := [(29, kNew), (40, kPrD)], hty := tysOk, hC := COk.cons cNewS (COk.cons cPrD (COk.nil _)) }
theorem cxDrP_t : cxDrP.tys = tys := rfl
theorem cxDrP_c : cxDrP.C = [(29, kNew), (40, kPrD)] := rfl
attribute [local go_sem] cxDrP_t cxDrP_c kNew kPrD
theorem cDraw : Cn Tryz.prog 14 kDraw := by
  refine Cn.pur Tryz.func14 (by kernel_rfl) rfl fun d x hx => ?_
  rename List Int => b
  obtain ⟨hb, hz⟩ := hx
  have h0 := newC_ok hb hz
  have h1 := (prD_ok _ h0).2
  have ea : prD (newC b) = (drA b, (prD (newC b)).2) := rfl
  have eb : (prD (prD (newC b)).2).1 = drB b := rfl
  refine Holds.go (c := cxDrP) Tryz.func14 rfl Tryz.results14 Tryz.ntmps14 (by omega) (by simp) rfl ?_
  intro X0 w0
  (repeat' (first | (refine WP.flowT 7 [2] [] 3 [⟨[5], [], [], [12, 1012], [], []⟩, ⟨[4], [], [], [12, 1012], [], []⟩, ⟨[11], [1], [], [], [], [12, 1012]⟩, ⟨[], [0, 1, 2], [], [], [], []⟩, ⟨[], [0, 1, 2, 3], [], [], [], []⟩] [10, 11, 12] [12, 1012] [] (by decide +kernel) (by decide +kernel) (by kernel_rfl) (by kernel_rfl) (by kernel_rfl) ?_; simp only [go_sem, encCur, tyAll, Nat.reduceAdd, Nat.reduceLT, Nat.reduceLeDiff, Nat.reduceEqDiff, Nat.reduceMul, Nat.reduceSub, Nat.reduceGT, reduceIte, Int.reduceNeg, Int.reduceToNat]) | refine WP.seq ?_ | refine WP.block ?_ | ((first | refine WP.region ?_ | refine WP.condW ?_ | refine WP.ret ?_ | refine WP.exit ?_ | refine WP.skip ?_); simp only [go_sem, encCur, tyAll, Nat.reduceAdd, Nat.reduceLT, Nat.reduceLeDiff, Nat.reduceEqDiff, Nat.reduceMul, Nat.reduceSub, Nat.reduceGT, reduceIte, Int.reduceNeg, Int.reduceToNat]) | ((first | refine WP.flowW 3 fl4226c7e014 [10, 11, 12] [12, 1012] [] (by decide +kernel) (by kernel_rfl) (by kernel_rfl) (by kernel_rfl) ?_); simp only [go_sem, encCur, tyAll, Nat.reduceAdd, Nat.reduceLT, Nat.reduceLeDiff, Nat.reduceEqDiff, Nat.reduceMul, Nat.reduceSub, Nat.reduceGT, reduceIte, Int.reduceNeg, Int.reduceToNat]) |  refine And.intro ?_ ?_ | intro _))
  all_goals first | omega | exact h0 | exact h1 | exact (hz _ ‹_›).1 | exact (hz _ ‹_›).2 | rfl | (rw [if_neg (by omega)]; rfl) | (rw [if_neg (by omega), if_neg (by omega)]; rfl) | (rw [if_neg (by omega), if_neg (by omega), if_neg (by omega)]; rfl) | exact ⟨_, _, rfl, _, _, rfl, rfl⟩ | exact ⟨_, _, rfl⟩ | skip
  all_goals trace_state
end
end
end Go.Proofs.YtahcfcimfcjhhaaGreatDoor
/-
  DERIVED. A list that a call hands back as its own, taken as one that may only be read.
-/
namespace Go.Vc
set_option linter.unusedVariables false
def allV (rows : List (List SV)) : Prop := ∀ row ∈ rows, ∀ c ∈ row, ∃ x, c = .v x
theorem ObR.toSl {w : World} {X X' : Nat → Prop} {β : Nat → Value} {v : Value} {e s : Nat} {rows : List (List SV)} (h : ObR w X' β v (.sl e s rows)) (hX : ∀ b, blk v = some b → ¬ X b) (hv : allV rows) : Rp w X (.sl s rows) v := by
  cases h with
  | nil e s h => subst h; exact .nil s _ _
  | sl b cap cur us hv' hh h1 h2 h3 h4 h5 h6 h7 =>
    subst hv'
    refine .sl b 0 cap us (hX b rfl) (lt_of_heap hh) h1 h4 (fun i k row c hr hc => ?_) h6 (fun i k row c hr hc => ?_)
    · simp only [World.cell?, hh, Nat.zero_add]
      exact h5 i k row c hr hc
    · obtain ⟨x, rfl⟩ := hv row (List.mem_of_getElem? hr) c (List.mem_of_getElem? hc)
      have := h7 i k row _ hr hc
      cases this
      exact .v _
section
variable {P : Program} {f : FuncId} {args : List SV} {d e s : Nat} {rows : List (List SV)}
theorem Holds.frozen (h : Holds P f args (.own d) [(d, .sl e s rows)]) (hv : allV rows) : Holds P f args (.sl s rows) [] := by
  intro w X vs hG hX hl ha
  refine (h w X vs hG hX hl ha).mono fun en w' ⟨v, β, he, hb, hβ, hR, hO, hn⟩ => ?_
  refine ⟨v, β, he, hb, hβ, ?_, ⟨fun id ob hi => (by cases hi), fun i j oi oj b hi => (by cases hi)⟩, fun id ob b hi => (by cases hi)⟩
  have := hR.own_inv; subst this
  refine .p ((hO.1 d (.sl e s rows) (by simp [lk])).toSl (fun b hb' hx => ?_) hv)
  have h1 := hn d (.sl e s rows) b (by simp [lk]) hb'
  rcases hx with hx | ⟨i, o, hi, _⟩
  · have := hX b hx; omega
  · cases hi
theorem Holds.frozenT {y : Value} (h : Holds P f args (.tup [.own d, .v y]) [(d, .sl e s rows)]) (hv : allV rows) : Holds P f args (.tup [.sl s rows, .v y]) [] := by
  intro w X vs hG hX hl ha
  refine (h w X vs hG hX hl ha).mono fun en w' ⟨v, β, he, hb, hβ, hR, hO, hn⟩ => ?_
  refine ⟨v, β, he, hb, hβ, ?_, ⟨fun id ob hi => (by cases hi), fun i j oi oj b hi => (by cases hi)⟩, fun id ob b hi => (by cases hi)⟩
  obtain ⟨us, rfl, hul, hh⟩ := hR.tup_inv
  refine .tup hul fun k c u hc hu => ?_
  match k, hc with
  | 0, hc =>
    simp at hc; subst hc
    have := (hh 0 _ u rfl hu).own_inv
    subst this
    refine .p ((hO.1 d (.sl e s rows) (by simp [lk])).toSl (fun b hb' hx => ?_) hv)
    have h1 := hn d (.sl e s rows) b (by simp [lk]) hb'
    rcases hx with hx | ⟨i, o, hi, _⟩
    · have := hX b hx; omega
    · cases hi
  | 1, hc =>
    simp at hc; subst hc
    have := (hh 1 _ u rfl hu).v_inv
    subst this; exact .p (.v _)
  | k + 2, hc => simp at hc
end
/-- the same of a struct of two lists -/
theorem Holds.frozenA {P : Program} {f : FuncId} {args : List SV} {d1 d2 e1 s1 e2 s2 : Nat} {rows1 rows2 : List (List SV)} (hd : d1 ≠ d2) (h : Holds P f args (.agg [.own d1, .own d2]) [(d1, .sl e1 s1 rows1), (d2, .sl e2 s2 rows2)]) (hv1 : allV rows1) (hv2 : allV rows2) : Holds P f args (.agg [.sl s1 rows1, .sl s2 rows2]) [] := by
  intro w X vs hG hX hl ha
  refine (h w X vs hG hX hl ha).mono fun en w' ⟨v, β, he, hb, hβ, hR, hO, hn⟩ => ?_
  refine ⟨v, β, he, hb, hβ, ?_, ⟨fun id ob hi => (by cases hi), fun i j oi oj b hi => (by cases hi)⟩, fun id ob b hi => (by cases hi)⟩
  obtain ⟨us, rfl, hul, hh⟩ := hR.agg_inv
  have l1 : lk d1 [(d1, Ob.sl e1 s1 rows1), (d2, .sl e2 s2 rows2)] = some (.sl e1 s1 rows1) := by simp [lk]
  have l2 : lk d2 [(d1, Ob.sl e1 s1 rows1), (d2, .sl e2 s2 rows2)] = some (.sl e2 s2 rows2) := by simp [lk, Ne.symm hd]
  have key : ∀ {d e s : Nat} {rows : List (List SV)}, lk d [(d1, Ob.sl e1 s1 rows1), (d2, .sl e2 s2 rows2)] = some (.sl e s rows) → allV rows → R w' (XX X β []) β (.sl s rows) (β d) := fun {d e s rows} hl hv => by
    refine .p ((hO.1 d _ hl).toSl (fun b hb' hx => ?_) hv)
    have h1 := hn d _ b hl hb'
    rcases hx with hx | ⟨i, o, hi, _⟩
    · have := hX b hx; omega
    · cases hi
  refine .agg hul fun k c u hc hu => ?_
  match k, hc with
  | 0, hc =>
    simp at hc; subst hc
    have := (hh 0 _ u rfl hu).own_inv
    subst this; exact key l1 hv1
  | 1, hc =>
    simp at hc; subst hc
    have := (hh 1 _ u rfl hu).own_inv
    subst this; exact key l2 hv2
  | k + 2, hc => simp at hc
theorem Cn.frozenA {P : Program} {f : FuncId} {X : Type} {dec : List SV → X} {A : X → List SV} {pre : X → Prop} {e1 s1 e2 s2 : Nat} {rows1 rows2 : X → List (List SV)} (hv1 : ∀ x, allV (rows1 x)) (hv2 : ∀ x, allV (rows2 x))
    (h : Cn P f (Go.Vc.pur dec A pre (fun d _ => .agg [.own d, .own (d + 1000)]) (fun d x => [(d, .sl e1 s1 (rows1 x)), (d + 1000, .sl e2 s2 (rows2 x))]))) : Cn P f (Go.Vc.pur dec A pre (fun _ x => .agg [.sl s1 (rows1 x), .sl s2 (rows2 x)]) (fun _ _ => [])) :=
  ⟨h.call, fun d args ha => (h.holds d args ha).frozenA (by omega) (hv1 _) (hv2 _), fun _ _ _ h => h.elim⟩
theorem Cn.frozen {P : Program} {f : FuncId} {X : Type} {dec : List SV → X} {A : X → List SV} {pre : X → Prop} {e s : Nat} {rows : X → List (List SV)} (hv : ∀ x, allV (rows x))
    (h : Cn P f (Go.Vc.pur dec A pre (fun d _ => .own d) (fun d x => [(d, .sl e s (rows x))]))) : Cn P f (Go.Vc.pur dec A pre (fun _ x => .sl s (rows x)) (fun _ _ => [])) :=
  ⟨h.call, fun d args ha => (h.holds d args ha).frozen (hv _), fun _ _ _ h => h.elim⟩
theorem Cn.frozenT {P : Program} {f : FuncId} {X : Type} {dec : List SV → X} {A : X → List SV} {pre : X → Prop} {e s : Nat} {rows : X → List (List SV)} {y : X → Value} (hv : ∀ x, allV (rows x))
    (h : Cn P f (Go.Vc.pur dec A pre (fun d x => .tup [.own d, .v (y x)]) (fun d x => [(d, .sl e s (rows x))]))) : Cn P f (Go.Vc.pur dec A pre (fun _ x => .tup [.sl s (rows x), .v (y x)]) (fun _ _ => [])) :=
  ⟨h.call, fun d args ha => (h.holds d args ha).frozenT (hv _), fun _ _ _ h => h.elim⟩
end Go.Vc

/-
  DERIVED. What a call hands back as its own, taken as what may only be read: whatever its shape.
-/
namespace Go.Vc
set_option linter.unusedVariables false
def fz1m (robs : List (Nat × Ob)) : SV → SV
  | .own id => match lk id robs with
    | some (.sl _ s rows) => .sl s rows
    | _ => .junk
  | .v x => .v x
  | .sl s rows => .sl s rows
  | _ => .junk
theorem Holds.frz {P : Program} {f : FuncId} {args : List SV} {res : SV} {robs : List (Nat × Ob)} (h : Holds P f args res robs) (hv : ∀ id e s rows, lk id robs = some (.sl e s rows) → allV rows) : Holds P f args (res.up (fz1m robs)) [] := by
  intro w X vs hG hX hl ha
  refine (h w X vs hG hX hl ha).mono fun en w' ⟨v, β, he, hb, hβ, hR, hO, hn⟩ => ?_
  refine ⟨v, β, he, hb, hβ, ?_, ⟨fun id ob hi => (by cases hi), fun i j oi oj b hi => (by cases hi)⟩, fun id ob b hi => (by cases hi)⟩
  have hS : Same (XX X β robs) w' w' := ⟨Nat.le_refl _, fun _ _ _ => rfl⟩
  refine hR.up fun x u hx => ?_
  cases x with
  | own id =>
    have := hx.own_inv; subst this
    simp only [fz1m]
    split
    · rename_i e s rows hlk
      refine .p ((hO.1 id _ hlk).toSl (fun b hb' hx => ?_) (hv id e s rows hlk))
      have h1 := hn id _ b hlk hb'
      rcases hx with hx | ⟨i, o, hi, _⟩
      · have := hX b hx; omega
      · cases hi
    · exact .junk _
  | v y => have := hx.v_inv; subst this; exact .p (.v _)
  | sl s rows => exact .p (hx.sl_inv.mono hS (fun b _ hx => by
      rcases hx with hx | ⟨i, o, hi, _⟩
      · exact .inl hx
      · cases hi))
  | _ => exact .junk _
theorem Cn.frz {P : Program} {f : FuncId} {X : Type} {dec : List SV → X} {A : X → List SV} {pre : X → Prop} {res : Nat → X → SV} {robs : Nat → X → List (Nat × Ob)} {res' : X → SV}
    (h : Cn P f (Go.Vc.pur dec A pre res robs)) (hv : ∀ d x id e s rows, lk id (robs d x) = some (.sl e s rows) → allV rows) (he : ∀ d x, (res d x).up (fz1m (robs d x)) = res' x) : Cn P f (Go.Vc.pur dec A pre (fun _ x => res' x) (fun _ _ => [])) :=
  ⟨h.call, fun d args ha => (by have := (h.holds d args ha).frz (hv d _); rw [show ((Go.Vc.pur dec A pre res robs).pure d args).2.1 = res d (dec args) from rfl, show ((Go.Vc.pur dec A pre res robs).pure d args).2.2 = robs d (dec args) from rfl, he] at this; exact this), fun _ _ _ h => h.elim⟩
end Go.Vc

/-
  DERIVED. The library's contracts, laid at this program: tables of numbers. Printed by the kit's tools (lay.py).
-/
namespace Go.Proofs
open Go.Shelf
def Tryz.l106_ren : Go.Shelf.Ren := ⟨fun | 106 => 71 | 213 => 97 | 265 => 125 | n => n, fun | 9 => 9 | 3 => 3 | n => n, fun | n => n⟩
theorem Tryz.l106 : Go.Proofs.Lays.n106 Tryz.prog Tryz.l106_ren := {
  mixed := by kernel_rfl
  f106 := Tryz.func71.trans (congrArg some (by kernel_rfl))
  f213 := Tryz.func97.trans (congrArg some (by kernel_rfl))
  f265 := Tryz.func125.trans (congrArg some (by kernel_rfl))
  t3 := Tryz.underlying3
  a3 := Tryz.isAgg3
  z3 := Tryz.sizeOf3
  v3 := Tryz.zeroValue3
  t9 := Tryz.underlying9
  a9 := Tryz.isAgg9
  z9 := Tryz.sizeOf9
  v9 := Tryz.zeroValue9 }
def Tryz.lM145_ren : Go.Shelf.Ren := ⟨fun | 145 => 73 | 220 => 99 | 219 => 129 | 217 => 156 | 225 => 157 | 224 => 158 | 267 => 159 | 266 => 169 | 314 => 170 | n => n, fun | 9 => 9 | 4 => 4 | 59 => 115 | 3 => 3 | 5 => 5 | 46 => 128 | 146 => 196 | 51 => 162 | n => n, fun | 1 => 0 | n => n⟩
theorem Tryz.lM145 : Go.Proofs.LaysM.n145 Tryz.prog Tryz.lM145_ren := {
  mixed := by kernel_rfl
  f145 := Tryz.func73.trans (congrArg some (by kernel_rfl))
  f217 := Tryz.func156.trans (congrArg some (by kernel_rfl))
  f219 := Tryz.func129.trans (congrArg some (by kernel_rfl))
  f220 := Tryz.func99.trans (congrArg some (by kernel_rfl))
  f224 := Tryz.func158.trans (congrArg some (by kernel_rfl))
  f225 := Tryz.func157.trans (congrArg some (by kernel_rfl))
  f266 := Tryz.func169.trans (congrArg some (by kernel_rfl))
  f267 := Tryz.func159.trans (congrArg some (by kernel_rfl))
  f314 := Tryz.func170.trans (congrArg some (by kernel_rfl))
  t3 := Tryz.underlying3
  a3 := Tryz.isAgg3
  z3 := Tryz.sizeOf3
  v3 := Tryz.zeroValue3
  t4 := Tryz.underlying4
  a4 := Tryz.isAgg4
  z4 := Tryz.sizeOf4
  v4 := Tryz.zeroValue4
  t5 := Tryz.underlying5
  a5 := Tryz.isAgg5
  z5 := Tryz.sizeOf5
  v5 := Tryz.zeroValue5
  t9 := Tryz.underlying9
  a9 := Tryz.isAgg9
  z9 := Tryz.sizeOf9
  v9 := Tryz.zeroValue9
  t46 := Tryz.underlying128
  a46 := Tryz.isAgg128
  z46 := Tryz.sizeOf128
  v46 := Tryz.zeroValue128
  t51 := Tryz.underlying162
  a51 := Tryz.isAgg162
  z51 := Tryz.sizeOf162
  v51 := Tryz.zeroValue162
  t59 := Tryz.underlying115
  a59 := Tryz.isAgg115
  z59 := Tryz.sizeOf115
  v59 := Tryz.zeroValue115
  t146 := Tryz.underlying196
  a146 := Tryz.isAgg196
  z146 := Tryz.sizeOf196
  v146 := Tryz.zeroValue196
  g1 := by kernel_rfl
  i3 := by kernel_rfl
  i4 := by kernel_rfl
  i5 := by kernel_rfl
  i9 := by kernel_rfl
  i46 := by kernel_rfl
  i51 := by kernel_rfl
  i59 := by kernel_rfl
  i146 := by kernel_rfl
  m1 := by kernel_rfl
  s1_3 := fun w h => Go.Proofs.cell_of_shapedOpen_int (zero := #[.int .i64 0]) (t := 3) h (of_decide_eq_true (by kernel_rfl)) (by kernel_rfl) rfl (by kernel_rfl) (by kernel_rfl) Tryz.underlying3 }
def Tryz.lM146_ren : Go.Shelf.Ren := ⟨fun | 146 => 72 | 221 => 98 | 268 => 126 | 138 => 127 | 143 => 128 | 195 => 153 | 197 => 154 | 218 => 155 | 219 => 129 | 260 => 168 | 217 => 156 | 225 => 157 | 224 => 158 | 267 => 159 | 266 => 169 | 314 => 170 | n => n, fun | 9 => 9 | 31 => 50 | 3 => 3 | 4 => 4 | 0 => 0 | 105 => 184 | 21 => 21 | 5 => 5 | 46 => 128 | 119 => 203 | 139 => 206 | 138 => 205 | 146 => 196 | 51 => 162 | n => n, fun | 1 => 0 | 3 => 1 | 4 => 2 | n => n⟩
theorem Tryz.lM146 : Go.Proofs.LaysM.n146 Tryz.prog Tryz.lM146_ren := {
  mixed := by kernel_rfl
  f138 := Tryz.func127.trans (congrArg some (by kernel_rfl))
  f143 := Tryz.func128.trans (congrArg some (by kernel_rfl))
  f146 := Tryz.func72.trans (congrArg some (by kernel_rfl))
  f195 := Tryz.func153.trans (congrArg some (by kernel_rfl))
  f197 := Tryz.func154.trans (congrArg some (by kernel_rfl))
  f217 := Tryz.func156.trans (congrArg some (by kernel_rfl))
  f218 := Tryz.func155.trans (congrArg some (by kernel_rfl))
  f219 := Tryz.func129.trans (congrArg some (by kernel_rfl))
  f221 := Tryz.func98.trans (congrArg some (by kernel_rfl))
  f224 := Tryz.func158.trans (congrArg some (by kernel_rfl))
  f225 := Tryz.func157.trans (congrArg some (by kernel_rfl))
  f260 := Tryz.func168.trans (congrArg some (by kernel_rfl))
  f266 := Tryz.func169.trans (congrArg some (by kernel_rfl))
  f267 := Tryz.func159.trans (congrArg some (by kernel_rfl))
  f268 := Tryz.func126.trans (congrArg some (by kernel_rfl))
  f314 := Tryz.func170.trans (congrArg some (by kernel_rfl))
  t0 := Tryz.underlying0
  a0 := Tryz.isAgg0
  z0 := Tryz.sizeOf0
  v0 := Tryz.zeroValue0
  t3 := Tryz.underlying3
  a3 := Tryz.isAgg3
  z3 := Tryz.sizeOf3
  v3 := Tryz.zeroValue3
  t4 := Tryz.underlying4
  a4 := Tryz.isAgg4
  z4 := Tryz.sizeOf4
  v4 := Tryz.zeroValue4
  t5 := Tryz.underlying5
  a5 := Tryz.isAgg5
  z5 := Tryz.sizeOf5
  v5 := Tryz.zeroValue5
  t9 := Tryz.underlying9
  a9 := Tryz.isAgg9
  z9 := Tryz.sizeOf9
  v9 := Tryz.zeroValue9
  t21 := Tryz.underlying21
  a21 := Tryz.isAgg21
  z21 := Tryz.sizeOf21
  v21 := Tryz.zeroValue21
  t31 := Tryz.underlying50
  a31 := Tryz.isAgg50
  z31 := Tryz.sizeOf50
  v31 := Tryz.zeroValue50
  t46 := Tryz.underlying128
  a46 := Tryz.isAgg128
  z46 := Tryz.sizeOf128
  v46 := Tryz.zeroValue128
  t51 := Tryz.underlying162
  a51 := Tryz.isAgg162
  z51 := Tryz.sizeOf162
  v51 := Tryz.zeroValue162
  t105 := Tryz.underlying184
  a105 := Tryz.isAgg184
  z105 := Tryz.sizeOf184
  v105 := Tryz.zeroValue184
  t119 := Tryz.underlying203
  a119 := Tryz.isAgg203
  z119 := Tryz.sizeOf203
  t138 := Tryz.underlying205
  a138 := Tryz.isAgg205
  z138 := Tryz.sizeOf205
  v138 := Tryz.zeroValue205
  t139 := Tryz.underlying206
  a139 := Tryz.isAgg206
  z139 := Tryz.sizeOf206
  v139 := Tryz.zeroValue206
  t146 := Tryz.underlying196
  a146 := Tryz.isAgg196
  z146 := Tryz.sizeOf196
  v146 := Tryz.zeroValue196
  g1 := by kernel_rfl
  g3 := by kernel_rfl
  g4 := by kernel_rfl
  i0 := by kernel_rfl
  i3 := by kernel_rfl
  i4 := by kernel_rfl
  i5 := by kernel_rfl
  i9 := by kernel_rfl
  i21 := by kernel_rfl
  i31 := by kernel_rfl
  i46 := by kernel_rfl
  i51 := by kernel_rfl
  i105 := by kernel_rfl
  i138 := by kernel_rfl
  i139 := by kernel_rfl
  i146 := by kernel_rfl
  m1 := by kernel_rfl
  s1_3 := fun w h => Go.Proofs.cell_of_shapedOpen_int (zero := #[.int .i64 0]) (t := 3) h (of_decide_eq_true (by kernel_rfl)) (by kernel_rfl) rfl (by kernel_rfl) (by kernel_rfl) Tryz.underlying3
  m3 := by kernel_rfl
  m4 := by kernel_rfl }
def Tryz.lM171_ren : Go.Shelf.Ren := ⟨fun | 171 => 111 | 243 => 145 | 246 => 164 | 283 => 172 | 284 => 173 | 285 => 174 | 286 => 175 | 129 => 124 | 317 => 176 | 318 => 177 | 319 => 178 | 320 => 179 | 337 => 180 | 338 => 181 | n => n, fun | 3 => 3 | 9 => 9 | 2 => 2 | 4 => 4 | 171 => 199 | 0 => 0 | 53 => 164 | 37 => 22 | 5 => 5 | 173 => 201 | 212 => 208 | 51 => 162 | 20 => 20 | 213 => 209 | 46 => 128 | 232 => 211 | 233 => 212 | n => n, fun | 17 => 3 | 18 => 4 | 19 => 5 | n => n⟩
theorem Tryz.lM171 : Go.Proofs.LaysM.n171 Tryz.prog Tryz.lM171_ren := {
  mixed := by kernel_rfl
  f129 := Tryz.func124.trans (congrArg some (by kernel_rfl))
  f171 := Tryz.func111.trans (congrArg some (by kernel_rfl))
  f243 := Tryz.func145.trans (congrArg some (by kernel_rfl))
  f246 := Tryz.func164.trans (congrArg some (by kernel_rfl))
  f283 := Tryz.func172.trans (congrArg some (by kernel_rfl))
  f284 := Tryz.func173.trans (congrArg some (by kernel_rfl))
  f285 := Tryz.func174.trans (congrArg some (by kernel_rfl))
  f286 := Tryz.func175.trans (congrArg some (by kernel_rfl))
  f317 := Tryz.func176.trans (congrArg some (by kernel_rfl))
  f318 := Tryz.func177.trans (congrArg some (by kernel_rfl))
  f319 := Tryz.func178.trans (congrArg some (by kernel_rfl))
  f320 := Tryz.func179.trans (congrArg some (by kernel_rfl))
  f337 := Tryz.func180.trans (congrArg some (by kernel_rfl))
  f338 := Tryz.func181.trans (congrArg some (by kernel_rfl))
  t0 := Tryz.underlying0
  a0 := Tryz.isAgg0
  z0 := Tryz.sizeOf0
  v0 := Tryz.zeroValue0
  t2 := Tryz.underlying2
  a2 := Tryz.isAgg2
  z2 := Tryz.sizeOf2
  v2 := Tryz.zeroValue2
  t3 := Tryz.underlying3
  a3 := Tryz.isAgg3
  z3 := Tryz.sizeOf3
  v3 := Tryz.zeroValue3
  t4 := Tryz.underlying4
  a4 := Tryz.isAgg4
  z4 := Tryz.sizeOf4
  v4 := Tryz.zeroValue4
  t5 := Tryz.underlying5
  a5 := Tryz.isAgg5
  z5 := Tryz.sizeOf5
  v5 := Tryz.zeroValue5
  t9 := Tryz.underlying9
  a9 := Tryz.isAgg9
  z9 := Tryz.sizeOf9
  v9 := Tryz.zeroValue9
  t20 := Tryz.underlying20
  a20 := Tryz.isAgg20
  z20 := Tryz.sizeOf20
  v20 := Tryz.zeroValue20
  t37 := Tryz.underlying22
  a37 := Tryz.isAgg22
  z37 := Tryz.sizeOf22
  v37 := Tryz.zeroValue22
  t46 := Tryz.underlying128
  a46 := Tryz.isAgg128
  z46 := Tryz.sizeOf128
  v46 := Tryz.zeroValue128
  t51 := Tryz.underlying162
  a51 := Tryz.isAgg162
  z51 := Tryz.sizeOf162
  v51 := Tryz.zeroValue162
  t53 := Tryz.underlying164
  a53 := Tryz.isAgg164
  z53 := Tryz.sizeOf164
  v53 := Tryz.zeroValue164
  t171 := Tryz.underlying199
  a171 := Tryz.isAgg199
  z171 := Tryz.sizeOf199
  v171 := Tryz.zeroValue199
  t173 := Tryz.underlying201
  a173 := Tryz.isAgg201
  z173 := Tryz.sizeOf201
  v173 := Tryz.zeroValue201
  t212 := Tryz.underlying208
  a212 := Tryz.isAgg208
  z212 := Tryz.sizeOf208
  v212 := Tryz.zeroValue208
  t213 := Tryz.underlying209
  a213 := Tryz.isAgg209
  z213 := Tryz.sizeOf209
  t232 := Tryz.underlying211
  a232 := Tryz.isAgg211
  z232 := Tryz.sizeOf211
  v232 := Tryz.zeroValue211
  t233 := Tryz.underlying212
  a233 := Tryz.isAgg212
  z233 := Tryz.sizeOf212
  v233 := Tryz.zeroValue212
  g17 := by kernel_rfl
  g18 := by kernel_rfl
  g19 := by kernel_rfl
  i0 := by kernel_rfl
  i2 := by kernel_rfl
  i3 := by kernel_rfl
  i4 := by kernel_rfl
  i5 := by kernel_rfl
  i9 := by kernel_rfl
  i20 := by kernel_rfl
  i37 := by kernel_rfl
  i46 := by kernel_rfl
  i51 := by kernel_rfl
  i53 := by kernel_rfl
  i171 := by kernel_rfl
  i173 := by kernel_rfl
  i212 := by kernel_rfl
  i232 := by kernel_rfl
  i233 := by kernel_rfl
  m17 := by kernel_rfl
  m18 := by kernel_rfl
  m19 := by kernel_rfl }
def Tryz.l156_ren : Go.Shelf.Ren := ⟨fun | 156 => 94 | 165 => 112 | 166 => 113 | 169 => 114 | 240 => 146 | 241 => 147 | 276 => 165 | 277 => 166 | n => n, fun | 31 => 50 | 9 => 9 | 3 => 3 | 4 => 4 | 0 => 0 | 20 => 20 | 72 => 147 | 76 => 151 | 70 => 145 | 37 => 22 | 75 => 150 | 127 => 176 | 164 => 190 | 5 => 5 | 80 => 153 | n => n, fun | n => n⟩
theorem Tryz.l156 : Go.Proofs.Lays.n156 Tryz.prog Tryz.l156_ren := {
  mixed := by kernel_rfl
  f156 := Tryz.func94.trans (congrArg some (by kernel_rfl))
  f165 := Tryz.func112.trans (congrArg some (by kernel_rfl))
  f166 := Tryz.func113.trans (congrArg some (by kernel_rfl))
  f169 := Tryz.func114.trans (congrArg some (by kernel_rfl))
  f240 := Tryz.func146.trans (congrArg some (by kernel_rfl))
  f241 := Tryz.func147.trans (congrArg some (by kernel_rfl))
  f276 := Tryz.func165.trans (congrArg some (by kernel_rfl))
  f277 := Tryz.func166.trans (congrArg some (by kernel_rfl))
  t0 := Tryz.underlying0
  a0 := Tryz.isAgg0
  z0 := Tryz.sizeOf0
  v0 := Tryz.zeroValue0
  t3 := Tryz.underlying3
  a3 := Tryz.isAgg3
  z3 := Tryz.sizeOf3
  v3 := Tryz.zeroValue3
  t4 := Tryz.underlying4
  a4 := Tryz.isAgg4
  z4 := Tryz.sizeOf4
  v4 := Tryz.zeroValue4
  t9 := Tryz.underlying9
  a9 := Tryz.isAgg9
  z9 := Tryz.sizeOf9
  v9 := Tryz.zeroValue9
  t20 := Tryz.underlying20
  a20 := Tryz.isAgg20
  z20 := Tryz.sizeOf20
  v20 := Tryz.zeroValue20
  t31 := Tryz.underlying50
  a31 := Tryz.isAgg50
  z31 := Tryz.sizeOf50
  v31 := Tryz.zeroValue50
  t37 := Tryz.underlying22
  a37 := Tryz.isAgg22
  z37 := Tryz.sizeOf22
  v37 := Tryz.zeroValue22
  t70 := Tryz.underlying145
  a70 := Tryz.isAgg145
  z70 := Tryz.sizeOf145
  v70 := Tryz.zeroValue145
  t72 := Tryz.underlying147
  a72 := Tryz.isAgg147
  z72 := Tryz.sizeOf147
  v72 := Tryz.zeroValue147
  t75 := Tryz.underlying150
  a75 := Tryz.isAgg150
  z75 := Tryz.sizeOf150
  v75 := Tryz.zeroValue150
  t76 := Tryz.underlying151
  a76 := Tryz.isAgg151
  z76 := Tryz.sizeOf151
  v76 := Tryz.zeroValue151
  t127 := Tryz.underlying176
  a127 := Tryz.isAgg176
  z127 := Tryz.sizeOf176
  v127 := Tryz.zeroValue176
  t164 := Tryz.underlying190
  a164 := Tryz.isAgg190
  z164 := Tryz.sizeOf190
  v164 := Tryz.zeroValue190 }
end Go.Proofs

/-
  DERIVED. Plain lists: the library's words for cutting texts, as this claim's.
-/
namespace Go.Proofs.YtahcfcimfcjhhaaGreatDoor
set_option linter.unusedVariables false

theorem index_no (c : UInt8) : ∀ {l : List UInt8}, c ∉ l → Lib.index l [c] = -1
  | [], _ => rfl
  | b :: l, h => by
    simp only [List.mem_cons, not_or] at h
    unfold Lib.index
    rw [index_no c h.2, if_neg (by simp [List.isPrefixOf]; exact h.1)]
    rfl
theorem index_at (c : UInt8) : ∀ {x : List UInt8} (r : List UInt8), c ∉ x → Lib.index (x ++ c :: r) [c] = x.length
  | [], r, _ => by simp [Lib.index, List.isPrefixOf]
  | b :: x, r, h => by
    simp only [List.mem_cons, not_or] at h
    rw [List.cons_append]
    unfold Lib.index
    rw [index_at c r h.2, if_neg (by simp [List.isPrefixOf]; exact h.1), if_neg (by simp; try omega)]
    simp
theorem cut_first (c : UInt8) : ∀ l : List UInt8, c ∉ l ∨ ∃ x r, l = x ++ c :: r ∧ c ∉ x
  | [] => .inl (by simp)
  | b :: l => by
    by_cases hb : b = c
    · exact .inr ⟨[], l, by rw [hb]; rfl, by simp⟩
    · rcases cut_first c l with h | ⟨x, r, h1, h2⟩
      · exact .inl (by simp only [List.mem_cons, not_or]; exact ⟨fun e => hb e.symm, h⟩)
      · exact .inr ⟨b :: x, r, by rw [h1]; rfl, by simp only [List.mem_cons, not_or]; exact ⟨fun e => hb e.symm, h2⟩⟩
theorem libcut_no (c : UInt8) {l : List UInt8} (h : c ∉ l) : Lib.cut l [c] = (l, [], false) := by
  unfold Lib.cut
  rw [index_no c h, if_neg (by omega)]
theorem libcut_at (c : UInt8) {x : List UInt8} (r : List UInt8) (h : c ∉ x) : Lib.cut (x ++ c :: r) [c] = (x, r, true) := by
  unfold Lib.cut
  rw [index_at c r h, if_pos (by omega), Int.toNat_natCast]
  simp
def one1 (c : UInt8) : ByteArray := ⟨#[c]⟩
theorem bts_ext (s : ByteArray) (l : List UInt8) (h : s.data.toList = l) : s = bts l := by rw [← h, bts_list]
theorem splitB_cut (c : UInt8) : ∀ (n : Nat) (s : ByteArray), s.size ≤ n → Lib.splitB (one1 c) 0 (Lib.countB s (one1 c)) s = (cutL c s.data.toList).map bts := by
  intro n
  induction n with
  | zero =>
    intro s hs
    have he : s.data.toList = [] := by apply List.eq_nil_of_length_eq_zero; have : s.data.toList.length = s.size := by simp
                                       omega
    have hi : Lib.indexB s (one1 c) = -1 := by unfold Lib.indexB; rw [he]; rfl
    rw [Lib.countB_miss s _ hi, Lib.splitB_zero, he]
    simp only [cutL, List.map_cons, List.map_nil]
    rw [bts_ext s [] he]
  | succ n ih =>
    intro s hs
    rcases cut_first c s.data.toList with h | ⟨x, r, h1, h2⟩
    · have hi : Lib.indexB s (one1 c) = -1 := index_no c h
      rw [Lib.countB_miss s _ hi, Lib.splitB_zero, cutL_plain c h, List.map_cons, List.map_nil, bts_list]
    · have hi : Lib.indexB s (one1 c) = (x.length : Nat) := by
        unfold Lib.indexB
        rw [h1]; exact index_at c r h2
      have hsz : s.size = x.length + 1 + r.length := by
        have : s.data.toList.length = s.size := by simp
        rw [← this, h1]; simp; omega
      have e1 : (one1 c).size = 1 := rfl
      have hr : s.extract (x.length + 1) s.size = bts r := by
        apply bts_ext
        rw [ByteArray.data_extract, Array.toList_extract, h1, hsz]
        simp [List.extract]
      have hx : s.extract 0 (x.length + 0) = bts x := by
        apply bts_ext
        rw [ByteArray.data_extract, Array.toList_extract, h1]
        simp [List.extract]
      rw [Lib.countB_hit s _ x.length (by rw [e1]; omega) hi, Nat.add_comm 1, Lib.splitB_hit _ _ _ _ _ hi, e1, hr, hx, ih (bts r) (by rw [bts_size]; omega), h1, cutL_app c r h2]
      simp [bts]
theorem splitB_len (c : UInt8) (s : ByteArray) : (cutL c s.data.toList).length = Lib.countB s (one1 c) + 1 := by
  have h1 := splitB_cut c s.size s (Nat.le_refl _)
  have h2 := Lib.splitB_all (one1 c) (Nat.le_refl 1) 0 _ s rfl
  rw [h1, List.length_map] at h2
  exact h2
theorem decDigits_fmtL : ∀ (n k : Nat), k ≤ n → Lib.decDigits k = fmtL k
  | 0, k, h => by
    have : k = 0 := by omega
    subst this
    rw [Lib.decDigits, dif_pos (by omega)]; rfl
  | n + 1, k, h => by
    rw [Lib.decDigits]
    unfold fmtL
    split
    · rename_i h10
      split
      · rename_i h0; subst h0; rfl
      · rename_i h0
        rw [decB_pos k (by omega), show k / 10 = 0 by omega, show k % 10 = k by omega]
        simp [decB]
    · rename_i h10
      rw [if_neg (by omega), decB_pos k (by omega), decDigits_fmtL n (k / 10) (by omega)]
      unfold fmtL
      rw [if_neg (by omega)]
theorem itoa_fmtL (n : Int) (h : 0 ≤ n) : (⟨(Lib.itoa n).toArray⟩ : ByteArray) = bts (fmtL n.toNat) := by
  unfold Lib.itoa
  rw [if_neg (by omega), decDigits_fmtL n.toNat n.toNat (Nat.le_refl _)]
  rfl
theorem cutL_len (c : UInt8) : ∀ l : List UInt8, (cutL c l).length ≤ l.length + 1
  | [] => by simp [cutL]
  | b :: l => by
    have ih := cutL_len c l
    unfold cutL
    split
    · simp only [List.length_cons]; omega
    · split
      · simp
      · rename_i x xs h; rw [h] at ih; simp only [List.length_cons] at ih ⊢; omega
theorem cutL_mem (c : UInt8) : ∀ {l x : List UInt8}, x ∈ cutL c l → x.length ≤ l.length
  | [], x, h => by simp only [cutL, List.mem_cons, List.not_mem_nil, or_false] at h; subst h; simp
  | b :: l, x, h => by
    unfold cutL at h
    split at h
    · rcases List.mem_cons.1 h with rfl | h
      · simp
      · have := cutL_mem c h; simp only [List.length_cons]; omega
    · split at h
      · simp only [List.mem_cons, List.not_mem_nil, or_false] at h; subst h; simp
      · rename_i y ys hy
        rcases List.mem_cons.1 h with rfl | h
        · have := cutL_mem c (l := l) (x := y) (by rw [hy]; simp)
          simp only [List.length_cons]; omega
        · have := cutL_mem c (l := l) (x := x) (by rw [hy]; simp [h])
          simp only [List.length_cons]; omega
/-- a part, by its first sign -/
theorem partF_cut (p : List UInt8) : partF p = Option.map (fun (v : Nat) => (⟨bts (Lib.cut p [58]).1, (v : Int)⟩ : Frame)) (parseU (bts (Lib.cut p [58]).2.1)) := by
  unfold partF
  rcases cut_first 58 p with h | ⟨x, r, h1, h2⟩
  · rw [cutL_plain 58 h, libcut_no 58 h]
    have : parseU (bts []) = none := by decide
    simp only [this, Option.map_none]
  · rw [h1, cutL_app 58 r h2, libcut_at 58 r h2]
    rcases cut_first 58 r with h | ⟨y, q, h3, h4⟩
    · rw [cutL_plain 58 h]
    · have hb : parseU (bts r) = none := by
        have hmem : (58 : UInt8) ∈ r := by rw [h3]; simp
        obtain ⟨i, hi, he⟩ := List.mem_iff_getElem.1 hmem
        have hi' : i < (bts r).size := by rw [bts_size]; exact hi
        refine parseU_bad hi' ?_
        have : (bts r)[i]! = 58 := by
          rw [getElem!_pos _ i hi', ← he]
          simp only [bts]
          rfl
        rw [this]; decide
      rw [hb, Option.map_none, h3, cutL_app 58 q h4]
      have := cutL_ne 58 q
      generalize cutL 58 q = z at this ⊢
      match z, this with
      | a :: z, _ => rfl
end Go.Proofs.YtahcfcimfcjhhaaGreatDoor

/-
  DERIVED. From the library's contracts, as they stand ('Calls'), to contracts of values that stand for lists.
-/
namespace Go.Vc
set_option linter.unusedVariables false

section
variable {P : Program} {f : FuncId}

/-- a call that answers a value that holds no memory, and leaves what was there as it was -/
theorem Holds.val {args : List SV} {res : SV} {x : Value} (hR : ∀ (w : World) (X : Nat → Prop) (β : Nat → Value), R w X β res x)
    (h : ∀ (w : World) (X : Nat → Prop) (vs : List Value), Grd P w → vs.length = args.length → (∀ (i : Nat) (c : SV) (u : Value), args[i]? = some c → vs[i]? = some u → R w X (fun _ => .slice none 0 0) c u) →
      Calls P f vs.toArray w fun e w' => e = .returned x ∧ Go.RowKit.Below w.heap.size w w') : Holds P f args res [] := by
  intro w X vs hG hX hl ha
  refine (h w X vs hG hl ha).mono fun e w' ⟨he, hb⟩ => ?_
  exact ⟨x, fun _ => .slice none 0 0, he, hb, fun _ => rfl, hR _ _ _, ⟨fun id ob hi => (by cases hi), fun i j oi oj b hi => (by cases hi)⟩, fun id ob b hi => (by cases hi)⟩

theorem args_v {w : World} {X : Nat → Prop} {β : Nat → Value} {vs xs : List Value} (hl : vs.length = (xs.map SV.v).length) (ha : ∀ (i : Nat) (c : SV) (u : Value), (xs.map SV.v)[i]? = some c → vs[i]? = some u → R w X β c u) : vs = xs := by
  apply List.ext_getElem?
  intro i
  by_cases hi : i < xs.length
  · have h1 : (xs.map SV.v)[i]? = some (.v xs[i]) := by rw [List.getElem?_map, List.getElem?_eq_getElem hi]; rfl
    have hv : i < vs.length := by rw [hl, List.length_map]; exact hi
    have := (ha i _ vs[i] h1 (List.getElem?_eq_getElem hv)).v_inv
    rw [List.getElem?_eq_getElem hv, List.getElem?_eq_getElem hi, this]
  · rw [List.getElem?_eq_none (by rw [hl, List.length_map]; omega), List.getElem?_eq_none (by omega)]

/-- .. of scalars -/
theorem Holds.valV {xs : List Value} {res : SV} {x : Value} (hR : ∀ (w : World) (X : Nat → Prop) (β : Nat → Value), R w X β res x)
    (h : ∀ (w : World), Grd P w → Calls P f xs.toArray w fun e w' => e = .returned x ∧ Go.RowKit.Below w.heap.size w w') : Holds P f (xs.map SV.v) res [] :=
  Holds.val hR fun w X vs hG hl ha => by rw [args_v hl ha]; exact h w hG

/-- a call that hands back a list of its own, of cells that hold no memory, in the first new block -/
theorem Holds.newV {args : List SV} {d e s cap : Nat} {rows : List (List Value)} {cur : Array Value} (hcap : rows.length ≤ cap) (hmax : cap ≤ maxLen) (hsz : cur.size = cap * s) (hlen : ∀ row ∈ rows, row.length = s)
    (hcell : ∀ (i k : Nat) (row : List Value) (u : Value), rows[i]? = some row → row[k]? = some u → cur[i * s + k]? = some u ∧ u.oneCell' = true)
    (h : ∀ (w : World) (X : Nat → Prop) (vs : List Value), Grd P w → vs.length = args.length → (∀ (i : Nat) (c : SV) (u : Value), args[i]? = some c → vs[i]? = some u → R w X (fun _ => .slice none 0 0) c u) →
      Calls P f vs.toArray w fun en w' => en = .returned (.slice (some ⟨w.heap.size, 0, none⟩) rows.length cap) ∧ w' = w.alloc (.cells cur e (0, 0))) : Holds P f args (.own d) [(d, .sl e s (rows.map fun r => r.map SV.v))] := by
  intro w X vs hG hX hl ha
  refine (h w X vs hG hl ha).mono fun en w' ⟨he, hw⟩ => ?_
  subst hw
  have hblk : ∀ k, k < w.heap.size → (w.alloc (.cells cur e (0, 0))).heap[k]? = w.heap[k]? := fun k hk => by
    show (w.heap.push _)[k]? = _
    rw [Array.getElem?_push, if_neg (by omega)]
  have hnew : (w.alloc (.cells cur e (0, 0))).heap[w.heap.size]? = some (.cells cur e (0, 0)) := by
    show (w.heap.push _)[w.heap.size]? = _
    rw [Array.getElem?_push, if_pos rfl]
  refine ⟨_, fun _ => .slice (some ⟨w.heap.size, 0, none⟩) rows.length cap, he, ⟨rfl, rfl, rfl, ?_, hblk⟩, fun _ => rfl, .own d, ⟨fun id ob hi => ?_, fun i j oi oj b hi hj _ _ => ?_⟩, fun id ob b hi hb => ?_⟩
  · show _ ≤ (w.heap.push _).size
    rw [Array.size_push]; omega
  · simp only [lk] at hi
    split at hi
    · cases hi
      have hget : ∀ (i k : Nat) (row : List SV) (c : SV), (rows.map fun r => r.map SV.v)[i]? = some row → row[k]? = some c → ∃ r u, rows[i]? = some r ∧ r[k]? = some u ∧ c = .v u := fun i k row c hr hc => by
        rw [List.getElem?_map] at hr
        cases hx : rows[i]? with
        | none => rw [hx] at hr; cases hr
        | some r =>
          rw [hx] at hr
          simp only [Option.map_some, Option.some.injEq] at hr
          subst hr
          rw [List.getElem?_map] at hc
          cases hu : r[k]? with
          | none => rw [hu] at hc; cases hc
          | some u => rw [hu] at hc; simp only [Option.map_some, Option.some.injEq] at hc; exact ⟨r, u, rfl, hu, hc.symm⟩
      refine .sl w.heap.size cap cur (fun i k => (cur[i * s + k]?).getD undef) (by simp) hnew (by simpa using hcap) hmax hsz (fun i row hr => ?_) (fun i k row c hr hc => ?_) (fun i k row c hr hc => ?_) (fun i k row c hr hc => ?_)
      · rw [List.getElem?_map] at hr
        cases hx : rows[i]? with
        | none => rw [hx] at hr; cases hr
        | some r =>
          rw [hx] at hr
          simp only [Option.map_some, Option.some.injEq] at hr
          subst hr
          simpa using hlen r (List.mem_of_getElem? hx)
      · obtain ⟨r, u, h1, h2, rfl⟩ := hget i k row c hr hc
        rw [(hcell i k r u h1 h2).1]; rfl
      · obtain ⟨r, u, h1, h2, rfl⟩ := hget i k row c hr hc
        rw [(hcell i k r u h1 h2).1]; exact (hcell i k r u h1 h2).2
      · obtain ⟨r, u, h1, h2, rfl⟩ := hget i k row c hr hc
        rw [(hcell i k r u h1 h2).1]; exact .v u
    · cases hi
  · simp only [lk] at hi hj
    split at hi
    · split at hj
      · rename_i e1 e2; rw [e1, e2]
      · cases hj
    · cases hi
  · cases hb
    exact Nat.le_refl _

/-- what a list that may be read is, as a value -/
theorem R.sl_form {w : World} {X : Nat → Prop} {β : Nat → Value} {s : Nat} {rows : List (List SV)} {v : Value} (h : R w X β (.sl s rows) v) :
    (rows = [] ∧ ∃ p cap, v = .slice p 0 cap) ∨ ∃ b off cap, v = .slice (some ⟨b, off, none⟩) rows.length cap ∧ ¬ X b ∧ b < w.heap.size ∧ rows.length ≤ cap ∧
      ∀ (i k : Nat) (row : List SV) (c : SV), rows[i]? = some row → row[k]? = some c → ∃ u, w.cell? ⟨b, off + (i * s + k), none⟩ = some u ∧ Rp w X c u := by
  have h := h.sl_inv
  cases h with
  | nil s p cap => exact .inl ⟨rfl, p, cap, rfl⟩
  | sl b off cap us h1 h2 h3 h4 h5 h6 h7 => exact .inr ⟨b, off, cap, rfl, h1, h2, h3, fun i k row c hr hc => ⟨us i k, h5 i k row c hr hc, h7 i k row c hr hc⟩⟩

theorem ObR.sl_form {w : World} {X : Nat → Prop} {β : Nat → Value} {v : Value} {e s : Nat} {rows : List (List SV)} (h : ObR w X β v (.sl e s rows)) :
    (v = .slice none 0 0 ∧ rows = []) ∨ ∃ (b cap : Nat) (cur : Array Value) (us : Nat → Nat → Value), v = .slice (some ⟨b, 0, none⟩) rows.length cap ∧ w.heap[b]? = some (.cells cur e (0, 0)) ∧ rows.length ≤ cap ∧ cap ≤ maxLen ∧ cur.size = cap * s ∧
      (∀ (i : Nat) (row : List SV), rows[i]? = some row → row.length = s) ∧ ∀ (i k : Nat) (row : List SV) (c : SV), rows[i]? = some row → row[k]? = some c → cur[i * s + k]? = some (us i k) ∧ (us i k).oneCell' = true ∧ Rp w X c (us i k) := by
  cases h with
  | nil e s h => exact .inl ⟨h, rfl⟩
  | sl b cap cur us hv hh h1 h2 h3 h4 h5 h6 h7 => exact .inr ⟨b, cap, cur, us, hv, hh, h1, h2, h3, h4, fun i k row c a b => ⟨h5 i k row c a b, h6 i k row c a b, h7 i k row c a b⟩⟩

/-- what a call that changes the cells of one list that it is lent leaves of the world -/
structure Upd (w w' : World) (b e : Nat) (cur cur' : Array Value) : Prop where
  os : w'.os = w.os
  tape : w'.tape = w.tape
  output : w'.output = w.output
  size : w.heap.size ≤ w'.heap.size
  cells : w'.heap[b]? = some (.cells cur' e (0, 0))
  len : cur'.size = cur.size
  other : ∀ k, k < w.heap.size → k ≠ b → w'.heap[k]? = w.heap[k]?

def vrows (rows : List (List Value)) : List (List SV) := rows.map fun r => r.map SV.v
theorem vrows_get {rows : List (List Value)} {i k : Nat} {row : List SV} {c : SV} (hr : (vrows rows)[i]? = some row) (hc : row[k]? = some c) : ∃ r u, rows[i]? = some r ∧ r[k]? = some u ∧ c = .v u := by
  unfold vrows at hr
  rw [List.getElem?_map] at hr
  cases hx : rows[i]? with
  | none => rw [hx] at hr; cases hr
  | some r =>
    rw [hx] at hr
    simp only [Option.map_some, Option.some.injEq] at hr
    subst hr
    rw [List.getElem?_map] at hc
    cases hu : r[k]? with
    | none => rw [hu] at hc; cases hc
    | some u => rw [hu] at hc; simp only [Option.map_some, Option.some.injEq] at hc; exact ⟨r, u, rfl, hu, hc.symm⟩
theorem vrows_len {rows : List (List Value)} {i s : Nat} {row : List SV} (hr : (vrows rows)[i]? = some row) (h : ∀ r ∈ rows, r.length = s) : row.length = s := by
  unfold vrows at hr
  rw [List.getElem?_map] at hr
  cases hx : rows[i]? with
  | none => rw [hx] at hr; cases hr
  | some r =>
    rw [hx] at hr
    simp only [Option.map_some, Option.some.injEq] at hr
    subst hr
    simpa using h r (List.mem_of_getElem? hx)

/-- a call that is lent one list (its first argument), whose other arguments are function values that capture nothing and scalars, and that answers nothing -/
theorem HoldsL.cells {e s : Nat} {rows rows' : List (List Value)} {rest : List SV} (hl0 : ∀ r ∈ rows, r.length = s) (hlr : rows'.length = rows.length) (hl1 : ∀ r ∈ rows', r.length = s)
    (hone : ∀ r ∈ rows', ∀ u ∈ r, u.oneCell' = true)
    (hnil : rows = [] → ∀ (w : World) (us : List Value), us.length = rest.length → (∀ (i : Nat) (c : SV) (u : Value), rest[i]? = some c → us[i]? = some u → R w (fun _ => False) (fun _ => .slice none 0 0) c u) →
      Calls P f ((Value.slice none 0 0 :: us).toArray) w fun en w' => en = .returned (.tuple #[]) ∧ Go.RowKit.Below w.heap.size w w')
    (hrest : ∀ c ∈ rest, (∃ g, c = .fn g []) ∨ ∃ x, c = .v x)
    (h : ∀ (w : World) (b cap : Nat) (cur : Array Value) (us : List Value), Grd P w → w.heap[b]? = some (.cells cur e (0, 0)) → rows.length ≤ cap → cap ≤ maxLen → cur.size = cap * s →
      (∀ (i k : Nat) (r : List Value) (u : Value), rows[i]? = some r → r[k]? = some u → cur[i * s + k]? = some u ∧ u.oneCell' = true) → us.length = rest.length →
      (∀ (i : Nat) (c : SV) (u : Value), rest[i]? = some c → us[i]? = some u → R w (fun _ => False) (fun _ => .slice none 0 0) c u) →
      Calls P f ((Value.slice (some ⟨b, 0, none⟩) rows.length cap :: us).toArray) w fun en w' => en = .returned (.tuple #[]) ∧ ∃ cur', Upd w w' b e cur cur' ∧
        ∀ (i k : Nat) (r : List Value) (u : Value), rows'[i]? = some r → r[k]? = some u → cur'[i * s + k]? = some u) :
    HoldsL P f (.own 1000000 :: rest) [(1000000, .sl e s (vrows rows))] (.tup []) [] [(1000000, .sl e s (vrows rows'))] := by
  intro w X β vs hG hβ hX hl ha hobs hlent
  match vs, hl, ha with
  | v0 :: us, hl, ha =>
    have hv0 := (ha 0 _ v0 rfl rfl).own_inv
    subst hv0
    have hus : us.length = rest.length := by simpa using hl
    have haR : ∀ (i : Nat) (c : SV) (u : Value), rest[i]? = some c → us[i]? = some u → R w (fun _ => False) (fun _ => .slice none 0 0) c u := fun i c u hc hu => by
      have h1 := ha (i + 1) c u (by simpa using hc) (by simpa using hu)
      rcases hrest c (List.mem_of_getElem? hc) with ⟨g, rfl⟩ | ⟨x, rfl⟩
      · obtain ⟨cs, rfl, hcl, _⟩ := h1.fn_inv
        have : cs = [] := List.eq_nil_of_length_eq_zero (by simpa using hcl.symm)
        subst this
        exact .fn rfl fun k c u hk => (by simp at hk)
      · have := h1.v_inv; subst this; exact .p (.v _)
    have hO := hobs.1 1000000 (.sl e s (vrows rows)) (by simp [lk])
    have hnoblk : ∀ {id ob}, lk id ([] ++ [(1000000, Ob.sl e s (vrows rows'))]) = some ob → id = 1000000 ∧ ob = .sl e s (vrows rows') := fun {id ob} hi => by
      simp only [List.nil_append, lk] at hi
      split at hi
      · rename_i he; cases hi; exact ⟨he, rfl⟩
      · cases hi
    have inj : ∀ (β' : Nat → Value) (i j : Nat) (oi oj : Ob) (b : Nat), lk i ([] ++ [(1000000, Ob.sl e s (vrows rows'))]) = some oi → lk j ([] ++ [(1000000, Ob.sl e s (vrows rows'))]) = some oj → blk (β' i) = some b → blk (β' j) = some b → i = j :=
      fun β' i j oi oj b hi hj _ _ => (hnoblk hi).1.trans (hnoblk hj).1.symm
    have nilc : rows = [] → β 1000000 = .slice none 0 0 → Calls P f ((β 1000000 :: us).toArray) w fun en w' => ∃ v β', en = .returned v ∧ w'.os = w.os ∧ w'.tape = w.tape ∧ w'.output = w.output ∧ w.heap.size ≤ w'.heap.size ∧
      (∀ b, b < w.heap.size → (¬ ∃ id ob, lk id [(1000000, Ob.sl e s (vrows rows))] = some ob ∧ blk (β id) = some b) → w'.heap[b]? = w.heap[b]?) ∧ (∀ i, (β' i).oneCell' = true) ∧ (∀ i ob, 1000000 ≤ i → lk i [(1000000, Ob.sl e s (vrows rows))] = some ob → β' i = β i) ∧
      R w' (XX X β' ([] ++ [(1000000, Ob.sl e s (vrows rows'))])) β' (.tup []) v ∧ Obs w' X β' ([] ++ [(1000000, Ob.sl e s (vrows rows'))]) ∧
      ∀ id ob b, lk id ([] : List (Nat × Ob)) = some ob → blk (β' id) = some b → w.heap.size ≤ b ∨ ∃ k o, lk k [(1000000, Ob.sl e s (vrows rows))] = some o ∧ k < 1000000 ∧ blk (β k) = some b := fun hr hb0 => by
      rw [hb0]
      refine (hnil hr w us hus haR).mono fun en w' ⟨he, hb⟩ => ?_
      have hr' : rows' = [] := List.eq_nil_of_length_eq_zero (by rw [hlr, hr]; rfl)
      refine ⟨_, β, he, hb.os, hb.tape, hb.output, hb.size, fun b hlt _ => hb.block b hlt, hβ, fun _ _ _ _ => rfl, .tup (us := []) rfl fun k c u hk => (by simp at hk), ⟨fun id ob hi => ?_, inj β⟩, fun id ob b hi => (by cases hi)⟩
      obtain ⟨rfl, rfl⟩ := hnoblk hi
      rw [hr', hb0]
      exact .nil e s rfl
    rcases hO.sl_form with ⟨h0, hrows⟩ | ⟨b, cap, cur, us0, hv, hh, h1, h2, h3, h4, h5⟩
    · exact nilc (by simpa [vrows] using hrows) h0
    · skip
      have hbv' : β 1000000 = .slice (some ⟨b, 0, none⟩) rows.length cap := by rw [hv]; simp [vrows]
      have hcell : ∀ (i k : Nat) (r : List Value) (u : Value), rows[i]? = some r → r[k]? = some u → cur[i * s + k]? = some u ∧ u.oneCell' = true := fun i k r u hr hu => by
        have e1 : (vrows rows)[i]? = some (r.map SV.v) := by unfold vrows; rw [List.getElem?_map, hr]; rfl
        have e2 : (r.map SV.v)[k]? = some (.v u) := by rw [List.getElem?_map, hu]; rfl
        obtain ⟨e5, e4, e3⟩ := h5 i k _ _ e1 e2
        generalize us0 i k = y at e3 e4 e5
        cases e3
        exact ⟨e5, e4⟩
      rw [hbv']
      refine (h w b cap cur us hG hh (by simpa [vrows] using h1) h2 h3 hcell hus haR).mono fun en w' ⟨he, cur', hU, hc'⟩ => ?_
      have hblk : blk (β 1000000) = some b := by rw [hbv']; rfl
      refine ⟨_, β, he, hU.os, hU.tape, hU.output, hU.size, fun k hk hn => hU.other k hk fun hkb => hn ⟨1000000, .sl e s (vrows rows), by simp [lk], by rw [hkb]; exact hblk⟩, hβ, fun _ _ _ _ => rfl, .tup (us := []) rfl fun k c u hk => (by simp at hk), ⟨fun id ob hi => ?_, inj β⟩, fun id ob b hi => (by cases hi)⟩
      obtain ⟨rfl, rfl⟩ := hnoblk hi
      rw [hbv']
      refine .sl b cap cur' (fun i k => (cur'[i * s + k]?).getD undef) (by simp [vrows, hlr]) hU.cells (by simpa [vrows, hlr] using h1) h2 (by rw [hU.len]; exact h3) (fun i row hr => vrows_len hr hl1) (fun i k row c hr hc => ?_) (fun i k row c hr hc => ?_) (fun i k row c hr hc => ?_)
      · obtain ⟨r, u, g1, g2, rfl⟩ := vrows_get hr hc
        rw [hc' i k r u g1 g2]; rfl
      · obtain ⟨r, u, g1, g2, rfl⟩ := vrows_get hr hc
        rw [hc' i k r u g1 g2]; exact hone r (List.mem_of_getElem? g1) u (List.mem_of_getElem? g2)
      · obtain ⟨r, u, g1, g2, rfl⟩ := vrows_get hr hc
        rw [hc' i k r u g1 g2]; exact .v u

/-- the sort's words: these cells hold these, and none is frozen -/
theorem holds_cells {α : Type} [Inhabited α] {enc : α → Value} {w : World} {b e : Nat} {cur : Array Value} {d : Array α} (hh : w.heap[b]? = some (.cells cur e (0, 0))) (hc : ∀ j, j < d.size → cur[j]? = some (enc d[j]!)) : Go.Sort.Holds enc w b 0 d := by
  intro j hj
  constructor
  · simp only [World.cell?, hh, Nat.zero_add]
    exact hc j hj
  · simp only [World.frozen?, hh]
    simp
theorem upd_putRow {α : Type} [Inhabited α] (enc : α → Value) {w : World} {b e : Nat} {cur : Array Value} (n : Nat) (d : Array α) (os : Array Obj) (hh : w.heap[b]? = some (.cells cur e (0, 0))) (hd : d.size ≤ cur.size) :
    Upd w (Go.Sort.grow (Go.Sort.putRow enc (Go.Sort.ahead w n) b 0 d) os) b e cur (Go.Sort.putCells enc 0 d cur) ∧ ∀ j, j < d.size → (Go.Sort.putCells enc 0 d cur)[j]? = some (enc d[j]!) := by
  have hb := lt_of_heap hh
  have hsz : (Go.Sort.putRow enc (Go.Sort.ahead w n) b 0 d).heap.size = w.heap.size := by
    show (w.heap.modify b _).size = _
    rw [Array.size_modify]
  have hget : ∀ k, k < w.heap.size → (Go.Sort.grow (Go.Sort.putRow enc (Go.Sort.ahead w n) b 0 d) os).heap[k]? = (w.heap.modify b (Go.Sort.onCells (Go.Sort.putCells enc 0 d)))[k]? := fun k hk => by
    show ((w.heap.modify b _) ++ os)[k]? = _
    rw [Array.getElem?_append_left (by rw [Array.size_modify]; exact hk)]
  refine ⟨⟨rfl, rfl, rfl, ?_, ?_, by simp [Go.Sort.putCells], fun k hk hne => ?_⟩, fun j hj => ?_⟩
  · show _ ≤ ((w.heap.modify b _) ++ os).size
    rw [Array.size_append, Array.size_modify]; omega
  · rw [hget b hb, Array.getElem?_modify, if_pos rfl, hh]; rfl
  · rw [hget k hk, Array.getElem?_modify, if_neg (fun e => hne e.symm)]
  · simp only [Go.Sort.putCells, Array.getElem?_mapIdx, Nat.zero_le, Nat.zero_add, true_and]
    rw [Array.getElem?_eq_getElem (show j < cur.size by omega)]
    simp [hj]
end

/-! ## what is package-level -/
section
variable {P : Program} {w : World}
theorem Grd.block (h : Grd P w) (h0 : P.globals.size ≠ 0) : ∃ W0 : World, W0.ShapedOpen P ∧ ((P.globalNamed "internal/strconv.uint64pow10").isSome = true → W0.var? P "internal/strconv.uint64pow10" = some (pow10s.map fun z => Value.int .u64 z).toArray) ∧ ∀ b, b < P.globals.size → w.heap[b]? = W0.heap[b]? := by
  rcases h with h | ⟨_, h⟩
  · exact absurd h h0
  · exact h
theorem Grd.pow (h : Grd P w) (h0 : P.globals.size ≠ 0) {g : Nat} (hg : P.globalNamed "internal/strconv.uint64pow10" = some g) (hlt : g < P.globals.size) : w.var? P "internal/strconv.uint64pow10" = some (pow10s.map fun z => Value.int .u64 z).toArray := by
  obtain ⟨W0, _, h2, h3⟩ := h.block h0
  rw [← h2 (by rw [hg]; rfl)]
  unfold World.var?
  rw [hg]
  simp only [Option.bind_some]
  rw [h3 g hlt]
theorem Grd.cellInt (h : Grd P w) (h0 : P.globals.size ≠ 0) {g : Nat} (hlt : g < P.globals.size) (hq : ∀ W0 : World, W0.ShapedOpen P → ∃ m : Int, W0.cell? ⟨g, 0, none⟩ = some (.int .i64 m)) : ∃ m : Int, w.cell? ⟨g, 0, none⟩ = some (.int .i64 m) := by
  obtain ⟨W0, h1, _, h3⟩ := h.block h0
  obtain ⟨m, hm⟩ := hq W0 h1
  exact ⟨m, by rw [← hm]; exact World.cell?_of_block (w := W0) (h3 g hlt)⟩
end
theorem R.tupV {w : World} {X : Nat → Prop} {β : Nat → Value} (xs : List Value) : R w X β (.tup (xs.map SV.v)) (.tuple xs.toArray) :=
  .tup (by simp) fun k c u hc hu => by
    rw [List.getElem?_map, hu] at hc
    simp only [Option.map_some, Option.some.injEq] at hc
    subst hc
    exact .p (.v _)
end Go.Vc

namespace Go.Proofs.YtahcfcimfcjhhaaGreatDoor
open Go.Vc
attribute [local go_sem] St.runR St.runW St.stepV offV St.step St.stepU St.stepG mkCond guardB St.prK St.pr St.prLen St.eff St.callE St.callD St.callF St.callL aI aB aS aR aC St.isM St.argL Ctr.pure Ctr.lend Ctr.move Ctr.isL Ctr.wri pur len lentBy St.lentV St.lent1 nthS argsR restOf obsR pairs swapL unObs backL St.resL erL SV.ren1 SV.up SV.up2 Ob.up St.fzL cellIds partIds St.intoRow SV.ownId St.fz SV.fz1 St.prep St.mvL St.mv SV.re1 rnOk St.prEq vals eqCells scEq Value.kd St.prStr St.prCut cutR St.bnd St.prMin St.bld isShift outL retL outJ oR oC St.ev St.get St.put St.new St.kill SV.kill SV.kill1 Ob.kill St.app St.wrt St.rowsOf St.res St.killL lk er argsL SV.strip SV.need SV.share SV.share1 SV.owns SV.owns1 SV.owns2 SV.good SV.good1 SV.rok SV.rok1 SV.rok2 SV.isV SV.isV2 nodupN SV.cells SV.one SV.pur Ob.pb partsIn rowsIn splice cellsAt dstOk scal2 scal1 thenK blockK retK outK outs okC okL okA okT nilC nilL nilA nilT keepC keepL keepA keepT St.runG St.dltK St.least St.clean St.final St.hide offK badS badO SV.refs SV.leaf SV.leaf2 Ob.refs dlOk fpAt Go.Vc.cover tups SV.ofAgg St.out outC subL St.has rng wr Value.oneCell' Option.isSome_some Option.isSome_none List.nil_append Bool.false_eq_true List.map_cons List.map_nil List.all_cons List.all_nil List.length_cons List.length_nil List.drop_zero List.drop_succ_cons List.take_succ_cons List.take_zero List.drop_nil List.take_nil List.getElem?_cons_zero List.getElem?_cons_succ List.getElem?_nil List.cons_append List.nil_append List.append_nil List.append_assoc List.flatMap_cons List.flatMap_nil List.contains_cons List.contains_nil List.set_cons_zero List.set_cons_succ List.getElem?_toArray Option.getD_some Option.getD_none Option.map_some Option.map_none Option.bind_some Option.some.injEq Prod.mk.injEq if_true if_false true_and and_true and_self and_false false_and Bool.and_false Bool.false_and Bool.or_true Bool.true_or Bool.or_false Bool.false_or ne_eq not_true_eq_false not_false_eq_true decide_true decide_false List.mem_cons List.not_mem_nil List.filter_cons List.filter_nil List.any_cons List.any_nil List.isEmpty_nil List.isEmpty_cons Option.getD_none or_false false_or true_or or_true forall_eq_or_imp forall_eq reduceCtorEq exists_eq exists_eq' exists_eq_left' exists_eq_left exists_eq_right exists_eq_right' imp_self implies_true Bool.and_true Bool.true_and Bool.and_self beq_self_eq_true List.replicate_succ List.replicate_zero forall_const false_implies pickB_or pickB_and beqT beqF Int.toNat_natCast List.length_map List.length_replicate ge_iff_le gt_iff_lt decide_eq_true_eq decide_eq_false_iff_not Bool.and_eq_true Bool.or_eq_true Bool.not_eq_true' Bool.not_eq_false' condG List.toList_toArray Bool.or_eq_false_iff Bool.and_eq_false_iff Int.not_lt Int.not_le beq_iff_eq beq_eq_false_iff_ne bne_iff_ne bne_eq_false_iff_eq ne_eq Bool.not_true Bool.not_false exists_and_left
section
open Go.Vc
set_option linter.unusedSimpArgs false
set_option linter.unusedVariables false
set_option maxHeartbeats 1000000
set_option maxRecDepth 10000
attribute [local irreducible] Go.Vc.WP
attribute [local go_sem] cx0_t cx0_c
open Go.RowKit (Below)
theorem glob0 : Tryz.prog.globals.size ≠ 0 := by decide +kernel
theorem below_drewN (w : World) (n : Nat) : Below w.heap.size w (w.drewN n) := ⟨rfl, rfl, rfl, Nat.le_refl _, fun _ _ => rfl⟩
theorem below_grow (w : World) (n : Nat) (os : Array Obj) : Below w.heap.size w (Go.Sort.grow (w.drewN n) os) :=
  ⟨rfl, rfl, rfl, by rw [Go.Sort.size_grow]; exact Nat.le_add_right _ _, fun k hk => by show (w.heap ++ os)[k]? = _; rw [Array.getElem?_append_left hk]⟩
def kCmp : Ctr := pur (fun args => (aS args 0, aS args 1)) (fun x => [.v (.string x.1), .v (.string x.2)]) (fun _ => True) (fun _ x => .v (.int .i64 (Lib.compareBytes x.1.data.toList x.2.data.toList))) (fun _ _ => [])
theorem cCmp : Cn Tryz.prog 71 kCmp := by
  refine Cn.pur Tryz.func71 (by kernel_rfl) rfl fun d x _ => ?_
  refine Holds.valV (xs := [.string x.1, .string x.2]) (fun w X β => .p (.v _)) fun w hG => ?_
  exact (Any.strings_Compare Tryz.l106 x.1 x.2 w).mono fun e w' ⟨he, hw⟩ => ⟨he, by rw [hw]; exact Below.refl _ _⟩
def kItoa : Ctr := pur (fun args => aI args 0) (fun n => [.v (.int .i64 n)]) (fun n => 0 ≤ n ∧ n ≤ 1000000000000000) (fun _ n => .v (.string (bts (fmtL n.toNat)))) (fun _ _ => [])
theorem cItoa : Cn Tryz.prog 111 kItoa := by
  refine Cn.pur Tryz.func111 (by kernel_rfl) rfl fun d x hx => ?_
  refine Holds.valV (xs := [.int .i64 x]) (x := .string (bts (fmtL x.toNat))) (fun w X β => .p (.v _)) fun w hG => ?_
  have ht := hG.pow (g := (Tryz.prog.globalNamed "internal/strconv.uint64pow10").getD 0) glob0 (by decide +kernel) (by decide +kernel)
  exact (Any.strconv_Itoa Tryz.lM171 x (by omega) (by omega) w ht).mono fun e w' ⟨he, k, os, hw⟩ => ⟨by rw [he, itoa_fmtL x hx.1], by rw [hw]; exact below_grow w k os⟩
def kCut : Ctr := pur (fun args => (aS args 0, aS args 1)) (fun x => [.v (.string x.1), .v (.string x.2)]) (fun x => x.1.size < 4294967281)
  (fun _ x => .tup [.v (.string (bts (Lib.cut x.1.data.toList x.2.data.toList).1)), .v (.string (bts (Lib.cut x.1.data.toList x.2.data.toList).2.1)), .v (.bool (Lib.cut x.1.data.toList x.2.data.toList).2.2)]) (fun _ _ => [])
theorem cCut : Cn Tryz.prog 73 kCut := by
  refine Cn.pur Tryz.func73 (by kernel_rfl) rfl fun d x hx => ?_
  refine Holds.valV (xs := [.string x.1, .string x.2]) (fun w X β => R.tupV [.string (bts (Lib.cut x.1.data.toList x.2.data.toList).1), .string (bts (Lib.cut x.1.data.toList x.2.data.toList).2.1), .bool (Lib.cut x.1.data.toList x.2.data.toList).2.2]) fun w hG => ?_
  obtain ⟨m, hm⟩ := hG.cellInt (g := Tryz.lM145_ren.g 1) glob0 (by decide +kernel) (fun W0 h => Tryz.lM145.s1_3 W0 h)
  exact (Any.strings_Cut { Tryz.lM145 with } x.1 x.2 m w hx hm).mono fun e w' ⟨he, n, hw⟩ => ⟨he, by rw [hw]; exact below_drewN w n⟩
def kSplit : Ctr := pur (fun args => (aS args 0, aS args 1)) (fun x => [.v (.string x.1), .v (.string x.2)]) (fun x => x.1.size < 4294967281 ∧ x.2.size = 1)
  (fun d _ => .own d) (fun d x => [(d, .sl 9 1 (((cutL x.2[0]! x.1.data.toList).map bts).map encS))])
theorem one1_eq {s : ByteArray} (h : s.size = 1) : s = one1 s[0]! := by
  have hl : s.data.toList.length = 1 := by simpa using h
  rw [getElem!_pos s 0 (by omega)]
  refine (bts_ext s _ ?_).trans rfl
  match hs : s.data.toList, hl with
  | [c], _ =>
    have : s[0]'(by omega) = s.data.toList[0]'(by omega) := by simp; rfl
    rw [this]
    simp [hs]
theorem cSplit : Cn Tryz.prog 72 kSplit := by
  refine Cn.pur Tryz.func72 (by kernel_rfl) rfl fun d x hx => ?_
  obtain ⟨s, sep⟩ := x
  obtain ⟨hs, h1⟩ := hx
  simp only at hs h1 ⊢
  have hsep := one1_eq h1
  generalize sep[0]! = c at hsep
  subst hsep
  have hcut := splitB_cut c s.size s (Nat.le_refl _)
  have hlen := splitB_len c s
  have hle := cutL_len c s.data.toList
  have hsz : s.data.toList.length = s.size := by simp
  have hn := Holds.newV (P := Tryz.prog) (f := 72) (args := [.v (.string s), .v (.string (one1 c))]) (d := d) (e := 9) (s := 1) (cap := Lib.countB s (one1 c) + 1) (rows := ((cutL c s.data.toList).map bts).map fun b => [Value.string b])
    (cur := (((cutL c s.data.toList).map bts).map Value.string).toArray) (by simp [hlen]) (by unfold maxLen; omega) (by simp [hlen]) (fun row hr => by obtain ⟨x, _, rfl⟩ := List.mem_map.1 hr; rfl)
    (fun i k row u hr hu => by
      rw [List.getElem?_map] at hr
      cases hx : ((cutL c s.data.toList).map bts)[i]? with
      | none => rw [hx] at hr; cases hr
      | some b =>
        rw [hx] at hr
        simp only [Option.map_some, Option.some.injEq] at hr
        subst hr
        cases k with
        | succ k => simp at hu
        | zero =>
          simp only [List.getElem?_cons_zero, Option.some.injEq] at hu
          subst hu
          refine ⟨?_, rfl⟩
          rw [Nat.mul_one, Nat.add_zero, List.getElem?_toArray, List.getElem?_map, hx]; rfl) (fun w X vs hG hl ha => by
      have hv : vs = [.string s, .string (one1 c)] := args_v (xs := [.string s, .string (one1 c)]) hl ha
      subst hv
      obtain ⟨m, hm⟩ := hG.cellInt (g := Tryz.lM146_ren.g 1) glob0 (by decide +kernel) (fun W0 h => Tryz.lM146.s1_3 W0 h)
      refine (Any.strings_Split { Tryz.lM146 with } Tryz.lM146.i9 s (one1 c) m w hs hm (Nat.le_refl 1)).mono fun e w' ⟨he, hw⟩ => ⟨?_, ?_⟩
      · rw [he]; simp [hlen]
      · rw [hw, hcut]; rfl)
  have e : (((cutL c s.data.toList).map bts).map fun b => [Value.string b]).map (fun r => r.map SV.v) = ((cutL c s.data.toList).map bts).map encS := by rw [List.map_map]; rfl
  rw [e] at hn
  exact hn
theorem bxT : Builder.Extra Tryz.prog Tryz.l156_ren := {
  sizeBuilder := by kernel_rfl
  liesBuilder := by kernel_rfl
  t5 := Tryz.underlying5
  a5 := Tryz.isAgg5
  z5 := Tryz.sizeOf5
  v5 := Tryz.zeroValue5
  infoByte := by kernel_rfl
  cellsByte := by kernel_rfl
  sizeByte := by kernel_rfl
  neB5 := by decide }
theorem join_joinL (c : UInt8) : ∀ L : List (List UInt8), Lib.join L [c] = joinL c L
  | [] => rfl
  | [x] => by rw [Lib.join_one]; rfl
  | x :: y :: l => by
    have ih := join_joinL c (y :: l)
    unfold Lib.join at ih ⊢
    rw [joinL, ← ih]
    simp [List.intercalate, List.intersperse]
def kJoin : Ctr := pur (fun args => (decS (aR args 0), aS args 1)) (fun x => [.sl 1 (x.1.map encS), .v (.string x.2)]) (fun x => x.1.length ≤ 1099511627776 ∧ x.2.size = 1 ∧ (joinL x.2[0]! (x.1.map (·.data.toList))).length ≤ 140737488355328)
  (fun _ x => .v (.string (bts (joinL x.2[0]! (x.1.map (·.data.toList)))))) (fun _ _ => [])
theorem cJoin : Cn Tryz.prog 94 kJoin := by
  refine Cn.pur Tryz.func94 (by kernel_rfl) rfl fun d x hx => ?_
  obtain ⟨L, sep⟩ := x
  obtain ⟨hL, h1, hj⟩ := hx
  simp only at hL h1 hj ⊢
  have hsep := one1_eq h1
  generalize sep[0]! = c at hsep hj ⊢
  subst hsep
  refine Holds.val (x := .string (bts (joinL c (L.map (·.data.toList))))) (fun w X β => .p (.v _)) fun w X vs hG hl ha => ?_
  match vs, hl with
  | [v0, v1], _ =>
    have h2 := (ha 1 _ v1 rfl rfl).v_inv
    subst h2
    rcases (ha 0 _ v0 rfl rfl).sl_form with ⟨hr, p, cap, rfl⟩ | ⟨b, off, cap, rfl, _, hb, hc, hcell⟩
    · have hL0 : L = [] := by simpa using hr
      subst hL0
      exact (Any.strings_Join_none Tryz.l156 bxT p cap (one1 c) w).mono fun e w' ⟨he, hw⟩ => ⟨he, by rw [hw]; exact Below.refl _ _⟩
    · rw [List.length_map] at hc ⊢
      refine (Any.strings_Join Tryz.l156 bxT b off cap L (one1 c) w (fun j x hx => ?_) hb (by omega) hc (by rw [show (one1 c).data.toList = [c] from rfl, join_joinL]; exact hj)).mono fun e w' ⟨he, hw⟩ => ⟨?_, hw⟩
      · obtain ⟨u, hu, hru⟩ := hcell j 0 (encS x) (.v (.string x)) (by rw [List.getElem?_map, hx]; rfl) rfl
        cases hru
        rw [Nat.mul_one, Nat.add_zero] at hu
        exact hu
      · rw [he, show (one1 c).data.toList = [c] from rfl, join_joinL]; rfl
end
end Go.Proofs.YtahcfcimfcjhhaaGreatDoor
