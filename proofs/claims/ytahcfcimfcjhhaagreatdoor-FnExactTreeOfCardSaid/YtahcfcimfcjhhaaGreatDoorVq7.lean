/-
  DERIVED. Several texts of ours in one: VtEntS, VtStk2, VtEnO, VcFz, VpKeep, VtFocS, VtNamed, VsLayS, VcV, VtSortE, VtEnI, VtFoc, VpNbr, VgTableRow.
-/
import Derived.Test.YtahcfcimfcjhhaaGreatDoorVq0
import Derived.Test.YtahcfcimfcjhhaaGreatDoorVq1
import Derived.Test.YtahcfcimfcjhhaaGreatDoorVq2
import Derived.Test.YtahcfcimfcjhhaaGreatDoorVq3
import Derived.Test.YtahcfcimfcjhhaaGreatDoorVq4
import Derived.Test.YtahcfcimfcjhhaaGreatDoorVq5
import Derived.Test.YtahcfcimfcjhhaaGreatDoorVq6
import Derived.Shelf.SlSortCmp.WholeK
import Derived.Shelf.SlLaysF0
import Derived.Ground.SlsfProg
import Derived.Test.YtahcfcimfcjhhaaGreatDoorProg
import Derived.Shelf.SlSortCmp.NoneTotal
import Derived.Shelf.Small.Strs
set_option linter.unusedSimpArgs false
set_option linter.unusedVariables false
namespace Go.Proofs.YtahcfcimfcjhhaaGreatDoor
open Go.Vc
attribute [local go_sem] St.runR St.runW St.stepV offV St.step St.stepU St.stepG mkCond guardB St.prK St.pr St.prLen St.eff St.callE St.callD St.callF St.callL aI aB aS aR aC St.isM St.argL Ctr.pure Ctr.lend Ctr.move Ctr.isL Ctr.wri pur len lentBy St.lentV St.lent1 nthS argsR restOf obsR pairs swapL unObs backL St.resL erL SV.ren1 SV.up SV.up2 Ob.up St.fzL cellIds partIds St.intoRow SV.ownId St.fz SV.fz1 St.prep St.mvL St.mv SV.re1 rnOk St.prEq vals eqCells scEq Value.kd St.prStr St.prCut cutR St.bnd St.prMin St.bld isShift outL retL outJ oR oC St.ev St.get St.put St.new St.kill SV.kill SV.kill1 Ob.kill St.app St.wrt St.rowsOf St.res St.killL lk er argsL SV.strip SV.need SV.share SV.share1 SV.owns SV.owns1 SV.owns2 SV.good SV.good1 SV.rok SV.rok1 SV.rok2 SV.isV SV.isV2 nodupN SV.cells SV.one SV.pur Ob.pb partsIn rowsIn splice cellsAt dstOk scal2 scal1 thenK blockK retK outK outs okC okL okA okT nilC nilL nilA nilT keepC keepL keepA keepT St.runG St.dltK St.least St.clean St.final St.hide offK badS badO SV.refs SV.leaf SV.leaf2 Ob.refs dlOk fpAt Go.Vc.cover tups SV.ofAgg St.out outC subL St.has rng wr Value.oneCell' Option.isSome_some Option.isSome_none List.nil_append Bool.false_eq_true List.map_cons List.map_nil List.all_cons List.all_nil List.length_cons List.length_nil List.drop_zero List.drop_succ_cons List.take_succ_cons List.take_zero List.drop_nil List.take_nil List.getElem?_cons_zero List.getElem?_cons_succ List.getElem?_nil List.cons_append List.nil_append List.append_nil List.append_assoc List.flatMap_cons List.flatMap_nil List.contains_cons List.contains_nil List.set_cons_zero List.set_cons_succ List.getElem?_toArray Option.getD_some Option.getD_none Option.map_some Option.map_none Option.bind_some Option.some.injEq Prod.mk.injEq if_true if_false true_and and_true and_self and_false false_and Bool.and_false Bool.false_and Bool.or_true Bool.true_or Bool.or_false Bool.false_or ne_eq not_true_eq_false not_false_eq_true decide_true decide_false List.mem_cons List.not_mem_nil List.filter_cons List.filter_nil List.any_cons List.any_nil List.isEmpty_nil List.isEmpty_cons Option.getD_none or_false false_or true_or or_true forall_eq_or_imp forall_eq reduceCtorEq exists_eq exists_eq' exists_eq_left' exists_eq_left exists_eq_right exists_eq_right' imp_self implies_true Bool.and_true Bool.true_and Bool.and_self beq_self_eq_true List.replicate_succ List.replicate_zero forall_const false_implies pickB_or pickB_and beqT beqF Int.toNat_natCast List.length_map List.length_replicate ge_iff_le gt_iff_lt decide_eq_true_eq decide_eq_false_iff_not Bool.and_eq_true Bool.or_eq_true Bool.not_eq_true' Bool.not_eq_false' condG List.toList_toArray Bool.or_eq_false_iff Bool.and_eq_false_iff Int.not_lt Int.not_le beq_iff_eq beq_eq_false_iff_ne bne_iff_ne bne_eq_false_iff_eq ne_eq Bool.not_true Bool.not_false exists_and_left
section
open Go.Vc
set_option linter.unusedSimpArgs false
set_option linter.unusedVariables false
set_option maxHeartbeats 1000000
set_option maxRecDepth 10000
attribute [local irreducible] Go.Vc.WP
attribute [local go_sem] cx0_t cx0_c
attribute [local go_sem] isV_Node isV_It isV_Entry decNode_enc decFrame_enc oneFrame_enc stkA oneFrame_ab oneNode_abc decI_enc decS_enc aU prA decEntry_enc St.ado St.adoptB St.adoptS rp isNil St.fzS addL behind
section
noncomputable def cxPfS : Cx := { P := Tryz.prog, tys := tys, C := [(85, kParseF), (78, kAddStack)], hty := tysOk, hC := COk.cons cParseFS (COk.cons cAddStackS (COk.nil _)) }
theorem cxPfS_t : cxPfS.tys = tys := rfl
theorem cxPfS_c : cxPfS.C = [(85, kParseF), (78, kAddStack)] := rfl
attribute [local go_sem] cxPfS_t cxPfS_c kParseF kAddStack
end
end
section
open Go.Vc
set_option linter.unusedSimpArgs false
set_option linter.unusedVariables false
set_option maxHeartbeats 1000000
set_option maxRecDepth 10000
attribute [local irreducible] Go.Vc.WP
attribute [local go_sem] cx0_t cx0_c
attribute [local go_sem] decNode_enc oneFrame_enc stkA oneFrame_ab oneNode_abc
def kStackAt : Ctr := pur (fun args => (stkA args 0, aI args 1)) (fun x => [.agg [.sl 3 (x.1.map encNode)], .v (.int .i64 x.2)]) (fun x => wfN x.1) (fun d _ => .own d) (fun d x => [(d, .sl 33 2 ((stackAt x.1 x.2).map encFrame))])
section
noncomputable def cxSaS : Cx := { P := Tryz.prog, tys := tys, C := [(77, kStOk)], hty := tysOk, hC := COk.cons cStOkS (COk.nil _) }
theorem cxSaS_t : cxSaS.tys = tys := rfl
theorem cxSaS_c : cxSaS.C = [(77, kStOk)] := rfl
attribute [local go_sem] cxSaS_t cxSaS_c kStOk
theorem cStackAtS : Cn Tryz.prog 84 kStackAt := by
  refine Cn.pur Tryz.func84 (by kernel_rfl) rfl fun d x hx => ?_
  obtain ⟨N, k⟩ := x
  simp only at hx ⊢
  have hN := hx.1
  refine Holds.go (c := cxSaS) Tryz.func84 rfl Tryz.results84 Tryz.ntmps84 (by omega) (by simp) rfl ?_
  intro X0 w0
  (repeat' (first | refine WP.seq ?_ | refine WP.block ?_ | ((first | refine WP.region ?_ | refine WP.condW ?_ | refine WP.ret ?_ | refine WP.exit ?_ | refine WP.skip ?_); simp only [go_sem, tyAll, Nat.reduceAdd, Nat.reduceLT, Nat.reduceLeDiff, Nat.reduceEqDiff, Nat.reduceMul, Nat.reduceSub, Nat.reduceGT, reduceIte, Int.reduceNeg, Int.reduceToNat]) |  refine And.intro ?_ ?_ | intro _))
  all_goals first | omega | exact hx.2 _ ‹_› | skip
  · rename_i h
    have he : stackAt N k = [] := if_neg (fun hc => by
      rcases h with h | h
      · rw [hc.1] at h; cases h
      · omega)
    rw [he]; (first | rfl | exact ⟨rfl, rfl⟩ | exact ⟨rfl, rfl, rfl⟩ | exact ⟨rfl, rfl, rfl, rfl⟩ | exact ⟨rfl, rfl, rfl, rfl, rfl⟩ | exact ⟨⟨rfl, rfl⟩, rfl⟩ | simp)
  rename_i hok'
  obtain ⟨hok, hkl⟩ := hok'
  by_cases hk0 : 0 ≤ k
  · refine WP.prep [] [(6, 5)] rfl ?_
    have hp : stackAt N k = (upF N (k.toNat + 1) k).reverse := if_pos ⟨hok, hk0, by omega⟩
    refine WP.loopP [] [(26, 5)] rfl (fun s : Int × Nat × List Frame => ⟨[(1, .v (.int .i64 s.1)), (2, .ptr 2 0 0 0), (5, .own 5)], [(2, .box 37 [.sl 3 (N.map encNode)]), (5, .sl 33 2 (s.2.2.map encFrame))]⟩)
      (fun s => -1 ≤ s.1 ∧ s.1 < N.length ∧ s.1 < s.2.1 ∧ (upF N s.2.1 s.1).reverse ++ s.2.2 = stackAt N k ∧ s.2.2.length + s.2.1 ≤ N.length) (fun s => (s.1 + 1).toNat) (k, k.toNat + 1, []) ⟨by simp only; omega, by simp only; omega, by simp only; omega, by simp [hp], by simp only [List.length_nil]; omega⟩ ?_ ?_
    · (simp only [go_sem, tyAll, Nat.reduceAdd, Nat.reduceLT, Nat.reduceLeDiff, Nat.reduceEqDiff, Nat.reduceMul, Nat.reduceSub, Nat.reduceGT, reduceIte, Int.reduceNeg, Int.reduceToNat] <;> (first | rfl | exact ⟨rfl, rfl⟩ | exact ⟨rfl, rfl, rfl⟩ | exact ⟨rfl, rfl, rfl, rfl⟩ | exact ⟨rfl, rfl, rfl, rfl, rfl⟩ | exact ⟨⟨rfl, rfl⟩, rfl⟩ | simp))
    rintro ⟨q, f, out⟩ ⟨h0, h1, h2, h3, h4⟩
    simp only at h0 h1 h2 h3 h4 ⊢
    rcases Int.lt_or_le q 0 with hneg | hpos
    · rw [upF_neg N f q hneg] at h3
      have h3 : out = stackAt N k := h3
      (repeat' (first | refine WP.seq ?_ | refine WP.block ?_ | ((first | refine WP.region ?_ | refine WP.condW ?_ | refine WP.ret ?_ | refine WP.exit ?_ | refine WP.skip ?_); simp only [go_sem, tyAll, Nat.reduceAdd, Nat.reduceLT, Nat.reduceLeDiff, Nat.reduceEqDiff, Nat.reduceMul, Nat.reduceSub, Nat.reduceGT, reduceIte, Int.reduceNeg, Int.reduceToNat]) |  refine And.intro ?_ ?_ | intro _))
      all_goals first | omega | skip
      all_goals rw [h3]
    · obtain ⟨q, rfl⟩ := Int.eq_ofNat_of_zero_le hpos
      have hq : q < N.length := by omega
      have h5 := rowAt_map encNode N q hq
      have h6 := stNode_iff.1 (stacksOk_at hok q hq)
      rw [upF_pos N f q hq (by omega)] at h3
      (repeat' (first | refine WP.seq ?_ | refine WP.block ?_ | ((first | refine WP.region ?_ | refine WP.condW ?_ | refine WP.ret ?_ | refine WP.exit ?_ | refine WP.skip ?_); simp only [go_sem, h5, encNode, tyAll, Nat.reduceAdd, Nat.reduceLT, Nat.reduceLeDiff, Nat.reduceEqDiff, Nat.reduceMul, Nat.reduceSub, Nat.reduceGT, reduceIte, Int.reduceNeg, Int.reduceToNat]) |  refine And.intro ?_ ?_ | intro _))
      all_goals first | omega | exact rlFrame ‹_› | skip
      exact ⟨(N[q].parent, f - 1, nodeFr N[q] :: out), ⟨by simp only; omega, by simp only; omega, by simp only; omega, by simp only; rw [← h3]; simp, by simp only [List.length_cons]; omega⟩, by simp only; omega, by (first | rfl | exact ⟨rfl, rfl⟩ | exact ⟨rfl, rfl, rfl⟩ | exact ⟨rfl, rfl, rfl, rfl⟩ | exact ⟨rfl, rfl, rfl, rfl, rfl⟩ | exact ⟨⟨rfl, rfl⟩, rfl⟩ | simp)⟩
  · have hp : stackAt N k = [] := if_neg fun hc => hk0 hc.2.1
    refine WP.loop (fun _ : Unit => ⟨[(1, .v (.int .i64 k)), (5, .own 6)], [(6, .sl 33 2 [])]⟩) (fun _ => True) (fun _ => 0) () trivial ?_ ?_
    · (simp only [go_sem, tyAll, Nat.reduceAdd, Nat.reduceLT, Nat.reduceLeDiff, Nat.reduceEqDiff, Nat.reduceMul, Nat.reduceSub, Nat.reduceGT, reduceIte, Int.reduceNeg, Int.reduceToNat] <;> (first | rfl | exact ⟨rfl, rfl⟩ | exact ⟨rfl, rfl, rfl⟩ | exact ⟨rfl, rfl, rfl, rfl⟩ | exact ⟨rfl, rfl, rfl, rfl, rfl⟩ | exact ⟨⟨rfl, rfl⟩, rfl⟩ | simp))
    intro _ _
    (repeat' (first | refine WP.seq ?_ | refine WP.block ?_ | ((first | refine WP.region ?_ | refine WP.condW ?_ | refine WP.ret ?_ | refine WP.exit ?_ | refine WP.skip ?_); simp only [go_sem, hp, tyAll, Nat.reduceAdd, Nat.reduceLT, Nat.reduceLeDiff, Nat.reduceEqDiff, Nat.reduceMul, Nat.reduceSub, Nat.reduceGT, reduceIte, Int.reduceNeg, Int.reduceToNat]) |  refine And.intro ?_ ?_ | intro _))
    all_goals first | omega | skip
end
section
noncomputable def cxSaI : Cx := { P := Tryz.prog, tys := tys, C := [(79, kStOk), (44, k60)], hty := tysOk, hC := COk.cons cStOkI (COk.cons c60 (COk.nil _)) }
theorem cxSaI_t : cxSaI.tys = tys := rfl
theorem cxSaI_c : cxSaI.C = [(79, kStOk), (44, k60)] := rfl
attribute [local go_sem] cxSaI_t cxSaI_c kStOk k60
theorem cStackAtI : Cn Tryz.prog 68 kStackAt := by
  refine Cn.pur Tryz.func68 (by kernel_rfl) rfl fun d x hx => ?_
  obtain ⟨N, k⟩ := x
  simp only at hx ⊢
  have hN := hx.1
  refine Holds.go (c := cxSaI) Tryz.func68 rfl Tryz.results68 Tryz.ntmps68 (by omega) (by simp) rfl ?_
  intro X0 w0
  (repeat' (first | refine WP.seq ?_ | refine WP.block ?_ | ((first | refine WP.region ?_ | refine WP.condW ?_ | refine WP.ret ?_ | refine WP.exit ?_ | refine WP.skip ?_); simp only [go_sem, tyAll, Nat.reduceAdd, Nat.reduceLT, Nat.reduceLeDiff, Nat.reduceEqDiff, Nat.reduceMul, Nat.reduceSub, Nat.reduceGT, reduceIte, Int.reduceNeg, Int.reduceToNat]) |  refine And.intro ?_ ?_ | intro _))
  all_goals first | omega | exact hx.2 _ ‹_› | skip
  · rename_i h
    have he : stackAt N k = [] := if_neg (fun hc => by
      rcases h with h | h
      · rw [hc.1] at h; cases h
      · omega)
    rw [he]; exact ⟨_, _, rfl⟩
  rename_i hok'
  obtain ⟨hok, hk0, hk1⟩ := hok'
  refine WP.prep [] [(18, 5)] rfl ?_
  have hp : stackAt N k = (upF N (k.toNat + 1) k).reverse := if_pos ⟨hok, hk0, by omega⟩
  refine WP.loopP [] [(33, 5)] rfl (fun s : Int × Nat × List Frame => ⟨[(1, .v (.int .i64 s.1)), (2, .ptr 2 0 0 0), (5, .own 5)], [(2, .box 37 [.sl 3 (N.map encNode)]), (5, .sl 33 2 (s.2.2.map encFrame))]⟩)
    (fun s => -1 ≤ s.1 ∧ s.1 < N.length ∧ s.1 < s.2.1 ∧ (upF N s.2.1 s.1).reverse ++ s.2.2 = stackAt N k ∧ s.2.2.length + s.2.1 ≤ N.length) (fun s => (s.1 + 1).toNat) (k, k.toNat + 1, []) ⟨by simp only; omega, by simp only; omega, by simp only; omega, by simp [hp], by simp only [List.length_nil]; omega⟩ ?_ ?_
  · (simp only [go_sem, tyAll, Nat.reduceAdd, Nat.reduceLT, Nat.reduceLeDiff, Nat.reduceEqDiff, Nat.reduceMul, Nat.reduceSub, Nat.reduceGT, reduceIte, Int.reduceNeg, Int.reduceToNat] <;> (first | rfl | exact ⟨rfl, rfl⟩ | exact ⟨rfl, rfl, rfl⟩ | exact ⟨rfl, rfl, rfl, rfl⟩ | exact ⟨rfl, rfl, rfl, rfl, rfl⟩ | exact ⟨⟨rfl, rfl⟩, rfl⟩ | simp))
  rintro ⟨q, f, out⟩ ⟨h0, h1, h2, h3, h4⟩
  simp only at h0 h1 h2 h3 h4 ⊢
  rcases Int.lt_or_le q 0 with hneg | hpos
  · rw [upF_neg N f q hneg] at h3
    have h3 : out = stackAt N k := h3
    (repeat' (first | refine WP.seq ?_ | refine WP.block ?_ | ((first | refine WP.region ?_ | refine WP.condW ?_ | refine WP.ret ?_ | refine WP.exit ?_ | refine WP.skip ?_); simp only [go_sem, tyAll, Nat.reduceAdd, Nat.reduceLT, Nat.reduceLeDiff, Nat.reduceEqDiff, Nat.reduceMul, Nat.reduceSub, Nat.reduceGT, reduceIte, Int.reduceNeg, Int.reduceToNat]) |  refine And.intro ?_ ?_ | intro _))
    all_goals first | omega | skip
    all_goals rw [h3]
  · obtain ⟨q, rfl⟩ := Int.eq_ofNat_of_zero_le hpos
    have hq : q < N.length := by omega
    have h5 := rowAt_map encNode N q hq
    have h6 := stNode_iff.1 (stacksOk_at hok q hq)
    rw [upF_pos N f q hq (by omega)] at h3
    (repeat' (first | refine WP.seq ?_ | refine WP.block ?_ | ((first | refine WP.region ?_ | refine WP.condW ?_ | refine WP.ret ?_ | refine WP.exit ?_ | refine WP.skip ?_); simp only [go_sem, h5, encNode, tyAll, Nat.reduceAdd, Nat.reduceLT, Nat.reduceLeDiff, Nat.reduceEqDiff, Nat.reduceMul, Nat.reduceSub, Nat.reduceGT, reduceIte, Int.reduceNeg, Int.reduceToNat]) |  refine And.intro ?_ ?_ | intro _))
    all_goals first | omega | exact rlFrame ‹_› | skip
    exact ⟨(N[q].parent, f - 1, nodeFr N[q] :: out), ⟨by simp only; omega, by simp only; omega, by simp only; omega, by simp only; rw [← h3]; simp, by simp only [List.length_cons]; omega⟩, by simp only; omega, by (first | rfl | exact ⟨rfl, rfl⟩ | exact ⟨rfl, rfl, rfl⟩ | exact ⟨rfl, rfl, rfl, rfl⟩ | exact ⟨rfl, rfl, rfl, rfl, rfl⟩ | exact ⟨⟨rfl, rfl⟩, rfl⟩ | simp)⟩
end
end
section
open Go.Vc
set_option linter.unusedSimpArgs false
set_option linter.unusedVariables false
set_option maxHeartbeats 1000000
set_option maxRecDepth 10000
attribute [local irreducible] Go.Vc.WP
attribute [local go_sem] cx0_t cx0_c
def fl23fde0757d : List Go.Vc.Fp := [⟨[1], [], [], [6, 30], [], []⟩, ⟨[27], [0], [], [6, 30], [], []⟩, ⟨[5], [], [], [6, 30], [], []⟩, ⟨[28, 29], [0, 1, 2], [], [6], [], [30]⟩, ⟨[30], [0, 1, 2, 3], [], [6], [], []⟩, ⟨[1], [], [], [6, 30], [], []⟩, ⟨[32], [5], [], [6, 30], [], []⟩, ⟨[5], [], [], [6, 30], [], []⟩, ⟨[33, 34], [5, 6, 7], [], [6, 30], [], []⟩, ⟨[35], [5, 6, 7, 8], [], [6, 30], [], []⟩, ⟨[31, 36], [0, 1, 2, 3, 4, 5, 6, 7, 8, 9], [], [6], [], []⟩, ⟨[], [], [], [30], [], [6]⟩, ⟨[], [0, 1, 2, 3, 4, 5, 6, 7, 8, 9, 10, 11], [], [], [], []⟩]
def fl1c6bae4db1 : List Go.Vc.Fp := [⟨[], [], [], [58, 60, 61], [], [54]⟩, ⟨[3], [], [], [54, 58, 60, 61], [], []⟩, ⟨[7], [], [], [54, 58, 60, 61], [], []⟩, ⟨[55, 56], [1, 2], [], [54, 58, 60, 61], [], []⟩, ⟨[54, 57], [0, 1, 2, 3], [], [60, 61], [54], [58]⟩, ⟨[6], [], [54], [54, 58, 60, 61], [], []⟩, ⟨[59], [5], [54], [54, 58, 61], [], [60]⟩, ⟨[58, 60], [0, 1, 2, 3, 4, 5, 6], [54], [], [58], [61]⟩, ⟨[3], [], [54, 58], [54, 58, 60, 61], [], []⟩, ⟨[7], [], [54, 58], [54, 58, 60, 61], [], []⟩, ⟨[62, 63], [8, 9], [54, 58], [54, 58, 60, 61], [], []⟩, ⟨[], [0, 1, 2, 3, 4, 5, 6, 7, 8, 9, 10], [], [], [], []⟩, ⟨[], [0, 1, 2, 3, 4, 5, 6, 7, 8, 9, 10, 11], [], [], [], []⟩]
attribute [local go_sem] fl23fde0757d fl1c6bae4db1
open Go.Pl
attribute [local go_sem] isV_Node isV_It isV_Entry decNode_enc decFrame_enc oneFrame_enc stkA oneFrame_ab oneNode_abc decI_enc decS_enc aU prA decEntry_enc St.ado St.adoptB St.adoptS rp isNil St.fzS
theorem ins_at {α : Type} {lt : α → α → Bool} {x : α} : ∀ {L : List α} {n : Nat}, n ≤ L.length → (∀ j (hj : j < L.length), j < n → lt L[j] x = true) → (∀ hn : n < L.length, lt L[n] x = false) → ins lt x L = L.take n ++ x :: L.drop n
  | [], n, h1, _, _ => by
    have : n = 0 := by simpa using h1
    subst this; rfl
  | y :: L, 0, _, _, h3 => by
    have := h3 (by simp)
    simp only [List.getElem_cons_zero] at this
    simp [ins, List.takeWhile, List.dropWhile, this]
  | y :: L, n + 1, h1, h2, h3 => by
    have hy := h2 0 (by simp) (by omega)
    simp only [List.getElem_cons_zero] at hy
    have ih := ins_at (lt := lt) (x := x) (L := L) (n := n) (by simpa using h1) (fun j hj hjn => h2 (j + 1) (Nat.succ_lt_succ hj) (by omega)) (fun hn => h3 (Nat.succ_lt_succ hn))
    unfold ins at ih ⊢
    simp only [List.takeWhile_cons, List.dropWhile_cons, hy, if_true, List.cons_append, List.take_succ_cons, List.drop_succ_cons, ih]
def wfQ (x : List Node × List Int) : Prop := (x.1.length ≤ 1099511627776 ∧ ∀ n ∈ x.1, n.name.size ≤ 4194304) ∧ x.2.length ≤ 1099511627776
def kEnt : Ctr := pur (fun args => prA args 0) (fun x => [.agg [.sl 3 (x.1.map encNode), .sl 1 (x.2.map encI)]]) wfQ (fun d _ => .own d) (fun d x => [(d, .sl 79 2 ((entriesOf x.1 x.2).map encEntry))])
theorem wfFr_at (N : List Node) (k : Int) : ∀ f ∈ stackAt N k, f.name.size ≤ 1099511627776 := fun f hf => by
  have h2 := (nameOk_letters (frOk_iff.1 (List.all_eq_true.1 (stackAt_ok N k) f hf)).1).2.2
  omega
/-- the entries found in the first k nodes, sorted -/
def entsK (N : List Node) (C : List Int) (k : Nat) : List Entry := insAll ltE (rawE N C k)
theorem entsK_len (N : List Node) (C : List Int) (k : Nat) : (entsK N C k).length ≤ k := by unfold entsK; rw [insAll_len]; exact rawE_len N C k
theorem entsK_zero (N : List Node) (C : List Int) : entsK N C 0 = [] := rfl
theorem entsK_skip {N : List Node} {C : List Int} {k : Nat} (hk : k < C.length) (h : C[k] = 0) : entsK N C (k + 1) = entsK N C k := by
  unfold entsK
  rw [rawE_succ, show entAt N C k = none from if_pos (by rw [List.getD_eq_getElem?_getD, List.getElem?_eq_getElem hk]; exact h)]
  simp
theorem entsK_new {N : List Node} {C : List Int} {k : Nat} (hk : k < C.length) (h : ¬ C[k] = 0) : entsK N C (k + 1) = ins ltE ⟨fmtF (stackAt N k), C[k]⟩ (entsK N C k) := by
  unfold entsK
  have e : C.getD k 0 = C[k] := by rw [List.getD_eq_getElem?_getD, List.getElem?_eq_getElem hk]; rfl
  rw [rawE_succ, show entAt N C k = some ⟨fmtF (stackAt N k), C[k]⟩ by unfold entAt; rw [e, if_neg h]]
  exact insAll_snoc _ _
section
noncomputable def cxEoS : Cx := { P := Tryz.prog, tys := tys, C := [(39, kPrOk), (84, kStackAt), (83, kFmtF)], hty := tysOk, hC := COk.cons cPrOkS (COk.cons cStackAtS (COk.cons cFmtFS (COk.nil _))) }
theorem cxEoS_t : cxEoS.tys = tys := rfl
theorem cxEoS_c : cxEoS.C = [(39, kPrOk), (84, kStackAt), (83, kFmtF)] := rfl
attribute [local go_sem] cxEoS_t cxEoS_c kPrOk kStackAt kFmtF
theorem cEntS : Cn Tryz.prog 49 kEnt := by
  refine Cn.pur Tryz.func49 (by kernel_rfl) rfl fun d x hx => ?_
  obtain ⟨N, C⟩ := x
  obtain ⟨⟨hN, hs⟩, hC⟩ := hx
  simp only at hN hs hC ⊢
  refine Holds.go (c := cxEoS) Tryz.func49 rfl Tryz.results49 Tryz.ntmps49 (by omega) (by simp) rfl ?_
  intro X0 w0
  (repeat' (first | refine WP.seq ?_ | refine WP.block ?_ | ((first | refine WP.region ?_ | refine WP.condW ?_ | refine WP.ret ?_ | refine WP.exit ?_ | refine WP.skip ?_); simp only [go_sem, tyAll, Nat.reduceAdd, Nat.reduceLT, Nat.reduceLeDiff, Nat.reduceEqDiff, Nat.reduceMul, Nat.reduceSub, Nat.reduceGT, reduceIte, Int.reduceNeg, Int.reduceToNat]) | ((first | refine WP.flowW 12 fl23fde0757d [6, 27, 28, 29, 30, 31, 32, 33, 34, 35, 36, 37] [6, 30] [] (by decide +kernel) (by kernel_rfl) (by kernel_rfl) (by kernel_rfl) ?_ | refine WP.flowZ [3] 11 fl1c6bae4db1 [54, 55, 56, 57, 58, 59, 60, 61, 62, 63, 64] [54, 58, 60, 61] [54, 58] (by decide +kernel) (by kernel_rfl) (by kernel_rfl) (by kernel_rfl) ?_ | refine WP.flowW 11 fl1c6bae4db1 [54, 55, 56, 57, 58, 59, 60, 61, 62, 63, 64] [54, 58, 60, 61] [54, 58] (by decide +kernel) (by kernel_rfl) (by kernel_rfl) (by kernel_rfl) ?_ | refine WP.drawW 14 (by decide +kernel) (by kernel_rfl) ?_); simp only [go_sem, tyAll, Nat.reduceAdd, Nat.reduceLT, Nat.reduceLeDiff, Nat.reduceEqDiff, Nat.reduceMul, Nat.reduceSub, Nat.reduceGT, reduceIte, Int.reduceNeg, Int.reduceToNat]) |  refine And.intro ?_ ?_ | intro _))
  all_goals first | omega | (simp only; omega) | exact Nat.le_trans (hs _ ‹_›) (by omega) | skip
  refine WP.prep [] [(8, 61)] rfl ?_
  refine WP.loop (fun k : Nat => ⟨[(1, .ptr 1 0 0 0), (3, .own 61), (4, .v (.bool (profileOk N C))), (5, .v (.int .i64 k))], [(1, .box 39 [.sl 3 (N.map encNode), .sl 1 (C.map encI)]), (61, .sl 79 2 ((entsK N C k).map encEntry))]⟩)
    (fun k => k ≤ C.length ∧ (profileOk N C = false → k = 0)) (fun k => C.length - k) 0 (by simp) ?_ ?_
  · (simp only [go_sem, tyAll, Nat.reduceAdd, Nat.reduceLT, Nat.reduceLeDiff, Nat.reduceEqDiff, Nat.reduceMul, Nat.reduceSub, Nat.reduceGT, reduceIte, Int.reduceNeg, Int.reduceToNat] <;> (first | rfl | exact ⟨rfl, rfl⟩ | exact ⟨rfl, rfl, rfl⟩ | exact ⟨rfl, rfl, rfl, rfl⟩ | exact ⟨rfl, rfl, rfl, rfl, rfl⟩ | exact ⟨⟨rfl, rfl⟩, rfl⟩ | simp))
  intro k ⟨hk, hk0⟩
  have hlen := entsK_len N C k
  cases hp : profileOk N C with
  | false =>
    have h0 := hk0 hp
    subst h0
    have he : entriesOf N C = [] := if_neg (by rw [hp]; simp)
    (repeat' (first | refine WP.seq ?_ | refine WP.block ?_ | ((first | refine WP.region ?_ | refine WP.condW ?_ | refine WP.ret ?_ | refine WP.exit ?_ | refine WP.skip ?_); simp only [go_sem, he, entsK_zero, tyAll, Nat.reduceAdd, Nat.reduceLT, Nat.reduceLeDiff, Nat.reduceEqDiff, Nat.reduceMul, Nat.reduceSub, Nat.reduceGT, reduceIte, Int.reduceNeg, Int.reduceToNat]) | ((first | refine WP.flowW 12 fl23fde0757d [6, 27, 28, 29, 30, 31, 32, 33, 34, 35, 36, 37] [6, 30] [] (by decide +kernel) (by kernel_rfl) (by kernel_rfl) (by kernel_rfl) ?_ | refine WP.flowZ [3] 11 fl1c6bae4db1 [54, 55, 56, 57, 58, 59, 60, 61, 62, 63, 64] [54, 58, 60, 61] [54, 58] (by decide +kernel) (by kernel_rfl) (by kernel_rfl) (by kernel_rfl) ?_ | refine WP.flowW 11 fl1c6bae4db1 [54, 55, 56, 57, 58, 59, 60, 61, 62, 63, 64] [54, 58, 60, 61] [54, 58] (by decide +kernel) (by kernel_rfl) (by kernel_rfl) (by kernel_rfl) ?_ | refine WP.drawW 14 (by decide +kernel) (by kernel_rfl) ?_); simp only [go_sem, he, entsK_zero, tyAll, Nat.reduceAdd, Nat.reduceLT, Nat.reduceLeDiff, Nat.reduceEqDiff, Nat.reduceMul, Nat.reduceSub, Nat.reduceGT, reduceIte, Int.reduceNeg, Int.reduceToNat]) |  refine And.intro ?_ ?_ | intro _))
    all_goals first | omega | skip
  | true =>
    by_cases hlt : k < C.length
    · have hli : (k : Int) < C.length := by omega
      have h1 := rowAt_map encI C k hlt
      by_cases hz : C[k] = 0
      · have hsk := entsK_skip (N := N) hlt hz
        (repeat' (first | refine WP.seq ?_ | refine WP.block ?_ | ((first | refine WP.region ?_ | refine WP.condW ?_ | refine WP.ret ?_ | refine WP.exit ?_ | refine WP.skip ?_); simp only [go_sem, hli, h1, encI, hz, tyAll, Nat.reduceAdd, Nat.reduceLT, Nat.reduceLeDiff, Nat.reduceEqDiff, Nat.reduceMul, Nat.reduceSub, Nat.reduceGT, reduceIte, Int.reduceNeg, Int.reduceToNat]) | ((first | refine WP.flowW 12 fl23fde0757d [6, 27, 28, 29, 30, 31, 32, 33, 34, 35, 36, 37] [6, 30] [] (by decide +kernel) (by kernel_rfl) (by kernel_rfl) (by kernel_rfl) ?_ | refine WP.flowZ [3] 11 fl1c6bae4db1 [54, 55, 56, 57, 58, 59, 60, 61, 62, 63, 64] [54, 58, 60, 61] [54, 58] (by decide +kernel) (by kernel_rfl) (by kernel_rfl) (by kernel_rfl) ?_ | refine WP.flowW 11 fl1c6bae4db1 [54, 55, 56, 57, 58, 59, 60, 61, 62, 63, 64] [54, 58, 60, 61] [54, 58] (by decide +kernel) (by kernel_rfl) (by kernel_rfl) (by kernel_rfl) ?_ | refine WP.drawW 14 (by decide +kernel) (by kernel_rfl) ?_); simp only [go_sem, hli, h1, encI, hz, tyAll, Nat.reduceAdd, Nat.reduceLT, Nat.reduceLeDiff, Nat.reduceEqDiff, Nat.reduceMul, Nat.reduceSub, Nat.reduceGT, reduceIte, Int.reduceNeg, Int.reduceToNat]) |  refine And.intro ?_ ?_ | intro _))
        all_goals first | omega | skip
        exact ⟨k + 1, by omega, by omega, rfl, by rw [hsk]⟩
      · have hnw := entsK_new (N := N) hlt hz
        have hfr := wfFr_at N k
        have hsl := stackAt_len N k
        (repeat' (first | refine WP.seq ?_ | refine WP.block ?_ | ((first | refine WP.region ?_ | refine WP.condW ?_ | refine WP.ret ?_ | refine WP.exit ?_ | refine WP.skip ?_); simp only [go_sem, hli, h1, encI, hz, tyAll, Nat.reduceAdd, Nat.reduceLT, Nat.reduceLeDiff, Nat.reduceEqDiff, Nat.reduceMul, Nat.reduceSub, Nat.reduceGT, reduceIte, Int.reduceNeg, Int.reduceToNat]) | ((first | refine WP.flowW 12 fl23fde0757d [6, 27, 28, 29, 30, 31, 32, 33, 34, 35, 36, 37] [6, 30] [] (by decide +kernel) (by kernel_rfl) (by kernel_rfl) (by kernel_rfl) ?_ | refine WP.flowZ [3] 11 fl1c6bae4db1 [54, 55, 56, 57, 58, 59, 60, 61, 62, 63, 64] [54, 58, 60, 61] [54, 58] (by decide +kernel) (by kernel_rfl) (by kernel_rfl) (by kernel_rfl) ?_ | refine WP.flowW 11 fl1c6bae4db1 [54, 55, 56, 57, 58, 59, 60, 61, 62, 63, 64] [54, 58, 60, 61] [54, 58] (by decide +kernel) (by kernel_rfl) (by kernel_rfl) (by kernel_rfl) ?_ | refine WP.drawW 14 (by decide +kernel) (by kernel_rfl) ?_); simp only [go_sem, hli, h1, encI, hz, tyAll, Nat.reduceAdd, Nat.reduceLT, Nat.reduceLeDiff, Nat.reduceEqDiff, Nat.reduceMul, Nat.reduceSub, Nat.reduceGT, reduceIte, Int.reduceNeg, Int.reduceToNat]) |  refine And.intro ?_ ?_ | intro _))
        all_goals first | omega | (simp only; omega) | exact Nat.le_trans (hs _ ‹_›) (by omega) | exact hfr _ ‹_› | exact ⟨_, _, _, rfl⟩ | skip
        refine WP.loop (fun q : Nat => ⟨[(1, .ptr 1 0 0 0), (3, .own 61), (4, .v (.bool true)), (5, .v (.int .i64 k)), (6, .ptr 6 0 0 0), (7, .v (.int .i64 q))],
          [(1, .box 39 [.sl 3 (N.map encNode), .sl 1 (C.map encI)]), (6, .box 79 [.v (.string (fmtF (stackAt N k))), .v (.int .i64 C[k])]), (61, .sl 79 2 ((entsK N C k).map encEntry))]⟩)
          (fun q => q ≤ (entsK N C k).length ∧ ∀ j (hj : j < (entsK N C k).length), j < q → ltE (entsK N C k)[j] ⟨fmtF (stackAt N k), C[k]⟩ = true) (fun q => (entsK N C k).length - q) 0 (by simp) ?_ ?_
        · (simp only [go_sem, tyAll, Nat.reduceAdd, Nat.reduceLT, Nat.reduceLeDiff, Nat.reduceEqDiff, Nat.reduceMul, Nat.reduceSub, Nat.reduceGT, reduceIte, Int.reduceNeg, Int.reduceToNat] <;> (first | rfl | exact ⟨rfl, rfl⟩ | exact ⟨rfl, rfl, rfl⟩ | exact ⟨rfl, rfl, rfl, rfl⟩ | exact ⟨rfl, rfl, rfl, rfl, rfl⟩ | exact ⟨⟨rfl, rfl⟩, rfl⟩ | simp))
        intro q ⟨hq, hf⟩
        by_cases hql : q < (entsK N C k).length
        · have hqi : (q : Int) < (entsK N C k).length := by omega
          have h2 := rowAt_map encEntry (entsK N C k) q hql
          cases hl : ltS (entsK N C k)[q].stack (fmtF (stackAt N k)) with
          | true =>
            (repeat' (first | refine WP.seq ?_ | refine WP.block ?_ | ((first | refine WP.region ?_ | refine WP.condW ?_ | refine WP.ret ?_ | refine WP.exit ?_ | refine WP.skip ?_); simp only [go_sem, hqi, h2, encEntry, ltS_def, hl, tyAll, Nat.reduceAdd, Nat.reduceLT, Nat.reduceLeDiff, Nat.reduceEqDiff, Nat.reduceMul, Nat.reduceSub, Nat.reduceGT, reduceIte, Int.reduceNeg, Int.reduceToNat]) | ((first | refine WP.flowW 12 fl23fde0757d [6, 27, 28, 29, 30, 31, 32, 33, 34, 35, 36, 37] [6, 30] [] (by decide +kernel) (by kernel_rfl) (by kernel_rfl) (by kernel_rfl) ?_ | refine WP.flowZ [3] 11 fl1c6bae4db1 [54, 55, 56, 57, 58, 59, 60, 61, 62, 63, 64] [54, 58, 60, 61] [54, 58] (by decide +kernel) (by kernel_rfl) (by kernel_rfl) (by kernel_rfl) ?_ | refine WP.flowW 11 fl1c6bae4db1 [54, 55, 56, 57, 58, 59, 60, 61, 62, 63, 64] [54, 58, 60, 61] [54, 58] (by decide +kernel) (by kernel_rfl) (by kernel_rfl) (by kernel_rfl) ?_ | refine WP.drawW 14 (by decide +kernel) (by kernel_rfl) ?_); simp only [go_sem, hqi, h2, encEntry, ltS_def, hl, tyAll, Nat.reduceAdd, Nat.reduceLT, Nat.reduceLeDiff, Nat.reduceEqDiff, Nat.reduceMul, Nat.reduceSub, Nat.reduceGT, reduceIte, Int.reduceNeg, Int.reduceToNat]) |  refine And.intro ?_ ?_ | intro _))
            all_goals first | omega | skip
            refine ⟨q + 1, ⟨by omega, fun j hj hjq => ?_⟩, by omega, by (first | rfl | exact ⟨rfl, rfl⟩ | exact ⟨rfl, rfl, rfl⟩ | exact ⟨rfl, rfl, rfl, rfl⟩ | exact ⟨rfl, rfl, rfl, rfl, rfl⟩ | exact ⟨⟨rfl, rfl⟩, rfl⟩ | simp)⟩
            rcases Nat.lt_or_ge j q with h | h
            · exact hf j hj h
            · have : j = q := by omega
              subst this; exact hl
          | false =>
            have hin := ins_at (lt := ltE) (x := ⟨fmtF (stackAt N k), C[k]⟩) hq hf (fun _ => hl)
            (repeat' (first | refine WP.seq ?_ | refine WP.block ?_ | ((first | refine WP.region ?_ | refine WP.condW ?_ | refine WP.ret ?_ | refine WP.exit ?_ | refine WP.skip ?_); simp only [go_sem, hqi, h2, encEntry, ltS_def, hl, tyAll, Nat.reduceAdd, Nat.reduceLT, Nat.reduceLeDiff, Nat.reduceEqDiff, Nat.reduceMul, Nat.reduceSub, Nat.reduceGT, reduceIte, Int.reduceNeg, Int.reduceToNat]) | ((first | refine WP.flowW 12 fl23fde0757d [6, 27, 28, 29, 30, 31, 32, 33, 34, 35, 36, 37] [6, 30] [] (by decide +kernel) (by kernel_rfl) (by kernel_rfl) (by kernel_rfl) ?_ | refine WP.flowZ [3] 11 fl1c6bae4db1 [54, 55, 56, 57, 58, 59, 60, 61, 62, 63, 64] [54, 58, 60, 61] [54, 58] (by decide +kernel) (by kernel_rfl) (by kernel_rfl) (by kernel_rfl) ?_ | refine WP.flowW 11 fl1c6bae4db1 [54, 55, 56, 57, 58, 59, 60, 61, 62, 63, 64] [54, 58, 60, 61] [54, 58] (by decide +kernel) (by kernel_rfl) (by kernel_rfl) (by kernel_rfl) ?_ | refine WP.drawW 14 (by decide +kernel) (by kernel_rfl) ?_); simp only [go_sem, hqi, h2, encEntry, ltS_def, hl, tyAll, Nat.reduceAdd, Nat.reduceLT, Nat.reduceLeDiff, Nat.reduceEqDiff, Nat.reduceMul, Nat.reduceSub, Nat.reduceGT, reduceIte, Int.reduceNeg, Int.reduceToNat]) |  refine And.intro ?_ ?_ | intro _))
            all_goals first | omega | exact rlEntry (List.mem_of_mem_take ‹_›) | exact rlEntry (List.mem_of_mem_drop ‹_›) | (simp only [List.length_append, List.length_take, List.length_drop, List.length_map, List.length_cons, List.length_nil]; omega) | skip
            exact ⟨k + 1, by omega, by omega, rfl, by rw [hnw, hin, List.map_append, List.map_cons, List.map_take, List.map_drop]; simp [encEntry]⟩
        · have hqe : ¬ (q : Int) < (entsK N C k).length := by omega
          have hin := ins_at (lt := ltE) (x := ⟨fmtF (stackAt N k), C[k]⟩) hq hf (fun h => absurd h hql)
          have hr0 : Go.Vc.rowAt ((entsK N C k).map encEntry) q = [] := by unfold Go.Vc.rowAt; rw [List.getElem?_eq_none (by rw [List.length_map]; omega)]; rfl
          (repeat' (first | refine WP.seq ?_ | refine WP.block ?_ | ((first | refine WP.region ?_ | refine WP.condW ?_ | refine WP.ret ?_ | refine WP.exit ?_ | refine WP.skip ?_); simp only [go_sem, hqe, hr0, tyAll, Nat.reduceAdd, Nat.reduceLT, Nat.reduceLeDiff, Nat.reduceEqDiff, Nat.reduceMul, Nat.reduceSub, Nat.reduceGT, reduceIte, Int.reduceNeg, Int.reduceToNat]) | ((first | refine WP.flowW 12 fl23fde0757d [6, 27, 28, 29, 30, 31, 32, 33, 34, 35, 36, 37] [6, 30] [] (by decide +kernel) (by kernel_rfl) (by kernel_rfl) (by kernel_rfl) ?_ | refine WP.flowZ [3] 11 fl1c6bae4db1 [54, 55, 56, 57, 58, 59, 60, 61, 62, 63, 64] [54, 58, 60, 61] [54, 58] (by decide +kernel) (by kernel_rfl) (by kernel_rfl) (by kernel_rfl) ?_ | refine WP.flowW 11 fl1c6bae4db1 [54, 55, 56, 57, 58, 59, 60, 61, 62, 63, 64] [54, 58, 60, 61] [54, 58] (by decide +kernel) (by kernel_rfl) (by kernel_rfl) (by kernel_rfl) ?_ | refine WP.drawW 14 (by decide +kernel) (by kernel_rfl) ?_); simp only [go_sem, hqe, hr0, tyAll, Nat.reduceAdd, Nat.reduceLT, Nat.reduceLeDiff, Nat.reduceEqDiff, Nat.reduceMul, Nat.reduceSub, Nat.reduceGT, reduceIte, Int.reduceNeg, Int.reduceToNat]) |  refine And.intro ?_ ?_ | intro _))
          all_goals first | omega | exact rlEntry (List.mem_of_mem_take ‹_›) | exact rlEntry (List.mem_of_mem_drop ‹_›) | (simp only [List.length_append, List.length_take, List.length_drop, List.length_map, List.length_cons, List.length_nil]; omega) | skip
          exact ⟨k + 1, by omega, by omega, rfl, by rw [hnw, hin, List.map_append, List.map_cons, List.map_take, List.map_drop]; simp [encEntry]⟩
    · have hge : ¬ (k : Int) < C.length := by omega
      have he : entriesOf N C = entsK N C C.length := if_pos hp
      (repeat' (first | refine WP.seq ?_ | refine WP.block ?_ | ((first | refine WP.region ?_ | refine WP.condW ?_ | refine WP.ret ?_ | refine WP.exit ?_ | refine WP.skip ?_); simp only [go_sem, hge, he, tyAll, Nat.reduceAdd, Nat.reduceLT, Nat.reduceLeDiff, Nat.reduceEqDiff, Nat.reduceMul, Nat.reduceSub, Nat.reduceGT, reduceIte, Int.reduceNeg, Int.reduceToNat]) | ((first | refine WP.flowW 12 fl23fde0757d [6, 27, 28, 29, 30, 31, 32, 33, 34, 35, 36, 37] [6, 30] [] (by decide +kernel) (by kernel_rfl) (by kernel_rfl) (by kernel_rfl) ?_ | refine WP.flowZ [3] 11 fl1c6bae4db1 [54, 55, 56, 57, 58, 59, 60, 61, 62, 63, 64] [54, 58, 60, 61] [54, 58] (by decide +kernel) (by kernel_rfl) (by kernel_rfl) (by kernel_rfl) ?_ | refine WP.flowW 11 fl1c6bae4db1 [54, 55, 56, 57, 58, 59, 60, 61, 62, 63, 64] [54, 58, 60, 61] [54, 58] (by decide +kernel) (by kernel_rfl) (by kernel_rfl) (by kernel_rfl) ?_ | refine WP.drawW 14 (by decide +kernel) (by kernel_rfl) ?_); simp only [go_sem, hge, he, tyAll, Nat.reduceAdd, Nat.reduceLT, Nat.reduceLeDiff, Nat.reduceEqDiff, Nat.reduceMul, Nat.reduceSub, Nat.reduceGT, reduceIte, Int.reduceNeg, Int.reduceToNat]) |  refine And.intro ?_ ?_ | intro _))
      all_goals first | omega | skip
      rw [show k = C.length by omega]
end
end
end Go.Proofs.YtahcfcimfcjhhaaGreatDoor
/-
  DERIVED. A list that a call hands back as its own, taken as one that may only be read.
-/
namespace Go.Vc
set_option linter.unusedVariables false
def allV (rows : List (List SV)) : Prop := ∀ row ∈ rows, ∀ c ∈ row, ∃ x, c = .v x
theorem ObR.toSl {w : World} {X X' : Nat → Prop} {β : Nat → Value} {v : Value} {e s : Nat} {rows : List (List SV)} (h : ObR w X' β v (.sl e s rows)) (hX : ∀ b, blk v = some b → ¬ X b) (hv : allV rows) : Rp w X (.sl s rows) v := by
  cases h with
  | nil e s h => subst h; exact .nil s _ _
  | sl b cap cur us hv' hh h1 h2 h3 h4 h5 h6 h7 =>
    subst hv'
    refine .sl b 0 cap us (hX b rfl) (lt_of_heap hh) h1 h4 (fun i k row c hr hc => ?_) h6 (fun i k row c hr hc => ?_)
    · simp only [World.cell?, hh, Nat.zero_add]
      exact h5 i k row c hr hc
    · obtain ⟨x, rfl⟩ := hv row (List.mem_of_getElem? hr) c (List.mem_of_getElem? hc)
      have := h7 i k row _ hr hc
      cases this
      exact .v _
section
variable {P : Program} {f : FuncId} {args : List SV} {d e s : Nat} {rows : List (List SV)}
theorem Holds.frozen (h : Holds P f args (.own d) [(d, .sl e s rows)]) (hv : allV rows) : Holds P f args (.sl s rows) [] := by
  intro w X vs hG hX hl ha
  refine (h w X vs hG hX hl ha).mono fun en w' ⟨v, β, he, hb, hβ, hR, hO, hn⟩ => ?_
  refine ⟨v, β, he, hb, hβ, ?_, ⟨fun id ob hi => (by cases hi), fun i j oi oj b hi => (by cases hi)⟩, fun id ob b hi => (by cases hi)⟩
  have := hR.own_inv; subst this
  refine .p ((hO.1 d (.sl e s rows) (by simp [lk])).toSl (fun b hb' hx => ?_) hv)
  have h1 := hn d (.sl e s rows) b (by simp [lk]) hb'
  rcases hx with hx | ⟨i, o, hi, _⟩
  · have := hX b hx; omega
  · cases hi
theorem Holds.frozenT {y : Value} (h : Holds P f args (.tup [.own d, .v y]) [(d, .sl e s rows)]) (hv : allV rows) : Holds P f args (.tup [.sl s rows, .v y]) [] := by
  intro w X vs hG hX hl ha
  refine (h w X vs hG hX hl ha).mono fun en w' ⟨v, β, he, hb, hβ, hR, hO, hn⟩ => ?_
  refine ⟨v, β, he, hb, hβ, ?_, ⟨fun id ob hi => (by cases hi), fun i j oi oj b hi => (by cases hi)⟩, fun id ob b hi => (by cases hi)⟩
  obtain ⟨us, rfl, hul, hh⟩ := hR.tup_inv
  refine .tup hul fun k c u hc hu => ?_
  match k, hc with
  | 0, hc =>
    simp at hc; subst hc
    have := (hh 0 _ u rfl hu).own_inv
    subst this
    refine .p ((hO.1 d (.sl e s rows) (by simp [lk])).toSl (fun b hb' hx => ?_) hv)
    have h1 := hn d (.sl e s rows) b (by simp [lk]) hb'
    rcases hx with hx | ⟨i, o, hi, _⟩
    · have := hX b hx; omega
    · cases hi
  | 1, hc =>
    simp at hc; subst hc
    have := (hh 1 _ u rfl hu).v_inv
    subst this; exact .p (.v _)
  | k + 2, hc => simp at hc
end
/-- the same of a struct of two lists -/
theorem Holds.frozenA {P : Program} {f : FuncId} {args : List SV} {d1 d2 e1 s1 e2 s2 : Nat} {rows1 rows2 : List (List SV)} (hd : d1 ≠ d2) (h : Holds P f args (.agg [.own d1, .own d2]) [(d1, .sl e1 s1 rows1), (d2, .sl e2 s2 rows2)]) (hv1 : allV rows1) (hv2 : allV rows2) : Holds P f args (.agg [.sl s1 rows1, .sl s2 rows2]) [] := by
  intro w X vs hG hX hl ha
  refine (h w X vs hG hX hl ha).mono fun en w' ⟨v, β, he, hb, hβ, hR, hO, hn⟩ => ?_
  refine ⟨v, β, he, hb, hβ, ?_, ⟨fun id ob hi => (by cases hi), fun i j oi oj b hi => (by cases hi)⟩, fun id ob b hi => (by cases hi)⟩
  obtain ⟨us, rfl, hul, hh⟩ := hR.agg_inv
  have l1 : lk d1 [(d1, Ob.sl e1 s1 rows1), (d2, .sl e2 s2 rows2)] = some (.sl e1 s1 rows1) := by simp [lk]
  have l2 : lk d2 [(d1, Ob.sl e1 s1 rows1), (d2, .sl e2 s2 rows2)] = some (.sl e2 s2 rows2) := by simp [lk, Ne.symm hd]
  have key : ∀ {d e s : Nat} {rows : List (List SV)}, lk d [(d1, Ob.sl e1 s1 rows1), (d2, .sl e2 s2 rows2)] = some (.sl e s rows) → allV rows → R w' (XX X β []) β (.sl s rows) (β d) := fun {d e s rows} hl hv => by
    refine .p ((hO.1 d _ hl).toSl (fun b hb' hx => ?_) hv)
    have h1 := hn d _ b hl hb'
    rcases hx with hx | ⟨i, o, hi, _⟩
    · have := hX b hx; omega
    · cases hi
  refine .agg hul fun k c u hc hu => ?_
  match k, hc with
  | 0, hc =>
    simp at hc; subst hc
    have := (hh 0 _ u rfl hu).own_inv
    subst this; exact key l1 hv1
  | 1, hc =>
    simp at hc; subst hc
    have := (hh 1 _ u rfl hu).own_inv
    subst this; exact key l2 hv2
  | k + 2, hc => simp at hc
theorem Cn.frozenA {P : Program} {f : FuncId} {X : Type} {dec : List SV → X} {A : X → List SV} {pre : X → Prop} {e1 s1 e2 s2 : Nat} {rows1 rows2 : X → List (List SV)} (hv1 : ∀ x, allV (rows1 x)) (hv2 : ∀ x, allV (rows2 x))
    (h : Cn P f (Go.Vc.pur dec A pre (fun d _ => .agg [.own d, .own (d + 1000)]) (fun d x => [(d, .sl e1 s1 (rows1 x)), (d + 1000, .sl e2 s2 (rows2 x))]))) : Cn P f (Go.Vc.pur dec A pre (fun _ x => .agg [.sl s1 (rows1 x), .sl s2 (rows2 x)]) (fun _ _ => [])) :=
  ⟨h.call, fun d args ha => (h.holds d args ha).frozenA (by omega) (hv1 _) (hv2 _), fun _ _ _ h => h.elim⟩
theorem Cn.frozen {P : Program} {f : FuncId} {X : Type} {dec : List SV → X} {A : X → List SV} {pre : X → Prop} {e s : Nat} {rows : X → List (List SV)} (hv : ∀ x, allV (rows x))
    (h : Cn P f (Go.Vc.pur dec A pre (fun d _ => .own d) (fun d x => [(d, .sl e s (rows x))]))) : Cn P f (Go.Vc.pur dec A pre (fun _ x => .sl s (rows x)) (fun _ _ => [])) :=
  ⟨h.call, fun d args ha => (h.holds d args ha).frozen (hv _), fun _ _ _ h => h.elim⟩
theorem Cn.frozenT {P : Program} {f : FuncId} {X : Type} {dec : List SV → X} {A : X → List SV} {pre : X → Prop} {e s : Nat} {rows : X → List (List SV)} {y : X → Value} (hv : ∀ x, allV (rows x))
    (h : Cn P f (Go.Vc.pur dec A pre (fun d x => .tup [.own d, .v (y x)]) (fun d x => [(d, .sl e s (rows x))]))) : Cn P f (Go.Vc.pur dec A pre (fun _ x => .tup [.sl s (rows x), .v (y x)]) (fun _ _ => [])) :=
  ⟨h.call, fun d args ha => (h.holds d args ha).frozenT (hv _), fun _ _ _ h => h.elim⟩
end Go.Vc

/-
  DERIVED. Plain lists: which entries of a profile are kept, and as what; what the totals are.
-/
namespace Go.Proofs.YtahcfcimfcjhhaaGreatDoor
set_option linter.unusedVariables false
open Go.Pl

def hasName (s : ByteArray) (f : Frame) : Bool := decide (f.name = s)
def idxF (s : ByteArray) (L : List Frame) : Int := firstIdx (hasName s) L
def frsE (e : Entry) : List Frame := (parseF e.stack).getD []
def mapG (g : List Frame → List Frame) (e : Entry) : Option Entry := if g (frsE e) = [] then none else some ⟨fmtF (g (frsE e)), e.count⟩
def keepS (s : ByteArray) (b : Bool) (e : Entry) : Bool := decide (0 ≤ idxF s (frsE e)) == b
def pick (s : ByteArray) (b : Bool) (L : List Frame) : List Frame := if (decide (0 ≤ idxF s L) == b) = true then L else []
def mapP (g : List Frame → List Frame) (N : List Node) (C : List Int) : List Node × List Int := (profileOf ((entriesOf N C).filterMap (mapG g))).getD ([], [])
theorem pick_len (s : ByteArray) (b : Bool) (L : List Frame) : (pick s b L).length ≤ L.length := by
  unfold pick
  split <;> simp
theorem ent_frs {N : List Node} {C : List Int} {e : Entry} (h : e ∈ entriesOf N C) : frsE e ≠ [] ∧ fmtF (frsE e) = e.stack ∧ (frsE e).all frOk = true ∧ (frsE e).length ≤ N.length ∧ parseF e.stack = some (frsE e) := by
  obtain ⟨k, hk, h1, h2, h3⟩ := entriesOf_parse h
  have : frsE e = stackAt N k := by unfold frsE; rw [h2]; rfl
  rw [this]; exact ⟨h3, h1.symm, stackAt_ok N k, stackAt_len N k, h2⟩
theorem fm_filter {g : List Frame → List Frame} {p : Entry → Bool} : ∀ {L : List Entry}, (∀ e ∈ L, mapG g e = if p e = true then some e else none) → L.filterMap (mapG g) = L.filter p
  | [], _ => rfl
  | e :: L, h => by
    have ih := fm_filter (L := L) fun x hx => h x (List.mem_cons_of_mem _ hx)
    rw [List.filterMap_cons, h e List.mem_cons_self, List.filter_cons, ih]
    cases p e <;> rfl
theorem pick_mapG {N : List Node} {C : List Int} {s : ByteArray} {b : Bool} {e : Entry} (h : e ∈ entriesOf N C) : mapG (pick s b) e = if keepS s b e = true then some e else none := by
  obtain ⟨h1, h2, _⟩ := ent_frs h
  unfold mapG pick keepS
  by_cases hk : (decide (0 ≤ idxF s (frsE e)) == b) = true
  · simp only [if_pos hk]
    rw [if_neg h1, h2]
  · simp only [if_neg hk]
    first | done | rfl | simp
theorem pick_list (N : List Node) (C : List Int) (s : ByteArray) (b : Bool) : (entriesOf N C).filterMap (mapG (pick s b)) = (entriesOf N C).filter (keepS s b) :=
  fm_filter fun e he => pick_mapG he
theorem fm_succ {α β : Type} (g : α → Option β) {L : List α} {k : Nat} (h : k < L.length) : (L.take (k + 1)).filterMap g = (L.take k).filterMap g ++ (g L[k]).toList := by
  rw [List.take_succ_eq_append_getElem h, List.filterMap_append]
  congr 1
  all_goals (cases hg : g L[k] <;> simp [hg])
theorem fl_succ {α : Type} (p : α → Bool) {L : List α} {k : Nat} (h : k < L.length) : (L.take (k + 1)).filter p = (L.take k).filter p ++ (if p L[k] = true then [L[k]] else []) := by
  rw [List.take_succ_eq_append_getElem h, List.filter_append]
  congr 1
  all_goals (cases hg : p L[k] <;> simp [hg])
theorem mp_succ {α β : Type} (f : α → β) {L : List α} {k : Nat} (h : k < L.length) : (L.take (k + 1)).map f = (L.take k).map f ++ [f L[k]] := by
  rw [List.take_succ_eq_append_getElem h, List.map_append]; rfl

/-! ## interning keeps what is right -/
theorem firstIdx_neg {α : Type} {p : α → Bool} {L : List α} (h : firstIdx p L < 0) : ∀ x ∈ L, p x = false := by
  unfold firstIdx at h
  split at h
  · omega
  · rename_i hn
    intro x hx
    have := List.findIdx?_eq_none_iff.1 hn x hx
    simpa using this
theorem stacksOk_snoc {N : List Node} {p : Int} {f : Frame} (h : stacksOk N = true) (hp : -1 ≤ p) (hq : p < N.length) (hf : frOk f = true) (hc : child N p f < 0) : stacksOk (N ++ [mkNode p f]) = true := by
  refine stacksOk_all fun k hk => ?_
  simp only [List.length_append, List.length_cons, List.length_nil] at hk
  rcases Nat.lt_or_ge k N.length with h1 | h1
  · have := stacksOk_at h k h1
    unfold stNode at this ⊢
    rw [List.getElem_append_left h1, List.take_append_of_le_length (by omega)]
    exact this
  · obtain rfl : k = N.length := by omega
    rw [List.getElem_append_right (by omega)]
    simp only [Nat.sub_self, List.getElem_cons_zero]
    refine stNode_iff.2 ⟨hp, by simp only [mkNode]; omega, hf, fun y hy he => ?_⟩
    rw [List.take_append_of_le_length (by omega), List.take_length] at hy
    have := firstIdx_neg hc y hy
    rw [he] at this
    simp [hitNode, mkNode, nodeFr] at this
theorem intGo_ok : ∀ (L : List Frame) (s : List Node × Int), stacksOk s.1 = true → L.all frOk = true → -1 ≤ s.2 → s.2 < s.1.length → stacksOk (intGo L s).1 = true
  | [], s, h, _, _, _ => h
  | f :: L, s, h, ha, h1, h2 => by
    simp only [List.all_cons, Bool.and_eq_true] at ha
    have hb := child_bound s.1 s.2 f
    rw [intGo]
    split
    · rename_i hc
      exact intGo_ok L _ (stacksOk_snoc h h1 h2 ha.1 hc) ha.2 (by simp only; omega) (by simp only [List.length_append, List.length_cons, List.length_nil]; omega)
    · exact intGo_ok L _ h ha.2 hb.1 hb.2
theorem intern_ok {N : List Node} {L : List Frame} (h : stacksOk N = true) : stacksOk (intern N L).1 = true := by
  unfold intern
  split
  · rename_i hh
    exact intGo_ok L (N, -1) h hh.2.2 (by simp only; omega) (by simp only; omega)
  · exact h
theorem intern_pos {N : List Node} {L : List Frame} (h : stacksOk N = true) (hL : L ≠ []) (ha : L.all frOk = true) : 0 ≤ (intern N L).2 ∧ (intern N L).2 < (intern N L).1.length := by
  unfold intern
  rw [if_pos ⟨h, hL, ha⟩]
  exact intGo_at L (N, -1) fun e => absurd e hL

/-! ## sums -/
theorem sum_set : ∀ {C : List Int} {k : Nat} (n : Int), k < C.length → (C.set k (C.getD k 0 + n)).sum = C.sum + n
  | x :: C, 0, n, _ => by simp; omega
  | x :: C, k + 1, n, h => by
    have := sum_set (C := C) (k := k) n (by simpa using h)
    simp only [List.set_cons_succ, List.sum_cons, List.getD_cons_succ]
    rw [this]; omega
theorem sum_nonneg : ∀ {C : List Int}, (∀ x ∈ C, 0 ≤ x) → 0 ≤ C.sum
  | [], _ => by simp
  | x :: C, h => by
    have := sum_nonneg (C := C) fun y hy => h y (List.mem_cons_of_mem _ hy)
    have := h x List.mem_cons_self
    simp only [List.sum_cons]; omega
theorem sum_rep (n : Nat) : (List.replicate n (0 : Int)).sum = 0 := by
  induction n with
  | zero => rfl
  | succ n ih => rw [List.replicate_succ, List.sum_cons, ih]; rfl
theorem cntOk_total {C : List Int} (h0 : ∀ x ∈ C, 0 ≤ x) (ht : C.sum ≤ 1000000000000) : cntOk C = true := by
  unfold cntOk
  refine decide_eq_true fun k hk => ⟨h0 _ (List.getElem_mem hk), ?_⟩
  have h1 := take_sum C k hk
  have h2 : C.sum = (C.take (k + 1)).sum + (C.drop (k + 1)).sum := by rw [← List.sum_append, List.take_append_drop]
  have h3 : 0 ≤ (C.drop (k + 1)).sum := sum_nonneg fun x hx => h0 x (List.mem_of_mem_drop hx)
  omega
theorem cntOk_nonneg {C : List Int} (h : cntOk C = true) : ∀ x ∈ C, 0 ≤ x := fun x hx => by
  obtain ⟨k, hk, rfl⟩ := List.mem_iff_getElem.1 hx
  exact (cntOk_at h k hk).1
theorem addC_sum {C : List Int} {m k : Nat} (n : Int) (hk : k < max C.length m) : (addC C m k n).sum = C.sum + n := by
  unfold addC
  rw [sum_set n (by simp only [List.length_append, List.length_replicate]; omega), List.sum_append, sum_rep]; omega
theorem mem_set' {α : Type} {L : List α} {k : Nat} {x y : α} (h : y ∈ L.set k x) : y = x ∨ y ∈ L := by
  rcases List.mem_or_eq_of_mem_set h with h | h
  · exact .inr h
  · exact .inl h
theorem addC_nonneg {C : List Int} {m k : Nat} {n : Int} (h0 : ∀ x ∈ C, 0 ≤ x) (hn : 0 ≤ n) : ∀ x ∈ addC C m k n, 0 ≤ x := by
  have hD : ∀ x ∈ C ++ List.replicate (m - C.length) (0 : Int), 0 ≤ x := fun x hx => by
    rcases List.mem_append.1 hx with h | h
    · exact h0 x h
    · rw [List.mem_replicate] at h; omega
  intro x hx
  unfold addC at hx
  rcases mem_set' hx with h | h
  · rw [h]
    have : 0 ≤ (C ++ List.replicate (m - C.length) (0 : Int)).getD k 0 := by
      rw [List.getD_eq_getElem?_getD]
      cases hg : (C ++ List.replicate (m - C.length) (0 : Int))[k]? with
      | none => simp
      | some y => exact hD y (List.mem_of_getElem? hg)
    omega
  · exact hD x h
theorem addStack_total {N : List Node} {C : List Int} {L : List Frame} {n : Int} (hp : profileOk N C = true) (hL : L ≠ []) (ha : L.all frOk = true) (h0 : 0 ≤ n) (hs : C.sum + n ≤ 1000000000000) :
    (addStack N C L n).2 = true ∧ (addStack N C L n).1.2.sum = C.sum + n ∧ profileOk (addStack N C L n).1.1 (addStack N C L n).1.2 = true := by
  obtain ⟨p1, p2, p3⟩ := profileOk_iff.1 hp
  have hn := cntOk_nonneg p3
  have hC0 := sum_nonneg hn
  obtain ⟨i0, i1⟩ := intern_pos (N := N) p1 hL ha
  have il := (intern_len N L).1
  have hk : (intern N L).2.toNat < max C.length (intern N L).1.length := by omega
  have hsum := addC_sum (C := C) (m := (intern N L).1.length) n hk
  have hok : profileOk (intern N L).1 (addC C (intern N L).1.length (intern N L).2.toNat n) = true :=
    profileOk_iff.2 ⟨intern_ok p1, by rw [addC_len]; omega, cntOk_total (addC_nonneg hn h0) (by rw [hsum]; exact hs)⟩
  have hcond : profileOk N C = true ∧ 0 ≤ n ∧ n ≤ 1000000000000 ∧ 0 ≤ (intern N L).2 ∧ profileOk (intern N L).1 (addC C (intern N L).1.length (intern N L).2.toNat n) = true := ⟨hp, h0, by omega, i0, hok⟩
  unfold addStack
  rw [if_pos hcond]
  exact ⟨rfl, hsum, hok⟩
def sumE (L : List Entry) : Int := (L.map (·.count)).sum
theorem profGo_total : ∀ (L : List Entry) (s : List Node × List Int), profileOk s.1 s.2 = true → (∀ e ∈ L, frsE e ≠ [] ∧ (frsE e).all frOk = true ∧ parseF e.stack = some (frsE e) ∧ 0 ≤ e.count) → s.2.sum + sumE L ≤ 1000000000000 →
    ∃ t, profGo L s = some t ∧ profileOk t.1 t.2 = true ∧ t.2.sum = s.2.sum + sumE L
  | [], s, h, _, _ => ⟨s, rfl, h, by simp [sumE]⟩
  | e :: L, s, h, he, hs => by
    obtain ⟨e1, e2, e3, e4⟩ := he e List.mem_cons_self
    have hL : 0 ≤ sumE L := sum_nonneg fun x hx => by
      obtain ⟨y, hy, rfl⟩ := List.mem_map.1 hx
      exact (he y (List.mem_cons_of_mem _ hy)).2.2.2
    have hc : sumE (e :: L) = e.count + sumE L := by simp [sumE]
    obtain ⟨a1, a2, a3⟩ := addStack_total (n := e.count) h e1 e2 e4 (by omega)
    obtain ⟨t, t1, t2, t3⟩ := profGo_total L _ a3 (fun x hx => he x (List.mem_cons_of_mem _ hx)) (by rw [a2]; omega)
    exact ⟨t, by rw [profGo_ok e3 a1]; exact t1, t2, by rw [t3, a2]; omega⟩
theorem nilOk : profileOk [] [] = true := by decide
theorem profileOf_total {L : List Entry} (he : ∀ e ∈ L, frsE e ≠ [] ∧ (frsE e).all frOk = true ∧ parseF e.stack = some (frsE e) ∧ 0 ≤ e.count) (hs : sumE L ≤ 1000000000000) :
    ∃ t, profileOf L = some t ∧ profileOk t.1 t.2 = true ∧ t.2.sum = sumE L := by
  obtain ⟨t, h1, h2, h3⟩ := profGo_total L ([], []) nilOk he (by simpa using hs)
  exact ⟨t, h1, h2, by simpa using h3⟩
theorem perm_sum {L M : List Int} (h : L.Perm M) : L.sum = M.sum := by
  induction h with
  | nil => rfl
  | cons x _ ih => simp only [List.sum_cons, ih]
  | swap x y l => simp only [List.sum_cons]; omega
  | trans _ _ h1 h2 => exact h1.trans h2
theorem rawE_sum (N : List Node) (C : List Int) : ∀ n, n ≤ C.length → sumE (rawE N C n) = (C.take n).sum
  | 0, _ => by simp [rawE_zero, sumE]
  | n + 1, h => by
    have ih := rawE_sum N C n (by omega)
    rw [rawE_succ, take_sum C n h, ← ih]
    have e : C.getD n 0 = C[n] := by rw [List.getD_eq_getElem?_getD, List.getElem?_eq_getElem h]; rfl
    unfold entAt
    rw [e]
    split
    · rename_i h0; simp [sumE, h0]
    · simp [sumE]
theorem sumE_entries (N : List Node) (C : List Int) : sumE (entriesOf N C) = totalOf N C := by
  unfold entriesOf totalOf
  split
  · have h1 : ((insAll ltE (rawE N C C.length)).map (·.count)).Perm ((rawE N C C.length).map (·.count)) := (insAll_perm _).map _
    have h2 := perm_sum h1
    have h3 := rawE_sum N C C.length (Nat.le_refl _)
    rw [List.take_length] at h3
    unfold sumE at h3 ⊢
    rw [h2, h3]
  · rfl
theorem sum_filter_le {p : Entry → Bool} : ∀ {L : List Entry}, (∀ e ∈ L, 0 ≤ e.count) → 0 ≤ sumE (L.filter p) ∧ sumE (L.filter p) ≤ sumE L
  | [], _ => by simp [sumE]
  | e :: L, h => by
    obtain ⟨h1, h2⟩ := sum_filter_le (p := p) (L := L) fun x hx => h x (List.mem_cons_of_mem _ hx)
    have h3 := h e List.mem_cons_self
    have hc : sumE (e :: L) = e.count + sumE L := by simp [sumE]
    rw [List.filter_cons]
    split
    · have hd : sumE (e :: L.filter p) = e.count + sumE (L.filter p) := by simp [sumE]
      omega
    · omega
theorem totalOf_bound (N : List Node) (C : List Int) : 0 ≤ totalOf N C ∧ totalOf N C ≤ 1000000000000 := by
  unfold totalOf
  split
  · rename_i h
    have := profileOk_sum h C.length (Nat.le_refl _)
    rw [List.take_length] at this
    exact this
  · omega
theorem filter_total (N : List Node) (C : List Int) (p : Entry → Bool) : ∃ t, profileOf ((entriesOf N C).filter p) = some t ∧ profileOk t.1 t.2 = true ∧ t.2.sum = sumE ((entriesOf N C).filter p) := by
  have hp : ∀ e ∈ entriesOf N C, 0 ≤ e.count := fun e he => by obtain ⟨_, k, _, _, _, h, _⟩ := entriesOf_mem he; omega
  refine profileOf_total (fun e he => ?_) ?_
  · have hm := (List.mem_filter.1 he).1
    obtain ⟨h1, _, h2, _, h3⟩ := ent_frs hm
    exact ⟨h1, h2, h3, hp e hm⟩
  · have h1 := (sum_filter_le (p := p) hp).2
    rw [sumE_entries] at h1
    have := totalOf_bound N C
    omega
theorem filter_totalOf (N : List Node) (C : List Int) (p : Entry → Bool) : totalOf ((profileOf ((entriesOf N C).filter p)).getD ([], [])).1 ((profileOf ((entriesOf N C).filter p)).getD ([], [])).2 = sumE ((entriesOf N C).filter p) := by
  obtain ⟨t, h1, h2, h3⟩ := filter_total N C p
  rw [h1]
  simp only [Option.getD_some]
  unfold totalOf
  rw [if_pos h2, h3]
/-! ## the first frames -/
def topF (n : Int) (L : List Frame) : List Frame := L.take n.toNat
theorem topF_len (n : Int) (L : List Frame) : (topF n L).length ≤ L.length := by
  unfold topF; rw [List.length_take]; omega
def topE (n : Int) (e : Entry) : Entry := ⟨fmtF (topF n (frsE e)), e.count⟩
theorem top_list (N : List Node) (C : List Int) {n : Int} (hn : 1 ≤ n) : (entriesOf N C).filterMap (mapG (topF n)) = (entriesOf N C).map (topE n) := by
  have : ∀ L : List Entry, (∀ e ∈ L, e ∈ entriesOf N C) → L.filterMap (mapG (topF n)) = L.map (topE n) := by
    intro L
    induction L with
    | nil => intro _; rfl
    | cons e L ih =>
      intro h
      have h1 := (ent_frs (h e List.mem_cons_self)).1
      have h2 : topF n (frsE e) ≠ [] := by
        unfold topF
        cases hf : frsE e with
        | nil => exact absurd hf h1
        | cons a b =>
          obtain ⟨m, hm⟩ : ∃ m, n.toNat = m + 1 := ⟨n.toNat - 1, by omega⟩
          rw [hm, List.take_succ_cons]; simp
      rw [List.filterMap_cons, List.map_cons, ih fun x hx => h x (List.mem_cons_of_mem _ hx)]
      unfold mapG
      rw [if_neg h2]
      rfl
  exact this _ fun _ h => h
/-! ## how large a profile becomes -/
theorem profGo_len {B : Nat} : ∀ (L : List Entry) (s : List Node × List Int) (m : Nat), (∀ e ∈ L, ∀ f, parseF e.stack = some f → f.length ≤ B) → s.1.length ≤ m → s.2.length ≤ m → ∀ t, profGo L s = some t → t.1.length ≤ m + B * L.length ∧ t.2.length ≤ m + B * L.length
  | [], s, m, _, h1, h2, t, ht => by
    rw [profGo] at ht
    cases ht
    simp only [List.length_nil, Nat.mul_zero, Nat.add_zero]
    exact ⟨h1, h2⟩
  | e :: L, s, m, he, h1, h2, t, ht => by
    cases hp : parseF e.stack with
    | none => rw [profGo_no hp] at ht; cases ht
    | some f =>
      cases hb : (addStack s.1 s.2 f e.count).2 with
      | false => rw [profGo_bad hp hb] at ht; cases ht
      | true =>
        rw [profGo_ok hp hb] at ht
        have h3 := he e List.mem_cons_self f hp
        have h4 := addStack_len s.1 s.2 f e.count
        have h5 := profGo_len L _ (m + B) (fun x hx => he x (List.mem_cons_of_mem _ hx)) (by omega) (by omega) t ht
        simp only [List.length_cons, Nat.mul_add, Nat.mul_one]
        omega
end Go.Proofs.YtahcfcimfcjhhaaGreatDoor

namespace Go.Proofs.YtahcfcimfcjhhaaGreatDoor
open Go.Vc
attribute [local go_sem] St.runR St.runW St.stepV offV St.step St.stepU St.stepG mkCond guardB St.prK St.pr St.prLen St.eff St.callE St.callD St.callF St.callL aI aB aS aR aC St.isM St.argL Ctr.pure Ctr.lend Ctr.move Ctr.isL Ctr.wri pur len lentBy St.lentV St.lent1 nthS argsR restOf obsR pairs swapL unObs backL St.resL erL SV.ren1 SV.up SV.up2 Ob.up St.fzL cellIds partIds St.intoRow SV.ownId St.fz SV.fz1 St.prep St.mvL St.mv SV.re1 rnOk St.prEq vals eqCells scEq Value.kd St.prStr St.prCut cutR St.bnd St.prMin St.bld isShift outL retL outJ oR oC St.ev St.get St.put St.new St.kill SV.kill SV.kill1 Ob.kill St.app St.wrt St.rowsOf St.res St.killL lk er argsL SV.strip SV.need SV.share SV.share1 SV.owns SV.owns1 SV.owns2 SV.good SV.good1 SV.rok SV.rok1 SV.rok2 SV.isV SV.isV2 nodupN SV.cells SV.one SV.pur Ob.pb partsIn rowsIn splice cellsAt dstOk scal2 scal1 thenK blockK retK outK outs okC okL okA okT nilC nilL nilA nilT keepC keepL keepA keepT St.runG St.dltK St.least St.clean St.final St.hide offK badS badO SV.refs SV.leaf SV.leaf2 Ob.refs dlOk fpAt Go.Vc.cover tups SV.ofAgg St.out outC subL St.has rng wr Value.oneCell' Option.isSome_some Option.isSome_none List.nil_append Bool.false_eq_true List.map_cons List.map_nil List.all_cons List.all_nil List.length_cons List.length_nil List.drop_zero List.drop_succ_cons List.take_succ_cons List.take_zero List.drop_nil List.take_nil List.getElem?_cons_zero List.getElem?_cons_succ List.getElem?_nil List.cons_append List.nil_append List.append_nil List.append_assoc List.flatMap_cons List.flatMap_nil List.contains_cons List.contains_nil List.set_cons_zero List.set_cons_succ List.getElem?_toArray Option.getD_some Option.getD_none Option.map_some Option.map_none Option.bind_some Option.some.injEq Prod.mk.injEq if_true if_false true_and and_true and_self and_false false_and Bool.and_false Bool.false_and Bool.or_true Bool.true_or Bool.or_false Bool.false_or ne_eq not_true_eq_false not_false_eq_true decide_true decide_false List.mem_cons List.not_mem_nil List.filter_cons List.filter_nil List.any_cons List.any_nil List.isEmpty_nil List.isEmpty_cons Option.getD_none or_false false_or true_or or_true forall_eq_or_imp forall_eq reduceCtorEq exists_eq exists_eq' exists_eq_left' exists_eq_left exists_eq_right exists_eq_right' imp_self implies_true Bool.and_true Bool.true_and Bool.and_self beq_self_eq_true List.replicate_succ List.replicate_zero forall_const false_implies pickB_or pickB_and beqT beqF Int.toNat_natCast List.length_map List.length_replicate ge_iff_le gt_iff_lt decide_eq_true_eq decide_eq_false_iff_not Bool.and_eq_true Bool.or_eq_true Bool.not_eq_true' Bool.not_eq_false' condG List.toList_toArray Bool.or_eq_false_iff Bool.and_eq_false_iff Int.not_lt Int.not_le beq_iff_eq beq_eq_false_iff_ne bne_iff_ne bne_eq_false_iff_eq ne_eq Bool.not_true Bool.not_false exists_and_left
section
open Go.Vc
set_option linter.unusedSimpArgs false
set_option linter.unusedVariables false
set_option maxHeartbeats 1000000
set_option maxRecDepth 10000
attribute [local irreducible] Go.Vc.WP
attribute [local go_sem] cx0_t cx0_c
attribute [local go_sem] isV_Node isV_It isV_Entry decNode_enc decFrame_enc oneFrame_enc stkA oneFrame_ab oneNode_abc decI_enc decS_enc aU prA decEntry_enc St.fzS addL behind
theorem allV_map {α : Type} {en : α → List SV} (h : ∀ x, ∀ c ∈ en x, ∃ v, c = .v v) (L : List α) : allV (L.map en) := fun row hr c hc => by
  obtain ⟨x, _, rfl⟩ := List.mem_map.1 hr
  exact h x c hc
theorem allV_Frame (L : List Frame) : allV (L.map encFrame) := allV_map (fun x c hc => by
  simp only [encFrame, List.mem_cons, List.not_mem_nil, or_false] at hc
  rcases hc with rfl | rfl <;> exact ⟨_, rfl⟩) L
theorem allV_Entry (L : List Entry) : allV (L.map encEntry) := allV_map (fun x c hc => by
  simp only [encEntry, List.mem_cons, List.not_mem_nil, or_false] at hc
  rcases hc with rfl | rfl <;> exact ⟨_, rfl⟩) L
/-- what is parsed, to be read only -/
def kParseZ : Ctr := pur (fun args => aS args 0) (fun s => [.v (.string s)]) (fun s => s.size ≤ 2147483648) (fun _ s => .tup [.sl 2 (((parseF s).getD []).map encFrame), .v (.bool (parseF s).isSome)]) (fun _ _ => [])
theorem cParseZS : Cn Tryz.prog 85 kParseZ := Cn.frozenT (fun s => allV_Frame _) cParseFS
def kEntZ : Ctr := pur (fun args => prA args 0) (fun x => [.agg [.sl 3 (x.1.map encNode), .sl 1 (x.2.map encI)]]) wfQ (fun _ x => .sl 2 ((entriesOf x.1 x.2).map encEntry)) (fun _ _ => [])
theorem cEntZS : Cn Tryz.prog 49 kEntZ := Cn.frozen (fun s => allV_Entry _) cEntS
def kIdxF : Ctr := pur (fun args => (decFrame (aR args 0), aS args 1)) (fun x => [.sl 2 (x.1.map encFrame), .v (.string x.2)]) (fun x => x.1.length ≤ 4398046511104) (fun _ x => .v (.int .i64 (idxF x.2 x.1))) (fun _ _ => [])
section
noncomputable def cxIxS : Cx := { P := Tryz.prog, tys := tys, C := [], hty := tysOk, hC := COk.nil _ }
theorem cxIxS_t : cxIxS.tys = tys := rfl
theorem cxIxS_c : cxIxS.C = [] := rfl
attribute [local go_sem] cxIxS_t cxIxS_c 
end
/-- what is known of the entries of a profile -/
theorem ent_sizes {N : List Node} {C : List Int} (hN : N.length ≤ 1048576) {e : Entry} (h : e ∈ entriesOf N C) : e.stack.size ≤ 12582912 ∧ (frsE e).length ≤ 1048576 ∧ ∀ f ∈ frsE e, f.name.size ≤ 8 := by
  have h1 := entriesOf_size h
  obtain ⟨_, _, _, h2, h3⟩ := ent_frs h
  have h4 := (parseF_small h3).2
  exact ⟨by omega, by omega, h4⟩
theorem wfE_filter {N : List Node} {C : List Int} (hN : N.length ≤ 1048576) (hC : C.length ≤ 1048576) (p : Entry → Bool) : wfE ((entriesOf N C).filter p) := by
  have h1 := entriesOf_len N C
  have h2 := List.length_filter_le p (entriesOf N C)
  refine ⟨by omega, fun e he => (ent_sizes hN ((List.mem_filter.1 he).1)).1⟩
theorem wfE_map {N : List Node} {C : List Int} (hN : N.length ≤ 1048576) (hC : C.length ≤ 1048576) {g : List Frame → List Frame} (hg : ∀ L, (g L).length ≤ L.length) : wfE ((entriesOf N C).filterMap (mapG g)) := by
  have h1 := entriesOf_len N C
  have h2 := List.length_filterMap_le (mapG g) (entriesOf N C)
  refine ⟨by omega, fun e he => ?_⟩
  obtain ⟨x, hx, hm⟩ := List.mem_filterMap.1 he
  unfold mapG at hm
  split at hm
  · cases hm
  · cases hm
    have h3 := fmtF_size (g (frsE x))
    have h4 := hg (frsE x)
    have h5 := (ent_sizes hN hx).2.1
    simp only; omega
def pR (d : Nat) : SV := .agg [.own d, .own (d + 1000)]
def kKeep : Ctr := pur (fun args => (prA args 0, aS args 1, aB args 2)) (fun x => [.agg [.sl 3 (x.1.1.map encNode), .sl 1 (x.1.2.map encI)], .v (.string x.2.1), .v (.bool x.2.2)])
  (fun x => (x.1.1.length ≤ 1048576 ∧ ∀ n ∈ x.1.1, n.name.size ≤ 1048576) ∧ x.1.2.length ≤ 1048576) (fun d _ => .agg [.own d, .own (d + 1000)])
  (fun d x => [(d, .sl 132 3 ((mapP (pick x.2.1 x.2.2) x.1.1 x.1.2).1.map encNode)), (d + 1000, .sl 3 1 ((mapP (pick x.2.1 x.2.2) x.1.1 x.1.2).2.map encI))])
section
noncomputable def cxKpS : Cx := { P := Tryz.prog, tys := tys, C := [(49, kEntZ), (85, kParseZ)], hty := tysOk, hC := COk.cons cEntZS (COk.cons cParseZS (COk.nil _)) }
theorem cxKpS_t : cxKpS.tys = tys := rfl
theorem cxKpS_c : cxKpS.C = [(49, kEntZ), (85, kParseZ)] := rfl
attribute [local go_sem] cxKpS_t cxKpS_c kEntZ kParseZ
end
def kFocT : Ctr := pur (fun args => (prA args 0, aS args 1)) (fun x => [.agg [.sl 3 (x.1.1.map encNode), .sl 1 (x.1.2.map encI)], .v (.string x.2)])
  (fun x => (x.1.1.length ≤ 1048576 ∧ ∀ n ∈ x.1.1, n.name.size ≤ 1048576) ∧ x.1.2.length ≤ 1048576) (fun d _ => .agg [.own d, .own (d + 1000)])
  (fun d x => [(d, .sl 132 3 ((mapP (pick x.2 true) x.1.1 x.1.2).1.map encNode)), (d + 1000, .sl 3 1 ((mapP (pick x.2 true) x.1.1 x.1.2).2.map encI))])
def kFocF : Ctr := pur (fun args => (prA args 0, aS args 1)) (fun x => [.agg [.sl 3 (x.1.1.map encNode), .sl 1 (x.1.2.map encI)], .v (.string x.2)])
  (fun x => (x.1.1.length ≤ 1048576 ∧ ∀ n ∈ x.1.1, n.name.size ≤ 1048576) ∧ x.1.2.length ≤ 1048576) (fun d _ => .agg [.own d, .own (d + 1000)])
  (fun d x => [(d, .sl 132 3 ((mapP (pick x.2 false) x.1.1 x.1.2).1.map encNode)), (d + 1000, .sl 3 1 ((mapP (pick x.2 false) x.1.1 x.1.2).2.map encI))])
section
noncomputable def cxFoS : Cx := { P := Tryz.prog, tys := tys, C := [], hty := tysOk, hC := COk.nil _ }
theorem cxFoS_t : cxFoS.tys = tys := rfl
theorem cxFoS_c : cxFoS.C = [] := rfl
attribute [local go_sem] cxFoS_t cxFoS_c 
end
def topP (n : Int) (N : List Node) (C : List Int) : List Node × List Int := if n < 1 then ([], []) else mapP (topF n) N C
def kTop : Ctr := pur (fun args => (prA args 0, aI args 1)) (fun x => [.agg [.sl 3 (x.1.1.map encNode), .sl 1 (x.1.2.map encI)], .v (.int .i64 x.2)])
  (fun x => (x.1.1.length ≤ 1048576 ∧ ∀ n ∈ x.1.1, n.name.size ≤ 1048576) ∧ x.1.2.length ≤ 1048576) (fun d _ => .agg [.own d, .own (d + 1000)])
  (fun d x => [(d, .sl 132 3 ((topP x.2 x.1.1 x.1.2).1.map encNode)), (d + 1000, .sl 3 1 ((topP x.2 x.1.1 x.1.2).2.map encI))])
theorem take_min (n : Int) (L : List Frame) : L.take (if (L.length : Int) < n then (L.length : Int) else n).toNat = topF n L := by
  unfold topF
  split
  · rw [Int.toNat_natCast, List.take_length, List.take_of_length_le (by omega)]
  · rfl
theorem take_enc (m : Nat) (L : List Frame) : (L.map encFrame).take m = (L.take m).map encFrame := List.map_take.symm
theorem wfFr_top {N : List Node} {C : List Int} (hN : N.length ≤ 1048576) {e : Entry} (h : e ∈ entriesOf N C) (n : Int) : ∀ f ∈ topF n (frsE e), f.name.size ≤ 1099511627776 := fun f hf => by
  have := (ent_sizes hN h).2.2 f (List.mem_of_mem_take hf)
  omega
section
noncomputable def cxTpS : Cx := { P := Tryz.prog, tys := tys, C := [(49, kEntZ), (85, kParseZ), (83, kFmtF)], hty := tysOk, hC := COk.cons cEntZS (COk.cons cParseZS (COk.cons cFmtFS (COk.nil _))) }
theorem cxTpS_t : cxTpS.tys = tys := rfl
theorem cxTpS_c : cxTpS.C = [(49, kEntZ), (85, kParseZ), (83, kFmtF)] := rfl
attribute [local go_sem] cxTpS_t cxTpS_c kEntZ kParseZ kFmtF
end
end
section
open Go.Vc
set_option linter.unusedSimpArgs false
set_option linter.unusedVariables false
set_option maxHeartbeats 1000000
set_option maxRecDepth 10000
attribute [local irreducible] Go.Vc.WP
attribute [local go_sem] cx0_t cx0_c
attribute [local go_sem] decFrame_enc oneFrame_enc capS
theorem oneFrame_ab' (a : ByteArray) (b : Int) : oneFrame [.v (.string a), .v (.int .i64 b)] = ⟨a, b⟩ := rfl
attribute [local go_sem] oneFrame_ab'
def kNamed1 : Ctr := pur (fun args => (oneFrame (aC args 0), capS args 1)) (fun x => [.agg (encFrame x.1), .rptr 1 [[.v (.string x.2)]] 0 0]) (fun _ => True) (fun _ x => .v (.bool (hasName x.2 x.1))) (fun _ _ => [])
section
noncomputable def cxNm1 : Cx := { P := Tryz.prog, tys := tys, C := [], hty := tysOk, hC := COk.nil _ }
theorem cxNm1_t : cxNm1.tys = tys := rfl
theorem cxNm1_c : cxNm1.C = [] := rfl
attribute [local go_sem] cxNm1_t cxNm1_c 
theorem cNamed1 : Cn Tryz.prog 76 kNamed1 := by
  refine Cn.pur Tryz.func76 (by kernel_rfl) rfl fun d x hx => ?_
  obtain ⟨x, s⟩ := x
  refine Holds.go (c := cxNm1) Tryz.func76 rfl Tryz.results76 Tryz.ntmps76 (by omega) (by simp) rfl ?_
  intro X0 w0
  have hr : Go.Vc.rowAt [[SV.v (Value.string s)]] 0 = [SV.v (Value.string s)] := rfl
  simp only [encFrame]
  (repeat' (first | refine WP.seq ?_ | refine WP.block ?_ | ((first | refine WP.region ?_ | refine WP.condW ?_ | refine WP.ret ?_ | refine WP.exit ?_ | refine WP.skip ?_); simp only [go_sem, hr, hasName, tyAll, Nat.reduceAdd, Nat.reduceLT, Nat.reduceLeDiff, Nat.reduceEqDiff, Nat.reduceMul, Nat.reduceSub, Nat.reduceGT, reduceIte, Int.reduceNeg, Int.reduceToNat]) |  refine And.intro ?_ ?_ | intro _))
  all_goals first | omega | skip
end
def kIdxFr : Ctr := pur (fun args => (decFrame (aR args 0), capS args 1)) (fun x => [.sl 2 (x.1.map encFrame), .fn 76 [.rptr 1 [[.v (.string x.2)]] 0 0]]) (fun x => x.1.length ≤ 4398046511104)
  (fun _ x => .v (.int .i64 (idxF x.2 x.1))) (fun _ _ => [])
section
noncomputable def cxNm2 : Cx := { P := Tryz.prog, tys := tys, C := [(76, kNamed1)], hty := tysOk, hC := COk.cons cNamed1 (COk.nil _) }
theorem cxNm2_t : cxNm2.tys = tys := rfl
theorem cxNm2_c : cxNm2.C = [(76, kNamed1)] := rfl
attribute [local go_sem] cxNm2_t cxNm2_c kNamed1
theorem cIdxFr : Cn Tryz.prog 75 kIdxFr := by
  refine Cn.pur Tryz.func75 (by kernel_rfl) rfl fun d x hx => ?_
  obtain ⟨L, s⟩ := x
  simp only at hx ⊢
  refine Holds.go (c := cxNm2) Tryz.func75 rfl Tryz.results75 Tryz.ntmps75 (by omega) (by simp) rfl ?_
  intro X0 w0
  (repeat' (first | refine WP.seq ?_ | refine WP.block ?_ | ((first | refine WP.region ?_ | refine WP.condW ?_ | refine WP.ret ?_ | refine WP.exit ?_ | refine WP.skip ?_); simp only [go_sem, tyAll, Nat.reduceAdd, Nat.reduceLT, Nat.reduceLeDiff, Nat.reduceEqDiff, Nat.reduceMul, Nat.reduceSub, Nat.reduceGT, reduceIte, Int.reduceNeg, Int.reduceToNat]) |  refine And.intro ?_ ?_ | intro _))
  refine WP.loop (fun k : Nat => ⟨[(0, .sl 2 (L.map encFrame)), (1, .fn 76 [.rptr 1 [[.v (.string s)]] 0 0]), (7, .v (.int .i64 L.length)), (8, .v (.int .i64 k))], []⟩)
    (fun k => k ≤ L.length ∧ ∀ i (hi : i < L.length), i < k → hasName s L[i] = false) (fun k => L.length - k) 0 (by simp) ?_ ?_
  · (simp only [go_sem, tyAll, Nat.reduceAdd, Nat.reduceLT, Nat.reduceLeDiff, Nat.reduceEqDiff, Nat.reduceMul, Nat.reduceSub, Nat.reduceGT, reduceIte, Int.reduceNeg, Int.reduceToNat] <;> (first | rfl | exact ⟨rfl, rfl⟩ | exact ⟨rfl, rfl, rfl⟩ | exact ⟨rfl, rfl, rfl, rfl⟩ | exact ⟨rfl, rfl, rfl, rfl, rfl⟩ | exact ⟨⟨rfl, rfl⟩, rfl⟩ | simp))
  intro k ⟨hk, hf⟩
  by_cases hlt : k < L.length
  · have hli : (k : Int) < L.length := by omega
    have h1 := rowAt_map encFrame L k hlt
    (repeat' (first | refine WP.seq ?_ | refine WP.block ?_ | ((first | refine WP.region ?_ | refine WP.condW ?_ | refine WP.ret ?_ | refine WP.exit ?_ | refine WP.skip ?_); simp only [go_sem, hli, h1, encFrame, tyAll, Nat.reduceAdd, Nat.reduceLT, Nat.reduceLeDiff, Nat.reduceEqDiff, Nat.reduceMul, Nat.reduceSub, Nat.reduceGT, reduceIte, Int.reduceNeg, Int.reduceToNat]) |  refine And.intro ?_ ?_ | intro _))
    all_goals first | omega | skip
    · rename_i hh
      rw [show idxF s L = k from firstIdx_hit (p := hasName s) hlt hf (by first | exact hh | simpa [hasName] using hh)]
    · rename_i hh
      refine ⟨k + 1, ⟨by omega, fun i hi hik => ?_⟩, by omega, rfl⟩
      rcases Nat.lt_or_ge i k with h | h
      · exact hf i hi h
      · have : i = k := by omega
        subst this
        first | exact hh | simpa [hasName] using hh
  · have hge : ¬ (k : Int) < L.length := by omega
    (repeat' (first | refine WP.seq ?_ | refine WP.block ?_ | ((first | refine WP.region ?_ | refine WP.condW ?_ | refine WP.ret ?_ | refine WP.exit ?_ | refine WP.skip ?_); simp only [go_sem, hge, tyAll, Nat.reduceAdd, Nat.reduceLT, Nat.reduceLeDiff, Nat.reduceEqDiff, Nat.reduceMul, Nat.reduceSub, Nat.reduceGT, reduceIte, Int.reduceNeg, Int.reduceToNat]) |  refine And.intro ?_ ?_ | intro _))
    all_goals first | omega | skip
    rw [show idxF s L = -1 from firstIdx_none fun i hi => hf i hi (by omega)]
end
def kNamed : Ctr := pur (fun args => (decFrame (aR args 0), aS args 1)) (fun x => [.sl 2 (x.1.map encFrame), .v (.string x.2)]) (fun x => x.1.length ≤ 4398046511104) (fun _ x => .v (.int .i64 (idxF x.2 x.1))) (fun _ _ => [])
section
noncomputable def cxNm3 : Cx := { P := Tryz.prog, tys := tys, C := [(75, kIdxFr)], hty := tysOk, hC := COk.cons cIdxFr (COk.nil _) }
theorem cxNm3_t : cxNm3.tys = tys := rfl
theorem cxNm3_c : cxNm3.C = [(75, kIdxFr)] := rfl
attribute [local go_sem] cxNm3_t cxNm3_c kIdxFr
theorem cNamed : Cn Tryz.prog 38 kNamed := by
  refine Cn.pur Tryz.func38 (by kernel_rfl) rfl fun d x hx => ?_
  obtain ⟨L, s⟩ := x
  simp only at hx ⊢
  refine Holds.go (c := cxNm3) Tryz.func38 rfl Tryz.results38 Tryz.ntmps38 (by omega) (by simp) rfl ?_
  intro X0 w0
  (repeat' (first | refine WP.seq ?_ | refine WP.block ?_ | ((first | refine WP.region ?_ | refine WP.condW ?_ | refine WP.ret ?_ | refine WP.exit ?_ | refine WP.skip ?_); simp only [go_sem, tyAll, Nat.reduceAdd, Nat.reduceLT, Nat.reduceLeDiff, Nat.reduceEqDiff, Nat.reduceMul, Nat.reduceSub, Nat.reduceGT, reduceIte, Int.reduceNeg, Int.reduceToNat]) |  refine And.intro ?_ ?_ | intro _))
  all_goals first | omega | skip
end
end
end Go.Proofs.YtahcfcimfcjhhaaGreatDoor
/-
  DERIVED. The library's contracts, laid at this program: tables of numbers. Printed by the kit's tools (lay.py).
-/
namespace Go.Proofs
open Go.Shelf
def Tryz.lSlF06_69_ren : Go.Shelf.Ren := ⟨fun | 6 => 69 | 15 => 96 | 14 => 95 | 28 => 123 | 29 => 124 | 20 => 115 | 21 => 116 | 22 => 117 | 23 => 118 | 24 => 119 | 25 => 120 | 26 => 121 | 27 => 122 | 46 => 148 | 47 => 149 | 48 => 150 | 49 => 151 | 50 => 152 | 57 => 167 | n => n, fun | 22 => 76 | 24 => 79 | 25 => 113 | 3 => 3 | 39 => 128 | 0 => 0 | 53 => 162 | 55 => 164 | 4 => 4 | 46 => 156 | 45 => 155 | 50 => 117 | 5 => 5 | 9 => 9 | 66 => 177 | 70 => 181 | 76 => 193 | 77 => 194 | n => n, fun | n => n⟩
theorem Tryz.lSlF06_69 : Go.Proofs.SlLaysF0.n6 Tryz.prog Tryz.lSlF06_69_ren := {
  mixed := by kernel_rfl
  f6 := ⟨Tryz.f69.name, by decide, Tryz.func69.trans (congrArg some (by kernel_rfl))⟩
  f14 := ⟨Tryz.f95.name, by decide, Tryz.func95.trans (congrArg some (by kernel_rfl))⟩
  f15 := Tryz.func96.trans (congrArg some (by kernel_rfl))
  f20 := ⟨Tryz.f115.name, by decide, Tryz.func115.trans (congrArg some (by kernel_rfl))⟩
  f21 := ⟨Tryz.f116.name, by decide, Tryz.func116.trans (congrArg some (by kernel_rfl))⟩
  f22 := ⟨Tryz.f117.name, by decide, Tryz.func117.trans (congrArg some (by kernel_rfl))⟩
  f23 := ⟨Tryz.f118.name, by decide, Tryz.func118.trans (congrArg some (by kernel_rfl))⟩
  f24 := ⟨Tryz.f119.name, by decide, Tryz.func119.trans (congrArg some (by kernel_rfl))⟩
  f25 := ⟨Tryz.f120.name, by decide, Tryz.func120.trans (congrArg some (by kernel_rfl))⟩
  f26 := ⟨Tryz.f121.name, by decide, Tryz.func121.trans (congrArg some (by kernel_rfl))⟩
  f27 := ⟨Tryz.f122.name, by decide, Tryz.func122.trans (congrArg some (by kernel_rfl))⟩
  f28 := Tryz.func123.trans (congrArg some (by kernel_rfl))
  f29 := Tryz.func124.trans (congrArg some (by kernel_rfl))
  f46 := ⟨Tryz.f148.name, by decide, Tryz.func148.trans (congrArg some (by kernel_rfl))⟩
  f47 := Tryz.func149.trans (congrArg some (by kernel_rfl))
  f48 := Tryz.func150.trans (congrArg some (by kernel_rfl))
  f49 := ⟨Tryz.f151.name, by decide, Tryz.func151.trans (congrArg some (by kernel_rfl))⟩
  f50 := ⟨Tryz.f152.name, by decide, Tryz.func152.trans (congrArg some (by kernel_rfl))⟩
  f57 := ⟨Tryz.f167.name, by decide, Tryz.func167.trans (congrArg some (by kernel_rfl))⟩
  t0 := Tryz.underlying0
  a0 := Tryz.isAgg0
  z0 := Tryz.sizeOf0
  v0 := Tryz.zeroValue0
  t3 := Tryz.underlying3
  a3 := Tryz.isAgg3
  z3 := Tryz.sizeOf3
  v3 := Tryz.zeroValue3
  t4 := Tryz.underlying4
  a4 := Tryz.isAgg4
  z4 := Tryz.sizeOf4
  v4 := Tryz.zeroValue4
  t5 := Tryz.underlying5
  a5 := Tryz.isAgg5
  z5 := Tryz.sizeOf5
  v5 := Tryz.zeroValue5
  t9 := Tryz.underlying9
  a9 := Tryz.isAgg9
  z9 := Tryz.sizeOf9
  v9 := Tryz.zeroValue9
  t22 := Tryz.underlying76
  a22 := Tryz.isAgg76
  z22 := Tryz.sizeOf76
  v22 := Tryz.zeroValue76
  t25 := Tryz.underlying113
  a25 := Tryz.isAgg113
  z25 := Tryz.sizeOf113
  v25 := Tryz.zeroValue113
  t39 := Tryz.underlying128
  a39 := Tryz.isAgg128
  z39 := Tryz.sizeOf128
  v39 := Tryz.zeroValue128
  t45 := Tryz.underlying155
  a45 := Tryz.isAgg155
  z45 := Tryz.sizeOf155
  v45 := Tryz.zeroValue155
  t46 := Tryz.underlying156
  a46 := Tryz.isAgg156
  z46 := Tryz.sizeOf156
  v46 := Tryz.zeroValue156
  t50 := Tryz.underlying117
  a50 := Tryz.isAgg117
  z50 := Tryz.sizeOf117
  v50 := Tryz.zeroValue117
  t53 := Tryz.underlying162
  a53 := Tryz.isAgg162
  z53 := Tryz.sizeOf162
  v53 := Tryz.zeroValue162
  t55 := Tryz.underlying164
  a55 := Tryz.isAgg164
  z55 := Tryz.sizeOf164
  v55 := Tryz.zeroValue164
  t66 := Tryz.underlying177
  a66 := Tryz.isAgg177
  z66 := Tryz.sizeOf177
  v66 := Tryz.zeroValue177
  t70 := Tryz.underlying181
  a70 := Tryz.isAgg181
  z70 := Tryz.sizeOf181
  v70 := Tryz.zeroValue181
  t76 := Tryz.underlying193
  a76 := Tryz.isAgg193
  z76 := Tryz.sizeOf193
  v76 := Tryz.zeroValue193
  t77 := Tryz.underlying194
  a77 := Tryz.isAgg194
  z77 := Tryz.sizeOf194
  v77 := Tryz.zeroValue194 }
end Go.Proofs

/-
  DERIVED. The library's sort of structs, as a contract of a list that is lent.
-/
namespace Go.Vc
open Go.Pl
set_option linter.unusedVariables false

theorem vrows_map {α : Type} (enc : α → List Value) (en : α → List SV) (h : ∀ x, (enc x).map SV.v = en x) (L : List α) : vrows (L.map enc) = L.map en := by
  unfold vrows
  rw [List.map_map]
  exact List.map_congr_left fun x _ => h x

theorem sortK_holdsL {P : Program} {ρ : Go.Shelf.Ren} (L : Go.Proofs.SlLaysF0.n6 P ρ) {α : Type} [Inhabited α] (k : Nat) (hk0 : 0 < k) (aE : ∀ w, (isAgg (ρ.t 24)).run P w = .ok true w) (zE : ∀ w, (Go.sizeOf (ρ.t 24)).run P w = .ok k w)
    (enc : α → List Value) (hk : ∀ x, (enc x).length = k) (h1 : ∀ x, ∀ v ∈ enc x, v.oneCell' = true) (cf : α → α → Int) (hO : Go.Sort.SWO (Go.Proofs.ltOf cf)) (g : Nat) (eg : ∀ args w, (callFunc g args).run P w = .ok (.enter g args) w)
    (hcmp : ∀ blk off size w, Go.Proofs.CmpLays P g #[] enc k cf blk off size w) (lt : α → α → Bool) (hlt : ∀ x y, Go.Proofs.ltOf cf x y = lt x y) (hS : Strict lt) (e : Nat) (M : List α) (hM : M.length ≤ 1099511627776)
    (hp : M.Pairwise fun a b => lt a b = true ∨ lt b a = true) :
    HoldsL P (ρ.f 6) (.own 1000000 :: [.fn g []]) [(1000000, .sl e k (vrows (M.map enc)))] (.tup []) [] [(1000000, .sl e k (vrows ((insAll lt M).map enc)))] := by
  have fnv : ∀ {w : World} {us : List Value}, us.length = [SV.fn g []].length → (∀ (i : Nat) (c : SV) (u : Value), [SV.fn g []][i]? = some c → us[i]? = some u → R w (fun _ => False) (fun _ => .slice none 0 0) c u) → us = [.func (.func g) #[] #[]] := fun {w us} hl ha => by
    match us, hl with
    | [u], _ =>
      obtain ⟨cs, rfl, hcl, _⟩ := (ha 0 _ u rfl rfl).fn_inv
      have : cs = [] := List.eq_nil_of_length_eq_zero (by simpa using hcl.symm)
      subst this; rfl
  refine HoldsL.cells (fun r hr => by obtain ⟨x, _, rfl⟩ := List.mem_map.1 hr; exact hk x) (by simp [insAll_len]) (fun r hr => by obtain ⟨x, _, rfl⟩ := List.mem_map.1 hr; exact hk x)
    (fun r hr u hu => by obtain ⟨x, _, rfl⟩ := List.mem_map.1 hr; exact h1 x u hu) (fun hn w us hl ha => ?_) (fun c hc => by simp only [List.mem_cons, List.not_mem_nil, or_false] at hc; exact .inl ⟨g, hc⟩) (fun w b cap cur us hG hh hrc hcm hsz hcell hl ha => ?_)
  · rw [fnv hl ha]
    exact (Go.Proofs.AnyF.slices_SortFunc_none L none 0 _ w).mono fun en w' ⟨he, hw⟩ => ⟨he, by rw [hw]; exact Go.RowKit.Below.refl _ _⟩
  · rw [fnv hl ha, List.length_map]
    have hd : M.toArray.size = M.length := by simp
    have hH : Go.Sort.HoldsK enc k w b 0 M.toArray := holds_cells (enc := id) hh (fun j hj => by
      rw [Go.Sort.size_flatK, hd] at hj
      rw [Go.Sort.get_flatK enc k _ j (by rw [hd]; exact hj)]
      have hq : j / k < M.length := Nat.div_lt_of_lt_mul (by rw [Nat.mul_comm]; exact hj)
      have hr : j % k < k := Nat.mod_lt _ hk0
      have hrow : (M.map enc)[j / k]? = some (enc M[j / k]) := by rw [List.getElem?_map, List.getElem?_eq_getElem hq]; rfl
      have hu : (enc M[j / k])[j % k]? = some ((enc M[j / k])[j % k]'(by rw [hk]; exact hr)) := List.getElem?_eq_getElem _
      have h2 := (hcell (j / k) (j % k) _ _ hrow hu).1
      have e1 : j / k * k + j % k = j := by rw [Nat.mul_comm]; exact Nat.div_add_mod j k
      rw [e1] at h2
      have e2 : M.toArray[j / k]! = M[j / k] := by rw [getElem!_pos _ _ (by simpa using hq)]; simp
      rw [h2, e2, getElem!_pos _ _ (by rw [hk]; exact hr)]; rfl)
    have hs := Go.Proofs.AnyQ.slices_SortFunc L k aE zE enc hk h1 cf hO g #[] b 0 cap M.toArray w eg (hcmp _ _ _ _) hH (lt_of_heap hh) (by rw [hd]; omega)
    rw [hd] at hs
    refine hs.mono fun en w' ⟨he, d', n, os, hpm, hst, hw⟩ => ⟨he, ?_⟩
    have hsize : d'.size = M.length := by rw [hpm.1, hd]
    have hperm : d'.toList.Perm M := by
      have := hpm.2.2
      have e1 : d'.extract 0 M.length = d' := Array.extract_eq_self_of_le (by omega)
      have e2 : M.toArray.extract 0 M.length = M.toArray := Array.extract_eq_self_of_le (by rw [hd]; exact Nat.le_refl _)
      rw [e1, e2] at this
      simpa using this
    have hsorted : d'.toList.Pairwise fun a b => lt b a = false := by
      rw [List.pairwise_iff_getElem]
      intro i j hi hj hij
      have h3 := hst i j (Nat.zero_le _) hij (by simpa [hsize] using hj)
      rw [hlt] at h3
      have hi' : i < d'.size := by simpa using hi
      have hj' : j < d'.size := by simpa using hj
      rw [getElem!_pos d' i hi', getElem!_pos d' j hj'] at h3
      simpa using h3
    have hins := insAll_unique hS hp hperm hsorted
    have hfl : (Go.Sort.flatK enc k d').size ≤ cur.size := by
      rw [Go.Sort.size_flatK, hsize, hsz]
      exact Nat.mul_le_mul_right k (by simpa using hrc)
    obtain ⟨hU, hnew⟩ := upd_putRow (id : Value → Value) n (Go.Sort.flatK enc k d') os hh hfl
    refine ⟨_, by rw [hw]; exact hU, fun i c r u hr hu => ?_⟩
    rw [← hins, List.getElem?_map] at hr
    have hil : i < d'.size := by
      by_cases h : i < d'.toList.length
      · simpa using h
      · rw [List.getElem?_eq_none (by omega)] at hr; cases hr
    rw [Array.getElem?_toList, Array.getElem?_eq_getElem hil] at hr
    simp only [Option.map_some, Option.some.injEq] at hr
    subst hr
    have hc : c < k := by rw [← hk d'[i]]; exact (List.getElem?_eq_some_iff.1 hu).1
    have hlt' : i * k + c < d'.size * k := by
      have := Nat.mul_le_mul_right k (show i + 1 ≤ d'.size from hil)
      rw [Nat.add_mul, Nat.one_mul] at this; omega
    have e1 : (i * k + c) / k = i := by rw [Nat.mul_comm, Nat.mul_add_div hk0, Nat.div_eq_of_lt hc]; rfl
    have e2 : (i * k + c) % k = c := by rw [Nat.mul_comm, Nat.mul_add_mod, Nat.mod_eq_of_lt hc]
    rw [hnew _ (by rw [Go.Sort.size_flatK]; exact hlt'), Go.Sort.get_flatK enc k d' _ hlt', e1, e2, getElem!_pos d' i hil]
    obtain ⟨hcl, hcv⟩ := List.getElem?_eq_some_iff.1 hu
    rw [getElem!_pos (enc d'[i]) c hcl, hcv]; rfl
end Go.Vc

/-
  DERIVED. The library's sort of entries, as the program calls it.
-/
namespace Go.Proofs.YtahcfcimfcjhhaaGreatDoor
open Go.Vc Go.Pl Go.Shelf Go.RowKit Go.Lib Go.Sort
set_option linter.unusedVariables false
theorem cmp_less : ∀ a b : List UInt8, decide (compareBytes a b < 0) = Op.bytesLess a b
  | [], [] => rfl
  | [], _ :: _ => rfl
  | _ :: _, [] => rfl
  | a :: l, b :: m => by
    have ih := cmp_less l m
    unfold compareBytes Op.bytesLess
    by_cases h : a < b
    · simp [h]
    · by_cases h2 : b < a
      · have : ¬ a = b := fun e => by subst e; exact h h2
        simp [h, h2, this]
      · have : a = b := by
          have h3 : ¬ a.toNat < b.toNat := fun hh => h (UInt8.lt_iff_toNat_lt.2 hh)
          have h4 : ¬ b.toNat < a.toNat := fun hh => h2 (UInt8.lt_iff_toNat_lt.2 hh)
          exact UInt8.toNat_inj.1 (by omega)
        simp [h, h2, this, ih]
theorem toList_data (a : ByteArray) : a.data.toList = a.toList := by rw [ByteArray.toList_eq]
def cfE (x y : Entry) : Int := compareBytes x.stack.data.toList y.stack.data.toList
theorem ltE_cf (x y : Entry) : ltOf cfE x y = ltE x y := by
  unfold ltOf cfE ltE ltS
  rw [cmp_less, toList_data, toList_data]
theorem swoE : SWO (ltOf cfE) := ⟨fun x => by rw [ltE_cf]; exact ltS_irrefl _, fun x y z h1 h2 => by rw [ltE_cf] at h1 h2 ⊢; exact ltS_trans h1 h2, fun x y z h1 h2 => by rw [ltE_cf] at h1 h2 ⊢; exact ltS_ntrans h1 h2⟩
def vEntry (x : Entry) : List Value := [.string x.stack, .int .i64 x.count]
set_option maxHeartbeats 1000000 in
theorem closureE (x y : Entry) (W : World) : Calls Tryz.prog 70 #[.agg #[.string x.stack, .int .i64 x.count], .agg #[.string y.stack, .int .i64 y.count]] W fun e w' => e = .returned (.int .i64 (cfE x y)) ∧ ∃ q os', w' = grow (W.drewN q) os' := by
  unfold cfE
  have hcon := fun W' => Any.strings_Compare Tryz.l106 x.stack y.stack W'
  change ∀ W', Calls Tryz.prog 71 _ _ _ at hcon
  generalize Lib.compareBytes x.stack.data.toList y.stack.data.toList = r at hcon ⊢
  go_enter Tryz.func70, Tryz.ntmps70
  go_wp2_with (go_at_call 71; refine (hcon _).mono ?_; rintro e w' ⟨rfl, rfl⟩)
  go_ret
  exact ⟨rfl, 0, _, by rw [alloc_eq_grow, alloc_eq_grow, grow_grow]; rfl⟩
instance : Inhabited Entry := ⟨⟨⟨#[]⟩, 0⟩⟩
def kSortE : Ctr := len [0] [] (fun args obs => decEntry (oR obs 1000000)) (fun x => [.own 1000000, .fn 70 []]) (fun x => [(1000000, .sl 79 2 (x.map encEntry))])
  (fun x => x.length ≤ 1099511627776 ∧ x.Pairwise fun a b => ltE a b = true ∨ ltE b a = true) (fun _ x => .tup []) (fun _ _ => []) (fun x => [(1000000, .sl 79 2 ((insAll ltE x).map encEntry))])
theorem cSortE : Cn Tryz.prog 69 kSortE := by
  refine Cn.len Tryz.func69 (by kernel_rfl) rfl fun d x hd hx => ?_
  have eg : ∀ args w, (callFunc 70 args).run Tryz.prog w = .ok (.enter 70 args) w := enters_of Tryz.func70 (by kernel_rfl) rfl
  have h := sortK_holdsL Tryz.lSlF06_69 2 (by omega) Tryz.isAgg79 Tryz.sizeOf79 vEntry (fun _ => rfl) (fun x v hv => by simp [vEntry] at hv; rcases hv with rfl | rfl <;> rfl) cfE swoE 70 eg
    (fun blk off size w _ _ _ _ x y => closureE x y _) ltE ltE_cf ltE_strict 79 x hx.1 hx.2
  rw [vrows_map vEntry encEntry (fun _ => rfl), vrows_map vEntry encEntry (fun _ => rfl)] at h
  exact h
end Go.Proofs.YtahcfcimfcjhhaaGreatDoor

namespace Go.Proofs.YtahcfcimfcjhhaaGreatDoor
open Go.Vc
attribute [local go_sem] St.runR St.runW St.stepV offV St.step St.stepU St.stepG mkCond guardB St.prK St.pr St.prLen St.eff St.callE St.callD St.callF St.callL aI aB aS aR aC St.isM St.argL Ctr.pure Ctr.lend Ctr.move Ctr.isL Ctr.wri pur len lentBy St.lentV St.lent1 nthS argsR restOf obsR pairs swapL unObs backL St.resL erL SV.ren1 SV.up SV.up2 Ob.up St.fzL cellIds partIds St.intoRow SV.ownId St.fz SV.fz1 St.prep St.mvL St.mv SV.re1 rnOk St.prEq vals eqCells scEq Value.kd St.prStr St.prCut cutR St.bnd St.prMin St.bld isShift outL retL outJ oR oC St.ev St.get St.put St.new St.kill SV.kill SV.kill1 Ob.kill St.app St.wrt St.rowsOf St.res St.killL lk er argsL SV.strip SV.need SV.share SV.share1 SV.owns SV.owns1 SV.owns2 SV.good SV.good1 SV.rok SV.rok1 SV.rok2 SV.isV SV.isV2 nodupN SV.cells SV.one SV.pur Ob.pb partsIn rowsIn splice cellsAt dstOk scal2 scal1 thenK blockK retK outK outs okC okL okA okT nilC nilL nilA nilT keepC keepL keepA keepT St.runG St.dltK St.least St.clean St.final St.hide offK badS badO SV.refs SV.leaf SV.leaf2 Ob.refs dlOk fpAt Go.Vc.cover tups SV.ofAgg St.out outC subL St.has rng wr Value.oneCell' Option.isSome_some Option.isSome_none List.nil_append Bool.false_eq_true List.map_cons List.map_nil List.all_cons List.all_nil List.length_cons List.length_nil List.drop_zero List.drop_succ_cons List.take_succ_cons List.take_zero List.drop_nil List.take_nil List.getElem?_cons_zero List.getElem?_cons_succ List.getElem?_nil List.cons_append List.nil_append List.append_nil List.append_assoc List.flatMap_cons List.flatMap_nil List.contains_cons List.contains_nil List.set_cons_zero List.set_cons_succ List.getElem?_toArray Option.getD_some Option.getD_none Option.map_some Option.map_none Option.bind_some Option.some.injEq Prod.mk.injEq if_true if_false true_and and_true and_self and_false false_and Bool.and_false Bool.false_and Bool.or_true Bool.true_or Bool.or_false Bool.false_or ne_eq not_true_eq_false not_false_eq_true decide_true decide_false List.mem_cons List.not_mem_nil List.filter_cons List.filter_nil List.any_cons List.any_nil List.isEmpty_nil List.isEmpty_cons Option.getD_none or_false false_or true_or or_true forall_eq_or_imp forall_eq reduceCtorEq exists_eq exists_eq' exists_eq_left' exists_eq_left exists_eq_right exists_eq_right' imp_self implies_true Bool.and_true Bool.true_and Bool.and_self beq_self_eq_true List.replicate_succ List.replicate_zero forall_const false_implies pickB_or pickB_and beqT beqF Int.toNat_natCast List.length_map List.length_replicate ge_iff_le gt_iff_lt decide_eq_true_eq decide_eq_false_iff_not Bool.and_eq_true Bool.or_eq_true Bool.not_eq_true' Bool.not_eq_false' condG List.toList_toArray Bool.or_eq_false_iff Bool.and_eq_false_iff Int.not_lt Int.not_le beq_iff_eq beq_eq_false_iff_ne bne_iff_ne bne_eq_false_iff_eq ne_eq Bool.not_true Bool.not_false exists_and_left
section
open Go.Vc
set_option linter.unusedSimpArgs false
set_option linter.unusedVariables false
set_option maxHeartbeats 1000000
set_option maxRecDepth 10000
attribute [local irreducible] Go.Vc.WP
attribute [local go_sem] cx0_t cx0_c
open Go.Pl
attribute [local go_sem] isV_Node isV_It isV_Entry decNode_enc decFrame_enc oneFrame_enc stkA oneFrame_ab oneNode_abc decI_enc decS_enc aU prA decEntry_enc St.ado St.adoptB St.adoptS rp isNil St.fzS
theorem rawE_skip {N : List Node} {C : List Int} {k : Nat} (hk : k < C.length) (h : C[k] = 0) : rawE N C (k + 1) = rawE N C k := by
  rw [rawE_succ, show entAt N C k = none from if_pos (by rw [List.getD_eq_getElem?_getD, List.getElem?_eq_getElem hk]; exact h)]
  simp
theorem rawE_new {N : List Node} {C : List Int} {k : Nat} (hk : k < C.length) (h : ¬ C[k] = 0) : rawE N C (k + 1) = rawE N C k ++ [⟨fmtF (stackAt N k), C[k]⟩] := by
  have e : C.getD k 0 = C[k] := by rw [List.getD_eq_getElem?_getD, List.getElem?_eq_getElem hk]; rfl
  rw [rawE_succ, show entAt N C k = some ⟨fmtF (stackAt N k), C[k]⟩ by unfold entAt; rw [e, if_neg h]]
  rfl
section
noncomputable def cxEoI : Cx := { P := Tryz.prog, tys := tys, C := [(41, kPrOk), (68, kStackAt), (67, kFmtF), (69, kSortE)], hty := tysOk, hC := COk.cons cPrOkI (COk.cons cStackAtI (COk.cons cFmtFI (COk.cons cSortE (COk.nil _)))) }
theorem cxEoI_t : cxEoI.tys = tys := rfl
theorem cxEoI_c : cxEoI.C = [(41, kPrOk), (68, kStackAt), (67, kFmtF), (69, kSortE)] := rfl
attribute [local go_sem] cxEoI_t cxEoI_c kPrOk kStackAt kFmtF kSortE
theorem cEntI : Cn Tryz.prog 36 kEnt := by
  refine Cn.pur Tryz.func36 (by kernel_rfl) rfl fun d x hx => ?_
  obtain ⟨N, C⟩ := x
  obtain ⟨⟨hN, hs⟩, hC⟩ := hx
  simp only at hN hs hC ⊢
  refine Holds.go (c := cxEoI) Tryz.func36 rfl Tryz.results36 Tryz.ntmps36 (by omega) (by simp) rfl ?_
  intro X0 w0
  (repeat' (first | refine WP.seq ?_ | refine WP.block ?_ | ((first | refine WP.region ?_ | refine WP.condW ?_ | refine WP.ret ?_ | refine WP.exit ?_ | refine WP.skip ?_); simp only [go_sem, tyAll, Nat.reduceAdd, Nat.reduceLT, Nat.reduceLeDiff, Nat.reduceEqDiff, Nat.reduceMul, Nat.reduceSub, Nat.reduceGT, reduceIte, Int.reduceNeg, Int.reduceToNat]) |  refine And.intro ?_ ?_ | intro _))
  all_goals first | omega | (simp only; omega) | exact Nat.le_trans (hs _ ‹_›) (by omega) | skip
  · rename_i h; rw [show entriesOf N C = [] from if_neg (by rw [h]; simp)]; exact ⟨_, _, rfl⟩
  rename_i hp
  have he : entriesOf N C = insAll ltE (rawE N C C.length) := if_pos hp
  refine WP.loop (fun k : Nat => ⟨[(1, .ptr 1 0 0 0), (3, .own 9), (11, .sl 1 (C.map encI)), (12, .v (.int .i64 C.length)), (13, .v (.int .i64 k))], [(1, .box 39 [.sl 3 (N.map encNode), .sl 1 (C.map encI)]), (9, .sl 79 2 ((rawE N C k).map encEntry))]⟩)
    (fun k => k ≤ C.length) (fun k => C.length - k) 0 (by simp) ?_ ?_
  · (simp only [go_sem, tyAll, Nat.reduceAdd, Nat.reduceLT, Nat.reduceLeDiff, Nat.reduceEqDiff, Nat.reduceMul, Nat.reduceSub, Nat.reduceGT, reduceIte, Int.reduceNeg, Int.reduceToNat] <;> (first | rfl | exact ⟨rfl, rfl⟩ | exact ⟨rfl, rfl, rfl⟩ | exact ⟨rfl, rfl, rfl, rfl⟩ | exact ⟨rfl, rfl, rfl, rfl, rfl⟩ | exact ⟨⟨rfl, rfl⟩, rfl⟩ | simp))
  intro k hk
  have hlen := rawE_len N C k
  by_cases hlt : k < C.length
  · have hli : (k : Int) < C.length := by omega
    have h1 := rowAt_map encI C k hlt
    have h3 := cntOk_at (profileOk_iff.1 hp).2.2 k hlt
    by_cases hz : C[k] = 0
    · have hsk := rawE_skip (N := N) hlt hz
      have hz0 : ¬ 0 < C[k] := by omega
      (repeat' (first | refine WP.seq ?_ | refine WP.block ?_ | ((first | refine WP.region ?_ | refine WP.condW ?_ | refine WP.ret ?_ | refine WP.exit ?_ | refine WP.skip ?_); simp only [go_sem, hli, h1, encI, hz0, tyAll, Nat.reduceAdd, Nat.reduceLT, Nat.reduceLeDiff, Nat.reduceEqDiff, Nat.reduceMul, Nat.reduceSub, Nat.reduceGT, reduceIte, Int.reduceNeg, Int.reduceToNat]) |  refine And.intro ?_ ?_ | intro _))
      all_goals first | omega | skip
      exact ⟨k + 1, by omega, by omega, rfl, by rw [hsk]⟩
    · have hnw := rawE_new (N := N) hlt hz
      have hfr := wfFr_at N k
      have hsl := stackAt_len N k
      have hz0 : 0 < C[k] := by omega
      (repeat' (first | refine WP.seq ?_ | refine WP.block ?_ | ((first | refine WP.region ?_ | refine WP.condW ?_ | refine WP.ret ?_ | refine WP.exit ?_ | refine WP.skip ?_); simp only [go_sem, hli, h1, encI, hz0, tyAll, Nat.reduceAdd, Nat.reduceLT, Nat.reduceLeDiff, Nat.reduceEqDiff, Nat.reduceMul, Nat.reduceSub, Nat.reduceGT, reduceIte, Int.reduceNeg, Int.reduceToNat]) |  refine And.intro ?_ ?_ | intro _))
      all_goals first | omega | (simp only; omega) | exact Nat.le_trans (hs _ ‹_›) (by omega) | exact hfr _ ‹_› | exact ⟨_, _, _, rfl⟩ | skip
      exact ⟨k + 1, by omega, by omega, rfl, by rw [hnw, List.map_append]; rfl⟩
  · have hge : ¬ (k : Int) < C.length := by omega
    have hpr := rawE_pair (profileOk_iff.1 hp).1 C C.length (by have := (profileOk_iff.1 hp).2.1; omega)
    rw [show k = C.length by omega] at hge ⊢
    have hll := rawE_len N C C.length
    (repeat' (first | refine WP.seq ?_ | refine WP.block ?_ | ((first | refine WP.region ?_ | refine WP.condW ?_ | refine WP.ret ?_ | refine WP.exit ?_ | refine WP.skip ?_); simp only [go_sem, hge, tyAll, Nat.reduceAdd, Nat.reduceLT, Nat.reduceLeDiff, Nat.reduceEqDiff, Nat.reduceMul, Nat.reduceSub, Nat.reduceGT, reduceIte, Int.reduceNeg, Int.reduceToNat]) |  refine And.intro ?_ ?_ | intro _))
    all_goals first | omega | skip
    rw [he]
end
end
section
open Go.Vc
set_option linter.unusedSimpArgs false
set_option linter.unusedVariables false
set_option maxHeartbeats 1000000
set_option maxRecDepth 10000
attribute [local irreducible] Go.Vc.WP
attribute [local go_sem] cx0_t cx0_c
attribute [local go_sem] isV_Node isV_It isV_Entry decNode_enc decFrame_enc oneFrame_enc stkA oneFrame_ab oneNode_abc decI_enc decS_enc aU prA decEntry_enc St.fzS addL behind capS capI
theorem cParseZI : Cn Tryz.prog 37 kParseZ := Cn.frozenT (fun s => allV_Frame _) cParseFI
theorem cEntZI : Cn Tryz.prog 36 kEntZ := Cn.frozen (fun s => allV_Entry _) cEntI
/-! ## the changes -/
def kPickT : Ctr := pur (fun args => (decFrame (aR args 0), capS args 1)) (fun x => [.sl 2 (x.1.map encFrame), .rptr 1 [[.v (.string x.2)]] 0 0]) (fun x => x.1.length ≤ 4398046511104) (fun _ x => .sl 2 ((pick x.2 true x.1).map encFrame)) (fun _ _ => [])
def kPickF : Ctr := pur (fun args => (decFrame (aR args 0), capS args 1)) (fun x => [.sl 2 (x.1.map encFrame), .rptr 1 [[.v (.string x.2)]] 0 0]) (fun x => x.1.length ≤ 4398046511104) (fun _ x => .sl 2 ((pick x.2 false x.1).map encFrame)) (fun _ _ => [])
def kTopC : Ctr := pur (fun args => (decFrame (aR args 0), capI args 1)) (fun x => [.sl 2 (x.1.map encFrame), .rptr 1 [[.v (.int .i64 x.2)]] 0 0]) (fun x => x.1.length ≤ 4398046511104 ∧ 1 ≤ x.2) (fun _ x => .sl 2 ((topF x.2 x.1).map encFrame)) (fun _ _ => [])
theorem pickT_yes {s : ByteArray} {L : List Frame} (h : 0 ≤ idxF s L) : pick s true L = L := by unfold pick; rw [if_pos (by simp [h])]
theorem pickT_no {s : ByteArray} {L : List Frame} (h : idxF s L < 0) : pick s true L = [] := by unfold pick; rw [if_neg (by simp; omega)]
theorem pickF_yes {s : ByteArray} {L : List Frame} (h : 0 ≤ idxF s L) : pick s false L = [] := by unfold pick; rw [if_neg (by simp; omega)]
theorem pickF_no {s : ByteArray} {L : List Frame} (h : idxF s L < 0) : pick s false L = L := by unfold pick; rw [if_pos (by simp; omega)]
section
noncomputable def cxPk : Cx := { P := Tryz.prog, tys := tys, C := [(38, kNamed)], hty := tysOk, hC := COk.cons cNamed (COk.nil _) }
theorem cxPk_t : cxPk.tys = tys := rfl
theorem cxPk_c : cxPk.C = [(38, kNamed)] := rfl
attribute [local go_sem] cxPk_t cxPk_c kNamed
end
section
noncomputable def cxPk0 : Cx := { P := Tryz.prog, tys := tys, C := [], hty := tysOk, hC := COk.nil _ }
theorem cxPk0_t : cxPk0.tys = tys := rfl
theorem cxPk0_c : cxPk0.C = [] := rfl
attribute [local go_sem] cxPk0_t cxPk0_c 
end
section
noncomputable def cxMapT : Cx := { P := Tryz.prog, tys := tys, C := [(36, kEntZ), (37, kParseZ), (67, kFmtF)], hty := tysOk, hC := COk.cons cEntZI (COk.cons cParseZI (COk.cons cFmtFI (COk.nil _))) }
theorem cxMapT_t : cxMapT.tys = tys := rfl
theorem cxMapT_c : cxMapT.C = [(36, kEntZ), (37, kParseZ), (67, kFmtF)] := rfl
attribute [local go_sem] cxMapT_t cxMapT_c kEntZ kParseZ kFmtF
attribute [local go_sem] kPickT
end
section
noncomputable def cxFocusOnI : Cx := { P := Tryz.prog, tys := tys, C := [], hty := tysOk, hC := COk.nil _ }
theorem cxFocusOnI_t : cxFocusOnI.tys = tys := rfl
theorem cxFocusOnI_c : cxFocusOnI.C = [] := rfl
attribute [local go_sem] cxFocusOnI_t cxFocusOnI_c 
end

section
noncomputable def cxMapF : Cx := { P := Tryz.prog, tys := tys, C := [(36, kEntZ), (37, kParseZ), (67, kFmtF)], hty := tysOk, hC := COk.cons cEntZI (COk.cons cParseZI (COk.cons cFmtFI (COk.nil _))) }
theorem cxMapF_t : cxMapF.tys = tys := rfl
theorem cxMapF_c : cxMapF.C = [(36, kEntZ), (37, kParseZ), (67, kFmtF)] := rfl
attribute [local go_sem] cxMapF_t cxMapF_c kEntZ kParseZ kFmtF
attribute [local go_sem] kPickF
end
section
noncomputable def cxIgnoreI : Cx := { P := Tryz.prog, tys := tys, C := [], hty := tysOk, hC := COk.nil _ }
theorem cxIgnoreI_t : cxIgnoreI.tys = tys := rfl
theorem cxIgnoreI_c : cxIgnoreI.C = [] := rfl
attribute [local go_sem] cxIgnoreI_t cxIgnoreI_c 
end

section
noncomputable def cxMapC : Cx := { P := Tryz.prog, tys := tys, C := [(36, kEntZ), (37, kParseZ), (67, kFmtF)], hty := tysOk, hC := COk.cons cEntZI (COk.cons cParseZI (COk.cons cFmtFI (COk.nil _))) }
theorem cxMapC_t : cxMapC.tys = tys := rfl
theorem cxMapC_c : cxMapC.C = [(36, kEntZ), (37, kParseZ), (67, kFmtF)] := rfl
attribute [local go_sem] cxMapC_t cxMapC_c kEntZ kParseZ kFmtF
attribute [local go_sem] kTopC
end
section
noncomputable def cxTopFramesI : Cx := { P := Tryz.prog, tys := tys, C := [], hty := tysOk, hC := COk.nil _ }
theorem cxTopFramesI_t : cxTopFramesI.tys = tys := rfl
theorem cxTopFramesI_c : cxTopFramesI.C = [] := rfl
attribute [local go_sem] cxTopFramesI_t cxTopFramesI_c 
end

end
end Go.Proofs.YtahcfcimfcjhhaaGreatDoor
/-
  DERIVED. Plain lists: counts by name, as they are summed up in place and as they are kept in order.
-/
namespace Go.Proofs.YtahcfcimfcjhhaaGreatDoor
set_option linter.unusedVariables false
open Go.Pl
instance inhE : Inhabited Entry := ⟨⟨⟨#[]⟩, 0⟩⟩
instance memBA (t : ByteArray) (ns : List ByteArray) : Decidable (t ∈ ns) := decidable_of_iff (∃ x, x ∈ ns ∧ x = t) (by simp)
def isAt (s : ByteArray) (e : Entry) : Bool := decide (e.stack = s)
/-- c more for s: in place, or at the end -/
def bump (L : List Entry) (s : ByteArray) (c : Int) : List Entry :=
  if firstIdx (isAt s) L < 0 then L ++ [⟨s, c⟩] else L.set (firstIdx (isAt s) L).toNat ⟨s, (L.getD (firstIdx (isAt s) L).toNat default).count + c⟩
/-- where s stands or belongs in a list that ascends -/
def posE (L : List Entry) (s : ByteArray) : Nat := (L.takeWhile fun x => ltS x.stack s).length
/-- .. in order -/
def insB (L : List Entry) (s : ByteArray) (c : Int) : List Entry :=
  if (posE L s < L.length ∧ (L.getD (posE L s) default).stack = s) then L.set (posE L s) ⟨s, (L.getD (posE L s) default).count + c⟩ else L.take (posE L s) ++ ⟨s, c⟩ :: L.drop (posE L s)
/-- what a list of counts is as a function -/
structure Rep' (L : List Entry) (f : ByteArray → Option Int) : Prop where
  nd : L.Pairwise fun a b => a.stack ≠ b.stack
  mem : ∀ e : Entry, e ∈ L ↔ f e.stack = some e.count
def updF (f : ByteArray → Option Int) (s : ByteArray) (c : Int) (t : ByteArray) : Option Int := if t = s then some ((f s).getD 0 + c) else f t
theorem Rep'.nodup {L : List Entry} {f : ByteArray → Option Int} (h : Rep' L f) : L.Nodup := h.nd.imp fun hne e => hne (by rw [e])
theorem Rep'.perm {L M : List Entry} {f : ByteArray → Option Int} (h : Rep' L f) (g : Rep' M f) : L.Perm M :=
  (List.perm_ext_iff_of_nodup h.nodup g.nodup).2 fun e => by rw [h.mem, g.mem]
theorem Rep'.nil : Rep' [] (fun _ => none) := ⟨.nil, fun e => by simp⟩
theorem Rep'.none {L : List Entry} {f : ByteArray → Option Int} (h : Rep' L f) {s : ByteArray} (hs : ∀ x ∈ L, x.stack ≠ s) : f s = none := by
  cases hf : f s with
  | none => rfl
  | some n => exact absurd rfl (hs ⟨s, n⟩ ((h.mem _).2 hf))
/-- one is put in, wherever -/
theorem Rep'.put {L A B : List Entry} {f : ByteArray → Option Int} (h : Rep' L f) (hL : L = A ++ B) {s : ByteArray} {c : Int} (hs : ∀ x ∈ L, x.stack ≠ s) : Rep' (A ++ ⟨s, c⟩ :: B) (updF f s c) := by
  have hp : (A ++ ⟨s, c⟩ :: B).Perm (⟨s, c⟩ :: L) := by rw [hL]; exact List.perm_middle
  have hn := h.none hs
  refine ⟨?_, fun e => ?_⟩
  · refine (hp.pairwise_iff (fun {a b} hh => Ne.symm hh)).2 ?_
    exact List.pairwise_cons.2 ⟨fun x hx => Ne.symm (hs x hx), h.nd⟩
  · rw [hp.mem_iff, List.mem_cons, h.mem]
    unfold updF
    by_cases he : e.stack = s
    · rw [if_pos he, he, hn]
      constructor
      · rintro (h1 | h1)
        · rw [h1]; simp
        · cases h1
      · intro h1
        left
        obtain ⟨a, b⟩ := e
        simp only at he
        simp only [Option.getD_none, Int.zero_add, Option.some.injEq] at h1
        rw [he, h1]
    · rw [if_neg he]
      constructor
      · rintro (h1 | h1)
        · exact absurd (by rw [h1]) he
        · exact h1
      · exact .inr
/-- one is counted up -/
theorem Rep'.up {L : List Entry} {f : ByteArray → Option Int} (h : Rep' L f) {k : Nat} (hk : k < L.length) (c : Int) : Rep' (L.set k ⟨L[k].stack, L[k].count + c⟩) (updF f L[k].stack c) := by
  have hat : ∀ i (hi : i < L.length), L[i].stack = L[k].stack → i = k := fun i hi he => by
    rcases Nat.lt_trichotomy i k with h1 | h1 | h1
    · exact absurd he ((List.pairwise_iff_getElem.1 h.nd) i k hi hk h1)
    · exact h1
    · exact absurd he.symm ((List.pairwise_iff_getElem.1 h.nd) k i hk hi h1)
  have hf : f L[k].stack = some L[k].count := (h.mem _).1 (List.getElem_mem hk)
  refine ⟨?_, fun e => ?_⟩
  · rw [List.pairwise_iff_getElem]
    intro i j hi hj hij
    simp only [List.length_set] at hi hj
    have h0 := (List.pairwise_iff_getElem.1 h.nd) i j hi hj hij
    rw [List.getElem_set, List.getElem_set]
    by_cases h1 : k = i
    · subst h1
      rw [if_pos rfl, if_neg (by omega)]; exact h0
    · rw [if_neg h1]
      by_cases h2 : k = j
      · subst h2; rw [if_pos rfl]; exact h0
      · rw [if_neg h2]; exact h0
  · unfold updF
    by_cases he : e.stack = L[k].stack
    · rw [if_pos he, hf]
      constructor
      · intro hm
        obtain ⟨i, hi, hie⟩ := List.mem_iff_getElem.1 hm
        simp only [List.length_set] at hi
        rw [List.getElem_set] at hie
        by_cases h1 : k = i
        · rw [if_pos h1] at hie; rw [← hie]; rfl
        · rw [if_neg h1] at hie
          exact absurd (hat i hi (by rw [hie, he])).symm h1
      · intro h1
        simp only [Option.getD_some, Option.some.injEq] at h1
        have : e = ⟨L[k].stack, L[k].count + c⟩ := by
          obtain ⟨a, b⟩ := e
          simp only at he h1
          rw [he, h1]
        rw [this]
        exact List.mem_iff_getElem.2 ⟨k, by simpa using hk, by simp⟩
    · rw [if_neg he, ← h.mem]
      constructor
      · intro hm
        rcases mem_set' hm with h1 | h1
        · exact absurd (by rw [h1]) he
        · exact h1
      · intro hm
        obtain ⟨i, hi, hie⟩ := List.mem_iff_getElem.1 hm
        have : k ≠ i := fun e1 => by subst e1; exact he (by rw [hie])
        exact List.mem_iff_getElem.2 ⟨i, by simpa using hi, by rw [List.getElem_set, if_neg this]; exact hie⟩
theorem firstIdx_pos {α : Type} {p : α → Bool} {L : List α} (h : ¬ firstIdx p L < 0) : ∃ (k : Nat) (hk : k < L.length), firstIdx p L = k ∧ p L[k] = true := by
  unfold firstIdx at h ⊢
  split at h
  · rename_i i hi
    obtain ⟨h1, h2, _⟩ := List.findIdx?_eq_some_iff_getElem.1 hi
    exact ⟨i, h1, rfl, h2⟩
  · omega
theorem Rep'.bump {L : List Entry} {f : ByteArray → Option Int} (h : Rep' L f) (s : ByteArray) (c : Int) : Rep' (Go.Proofs.YtahcfcimfcjhhaaGreatDoor.bump L s c) (updF f s c) := by
  unfold Go.Proofs.YtahcfcimfcjhhaaGreatDoor.bump
  split
  · rename_i hn
    have := h.put (A := L) (B := []) (by simp) (s := s) (c := c) (fun x hx he => by
      have := firstIdx_neg hn x hx
      simp [isAt, he] at this)
    exact this
  · rename_i hn
    obtain ⟨k, hk, h1, h2⟩ := firstIdx_pos hn
    have hs : L[k].stack = s := by simpa [isAt] using h2
    rw [h1, Int.toNat_natCast, List.getD_eq_getElem?_getD, List.getElem?_eq_getElem hk, Option.getD_some]
    have := h.up hk c
    rw [hs] at this
    exact this
theorem posE_le (L : List Entry) (s : ByteArray) : posE L s ≤ L.length := by
  unfold posE; exact (List.takeWhile_sublist _).length_le
theorem posE_lt {L : List Entry} {s : ByteArray} {i : Nat} (hi : i < L.length) (h : i < posE L s) : ltS L[i].stack s = true := by
  have h1 : L[i] ∈ L.takeWhile (fun x => ltS x.stack s) := by
    have h2 := List.takeWhile_prefix (l := L) (fun x => ltS x.stack s)
    have h3 : (L.takeWhile (fun x => ltS x.stack s))[i]'h = L[i] := h2.getElem h
    rw [← h3]; exact List.getElem_mem _
  have := (mem_takeWhile' h1).1
  exact this
theorem posE_ge {L : List Entry} {s : ByteArray} (h : posE L s < L.length) : ltS L[posE L s].stack s = false := by
  have h1 : L.dropWhile (fun x => ltS x.stack s) = L.drop (posE L s) := by
    have h2 := List.takeWhile_append_dropWhile (p := fun x : Entry => ltS x.stack s) (l := L)
    have h3 : L.drop (posE L s) = (L.takeWhile (fun x => ltS x.stack s) ++ L.dropWhile (fun x => ltS x.stack s)).drop (posE L s) := by rw [h2]
    rw [h3]; unfold posE; rw [List.drop_left]
  rw [List.drop_eq_getElem_cons h] at h1
  have h4 : L.dropWhile (fun x => ltS x.stack s) ≠ [] := by rw [h1]; exact List.cons_ne_nil _ _
  have h5 := List.head_dropWhile_not (fun x : Entry => ltS x.stack s) h4
  have h6 : (L.dropWhile (fun x => ltS x.stack s)).head h4 = L[posE L s] := by simp only [h1, List.head_cons]
  rw [h6] at h5
  simpa using h5
theorem posE_eq {L : List Entry} {s : ByteArray} {n : Nat} (hn : n ≤ L.length) (h1 : ∀ j (hj : j < L.length), j < n → ltS L[j].stack s = true) (h2 : ∀ h : n < L.length, ltS L[n].stack s = false) : posE L s = n := by
  rcases Nat.lt_trichotomy (posE L s) n with h | h | h
  · have h3 := posE_ge (L := L) (s := s) (by omega)
    rw [h1 _ (by omega) h] at h3; cases h3
  · exact h
  · have := posE_le L s
    have h3 := posE_lt (L := L) (s := s) (i := n) (by omega) h
    rw [h2 (by omega)] at h3; cases h3
theorem Rep'.insB {L : List Entry} {f : ByteArray → Option Int} (h : Rep' L f) (ha : Asc ltE L) (s : ByteArray) (c : Int) : Rep' (Go.Proofs.YtahcfcimfcjhhaaGreatDoor.insB L s c) (updF f s c) ∧ Asc ltE (Go.Proofs.YtahcfcimfcjhhaaGreatDoor.insB L s c) := by
  have hle := posE_le L s
  unfold Go.Proofs.YtahcfcimfcjhhaaGreatDoor.insB
  split
  · rename_i hh
    obtain ⟨hk, hs⟩ := hh
    rw [List.getD_eq_getElem?_getD, List.getElem?_eq_getElem hk, Option.getD_some] at hs ⊢
    have h1 := h.up hk c
    rw [hs] at h1
    refine ⟨h1, ?_⟩
    unfold Asc at ha ⊢
    rw [List.pairwise_iff_getElem] at ha ⊢
    intro i j hi hj hij
    simp only [List.length_set] at hi hj
    have h0 := ha i j hi hj hij
    have key : ∀ (q : Nat) (hq : q < L.length), ((L.set (posE L s) ⟨s, L[posE L s].count + c⟩)[q]'(by simpa using hq)).stack = L[q].stack := fun q hq => by
      rw [List.getElem_set]
      split
      · rename_i e; subst e; exact hs.symm
      · rfl
    unfold ltE at h0 ⊢
    rw [key i hi, key j hj]; exact h0
  · rename_i hh
    have hne : ∀ x ∈ L, x.stack ≠ s := fun x hx he => by
      obtain ⟨i, hi, rfl⟩ := List.mem_iff_getElem.1 hx
      rcases Nat.lt_or_ge i (posE L s) with h1 | h1
      · exact ltS_ne (posE_lt hi h1) he
      · rcases Nat.lt_or_ge (posE L s) i with h2 | h2
        · have h3 := posE_ge (L := L) (s := s) (by omega)
          unfold Asc at ha
          have h4 := (List.pairwise_iff_getElem.1 ha) (posE L s) i (by omega) hi h2
          unfold ltE at h4
          rw [he] at h4
          rw [h3] at h4; cases h4
        · obtain rfl : i = posE L s := by omega
          exact hh ⟨hi, by rw [List.getD_eq_getElem?_getD, List.getElem?_eq_getElem hi]; exact he⟩
    refine ⟨h.put (List.take_append_drop _ _).symm hne, ?_⟩
    have hins : ins ltE ⟨s, c⟩ L = L.take (posE L s) ++ ⟨s, c⟩ :: L.drop (posE L s) := by
      unfold ins posE
      have h2 := List.takeWhile_append_dropWhile (p := fun y : Entry => ltS y.stack s) (l := L)
      have e1 : L.take (L.takeWhile fun x => ltS x.stack s).length = L.takeWhile fun x => ltS x.stack s := by
        have : L.take (L.takeWhile fun x => ltS x.stack s).length = (L.takeWhile (fun x => ltS x.stack s) ++ L.dropWhile (fun x => ltS x.stack s)).take (L.takeWhile fun x => ltS x.stack s).length := by rw [h2]
        rw [this, List.take_left]
      have e2 : L.drop (L.takeWhile fun x => ltS x.stack s).length = L.dropWhile fun x => ltS x.stack s := by
        have : L.drop (L.takeWhile fun x => ltS x.stack s).length = (L.takeWhile (fun x => ltS x.stack s) ++ L.dropWhile (fun x => ltS x.stack s)).drop (L.takeWhile fun x => ltS x.stack s).length := by rw [h2]
        rw [this, List.drop_left]
      rw [e1, e2]
      rfl
    rw [← hins]
    exact ins_asc ltE_strict ha fun y hy => ltE_ne (hne y hy)
/-! ## the names beside a name -/
def namesE (e : Entry) : List ByteArray := (frsE e).map (·.name)
def nearK (s : ByteArray) (d : Int) (ns : List ByteArray) : Nat → List ByteArray
  | 0 => []
  | k + 1 => if ns.getD k ⟨#[]⟩ = s ∧ 0 ≤ (k : Int) + d ∧ (k : Int) + d < ns.length ∧ ns.getD ((k : Int) + d).toNat ⟨#[]⟩ ∉ nearK s d ns k then nearK s d ns k ++ [ns.getD ((k : Int) + d).toNat ⟨#[]⟩] else nearK s d ns k
theorem nearK_len (s : ByteArray) (d : Int) (ns : List ByteArray) : ∀ k, (nearK s d ns k).length ≤ k
  | 0 => by simp [nearK]
  | k + 1 => by
    have := nearK_len s d ns k
    rw [nearK]
    split
    · simp only [List.length_append, List.length_cons, List.length_nil]; omega
    · omega
def nearE (s : ByteArray) (d : Int) (e : Entry) : List ByteArray := nearK s d (namesE e) (namesE e).length
/-- the names of one entry, each counted -/
def addI (c : Int) (ns : List ByteArray) (L : List Entry) : List Entry := ns.foldl (fun L s => bump L s c) L
def addO (c : Int) (ns : List ByteArray) (L : List Entry) : List Entry := ns.foldl (fun L s => insB L s c) L
def nbI (s : ByteArray) (d : Int) (E : List Entry) : List Entry := E.foldl (fun L e => addI e.count (nearE s d e) L) []
def nbO (s : ByteArray) (d : Int) (E : List Entry) : List Entry := E.foldl (fun L e => addO e.count (nearE s d e) L) []
def addF' (c : Int) (ns : List ByteArray) (f : ByteArray → Option Int) : ByteArray → Option Int := ns.foldl (fun f s => updF f s c) f
def nbF (s : ByteArray) (d : Int) (E : List Entry) : ByteArray → Option Int := E.foldl (fun f e => addF' e.count (nearE s d e) f) (fun _ => none)
theorem addI_rep (c : Int) : ∀ (ns : List ByteArray) {L : List Entry} {f : ByteArray → Option Int}, Rep' L f → Rep' (addI c ns L) (addF' c ns f)
  | [], L, f, h => h
  | s :: ns, L, f, h => addI_rep c ns (h.bump s c)
theorem addO_rep (c : Int) : ∀ (ns : List ByteArray) {L : List Entry} {f : ByteArray → Option Int}, Rep' L f → Asc ltE L → Rep' (addO c ns L) (addF' c ns f) ∧ Asc ltE (addO c ns L)
  | [], L, f, h, h2 => ⟨h, h2⟩
  | s :: ns, L, f, h, h2 => addO_rep c ns (h.insB h2 s c).1 (h.insB h2 s c).2
theorem nbI_aux (s : ByteArray) (d : Int) : ∀ (E : List Entry) {L : List Entry} {f : ByteArray → Option Int}, Rep' L f → Rep' (E.foldl (fun L e => addI e.count (nearE s d e) L) L) (E.foldl (fun f e => addF' e.count (nearE s d e) f) f)
  | [], L, f, h => h
  | e :: E, L, f, h => nbI_aux s d E (addI_rep e.count (nearE s d e) h)
theorem nbO_aux (s : ByteArray) (d : Int) : ∀ (E : List Entry) {L : List Entry} {f : ByteArray → Option Int}, Rep' L f → Asc ltE L → Rep' (E.foldl (fun L e => addO e.count (nearE s d e) L) L) (E.foldl (fun f e => addF' e.count (nearE s d e) f) f) ∧ Asc ltE (E.foldl (fun L e => addO e.count (nearE s d e) L) L)
  | [], L, f, h, h2 => ⟨h, h2⟩
  | e :: E, L, f, h, h2 => nbO_aux s d E (addO_rep e.count (nearE s d e) h h2).1 (addO_rep e.count (nearE s d e) h h2).2
theorem nbI_rep (s : ByteArray) (d : Int) (E : List Entry) : Rep' (nbI s d E) (nbF s d E) := nbI_aux s d E Rep'.nil
theorem nbO_rep (s : ByteArray) (d : Int) (E : List Entry) : Rep' (nbO s d E) (nbF s d E) ∧ Asc ltE (nbO s d E) := nbO_aux s d E Rep'.nil .nil
theorem nbIO (s : ByteArray) (d : Int) (E : List Entry) : insAll ltE (nbI s d E) = nbO s d E ∧ (nbI s d E).Pairwise fun a b => ltE a b = true ∨ ltE b a = true := by
  have h1 := nbI_rep s d E
  obtain ⟨h2, h3⟩ := nbO_rep s d E
  have hp : (nbI s d E).Pairwise fun a b => ltE a b = true ∨ ltE b a = true := h1.nd.imp fun h => ltE_ne h
  refine ⟨(insAll_unique ltE_strict hp (h2.perm h1) ?_).symm, hp⟩
  exact List.Pairwise.imp (fun h => ltE_strict.asymm h) h3
/-! ## one more -/
theorem addI_succ (c : Int) {ns : List ByteArray} {j : Nat} (hj : j < ns.length) (L : List Entry) : addI c (ns.take (j + 1)) L = bump (addI c (ns.take j) L) ns[j] c := by
  unfold addI; rw [List.take_succ_eq_append_getElem hj, List.foldl_append]; rfl
theorem addO_succ (c : Int) {ns : List ByteArray} {j : Nat} (hj : j < ns.length) (L : List Entry) : addO c (ns.take (j + 1)) L = insB (addO c (ns.take j) L) ns[j] c := by
  unfold addO; rw [List.take_succ_eq_append_getElem hj, List.foldl_append]; rfl
theorem nbI_succ (s : ByteArray) (d : Int) {E : List Entry} {k : Nat} (hk : k < E.length) : nbI s d (E.take (k + 1)) = addI E[k].count (nearE s d E[k]) (nbI s d (E.take k)) := by
  unfold nbI; rw [List.take_succ_eq_append_getElem hk, List.foldl_append]; rfl
theorem nbO_succ (s : ByteArray) (d : Int) {E : List Entry} {k : Nat} (hk : k < E.length) : nbO s d (E.take (k + 1)) = addO E[k].count (nearE s d E[k]) (nbO s d (E.take k)) := by
  unfold nbO; rw [List.take_succ_eq_append_getElem hk, List.foldl_append]; rfl
theorem nbF_succ (s : ByteArray) (d : Int) {E : List Entry} {k : Nat} (hk : k < E.length) : nbF s d (E.take (k + 1)) = addF' E[k].count (nearE s d E[k]) (nbF s d (E.take k)) := by
  unfold nbF; rw [List.take_succ_eq_append_getElem hk, List.foldl_append]; rfl
theorem sumE_succ {E : List Entry} {k : Nat} (hk : k < E.length) : sumE (E.take (k + 1)) = sumE (E.take k) + E[k].count := by
  unfold sumE; rw [List.take_succ_eq_append_getElem hk, List.map_append, List.sum_append]; simp
/-! ## how large the counts are -/
theorem nearK_nodup (s : ByteArray) (d : Int) (ns : List ByteArray) : ∀ k, (nearK s d ns k).Nodup
  | 0 => by simp [nearK]
  | k + 1 => by
    have ih := nearK_nodup s d ns k
    rw [nearK]
    split
    · rename_i h
      rw [List.nodup_append]
      refine ⟨ih, by simp, fun a ha b hb => ?_⟩
      simp only [List.mem_cons, List.not_mem_nil, or_false] at hb
      rw [hb]
      exact fun e => h.2.2.2 (by rw [← e]; exact ha)
    · exact ih
def Bd (f : ByteArray → Option Int) (S : Int) (ns : List ByteArray) (c : Int) : Prop := ∀ t n, f t = some n → 0 ≤ n ∧ n ≤ S + (if t ∈ ns then c else 0)
theorem addF_bd {c S : Int} (hc : 0 ≤ c) (hS : 0 ≤ S) {f : ByteArray → Option Int} (h : Bd f S [] c) {ns : List ByteArray} (hn : ns.Nodup) : ∀ j, j ≤ ns.length → Bd (addF' c (ns.take j) f) S (ns.take j) c
  | 0, _ => by simpa [addF'] using h
  | j + 1, hj => by
    have ih := addF_bd hc hS h hn j (by omega)
    have hj' : j < ns.length := by omega
    have hnot : ns[j] ∉ ns.take j := fun hm => by
      obtain ⟨i, hi, he⟩ := List.mem_take_iff_getElem.1 hm
      have := (List.pairwise_iff_getElem.1 hn) i j (by omega) hj' (by omega)
      exact this he
    intro t n ht
    have e1 : addF' c (ns.take (j + 1)) f = updF (addF' c (ns.take j) f) ns[j] c := by
      unfold addF'; rw [List.take_succ_eq_append_getElem hj', List.foldl_append]; rfl
    rw [e1] at ht
    unfold updF at ht
    rw [List.take_succ_eq_append_getElem hj']
    by_cases h1 : t = ns[j]
    · rw [if_pos h1] at ht
      simp only [Option.some.injEq] at ht
      rw [if_pos (List.mem_append_right _ (List.mem_singleton.2 h1))]
      cases hq : addF' c (ns.take j) f ns[j] with
      | none => rw [hq] at ht; simp only [Option.getD_none] at ht; omega
      | some m =>
        have := ih _ _ hq
        rw [if_neg hnot] at this
        rw [hq] at ht; simp only [Option.getD_some] at ht; omega
    · rw [if_neg h1] at ht
      have := ih _ _ ht
      have e2 : (t ∈ ns.take j ++ [ns[j]]) ↔ t ∈ ns.take j := by rw [List.mem_append, List.mem_singleton]; exact ⟨fun h => h.resolve_right h1, .inl⟩
      simp only [e2]; exact this
theorem nbF_bd (s : ByteArray) (d : Int) {E : List Entry} (h : ∀ e ∈ E, 0 ≤ e.count) : ∀ k, k ≤ E.length → ∀ c, Bd (nbF s d (E.take k)) (sumE (E.take k)) [] c ∧ 0 ≤ sumE (E.take k)
  | 0, _, c => ⟨fun t n ht => by simp [nbF] at ht, by simp [sumE]⟩
  | k + 1, hk, c => by
    have hk' : k < E.length := by omega
    obtain ⟨ih, h0⟩ := nbF_bd s d h k (by omega) E[k].count
    have hc := h _ (List.getElem_mem hk')
    have h1 := addF_bd hc h0 ih (nearK_nodup s d (namesE E[k]) (namesE E[k]).length) _ (Nat.le_refl _)
    rw [List.take_length] at h1
    rw [sumE_succ hk', nbF_succ s d hk']
    refine ⟨fun t n ht => ?_, by omega⟩
    have := h1 t n ht
    simp only [List.not_mem_nil, if_false]
    split at this <;> omega
/-- what stands for a name that has not come up yet in this entry -/
theorem nb_room {s : ByteArray} {d : Int} {E : List Entry} (h : ∀ e ∈ E, 0 ≤ e.count) {k : Nat} (hk : k < E.length) {j : Nat} (hj : j < (nearE s d E[k]).length) {n : Int}
    (hn : addF' E[k].count ((nearE s d E[k]).take j) (nbF s d (E.take k)) (nearE s d E[k])[j] = some n) : 0 ≤ n ∧ n + E[k].count ≤ sumE (E.take (k + 1)) := by
  obtain ⟨h1, h0⟩ := nbF_bd s d h k (by omega) E[k].count
  have hc := h _ (List.getElem_mem hk)
  have hnd := nearK_nodup s d (namesE E[k]) (namesE E[k]).length
  have h2 := addF_bd hc h0 h1 hnd j (by unfold nearE at hj; omega)
  have h3 : 0 ≤ n ∧ n ≤ sumE (E.take k) + (if (nearE s d E[k])[j] ∈ (nearE s d E[k]).take j then E[k].count else 0) := h2 _ _ hn
  have hnot : (nearE s d E[k])[j] ∉ (nearE s d E[k]).take j := fun hm => by
    obtain ⟨i, hi, he⟩ := List.mem_take_iff_getElem.1 hm
    have := (List.pairwise_iff_getElem.1 hnd) i j (by unfold nearE at hj; omega) (by unfold nearE at hj; omega) (by omega)
    exact this he
  rw [if_neg hnot] at h3
  rw [sumE_succ hk]
  omega
end Go.Proofs.YtahcfcimfcjhhaaGreatDoor

namespace Go.Proofs.YtahcfcimfcjhhaaGreatDoor
open Go.Vc
attribute [local go_sem] St.runR St.runW St.stepV offV St.step St.stepU St.stepG mkCond guardB St.prK St.pr St.prLen St.eff St.callE St.callD St.callF St.callL aI aB aS aR aC St.isM St.argL Ctr.pure Ctr.lend Ctr.move Ctr.isL Ctr.wri pur len lentBy St.lentV St.lent1 nthS argsR restOf obsR pairs swapL unObs backL St.resL erL SV.ren1 SV.up SV.up2 Ob.up St.fzL cellIds partIds St.intoRow SV.ownId St.fz SV.fz1 St.prep St.mvL St.mv SV.re1 rnOk St.prEq vals eqCells scEq Value.kd St.prStr St.prCut cutR St.bnd St.prMin St.bld isShift outL retL outJ oR oC St.ev St.get St.put St.new St.kill SV.kill SV.kill1 Ob.kill St.app St.wrt St.rowsOf St.res St.killL lk er argsL SV.strip SV.need SV.share SV.share1 SV.owns SV.owns1 SV.owns2 SV.good SV.good1 SV.rok SV.rok1 SV.rok2 SV.isV SV.isV2 nodupN SV.cells SV.one SV.pur Ob.pb partsIn rowsIn splice cellsAt dstOk scal2 scal1 thenK blockK retK outK outs okC okL okA okT nilC nilL nilA nilT keepC keepL keepA keepT St.runG St.dltK St.least St.clean St.final St.hide offK badS badO SV.refs SV.leaf SV.leaf2 Ob.refs dlOk fpAt Go.Vc.cover tups SV.ofAgg St.out outC subL St.has rng wr Value.oneCell' Option.isSome_some Option.isSome_none List.nil_append Bool.false_eq_true List.map_cons List.map_nil List.all_cons List.all_nil List.length_cons List.length_nil List.drop_zero List.drop_succ_cons List.take_succ_cons List.take_zero List.drop_nil List.take_nil List.getElem?_cons_zero List.getElem?_cons_succ List.getElem?_nil List.cons_append List.nil_append List.append_nil List.append_assoc List.flatMap_cons List.flatMap_nil List.contains_cons List.contains_nil List.set_cons_zero List.set_cons_succ List.getElem?_toArray Option.getD_some Option.getD_none Option.map_some Option.map_none Option.bind_some Option.some.injEq Prod.mk.injEq if_true if_false true_and and_true and_self and_false false_and Bool.and_false Bool.false_and Bool.or_true Bool.true_or Bool.or_false Bool.false_or ne_eq not_true_eq_false not_false_eq_true decide_true decide_false List.mem_cons List.not_mem_nil List.filter_cons List.filter_nil List.any_cons List.any_nil List.isEmpty_nil List.isEmpty_cons Option.getD_none or_false false_or true_or or_true forall_eq_or_imp forall_eq reduceCtorEq exists_eq exists_eq' exists_eq_left' exists_eq_left exists_eq_right exists_eq_right' imp_self implies_true Bool.and_true Bool.true_and Bool.and_self beq_self_eq_true List.replicate_succ List.replicate_zero forall_const false_implies pickB_or pickB_and beqT beqF Int.toNat_natCast List.length_map List.length_replicate ge_iff_le gt_iff_lt decide_eq_true_eq decide_eq_false_iff_not Bool.and_eq_true Bool.or_eq_true Bool.not_eq_true' Bool.not_eq_false' condG List.toList_toArray Bool.or_eq_false_iff Bool.and_eq_false_iff Int.not_lt Int.not_le beq_iff_eq beq_eq_false_iff_ne bne_iff_ne bne_eq_false_iff_eq ne_eq Bool.not_true Bool.not_false exists_and_left
section
open Go.Vc
set_option linter.unusedSimpArgs false
set_option linter.unusedVariables false
set_option maxHeartbeats 1000000
attribute [local irreducible] Go.Vc.WP
attribute [local go_sem] cx0_t cx0_c

structure TableRow where
  name : ByteArray
  self : Int
  total : Int
deriving DecidableEq
def encTableRow (x : TableRow) : List SV := [.v (.string x.name), .v (.int .i64 x.self), .v (.int .i64 x.total)]
def oneTableRow : List SV → TableRow
  | [.v (.string name), .v (.int _ self), .v (.int _ total)] => ⟨name, self, total⟩
  | _ => ⟨⟨#[]⟩, 0, 0⟩
def decTableRow (rows : List (List SV)) : List TableRow := rows.map oneTableRow
theorem oneTableRow_enc (x : TableRow) : oneTableRow (encTableRow x) = x := rfl
theorem decTableRow_enc (L : List TableRow) : decTableRow (L.map encTableRow) = L := by
  unfold decTableRow
  rw [List.map_map]
  exact List.map_id'' oneTableRow_enc L
theorem isV_TableRow {e s : Nat} (L : List TableRow) : (Ob.sl e s (L.map encTableRow)).isV ↔ True := iff_true_intro (by
  intro row hr c hc
  obtain ⟨n, _, rfl⟩ := List.mem_map.1 hr
  simp only [encTableRow, List.mem_cons, List.not_mem_nil, or_false] at hc
  rcases hc with rfl | rfl | rfl <;> exact ⟨_, rfl⟩)
def zerTableRow : List SV := [.v (.string ⟨#[]⟩), .v (.int .i64 0), .v (.int .i64 0)]

def ktoTableRow : Ctr := pur (fun args => oneTableRow (aC args 0)) (fun x => [.agg (encTableRow x)]) (fun _ => True) (fun _ x => .agg (encTableRow x)) (fun _ _ => [])
section
attribute [local go_sem] ktoTableRow oneTableRow
end

def keqTableRow : Ctr := pur (fun args => (oneTableRow (aC args 0), oneTableRow (aC args 1))) (fun x => [.agg (encTableRow x.1), .agg (encTableRow x.2)]) (fun _ => True) (fun _ x => .v (.bool (decide (x.1 = x.2)))) (fun _ _ => [])
def keqTableRowS : Ctr := pur (fun args => (decTableRow (aR args 0), decTableRow (aR args 1))) (fun x => [.sl 3 (x.1.map encTableRow), .sl 3 (x.2.map encTableRow)]) (fun x => x.1.length ≤ 4398046511104) (fun _ x => .v (.bool (decide (x.1 = x.2)))) (fun _ _ => [])
section
attribute [local go_sem] keqTableRow oneTableRow
end

def kszTableRow : Ctr := pur (fun args => (oneTableRow (aC args 0), aI args 1)) (fun x => [.agg (encTableRow x.1), .v (.int .i64 x.2)]) (fun x => x.1.name.size ≤ maxLen ∧ 0 ≤ x.2 ∧ x.2 ≤ 1048576)
  (fun _ x => .v (.int .i64 (if x.2 - x.1.name.size < 0 then -1 else x.2 - x.1.name.size))) (fun _ _ => [])
def sizesTableRow (L : List TableRow) : List Nat := L.map fun x => x.name.size
def szvTableRow (L : List TableRow) (left : Int) : Int := if left - L.length < 0 then -1 else szGo (sizesTableRow L) (left - L.length)
def kszTableRowS : Ctr := pur (fun args => (decTableRow (aR args 0), aI args 1)) (fun x => [.sl 3 (x.1.map encTableRow), .v (.int .i64 x.2)]) (fun x => x.1.length ≤ maxLen ∧ (∀ r ∈ x.1, r.name.size ≤ maxLen) ∧ 0 ≤ x.2 ∧ x.2 ≤ 1048576)
  (fun _ x => .v (.int .i64 (szvTableRow x.1 x.2))) (fun _ _ => [])
section
attribute [local go_sem] kszTableRow oneTableRow
end
theorem szvTableRow_ok {L : List TableRow} (h : ¬ szvTableRow L 1048576 < 0) : L.length ≤ 1048576 ∧ ∀ x ∈ L, x.name.size ≤ 1048576 := by
  unfold szvTableRow at h
  split at h
  · omega
  · rename_i h2
    refine ⟨by omega, fun x hx => ?_⟩
    have := szGo_ok (sizesTableRow L) _ (by omega) (Int.not_lt.1 h) x.name.size (List.mem_map.2 ⟨x, hx, rfl⟩)
    omega

section
open Go.RowKit Go.WideShapes Go.ChangeShapes Go.Deep
end
end
end Go.Proofs.YtahcfcimfcjhhaaGreatDoor
