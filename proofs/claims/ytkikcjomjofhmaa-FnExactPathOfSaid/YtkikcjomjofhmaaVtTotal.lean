/-
  DERIVED. TreeTotal, of the reference and of the program, and its law's function.
-/
import Derived.Test.YtkikcjomjofhmaaVtTreeOkL
namespace Go.Proofs.Ytkikcjomjofhmaa
open Go.Vc
set_option linter.unusedSimpArgs false
set_option linter.unusedVariables false
set_option maxHeartbeats 1000000
set_option maxRecDepth 10000
attribute [local go_sem] St.runR St.runW St.stepV St.step St.stepU St.stepG mkCond guardB St.prK St.pr St.prLen St.eff St.callE St.callD St.callF St.callL aI aB aS aR aC St.isM St.argL Ctr.pure Ctr.lend Ctr.move Ctr.isL Ctr.wri pur len lentBy St.lentV St.lent1 nthS argsR restOf obsR pairs swapL unObs backL St.resL erL SV.ren1 SV.up SV.up2 Ob.up St.fzL cellIds partIds St.intoRow SV.ownId St.fz SV.fz1 St.prep St.mvL St.mv SV.re1 rnOk St.prEq vals eqCells scEq Value.kd St.prStr St.prCut cutR St.bnd St.prMin St.bld isShift outL retL outJ oR oC St.ev St.get St.put St.new St.kill SV.kill SV.kill1 Ob.kill St.app St.wrt St.rowsOf St.res St.killL lk er argsL SV.strip SV.need SV.share SV.share1 SV.owns SV.owns1 SV.owns2 SV.good SV.good1 SV.rok SV.rok1 SV.rok2 SV.isV SV.isV2 nodupN SV.cells SV.one SV.pur partsIn rowsIn splice cellsAt dstOk scal2 scal1 thenK blockK retK outK outs okC okL okA okT nilC nilL nilA nilT keepC keepL keepA keepT St.runG St.dltK St.least St.clean St.final St.hide offK badS badO SV.refs SV.leaf SV.leaf2 Ob.refs dlOk fpAt Go.Vc.cover tups SV.ofAgg St.out outC subL St.has rng wr Value.oneCell' Option.isSome_some Option.isSome_none List.nil_append Bool.false_eq_true List.map_cons List.map_nil List.all_cons List.all_nil List.length_cons List.length_nil List.drop_zero List.drop_succ_cons List.take_succ_cons List.take_zero List.drop_nil List.take_nil List.getElem?_cons_zero List.getElem?_cons_succ List.getElem?_nil List.cons_append List.nil_append List.append_nil List.append_assoc List.flatMap_cons List.flatMap_nil List.contains_cons List.contains_nil List.set_cons_zero List.set_cons_succ List.getElem?_toArray Option.getD_some Option.getD_none Option.map_some Option.map_none Option.bind_some Option.some.injEq Prod.mk.injEq if_true if_false true_and and_true and_self and_false false_and Bool.and_false Bool.false_and Bool.or_true Bool.true_or Bool.or_false Bool.false_or ne_eq not_true_eq_false not_false_eq_true decide_true decide_false List.mem_cons List.not_mem_nil List.filter_cons List.filter_nil List.any_cons List.any_nil List.isEmpty_nil List.isEmpty_cons Option.getD_none or_false false_or true_or or_true forall_eq_or_imp forall_eq reduceCtorEq exists_eq exists_eq' exists_eq_left' exists_eq_left exists_eq_right exists_eq_right' imp_self implies_true Bool.and_true Bool.true_and Bool.and_self beq_self_eq_true List.replicate_succ List.replicate_zero forall_const false_implies pickB_or pickB_and beqT beqF Int.toNat_natCast List.length_map List.length_replicate ge_iff_le gt_iff_lt decide_eq_true_eq decide_eq_false_iff_not Bool.and_eq_true Bool.or_eq_true Bool.not_eq_true' Bool.not_eq_false' condG List.toList_toArray Bool.or_eq_false_iff Bool.and_eq_false_iff Int.not_lt Int.not_le beq_iff_eq beq_eq_false_iff_ne bne_iff_ne bne_eq_false_iff_eq ne_eq Bool.not_true Bool.not_false exists_and_left
attribute [local irreducible] Go.Vc.WP
attribute [local go_sem] cx0_t cx0_c
noncomputable def cxTt : Cx := { P := Try.prog, tys := tys, C := [(34, kTreeOk), (36, kTreeOk)], hty := tysOk, hC := COk.cons cTreeOkS (COk.cons cTreeOkI (COk.nil _)) }
theorem cxTt_t : cxTt.tys = tys := rfl
theorem cxTt_c : cxTt.C = [(34, kTreeOk), (36, kTreeOk)] := rfl
attribute [local go_sem] cxTt_t cxTt_c kTreeOk
def treeTotal (L : List TreeNode) : Int := if treeOk L = true then (if below L (-1) L.length > 1000000000000 then 0 else below L (-1) L.length) else 0
theorem treeOk_nodes {L : List TreeNode} (h : treeOk L = true) : ∀ j (hj : j < L.length), nodeOk j L[j] = true := by
  unfold treeOk at h
  rw [Bool.and_eq_true, decide_eq_true_eq] at h
  exact h.1
def kTreeTotal : Ctr := pur (fun args => decTreeNode (aR args 0)) (fun L => [.sl 4 (L.map encTreeNode)]) (fun L => L.length ≤ 1048576 ∧ ∀ x ∈ L, x.name.size ≤ 1048576) (fun _ L => .v (.int .i64 (treeTotal L))) (fun _ _ => [])
theorem cTreeTotalS : Cn Try.prog 38 kTreeTotal := by
  refine Cn.pur Try.func38 (by kernel_rfl) rfl fun d x hx => ?_
  obtain ⟨hL, hs⟩ := hx
  refine Holds.go (c := cxTt) Try.func38 rfl Try.results38 Try.ntmps38 (by omega) (by simp) rfl ?_
  intro X0 w0
  have hs' : ∀ (y : TreeNode), y ∈ x → y.name.size ≤ 1048576 := hs
  (repeat' (first | refine WP.seq ?_ | (refine WP.region ?_; simp only [go_sem, decTreeNode_enc, tyAll, Nat.reduceAdd, Nat.reduceLT, Nat.reduceLeDiff, Nat.reduceEqDiff, Nat.reduceMul, Nat.reduceSub, Nat.reduceGT, reduceIte, Int.reduceNeg, Int.reduceToNat]) | refine WP.block ?_ | (refine WP.condW ?_; simp only [go_sem, decTreeNode_enc, tyAll, Nat.reduceAdd, Nat.reduceLT, Nat.reduceLeDiff, Nat.reduceEqDiff, Nat.reduceMul, Nat.reduceSub, Nat.reduceGT, reduceIte, Int.reduceNeg, Int.reduceToNat]) | (refine WP.ret ?_; simp only [go_sem, decTreeNode_enc, tyAll, Nat.reduceAdd, Nat.reduceLT, Nat.reduceLeDiff, Nat.reduceEqDiff, Nat.reduceMul, Nat.reduceSub, Nat.reduceGT, reduceIte, Int.reduceNeg, Int.reduceToNat]) | (refine WP.exit ?_; simp only [go_sem, decTreeNode_enc, tyAll, Nat.reduceAdd, Nat.reduceLT, Nat.reduceLeDiff, Nat.reduceEqDiff, Nat.reduceMul, Nat.reduceSub, Nat.reduceGT, reduceIte, Int.reduceNeg, Int.reduceToNat]) | (refine WP.skip ?_; simp only [go_sem, decTreeNode_enc, tyAll, Nat.reduceAdd, Nat.reduceLT, Nat.reduceLeDiff, Nat.reduceEqDiff, Nat.reduceMul, Nat.reduceSub, Nat.reduceGT, reduceIte, Int.reduceNeg, Int.reduceToNat]) |  refine And.intro ?_ ?_ | intro _))
  all_goals first | omega | exact hs _ ‹_› | skip
  refine WP.loop (fun k : Nat => ⟨[(0, .sl 4 (x.map encTreeNode)), (3, .v (.int .i64 (if treeOk x = true then below x (-1) k else 0))), (4, .v (.bool (treeOk x))), (5, .v (.int .i64 k))], []⟩) (fun k => k ≤ x.length) (fun k => x.length - k) 0 (by simp) ?_ ?_
  · simp only [go_sem, below_zero, tyAll, Nat.reduceAdd, Nat.reduceLT, Nat.reduceLeDiff, Nat.reduceEqDiff, Nat.reduceMul, Nat.reduceSub, Nat.reduceGT, reduceIte, Int.reduceNeg, Int.reduceToNat]; simp
  intro k hk
  cases hok : treeOk x with
  | true =>
    have hb := below_bound (L := x) (-1) k hk (fun j hj _ => treeOk_nodes hok j hj)
    simp only [if_true]
    by_cases hlt : k < x.length
    · have h1 := rowAt_map encTreeNode x k hlt
      have h2 := below_succ x (-1) k hlt
      have h3 := nodeOk_iff.1 (treeOk_nodes hok k hlt)
      (repeat' (first | refine WP.seq ?_ | (refine WP.region ?_; simp only [go_sem, h1, encTreeNode, tyAll, Nat.reduceAdd, Nat.reduceLT, Nat.reduceLeDiff, Nat.reduceEqDiff, Nat.reduceMul, Nat.reduceSub, Nat.reduceGT, reduceIte, Int.reduceNeg, Int.reduceToNat]) | refine WP.block ?_ | (refine WP.condW ?_; simp only [go_sem, h1, encTreeNode, tyAll, Nat.reduceAdd, Nat.reduceLT, Nat.reduceLeDiff, Nat.reduceEqDiff, Nat.reduceMul, Nat.reduceSub, Nat.reduceGT, reduceIte, Int.reduceNeg, Int.reduceToNat]) | (refine WP.ret ?_; simp only [go_sem, h1, encTreeNode, tyAll, Nat.reduceAdd, Nat.reduceLT, Nat.reduceLeDiff, Nat.reduceEqDiff, Nat.reduceMul, Nat.reduceSub, Nat.reduceGT, reduceIte, Int.reduceNeg, Int.reduceToNat]) | (refine WP.exit ?_; simp only [go_sem, h1, encTreeNode, tyAll, Nat.reduceAdd, Nat.reduceLT, Nat.reduceLeDiff, Nat.reduceEqDiff, Nat.reduceMul, Nat.reduceSub, Nat.reduceGT, reduceIte, Int.reduceNeg, Int.reduceToNat]) | (refine WP.skip ?_; simp only [go_sem, h1, encTreeNode, tyAll, Nat.reduceAdd, Nat.reduceLT, Nat.reduceLeDiff, Nat.reduceEqDiff, Nat.reduceMul, Nat.reduceSub, Nat.reduceGT, reduceIte, Int.reduceNeg, Int.reduceToNat]) |  refine And.intro ?_ ?_ | intro _))
      all_goals first | omega | skip
      · rename_i hp
        rw [if_pos hp] at h2
        exact ⟨k + 1, by omega, by omega, by rw [h2], rfl⟩
      · rename_i hp
        rw [if_neg hp, Int.add_zero] at h2
        exact ⟨k + 1, by omega, by omega, by rw [h2], rfl⟩
    · have hke : k = x.length := by omega
      subst hke
      (repeat' (first | refine WP.seq ?_ | (refine WP.region ?_; simp only [go_sem, tyAll, Nat.reduceAdd, Nat.reduceLT, Nat.reduceLeDiff, Nat.reduceEqDiff, Nat.reduceMul, Nat.reduceSub, Nat.reduceGT, reduceIte, Int.reduceNeg, Int.reduceToNat]) | refine WP.block ?_ | (refine WP.condW ?_; simp only [go_sem, tyAll, Nat.reduceAdd, Nat.reduceLT, Nat.reduceLeDiff, Nat.reduceEqDiff, Nat.reduceMul, Nat.reduceSub, Nat.reduceGT, reduceIte, Int.reduceNeg, Int.reduceToNat]) | (refine WP.ret ?_; simp only [go_sem, tyAll, Nat.reduceAdd, Nat.reduceLT, Nat.reduceLeDiff, Nat.reduceEqDiff, Nat.reduceMul, Nat.reduceSub, Nat.reduceGT, reduceIte, Int.reduceNeg, Int.reduceToNat]) | (refine WP.exit ?_; simp only [go_sem, tyAll, Nat.reduceAdd, Nat.reduceLT, Nat.reduceLeDiff, Nat.reduceEqDiff, Nat.reduceMul, Nat.reduceSub, Nat.reduceGT, reduceIte, Int.reduceNeg, Int.reduceToNat]) | (refine WP.skip ?_; simp only [go_sem, tyAll, Nat.reduceAdd, Nat.reduceLT, Nat.reduceLeDiff, Nat.reduceEqDiff, Nat.reduceMul, Nat.reduceSub, Nat.reduceGT, reduceIte, Int.reduceNeg, Int.reduceToNat]) |  refine And.intro ?_ ?_ | intro _))
      all_goals first | omega | skip
      · rename_i h; simp [treeTotal, hok]; omega
      · rename_i h; simp [treeTotal, hok]; omega
  | false =>
    simp only [Bool.false_eq_true, if_false]
    (repeat' (first | refine WP.seq ?_ | (refine WP.region ?_; simp only [go_sem, tyAll, Nat.reduceAdd, Nat.reduceLT, Nat.reduceLeDiff, Nat.reduceEqDiff, Nat.reduceMul, Nat.reduceSub, Nat.reduceGT, reduceIte, Int.reduceNeg, Int.reduceToNat]) | refine WP.block ?_ | (refine WP.condW ?_; simp only [go_sem, tyAll, Nat.reduceAdd, Nat.reduceLT, Nat.reduceLeDiff, Nat.reduceEqDiff, Nat.reduceMul, Nat.reduceSub, Nat.reduceGT, reduceIte, Int.reduceNeg, Int.reduceToNat]) | (refine WP.ret ?_; simp only [go_sem, tyAll, Nat.reduceAdd, Nat.reduceLT, Nat.reduceLeDiff, Nat.reduceEqDiff, Nat.reduceMul, Nat.reduceSub, Nat.reduceGT, reduceIte, Int.reduceNeg, Int.reduceToNat]) | (refine WP.exit ?_; simp only [go_sem, tyAll, Nat.reduceAdd, Nat.reduceLT, Nat.reduceLeDiff, Nat.reduceEqDiff, Nat.reduceMul, Nat.reduceSub, Nat.reduceGT, reduceIte, Int.reduceNeg, Int.reduceToNat]) | (refine WP.skip ?_; simp only [go_sem, tyAll, Nat.reduceAdd, Nat.reduceLT, Nat.reduceLeDiff, Nat.reduceEqDiff, Nat.reduceMul, Nat.reduceSub, Nat.reduceGT, reduceIte, Int.reduceNeg, Int.reduceToNat]) |  refine And.intro ?_ ?_ | intro _))
    all_goals first | omega | skip
    all_goals simp [treeTotal, hok]
theorem cTreeTotalI : Cn Try.prog 39 kTreeTotal := by
  refine Cn.pur Try.func39 (by kernel_rfl) rfl fun d x hx => ?_
  obtain ⟨hL, hs⟩ := hx
  refine Holds.go (c := cxTt) Try.func39 rfl Try.results39 Try.ntmps39 (by omega) (by simp) rfl ?_
  intro X0 w0
  (repeat' (first | refine WP.seq ?_ | (refine WP.region ?_; simp only [go_sem, decTreeNode_enc, tyAll, Nat.reduceAdd, Nat.reduceLT, Nat.reduceLeDiff, Nat.reduceEqDiff, Nat.reduceMul, Nat.reduceSub, Nat.reduceGT, reduceIte, Int.reduceNeg, Int.reduceToNat]) | refine WP.block ?_ | (refine WP.condW ?_; simp only [go_sem, decTreeNode_enc, tyAll, Nat.reduceAdd, Nat.reduceLT, Nat.reduceLeDiff, Nat.reduceEqDiff, Nat.reduceMul, Nat.reduceSub, Nat.reduceGT, reduceIte, Int.reduceNeg, Int.reduceToNat]) | (refine WP.ret ?_; simp only [go_sem, decTreeNode_enc, tyAll, Nat.reduceAdd, Nat.reduceLT, Nat.reduceLeDiff, Nat.reduceEqDiff, Nat.reduceMul, Nat.reduceSub, Nat.reduceGT, reduceIte, Int.reduceNeg, Int.reduceToNat]) | (refine WP.exit ?_; simp only [go_sem, decTreeNode_enc, tyAll, Nat.reduceAdd, Nat.reduceLT, Nat.reduceLeDiff, Nat.reduceEqDiff, Nat.reduceMul, Nat.reduceSub, Nat.reduceGT, reduceIte, Int.reduceNeg, Int.reduceToNat]) | (refine WP.skip ?_; simp only [go_sem, decTreeNode_enc, tyAll, Nat.reduceAdd, Nat.reduceLT, Nat.reduceLeDiff, Nat.reduceEqDiff, Nat.reduceMul, Nat.reduceSub, Nat.reduceGT, reduceIte, Int.reduceNeg, Int.reduceToNat]) |  refine And.intro ?_ ?_ | intro _))
  all_goals first | omega | exact hs _ ‹_› | skip
  · rename_i h; simp [treeTotal, h]
  rename_i hok
  refine WP.loop (fun k : Nat => ⟨[(3, .v (.int .i64 (below x (-1) k))), (9, .sl 4 (x.map encTreeNode)), (10, .v (.int .i64 x.length)), (11, .v (.int .i64 k))], []⟩) (fun k => k ≤ x.length) (fun k => x.length - k) 0 (by simp) ?_ ?_
  · simp only [go_sem, below_zero, tyAll, Nat.reduceAdd, Nat.reduceLT, Nat.reduceLeDiff, Nat.reduceEqDiff, Nat.reduceMul, Nat.reduceSub, Nat.reduceGT, reduceIte, Int.reduceNeg, Int.reduceToNat]; simp
  intro k hk
  have hb := below_bound (L := x) (-1) k hk (fun j hj _ => treeOk_nodes hok j hj)
  by_cases hlt : k < x.length
  · have h1 := rowAt_map encTreeNode x k hlt
    have h2 := below_succ x (-1) k hlt
    have h3 := nodeOk_iff.1 (treeOk_nodes hok k hlt)
    (repeat' (first | refine WP.seq ?_ | (refine WP.region ?_; simp only [go_sem, h1, encTreeNode, tyAll, Nat.reduceAdd, Nat.reduceLT, Nat.reduceLeDiff, Nat.reduceEqDiff, Nat.reduceMul, Nat.reduceSub, Nat.reduceGT, reduceIte, Int.reduceNeg, Int.reduceToNat]) | refine WP.block ?_ | (refine WP.condW ?_; simp only [go_sem, h1, encTreeNode, tyAll, Nat.reduceAdd, Nat.reduceLT, Nat.reduceLeDiff, Nat.reduceEqDiff, Nat.reduceMul, Nat.reduceSub, Nat.reduceGT, reduceIte, Int.reduceNeg, Int.reduceToNat]) | (refine WP.ret ?_; simp only [go_sem, h1, encTreeNode, tyAll, Nat.reduceAdd, Nat.reduceLT, Nat.reduceLeDiff, Nat.reduceEqDiff, Nat.reduceMul, Nat.reduceSub, Nat.reduceGT, reduceIte, Int.reduceNeg, Int.reduceToNat]) | (refine WP.exit ?_; simp only [go_sem, h1, encTreeNode, tyAll, Nat.reduceAdd, Nat.reduceLT, Nat.reduceLeDiff, Nat.reduceEqDiff, Nat.reduceMul, Nat.reduceSub, Nat.reduceGT, reduceIte, Int.reduceNeg, Int.reduceToNat]) | (refine WP.skip ?_; simp only [go_sem, h1, encTreeNode, tyAll, Nat.reduceAdd, Nat.reduceLT, Nat.reduceLeDiff, Nat.reduceEqDiff, Nat.reduceMul, Nat.reduceSub, Nat.reduceGT, reduceIte, Int.reduceNeg, Int.reduceToNat]) |  refine And.intro ?_ ?_ | intro _))
    all_goals first | omega | skip
    · rename_i hp
      rw [if_pos hp] at h2
      exact ⟨k + 1, by omega, by omega, by rw [h2]; (first | rfl | exact ⟨rfl, rfl⟩ | exact ⟨rfl, rfl, rfl⟩ | exact ⟨rfl, rfl, rfl, rfl⟩ | exact ⟨rfl, rfl, rfl, rfl, rfl⟩ | exact ⟨⟨rfl, rfl⟩, rfl⟩ | simp)⟩
    · rename_i hp
      rw [if_neg hp, Int.add_zero] at h2
      exact ⟨k + 1, by omega, by omega, by rw [h2]; (first | rfl | exact ⟨rfl, rfl⟩ | exact ⟨rfl, rfl, rfl⟩ | exact ⟨rfl, rfl, rfl, rfl⟩ | exact ⟨rfl, rfl, rfl, rfl, rfl⟩ | exact ⟨⟨rfl, rfl⟩, rfl⟩ | simp)⟩
  · have hke : k = x.length := by omega
    subst hke
    (repeat' (first | refine WP.seq ?_ | (refine WP.region ?_; simp only [go_sem, tyAll, Nat.reduceAdd, Nat.reduceLT, Nat.reduceLeDiff, Nat.reduceEqDiff, Nat.reduceMul, Nat.reduceSub, Nat.reduceGT, reduceIte, Int.reduceNeg, Int.reduceToNat]) | refine WP.block ?_ | (refine WP.condW ?_; simp only [go_sem, tyAll, Nat.reduceAdd, Nat.reduceLT, Nat.reduceLeDiff, Nat.reduceEqDiff, Nat.reduceMul, Nat.reduceSub, Nat.reduceGT, reduceIte, Int.reduceNeg, Int.reduceToNat]) | (refine WP.ret ?_; simp only [go_sem, tyAll, Nat.reduceAdd, Nat.reduceLT, Nat.reduceLeDiff, Nat.reduceEqDiff, Nat.reduceMul, Nat.reduceSub, Nat.reduceGT, reduceIte, Int.reduceNeg, Int.reduceToNat]) | (refine WP.exit ?_; simp only [go_sem, tyAll, Nat.reduceAdd, Nat.reduceLT, Nat.reduceLeDiff, Nat.reduceEqDiff, Nat.reduceMul, Nat.reduceSub, Nat.reduceGT, reduceIte, Int.reduceNeg, Int.reduceToNat]) | (refine WP.skip ?_; simp only [go_sem, tyAll, Nat.reduceAdd, Nat.reduceLT, Nat.reduceLeDiff, Nat.reduceEqDiff, Nat.reduceMul, Nat.reduceSub, Nat.reduceGT, reduceIte, Int.reduceNeg, Int.reduceToNat]) |  refine And.intro ?_ ?_ | intro _))
    all_goals first | omega | skip
    · rename_i h; simp [treeTotal, hok]; omega
    · rename_i h; simp [treeTotal, hok]; omega

noncomputable def cxTtl : Cx := { P := Try.prog, tys := tys, C := [(33, kszTreeNodeS), (35, ktoTreeNodeS), (37, keqTreeNodeS), (38, kTreeTotal), (39, kTreeTotal)], hty := tysOk, hC := COk.cons cszTreeNodeS (COk.cons ctoTreeNodeS (COk.cons ceqTreeNodeS (COk.cons cTreeTotalS (COk.cons cTreeTotalI (COk.nil _))))) }
theorem cxTtl_t : cxTtl.tys = tys := rfl
theorem cxTtl_c : cxTtl.C = [(33, kszTreeNodeS), (35, ktoTreeNodeS), (37, keqTreeNodeS), (38, kTreeTotal), (39, kTreeTotal)] := rfl
attribute [local go_sem] cxTtl_t cxTtl_c kszTreeNodeS ktoTreeNodeS keqTreeNodeS kTreeTotal
attribute [local go_sem] isV_TreeNode decTreeNode_enc
theorem lawTreeTotal (L : List TreeNode) (hL : L.length ≤ maxLen ∧ ∀ r ∈ L, r.name.size ≤ maxLen) : Holds Try.prog 8 [.sl 4 (L.map encTreeNode)] (.v (.bool true)) [] := by
  refine Holds.go (c := cxTtl) Try.func8 rfl Try.results8 Try.ntmps8 (by omega) (by simp) rfl ?_
  intro X0 w0
  have hm : maxLen = 9223372036854775807 := rfl
  obtain ⟨hL, hs⟩ := hL
  have key : 0 ≤ szvTreeNode L 1048576 → L.length ≤ 1048576 := fun h => (szvTreeNode_ok (by omega)).1
  have key2 : 0 ≤ szvTreeNode L 1048576 → ∀ x ∈ L, x.name.size ≤ 1048576 := fun h => (szvTreeNode_ok (by omega)).2
  (repeat' (first | refine WP.seq ?_ | (refine WP.region ?_; simp only [go_sem, tyAll, Nat.reduceAdd, Nat.reduceLT, Nat.reduceLeDiff, Nat.reduceEqDiff, Nat.reduceMul, Nat.reduceSub, Nat.reduceGT, reduceIte, Int.reduceNeg, Int.reduceToNat]) | refine WP.block ?_ | (refine WP.condW ?_; simp only [go_sem, tyAll, Nat.reduceAdd, Nat.reduceLT, Nat.reduceLeDiff, Nat.reduceEqDiff, Nat.reduceMul, Nat.reduceSub, Nat.reduceGT, reduceIte, Int.reduceNeg, Int.reduceToNat]) | (refine WP.ret ?_; simp only [go_sem, tyAll, Nat.reduceAdd, Nat.reduceLT, Nat.reduceLeDiff, Nat.reduceEqDiff, Nat.reduceMul, Nat.reduceSub, Nat.reduceGT, reduceIte, Int.reduceNeg, Int.reduceToNat]) | (refine WP.exit ?_; simp only [go_sem, tyAll, Nat.reduceAdd, Nat.reduceLT, Nat.reduceLeDiff, Nat.reduceEqDiff, Nat.reduceMul, Nat.reduceSub, Nat.reduceGT, reduceIte, Int.reduceNeg, Int.reduceToNat]) | (refine WP.skip ?_; simp only [go_sem, tyAll, Nat.reduceAdd, Nat.reduceLT, Nat.reduceLeDiff, Nat.reduceEqDiff, Nat.reduceMul, Nat.reduceSub, Nat.reduceGT, reduceIte, Int.reduceNeg, Int.reduceToNat]) |  refine And.intro ?_ ?_ | intro _))
  all_goals first | omega | exact ⟨_, _, _, rfl⟩ | exact hs _ ‹_› | exact key2 ‹_› _ ‹_› | skip
end Go.Proofs.Ytkikcjomjofhmaa
