/-
  DERIVED. PathOf, of the reference and of the program, and its law's function.
-/
import Derived.Test.YtkikcjomjofhmaaVtTotal
import Derived.Test.YtkikcjomjofhmaaVtMark
import Derived.Test.YtkikcjomjofhmaaVtRev
namespace Go.Proofs.Ytkikcjomjofhmaa
open Go.Vc
set_option linter.unusedSimpArgs false
set_option linter.unusedVariables false
set_option maxHeartbeats 1000000
set_option maxRecDepth 10000
attribute [local go_sem] St.runR St.runW St.stepV St.step St.stepU St.stepG mkCond guardB St.prK St.pr St.prLen St.eff St.callE St.callD St.callF St.callL aI aB aS aR aC St.isM St.argL Ctr.pure Ctr.lend Ctr.move Ctr.isL Ctr.wri pur len lentBy St.lentV St.lent1 nthS argsR restOf obsR pairs swapL unObs backL St.resL erL SV.ren1 SV.up SV.up2 Ob.up St.fzL cellIds partIds St.intoRow SV.ownId St.fz SV.fz1 St.prep St.mvL St.mv SV.re1 rnOk St.prEq vals eqCells scEq Value.kd St.prStr St.prCut cutR St.bnd St.prMin St.bld isShift outL retL outJ oR oC St.ev St.get St.put St.new St.kill SV.kill SV.kill1 Ob.kill St.app St.wrt St.rowsOf St.res St.killL lk er argsL SV.strip SV.need SV.share SV.share1 SV.owns SV.owns1 SV.owns2 SV.good SV.good1 SV.rok SV.rok1 SV.rok2 SV.isV SV.isV2 nodupN SV.cells SV.one SV.pur partsIn rowsIn splice cellsAt dstOk scal2 scal1 thenK blockK retK outK outs okC okL okA okT nilC nilL nilA nilT keepC keepL keepA keepT St.runG St.dltK St.least St.clean St.final St.hide offK badS badO SV.refs SV.leaf SV.leaf2 Ob.refs dlOk fpAt Go.Vc.cover tups SV.ofAgg St.out outC subL St.has rng wr Value.oneCell' Option.isSome_some Option.isSome_none List.nil_append Bool.false_eq_true List.map_cons List.map_nil List.all_cons List.all_nil List.length_cons List.length_nil List.drop_zero List.drop_succ_cons List.take_succ_cons List.take_zero List.drop_nil List.take_nil List.getElem?_cons_zero List.getElem?_cons_succ List.getElem?_nil List.cons_append List.nil_append List.append_nil List.append_assoc List.flatMap_cons List.flatMap_nil List.contains_cons List.contains_nil List.set_cons_zero List.set_cons_succ List.getElem?_toArray Option.getD_some Option.getD_none Option.map_some Option.map_none Option.bind_some Option.some.injEq Prod.mk.injEq if_true if_false true_and and_true and_self and_false false_and Bool.and_false Bool.false_and Bool.or_true Bool.true_or Bool.or_false Bool.false_or ne_eq not_true_eq_false not_false_eq_true decide_true decide_false List.mem_cons List.not_mem_nil List.filter_cons List.filter_nil List.any_cons List.any_nil List.isEmpty_nil List.isEmpty_cons Option.getD_none or_false false_or true_or or_true forall_eq_or_imp forall_eq reduceCtorEq exists_eq exists_eq' exists_eq_left' exists_eq_left exists_eq_right exists_eq_right' imp_self implies_true Bool.and_true Bool.true_and Bool.and_self beq_self_eq_true List.replicate_succ List.replicate_zero forall_const false_implies pickB_or pickB_and beqT beqF Int.toNat_natCast List.length_map List.length_replicate ge_iff_le gt_iff_lt decide_eq_true_eq decide_eq_false_iff_not Bool.and_eq_true Bool.or_eq_true Bool.not_eq_true' Bool.not_eq_false' condG List.toList_toArray Bool.or_eq_false_iff Bool.and_eq_false_iff Int.not_lt Int.not_le beq_iff_eq beq_eq_false_iff_ne bne_iff_ne bne_eq_false_iff_eq ne_eq Bool.not_true Bool.not_false exists_and_left
attribute [local irreducible] Go.Vc.WP
attribute [local go_sem] cx0_t cx0_c
/-- the names from node k up to a root -/
def pathUp (L : List TreeNode) : Nat → Int → List ByteArray
  | 0, _ => []
  | f + 1, k => if k < 0 then [] else match L[k.toNat]? with
    | some x => x.name :: pathUp L f x.parent
    | none => []
def pathOf (L : List TreeNode) (k : Int) : List ByteArray := if treeOk L = true ∧ 0 ≤ k ∧ k < L.length then (pathUp L (k.toNat + 1) k).reverse else []
theorem pathUp_len (L : List TreeNode) : ∀ f k, (pathUp L f k).length ≤ f
  | 0, _ => by simp [pathUp]
  | f + 1, k => by
    rw [pathUp]
    split
    · simp
    · split
      · rename_i x _
        have := pathUp_len L f x.parent
        simp only [List.length_cons]; omega
      · simp
theorem pathUp_neg (L : List TreeNode) (f : Nat) (k : Int) (h : k < 0) : pathUp L f k = [] := by
  cases f with
  | zero => rfl
  | succ f => rw [pathUp, if_pos h]
theorem pathUp_pos (L : List TreeNode) (f q : Nat) (h : q < L.length) (hf : q < f) : pathUp L f q = L[q].name :: pathUp L (f - 1) L[q].parent := by
  obtain ⟨f, rfl⟩ : ∃ g, f = g + 1 := ⟨f - 1, by omega⟩
  rw [pathUp, if_neg (by omega), Int.toNat_natCast, List.getElem?_eq_getElem h]
  rfl
theorem pathOf_len (L : List TreeNode) (k : Int) : (pathOf L k).length ≤ L.length := by
  unfold pathOf
  split
  · rw [List.length_reverse]; have := pathUp_len L (k.toNat + 1) k; omega
  · simp
noncomputable def cxPa : Cx := { P := Try.prog, tys := tys, C := [(34, kTreeOk), (36, kTreeOk), (60, k60), (75, krevS)], hty := tysOk, hC := COk.cons cTreeOkS (COk.cons cTreeOkI (COk.cons c60 (COk.cons crevS (COk.nil _)))) }
theorem cxPa_t : cxPa.tys = tys := rfl
theorem cxPa_c : cxPa.C = [(34, kTreeOk), (36, kTreeOk), (60, k60), (75, krevS)] := rfl
attribute [local go_sem] cxPa_t cxPa_c kTreeOk k60 krevS
def kPathOf : Ctr := pur (fun args => (decTreeNode (aR args 0), aI args 1)) (fun x => [.sl 4 (x.1.map encTreeNode), .v (.int .i64 x.2)]) (fun x => x.1.length ≤ 1048576 ∧ ∀ r ∈ x.1, r.name.size ≤ 1048576) (fun d _ => .own d) (fun d x => [(d, .sl 9 1 ((pathOf x.1 x.2).map encS))])
theorem cPathOfS : Cn Try.prog 40 kPathOf := by
  refine Cn.pur Try.func40 (by kernel_rfl) rfl fun d x hx => ?_
  obtain ⟨L, k⟩ := x
  obtain ⟨hL, hs⟩ := hx
  simp only at hL hs ⊢
  refine Holds.go (c := cxPa) Try.func40 rfl Try.results40 Try.ntmps40 (by omega) (by simp) rfl ?_
  intro X0 w0
  (repeat' (first | refine WP.seq ?_ | (refine WP.region ?_; simp only [go_sem, decTreeNode_enc, tyAll, Nat.reduceAdd, Nat.reduceLT, Nat.reduceLeDiff, Nat.reduceEqDiff, Nat.reduceMul, Nat.reduceSub, Nat.reduceGT, reduceIte, Int.reduceNeg, Int.reduceToNat]) | refine WP.block ?_ | (refine WP.condW ?_; simp only [go_sem, decTreeNode_enc, tyAll, Nat.reduceAdd, Nat.reduceLT, Nat.reduceLeDiff, Nat.reduceEqDiff, Nat.reduceMul, Nat.reduceSub, Nat.reduceGT, reduceIte, Int.reduceNeg, Int.reduceToNat]) | (refine WP.ret ?_; simp only [go_sem, decTreeNode_enc, tyAll, Nat.reduceAdd, Nat.reduceLT, Nat.reduceLeDiff, Nat.reduceEqDiff, Nat.reduceMul, Nat.reduceSub, Nat.reduceGT, reduceIte, Int.reduceNeg, Int.reduceToNat]) | (refine WP.exit ?_; simp only [go_sem, decTreeNode_enc, tyAll, Nat.reduceAdd, Nat.reduceLT, Nat.reduceLeDiff, Nat.reduceEqDiff, Nat.reduceMul, Nat.reduceSub, Nat.reduceGT, reduceIte, Int.reduceNeg, Int.reduceToNat]) | (refine WP.skip ?_; simp only [go_sem, decTreeNode_enc, tyAll, Nat.reduceAdd, Nat.reduceLT, Nat.reduceLeDiff, Nat.reduceEqDiff, Nat.reduceMul, Nat.reduceSub, Nat.reduceGT, reduceIte, Int.reduceNeg, Int.reduceToNat]) |  refine And.intro ?_ ?_ | intro _))
  all_goals first | omega | exact hs _ ‹_› | skip
  · rename_i h
    rw [show pathOf L k = [] from if_neg (fun hc => by rcases h with h | h; · rw [hc.1] at h; cases h
                                                       · omega)]
    (first | rfl | exact ⟨rfl, rfl⟩ | exact ⟨rfl, rfl, rfl⟩ | exact ⟨rfl, rfl, rfl, rfl⟩ | exact ⟨rfl, rfl, rfl, rfl, rfl⟩ | exact ⟨⟨rfl, rfl⟩, rfl⟩ | simp)
  rename_i hok'
  obtain ⟨hok, hkl⟩ := hok'
  by_cases hk0 : 0 ≤ k
  · refine WP.prep [] [(6, 5)] rfl ?_
    have hp : pathOf L k = (pathUp L (k.toNat + 1) k).reverse := if_pos ⟨hok, hk0, by omega⟩
    refine WP.loopP [] [(24, 5)] rfl (fun s : Int × Nat × List ByteArray => ⟨[(0, .sl 4 (L.map encTreeNode)), (1, .v (.int .i64 s.1)), (5, .own 5)], [(5, .sl 9 1 (s.2.2.map encS))]⟩)
      (fun s => -1 ≤ s.1 ∧ s.1 < L.length ∧ s.1 < s.2.1 ∧ (pathUp L s.2.1 s.1).reverse ++ s.2.2 = pathOf L k ∧ s.2.2.length + s.2.1 ≤ L.length) (fun s => (s.1 + 1).toNat) (k, k.toNat + 1, []) ⟨by simp only; omega, by simp only; omega, by simp only; omega, by simp [hp], by simp only [List.length_nil]; omega⟩ ?_ ?_
    · (simp only [go_sem, tyAll, Nat.reduceAdd, Nat.reduceLT, Nat.reduceLeDiff, Nat.reduceEqDiff, Nat.reduceMul, Nat.reduceSub, Nat.reduceGT, reduceIte, Int.reduceNeg, Int.reduceToNat] <;> (first | rfl | exact ⟨rfl, rfl⟩ | exact ⟨rfl, rfl, rfl⟩ | exact ⟨rfl, rfl, rfl, rfl⟩ | exact ⟨rfl, rfl, rfl, rfl, rfl⟩ | exact ⟨⟨rfl, rfl⟩, rfl⟩ | simp))
    rintro ⟨q, f, out⟩ ⟨h0, h1, h2, h3, h4⟩
    simp only at h0 h1 h2 h3 h4 ⊢
    rcases Int.lt_or_le q 0 with hneg | hpos
    · rw [pathUp_neg L f q hneg] at h3
      have h3 : out = pathOf L k := h3
      (repeat' (first | refine WP.seq ?_ | (refine WP.region ?_; simp only [go_sem, tyAll, Nat.reduceAdd, Nat.reduceLT, Nat.reduceLeDiff, Nat.reduceEqDiff, Nat.reduceMul, Nat.reduceSub, Nat.reduceGT, reduceIte, Int.reduceNeg, Int.reduceToNat]) | refine WP.block ?_ | (refine WP.condW ?_; simp only [go_sem, tyAll, Nat.reduceAdd, Nat.reduceLT, Nat.reduceLeDiff, Nat.reduceEqDiff, Nat.reduceMul, Nat.reduceSub, Nat.reduceGT, reduceIte, Int.reduceNeg, Int.reduceToNat]) | (refine WP.ret ?_; simp only [go_sem, tyAll, Nat.reduceAdd, Nat.reduceLT, Nat.reduceLeDiff, Nat.reduceEqDiff, Nat.reduceMul, Nat.reduceSub, Nat.reduceGT, reduceIte, Int.reduceNeg, Int.reduceToNat]) | (refine WP.exit ?_; simp only [go_sem, tyAll, Nat.reduceAdd, Nat.reduceLT, Nat.reduceLeDiff, Nat.reduceEqDiff, Nat.reduceMul, Nat.reduceSub, Nat.reduceGT, reduceIte, Int.reduceNeg, Int.reduceToNat]) | (refine WP.skip ?_; simp only [go_sem, tyAll, Nat.reduceAdd, Nat.reduceLT, Nat.reduceLeDiff, Nat.reduceEqDiff, Nat.reduceMul, Nat.reduceSub, Nat.reduceGT, reduceIte, Int.reduceNeg, Int.reduceToNat]) |  refine And.intro ?_ ?_ | intro _))
      all_goals first | omega | skip
      all_goals rw [h3]
    · obtain ⟨q, rfl⟩ := Int.eq_ofNat_of_zero_le hpos
      have hq : q < L.length := by omega
      have h5 := rowAt_map encTreeNode L q hq
      have h6 := nodeOk_iff.1 (treeOk_nodes hok q hq)
      rw [pathUp_pos L f q hq (by omega)] at h3
      (repeat' (first | refine WP.seq ?_ | (refine WP.region ?_; simp only [go_sem, h5, encTreeNode, tyAll, Nat.reduceAdd, Nat.reduceLT, Nat.reduceLeDiff, Nat.reduceEqDiff, Nat.reduceMul, Nat.reduceSub, Nat.reduceGT, reduceIte, Int.reduceNeg, Int.reduceToNat]) | refine WP.block ?_ | (refine WP.condW ?_; simp only [go_sem, h5, encTreeNode, tyAll, Nat.reduceAdd, Nat.reduceLT, Nat.reduceLeDiff, Nat.reduceEqDiff, Nat.reduceMul, Nat.reduceSub, Nat.reduceGT, reduceIte, Int.reduceNeg, Int.reduceToNat]) | (refine WP.ret ?_; simp only [go_sem, h5, encTreeNode, tyAll, Nat.reduceAdd, Nat.reduceLT, Nat.reduceLeDiff, Nat.reduceEqDiff, Nat.reduceMul, Nat.reduceSub, Nat.reduceGT, reduceIte, Int.reduceNeg, Int.reduceToNat]) | (refine WP.exit ?_; simp only [go_sem, h5, encTreeNode, tyAll, Nat.reduceAdd, Nat.reduceLT, Nat.reduceLeDiff, Nat.reduceEqDiff, Nat.reduceMul, Nat.reduceSub, Nat.reduceGT, reduceIte, Int.reduceNeg, Int.reduceToNat]) | (refine WP.skip ?_; simp only [go_sem, h5, encTreeNode, tyAll, Nat.reduceAdd, Nat.reduceLT, Nat.reduceLeDiff, Nat.reduceEqDiff, Nat.reduceMul, Nat.reduceSub, Nat.reduceGT, reduceIte, Int.reduceNeg, Int.reduceToNat]) |  refine And.intro ?_ ?_ | intro _))
      all_goals first | omega | skip
      · obtain ⟨_, _, rfl⟩ := List.mem_map.1 ‹_›; rfl
      exact ⟨(L[q].parent, f - 1, L[q].name :: out), ⟨by simp only; omega, by simp only; omega, by simp only; omega, by simp only; rw [← h3]; simp, by simp only [List.length_cons]; omega⟩, by simp only; omega, by (first | rfl | exact ⟨rfl, rfl⟩ | exact ⟨rfl, rfl, rfl⟩ | exact ⟨rfl, rfl, rfl, rfl⟩ | exact ⟨rfl, rfl, rfl, rfl, rfl⟩ | exact ⟨⟨rfl, rfl⟩, rfl⟩ | simp)⟩
  · have hp : pathOf L k = [] := if_neg fun hc => hk0 hc.2.1
    refine WP.loop (fun _ : Unit => ⟨[(1, .v (.int .i64 k)), (5, .own 6)], [(6, .sl 9 1 [])]⟩) (fun _ => True) (fun _ => 0) () trivial ?_ ?_
    · (simp only [go_sem, tyAll, Nat.reduceAdd, Nat.reduceLT, Nat.reduceLeDiff, Nat.reduceEqDiff, Nat.reduceMul, Nat.reduceSub, Nat.reduceGT, reduceIte, Int.reduceNeg, Int.reduceToNat] <;> (first | rfl | exact ⟨rfl, rfl⟩ | exact ⟨rfl, rfl, rfl⟩ | exact ⟨rfl, rfl, rfl, rfl⟩ | exact ⟨rfl, rfl, rfl, rfl, rfl⟩ | exact ⟨⟨rfl, rfl⟩, rfl⟩ | simp))
    intro _ _
    (repeat' (first | refine WP.seq ?_ | (refine WP.region ?_; simp only [go_sem, hp, tyAll, Nat.reduceAdd, Nat.reduceLT, Nat.reduceLeDiff, Nat.reduceEqDiff, Nat.reduceMul, Nat.reduceSub, Nat.reduceGT, reduceIte, Int.reduceNeg, Int.reduceToNat]) | refine WP.block ?_ | (refine WP.condW ?_; simp only [go_sem, hp, tyAll, Nat.reduceAdd, Nat.reduceLT, Nat.reduceLeDiff, Nat.reduceEqDiff, Nat.reduceMul, Nat.reduceSub, Nat.reduceGT, reduceIte, Int.reduceNeg, Int.reduceToNat]) | (refine WP.ret ?_; simp only [go_sem, hp, tyAll, Nat.reduceAdd, Nat.reduceLT, Nat.reduceLeDiff, Nat.reduceEqDiff, Nat.reduceMul, Nat.reduceSub, Nat.reduceGT, reduceIte, Int.reduceNeg, Int.reduceToNat]) | (refine WP.exit ?_; simp only [go_sem, hp, tyAll, Nat.reduceAdd, Nat.reduceLT, Nat.reduceLeDiff, Nat.reduceEqDiff, Nat.reduceMul, Nat.reduceSub, Nat.reduceGT, reduceIte, Int.reduceNeg, Int.reduceToNat]) | (refine WP.skip ?_; simp only [go_sem, hp, tyAll, Nat.reduceAdd, Nat.reduceLT, Nat.reduceLeDiff, Nat.reduceEqDiff, Nat.reduceMul, Nat.reduceSub, Nat.reduceGT, reduceIte, Int.reduceNeg, Int.reduceToNat]) |  refine And.intro ?_ ?_ | intro _))
    all_goals first | omega | skip
theorem cPathOfI : Cn Try.prog 41 kPathOf := by
  refine Cn.pur Try.func41 (by kernel_rfl) rfl fun d x hx => ?_
  obtain ⟨L, k⟩ := x
  obtain ⟨hL, hs⟩ := hx
  simp only at hL hs ⊢
  refine Holds.go (c := cxPa) Try.func41 rfl Try.results41 Try.ntmps41 (by omega) (by simp) rfl ?_
  intro X0 w0
  (repeat' (first | refine WP.seq ?_ | (refine WP.region ?_; simp only [go_sem, decTreeNode_enc, tyAll, Nat.reduceAdd, Nat.reduceLT, Nat.reduceLeDiff, Nat.reduceEqDiff, Nat.reduceMul, Nat.reduceSub, Nat.reduceGT, reduceIte, Int.reduceNeg, Int.reduceToNat]) | refine WP.block ?_ | (refine WP.condW ?_; simp only [go_sem, decTreeNode_enc, tyAll, Nat.reduceAdd, Nat.reduceLT, Nat.reduceLeDiff, Nat.reduceEqDiff, Nat.reduceMul, Nat.reduceSub, Nat.reduceGT, reduceIte, Int.reduceNeg, Int.reduceToNat]) | (refine WP.ret ?_; simp only [go_sem, decTreeNode_enc, tyAll, Nat.reduceAdd, Nat.reduceLT, Nat.reduceLeDiff, Nat.reduceEqDiff, Nat.reduceMul, Nat.reduceSub, Nat.reduceGT, reduceIte, Int.reduceNeg, Int.reduceToNat]) | (refine WP.exit ?_; simp only [go_sem, decTreeNode_enc, tyAll, Nat.reduceAdd, Nat.reduceLT, Nat.reduceLeDiff, Nat.reduceEqDiff, Nat.reduceMul, Nat.reduceSub, Nat.reduceGT, reduceIte, Int.reduceNeg, Int.reduceToNat]) | (refine WP.skip ?_; simp only [go_sem, decTreeNode_enc, tyAll, Nat.reduceAdd, Nat.reduceLT, Nat.reduceLeDiff, Nat.reduceEqDiff, Nat.reduceMul, Nat.reduceSub, Nat.reduceGT, reduceIte, Int.reduceNeg, Int.reduceToNat]) |  refine And.intro ?_ ?_ | intro _))
  all_goals first | omega | exact hs _ ‹_› | skip
  · rename_i h
    exact ⟨_, _, by rw [show pathOf L k = [] from if_neg (fun hc => by rcases h with h | h; · rw [hc.1] at h; cases h
                                                                       · omega)]; rfl⟩
  rename_i hok'
  obtain ⟨hok, hk0, hk1⟩ := hok'
  have hp : pathOf L k = (pathUp L (k.toNat + 1) k).reverse := if_pos ⟨hok, hk0, by omega⟩
  refine WP.loop (fun s : Int × Nat × List ByteArray => ⟨[(0, .sl 4 (L.map encTreeNode)), (1, .v (.int .i64 s.1)), (5, .own 17)], [(17, .sl 9 1 (s.2.2.map encS))]⟩)
    (fun s => -1 ≤ s.1 ∧ s.1 < L.length ∧ s.1 < s.2.1 ∧ s.2.2 ++ pathUp L s.2.1 s.1 = pathUp L (k.toNat + 1) k ∧ s.2.2.length + s.2.1 ≤ L.length) (fun s => (s.1 + 1).toNat) (k, k.toNat + 1, []) ⟨by simp only; omega, by simp only; omega, by simp only; omega, by simp, by simp only [List.length_nil]; omega⟩ ?_ ?_
  · (simp only [go_sem, tyAll, Nat.reduceAdd, Nat.reduceLT, Nat.reduceLeDiff, Nat.reduceEqDiff, Nat.reduceMul, Nat.reduceSub, Nat.reduceGT, reduceIte, Int.reduceNeg, Int.reduceToNat] <;> (first | rfl | exact ⟨rfl, rfl⟩ | exact ⟨rfl, rfl, rfl⟩ | exact ⟨rfl, rfl, rfl, rfl⟩ | exact ⟨rfl, rfl, rfl, rfl, rfl⟩ | exact ⟨⟨rfl, rfl⟩, rfl⟩ | simp))
  rintro ⟨q, f, out⟩ ⟨h0, h1, h2, h3, h4⟩
  simp only at h0 h1 h2 h3 h4 ⊢
  rcases Int.lt_or_le q 0 with hneg | hpos
  · rw [pathUp_neg L f q hneg, List.append_nil] at h3
    have hd := decS_enc out
    (repeat' (first | refine WP.seq ?_ | (refine WP.region ?_; simp only [go_sem, hd, tyAll, Nat.reduceAdd, Nat.reduceLT, Nat.reduceLeDiff, Nat.reduceEqDiff, Nat.reduceMul, Nat.reduceSub, Nat.reduceGT, reduceIte, Int.reduceNeg, Int.reduceToNat]) | refine WP.block ?_ | (refine WP.condW ?_; simp only [go_sem, hd, tyAll, Nat.reduceAdd, Nat.reduceLT, Nat.reduceLeDiff, Nat.reduceEqDiff, Nat.reduceMul, Nat.reduceSub, Nat.reduceGT, reduceIte, Int.reduceNeg, Int.reduceToNat]) | (refine WP.ret ?_; simp only [go_sem, hd, tyAll, Nat.reduceAdd, Nat.reduceLT, Nat.reduceLeDiff, Nat.reduceEqDiff, Nat.reduceMul, Nat.reduceSub, Nat.reduceGT, reduceIte, Int.reduceNeg, Int.reduceToNat]) | (refine WP.exit ?_; simp only [go_sem, hd, tyAll, Nat.reduceAdd, Nat.reduceLT, Nat.reduceLeDiff, Nat.reduceEqDiff, Nat.reduceMul, Nat.reduceSub, Nat.reduceGT, reduceIte, Int.reduceNeg, Int.reduceToNat]) | (refine WP.skip ?_; simp only [go_sem, hd, tyAll, Nat.reduceAdd, Nat.reduceLT, Nat.reduceLeDiff, Nat.reduceEqDiff, Nat.reduceMul, Nat.reduceSub, Nat.reduceGT, reduceIte, Int.reduceNeg, Int.reduceToNat]) |  refine And.intro ?_ ?_ | intro _))
    all_goals first | omega | skip
    rw [hp, h3]
  · obtain ⟨q, rfl⟩ := Int.eq_ofNat_of_zero_le hpos
    have hq : q < L.length := by omega
    have h5 := rowAt_map encTreeNode L q hq
    have h6 := nodeOk_iff.1 (treeOk_nodes hok q hq)
    rw [pathUp_pos L f q hq (by omega)] at h3
    (repeat' (first | refine WP.seq ?_ | (refine WP.region ?_; simp only [go_sem, h5, encTreeNode, tyAll, Nat.reduceAdd, Nat.reduceLT, Nat.reduceLeDiff, Nat.reduceEqDiff, Nat.reduceMul, Nat.reduceSub, Nat.reduceGT, reduceIte, Int.reduceNeg, Int.reduceToNat]) | refine WP.block ?_ | (refine WP.condW ?_; simp only [go_sem, h5, encTreeNode, tyAll, Nat.reduceAdd, Nat.reduceLT, Nat.reduceLeDiff, Nat.reduceEqDiff, Nat.reduceMul, Nat.reduceSub, Nat.reduceGT, reduceIte, Int.reduceNeg, Int.reduceToNat]) | (refine WP.ret ?_; simp only [go_sem, h5, encTreeNode, tyAll, Nat.reduceAdd, Nat.reduceLT, Nat.reduceLeDiff, Nat.reduceEqDiff, Nat.reduceMul, Nat.reduceSub, Nat.reduceGT, reduceIte, Int.reduceNeg, Int.reduceToNat]) | (refine WP.exit ?_; simp only [go_sem, h5, encTreeNode, tyAll, Nat.reduceAdd, Nat.reduceLT, Nat.reduceLeDiff, Nat.reduceEqDiff, Nat.reduceMul, Nat.reduceSub, Nat.reduceGT, reduceIte, Int.reduceNeg, Int.reduceToNat]) | (refine WP.skip ?_; simp only [go_sem, h5, encTreeNode, tyAll, Nat.reduceAdd, Nat.reduceLT, Nat.reduceLeDiff, Nat.reduceEqDiff, Nat.reduceMul, Nat.reduceSub, Nat.reduceGT, reduceIte, Int.reduceNeg, Int.reduceToNat]) |  refine And.intro ?_ ?_ | intro _))
    all_goals first | omega | skip
    exact ⟨(L[q].parent, f - 1, out ++ [L[q].name]), ⟨by simp only; omega, by simp only; omega, by simp only; omega, by simp only; rw [← h3]; simp, by simp only [List.length_append, List.length_cons, List.length_nil]; omega⟩, by simp only; omega, by simp only [List.map_append, List.map_cons, List.map_nil]; first | exact ⟨rfl, rfl⟩ | exact ⟨trivial, rfl⟩⟩
end Go.Proofs.Ytkikcjomjofhmaa
