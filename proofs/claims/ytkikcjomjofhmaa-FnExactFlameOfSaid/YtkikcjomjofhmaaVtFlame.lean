/-
  DERIVED. FlameOf, of the reference and of the program, and its law's function.
-/
import Derived.Test.YtkikcjomjofhmaaVtFlameP
namespace Go.Proofs.Ytkikcjomjofhmaa
open Go.Vc
set_option linter.unusedSimpArgs false
set_option linter.unusedVariables false
set_option maxHeartbeats 1000000
set_option maxRecDepth 10000
attribute [local go_sem] St.runR St.runW St.stepV St.step St.stepU St.stepG mkCond guardB St.prK St.pr St.prLen St.eff St.callE St.callD St.callF St.callL aI aB aS aR aC St.isM St.argL Ctr.pure Ctr.lend Ctr.move Ctr.isL Ctr.wri pur len lentBy St.lentV St.lent1 nthS argsR restOf obsR pairs swapL unObs backL St.resL erL SV.ren1 SV.up SV.up2 Ob.up St.fzL cellIds partIds St.intoRow SV.ownId St.fz SV.fz1 St.prep St.mvL St.mv SV.re1 rnOk St.prEq vals eqCells scEq Value.kd St.prStr St.prCut cutR St.bnd St.prMin St.bld isShift outL retL outJ oR oC St.ev St.get St.put St.new St.kill SV.kill SV.kill1 Ob.kill St.app St.wrt St.rowsOf St.res St.killL lk er argsL SV.strip SV.need SV.share SV.share1 SV.owns SV.owns1 SV.owns2 SV.good SV.good1 SV.rok SV.rok1 SV.rok2 SV.isV SV.isV2 nodupN SV.cells SV.one SV.pur partsIn rowsIn splice cellsAt dstOk scal2 scal1 thenK blockK retK outK outs okC okL okA okT nilC nilL nilA nilT keepC keepL keepA keepT St.runG St.dltK St.least St.clean St.final St.hide offK badS badO SV.refs SV.leaf SV.leaf2 Ob.refs dlOk fpAt Go.Vc.cover tups SV.ofAgg St.out outC subL St.has rng wr Value.oneCell' Option.isSome_some Option.isSome_none List.nil_append Bool.false_eq_true List.map_cons List.map_nil List.all_cons List.all_nil List.length_cons List.length_nil List.drop_zero List.drop_succ_cons List.take_succ_cons List.take_zero List.drop_nil List.take_nil List.getElem?_cons_zero List.getElem?_cons_succ List.getElem?_nil List.cons_append List.nil_append List.append_nil List.append_assoc List.flatMap_cons List.flatMap_nil List.contains_cons List.contains_nil List.set_cons_zero List.set_cons_succ List.getElem?_toArray Option.getD_some Option.getD_none Option.map_some Option.map_none Option.bind_some Option.some.injEq Prod.mk.injEq if_true if_false true_and and_true and_self and_false false_and Bool.and_false Bool.false_and Bool.or_true Bool.true_or Bool.or_false Bool.false_or ne_eq not_true_eq_false not_false_eq_true decide_true decide_false List.mem_cons List.not_mem_nil List.filter_cons List.filter_nil List.any_cons List.any_nil List.isEmpty_nil List.isEmpty_cons Option.getD_none or_false false_or true_or or_true forall_eq_or_imp forall_eq reduceCtorEq exists_eq exists_eq' exists_eq_left' exists_eq_left exists_eq_right exists_eq_right' imp_self implies_true Bool.and_true Bool.true_and Bool.and_self beq_self_eq_true List.replicate_succ List.replicate_zero forall_const false_implies pickB_or pickB_and beqT beqF Int.toNat_natCast List.length_map List.length_replicate ge_iff_le gt_iff_lt decide_eq_true_eq decide_eq_false_iff_not Bool.and_eq_true Bool.or_eq_true Bool.not_eq_true' Bool.not_eq_false' condG List.toList_toArray Bool.or_eq_false_iff Bool.and_eq_false_iff Int.not_lt Int.not_le beq_iff_eq beq_eq_false_iff_ne bne_iff_ne bne_eq_false_iff_eq ne_eq Bool.not_true Bool.not_false exists_and_left
attribute [local irreducible] Go.Vc.WP
attribute [local go_sem] cx0_t cx0_c
def capI (args : List SV) (i : Nat) : Int := match args[i]? with
  | some (.rptr _ [[.v (.int _ n)]] _ _) => n
  | _ => 0
def kScale : Ctr := pur (fun args => (aI args 0, capI args 1, capI args 2)) (fun x => [.v (.int .i64 x.1), .rptr 1 [[.v (.int .i64 x.2.1)]] 0 0, .rptr 1 [[.v (.int .i64 x.2.2)]] 0 0])
  (fun x => x.2.1 = 0 ∨ (0 < x.2.1 ∧ 0 ≤ x.1 ∧ x.1 ≤ 1000000000000 ∧ 1 ≤ x.2.2 ∧ x.2.2 ≤ 10000)) (fun _ x => .v (.int .i64 (scl x.2.2 x.2.1 x.1))) (fun _ _ => [])
theorem mul_bound {n w : Int} (h0 : 0 ≤ n) (h1 : n ≤ 1000000000000) (h2 : 1 ≤ w) (h3 : w ≤ 10000) : 0 ≤ n * w ∧ n * w ≤ 10000000000000000 := by
  constructor
  · exact Int.mul_nonneg h0 (by omega)
  · have e1 : n * w ≤ n * 10000 := Int.mul_le_mul_of_nonneg_left h3 h0
    omega
theorem tdiv_bound {m t : Int} (h0 : 0 ≤ m) (h1 : m ≤ 10000000000000000) (ht : 0 < t) : 0 ≤ m.tdiv t ∧ m.tdiv t ≤ 10000000000000000 := by
  constructor
  · exact Int.tdiv_nonneg h0 (by omega)
  · rw [Int.tdiv_eq_ediv_of_nonneg h0]
    exact Int.le_trans (Int.ediv_le_self _ h0) h1
theorem cScale : Cn Try.prog 77 kScale := by
  refine Cn.pur Try.func77 (by kernel_rfl) rfl fun d x hx => ?_
  obtain ⟨n, t, w⟩ := x
  simp only at hx ⊢
  refine Holds.go (c := cx0) Try.func77 rfl Try.results77 Try.ntmps77 (by omega) (by simp) rfl ?_
  intro X0 w0
  have hr : ∀ v : SV, Go.Vc.rowAt [[v]] 0 = [v] := fun v => rfl
  have hz : t ≠ 0 → (0 ≤ n * w ∧ n * w ≤ 10000000000000000) ∧ 0 ≤ (n * w).tdiv t ∧ (n * w).tdiv t ≤ 10000000000000000 := fun ht => by
    have hh : 0 < t ∧ 0 ≤ n ∧ n ≤ 1000000000000 ∧ 1 ≤ w ∧ w ≤ 10000 := by omega
    have h1 := mul_bound hh.2.1 hh.2.2.1 hh.2.2.2.1 hh.2.2.2.2
    exact ⟨h1, tdiv_bound h1.1 h1.2 hh.1⟩
  generalize hnw : n * w = nw at hz
  (repeat' (first | refine WP.seq ?_ | (refine WP.region ?_; simp only [go_sem, hr, hnw, tyAll, Nat.reduceAdd, Nat.reduceLT, Nat.reduceLeDiff, Nat.reduceEqDiff, Nat.reduceMul, Nat.reduceSub, Nat.reduceGT, reduceIte, Int.reduceNeg, Int.reduceToNat]) | refine WP.block ?_ | (refine WP.condW ?_; simp only [go_sem, hr, hnw, tyAll, Nat.reduceAdd, Nat.reduceLT, Nat.reduceLeDiff, Nat.reduceEqDiff, Nat.reduceMul, Nat.reduceSub, Nat.reduceGT, reduceIte, Int.reduceNeg, Int.reduceToNat]) | (refine WP.ret ?_; simp only [go_sem, hr, hnw, tyAll, Nat.reduceAdd, Nat.reduceLT, Nat.reduceLeDiff, Nat.reduceEqDiff, Nat.reduceMul, Nat.reduceSub, Nat.reduceGT, reduceIte, Int.reduceNeg, Int.reduceToNat]) | (refine WP.exit ?_; simp only [go_sem, hr, hnw, tyAll, Nat.reduceAdd, Nat.reduceLT, Nat.reduceLeDiff, Nat.reduceEqDiff, Nat.reduceMul, Nat.reduceSub, Nat.reduceGT, reduceIte, Int.reduceNeg, Int.reduceToNat]) | (refine WP.skip ?_; simp only [go_sem, hr, hnw, tyAll, Nat.reduceAdd, Nat.reduceLT, Nat.reduceLeDiff, Nat.reduceEqDiff, Nat.reduceMul, Nat.reduceSub, Nat.reduceGT, reduceIte, Int.reduceNeg, Int.reduceToNat]) |  refine And.intro ?_ ?_ | intro _))
  all_goals first | omega | skip
  all_goals rename_i h
  all_goals first | (have := hz h; omega) | (unfold scl; rw [if_pos h]) | (unfold scl; rw [if_neg h, hnw])
noncomputable def cxFl : Cx := { P := Try.prog, tys := tys, C := [(34, kTreeOk), (36, kTreeOk), (38, kTreeTotal), (39, kTreeTotal), (60, k60), (58, k60), (77, kScale)], hty := tysOk, hC := COk.cons cTreeOkS (COk.cons cTreeOkI (COk.cons cTreeTotalS (COk.cons cTreeTotalI (COk.cons c60 (COk.cons c58 (COk.cons cScale (COk.nil _))))))) }
theorem cxFl_t : cxFl.tys = tys := rfl
theorem cxFl_c : cxFl.C = [(34, kTreeOk), (36, kTreeOk), (38, kTreeTotal), (39, kTreeTotal), (60, k60), (58, k60), (77, kScale)] := rfl
attribute [local go_sem] cxFl_t cxFl_c kTreeOk kTreeTotal k60 kScale
attribute [local go_sem] capI
theorem scl_bound {w t n : Int} (h : t = 0 ∨ (0 < t ∧ 0 ≤ n ∧ n ≤ 1000000000000 ∧ 1 ≤ w ∧ w ≤ 10000)) : 0 ≤ scl w t n ∧ scl w t n ≤ 10000000000000000 := by
  unfold scl
  split
  · omega
  · rcases h with h | ⟨h1, h2, h3, h4, h5⟩
    · contradiction
    · have := mul_bound h2 h3 h4 h5
      exact tdiv_bound this.1 this.2 h1
def kFlameOf : Ctr := pur (fun args => (decTreeNode (aR args 0), aI args 1)) (fun x => [.sl 4 (x.1.map encTreeNode), .v (.int .i64 x.2)]) (fun x => x.1.length ≤ 1048576 ∧ ∀ r ∈ x.1, r.name.size ≤ 1048576) (fun d _ => .own d) (fun d x => [(d, .sl 78 4 ((flameOf x.1 x.2).map encBox))])
theorem cFlameOfI : Cn Try.prog 51 kFlameOf := by
  refine Cn.pur Try.func51 (by kernel_rfl) rfl fun d x hx => ?_
  obtain ⟨L, w⟩ := x
  obtain ⟨hL, hs⟩ := hx
  simp only at hL hs ⊢
  refine Holds.go (c := cxFl) Try.func51 rfl Try.results51 Try.ntmps51 (by omega) (by simp) rfl ?_
  intro X0 w0
  (repeat' (first | refine WP.seq ?_ | (refine WP.region ?_; simp only [go_sem, decTreeNode_enc, tyAll, Nat.reduceAdd, Nat.reduceLT, Nat.reduceLeDiff, Nat.reduceEqDiff, Nat.reduceMul, Nat.reduceSub, Nat.reduceGT, reduceIte, Int.reduceNeg, Int.reduceToNat]) | refine WP.block ?_ | (refine WP.condW ?_; simp only [go_sem, decTreeNode_enc, tyAll, Nat.reduceAdd, Nat.reduceLT, Nat.reduceLeDiff, Nat.reduceEqDiff, Nat.reduceMul, Nat.reduceSub, Nat.reduceGT, reduceIte, Int.reduceNeg, Int.reduceToNat]) | (refine WP.ret ?_; simp only [go_sem, decTreeNode_enc, tyAll, Nat.reduceAdd, Nat.reduceLT, Nat.reduceLeDiff, Nat.reduceEqDiff, Nat.reduceMul, Nat.reduceSub, Nat.reduceGT, reduceIte, Int.reduceNeg, Int.reduceToNat]) | (refine WP.exit ?_; simp only [go_sem, decTreeNode_enc, tyAll, Nat.reduceAdd, Nat.reduceLT, Nat.reduceLeDiff, Nat.reduceEqDiff, Nat.reduceMul, Nat.reduceSub, Nat.reduceGT, reduceIte, Int.reduceNeg, Int.reduceToNat]) | (refine WP.skip ?_; simp only [go_sem, decTreeNode_enc, tyAll, Nat.reduceAdd, Nat.reduceLT, Nat.reduceLeDiff, Nat.reduceEqDiff, Nat.reduceMul, Nat.reduceSub, Nat.reduceGT, reduceIte, Int.reduceNeg, Int.reduceToNat]) | (refine WP.drawW 13 (by decide +kernel) (by kernel_rfl) ?_; simp only [go_sem, decTreeNode_enc, tyAll, Nat.reduceAdd, Nat.reduceLT, Nat.reduceLeDiff, Nat.reduceEqDiff, Nat.reduceMul, Nat.reduceSub, Nat.reduceGT, reduceIte, Int.reduceNeg, Int.reduceToNat]) | (refine WP.drawW 8 (by decide +kernel) (by kernel_rfl) ?_; simp only [go_sem, decTreeNode_enc, tyAll, Nat.reduceAdd, Nat.reduceLT, Nat.reduceLeDiff, Nat.reduceEqDiff, Nat.reduceMul, Nat.reduceSub, Nat.reduceGT, reduceIte, Int.reduceNeg, Int.reduceToNat]) |  refine And.intro ?_ ?_ | intro _))
  all_goals first | omega | exact hs _ ‹_› | skip
  · rename_i h
    exact ⟨_, _, by rw [show flameOf L w = [] from if_neg (fun hc => by rcases h with h | h; · rw [hc.1] at h; cases h
                                                                        · omega)]; rfl⟩
  rename_i hok'
  have hok : treeOk L = true := by simp_all
  have hw : 1 ≤ w ∧ w ≤ 10000 := by omega
  have hf : flameOf L w = (flSt L w (treeTotal L) L.length).2.2 := if_pos ⟨hok, hw⟩
  obtain ⟨ht0, ht1, ht2⟩ := treeTotal_nonneg hok
  generalize htt : treeTotal L = t at *
  have hT := below_bound (L := L) (-1) L.length (Nat.le_refl _) (fun j hj _ => treeOk_nodes hok j hj)
  refine WP.loop (fun k : Nat => ⟨[(6, .fn 77 [.ptr 5 0 0 0, .ptr 3 0 0 0]), (7, .own 26), (8, .own 29), (9, .v (.int .i64 (flSt L w t k).1)), (30, .sl 4 (L.map encTreeNode)), (31, .v (.int .i64 L.length)), (32, .v (.int .i64 k))],
    [(3, .box 3 [.v (.int .i64 w)]), (5, .box 3 [.v (.int .i64 t)]), (26, .sl 78 4 ((flSt L w t k).2.2.map encBox)), (29, .sl 3 1 ((flSt L w t k).2.1.map encI))]⟩) (fun k => k ≤ L.length) (fun k => L.length - k) 0 (by simp) ?_ ?_
  · have e0 : (List.replicate L.length (0 : Int)).map encI = List.replicate L.length [SV.v (.int .i64 0)] := by rw [List.map_replicate]; rfl
    (simp only [go_sem, flSt, e0, tyAll, Nat.reduceAdd, Nat.reduceLT, Nat.reduceLeDiff, Nat.reduceEqDiff, Nat.reduceMul, Nat.reduceSub, Nat.reduceGT, reduceIte, Int.reduceNeg, Int.reduceToNat] <;> (first | rfl | exact ⟨rfl, rfl⟩ | exact ⟨rfl, rfl, rfl⟩ | exact ⟨rfl, rfl, rfl, rfl⟩ | exact ⟨rfl, rfl, rfl, rfl, rfl⟩ | exact ⟨⟨rfl, rfl⟩, rfl⟩ | simp))
  intro k hk
  by_cases hlt : k < L.length
  · have h1 := rowAt_map encTreeNode L k hlt
    have hn := nodeOk_iff.1 (treeOk_nodes hok k hlt)
    have hI := flInv hok w t k hk
    obtain ⟨hl1, hl2, htop, _, hdep⟩ := hI
    have hb1 := below_le hok (-1) (k + 1) (by omega)
    have hb2 := below_succ L (-1) k hlt
    have hb3 := (below_bound (L := L) (-1) k hk (fun j hj _ => treeOk_nodes hok j hj)).1
    rcases Int.lt_or_le L[k].parent 0 with hneg | hpos
    · have e := flSt_root L w t k hlt hneg
      rw [if_pos (by omega)] at hb2
      generalize hS : flSt L w t k = S at *
      obtain ⟨top, nx, out⟩ := S
      simp only at hl1 hl2 htop e
      have s1 := scl_bound (w := w) (t := t) (n := top) (by omega)
      have s2 := scl_bound (w := w) (t := t) (n := top + L[k].total) (by omega)
      have r1 := rowAt_map encI nx k (by omega)
      (repeat' (first | refine WP.seq ?_ | (refine WP.region ?_; simp only [go_sem, h1, encTreeNode, encI, hl1, hl2, List.length_set, tyAll, Nat.reduceAdd, Nat.reduceLT, Nat.reduceLeDiff, Nat.reduceEqDiff, Nat.reduceMul, Nat.reduceSub, Nat.reduceGT, reduceIte, Int.reduceNeg, Int.reduceToNat]) | refine WP.block ?_ | (refine WP.condW ?_; simp only [go_sem, h1, encTreeNode, encI, hl1, hl2, List.length_set, tyAll, Nat.reduceAdd, Nat.reduceLT, Nat.reduceLeDiff, Nat.reduceEqDiff, Nat.reduceMul, Nat.reduceSub, Nat.reduceGT, reduceIte, Int.reduceNeg, Int.reduceToNat]) | (refine WP.ret ?_; simp only [go_sem, h1, encTreeNode, encI, hl1, hl2, List.length_set, tyAll, Nat.reduceAdd, Nat.reduceLT, Nat.reduceLeDiff, Nat.reduceEqDiff, Nat.reduceMul, Nat.reduceSub, Nat.reduceGT, reduceIte, Int.reduceNeg, Int.reduceToNat]) | (refine WP.exit ?_; simp only [go_sem, h1, encTreeNode, encI, hl1, hl2, List.length_set, tyAll, Nat.reduceAdd, Nat.reduceLT, Nat.reduceLeDiff, Nat.reduceEqDiff, Nat.reduceMul, Nat.reduceSub, Nat.reduceGT, reduceIte, Int.reduceNeg, Int.reduceToNat]) | (refine WP.skip ?_; simp only [go_sem, h1, encTreeNode, encI, hl1, hl2, List.length_set, tyAll, Nat.reduceAdd, Nat.reduceLT, Nat.reduceLeDiff, Nat.reduceEqDiff, Nat.reduceMul, Nat.reduceSub, Nat.reduceGT, reduceIte, Int.reduceNeg, Int.reduceToNat]) | (refine WP.drawW 13 (by decide +kernel) (by kernel_rfl) ?_; simp only [go_sem, h1, encTreeNode, encI, hl1, hl2, List.length_set, tyAll, Nat.reduceAdd, Nat.reduceLT, Nat.reduceLeDiff, Nat.reduceEqDiff, Nat.reduceMul, Nat.reduceSub, Nat.reduceGT, reduceIte, Int.reduceNeg, Int.reduceToNat]) | (refine WP.drawW 8 (by decide +kernel) (by kernel_rfl) ?_; simp only [go_sem, h1, encTreeNode, encI, hl1, hl2, List.length_set, tyAll, Nat.reduceAdd, Nat.reduceLT, Nat.reduceLeDiff, Nat.reduceEqDiff, Nat.reduceMul, Nat.reduceSub, Nat.reduceGT, reduceIte, Int.reduceNeg, Int.reduceToNat]) |  refine And.intro ?_ ?_ | intro _))
      all_goals first | omega | skip
      refine ⟨k + 1, by omega, by omega, ?_, ?_, ?_⟩
      · rw [e]; (first | rfl | exact ⟨rfl, rfl⟩ | exact ⟨rfl, rfl, rfl⟩ | exact ⟨rfl, rfl, rfl, rfl⟩ | exact ⟨rfl, rfl, rfl, rfl, rfl⟩ | exact ⟨⟨rfl, rfl⟩, rfl⟩ | simp)
      · rw [e]; simp only [List.map_append, List.map_cons, List.map_nil]; rfl
      · rw [e, r1, List.map_set]; rfl
    · obtain ⟨q, hq⟩ := Int.eq_ofNat_of_zero_le hpos
      have hqk : q < k := by omega
      have e := flSt_child L w t k q hlt hq
      have p1 := flPlace hok w t k hk q hqk
      have p2 := flPlace2 hok w t k hlt q hqk hq
      have p3 := hdep q hqk
      generalize hS : flSt L w t k = S at *
      obtain ⟨top, nx, out⟩ := S
      simp only at hl1 hl2 htop e p1 p2 p3
      have hnq : nx[q]'(by omega) = nx.getD q 0 := by rw [List.getD_eq_getElem?_getD, List.getElem?_eq_getElem (by omega)]; rfl
      have hoq : out[q]'(by omega) = out.getD q ⟨0, 0, 0, 0⟩ := by rw [List.getD_eq_getElem?_getD, List.getElem?_eq_getElem (by omega)]; rfl
      have h2 := rowAt_map encI nx q (by omega)
      have h3 := rowAt_map encBox out q (by omega)
      rw [hnq] at h2
      rw [hoq] at h3
      generalize nx.getD q 0 = a at *
      generalize out.getD q ⟨0, 0, 0, 0⟩ = b at *
      have s1 := scl_bound (w := w) (t := t) (n := a) (by omega)
      have s2 := scl_bound (w := w) (t := t) (n := a + L[k].total) (by omega)
      have hset : (List.map encI nx).set q (encI (a + L[k].total)) = List.map encI (nx.set q (a + L[k].total)) := by rw [List.map_set]
      have r2 := rowAt_map encI (nx.set q (a + L[k].total)) k (by simp; omega)
      (repeat' (first | refine WP.seq ?_ | (refine WP.region ?_; simp only [go_sem, h1, h2, h3, hq, encTreeNode, encI, encBox, hl1, hl2, List.length_set, tyAll, Nat.reduceAdd, Nat.reduceLT, Nat.reduceLeDiff, Nat.reduceEqDiff, Nat.reduceMul, Nat.reduceSub, Nat.reduceGT, reduceIte, Int.reduceNeg, Int.reduceToNat]) | refine WP.block ?_ | (refine WP.condW ?_; simp only [go_sem, h1, h2, h3, hq, encTreeNode, encI, encBox, hl1, hl2, List.length_set, tyAll, Nat.reduceAdd, Nat.reduceLT, Nat.reduceLeDiff, Nat.reduceEqDiff, Nat.reduceMul, Nat.reduceSub, Nat.reduceGT, reduceIte, Int.reduceNeg, Int.reduceToNat]) | (refine WP.ret ?_; simp only [go_sem, h1, h2, h3, hq, encTreeNode, encI, encBox, hl1, hl2, List.length_set, tyAll, Nat.reduceAdd, Nat.reduceLT, Nat.reduceLeDiff, Nat.reduceEqDiff, Nat.reduceMul, Nat.reduceSub, Nat.reduceGT, reduceIte, Int.reduceNeg, Int.reduceToNat]) | (refine WP.exit ?_; simp only [go_sem, h1, h2, h3, hq, encTreeNode, encI, encBox, hl1, hl2, List.length_set, tyAll, Nat.reduceAdd, Nat.reduceLT, Nat.reduceLeDiff, Nat.reduceEqDiff, Nat.reduceMul, Nat.reduceSub, Nat.reduceGT, reduceIte, Int.reduceNeg, Int.reduceToNat]) | (refine WP.skip ?_; simp only [go_sem, h1, h2, h3, hq, encTreeNode, encI, encBox, hl1, hl2, List.length_set, tyAll, Nat.reduceAdd, Nat.reduceLT, Nat.reduceLeDiff, Nat.reduceEqDiff, Nat.reduceMul, Nat.reduceSub, Nat.reduceGT, reduceIte, Int.reduceNeg, Int.reduceToNat]) | (refine WP.drawW 13 (by decide +kernel) (by kernel_rfl) ?_; simp only [go_sem, h1, h2, h3, hq, encTreeNode, encI, encBox, hl1, hl2, List.length_set, tyAll, Nat.reduceAdd, Nat.reduceLT, Nat.reduceLeDiff, Nat.reduceEqDiff, Nat.reduceMul, Nat.reduceSub, Nat.reduceGT, reduceIte, Int.reduceNeg, Int.reduceToNat]) | (refine WP.drawW 8 (by decide +kernel) (by kernel_rfl) ?_; simp only [go_sem, h1, h2, h3, hq, encTreeNode, encI, encBox, hl1, hl2, List.length_set, tyAll, Nat.reduceAdd, Nat.reduceLT, Nat.reduceLeDiff, Nat.reduceEqDiff, Nat.reduceMul, Nat.reduceSub, Nat.reduceGT, reduceIte, Int.reduceNeg, Int.reduceToNat]) |  refine And.intro ?_ ?_ | intro _))
      all_goals first | omega | skip
      refine ⟨k + 1, by omega, by omega, ?_, ?_, ?_⟩
      · rw [e]; (first | rfl | exact ⟨rfl, rfl⟩ | exact ⟨rfl, rfl, rfl⟩ | exact ⟨rfl, rfl, rfl, rfl⟩ | exact ⟨rfl, rfl, rfl, rfl, rfl⟩ | exact ⟨⟨rfl, rfl⟩, rfl⟩ | simp)
      · rw [e]; simp only [List.map_append, List.map_cons, List.map_nil]; rfl
      · show Ob.sl 3 1 (((List.map encI nx).set q (encI (a + L[k].total))).set k (SV.v (Value.int IntKind.i64 a) :: List.drop 1 (Vc.rowAt ((List.map encI nx).set q (encI (a + L[k].total))) k))) = _
        rw [e, hset, r2]; show Ob.sl 3 1 ((List.map encI (nx.set q (a + L[k].total))).set k (encI a)) = Ob.sl 3 1 (List.map encI ((nx.set q (a + L[k].total)).set k a))
        rw [List.map_set (l := nx.set q (a + L[k].total))]
  · have hke : k = L.length := by omega
    subst hke
    (repeat' (first | refine WP.seq ?_ | (refine WP.region ?_; simp only [go_sem, tyAll, Nat.reduceAdd, Nat.reduceLT, Nat.reduceLeDiff, Nat.reduceEqDiff, Nat.reduceMul, Nat.reduceSub, Nat.reduceGT, reduceIte, Int.reduceNeg, Int.reduceToNat]) | refine WP.block ?_ | (refine WP.condW ?_; simp only [go_sem, tyAll, Nat.reduceAdd, Nat.reduceLT, Nat.reduceLeDiff, Nat.reduceEqDiff, Nat.reduceMul, Nat.reduceSub, Nat.reduceGT, reduceIte, Int.reduceNeg, Int.reduceToNat]) | (refine WP.ret ?_; simp only [go_sem, tyAll, Nat.reduceAdd, Nat.reduceLT, Nat.reduceLeDiff, Nat.reduceEqDiff, Nat.reduceMul, Nat.reduceSub, Nat.reduceGT, reduceIte, Int.reduceNeg, Int.reduceToNat]) | (refine WP.exit ?_; simp only [go_sem, tyAll, Nat.reduceAdd, Nat.reduceLT, Nat.reduceLeDiff, Nat.reduceEqDiff, Nat.reduceMul, Nat.reduceSub, Nat.reduceGT, reduceIte, Int.reduceNeg, Int.reduceToNat]) | (refine WP.skip ?_; simp only [go_sem, tyAll, Nat.reduceAdd, Nat.reduceLT, Nat.reduceLeDiff, Nat.reduceEqDiff, Nat.reduceMul, Nat.reduceSub, Nat.reduceGT, reduceIte, Int.reduceNeg, Int.reduceToNat]) | (refine WP.drawW 13 (by decide +kernel) (by kernel_rfl) ?_; simp only [go_sem, tyAll, Nat.reduceAdd, Nat.reduceLT, Nat.reduceLeDiff, Nat.reduceEqDiff, Nat.reduceMul, Nat.reduceSub, Nat.reduceGT, reduceIte, Int.reduceNeg, Int.reduceToNat]) | (refine WP.drawW 8 (by decide +kernel) (by kernel_rfl) ?_; simp only [go_sem, tyAll, Nat.reduceAdd, Nat.reduceLT, Nat.reduceLeDiff, Nat.reduceEqDiff, Nat.reduceMul, Nat.reduceSub, Nat.reduceGT, reduceIte, Int.reduceNeg, Int.reduceToNat]) |  refine And.intro ?_ ?_ | intro _))
    all_goals first | omega | skip
    rw [hf]
theorem cFlameOfS : Cn Try.prog 50 kFlameOf := by
  refine Cn.pur Try.func50 (by kernel_rfl) rfl fun d x hx => ?_
  obtain ⟨L, w⟩ := x
  obtain ⟨hL, hs⟩ := hx
  simp only at hL hs ⊢
  refine Holds.go (c := cxFl) Try.func50 rfl Try.results50 Try.ntmps50 (by omega) (by simp) rfl ?_
  intro X0 w0
  (repeat' (first | refine WP.seq ?_ | (refine WP.region ?_; simp only [go_sem, decTreeNode_enc, tyAll, Nat.reduceAdd, Nat.reduceLT, Nat.reduceLeDiff, Nat.reduceEqDiff, Nat.reduceMul, Nat.reduceSub, Nat.reduceGT, reduceIte, Int.reduceNeg, Int.reduceToNat]) | refine WP.block ?_ | (refine WP.condW ?_; simp only [go_sem, decTreeNode_enc, tyAll, Nat.reduceAdd, Nat.reduceLT, Nat.reduceLeDiff, Nat.reduceEqDiff, Nat.reduceMul, Nat.reduceSub, Nat.reduceGT, reduceIte, Int.reduceNeg, Int.reduceToNat]) | (refine WP.ret ?_; simp only [go_sem, decTreeNode_enc, tyAll, Nat.reduceAdd, Nat.reduceLT, Nat.reduceLeDiff, Nat.reduceEqDiff, Nat.reduceMul, Nat.reduceSub, Nat.reduceGT, reduceIte, Int.reduceNeg, Int.reduceToNat]) | (refine WP.exit ?_; simp only [go_sem, decTreeNode_enc, tyAll, Nat.reduceAdd, Nat.reduceLT, Nat.reduceLeDiff, Nat.reduceEqDiff, Nat.reduceMul, Nat.reduceSub, Nat.reduceGT, reduceIte, Int.reduceNeg, Int.reduceToNat]) | (refine WP.skip ?_; simp only [go_sem, decTreeNode_enc, tyAll, Nat.reduceAdd, Nat.reduceLT, Nat.reduceLeDiff, Nat.reduceEqDiff, Nat.reduceMul, Nat.reduceSub, Nat.reduceGT, reduceIte, Int.reduceNeg, Int.reduceToNat]) | (refine WP.drawW 13 (by decide +kernel) (by kernel_rfl) ?_; simp only [go_sem, decTreeNode_enc, tyAll, Nat.reduceAdd, Nat.reduceLT, Nat.reduceLeDiff, Nat.reduceEqDiff, Nat.reduceMul, Nat.reduceSub, Nat.reduceGT, reduceIte, Int.reduceNeg, Int.reduceToNat]) | (refine WP.drawW 14 (by decide +kernel) (by kernel_rfl) ?_; simp only [go_sem, decTreeNode_enc, tyAll, Nat.reduceAdd, Nat.reduceLT, Nat.reduceLeDiff, Nat.reduceEqDiff, Nat.reduceMul, Nat.reduceSub, Nat.reduceGT, reduceIte, Int.reduceNeg, Int.reduceToNat]) |  refine And.intro ?_ ?_ | intro _))
  all_goals first | omega | exact hs _ ‹_› | skip
  · rename_i h
    have hfe : flameOf L w = [] := if_neg (fun hc => by
      rcases h with h | h
      · rw [hc.1] at h; cases h
      · omega)
    rw [hfe]
    first | rfl | exact ⟨_, _, rfl⟩ | (first | rfl | exact ⟨rfl, rfl⟩ | exact ⟨rfl, rfl, rfl⟩ | exact ⟨rfl, rfl, rfl, rfl⟩ | exact ⟨rfl, rfl, rfl, rfl, rfl⟩ | exact ⟨⟨rfl, rfl⟩, rfl⟩ | simp)
  rename_i hok'
  have hok : treeOk L = true := by simp_all
  have hw : 1 ≤ w ∧ w ≤ 10000 := by omega
  have hf : flameOf L w = (flSt L w (treeTotal L) L.length).2.2 := if_pos ⟨hok, hw⟩
  obtain ⟨ht0, ht1, ht2⟩ := treeTotal_nonneg hok
  generalize htt : treeTotal L = t at *
  have hT := below_bound (L := L) (-1) L.length (Nat.le_refl _) (fun j hj _ => treeOk_nodes hok j hj)
  refine WP.loop (fun k : Nat => ⟨[(0, .sl 4 (L.map encTreeNode)), (1, .v (.int .i64 w)), (5, .own 12), (6, .v (.int .i64 t)), (7, .own 26), (8, .v (.int .i64 (flSt L w t k).1)), (9, .v (.int .i64 k))],
    [(12, .sl 78 4 ((flSt L w t k).2.2.map encBox)), (26, .sl 3 1 ((flSt L w t k).2.1.map encI))]⟩) (fun k => k ≤ L.length) (fun k => L.length - k) 0 (by simp) ?_ ?_
  · have e0 : (List.replicate L.length (0 : Int)).map encI = List.replicate L.length [SV.v (.int .i64 0)] := by rw [List.map_replicate]; rfl
    (simp only [go_sem, flSt, e0, tyAll, Nat.reduceAdd, Nat.reduceLT, Nat.reduceLeDiff, Nat.reduceEqDiff, Nat.reduceMul, Nat.reduceSub, Nat.reduceGT, reduceIte, Int.reduceNeg, Int.reduceToNat] <;> (first | rfl | exact ⟨rfl, rfl⟩ | exact ⟨rfl, rfl, rfl⟩ | exact ⟨rfl, rfl, rfl, rfl⟩ | exact ⟨rfl, rfl, rfl, rfl, rfl⟩ | exact ⟨⟨rfl, rfl⟩, rfl⟩ | simp))
  intro k hk
  by_cases hlt : k < L.length
  · have h1 := rowAt_map encTreeNode L k hlt
    have hn := nodeOk_iff.1 (treeOk_nodes hok k hlt)
    have hI := flInv hok w t k hk
    obtain ⟨hl1, hl2, htop, _, hdep⟩ := hI
    have hb1 := below_le hok (-1) (k + 1) (by omega)
    have hb2 := below_succ L (-1) k hlt
    have hb3 := (below_bound (L := L) (-1) k hk (fun j hj _ => treeOk_nodes hok j hj)).1
    rcases Int.lt_or_le L[k].parent 0 with hneg | hpos
    · have e := flSt_root L w t k hlt hneg
      rw [if_pos (by omega)] at hb2
      generalize hS : flSt L w t k = S at *
      obtain ⟨top, nx, out⟩ := S
      simp only at hl1 hl2 htop e
      have m1 : 0 < t → _ := fun h => mul_bound (n := top) (w := w) (by omega) (by omega) (by omega) (by omega)
      have m2 : 0 < t → _ := fun h => mul_bound (n := top + L[k].total) (w := w) (by omega) (by omega) (by omega) (by omega)
      have s1 : 0 < t → _ := fun h => tdiv_bound (t := t) (m1 h).1 (m1 h).2 h
      have s2 : 0 < t → _ := fun h => tdiv_bound (t := t) (m2 h).1 (m2 h).2 h
      have z1 : 0 < t → scl w t top = (top * w).tdiv t := fun h => by unfold scl; rw [if_neg (by omega)]
      have z2 : 0 < t → scl w t (top + L[k].total) = ((top + L[k].total) * w).tdiv t := fun h => by unfold scl; rw [if_neg (by omega)]
      have z0 : t ≤ 0 → ∀ n, scl w t n = 0 := fun h n => by unfold scl; rw [if_pos (by omega)]
      have r1 := rowAt_map encI nx k (by omega)
      (repeat' (first | refine WP.seq ?_ | (refine WP.region ?_; simp only [go_sem, h1, encTreeNode, encI, hl1, hl2, List.length_set, tyAll, Nat.reduceAdd, Nat.reduceLT, Nat.reduceLeDiff, Nat.reduceEqDiff, Nat.reduceMul, Nat.reduceSub, Nat.reduceGT, reduceIte, Int.reduceNeg, Int.reduceToNat]) | refine WP.block ?_ | (refine WP.condW ?_; simp only [go_sem, h1, encTreeNode, encI, hl1, hl2, List.length_set, tyAll, Nat.reduceAdd, Nat.reduceLT, Nat.reduceLeDiff, Nat.reduceEqDiff, Nat.reduceMul, Nat.reduceSub, Nat.reduceGT, reduceIte, Int.reduceNeg, Int.reduceToNat]) | (refine WP.ret ?_; simp only [go_sem, h1, encTreeNode, encI, hl1, hl2, List.length_set, tyAll, Nat.reduceAdd, Nat.reduceLT, Nat.reduceLeDiff, Nat.reduceEqDiff, Nat.reduceMul, Nat.reduceSub, Nat.reduceGT, reduceIte, Int.reduceNeg, Int.reduceToNat]) | (refine WP.exit ?_; simp only [go_sem, h1, encTreeNode, encI, hl1, hl2, List.length_set, tyAll, Nat.reduceAdd, Nat.reduceLT, Nat.reduceLeDiff, Nat.reduceEqDiff, Nat.reduceMul, Nat.reduceSub, Nat.reduceGT, reduceIte, Int.reduceNeg, Int.reduceToNat]) | (refine WP.skip ?_; simp only [go_sem, h1, encTreeNode, encI, hl1, hl2, List.length_set, tyAll, Nat.reduceAdd, Nat.reduceLT, Nat.reduceLeDiff, Nat.reduceEqDiff, Nat.reduceMul, Nat.reduceSub, Nat.reduceGT, reduceIte, Int.reduceNeg, Int.reduceToNat]) | (refine WP.drawW 13 (by decide +kernel) (by kernel_rfl) ?_; simp only [go_sem, h1, encTreeNode, encI, hl1, hl2, List.length_set, tyAll, Nat.reduceAdd, Nat.reduceLT, Nat.reduceLeDiff, Nat.reduceEqDiff, Nat.reduceMul, Nat.reduceSub, Nat.reduceGT, reduceIte, Int.reduceNeg, Int.reduceToNat]) | (refine WP.drawW 14 (by decide +kernel) (by kernel_rfl) ?_; simp only [go_sem, h1, encTreeNode, encI, hl1, hl2, List.length_set, tyAll, Nat.reduceAdd, Nat.reduceLT, Nat.reduceLeDiff, Nat.reduceEqDiff, Nat.reduceMul, Nat.reduceSub, Nat.reduceGT, reduceIte, Int.reduceNeg, Int.reduceToNat]) |  refine And.intro ?_ ?_ | intro _))
      all_goals first | omega | skip
      all_goals refine ⟨k + 1, by omega, by omega, ?_, ?_, ?_⟩
      iterate 2
        · rw [e]; (first | rfl | exact ⟨rfl, rfl⟩ | exact ⟨rfl, rfl, rfl⟩ | exact ⟨rfl, rfl, rfl, rfl⟩ | exact ⟨rfl, rfl, rfl, rfl, rfl⟩ | exact ⟨⟨rfl, rfl⟩, rfl⟩ | simp)
        · rw [e]; simp only [List.map_append, List.map_cons, List.map_nil, boxAt, encBox]
          first | rw [z1 ‹_›, z2 ‹_›] | simp only [z0 ‹_›, Int.sub_zero]
        · rw [e, r1, List.map_set]; rfl
    · obtain ⟨q, hq⟩ := Int.eq_ofNat_of_zero_le hpos
      have hqk : q < k := by omega
      have e := flSt_child L w t k q hlt hq
      have p1 := flPlace hok w t k hk q hqk
      have p2 := flPlace2 hok w t k hlt q hqk hq
      have p3 := hdep q hqk
      generalize hS : flSt L w t k = S at *
      obtain ⟨top, nx, out⟩ := S
      simp only at hl1 hl2 htop e p1 p2 p3
      have hnq : nx[q]'(by omega) = nx.getD q 0 := by rw [List.getD_eq_getElem?_getD, List.getElem?_eq_getElem (by omega)]; rfl
      have hoq : out[q]'(by omega) = out.getD q ⟨0, 0, 0, 0⟩ := by rw [List.getD_eq_getElem?_getD, List.getElem?_eq_getElem (by omega)]; rfl
      have h2 := rowAt_map encI nx q (by omega)
      have h3 := rowAt_map encBox out q (by omega)
      rw [hnq] at h2
      rw [hoq] at h3
      generalize nx.getD q 0 = a at *
      generalize out.getD q ⟨0, 0, 0, 0⟩ = b at *
      have m1 : 0 < t → _ := fun h => mul_bound (n := a) (w := w) (by omega) (by omega) (by omega) (by omega)
      have m2 : 0 < t → _ := fun h => mul_bound (n := a + L[k].total) (w := w) (by omega) (by omega) (by omega) (by omega)
      have s1 : 0 < t → _ := fun h => tdiv_bound (t := t) (m1 h).1 (m1 h).2 h
      have s2 : 0 < t → _ := fun h => tdiv_bound (t := t) (m2 h).1 (m2 h).2 h
      have z1 : 0 < t → scl w t a = (a * w).tdiv t := fun h => by unfold scl; rw [if_neg (by omega)]
      have z2 : 0 < t → scl w t (a + L[k].total) = ((a + L[k].total) * w).tdiv t := fun h => by unfold scl; rw [if_neg (by omega)]
      have z0 : t ≤ 0 → ∀ n, scl w t n = 0 := fun h n => by unfold scl; rw [if_pos (by omega)]
      have hset : (List.map encI nx).set q (encI (a + L[k].total)) = List.map encI (nx.set q (a + L[k].total)) := by rw [List.map_set]
      have r2 := rowAt_map encI (nx.set q (a + L[k].total)) k (by simp; omega)
      (repeat' (first | refine WP.seq ?_ | (refine WP.region ?_; simp only [go_sem, h1, h2, h3, hq, encTreeNode, encI, encBox, hl1, hl2, List.length_set, tyAll, Nat.reduceAdd, Nat.reduceLT, Nat.reduceLeDiff, Nat.reduceEqDiff, Nat.reduceMul, Nat.reduceSub, Nat.reduceGT, reduceIte, Int.reduceNeg, Int.reduceToNat]) | refine WP.block ?_ | (refine WP.condW ?_; simp only [go_sem, h1, h2, h3, hq, encTreeNode, encI, encBox, hl1, hl2, List.length_set, tyAll, Nat.reduceAdd, Nat.reduceLT, Nat.reduceLeDiff, Nat.reduceEqDiff, Nat.reduceMul, Nat.reduceSub, Nat.reduceGT, reduceIte, Int.reduceNeg, Int.reduceToNat]) | (refine WP.ret ?_; simp only [go_sem, h1, h2, h3, hq, encTreeNode, encI, encBox, hl1, hl2, List.length_set, tyAll, Nat.reduceAdd, Nat.reduceLT, Nat.reduceLeDiff, Nat.reduceEqDiff, Nat.reduceMul, Nat.reduceSub, Nat.reduceGT, reduceIte, Int.reduceNeg, Int.reduceToNat]) | (refine WP.exit ?_; simp only [go_sem, h1, h2, h3, hq, encTreeNode, encI, encBox, hl1, hl2, List.length_set, tyAll, Nat.reduceAdd, Nat.reduceLT, Nat.reduceLeDiff, Nat.reduceEqDiff, Nat.reduceMul, Nat.reduceSub, Nat.reduceGT, reduceIte, Int.reduceNeg, Int.reduceToNat]) | (refine WP.skip ?_; simp only [go_sem, h1, h2, h3, hq, encTreeNode, encI, encBox, hl1, hl2, List.length_set, tyAll, Nat.reduceAdd, Nat.reduceLT, Nat.reduceLeDiff, Nat.reduceEqDiff, Nat.reduceMul, Nat.reduceSub, Nat.reduceGT, reduceIte, Int.reduceNeg, Int.reduceToNat]) | (refine WP.drawW 13 (by decide +kernel) (by kernel_rfl) ?_; simp only [go_sem, h1, h2, h3, hq, encTreeNode, encI, encBox, hl1, hl2, List.length_set, tyAll, Nat.reduceAdd, Nat.reduceLT, Nat.reduceLeDiff, Nat.reduceEqDiff, Nat.reduceMul, Nat.reduceSub, Nat.reduceGT, reduceIte, Int.reduceNeg, Int.reduceToNat]) | (refine WP.drawW 14 (by decide +kernel) (by kernel_rfl) ?_; simp only [go_sem, h1, h2, h3, hq, encTreeNode, encI, encBox, hl1, hl2, List.length_set, tyAll, Nat.reduceAdd, Nat.reduceLT, Nat.reduceLeDiff, Nat.reduceEqDiff, Nat.reduceMul, Nat.reduceSub, Nat.reduceGT, reduceIte, Int.reduceNeg, Int.reduceToNat]) |  refine And.intro ?_ ?_ | intro _))
      all_goals first | omega | skip
      all_goals refine ⟨k + 1, by omega, by omega, ?_, ?_, ?_⟩
      iterate 2
        · rw [e]; (first | rfl | exact ⟨rfl, rfl⟩ | exact ⟨rfl, rfl, rfl⟩ | exact ⟨rfl, rfl, rfl, rfl⟩ | exact ⟨rfl, rfl, rfl, rfl, rfl⟩ | exact ⟨⟨rfl, rfl⟩, rfl⟩ | simp)
        · rw [e]; simp only [List.map_append, List.map_cons, List.map_nil, boxAt, encBox]
          first | rw [z1 ‹_›, z2 ‹_›] | simp only [z0 ‹_›, Int.sub_zero]
        · show Ob.sl 3 1 (((List.map encI nx).set q (encI (a + L[k].total))).set k (SV.v (Value.int IntKind.i64 a) :: List.drop 1 (Vc.rowAt ((List.map encI nx).set q (encI (a + L[k].total))) k))) = _
          rw [e, hset, r2]; show Ob.sl 3 1 ((List.map encI (nx.set q (a + L[k].total))).set k (encI a)) = Ob.sl 3 1 (List.map encI ((nx.set q (a + L[k].total)).set k a))
          rw [List.map_set (l := nx.set q (a + L[k].total))]
  · have hke : k = L.length := by omega
    subst hke
    (repeat' (first | refine WP.seq ?_ | (refine WP.region ?_; simp only [go_sem, tyAll, Nat.reduceAdd, Nat.reduceLT, Nat.reduceLeDiff, Nat.reduceEqDiff, Nat.reduceMul, Nat.reduceSub, Nat.reduceGT, reduceIte, Int.reduceNeg, Int.reduceToNat]) | refine WP.block ?_ | (refine WP.condW ?_; simp only [go_sem, tyAll, Nat.reduceAdd, Nat.reduceLT, Nat.reduceLeDiff, Nat.reduceEqDiff, Nat.reduceMul, Nat.reduceSub, Nat.reduceGT, reduceIte, Int.reduceNeg, Int.reduceToNat]) | (refine WP.ret ?_; simp only [go_sem, tyAll, Nat.reduceAdd, Nat.reduceLT, Nat.reduceLeDiff, Nat.reduceEqDiff, Nat.reduceMul, Nat.reduceSub, Nat.reduceGT, reduceIte, Int.reduceNeg, Int.reduceToNat]) | (refine WP.exit ?_; simp only [go_sem, tyAll, Nat.reduceAdd, Nat.reduceLT, Nat.reduceLeDiff, Nat.reduceEqDiff, Nat.reduceMul, Nat.reduceSub, Nat.reduceGT, reduceIte, Int.reduceNeg, Int.reduceToNat]) | (refine WP.skip ?_; simp only [go_sem, tyAll, Nat.reduceAdd, Nat.reduceLT, Nat.reduceLeDiff, Nat.reduceEqDiff, Nat.reduceMul, Nat.reduceSub, Nat.reduceGT, reduceIte, Int.reduceNeg, Int.reduceToNat]) | (refine WP.drawW 13 (by decide +kernel) (by kernel_rfl) ?_; simp only [go_sem, tyAll, Nat.reduceAdd, Nat.reduceLT, Nat.reduceLeDiff, Nat.reduceEqDiff, Nat.reduceMul, Nat.reduceSub, Nat.reduceGT, reduceIte, Int.reduceNeg, Int.reduceToNat]) | (refine WP.drawW 14 (by decide +kernel) (by kernel_rfl) ?_; simp only [go_sem, tyAll, Nat.reduceAdd, Nat.reduceLT, Nat.reduceLeDiff, Nat.reduceEqDiff, Nat.reduceMul, Nat.reduceSub, Nat.reduceGT, reduceIte, Int.reduceNeg, Int.reduceToNat]) |  refine And.intro ?_ ?_ | intro _))
    all_goals first | omega | skip
    rw [hf]
end Go.Proofs.Ytkikcjomjofhmaa
