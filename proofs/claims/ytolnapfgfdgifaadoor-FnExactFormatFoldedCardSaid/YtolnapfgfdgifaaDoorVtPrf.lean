/-
  DERIVED. ProfileOk, copies, TotalOf, of the reference and of the program.
-/
import Derived.Test.YtolnapfgfdgifaaDoorVtStk
namespace Go.Proofs.YtolnapfgfdgifaaDoor
open Go.Vc
set_option linter.unusedSimpArgs false
set_option linter.unusedVariables false
set_option maxHeartbeats 1000000
set_option maxRecDepth 10000
attribute [local go_sem] St.runR St.runW St.stepV offV St.step St.stepU St.stepG mkCond guardB St.prK St.pr St.prLen St.eff St.callE St.callD St.callF St.callL aI aB aS aR aC St.isM St.argL Ctr.pure Ctr.lend Ctr.move Ctr.isL Ctr.wri pur len lentBy St.lentV St.lent1 nthS argsR restOf obsR pairs swapL unObs backL St.resL erL SV.ren1 SV.up SV.up2 Ob.up St.fzL cellIds partIds St.intoRow SV.ownId St.fz SV.fz1 St.prep St.mvL St.mv SV.re1 rnOk St.prEq vals eqCells scEq Value.kd St.prStr St.prCut cutR St.bnd St.prMin St.bld isShift outL retL outJ oR oC St.ev St.get St.put St.new St.kill SV.kill SV.kill1 Ob.kill St.app St.wrt St.rowsOf St.res St.killL lk er argsL SV.strip SV.need SV.share SV.share1 SV.owns SV.owns1 SV.owns2 SV.good SV.good1 SV.rok SV.rok1 SV.rok2 SV.isV SV.isV2 nodupN SV.cells SV.one SV.pur partsIn rowsIn splice cellsAt dstOk scal2 scal1 thenK blockK retK outK outs okC okL okA okT nilC nilL nilA nilT keepC keepL keepA keepT St.runG St.dltK St.least St.clean St.final St.hide offK badS badO SV.refs SV.leaf SV.leaf2 Ob.refs dlOk fpAt Go.Vc.cover tups SV.ofAgg St.out outC subL St.has rng wr Value.oneCell' Option.isSome_some Option.isSome_none List.nil_append Bool.false_eq_true List.map_cons List.map_nil List.all_cons List.all_nil List.length_cons List.length_nil List.drop_zero List.drop_succ_cons List.take_succ_cons List.take_zero List.drop_nil List.take_nil List.getElem?_cons_zero List.getElem?_cons_succ List.getElem?_nil List.cons_append List.nil_append List.append_nil List.append_assoc List.flatMap_cons List.flatMap_nil List.contains_cons List.contains_nil List.set_cons_zero List.set_cons_succ List.getElem?_toArray Option.getD_some Option.getD_none Option.map_some Option.map_none Option.bind_some Option.some.injEq Prod.mk.injEq if_true if_false true_and and_true and_self and_false false_and Bool.and_false Bool.false_and Bool.or_true Bool.true_or Bool.or_false Bool.false_or ne_eq not_true_eq_false not_false_eq_true decide_true decide_false List.mem_cons List.not_mem_nil List.filter_cons List.filter_nil List.any_cons List.any_nil List.isEmpty_nil List.isEmpty_cons Option.getD_none or_false false_or true_or or_true forall_eq_or_imp forall_eq reduceCtorEq exists_eq exists_eq' exists_eq_left' exists_eq_left exists_eq_right exists_eq_right' imp_self implies_true Bool.and_true Bool.true_and Bool.and_self beq_self_eq_true List.replicate_succ List.replicate_zero forall_const false_implies pickB_or pickB_and beqT beqF Int.toNat_natCast List.length_map List.length_replicate ge_iff_le gt_iff_lt decide_eq_true_eq decide_eq_false_iff_not Bool.and_eq_true Bool.or_eq_true Bool.not_eq_true' Bool.not_eq_false' condG List.toList_toArray Bool.or_eq_false_iff Bool.and_eq_false_iff Int.not_lt Int.not_le beq_iff_eq beq_eq_false_iff_ne bne_iff_ne bne_eq_false_iff_eq ne_eq Bool.not_true Bool.not_false exists_and_left
attribute [local irreducible] Go.Vc.WP
attribute [local go_sem] cx0_t cx0_c
attribute [local go_sem] decNode_enc decFrame_enc oneFrame_enc stkA oneFrame_ab oneNode_abc decI_enc
/-- a profile: its nodes and its counts -/
def prA (args : List SV) (i : Nat) : List Node × List Int := match args[i]? with
  | some (.agg [.sl _ r, .sl _ q]) => (decNode r, decI q)
  | _ => ([], [])
attribute [local go_sem] prA
def encPr (x : List Node × List Int) : SV := .agg [.sl 3 (x.1.map encNode), .sl 1 (x.2.map encI)]
def wfP (x : List Node × List Int) : Prop := (x.1.length ≤ 4398046511104 ∧ ∀ n ∈ x.1, n.name.size ≤ 1099511627776) ∧ x.2.length ≤ 4398046511104
theorem cntOk_bad {C : List Int} {k : Nat} (hk : k < C.length) (h : C[k] < 0 ∨ 1000000000000 - (C.take k).sum < C[k]) : cntOk C = false := by
  cases hs : cntOk C with
  | false => rfl
  | true => have := cntOk_at hs k hk; omega
theorem profNo {N : List Node} {C : List Int} (h : stacksOk N = false ∨ ¬ (C.length : Int) = N.length ∨ cntOk C = false) : profileOk N C = false := by
  cases hs : profileOk N C with
  | false => rfl
  | true =>
    obtain ⟨h1, h2, h3⟩ := profileOk_iff.1 hs
    rcases h with h | h | h
    · rw [h1] at h; cases h
    · omega
    · rw [h3] at h; cases h
theorem cntOk_all {C : List Int} (h : ∀ j (hj : j < C.length), 0 ≤ C[j] ∧ C[j] ≤ 1000000000000 - (C.take j).sum) : cntOk C = true := by
  unfold cntOk
  exact decide_eq_true h
def kPrOk : Ctr := pur (fun args => prA args 0) (fun x => [.agg [.sl 3 (x.1.map encNode), .sl 1 (x.2.map encI)]]) wfP (fun _ x => .v (.bool (profileOk x.1 x.2))) (fun _ _ => [])
section
noncomputable def cxPoS : Cx := { P := Tryd.prog, tys := tys, C := [(58, kStOk), (59, k60)], hty := tysOk, hC := COk.cons cStOkS (COk.cons c58 (COk.nil _)) }
theorem cxPoS_t : cxPoS.tys = tys := rfl
theorem cxPoS_c : cxPoS.C = [(58, kStOk), (59, k60)] := rfl
attribute [local go_sem] cxPoS_t cxPoS_c kStOk k60
theorem cPrOkS : Cn Tryd.prog 34 kPrOk := by
  refine Cn.pur Tryd.func34 (by kernel_rfl) rfl fun d x hx => ?_
  obtain ⟨N, C⟩ := x
  obtain ⟨⟨hN, hs⟩, hC⟩ := hx
  simp only at hN hs hC ⊢
  refine Holds.go (c := cxPoS) Tryd.func34 rfl Tryd.results34 Tryd.ntmps34 (by omega) (by simp) rfl ?_
  intro X0 w0
  (repeat' (first | refine WP.seq ?_ | (refine WP.region ?_; simp only [go_sem, tyAll, Nat.reduceAdd, Nat.reduceLT, Nat.reduceLeDiff, Nat.reduceEqDiff, Nat.reduceMul, Nat.reduceSub, Nat.reduceGT, reduceIte, Int.reduceNeg, Int.reduceToNat]) | refine WP.block ?_ | (refine WP.condW ?_; simp only [go_sem, tyAll, Nat.reduceAdd, Nat.reduceLT, Nat.reduceLeDiff, Nat.reduceEqDiff, Nat.reduceMul, Nat.reduceSub, Nat.reduceGT, reduceIte, Int.reduceNeg, Int.reduceToNat]) | (refine WP.ret ?_; simp only [go_sem, tyAll, Nat.reduceAdd, Nat.reduceLT, Nat.reduceLeDiff, Nat.reduceEqDiff, Nat.reduceMul, Nat.reduceSub, Nat.reduceGT, reduceIte, Int.reduceNeg, Int.reduceToNat]) | (refine WP.exit ?_; simp only [go_sem, tyAll, Nat.reduceAdd, Nat.reduceLT, Nat.reduceLeDiff, Nat.reduceEqDiff, Nat.reduceMul, Nat.reduceSub, Nat.reduceGT, reduceIte, Int.reduceNeg, Int.reduceToNat]) | (refine WP.skip ?_; simp only [go_sem, tyAll, Nat.reduceAdd, Nat.reduceLT, Nat.reduceLeDiff, Nat.reduceEqDiff, Nat.reduceMul, Nat.reduceSub, Nat.reduceGT, reduceIte, Int.reduceNeg, Int.reduceToNat]) |  refine And.intro ?_ ?_ | intro _))
  all_goals first | omega | exact hs _ ‹_› | skip
  · rename_i h; rw [profNo (h.imp_right .inl)]
  rename_i h
  refine WP.loop (fun k : Nat => ⟨[(1, .ptr 1 0 0 0), (3, .v (.int .i64 (C.take k).sum)), (4, .v (.int .i64 k))], [(1, .box 34 [.sl 3 (N.map encNode), .sl 1 (C.map encI)])]⟩)
    (fun k => k ≤ C.length ∧ ∀ j (hj : j < C.length), j < k → 0 ≤ C[j] ∧ C[j] ≤ 1000000000000 - (C.take j).sum) (fun k => C.length - k) 0 (by simp) ?_ ?_
  · (simp only [go_sem, tyAll, Nat.reduceAdd, Nat.reduceLT, Nat.reduceLeDiff, Nat.reduceEqDiff, Nat.reduceMul, Nat.reduceSub, Nat.reduceGT, reduceIte, Int.reduceNeg, Int.reduceToNat] <;> (first | rfl | exact ⟨rfl, rfl⟩ | exact ⟨rfl, rfl, rfl⟩ | exact ⟨rfl, rfl, rfl, rfl⟩ | exact ⟨rfl, rfl, rfl, rfl, rfl⟩ | exact ⟨⟨rfl, rfl⟩, rfl⟩ | simp))
  intro k ⟨hk, hf⟩
  have hsum : 0 ≤ (C.take k).sum ∧ (C.take k).sum ≤ 1000000000000 := by
    have := cntOk_sum (C := C.take k) (fun j hj => by
      rw [List.length_take] at hj
      have := hf j (by omega) (by omega)
      rw [List.getElem_take, List.take_take, Nat.min_eq_left (by omega)]
      exact this) k (by rw [List.length_take]; omega)
    rwa [List.take_take, Nat.min_self] at this
  by_cases hlt : k < C.length
  · have h1 := rowAt_map encI C k hlt
    have h2 := take_sum C k hlt
    (repeat' (first | refine WP.seq ?_ | (refine WP.region ?_; simp only [go_sem, h1, encI, tyAll, Nat.reduceAdd, Nat.reduceLT, Nat.reduceLeDiff, Nat.reduceEqDiff, Nat.reduceMul, Nat.reduceSub, Nat.reduceGT, reduceIte, Int.reduceNeg, Int.reduceToNat]) | refine WP.block ?_ | (refine WP.condW ?_; simp only [go_sem, h1, encI, tyAll, Nat.reduceAdd, Nat.reduceLT, Nat.reduceLeDiff, Nat.reduceEqDiff, Nat.reduceMul, Nat.reduceSub, Nat.reduceGT, reduceIte, Int.reduceNeg, Int.reduceToNat]) | (refine WP.ret ?_; simp only [go_sem, h1, encI, tyAll, Nat.reduceAdd, Nat.reduceLT, Nat.reduceLeDiff, Nat.reduceEqDiff, Nat.reduceMul, Nat.reduceSub, Nat.reduceGT, reduceIte, Int.reduceNeg, Int.reduceToNat]) | (refine WP.exit ?_; simp only [go_sem, h1, encI, tyAll, Nat.reduceAdd, Nat.reduceLT, Nat.reduceLeDiff, Nat.reduceEqDiff, Nat.reduceMul, Nat.reduceSub, Nat.reduceGT, reduceIte, Int.reduceNeg, Int.reduceToNat]) | (refine WP.skip ?_; simp only [go_sem, h1, encI, tyAll, Nat.reduceAdd, Nat.reduceLT, Nat.reduceLeDiff, Nat.reduceEqDiff, Nat.reduceMul, Nat.reduceSub, Nat.reduceGT, reduceIte, Int.reduceNeg, Int.reduceToNat]) |  refine And.intro ?_ ?_ | intro _))
    all_goals first | omega | skip
    · rename_i hb; rw [profNo (.inr (.inr (cntOk_bad hlt (by omega))))]
    · rename_i hb
      refine ⟨k + 1, ⟨by omega, fun j hj hjk => ?_⟩, by omega, by rw [h2]; (first | rfl | exact ⟨rfl, rfl⟩ | exact ⟨rfl, rfl, rfl⟩ | exact ⟨rfl, rfl, rfl, rfl⟩ | exact ⟨rfl, rfl, rfl, rfl, rfl⟩ | exact ⟨⟨rfl, rfl⟩, rfl⟩ | simp)⟩
      rcases Nat.lt_or_ge j k with hh | hh
      · exact hf j hj hh
      · have : j = k := by omega
        subst this; omega
  · (repeat' (first | refine WP.seq ?_ | (refine WP.region ?_; simp only [go_sem, tyAll, Nat.reduceAdd, Nat.reduceLT, Nat.reduceLeDiff, Nat.reduceEqDiff, Nat.reduceMul, Nat.reduceSub, Nat.reduceGT, reduceIte, Int.reduceNeg, Int.reduceToNat]) | refine WP.block ?_ | (refine WP.condW ?_; simp only [go_sem, tyAll, Nat.reduceAdd, Nat.reduceLT, Nat.reduceLeDiff, Nat.reduceEqDiff, Nat.reduceMul, Nat.reduceSub, Nat.reduceGT, reduceIte, Int.reduceNeg, Int.reduceToNat]) | (refine WP.ret ?_; simp only [go_sem, tyAll, Nat.reduceAdd, Nat.reduceLT, Nat.reduceLeDiff, Nat.reduceEqDiff, Nat.reduceMul, Nat.reduceSub, Nat.reduceGT, reduceIte, Int.reduceNeg, Int.reduceToNat]) | (refine WP.exit ?_; simp only [go_sem, tyAll, Nat.reduceAdd, Nat.reduceLT, Nat.reduceLeDiff, Nat.reduceEqDiff, Nat.reduceMul, Nat.reduceSub, Nat.reduceGT, reduceIte, Int.reduceNeg, Int.reduceToNat]) | (refine WP.skip ?_; simp only [go_sem, tyAll, Nat.reduceAdd, Nat.reduceLT, Nat.reduceLeDiff, Nat.reduceEqDiff, Nat.reduceMul, Nat.reduceSub, Nat.reduceGT, reduceIte, Int.reduceNeg, Int.reduceToNat]) |  refine And.intro ?_ ?_ | intro _))
    all_goals first | omega | skip
    rw [profileOk_iff.2 ⟨h.1, by omega, cntOk_all fun j hj => hf j hj (by omega)⟩]
end
section
noncomputable def cxPoI : Cx := { P := Tryd.prog, tys := tys, C := [(62, kStOk), (63, k60)], hty := tysOk, hC := COk.cons cStOkI (COk.cons c60 (COk.nil _)) }
theorem cxPoI_t : cxPoI.tys = tys := rfl
theorem cxPoI_c : cxPoI.C = [(62, kStOk), (63, k60)] := rfl
attribute [local go_sem] cxPoI_t cxPoI_c kStOk k60
theorem cPrOkI : Cn Tryd.prog 39 kPrOk := by
  refine Cn.pur Tryd.func39 (by kernel_rfl) rfl fun d x hx => ?_
  obtain ⟨N, C⟩ := x
  obtain ⟨⟨hN, hs⟩, hC⟩ := hx
  simp only at hN hs hC ⊢
  refine Holds.go (c := cxPoI) Tryd.func39 rfl Tryd.results39 Tryd.ntmps39 (by omega) (by simp) rfl ?_
  intro X0 w0
  (repeat' (first | refine WP.seq ?_ | (refine WP.region ?_; simp only [go_sem, tyAll, Nat.reduceAdd, Nat.reduceLT, Nat.reduceLeDiff, Nat.reduceEqDiff, Nat.reduceMul, Nat.reduceSub, Nat.reduceGT, reduceIte, Int.reduceNeg, Int.reduceToNat]) | refine WP.block ?_ | (refine WP.condW ?_; simp only [go_sem, tyAll, Nat.reduceAdd, Nat.reduceLT, Nat.reduceLeDiff, Nat.reduceEqDiff, Nat.reduceMul, Nat.reduceSub, Nat.reduceGT, reduceIte, Int.reduceNeg, Int.reduceToNat]) | (refine WP.ret ?_; simp only [go_sem, tyAll, Nat.reduceAdd, Nat.reduceLT, Nat.reduceLeDiff, Nat.reduceEqDiff, Nat.reduceMul, Nat.reduceSub, Nat.reduceGT, reduceIte, Int.reduceNeg, Int.reduceToNat]) | (refine WP.exit ?_; simp only [go_sem, tyAll, Nat.reduceAdd, Nat.reduceLT, Nat.reduceLeDiff, Nat.reduceEqDiff, Nat.reduceMul, Nat.reduceSub, Nat.reduceGT, reduceIte, Int.reduceNeg, Int.reduceToNat]) | (refine WP.skip ?_; simp only [go_sem, tyAll, Nat.reduceAdd, Nat.reduceLT, Nat.reduceLeDiff, Nat.reduceEqDiff, Nat.reduceMul, Nat.reduceSub, Nat.reduceGT, reduceIte, Int.reduceNeg, Int.reduceToNat]) |  refine And.intro ?_ ?_ | intro _))
  all_goals first | omega | exact hs _ ‹_› | skip
  · rename_i h; rw [profNo (h.imp_right .inl)]
  rename_i h
  refine WP.loop (fun k : Nat => ⟨[(3, .v (.int .i64 (1000000000000 - (C.take k).sum))), (21, .sl 1 (C.map encI)), (22, .v (.int .i64 C.length)), (23, .v (.int .i64 k))], []⟩)
    (fun k => k ≤ C.length ∧ ∀ j (hj : j < C.length), j < k → 0 ≤ C[j] ∧ C[j] ≤ 1000000000000 - (C.take j).sum) (fun k => C.length - k) 0 (by simp) ?_ ?_
  · (simp only [go_sem, tyAll, Nat.reduceAdd, Nat.reduceLT, Nat.reduceLeDiff, Nat.reduceEqDiff, Nat.reduceMul, Nat.reduceSub, Nat.reduceGT, reduceIte, Int.reduceNeg, Int.reduceToNat] <;> (first | rfl | exact ⟨rfl, rfl⟩ | exact ⟨rfl, rfl, rfl⟩ | exact ⟨rfl, rfl, rfl, rfl⟩ | exact ⟨rfl, rfl, rfl, rfl, rfl⟩ | exact ⟨⟨rfl, rfl⟩, rfl⟩ | simp))
  intro k ⟨hk, hf⟩
  have hsum : 0 ≤ (C.take k).sum ∧ (C.take k).sum ≤ 1000000000000 := by
    have := cntOk_sum (C := C.take k) (fun j hj => by
      rw [List.length_take] at hj
      have := hf j (by omega) (by omega)
      rw [List.getElem_take, List.take_take, Nat.min_eq_left (by omega)]
      exact this) k (by rw [List.length_take]; omega)
    rwa [List.take_take, Nat.min_self] at this
  by_cases hlt : k < C.length
  · have h1 := rowAt_map encI C k hlt
    have h2 := take_sum C k hlt
    (repeat' (first | refine WP.seq ?_ | (refine WP.region ?_; simp only [go_sem, h1, encI, tyAll, Nat.reduceAdd, Nat.reduceLT, Nat.reduceLeDiff, Nat.reduceEqDiff, Nat.reduceMul, Nat.reduceSub, Nat.reduceGT, reduceIte, Int.reduceNeg, Int.reduceToNat]) | refine WP.block ?_ | (refine WP.condW ?_; simp only [go_sem, h1, encI, tyAll, Nat.reduceAdd, Nat.reduceLT, Nat.reduceLeDiff, Nat.reduceEqDiff, Nat.reduceMul, Nat.reduceSub, Nat.reduceGT, reduceIte, Int.reduceNeg, Int.reduceToNat]) | (refine WP.ret ?_; simp only [go_sem, h1, encI, tyAll, Nat.reduceAdd, Nat.reduceLT, Nat.reduceLeDiff, Nat.reduceEqDiff, Nat.reduceMul, Nat.reduceSub, Nat.reduceGT, reduceIte, Int.reduceNeg, Int.reduceToNat]) | (refine WP.exit ?_; simp only [go_sem, h1, encI, tyAll, Nat.reduceAdd, Nat.reduceLT, Nat.reduceLeDiff, Nat.reduceEqDiff, Nat.reduceMul, Nat.reduceSub, Nat.reduceGT, reduceIte, Int.reduceNeg, Int.reduceToNat]) | (refine WP.skip ?_; simp only [go_sem, h1, encI, tyAll, Nat.reduceAdd, Nat.reduceLT, Nat.reduceLeDiff, Nat.reduceEqDiff, Nat.reduceMul, Nat.reduceSub, Nat.reduceGT, reduceIte, Int.reduceNeg, Int.reduceToNat]) |  refine And.intro ?_ ?_ | intro _))
    all_goals first | omega | skip
    · rename_i hb; rw [profNo (.inr (.inr (cntOk_bad hlt (by omega))))]
    · rename_i hb
      refine ⟨k + 1, ⟨by omega, fun j hj hjk => ?_⟩, by omega, by rw [h2, ← Int.sub_sub]; (first | rfl | exact ⟨rfl, rfl⟩ | exact ⟨rfl, rfl, rfl⟩ | exact ⟨rfl, rfl, rfl, rfl⟩ | exact ⟨rfl, rfl, rfl, rfl, rfl⟩ | exact ⟨⟨rfl, rfl⟩, rfl⟩ | simp)⟩
      rcases Nat.lt_or_ge j k with hh | hh
      · exact hf j hj hh
      · have : j = k := by omega
        subst this; omega
  · (repeat' (first | refine WP.seq ?_ | (refine WP.region ?_; simp only [go_sem, tyAll, Nat.reduceAdd, Nat.reduceLT, Nat.reduceLeDiff, Nat.reduceEqDiff, Nat.reduceMul, Nat.reduceSub, Nat.reduceGT, reduceIte, Int.reduceNeg, Int.reduceToNat]) | refine WP.block ?_ | (refine WP.condW ?_; simp only [go_sem, tyAll, Nat.reduceAdd, Nat.reduceLT, Nat.reduceLeDiff, Nat.reduceEqDiff, Nat.reduceMul, Nat.reduceSub, Nat.reduceGT, reduceIte, Int.reduceNeg, Int.reduceToNat]) | (refine WP.ret ?_; simp only [go_sem, tyAll, Nat.reduceAdd, Nat.reduceLT, Nat.reduceLeDiff, Nat.reduceEqDiff, Nat.reduceMul, Nat.reduceSub, Nat.reduceGT, reduceIte, Int.reduceNeg, Int.reduceToNat]) | (refine WP.exit ?_; simp only [go_sem, tyAll, Nat.reduceAdd, Nat.reduceLT, Nat.reduceLeDiff, Nat.reduceEqDiff, Nat.reduceMul, Nat.reduceSub, Nat.reduceGT, reduceIte, Int.reduceNeg, Int.reduceToNat]) | (refine WP.skip ?_; simp only [go_sem, tyAll, Nat.reduceAdd, Nat.reduceLT, Nat.reduceLeDiff, Nat.reduceEqDiff, Nat.reduceMul, Nat.reduceSub, Nat.reduceGT, reduceIte, Int.reduceNeg, Int.reduceToNat]) |  refine And.intro ?_ ?_ | intro _))
    all_goals first | omega | skip
    rw [profileOk_iff.2 ⟨h.1, by omega, cntOk_all fun j hj => hf j hj (by omega)⟩]
end
def kCopyPr : Ctr := pur (fun args => prA args 0) (fun x => [.agg [.sl 3 (x.1.map encNode), .sl 1 (x.2.map encI)]]) (fun x => x.1.length ≤ 4398046511104 ∧ x.2.length ≤ 4398046511104) (fun d _ => .agg [.own d, .own (d + 1000)]) (fun d x => [(d, .sl 87 3 (x.1.map encNode)), (d + 1000, .sl 3 1 (x.2.map encI))])
section
noncomputable def cxCpS : Cx := { P := Tryd.prog, tys := tys, C := [(100, kCopyStk)], hty := tysOk, hC := COk.cons cCopyStkS (COk.nil _) }
theorem cxCpS_t : cxCpS.tys = tys := rfl
theorem cxCpS_c : cxCpS.C = [(100, kCopyStk)] := rfl
attribute [local go_sem] cxCpS_t cxCpS_c kCopyStk
theorem cCopyPrS : Cn Tryd.prog 72 kCopyPr := by
  refine Cn.pur Tryd.func72 (by kernel_rfl) rfl fun d x hx => ?_
  obtain ⟨N, C⟩ := x
  obtain ⟨hN, hC⟩ := hx
  simp only at hN hC ⊢
  refine Holds.go (c := cxCpS) Tryd.func72 rfl Tryd.results72 Tryd.ntmps72 (by omega) (by simp) rfl ?_
  intro X0 w0
  (repeat' (first | refine WP.seq ?_ | (refine WP.region ?_; simp only [go_sem, tyAll, Nat.reduceAdd, Nat.reduceLT, Nat.reduceLeDiff, Nat.reduceEqDiff, Nat.reduceMul, Nat.reduceSub, Nat.reduceGT, reduceIte, Int.reduceNeg, Int.reduceToNat]) | refine WP.block ?_ | (refine WP.condW ?_; simp only [go_sem, tyAll, Nat.reduceAdd, Nat.reduceLT, Nat.reduceLeDiff, Nat.reduceEqDiff, Nat.reduceMul, Nat.reduceSub, Nat.reduceGT, reduceIte, Int.reduceNeg, Int.reduceToNat]) | (refine WP.ret ?_; simp only [go_sem, tyAll, Nat.reduceAdd, Nat.reduceLT, Nat.reduceLeDiff, Nat.reduceEqDiff, Nat.reduceMul, Nat.reduceSub, Nat.reduceGT, reduceIte, Int.reduceNeg, Int.reduceToNat]) | (refine WP.exit ?_; simp only [go_sem, tyAll, Nat.reduceAdd, Nat.reduceLT, Nat.reduceLeDiff, Nat.reduceEqDiff, Nat.reduceMul, Nat.reduceSub, Nat.reduceGT, reduceIte, Int.reduceNeg, Int.reduceToNat]) | (refine WP.skip ?_; simp only [go_sem, tyAll, Nat.reduceAdd, Nat.reduceLT, Nat.reduceLeDiff, Nat.reduceEqDiff, Nat.reduceMul, Nat.reduceSub, Nat.reduceGT, reduceIte, Int.reduceNeg, Int.reduceToNat]) | (refine WP.flowW 6 [⟨[1], [], [], [5, 6], [], []⟩, ⟨[3], [0], [], [5, 6], [], []⟩, ⟨[4], [0, 1], [], [6], [], [5]⟩, ⟨[], [], [], [5], [], [6]⟩, ⟨[1], [], [], [5, 6], [], []⟩, ⟨[7], [4], [], [5, 6], [], []⟩, ⟨[], [0, 1, 2, 3, 4, 5], [], [], [], []⟩, ⟨[], [0, 1, 2, 3, 4, 5, 6], [], [], [], []⟩, ⟨[], [0, 1, 2, 3, 4, 5, 6, 7], [], [], [], []⟩] [3, 4, 5, 6, 7, 8] [5, 6] [] (by decide +kernel) (by kernel_rfl) (by kernel_rfl) (by kernel_rfl) ?_; simp only [go_sem, tyAll, Nat.reduceAdd, Nat.reduceLT, Nat.reduceLeDiff, Nat.reduceEqDiff, Nat.reduceMul, Nat.reduceSub, Nat.reduceGT, reduceIte, Int.reduceNeg, Int.reduceToNat]) |  refine And.intro ?_ ?_ | intro _))
  all_goals first | omega | exact rlNode ‹_› | exact rlI ‹_› | exact ⟨_, _, _, rfl⟩ | exact ⟨_, _, rfl, _, _, rfl, rfl⟩ | exact if_neg (by omega) | skip
end
section
noncomputable def cxCpI : Cx := { P := Tryd.prog, tys := tys, C := [(107, kCopyStk)], hty := tysOk, hC := COk.cons cCopyStkI (COk.nil _) }
theorem cxCpI_t : cxCpI.tys = tys := rfl
theorem cxCpI_c : cxCpI.C = [(107, kCopyStk)] := rfl
attribute [local go_sem] cxCpI_t cxCpI_c kCopyStk
theorem cCopyPrI : Cn Tryd.prog 77 kCopyPr := by
  refine Cn.pur Tryd.func77 (by kernel_rfl) rfl fun d x hx => ?_
  obtain ⟨N, C⟩ := x
  obtain ⟨hN, hC⟩ := hx
  simp only at hN hC ⊢
  refine Holds.go (c := cxCpI) Tryd.func77 rfl Tryd.results77 Tryd.ntmps77 (by omega) (by simp) rfl ?_
  intro X0 w0
  (repeat' (first | refine WP.seq ?_ | (refine WP.region ?_; simp only [go_sem, tyAll, Nat.reduceAdd, Nat.reduceLT, Nat.reduceLeDiff, Nat.reduceEqDiff, Nat.reduceMul, Nat.reduceSub, Nat.reduceGT, reduceIte, Int.reduceNeg, Int.reduceToNat]) | refine WP.block ?_ | (refine WP.condW ?_; simp only [go_sem, tyAll, Nat.reduceAdd, Nat.reduceLT, Nat.reduceLeDiff, Nat.reduceEqDiff, Nat.reduceMul, Nat.reduceSub, Nat.reduceGT, reduceIte, Int.reduceNeg, Int.reduceToNat]) | (refine WP.ret ?_; simp only [go_sem, tyAll, Nat.reduceAdd, Nat.reduceLT, Nat.reduceLeDiff, Nat.reduceEqDiff, Nat.reduceMul, Nat.reduceSub, Nat.reduceGT, reduceIte, Int.reduceNeg, Int.reduceToNat]) | (refine WP.exit ?_; simp only [go_sem, tyAll, Nat.reduceAdd, Nat.reduceLT, Nat.reduceLeDiff, Nat.reduceEqDiff, Nat.reduceMul, Nat.reduceSub, Nat.reduceGT, reduceIte, Int.reduceNeg, Int.reduceToNat]) | (refine WP.skip ?_; simp only [go_sem, tyAll, Nat.reduceAdd, Nat.reduceLT, Nat.reduceLeDiff, Nat.reduceEqDiff, Nat.reduceMul, Nat.reduceSub, Nat.reduceGT, reduceIte, Int.reduceNeg, Int.reduceToNat]) | (refine WP.flowW 6 [⟨[1], [], [], [5, 6], [], []⟩, ⟨[3], [0], [], [5, 6], [], []⟩, ⟨[4], [0, 1], [], [6], [], [5]⟩, ⟨[], [], [], [5], [], [6]⟩, ⟨[1], [], [], [5, 6], [], []⟩, ⟨[7], [4], [], [5, 6], [], []⟩, ⟨[], [0, 1, 2, 3, 4, 5], [], [], [], []⟩, ⟨[], [0, 1, 2, 3, 4, 5, 6], [], [], [], []⟩, ⟨[], [0, 1, 2, 3, 4, 5, 6, 7], [], [], [], []⟩] [3, 4, 5, 6, 7, 8] [5, 6] [] (by decide +kernel) (by kernel_rfl) (by kernel_rfl) (by kernel_rfl) ?_; simp only [go_sem, tyAll, Nat.reduceAdd, Nat.reduceLT, Nat.reduceLeDiff, Nat.reduceEqDiff, Nat.reduceMul, Nat.reduceSub, Nat.reduceGT, reduceIte, Int.reduceNeg, Int.reduceToNat]) |  refine And.intro ?_ ?_ | intro _))
  all_goals first | omega | exact rlNode ‹_› | exact rlI ‹_› | exact ⟨_, _, _, rfl⟩ | exact ⟨_, _, rfl, _, _, rfl, rfl⟩ | exact if_neg (by omega) | skip
end
end Go.Proofs.YtolnapfgfdgifaaDoor
