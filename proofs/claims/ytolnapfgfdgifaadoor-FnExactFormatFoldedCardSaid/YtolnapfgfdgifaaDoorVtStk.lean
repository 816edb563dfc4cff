/-
  DERIVED. Frames and interned stacks, of the reference and of the program.
-/
import Derived.Test.YtolnapfgfdgifaaDoorVpEnt
namespace Go.Proofs.YtolnapfgfdgifaaDoor
open Go.Vc
set_option linter.unusedSimpArgs false
set_option linter.unusedVariables false
set_option maxHeartbeats 1000000
set_option maxRecDepth 10000
attribute [local go_sem] St.runR St.runW St.stepV offV St.step St.stepU St.stepG mkCond guardB St.prK St.pr St.prLen St.eff St.callE St.callD St.callF St.callL aI aB aS aR aC St.isM St.argL Ctr.pure Ctr.lend Ctr.move Ctr.isL Ctr.wri pur len lentBy St.lentV St.lent1 nthS argsR restOf obsR pairs swapL unObs backL St.resL erL SV.ren1 SV.up SV.up2 Ob.up St.fzL cellIds partIds St.intoRow SV.ownId St.fz SV.fz1 St.prep St.mvL St.mv SV.re1 rnOk St.prEq vals eqCells scEq Value.kd St.prStr St.prCut cutR St.bnd St.prMin St.bld isShift outL retL outJ oR oC St.ev St.get St.put St.new St.kill SV.kill SV.kill1 Ob.kill St.app St.wrt St.rowsOf St.res St.killL lk er argsL SV.strip SV.need SV.share SV.share1 SV.owns SV.owns1 SV.owns2 SV.good SV.good1 SV.rok SV.rok1 SV.rok2 SV.isV SV.isV2 nodupN SV.cells SV.one SV.pur partsIn rowsIn splice cellsAt dstOk scal2 scal1 thenK blockK retK outK outs okC okL okA okT nilC nilL nilA nilT keepC keepL keepA keepT St.runG St.dltK St.least St.clean St.final St.hide offK badS badO SV.refs SV.leaf SV.leaf2 Ob.refs dlOk fpAt Go.Vc.cover tups SV.ofAgg St.out outC subL St.has rng wr Value.oneCell' Option.isSome_some Option.isSome_none List.nil_append Bool.false_eq_true List.map_cons List.map_nil List.all_cons List.all_nil List.length_cons List.length_nil List.drop_zero List.drop_succ_cons List.take_succ_cons List.take_zero List.drop_nil List.take_nil List.getElem?_cons_zero List.getElem?_cons_succ List.getElem?_nil List.cons_append List.nil_append List.append_nil List.append_assoc List.flatMap_cons List.flatMap_nil List.contains_cons List.contains_nil List.set_cons_zero List.set_cons_succ List.getElem?_toArray Option.getD_some Option.getD_none Option.map_some Option.map_none Option.bind_some Option.some.injEq Prod.mk.injEq if_true if_false true_and and_true and_self and_false false_and Bool.and_false Bool.false_and Bool.or_true Bool.true_or Bool.or_false Bool.false_or ne_eq not_true_eq_false not_false_eq_true decide_true decide_false List.mem_cons List.not_mem_nil List.filter_cons List.filter_nil List.any_cons List.any_nil List.isEmpty_nil List.isEmpty_cons Option.getD_none or_false false_or true_or or_true forall_eq_or_imp forall_eq reduceCtorEq exists_eq exists_eq' exists_eq_left' exists_eq_left exists_eq_right exists_eq_right' imp_self implies_true Bool.and_true Bool.true_and Bool.and_self beq_self_eq_true List.replicate_succ List.replicate_zero forall_const false_implies pickB_or pickB_and beqT beqF Int.toNat_natCast List.length_map List.length_replicate ge_iff_le gt_iff_lt decide_eq_true_eq decide_eq_false_iff_not Bool.and_eq_true Bool.or_eq_true Bool.not_eq_true' Bool.not_eq_false' condG List.toList_toArray Bool.or_eq_false_iff Bool.and_eq_false_iff Int.not_lt Int.not_le beq_iff_eq beq_eq_false_iff_ne bne_iff_ne bne_eq_false_iff_eq ne_eq Bool.not_true Bool.not_false exists_and_left
attribute [local irreducible] Go.Vc.WP
attribute [local go_sem] cx0_t cx0_c
attribute [local go_sem] decNode_enc oneFrame_enc
/-- a struct of one list of nodes -/
def stkA (args : List SV) (i : Nat) : List Node := match args[i]? with
  | some (.agg [.sl _ rows]) => decNode rows
  | _ => []
theorem stNode_frOk {N : List Node} {k : Nat} {x : Node} (h : frOk (nodeFr x) = false) : stNode N k x = false := by
  cases hs : stNode N k x with
  | false => rfl
  | true => rw [(stNode_iff.1 hs).2.2.1] at h; cases h
theorem stNode_par {N : List Node} {k : Nat} {x : Node} (h : x.parent < -1 ∨ (k : Int) - 1 < x.parent) : stNode N k x = false := by
  cases hs : stNode N k x with
  | false => rfl
  | true => have := stNode_iff.1 hs; omega
def kFrOk : Ctr := pur (fun args => oneFrame (aC args 0)) (fun f => [.agg (encFrame f)]) (fun f => f.name.size ≤ 1099511627776) (fun _ f => .v (.bool (frOk f))) (fun _ _ => [])
section
noncomputable def cxFrI : Cx := { P := Tryd.prog, tys := tys, C := [(83, kNameOk), (63, k60)], hty := tysOk, hC := COk.cons cNameOkI (COk.cons c60 (COk.nil _)) }
theorem cxFrI_t : cxFrI.tys = tys := rfl
theorem cxFrI_c : cxFrI.C = [(83, kNameOk), (63, k60)] := rfl
attribute [local go_sem] cxFrI_t cxFrI_c kNameOk k60
theorem cFrOkI : Cn Tryd.prog 64 kFrOk := by
  refine Cn.pur Tryd.func64 (by kernel_rfl) rfl fun d x hx => ?_
  refine Holds.go (c := cxFrI) Tryd.func64 rfl Tryd.results64 Tryd.ntmps64 (by omega) (by simp) rfl ?_
  intro X0 w0
  (repeat' (first | refine WP.seq ?_ | (refine WP.region ?_; simp only [go_sem, encFrame, tyAll, Nat.reduceAdd, Nat.reduceLT, Nat.reduceLeDiff, Nat.reduceEqDiff, Nat.reduceMul, Nat.reduceSub, Nat.reduceGT, reduceIte, Int.reduceNeg, Int.reduceToNat]) | refine WP.block ?_ | (refine WP.condW ?_; simp only [go_sem, encFrame, tyAll, Nat.reduceAdd, Nat.reduceLT, Nat.reduceLeDiff, Nat.reduceEqDiff, Nat.reduceMul, Nat.reduceSub, Nat.reduceGT, reduceIte, Int.reduceNeg, Int.reduceToNat]) | (refine WP.ret ?_; simp only [go_sem, encFrame, tyAll, Nat.reduceAdd, Nat.reduceLT, Nat.reduceLeDiff, Nat.reduceEqDiff, Nat.reduceMul, Nat.reduceSub, Nat.reduceGT, reduceIte, Int.reduceNeg, Int.reduceToNat]) | (refine WP.exit ?_; simp only [go_sem, encFrame, tyAll, Nat.reduceAdd, Nat.reduceLT, Nat.reduceLeDiff, Nat.reduceEqDiff, Nat.reduceMul, Nat.reduceSub, Nat.reduceGT, reduceIte, Int.reduceNeg, Int.reduceToNat]) | (refine WP.skip ?_; simp only [go_sem, encFrame, tyAll, Nat.reduceAdd, Nat.reduceLT, Nat.reduceLeDiff, Nat.reduceEqDiff, Nat.reduceMul, Nat.reduceSub, Nat.reduceGT, reduceIte, Int.reduceNeg, Int.reduceToNat]) |  refine And.intro ?_ ?_ | intro _))
  all_goals first | omega | skip
  rw [frOk, Bool.and_assoc]
end
section
noncomputable def cxFrS : Cx := { P := Tryd.prog, tys := tys, C := [(60, kNameOk), (59, k60)], hty := tysOk, hC := COk.cons cNameOkS (COk.cons c58 (COk.nil _)) }
theorem cxFrS_t : cxFrS.tys = tys := rfl
theorem cxFrS_c : cxFrS.C = [(60, kNameOk), (59, k60)] := rfl
attribute [local go_sem] cxFrS_t cxFrS_c kNameOk k60
theorem cFrOkS : Cn Tryd.prog 81 kFrOk := by
  refine Cn.pur Tryd.func81 (by kernel_rfl) rfl fun d x hx => ?_
  refine Holds.go (c := cxFrS) Tryd.func81 rfl Tryd.results81 Tryd.ntmps81 (by omega) (by simp) rfl ?_
  intro X0 w0
  (repeat' (first | refine WP.seq ?_ | (refine WP.region ?_; simp only [go_sem, encFrame, tyAll, Nat.reduceAdd, Nat.reduceLT, Nat.reduceLeDiff, Nat.reduceEqDiff, Nat.reduceMul, Nat.reduceSub, Nat.reduceGT, reduceIte, Int.reduceNeg, Int.reduceToNat]) | refine WP.block ?_ | (refine WP.condW ?_; simp only [go_sem, encFrame, tyAll, Nat.reduceAdd, Nat.reduceLT, Nat.reduceLeDiff, Nat.reduceEqDiff, Nat.reduceMul, Nat.reduceSub, Nat.reduceGT, reduceIte, Int.reduceNeg, Int.reduceToNat]) | (refine WP.ret ?_; simp only [go_sem, encFrame, tyAll, Nat.reduceAdd, Nat.reduceLT, Nat.reduceLeDiff, Nat.reduceEqDiff, Nat.reduceMul, Nat.reduceSub, Nat.reduceGT, reduceIte, Int.reduceNeg, Int.reduceToNat]) | (refine WP.exit ?_; simp only [go_sem, encFrame, tyAll, Nat.reduceAdd, Nat.reduceLT, Nat.reduceLeDiff, Nat.reduceEqDiff, Nat.reduceMul, Nat.reduceSub, Nat.reduceGT, reduceIte, Int.reduceNeg, Int.reduceToNat]) | (refine WP.skip ?_; simp only [go_sem, encFrame, tyAll, Nat.reduceAdd, Nat.reduceLT, Nat.reduceLeDiff, Nat.reduceEqDiff, Nat.reduceMul, Nat.reduceSub, Nat.reduceGT, reduceIte, Int.reduceNeg, Int.reduceToNat]) |  refine And.intro ?_ ?_ | intro _))
  all_goals first | omega | skip
  rw [frOk, Bool.and_assoc]
end
theorem oneFrame_ab (a : ByteArray) (b : Int) : oneFrame [.v (.string a), .v (.int .i64 b)] = ⟨a, b⟩ := rfl
theorem oneNode_abc (p : Int) (a : ByteArray) (b : Int) : oneNode [.v (.int .i64 p), .v (.string a), .v (.int .i64 b)] = ⟨p, a, b⟩ := rfl
def wfN (N : List Node) : Prop := N.length ≤ 4398046511104 ∧ ∀ x ∈ N, x.name.size ≤ 1099511627776
theorem wfN.nm {N : List Node} (h : wfN N) {k : Nat} (hk : k < N.length) : N[k].name.size ≤ 1099511627776 := h.2 _ (List.getElem_mem hk)
def kStOk : Ctr := pur (fun args => stkA args 0) (fun N => [.agg [.sl 3 (N.map encNode)]]) wfN (fun _ N => .v (.bool (stacksOk N))) (fun _ _ => [])
attribute [local go_sem] stkA oneFrame_ab oneNode_abc
theorem noFr {N : List Node} {k : Nat} (hk : k < N.length) (h : (N[k].parent < -1 ∨ (k : Int) - 1 < N[k].parent) ∨ frOk ⟨N[k].name, N[k].line⟩ = false) : stacksOk N = false := by
  refine stacksOk_bad hk ?_
  rcases h with h | h
  · exact stNode_par h
  · exact stNode_frOk h
theorem node_eq {a b : Node} (h : a.parent = b.parent ∧ a.name = b.name ∧ a.line = b.line) : a = b := by
  obtain ⟨p, n, l⟩ := a
  obtain ⟨p', n', l'⟩ := b
  simp only at h
  obtain ⟨rfl, rfl, rfl⟩ := h
  rfl
theorem node_ne {a b : Node} (h : ¬ a.parent = b.parent ∨ ¬ a.name = b.name ∨ ¬ a.line = b.line) : a ≠ b := fun e => by
  subst e
  rcases h with h | h | h <;> exact h rfl
theorem rowAt_take (rows : List (List SV)) {k i : Nat} (h : i < k) : Go.Vc.rowAt (rows.take k) i = Go.Vc.rowAt rows i := by
  unfold Go.Vc.rowAt
  rw [List.getElem?_take_of_lt h]
section
noncomputable def cxSoS : Cx := { P := Tryd.prog, tys := tys, C := [(81, kFrOk), (59, k60)], hty := tysOk, hC := COk.cons cFrOkS (COk.cons c58 (COk.nil _)) }
theorem cxSoS_t : cxSoS.tys = tys := rfl
theorem cxSoS_c : cxSoS.C = [(81, kFrOk), (59, k60)] := rfl
attribute [local go_sem] cxSoS_t cxSoS_c kFrOk k60
theorem cStOkS : Cn Tryd.prog 58 kStOk := by
  refine Cn.pur Tryd.func58 (by kernel_rfl) rfl fun d x hx => ?_
  rename List Node => N
  have hN := hx.1
  refine Holds.go (c := cxSoS) Tryd.func58 rfl Tryd.results58 Tryd.ntmps58 (by omega) (by simp) rfl ?_
  intro X0 w0
  (repeat' (first | refine WP.seq ?_ | (refine WP.region ?_; simp only [go_sem, tyAll, Nat.reduceAdd, Nat.reduceLT, Nat.reduceLeDiff, Nat.reduceEqDiff, Nat.reduceMul, Nat.reduceSub, Nat.reduceGT, reduceIte, Int.reduceNeg, Int.reduceToNat]) | refine WP.block ?_ | (refine WP.condW ?_; simp only [go_sem, tyAll, Nat.reduceAdd, Nat.reduceLT, Nat.reduceLeDiff, Nat.reduceEqDiff, Nat.reduceMul, Nat.reduceSub, Nat.reduceGT, reduceIte, Int.reduceNeg, Int.reduceToNat]) | (refine WP.ret ?_; simp only [go_sem, tyAll, Nat.reduceAdd, Nat.reduceLT, Nat.reduceLeDiff, Nat.reduceEqDiff, Nat.reduceMul, Nat.reduceSub, Nat.reduceGT, reduceIte, Int.reduceNeg, Int.reduceToNat]) | (refine WP.exit ?_; simp only [go_sem, tyAll, Nat.reduceAdd, Nat.reduceLT, Nat.reduceLeDiff, Nat.reduceEqDiff, Nat.reduceMul, Nat.reduceSub, Nat.reduceGT, reduceIte, Int.reduceNeg, Int.reduceToNat]) | (refine WP.skip ?_; simp only [go_sem, tyAll, Nat.reduceAdd, Nat.reduceLT, Nat.reduceLeDiff, Nat.reduceEqDiff, Nat.reduceMul, Nat.reduceSub, Nat.reduceGT, reduceIte, Int.reduceNeg, Int.reduceToNat]) | (refine WP.drawW 11 (by decide +kernel) (by kernel_rfl) ?_; simp only [go_sem, tyAll, Nat.reduceAdd, Nat.reduceLT, Nat.reduceLeDiff, Nat.reduceEqDiff, Nat.reduceMul, Nat.reduceSub, Nat.reduceGT, reduceIte, Int.reduceNeg, Int.reduceToNat]) |  refine And.intro ?_ ?_ | intro _))
  refine WP.loop (fun k : Nat => ⟨[(1, .ptr 1 0 0 0), (3, .v (.int .i64 k))], [(1, .box 32 [.sl 3 (N.map encNode)])]⟩) (fun k => k ≤ N.length ∧ ∀ j (hj : j < N.length), j < k → stNode N j N[j] = true) (fun k => N.length - k) 0 (by simp) ?_ ?_
  · (simp only [go_sem, tyAll, Nat.reduceAdd, Nat.reduceLT, Nat.reduceLeDiff, Nat.reduceEqDiff, Nat.reduceMul, Nat.reduceSub, Nat.reduceGT, reduceIte, Int.reduceNeg, Int.reduceToNat] <;> (first | rfl | exact ⟨rfl, rfl⟩ | exact ⟨rfl, rfl, rfl⟩ | exact ⟨rfl, rfl, rfl, rfl⟩ | exact ⟨rfl, rfl, rfl, rfl, rfl⟩ | exact ⟨⟨rfl, rfl⟩, rfl⟩ | simp))
  intro k ⟨hk, hf⟩
  by_cases hlt : k < N.length
  · have h1 := rowAt_map encNode N k hlt
    have hnm := hx.nm hlt
    (repeat' (first | refine WP.seq ?_ | (refine WP.region ?_; simp only [go_sem, h1, encNode, encFrame, tyAll, Nat.reduceAdd, Nat.reduceLT, Nat.reduceLeDiff, Nat.reduceEqDiff, Nat.reduceMul, Nat.reduceSub, Nat.reduceGT, reduceIte, Int.reduceNeg, Int.reduceToNat]) | refine WP.block ?_ | (refine WP.condW ?_; simp only [go_sem, h1, encNode, encFrame, tyAll, Nat.reduceAdd, Nat.reduceLT, Nat.reduceLeDiff, Nat.reduceEqDiff, Nat.reduceMul, Nat.reduceSub, Nat.reduceGT, reduceIte, Int.reduceNeg, Int.reduceToNat]) | (refine WP.ret ?_; simp only [go_sem, h1, encNode, encFrame, tyAll, Nat.reduceAdd, Nat.reduceLT, Nat.reduceLeDiff, Nat.reduceEqDiff, Nat.reduceMul, Nat.reduceSub, Nat.reduceGT, reduceIte, Int.reduceNeg, Int.reduceToNat]) | (refine WP.exit ?_; simp only [go_sem, h1, encNode, encFrame, tyAll, Nat.reduceAdd, Nat.reduceLT, Nat.reduceLeDiff, Nat.reduceEqDiff, Nat.reduceMul, Nat.reduceSub, Nat.reduceGT, reduceIte, Int.reduceNeg, Int.reduceToNat]) | (refine WP.skip ?_; simp only [go_sem, h1, encNode, encFrame, tyAll, Nat.reduceAdd, Nat.reduceLT, Nat.reduceLeDiff, Nat.reduceEqDiff, Nat.reduceMul, Nat.reduceSub, Nat.reduceGT, reduceIte, Int.reduceNeg, Int.reduceToNat]) | (refine WP.drawW 11 (by decide +kernel) (by kernel_rfl) ?_; simp only [go_sem, h1, encNode, encFrame, tyAll, Nat.reduceAdd, Nat.reduceLT, Nat.reduceLeDiff, Nat.reduceEqDiff, Nat.reduceMul, Nat.reduceSub, Nat.reduceGT, reduceIte, Int.reduceNeg, Int.reduceToNat]) |  refine And.intro ?_ ?_ | intro _))
    all_goals first | omega | skip
    · rename_i h
      rw [noFr hlt h]
    rename_i h
    refine WP.loop (fun i : Nat => ⟨[(1, .ptr 1 0 0 0), (3, .v (.int .i64 k)), (4, .v (.int .i64 i))], [(1, .box 32 [.sl 3 (N.map encNode)])]⟩) (fun i => i ≤ k ∧ ∀ j (hj : j < N.length), j < i → N[j] ≠ N[k]) (fun i => k - i) 0 (by simp) ?_ ?_
    · (simp only [go_sem, tyAll, Nat.reduceAdd, Nat.reduceLT, Nat.reduceLeDiff, Nat.reduceEqDiff, Nat.reduceMul, Nat.reduceSub, Nat.reduceGT, reduceIte, Int.reduceNeg, Int.reduceToNat] <;> (first | rfl | exact ⟨rfl, rfl⟩ | exact ⟨rfl, rfl, rfl⟩ | exact ⟨rfl, rfl, rfl, rfl⟩ | exact ⟨rfl, rfl, rfl, rfl, rfl⟩ | exact ⟨⟨rfl, rfl⟩, rfl⟩ | simp))
    intro i ⟨hi, hg⟩
    by_cases hlt2 : i < k
    · have h2 := rowAt_map encNode N i (by omega)
      (repeat' (first | refine WP.seq ?_ | (refine WP.region ?_; simp only [go_sem, h1, h2, encNode, tyAll, Nat.reduceAdd, Nat.reduceLT, Nat.reduceLeDiff, Nat.reduceEqDiff, Nat.reduceMul, Nat.reduceSub, Nat.reduceGT, reduceIte, Int.reduceNeg, Int.reduceToNat]) | refine WP.block ?_ | (refine WP.condW ?_; simp only [go_sem, h1, h2, encNode, tyAll, Nat.reduceAdd, Nat.reduceLT, Nat.reduceLeDiff, Nat.reduceEqDiff, Nat.reduceMul, Nat.reduceSub, Nat.reduceGT, reduceIte, Int.reduceNeg, Int.reduceToNat]) | (refine WP.ret ?_; simp only [go_sem, h1, h2, encNode, tyAll, Nat.reduceAdd, Nat.reduceLT, Nat.reduceLeDiff, Nat.reduceEqDiff, Nat.reduceMul, Nat.reduceSub, Nat.reduceGT, reduceIte, Int.reduceNeg, Int.reduceToNat]) | (refine WP.exit ?_; simp only [go_sem, h1, h2, encNode, tyAll, Nat.reduceAdd, Nat.reduceLT, Nat.reduceLeDiff, Nat.reduceEqDiff, Nat.reduceMul, Nat.reduceSub, Nat.reduceGT, reduceIte, Int.reduceNeg, Int.reduceToNat]) | (refine WP.skip ?_; simp only [go_sem, h1, h2, encNode, tyAll, Nat.reduceAdd, Nat.reduceLT, Nat.reduceLeDiff, Nat.reduceEqDiff, Nat.reduceMul, Nat.reduceSub, Nat.reduceGT, reduceIte, Int.reduceNeg, Int.reduceToNat]) | (refine WP.drawW 11 (by decide +kernel) (by kernel_rfl) ?_; simp only [go_sem, h1, h2, encNode, tyAll, Nat.reduceAdd, Nat.reduceLT, Nat.reduceLeDiff, Nat.reduceEqDiff, Nat.reduceMul, Nat.reduceSub, Nat.reduceGT, reduceIte, Int.reduceNeg, Int.reduceToNat]) |  refine And.intro ?_ ?_ | intro _))
      all_goals first | omega | skip
      · rename_i he
        rw [stacksOk_bad hlt (stNode_dup hlt hlt2 (node_eq he))]
      · rename_i he
        refine ⟨i + 1, ⟨by omega, fun j hj hji => ?_⟩, by omega, by (first | rfl | exact ⟨rfl, rfl⟩ | exact ⟨rfl, rfl, rfl⟩ | exact ⟨rfl, rfl, rfl, rfl⟩ | exact ⟨rfl, rfl, rfl, rfl, rfl⟩ | exact ⟨⟨rfl, rfl⟩, rfl⟩ | simp)⟩
        rcases Nat.lt_or_ge j i with hh | hh
        · exact hg j hj hh
        · have : j = i := by omega
          subst this
          exact node_ne he
    · (repeat' (first | refine WP.seq ?_ | (refine WP.region ?_; simp only [go_sem, tyAll, Nat.reduceAdd, Nat.reduceLT, Nat.reduceLeDiff, Nat.reduceEqDiff, Nat.reduceMul, Nat.reduceSub, Nat.reduceGT, reduceIte, Int.reduceNeg, Int.reduceToNat]) | refine WP.block ?_ | (refine WP.condW ?_; simp only [go_sem, tyAll, Nat.reduceAdd, Nat.reduceLT, Nat.reduceLeDiff, Nat.reduceEqDiff, Nat.reduceMul, Nat.reduceSub, Nat.reduceGT, reduceIte, Int.reduceNeg, Int.reduceToNat]) | (refine WP.ret ?_; simp only [go_sem, tyAll, Nat.reduceAdd, Nat.reduceLT, Nat.reduceLeDiff, Nat.reduceEqDiff, Nat.reduceMul, Nat.reduceSub, Nat.reduceGT, reduceIte, Int.reduceNeg, Int.reduceToNat]) | (refine WP.exit ?_; simp only [go_sem, tyAll, Nat.reduceAdd, Nat.reduceLT, Nat.reduceLeDiff, Nat.reduceEqDiff, Nat.reduceMul, Nat.reduceSub, Nat.reduceGT, reduceIte, Int.reduceNeg, Int.reduceToNat]) | (refine WP.skip ?_; simp only [go_sem, tyAll, Nat.reduceAdd, Nat.reduceLT, Nat.reduceLeDiff, Nat.reduceEqDiff, Nat.reduceMul, Nat.reduceSub, Nat.reduceGT, reduceIte, Int.reduceNeg, Int.reduceToNat]) | (refine WP.drawW 11 (by decide +kernel) (by kernel_rfl) ?_; simp only [go_sem, tyAll, Nat.reduceAdd, Nat.reduceLT, Nat.reduceLeDiff, Nat.reduceEqDiff, Nat.reduceMul, Nat.reduceSub, Nat.reduceGT, reduceIte, Int.reduceNeg, Int.reduceToNat]) |  refine And.intro ?_ ?_ | intro _))
      all_goals first | omega | skip
      refine ⟨k + 1, ⟨by omega, fun j hj hjk => ?_⟩, by omega, by (first | rfl | exact ⟨rfl, rfl⟩ | exact ⟨rfl, rfl, rfl⟩ | exact ⟨rfl, rfl, rfl, rfl⟩ | exact ⟨rfl, rfl, rfl, rfl, rfl⟩ | exact ⟨⟨rfl, rfl⟩, rfl⟩ | simp)⟩
      rcases Nat.lt_or_ge j k with hh | hh
      · exact hf j hj hh
      · have : j = k := by omega
        subst this
        exact stNode_ok h.1.1 h.1.2 h.2 fun i hi hij => hg i hi (by omega)
  · (repeat' (first | refine WP.seq ?_ | (refine WP.region ?_; simp only [go_sem, tyAll, Nat.reduceAdd, Nat.reduceLT, Nat.reduceLeDiff, Nat.reduceEqDiff, Nat.reduceMul, Nat.reduceSub, Nat.reduceGT, reduceIte, Int.reduceNeg, Int.reduceToNat]) | refine WP.block ?_ | (refine WP.condW ?_; simp only [go_sem, tyAll, Nat.reduceAdd, Nat.reduceLT, Nat.reduceLeDiff, Nat.reduceEqDiff, Nat.reduceMul, Nat.reduceSub, Nat.reduceGT, reduceIte, Int.reduceNeg, Int.reduceToNat]) | (refine WP.ret ?_; simp only [go_sem, tyAll, Nat.reduceAdd, Nat.reduceLT, Nat.reduceLeDiff, Nat.reduceEqDiff, Nat.reduceMul, Nat.reduceSub, Nat.reduceGT, reduceIte, Int.reduceNeg, Int.reduceToNat]) | (refine WP.exit ?_; simp only [go_sem, tyAll, Nat.reduceAdd, Nat.reduceLT, Nat.reduceLeDiff, Nat.reduceEqDiff, Nat.reduceMul, Nat.reduceSub, Nat.reduceGT, reduceIte, Int.reduceNeg, Int.reduceToNat]) | (refine WP.skip ?_; simp only [go_sem, tyAll, Nat.reduceAdd, Nat.reduceLT, Nat.reduceLeDiff, Nat.reduceEqDiff, Nat.reduceMul, Nat.reduceSub, Nat.reduceGT, reduceIte, Int.reduceNeg, Int.reduceToNat]) | (refine WP.drawW 11 (by decide +kernel) (by kernel_rfl) ?_; simp only [go_sem, tyAll, Nat.reduceAdd, Nat.reduceLT, Nat.reduceLeDiff, Nat.reduceEqDiff, Nat.reduceMul, Nat.reduceSub, Nat.reduceGT, reduceIte, Int.reduceNeg, Int.reduceToNat]) |  refine And.intro ?_ ?_ | intro _))
    all_goals first | omega | skip
    rw [stacksOk_all fun j hj => hf j hj (by omega)]
end
section
noncomputable def cxSoI : Cx := { P := Tryd.prog, tys := tys, C := [(64, kFrOk), (63, k60)], hty := tysOk, hC := COk.cons cFrOkI (COk.cons c60 (COk.nil _)) }
theorem cxSoI_t : cxSoI.tys = tys := rfl
theorem cxSoI_c : cxSoI.C = [(64, kFrOk), (63, k60)] := rfl
attribute [local go_sem] cxSoI_t cxSoI_c kFrOk k60
theorem cStOkI : Cn Tryd.prog 62 kStOk := by
  refine Cn.pur Tryd.func62 (by kernel_rfl) rfl fun d x hx => ?_
  rename List Node => N
  have hN := hx.1
  refine Holds.go (c := cxSoI) Tryd.func62 rfl Tryd.results62 Tryd.ntmps62 (by omega) (by simp) rfl ?_
  intro X0 w0
  (repeat' (first | refine WP.seq ?_ | (refine WP.region ?_; simp only [go_sem, tyAll, Nat.reduceAdd, Nat.reduceLT, Nat.reduceLeDiff, Nat.reduceEqDiff, Nat.reduceMul, Nat.reduceSub, Nat.reduceGT, reduceIte, Int.reduceNeg, Int.reduceToNat]) | refine WP.block ?_ | (refine WP.condW ?_; simp only [go_sem, tyAll, Nat.reduceAdd, Nat.reduceLT, Nat.reduceLeDiff, Nat.reduceEqDiff, Nat.reduceMul, Nat.reduceSub, Nat.reduceGT, reduceIte, Int.reduceNeg, Int.reduceToNat]) | (refine WP.ret ?_; simp only [go_sem, tyAll, Nat.reduceAdd, Nat.reduceLT, Nat.reduceLeDiff, Nat.reduceEqDiff, Nat.reduceMul, Nat.reduceSub, Nat.reduceGT, reduceIte, Int.reduceNeg, Int.reduceToNat]) | (refine WP.exit ?_; simp only [go_sem, tyAll, Nat.reduceAdd, Nat.reduceLT, Nat.reduceLeDiff, Nat.reduceEqDiff, Nat.reduceMul, Nat.reduceSub, Nat.reduceGT, reduceIte, Int.reduceNeg, Int.reduceToNat]) | (refine WP.skip ?_; simp only [go_sem, tyAll, Nat.reduceAdd, Nat.reduceLT, Nat.reduceLeDiff, Nat.reduceEqDiff, Nat.reduceMul, Nat.reduceSub, Nat.reduceGT, reduceIte, Int.reduceNeg, Int.reduceToNat]) |  refine And.intro ?_ ?_ | intro _))
  all_goals first | omega | skip
  refine WP.loop (fun k : Nat => ⟨[(1, .ptr 1 0 0 0), (8, .sl 3 (N.map encNode)), (9, .v (.int .i64 N.length)), (10, .v (.int .i64 k))], [(1, .box 32 [.sl 3 (N.map encNode)])]⟩) (fun k => k ≤ N.length ∧ ∀ j (hj : j < N.length), j < k → stNode N j N[j] = true) (fun k => N.length - k) 0 (by simp) ?_ ?_
  · (simp only [go_sem, tyAll, Nat.reduceAdd, Nat.reduceLT, Nat.reduceLeDiff, Nat.reduceEqDiff, Nat.reduceMul, Nat.reduceSub, Nat.reduceGT, reduceIte, Int.reduceNeg, Int.reduceToNat] <;> (first | rfl | exact ⟨rfl, rfl⟩ | exact ⟨rfl, rfl, rfl⟩ | exact ⟨rfl, rfl, rfl, rfl⟩ | exact ⟨rfl, rfl, rfl, rfl, rfl⟩ | exact ⟨⟨rfl, rfl⟩, rfl⟩ | simp))
  intro k ⟨hk, hf⟩
  by_cases hlt : k < N.length
  · have h1 := rowAt_map encNode N k hlt
    have hnm := hx.nm hlt
    (repeat' (first | refine WP.seq ?_ | (refine WP.region ?_; simp only [go_sem, h1, encNode, encFrame, tyAll, Nat.reduceAdd, Nat.reduceLT, Nat.reduceLeDiff, Nat.reduceEqDiff, Nat.reduceMul, Nat.reduceSub, Nat.reduceGT, reduceIte, Int.reduceNeg, Int.reduceToNat]) | refine WP.block ?_ | (refine WP.condW ?_; simp only [go_sem, h1, encNode, encFrame, tyAll, Nat.reduceAdd, Nat.reduceLT, Nat.reduceLeDiff, Nat.reduceEqDiff, Nat.reduceMul, Nat.reduceSub, Nat.reduceGT, reduceIte, Int.reduceNeg, Int.reduceToNat]) | (refine WP.ret ?_; simp only [go_sem, h1, encNode, encFrame, tyAll, Nat.reduceAdd, Nat.reduceLT, Nat.reduceLeDiff, Nat.reduceEqDiff, Nat.reduceMul, Nat.reduceSub, Nat.reduceGT, reduceIte, Int.reduceNeg, Int.reduceToNat]) | (refine WP.exit ?_; simp only [go_sem, h1, encNode, encFrame, tyAll, Nat.reduceAdd, Nat.reduceLT, Nat.reduceLeDiff, Nat.reduceEqDiff, Nat.reduceMul, Nat.reduceSub, Nat.reduceGT, reduceIte, Int.reduceNeg, Int.reduceToNat]) | (refine WP.skip ?_; simp only [go_sem, h1, encNode, encFrame, tyAll, Nat.reduceAdd, Nat.reduceLT, Nat.reduceLeDiff, Nat.reduceEqDiff, Nat.reduceMul, Nat.reduceSub, Nat.reduceGT, reduceIte, Int.reduceNeg, Int.reduceToNat]) |  refine And.intro ?_ ?_ | intro _))
    all_goals first | omega | skip
    · rename_i h
      rw [noFr hlt h]
    rename_i h
    have hl : ((N.map encNode).take k).length = k := by rw [List.length_take, List.length_map]; omega
    refine WP.loop (fun i : Nat => ⟨[(1, .ptr 1 0 0 0), (4, .ptr 4 0 0 0), (8, .sl 3 (N.map encNode)), (9, .v (.int .i64 N.length)), (10, .v (.int .i64 k)), (30, .sl 3 ((N.map encNode).take k)), (31, .v (.int .i64 k)), (32, .v (.int .i64 i))], [(1, .box 32 [.sl 3 (N.map encNode)]), (4, .box 87 (encNode N[k]))]⟩) (fun i => i ≤ k ∧ ∀ j (hj : j < N.length), j < i → N[j] ≠ N[k]) (fun i => k - i) 0 (by simp) ?_ ?_
    · (simp only [go_sem, hl, encNode, tyAll, Nat.reduceAdd, Nat.reduceLT, Nat.reduceLeDiff, Nat.reduceEqDiff, Nat.reduceMul, Nat.reduceSub, Nat.reduceGT, reduceIte, Int.reduceNeg, Int.reduceToNat] <;> (first | rfl | exact ⟨rfl, rfl⟩ | exact ⟨rfl, rfl, rfl⟩ | exact ⟨rfl, rfl, rfl, rfl⟩ | exact ⟨rfl, rfl, rfl, rfl, rfl⟩ | exact ⟨⟨rfl, rfl⟩, rfl⟩ | simp))
    intro i ⟨hi, hg⟩
    by_cases hlt2 : i < k
    · have h2 := rowAt_map encNode N i (by omega)
      have h3 := rowAt_take (N.map encNode) hlt2
      rw [h2] at h3
      (repeat' (first | refine WP.seq ?_ | (refine WP.region ?_; simp only [go_sem, h1, h3, hl, encNode, tyAll, Nat.reduceAdd, Nat.reduceLT, Nat.reduceLeDiff, Nat.reduceEqDiff, Nat.reduceMul, Nat.reduceSub, Nat.reduceGT, reduceIte, Int.reduceNeg, Int.reduceToNat]) | refine WP.block ?_ | (refine WP.condW ?_; simp only [go_sem, h1, h3, hl, encNode, tyAll, Nat.reduceAdd, Nat.reduceLT, Nat.reduceLeDiff, Nat.reduceEqDiff, Nat.reduceMul, Nat.reduceSub, Nat.reduceGT, reduceIte, Int.reduceNeg, Int.reduceToNat]) | (refine WP.ret ?_; simp only [go_sem, h1, h3, hl, encNode, tyAll, Nat.reduceAdd, Nat.reduceLT, Nat.reduceLeDiff, Nat.reduceEqDiff, Nat.reduceMul, Nat.reduceSub, Nat.reduceGT, reduceIte, Int.reduceNeg, Int.reduceToNat]) | (refine WP.exit ?_; simp only [go_sem, h1, h3, hl, encNode, tyAll, Nat.reduceAdd, Nat.reduceLT, Nat.reduceLeDiff, Nat.reduceEqDiff, Nat.reduceMul, Nat.reduceSub, Nat.reduceGT, reduceIte, Int.reduceNeg, Int.reduceToNat]) | (refine WP.skip ?_; simp only [go_sem, h1, h3, hl, encNode, tyAll, Nat.reduceAdd, Nat.reduceLT, Nat.reduceLeDiff, Nat.reduceEqDiff, Nat.reduceMul, Nat.reduceSub, Nat.reduceGT, reduceIte, Int.reduceNeg, Int.reduceToNat]) |  refine And.intro ?_ ?_ | intro _))
      all_goals first | omega | skip
      · rename_i he
        rw [stacksOk_bad hlt (stNode_dup hlt hlt2 (node_eq ⟨he.1.symm, he.2.1.symm, he.2.2.symm⟩))]
      · rename_i he
        refine ⟨i + 1, ⟨by omega, fun j hj hji => ?_⟩, by omega, by (first | rfl | exact ⟨rfl, rfl⟩ | exact ⟨rfl, rfl, rfl⟩ | exact ⟨rfl, rfl, rfl, rfl⟩ | exact ⟨rfl, rfl, rfl, rfl, rfl⟩ | exact ⟨⟨rfl, rfl⟩, rfl⟩ | simp)⟩
        rcases Nat.lt_or_ge j i with hh | hh
        · exact hg j hj hh
        · have : j = i := by omega
          subst this
          exact Ne.symm (node_ne he)
    · (repeat' (first | refine WP.seq ?_ | (refine WP.region ?_; simp only [go_sem, tyAll, Nat.reduceAdd, Nat.reduceLT, Nat.reduceLeDiff, Nat.reduceEqDiff, Nat.reduceMul, Nat.reduceSub, Nat.reduceGT, reduceIte, Int.reduceNeg, Int.reduceToNat]) | refine WP.block ?_ | (refine WP.condW ?_; simp only [go_sem, tyAll, Nat.reduceAdd, Nat.reduceLT, Nat.reduceLeDiff, Nat.reduceEqDiff, Nat.reduceMul, Nat.reduceSub, Nat.reduceGT, reduceIte, Int.reduceNeg, Int.reduceToNat]) | (refine WP.ret ?_; simp only [go_sem, tyAll, Nat.reduceAdd, Nat.reduceLT, Nat.reduceLeDiff, Nat.reduceEqDiff, Nat.reduceMul, Nat.reduceSub, Nat.reduceGT, reduceIte, Int.reduceNeg, Int.reduceToNat]) | (refine WP.exit ?_; simp only [go_sem, tyAll, Nat.reduceAdd, Nat.reduceLT, Nat.reduceLeDiff, Nat.reduceEqDiff, Nat.reduceMul, Nat.reduceSub, Nat.reduceGT, reduceIte, Int.reduceNeg, Int.reduceToNat]) | (refine WP.skip ?_; simp only [go_sem, tyAll, Nat.reduceAdd, Nat.reduceLT, Nat.reduceLeDiff, Nat.reduceEqDiff, Nat.reduceMul, Nat.reduceSub, Nat.reduceGT, reduceIte, Int.reduceNeg, Int.reduceToNat]) |  refine And.intro ?_ ?_ | intro _))
      all_goals first | omega | skip
      refine ⟨k + 1, ⟨by omega, fun j hj hjk => ?_⟩, by omega, by (first | rfl | exact ⟨rfl, rfl⟩ | exact ⟨rfl, rfl, rfl⟩ | exact ⟨rfl, rfl, rfl, rfl⟩ | exact ⟨rfl, rfl, rfl, rfl, rfl⟩ | exact ⟨⟨rfl, rfl⟩, rfl⟩ | simp)⟩
      rcases Nat.lt_or_ge j k with hh | hh
      · exact hf j hj hh
      · have : j = k := by omega
        subst this
        exact stNode_ok h.1.1 h.1.2 h.2 fun i hi hij => hg i hi (by omega)
  · (repeat' (first | refine WP.seq ?_ | (refine WP.region ?_; simp only [go_sem, tyAll, Nat.reduceAdd, Nat.reduceLT, Nat.reduceLeDiff, Nat.reduceEqDiff, Nat.reduceMul, Nat.reduceSub, Nat.reduceGT, reduceIte, Int.reduceNeg, Int.reduceToNat]) | refine WP.block ?_ | (refine WP.condW ?_; simp only [go_sem, tyAll, Nat.reduceAdd, Nat.reduceLT, Nat.reduceLeDiff, Nat.reduceEqDiff, Nat.reduceMul, Nat.reduceSub, Nat.reduceGT, reduceIte, Int.reduceNeg, Int.reduceToNat]) | (refine WP.ret ?_; simp only [go_sem, tyAll, Nat.reduceAdd, Nat.reduceLT, Nat.reduceLeDiff, Nat.reduceEqDiff, Nat.reduceMul, Nat.reduceSub, Nat.reduceGT, reduceIte, Int.reduceNeg, Int.reduceToNat]) | (refine WP.exit ?_; simp only [go_sem, tyAll, Nat.reduceAdd, Nat.reduceLT, Nat.reduceLeDiff, Nat.reduceEqDiff, Nat.reduceMul, Nat.reduceSub, Nat.reduceGT, reduceIte, Int.reduceNeg, Int.reduceToNat]) | (refine WP.skip ?_; simp only [go_sem, tyAll, Nat.reduceAdd, Nat.reduceLT, Nat.reduceLeDiff, Nat.reduceEqDiff, Nat.reduceMul, Nat.reduceSub, Nat.reduceGT, reduceIte, Int.reduceNeg, Int.reduceToNat]) |  refine And.intro ?_ ?_ | intro _))
    all_goals first | omega | skip
    rw [stacksOk_all fun j hj => hf j hj (by omega)]
end
def kChild : Ctr := pur (fun args => (stkA args 0, aI args 1, oneFrame (aC args 2))) (fun x => [.agg [.sl 3 (x.1.map encNode)], .v (.int .i64 x.2.1), .agg (encFrame x.2.2)]) (fun x => x.1.length ≤ 4398046511104) (fun _ x => .v (.int .i64 (child x.1 x.2.1 x.2.2))) (fun _ _ => [])
theorem hit_yes {N : List Node} {p : Int} {f : Frame} {k : Nat} (hk : k < N.length) (hf : ∀ j (hj : j < N.length), j < k → hitNode p f N[j] = false) (h : N[k].parent = p ∧ N[k].name = f.name ∧ N[k].line = f.line) : child N p f = k :=
  firstIdx_hit hk hf (by
    obtain ⟨a, b⟩ := f
    simp only at h
    simp [hitNode, nodeFr, h])
theorem hit_no {p : Int} {f : Frame} {x : Node} (h : ¬ x.parent = p ∨ ¬ x.name = f.name ∨ ¬ x.line = f.line) : hitNode p f x = false := by
  obtain ⟨a, b⟩ := f
  simp only at h
  simp only [hitNode, nodeFr, Bool.and_eq_false_iff, decide_eq_false_iff_not, Frame.mk.injEq, not_and]
  rcases h with h | h | h
  · exact .inl h
  · exact .inr fun e => absurd e h
  · exact .inr fun _ => h
theorem cChildS : Cn Tryd.prog 101 kChild := by
  refine Cn.pur Tryd.func101 (by kernel_rfl) rfl fun d x hx => ?_
  obtain ⟨N, p, f⟩ := x
  simp only at hx ⊢
  refine Holds.go (c := cx0) Tryd.func101 rfl Tryd.results101 Tryd.ntmps101 (by omega) (by simp) rfl ?_
  intro X0 w0
  (repeat' (first | refine WP.seq ?_ | (refine WP.region ?_; simp only [go_sem, encFrame, tyAll, Nat.reduceAdd, Nat.reduceLT, Nat.reduceLeDiff, Nat.reduceEqDiff, Nat.reduceMul, Nat.reduceSub, Nat.reduceGT, reduceIte, Int.reduceNeg, Int.reduceToNat]) | refine WP.block ?_ | (refine WP.condW ?_; simp only [go_sem, encFrame, tyAll, Nat.reduceAdd, Nat.reduceLT, Nat.reduceLeDiff, Nat.reduceEqDiff, Nat.reduceMul, Nat.reduceSub, Nat.reduceGT, reduceIte, Int.reduceNeg, Int.reduceToNat]) | (refine WP.ret ?_; simp only [go_sem, encFrame, tyAll, Nat.reduceAdd, Nat.reduceLT, Nat.reduceLeDiff, Nat.reduceEqDiff, Nat.reduceMul, Nat.reduceSub, Nat.reduceGT, reduceIte, Int.reduceNeg, Int.reduceToNat]) | (refine WP.exit ?_; simp only [go_sem, encFrame, tyAll, Nat.reduceAdd, Nat.reduceLT, Nat.reduceLeDiff, Nat.reduceEqDiff, Nat.reduceMul, Nat.reduceSub, Nat.reduceGT, reduceIte, Int.reduceNeg, Int.reduceToNat]) | (refine WP.skip ?_; simp only [go_sem, encFrame, tyAll, Nat.reduceAdd, Nat.reduceLT, Nat.reduceLeDiff, Nat.reduceEqDiff, Nat.reduceMul, Nat.reduceSub, Nat.reduceGT, reduceIte, Int.reduceNeg, Int.reduceToNat]) | (refine WP.drawW 18 (by decide +kernel) (by kernel_rfl) ?_; simp only [go_sem, encFrame, tyAll, Nat.reduceAdd, Nat.reduceLT, Nat.reduceLeDiff, Nat.reduceEqDiff, Nat.reduceMul, Nat.reduceSub, Nat.reduceGT, reduceIte, Int.reduceNeg, Int.reduceToNat]) |  refine And.intro ?_ ?_ | intro _))
  all_goals first | omega | skip
  refine WP.loop (fun k : Nat => ⟨[(1, .v (.int .i64 p)), (3, .ptr 3 0 0 0), (5, .ptr 5 0 0 0), (7, .v (.int .i64 k))], [(3, .box 32 [.sl 3 (N.map encNode)]), (5, .box 85 (encFrame f))]⟩) (fun k => k ≤ N.length ∧ ∀ j (hj : j < N.length), j < k → hitNode p f N[j] = false) (fun k => N.length - k) 0 (by simp) ?_ ?_
  · (simp only [go_sem, encFrame, tyAll, Nat.reduceAdd, Nat.reduceLT, Nat.reduceLeDiff, Nat.reduceEqDiff, Nat.reduceMul, Nat.reduceSub, Nat.reduceGT, reduceIte, Int.reduceNeg, Int.reduceToNat] <;> (first | rfl | exact ⟨rfl, rfl⟩ | exact ⟨rfl, rfl, rfl⟩ | exact ⟨rfl, rfl, rfl, rfl⟩ | exact ⟨rfl, rfl, rfl, rfl, rfl⟩ | exact ⟨⟨rfl, rfl⟩, rfl⟩ | simp))
  intro k ⟨hk, hf⟩
  by_cases hlt : k < N.length
  · have h1 := rowAt_map encNode N k hlt
    (repeat' (first | refine WP.seq ?_ | (refine WP.region ?_; simp only [go_sem, h1, encNode, encFrame, tyAll, Nat.reduceAdd, Nat.reduceLT, Nat.reduceLeDiff, Nat.reduceEqDiff, Nat.reduceMul, Nat.reduceSub, Nat.reduceGT, reduceIte, Int.reduceNeg, Int.reduceToNat]) | refine WP.block ?_ | (refine WP.condW ?_; simp only [go_sem, h1, encNode, encFrame, tyAll, Nat.reduceAdd, Nat.reduceLT, Nat.reduceLeDiff, Nat.reduceEqDiff, Nat.reduceMul, Nat.reduceSub, Nat.reduceGT, reduceIte, Int.reduceNeg, Int.reduceToNat]) | (refine WP.ret ?_; simp only [go_sem, h1, encNode, encFrame, tyAll, Nat.reduceAdd, Nat.reduceLT, Nat.reduceLeDiff, Nat.reduceEqDiff, Nat.reduceMul, Nat.reduceSub, Nat.reduceGT, reduceIte, Int.reduceNeg, Int.reduceToNat]) | (refine WP.exit ?_; simp only [go_sem, h1, encNode, encFrame, tyAll, Nat.reduceAdd, Nat.reduceLT, Nat.reduceLeDiff, Nat.reduceEqDiff, Nat.reduceMul, Nat.reduceSub, Nat.reduceGT, reduceIte, Int.reduceNeg, Int.reduceToNat]) | (refine WP.skip ?_; simp only [go_sem, h1, encNode, encFrame, tyAll, Nat.reduceAdd, Nat.reduceLT, Nat.reduceLeDiff, Nat.reduceEqDiff, Nat.reduceMul, Nat.reduceSub, Nat.reduceGT, reduceIte, Int.reduceNeg, Int.reduceToNat]) | (refine WP.drawW 18 (by decide +kernel) (by kernel_rfl) ?_; simp only [go_sem, h1, encNode, encFrame, tyAll, Nat.reduceAdd, Nat.reduceLT, Nat.reduceLeDiff, Nat.reduceEqDiff, Nat.reduceMul, Nat.reduceSub, Nat.reduceGT, reduceIte, Int.reduceNeg, Int.reduceToNat]) |  refine And.intro ?_ ?_ | intro _))
    all_goals first | omega | skip
    · rename_i he
      rw [hit_yes hlt hf he]
    · rename_i he
      refine ⟨k + 1, ⟨by omega, fun j hj hji => ?_⟩, by omega, by (first | rfl | exact ⟨rfl, rfl⟩ | exact ⟨rfl, rfl, rfl⟩ | exact ⟨rfl, rfl, rfl, rfl⟩ | exact ⟨rfl, rfl, rfl, rfl, rfl⟩ | exact ⟨⟨rfl, rfl⟩, rfl⟩ | simp)⟩
      rcases Nat.lt_or_ge j k with hh | hh
      · exact hf j hj hh
      · have : j = k := by omega
        subst this
        exact hit_no he
  · (repeat' (first | refine WP.seq ?_ | (refine WP.region ?_; simp only [go_sem, tyAll, Nat.reduceAdd, Nat.reduceLT, Nat.reduceLeDiff, Nat.reduceEqDiff, Nat.reduceMul, Nat.reduceSub, Nat.reduceGT, reduceIte, Int.reduceNeg, Int.reduceToNat]) | refine WP.block ?_ | (refine WP.condW ?_; simp only [go_sem, tyAll, Nat.reduceAdd, Nat.reduceLT, Nat.reduceLeDiff, Nat.reduceEqDiff, Nat.reduceMul, Nat.reduceSub, Nat.reduceGT, reduceIte, Int.reduceNeg, Int.reduceToNat]) | (refine WP.ret ?_; simp only [go_sem, tyAll, Nat.reduceAdd, Nat.reduceLT, Nat.reduceLeDiff, Nat.reduceEqDiff, Nat.reduceMul, Nat.reduceSub, Nat.reduceGT, reduceIte, Int.reduceNeg, Int.reduceToNat]) | (refine WP.exit ?_; simp only [go_sem, tyAll, Nat.reduceAdd, Nat.reduceLT, Nat.reduceLeDiff, Nat.reduceEqDiff, Nat.reduceMul, Nat.reduceSub, Nat.reduceGT, reduceIte, Int.reduceNeg, Int.reduceToNat]) | (refine WP.skip ?_; simp only [go_sem, tyAll, Nat.reduceAdd, Nat.reduceLT, Nat.reduceLeDiff, Nat.reduceEqDiff, Nat.reduceMul, Nat.reduceSub, Nat.reduceGT, reduceIte, Int.reduceNeg, Int.reduceToNat]) | (refine WP.drawW 18 (by decide +kernel) (by kernel_rfl) ?_; simp only [go_sem, tyAll, Nat.reduceAdd, Nat.reduceLT, Nat.reduceLeDiff, Nat.reduceEqDiff, Nat.reduceMul, Nat.reduceSub, Nat.reduceGT, reduceIte, Int.reduceNeg, Int.reduceToNat]) |  refine And.intro ?_ ?_ | intro _))
    all_goals first | omega | skip
    rw [show child N p f = -1 from firstIdx_none fun i hi => hf i hi (by omega)]
theorem cChildI : Cn Tryd.prog 108 kChild := by
  refine Cn.pur Tryd.func108 (by kernel_rfl) rfl fun d x hx => ?_
  obtain ⟨N, p, f⟩ := x
  simp only at hx ⊢
  refine Holds.go (c := cx0) Tryd.func108 rfl Tryd.results108 Tryd.ntmps108 (by omega) (by simp) rfl ?_
  intro X0 w0
  (repeat' (first | refine WP.seq ?_ | (refine WP.region ?_; simp only [go_sem, encFrame, tyAll, Nat.reduceAdd, Nat.reduceLT, Nat.reduceLeDiff, Nat.reduceEqDiff, Nat.reduceMul, Nat.reduceSub, Nat.reduceGT, reduceIte, Int.reduceNeg, Int.reduceToNat]) | refine WP.block ?_ | (refine WP.condW ?_; simp only [go_sem, encFrame, tyAll, Nat.reduceAdd, Nat.reduceLT, Nat.reduceLeDiff, Nat.reduceEqDiff, Nat.reduceMul, Nat.reduceSub, Nat.reduceGT, reduceIte, Int.reduceNeg, Int.reduceToNat]) | (refine WP.ret ?_; simp only [go_sem, encFrame, tyAll, Nat.reduceAdd, Nat.reduceLT, Nat.reduceLeDiff, Nat.reduceEqDiff, Nat.reduceMul, Nat.reduceSub, Nat.reduceGT, reduceIte, Int.reduceNeg, Int.reduceToNat]) | (refine WP.exit ?_; simp only [go_sem, encFrame, tyAll, Nat.reduceAdd, Nat.reduceLT, Nat.reduceLeDiff, Nat.reduceEqDiff, Nat.reduceMul, Nat.reduceSub, Nat.reduceGT, reduceIte, Int.reduceNeg, Int.reduceToNat]) | (refine WP.skip ?_; simp only [go_sem, encFrame, tyAll, Nat.reduceAdd, Nat.reduceLT, Nat.reduceLeDiff, Nat.reduceEqDiff, Nat.reduceMul, Nat.reduceSub, Nat.reduceGT, reduceIte, Int.reduceNeg, Int.reduceToNat]) |  refine And.intro ?_ ?_ | intro _))
  all_goals first | omega | skip
  refine WP.loop (fun k : Nat => ⟨[(1, .v (.int .i64 p)), (5, .ptr 5 0 0 0), (10, .sl 3 (N.map encNode)), (11, .v (.int .i64 N.length)), (12, .v (.int .i64 k))], [(5, .box 85 (encFrame f))]⟩) (fun k => k ≤ N.length ∧ ∀ j (hj : j < N.length), j < k → hitNode p f N[j] = false) (fun k => N.length - k) 0 (by simp) ?_ ?_
  · (simp only [go_sem, encFrame, tyAll, Nat.reduceAdd, Nat.reduceLT, Nat.reduceLeDiff, Nat.reduceEqDiff, Nat.reduceMul, Nat.reduceSub, Nat.reduceGT, reduceIte, Int.reduceNeg, Int.reduceToNat] <;> (first | rfl | exact ⟨rfl, rfl⟩ | exact ⟨rfl, rfl, rfl⟩ | exact ⟨rfl, rfl, rfl, rfl⟩ | exact ⟨rfl, rfl, rfl, rfl, rfl⟩ | exact ⟨⟨rfl, rfl⟩, rfl⟩ | simp))
  intro k ⟨hk, hf⟩
  by_cases hlt : k < N.length
  · have h1 := rowAt_map encNode N k hlt
    (repeat' (first | refine WP.seq ?_ | (refine WP.region ?_; simp only [go_sem, h1, encNode, encFrame, tyAll, Nat.reduceAdd, Nat.reduceLT, Nat.reduceLeDiff, Nat.reduceEqDiff, Nat.reduceMul, Nat.reduceSub, Nat.reduceGT, reduceIte, Int.reduceNeg, Int.reduceToNat]) | refine WP.block ?_ | (refine WP.condW ?_; simp only [go_sem, h1, encNode, encFrame, tyAll, Nat.reduceAdd, Nat.reduceLT, Nat.reduceLeDiff, Nat.reduceEqDiff, Nat.reduceMul, Nat.reduceSub, Nat.reduceGT, reduceIte, Int.reduceNeg, Int.reduceToNat]) | (refine WP.ret ?_; simp only [go_sem, h1, encNode, encFrame, tyAll, Nat.reduceAdd, Nat.reduceLT, Nat.reduceLeDiff, Nat.reduceEqDiff, Nat.reduceMul, Nat.reduceSub, Nat.reduceGT, reduceIte, Int.reduceNeg, Int.reduceToNat]) | (refine WP.exit ?_; simp only [go_sem, h1, encNode, encFrame, tyAll, Nat.reduceAdd, Nat.reduceLT, Nat.reduceLeDiff, Nat.reduceEqDiff, Nat.reduceMul, Nat.reduceSub, Nat.reduceGT, reduceIte, Int.reduceNeg, Int.reduceToNat]) | (refine WP.skip ?_; simp only [go_sem, h1, encNode, encFrame, tyAll, Nat.reduceAdd, Nat.reduceLT, Nat.reduceLeDiff, Nat.reduceEqDiff, Nat.reduceMul, Nat.reduceSub, Nat.reduceGT, reduceIte, Int.reduceNeg, Int.reduceToNat]) |  refine And.intro ?_ ?_ | intro _))
    all_goals first | omega | skip
    · rename_i he
      rw [hit_yes hlt hf he]
    · rename_i he
      refine ⟨k + 1, ⟨by omega, fun j hj hji => ?_⟩, by omega, by (first | rfl | exact ⟨rfl, rfl⟩ | exact ⟨rfl, rfl, rfl⟩ | exact ⟨rfl, rfl, rfl, rfl⟩ | exact ⟨rfl, rfl, rfl, rfl, rfl⟩ | exact ⟨⟨rfl, rfl⟩, rfl⟩ | simp)⟩
      rcases Nat.lt_or_ge j k with hh | hh
      · exact hf j hj hh
      · have : j = k := by omega
        subst this
        exact hit_no he
  · (repeat' (first | refine WP.seq ?_ | (refine WP.region ?_; simp only [go_sem, tyAll, Nat.reduceAdd, Nat.reduceLT, Nat.reduceLeDiff, Nat.reduceEqDiff, Nat.reduceMul, Nat.reduceSub, Nat.reduceGT, reduceIte, Int.reduceNeg, Int.reduceToNat]) | refine WP.block ?_ | (refine WP.condW ?_; simp only [go_sem, tyAll, Nat.reduceAdd, Nat.reduceLT, Nat.reduceLeDiff, Nat.reduceEqDiff, Nat.reduceMul, Nat.reduceSub, Nat.reduceGT, reduceIte, Int.reduceNeg, Int.reduceToNat]) | (refine WP.ret ?_; simp only [go_sem, tyAll, Nat.reduceAdd, Nat.reduceLT, Nat.reduceLeDiff, Nat.reduceEqDiff, Nat.reduceMul, Nat.reduceSub, Nat.reduceGT, reduceIte, Int.reduceNeg, Int.reduceToNat]) | (refine WP.exit ?_; simp only [go_sem, tyAll, Nat.reduceAdd, Nat.reduceLT, Nat.reduceLeDiff, Nat.reduceEqDiff, Nat.reduceMul, Nat.reduceSub, Nat.reduceGT, reduceIte, Int.reduceNeg, Int.reduceToNat]) | (refine WP.skip ?_; simp only [go_sem, tyAll, Nat.reduceAdd, Nat.reduceLT, Nat.reduceLeDiff, Nat.reduceEqDiff, Nat.reduceMul, Nat.reduceSub, Nat.reduceGT, reduceIte, Int.reduceNeg, Int.reduceToNat]) |  refine And.intro ?_ ?_ | intro _))
    all_goals first | omega | skip
    rw [show child N p f = -1 from firstIdx_none fun i hi => hf i hi (by omega)]
theorem rlNode {N : List Node} {row : List SV} (h : row ∈ N.map encNode) : row.length = 3 := by
  obtain ⟨x, _, rfl⟩ := List.mem_map.1 h; rfl
theorem rlFrame {N : List Frame} {row : List SV} (h : row ∈ N.map encFrame) : row.length = 2 := by
  obtain ⟨x, _, rfl⟩ := List.mem_map.1 h; rfl
theorem rlI {N : List Int} {row : List SV} (h : row ∈ N.map encI) : row.length = 1 := by
  obtain ⟨x, _, rfl⟩ := List.mem_map.1 h; rfl
theorem rlEntry {N : List Entry} {row : List SV} (h : row ∈ N.map encEntry) : row.length = 2 := by
  obtain ⟨x, _, rfl⟩ := List.mem_map.1 h; rfl
def kCopyStk : Ctr := pur (fun args => stkA args 0) (fun N => [.agg [.sl 3 (N.map encNode)]]) (fun N => N.length ≤ 4398046511104) (fun d _ => .agg [.own d]) (fun d N => [(d, .sl 87 3 (N.map encNode))])
theorem cCopyStkS : Cn Tryd.prog 100 kCopyStk := by
  refine Cn.pur Tryd.func100 (by kernel_rfl) rfl fun d x hx => ?_
  rename List Node => N
  refine Holds.go (c := cx0) Tryd.func100 rfl Tryd.results100 Tryd.ntmps100 (by omega) (by simp) rfl ?_
  intro X0 w0
  (repeat' (first | refine WP.seq ?_ | (refine WP.region ?_; simp only [go_sem, tyAll, Nat.reduceAdd, Nat.reduceLT, Nat.reduceLeDiff, Nat.reduceEqDiff, Nat.reduceMul, Nat.reduceSub, Nat.reduceGT, reduceIte, Int.reduceNeg, Int.reduceToNat]) | refine WP.block ?_ | (refine WP.condW ?_; simp only [go_sem, tyAll, Nat.reduceAdd, Nat.reduceLT, Nat.reduceLeDiff, Nat.reduceEqDiff, Nat.reduceMul, Nat.reduceSub, Nat.reduceGT, reduceIte, Int.reduceNeg, Int.reduceToNat]) | (refine WP.ret ?_; simp only [go_sem, tyAll, Nat.reduceAdd, Nat.reduceLT, Nat.reduceLeDiff, Nat.reduceEqDiff, Nat.reduceMul, Nat.reduceSub, Nat.reduceGT, reduceIte, Int.reduceNeg, Int.reduceToNat]) | (refine WP.exit ?_; simp only [go_sem, tyAll, Nat.reduceAdd, Nat.reduceLT, Nat.reduceLeDiff, Nat.reduceEqDiff, Nat.reduceMul, Nat.reduceSub, Nat.reduceGT, reduceIte, Int.reduceNeg, Int.reduceToNat]) | (refine WP.skip ?_; simp only [go_sem, tyAll, Nat.reduceAdd, Nat.reduceLT, Nat.reduceLeDiff, Nat.reduceEqDiff, Nat.reduceMul, Nat.reduceSub, Nat.reduceGT, reduceIte, Int.reduceNeg, Int.reduceToNat]) |  refine And.intro ?_ ?_ | intro _))
  all_goals first | omega | exact rlNode ‹_› | exact ⟨_, _, rfl, _, _, rfl, rfl⟩ | skip
theorem cCopyStkI : Cn Tryd.prog 107 kCopyStk := by
  refine Cn.pur Tryd.func107 (by kernel_rfl) rfl fun d x hx => ?_
  rename List Node => N
  refine Holds.go (c := cx0) Tryd.func107 rfl Tryd.results107 Tryd.ntmps107 (by omega) (by simp) rfl ?_
  intro X0 w0
  (repeat' (first | refine WP.seq ?_ | (refine WP.region ?_; simp only [go_sem, tyAll, Nat.reduceAdd, Nat.reduceLT, Nat.reduceLeDiff, Nat.reduceEqDiff, Nat.reduceMul, Nat.reduceSub, Nat.reduceGT, reduceIte, Int.reduceNeg, Int.reduceToNat]) | refine WP.block ?_ | (refine WP.condW ?_; simp only [go_sem, tyAll, Nat.reduceAdd, Nat.reduceLT, Nat.reduceLeDiff, Nat.reduceEqDiff, Nat.reduceMul, Nat.reduceSub, Nat.reduceGT, reduceIte, Int.reduceNeg, Int.reduceToNat]) | (refine WP.ret ?_; simp only [go_sem, tyAll, Nat.reduceAdd, Nat.reduceLT, Nat.reduceLeDiff, Nat.reduceEqDiff, Nat.reduceMul, Nat.reduceSub, Nat.reduceGT, reduceIte, Int.reduceNeg, Int.reduceToNat]) | (refine WP.exit ?_; simp only [go_sem, tyAll, Nat.reduceAdd, Nat.reduceLT, Nat.reduceLeDiff, Nat.reduceEqDiff, Nat.reduceMul, Nat.reduceSub, Nat.reduceGT, reduceIte, Int.reduceNeg, Int.reduceToNat]) | (refine WP.skip ?_; simp only [go_sem, tyAll, Nat.reduceAdd, Nat.reduceLT, Nat.reduceLeDiff, Nat.reduceEqDiff, Nat.reduceMul, Nat.reduceSub, Nat.reduceGT, reduceIte, Int.reduceNeg, Int.reduceToNat]) |  refine And.intro ?_ ?_ | intro _))
  all_goals first | omega | exact rlNode ‹_› | exact ⟨_, _, rfl, _, _, rfl, rfl⟩ | skip
end Go.Proofs.YtolnapfgfdgifaaDoor
