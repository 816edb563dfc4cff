/-
  DERIVED. Several texts of ours in one: VtStk, VtPrf, VtStk3, VtPrf2, VcW, VtDraw, VcFz, VcFr, VsLay, VpCut.
-/
import Derived.Test.YtklcphbgaeiegaaGreatDoorVq0
import Derived.Test.YtklcphbgaeiegaaGreatDoorVq1
import Derived.Test.YtklcphbgaeiegaaGreatDoorVq2
import Derived.Test.YtklcphbgaeiegaaGreatDoorVq3
import Derived.Test.YtklcphbgaeiegaaGreatDoorVq4
import Derived.Test.YtklcphbgaeiegaaGreatDoorVq5
import Derived.Test.YtklcphbgaeiegaaGreatDoorVq6
import Derived.Shelf.LaysM
import Derived.Shelf.Small.Strs
import Derived.Shelf.Strings.OnBuilder
import Derived.Test.YtklcphbgaeiegaaGreatDoorProg
import Derived.Lib.Split
import Derived.Lib.SplitLaws
import Derived.Lib.CountLaws
import Derived.Lib.ItoaNum
import Derived.Lib.IndexMore
set_option linter.unusedSimpArgs false
set_option linter.unusedVariables false
namespace Go.Proofs.YtklcphbgaeiegaaGreatDoor
open Go.Vc
attribute [local go_sem] St.runR St.runW St.stepV offV St.step St.stepU St.stepG mkCond guardB St.prK St.pr St.prLen St.eff St.callE St.callD St.callF St.callL aI aB aS aR aC St.isM St.argL Ctr.pure Ctr.lend Ctr.move Ctr.isL Ctr.wri pur len lentBy St.lentV St.lent1 nthS argsR restOf obsR pairs swapL unObs backL St.resL erL SV.ren1 SV.up SV.up2 Ob.up St.fzL cellIds partIds St.intoRow SV.ownId St.fz SV.fz1 St.prep St.mvL St.mv SV.re1 rnOk St.prEq vals eqCells scEq Value.kd St.prStr St.prCut cutR St.bnd St.prMin St.bld isShift outL retL outJ oR oC St.ev St.get St.put St.new St.kill SV.kill SV.kill1 Ob.kill St.app St.wrt St.rowsOf St.res St.killL lk er argsL SV.strip SV.need SV.share SV.share1 SV.owns SV.owns1 SV.owns2 SV.good SV.good1 SV.rok SV.rok1 SV.rok2 SV.isV SV.isV2 nodupN SV.cells SV.one SV.pur Ob.pb partsIn rowsIn splice cellsAt dstOk scal2 scal1 thenK blockK retK outK outs okC okL okA okT nilC nilL nilA nilT keepC keepL keepA keepT St.runG St.dltK St.least St.clean St.final St.hide offK badS badO SV.refs SV.leaf SV.leaf2 Ob.refs dlOk fpAt Go.Vc.cover tups SV.ofAgg St.out outC subL St.has rng wr Value.oneCell' Option.isSome_some Option.isSome_none List.nil_append Bool.false_eq_true List.map_cons List.map_nil List.all_cons List.all_nil List.length_cons List.length_nil List.drop_zero List.drop_succ_cons List.take_succ_cons List.take_zero List.drop_nil List.take_nil List.getElem?_cons_zero List.getElem?_cons_succ List.getElem?_nil List.cons_append List.nil_append List.append_nil List.append_assoc List.flatMap_cons List.flatMap_nil List.contains_cons List.contains_nil List.set_cons_zero List.set_cons_succ List.getElem?_toArray Option.getD_some Option.getD_none Option.map_some Option.map_none Option.bind_some Option.some.injEq Prod.mk.injEq if_true if_false true_and and_true and_self and_false false_and Bool.and_false Bool.false_and Bool.or_true Bool.true_or Bool.or_false Bool.false_or ne_eq not_true_eq_false not_false_eq_true decide_true decide_false List.mem_cons List.not_mem_nil List.filter_cons List.filter_nil List.any_cons List.any_nil List.isEmpty_nil List.isEmpty_cons Option.getD_none or_false false_or true_or or_true forall_eq_or_imp forall_eq reduceCtorEq exists_eq exists_eq' exists_eq_left' exists_eq_left exists_eq_right exists_eq_right' imp_self implies_true Bool.and_true Bool.true_and Bool.and_self beq_self_eq_true List.replicate_succ List.replicate_zero forall_const false_implies pickB_or pickB_and beqT beqF Int.toNat_natCast List.length_map List.length_replicate ge_iff_le gt_iff_lt decide_eq_true_eq decide_eq_false_iff_not Bool.and_eq_true Bool.or_eq_true Bool.not_eq_true' Bool.not_eq_false' condG List.toList_toArray Bool.or_eq_false_iff Bool.and_eq_false_iff Int.not_lt Int.not_le beq_iff_eq beq_eq_false_iff_ne bne_iff_ne bne_eq_false_iff_eq ne_eq Bool.not_true Bool.not_false exists_and_left
section
open Go.Vc
set_option linter.unusedSimpArgs false
set_option linter.unusedVariables false
set_option maxHeartbeats 1000000
set_option maxRecDepth 10000
attribute [local irreducible] Go.Vc.WP
attribute [local go_sem] cx0_t cx0_c
attribute [local go_sem] decNode_enc oneFrame_enc
/-- a struct of one list of nodes -/
def stkA (args : List SV) (i : Nat) : List Node := match args[i]? with
  | some (.agg [.sl _ rows]) => decNode rows
  | _ => []
theorem stNode_frOk {N : List Node} {k : Nat} {x : Node} (h : frOk (nodeFr x) = false) : stNode N k x = false := by
  cases hs : stNode N k x with
  | false => rfl
  | true => rw [(stNode_iff.1 hs).2.2.1] at h; cases h
theorem stNode_par {N : List Node} {k : Nat} {x : Node} (h : x.parent < -1 ∨ (k : Int) - 1 < x.parent) : stNode N k x = false := by
  cases hs : stNode N k x with
  | false => rfl
  | true => have := stNode_iff.1 hs; omega
def kFrOk : Ctr := pur (fun args => oneFrame (aC args 0)) (fun f => [.agg (encFrame f)]) (fun f => f.name.size ≤ 1099511627776) (fun _ f => .v (.bool (frOk f))) (fun _ _ => [])
section
noncomputable def cxFrI : Cx := { P := Tryz.prog, tys := tys, C := [(180, kNameOk), (118, k60)], hty := tysOk, hC := COk.cons cNameOkI (COk.cons c60 (COk.nil _)) }
theorem cxFrI_t : cxFrI.tys = tys := rfl
theorem cxFrI_c : cxFrI.C = [(180, kNameOk), (118, k60)] := rfl
attribute [local go_sem] cxFrI_t cxFrI_c kNameOk k60
theorem cFrOkI : Cn Tryz.prog 154 kFrOk := by
  refine Cn.pur Tryz.func154 (by kernel_rfl) rfl fun d x hx => ?_
  refine Holds.go (c := cxFrI) Tryz.func154 rfl Tryz.results154 Tryz.ntmps154 (by omega) (by simp) rfl ?_
  intro X0 w0
  (repeat' (first | refine WP.seq ?_ | refine WP.block ?_ | ((first | refine WP.region ?_ | refine WP.condW ?_ | refine WP.ret ?_ | refine WP.exit ?_ | refine WP.skip ?_); simp only [go_sem, encFrame, tyAll, Nat.reduceAdd, Nat.reduceLT, Nat.reduceLeDiff, Nat.reduceEqDiff, Nat.reduceMul, Nat.reduceSub, Nat.reduceGT, reduceIte, Int.reduceNeg, Int.reduceToNat]) |  refine And.intro ?_ ?_ | intro _))
  all_goals first | omega | skip
  rw [frOk, Bool.and_assoc]
end
section
noncomputable def cxFrS : Cx := { P := Tryz.prog, tys := tys, C := [(145, kNameOk), (67, k60)], hty := tysOk, hC := COk.cons cNameOkS (COk.cons c58 (COk.nil _)) }
theorem cxFrS_t : cxFrS.tys = tys := rfl
theorem cxFrS_c : cxFrS.C = [(145, kNameOk), (67, k60)] := rfl
attribute [local go_sem] cxFrS_t cxFrS_c kNameOk k60
theorem cFrOkS : Cn Tryz.prog 168 kFrOk := by
  refine Cn.pur Tryz.func168 (by kernel_rfl) rfl fun d x hx => ?_
  refine Holds.go (c := cxFrS) Tryz.func168 rfl Tryz.results168 Tryz.ntmps168 (by omega) (by simp) rfl ?_
  intro X0 w0
  (repeat' (first | refine WP.seq ?_ | refine WP.block ?_ | ((first | refine WP.region ?_ | refine WP.condW ?_ | refine WP.ret ?_ | refine WP.exit ?_ | refine WP.skip ?_); simp only [go_sem, encFrame, tyAll, Nat.reduceAdd, Nat.reduceLT, Nat.reduceLeDiff, Nat.reduceEqDiff, Nat.reduceMul, Nat.reduceSub, Nat.reduceGT, reduceIte, Int.reduceNeg, Int.reduceToNat]) |  refine And.intro ?_ ?_ | intro _))
  all_goals first | omega | skip
  rw [frOk, Bool.and_assoc]
end
theorem oneFrame_ab (a : ByteArray) (b : Int) : oneFrame [.v (.string a), .v (.int .i64 b)] = ⟨a, b⟩ := rfl
theorem oneNode_abc (p : Int) (a : ByteArray) (b : Int) : oneNode [.v (.int .i64 p), .v (.string a), .v (.int .i64 b)] = ⟨p, a, b⟩ := rfl
def wfN (N : List Node) : Prop := N.length ≤ 4398046511104 ∧ ∀ x ∈ N, x.name.size ≤ 1099511627776
theorem wfN.nm {N : List Node} (h : wfN N) {k : Nat} (hk : k < N.length) : N[k].name.size ≤ 1099511627776 := h.2 _ (List.getElem_mem hk)
def kStOk : Ctr := pur (fun args => stkA args 0) (fun N => [.agg [.sl 3 (N.map encNode)]]) wfN (fun _ N => .v (.bool (stacksOk N))) (fun _ _ => [])
attribute [local go_sem] stkA oneFrame_ab oneNode_abc
theorem noFr {N : List Node} {k : Nat} (hk : k < N.length) (h : (N[k].parent < -1 ∨ (k : Int) - 1 < N[k].parent) ∨ frOk ⟨N[k].name, N[k].line⟩ = false) : stacksOk N = false := by
  refine stacksOk_bad hk ?_
  rcases h with h | h
  · exact stNode_par h
  · exact stNode_frOk h
theorem node_eq {a b : Node} (h : a.parent = b.parent ∧ a.name = b.name ∧ a.line = b.line) : a = b := by
  obtain ⟨p, n, l⟩ := a
  obtain ⟨p', n', l'⟩ := b
  simp only at h
  obtain ⟨rfl, rfl, rfl⟩ := h
  rfl
theorem node_ne {a b : Node} (h : ¬ a.parent = b.parent ∨ ¬ a.name = b.name ∨ ¬ a.line = b.line) : a ≠ b := fun e => by
  subst e
  rcases h with h | h | h <;> exact h rfl
theorem rowAt_take (rows : List (List SV)) {k i : Nat} (h : i < k) : Go.Vc.rowAt (rows.take k) i = Go.Vc.rowAt rows i := by
  unfold Go.Vc.rowAt
  rw [List.getElem?_take_of_lt h]
section
noncomputable def cxSoS : Cx := { P := Tryz.prog, tys := tys, C := [(168, kFrOk), (67, k60)], hty := tysOk, hC := COk.cons cFrOkS (COk.cons c58 (COk.nil _)) }
theorem cxSoS_t : cxSoS.tys = tys := rfl
theorem cxSoS_c : cxSoS.C = [(168, kFrOk), (67, k60)] := rfl
attribute [local go_sem] cxSoS_t cxSoS_c kFrOk k60
theorem cStOkS : Cn Tryz.prog 127 kStOk := by
  refine Cn.pur Tryz.func127 (by kernel_rfl) rfl fun d x hx => ?_
  rename List Node => N
  have hN := hx.1
  refine Holds.go (c := cxSoS) Tryz.func127 rfl Tryz.results127 Tryz.ntmps127 (by omega) (by simp) rfl ?_
  intro X0 w0
  (repeat' (first | refine WP.seq ?_ | refine WP.block ?_ | ((first | refine WP.region ?_ | refine WP.condW ?_ | refine WP.ret ?_ | refine WP.exit ?_ | refine WP.skip ?_); simp only [go_sem, tyAll, Nat.reduceAdd, Nat.reduceLT, Nat.reduceLeDiff, Nat.reduceEqDiff, Nat.reduceMul, Nat.reduceSub, Nat.reduceGT, reduceIte, Int.reduceNeg, Int.reduceToNat]) | ((first | refine WP.drawW 11 (by decide +kernel) (by kernel_rfl) ?_); simp only [go_sem, tyAll, Nat.reduceAdd, Nat.reduceLT, Nat.reduceLeDiff, Nat.reduceEqDiff, Nat.reduceMul, Nat.reduceSub, Nat.reduceGT, reduceIte, Int.reduceNeg, Int.reduceToNat]) |  refine And.intro ?_ ?_ | intro _))
  refine WP.loop (fun k : Nat => ⟨[(1, .ptr 1 0 0 0), (3, .v (.int .i64 k))], [(1, .box 26 [.sl 3 (N.map encNode)])]⟩) (fun k => k ≤ N.length ∧ ∀ j (hj : j < N.length), j < k → stNode N j N[j] = true) (fun k => N.length - k) 0 (by simp) ?_ ?_
  · (simp only [go_sem, tyAll, Nat.reduceAdd, Nat.reduceLT, Nat.reduceLeDiff, Nat.reduceEqDiff, Nat.reduceMul, Nat.reduceSub, Nat.reduceGT, reduceIte, Int.reduceNeg, Int.reduceToNat] <;> (first | rfl | exact ⟨rfl, rfl⟩ | exact ⟨rfl, rfl, rfl⟩ | exact ⟨rfl, rfl, rfl, rfl⟩ | exact ⟨rfl, rfl, rfl, rfl, rfl⟩ | exact ⟨⟨rfl, rfl⟩, rfl⟩ | simp))
  intro k ⟨hk, hf⟩
  by_cases hlt : k < N.length
  · have h1 := rowAt_map encNode N k hlt
    have hnm := hx.nm hlt
    (repeat' (first | refine WP.seq ?_ | refine WP.block ?_ | ((first | refine WP.region ?_ | refine WP.condW ?_ | refine WP.ret ?_ | refine WP.exit ?_ | refine WP.skip ?_); simp only [go_sem, h1, encNode, encFrame, tyAll, Nat.reduceAdd, Nat.reduceLT, Nat.reduceLeDiff, Nat.reduceEqDiff, Nat.reduceMul, Nat.reduceSub, Nat.reduceGT, reduceIte, Int.reduceNeg, Int.reduceToNat]) | ((first | refine WP.drawW 11 (by decide +kernel) (by kernel_rfl) ?_); simp only [go_sem, h1, encNode, encFrame, tyAll, Nat.reduceAdd, Nat.reduceLT, Nat.reduceLeDiff, Nat.reduceEqDiff, Nat.reduceMul, Nat.reduceSub, Nat.reduceGT, reduceIte, Int.reduceNeg, Int.reduceToNat]) |  refine And.intro ?_ ?_ | intro _))
    all_goals first | omega | skip
    · rename_i h
      rw [noFr hlt h]
    rename_i h
    refine WP.loop (fun i : Nat => ⟨[(1, .ptr 1 0 0 0), (3, .v (.int .i64 k)), (4, .v (.int .i64 i))], [(1, .box 26 [.sl 3 (N.map encNode)])]⟩) (fun i => i ≤ k ∧ ∀ j (hj : j < N.length), j < i → N[j] ≠ N[k]) (fun i => k - i) 0 (by simp) ?_ ?_
    · (simp only [go_sem, tyAll, Nat.reduceAdd, Nat.reduceLT, Nat.reduceLeDiff, Nat.reduceEqDiff, Nat.reduceMul, Nat.reduceSub, Nat.reduceGT, reduceIte, Int.reduceNeg, Int.reduceToNat] <;> (first | rfl | exact ⟨rfl, rfl⟩ | exact ⟨rfl, rfl, rfl⟩ | exact ⟨rfl, rfl, rfl, rfl⟩ | exact ⟨rfl, rfl, rfl, rfl, rfl⟩ | exact ⟨⟨rfl, rfl⟩, rfl⟩ | simp))
    intro i ⟨hi, hg⟩
    by_cases hlt2 : i < k
    · have h2 := rowAt_map encNode N i (by omega)
      (repeat' (first | refine WP.seq ?_ | refine WP.block ?_ | ((first | refine WP.region ?_ | refine WP.condW ?_ | refine WP.ret ?_ | refine WP.exit ?_ | refine WP.skip ?_); simp only [go_sem, h1, h2, encNode, tyAll, Nat.reduceAdd, Nat.reduceLT, Nat.reduceLeDiff, Nat.reduceEqDiff, Nat.reduceMul, Nat.reduceSub, Nat.reduceGT, reduceIte, Int.reduceNeg, Int.reduceToNat]) | ((first | refine WP.drawW 11 (by decide +kernel) (by kernel_rfl) ?_); simp only [go_sem, h1, h2, encNode, tyAll, Nat.reduceAdd, Nat.reduceLT, Nat.reduceLeDiff, Nat.reduceEqDiff, Nat.reduceMul, Nat.reduceSub, Nat.reduceGT, reduceIte, Int.reduceNeg, Int.reduceToNat]) |  refine And.intro ?_ ?_ | intro _))
      all_goals first | omega | skip
      · rename_i he
        rw [stacksOk_bad hlt (stNode_dup hlt hlt2 (node_eq he))]
      · rename_i he
        refine ⟨i + 1, ⟨by omega, fun j hj hji => ?_⟩, by omega, by (first | rfl | exact ⟨rfl, rfl⟩ | exact ⟨rfl, rfl, rfl⟩ | exact ⟨rfl, rfl, rfl, rfl⟩ | exact ⟨rfl, rfl, rfl, rfl, rfl⟩ | exact ⟨⟨rfl, rfl⟩, rfl⟩ | simp)⟩
        rcases Nat.lt_or_ge j i with hh | hh
        · exact hg j hj hh
        · have : j = i := by omega
          subst this
          exact node_ne he
    · (repeat' (first | refine WP.seq ?_ | refine WP.block ?_ | ((first | refine WP.region ?_ | refine WP.condW ?_ | refine WP.ret ?_ | refine WP.exit ?_ | refine WP.skip ?_); simp only [go_sem, tyAll, Nat.reduceAdd, Nat.reduceLT, Nat.reduceLeDiff, Nat.reduceEqDiff, Nat.reduceMul, Nat.reduceSub, Nat.reduceGT, reduceIte, Int.reduceNeg, Int.reduceToNat]) | ((first | refine WP.drawW 11 (by decide +kernel) (by kernel_rfl) ?_); simp only [go_sem, tyAll, Nat.reduceAdd, Nat.reduceLT, Nat.reduceLeDiff, Nat.reduceEqDiff, Nat.reduceMul, Nat.reduceSub, Nat.reduceGT, reduceIte, Int.reduceNeg, Int.reduceToNat]) |  refine And.intro ?_ ?_ | intro _))
      all_goals first | omega | skip
      refine ⟨k + 1, ⟨by omega, fun j hj hjk => ?_⟩, by omega, by (first | rfl | exact ⟨rfl, rfl⟩ | exact ⟨rfl, rfl, rfl⟩ | exact ⟨rfl, rfl, rfl, rfl⟩ | exact ⟨rfl, rfl, rfl, rfl, rfl⟩ | exact ⟨⟨rfl, rfl⟩, rfl⟩ | simp)⟩
      rcases Nat.lt_or_ge j k with hh | hh
      · exact hf j hj hh
      · have : j = k := by omega
        subst this
        exact stNode_ok h.1.1 h.1.2 h.2 fun i hi hij => hg i hi (by omega)
  · (repeat' (first | refine WP.seq ?_ | refine WP.block ?_ | ((first | refine WP.region ?_ | refine WP.condW ?_ | refine WP.ret ?_ | refine WP.exit ?_ | refine WP.skip ?_); simp only [go_sem, tyAll, Nat.reduceAdd, Nat.reduceLT, Nat.reduceLeDiff, Nat.reduceEqDiff, Nat.reduceMul, Nat.reduceSub, Nat.reduceGT, reduceIte, Int.reduceNeg, Int.reduceToNat]) | ((first | refine WP.drawW 11 (by decide +kernel) (by kernel_rfl) ?_); simp only [go_sem, tyAll, Nat.reduceAdd, Nat.reduceLT, Nat.reduceLeDiff, Nat.reduceEqDiff, Nat.reduceMul, Nat.reduceSub, Nat.reduceGT, reduceIte, Int.reduceNeg, Int.reduceToNat]) |  refine And.intro ?_ ?_ | intro _))
    all_goals first | omega | skip
    rw [stacksOk_all fun j hj => hf j hj (by omega)]
end
section
noncomputable def cxSoI : Cx := { P := Tryz.prog, tys := tys, C := [(154, kFrOk), (118, k60)], hty := tysOk, hC := COk.cons cFrOkI (COk.cons c60 (COk.nil _)) }
theorem cxSoI_t : cxSoI.tys = tys := rfl
theorem cxSoI_c : cxSoI.C = [(154, kFrOk), (118, k60)] := rfl
attribute [local go_sem] cxSoI_t cxSoI_c kFrOk k60
theorem cStOkI : Cn Tryz.prog 117 kStOk := by
  refine Cn.pur Tryz.func117 (by kernel_rfl) rfl fun d x hx => ?_
  rename List Node => N
  have hN := hx.1
  refine Holds.go (c := cxSoI) Tryz.func117 rfl Tryz.results117 Tryz.ntmps117 (by omega) (by simp) rfl ?_
  intro X0 w0
  (repeat' (first | refine WP.seq ?_ | refine WP.block ?_ | ((first | refine WP.region ?_ | refine WP.condW ?_ | refine WP.ret ?_ | refine WP.exit ?_ | refine WP.skip ?_); simp only [go_sem, tyAll, Nat.reduceAdd, Nat.reduceLT, Nat.reduceLeDiff, Nat.reduceEqDiff, Nat.reduceMul, Nat.reduceSub, Nat.reduceGT, reduceIte, Int.reduceNeg, Int.reduceToNat]) |  refine And.intro ?_ ?_ | intro _))
  all_goals first | omega | skip
  refine WP.loop (fun k : Nat => ⟨[(1, .ptr 1 0 0 0), (8, .sl 3 (N.map encNode)), (9, .v (.int .i64 N.length)), (10, .v (.int .i64 k))], [(1, .box 26 [.sl 3 (N.map encNode)])]⟩) (fun k => k ≤ N.length ∧ ∀ j (hj : j < N.length), j < k → stNode N j N[j] = true) (fun k => N.length - k) 0 (by simp) ?_ ?_
  · (simp only [go_sem, tyAll, Nat.reduceAdd, Nat.reduceLT, Nat.reduceLeDiff, Nat.reduceEqDiff, Nat.reduceMul, Nat.reduceSub, Nat.reduceGT, reduceIte, Int.reduceNeg, Int.reduceToNat] <;> (first | rfl | exact ⟨rfl, rfl⟩ | exact ⟨rfl, rfl, rfl⟩ | exact ⟨rfl, rfl, rfl, rfl⟩ | exact ⟨rfl, rfl, rfl, rfl, rfl⟩ | exact ⟨⟨rfl, rfl⟩, rfl⟩ | simp))
  intro k ⟨hk, hf⟩
  by_cases hlt : k < N.length
  · have h1 := rowAt_map encNode N k hlt
    have hnm := hx.nm hlt
    (repeat' (first | refine WP.seq ?_ | refine WP.block ?_ | ((first | refine WP.region ?_ | refine WP.condW ?_ | refine WP.ret ?_ | refine WP.exit ?_ | refine WP.skip ?_); simp only [go_sem, h1, encNode, encFrame, tyAll, Nat.reduceAdd, Nat.reduceLT, Nat.reduceLeDiff, Nat.reduceEqDiff, Nat.reduceMul, Nat.reduceSub, Nat.reduceGT, reduceIte, Int.reduceNeg, Int.reduceToNat]) |  refine And.intro ?_ ?_ | intro _))
    all_goals first | omega | skip
    · rename_i h
      rw [noFr hlt h]
    rename_i h
    have hl : ((N.map encNode).take k).length = k := by rw [List.length_take, List.length_map]; omega
    refine WP.loop (fun i : Nat => ⟨[(1, .ptr 1 0 0 0), (4, .ptr 4 0 0 0), (8, .sl 3 (N.map encNode)), (9, .v (.int .i64 N.length)), (10, .v (.int .i64 k)), (30, .sl 3 ((N.map encNode).take k)), (31, .v (.int .i64 k)), (32, .v (.int .i64 i))], [(1, .box 26 [.sl 3 (N.map encNode)]), (4, .box 157 (encNode N[k]))]⟩) (fun i => i ≤ k ∧ ∀ j (hj : j < N.length), j < i → N[j] ≠ N[k]) (fun i => k - i) 0 (by simp) ?_ ?_
    · (simp only [go_sem, hl, encNode, tyAll, Nat.reduceAdd, Nat.reduceLT, Nat.reduceLeDiff, Nat.reduceEqDiff, Nat.reduceMul, Nat.reduceSub, Nat.reduceGT, reduceIte, Int.reduceNeg, Int.reduceToNat] <;> (first | rfl | exact ⟨rfl, rfl⟩ | exact ⟨rfl, rfl, rfl⟩ | exact ⟨rfl, rfl, rfl, rfl⟩ | exact ⟨rfl, rfl, rfl, rfl, rfl⟩ | exact ⟨⟨rfl, rfl⟩, rfl⟩ | simp))
    intro i ⟨hi, hg⟩
    by_cases hlt2 : i < k
    · have h2 := rowAt_map encNode N i (by omega)
      have h3 := rowAt_take (N.map encNode) hlt2
      rw [h2] at h3
      (repeat' (first | refine WP.seq ?_ | refine WP.block ?_ | ((first | refine WP.region ?_ | refine WP.condW ?_ | refine WP.ret ?_ | refine WP.exit ?_ | refine WP.skip ?_); simp only [go_sem, h1, h3, hl, encNode, tyAll, Nat.reduceAdd, Nat.reduceLT, Nat.reduceLeDiff, Nat.reduceEqDiff, Nat.reduceMul, Nat.reduceSub, Nat.reduceGT, reduceIte, Int.reduceNeg, Int.reduceToNat]) |  refine And.intro ?_ ?_ | intro _))
      all_goals first | omega | skip
      · rename_i he
        rw [stacksOk_bad hlt (stNode_dup hlt hlt2 (node_eq ⟨he.1.symm, he.2.1.symm, he.2.2.symm⟩))]
      · rename_i he
        refine ⟨i + 1, ⟨by omega, fun j hj hji => ?_⟩, by omega, by (first | rfl | exact ⟨rfl, rfl⟩ | exact ⟨rfl, rfl, rfl⟩ | exact ⟨rfl, rfl, rfl, rfl⟩ | exact ⟨rfl, rfl, rfl, rfl, rfl⟩ | exact ⟨⟨rfl, rfl⟩, rfl⟩ | simp)⟩
        rcases Nat.lt_or_ge j i with hh | hh
        · exact hg j hj hh
        · have : j = i := by omega
          subst this
          exact Ne.symm (node_ne he)
    · (repeat' (first | refine WP.seq ?_ | refine WP.block ?_ | ((first | refine WP.region ?_ | refine WP.condW ?_ | refine WP.ret ?_ | refine WP.exit ?_ | refine WP.skip ?_); simp only [go_sem, tyAll, Nat.reduceAdd, Nat.reduceLT, Nat.reduceLeDiff, Nat.reduceEqDiff, Nat.reduceMul, Nat.reduceSub, Nat.reduceGT, reduceIte, Int.reduceNeg, Int.reduceToNat]) |  refine And.intro ?_ ?_ | intro _))
      all_goals first | omega | skip
      refine ⟨k + 1, ⟨by omega, fun j hj hjk => ?_⟩, by omega, by (first | rfl | exact ⟨rfl, rfl⟩ | exact ⟨rfl, rfl, rfl⟩ | exact ⟨rfl, rfl, rfl, rfl⟩ | exact ⟨rfl, rfl, rfl, rfl, rfl⟩ | exact ⟨⟨rfl, rfl⟩, rfl⟩ | simp)⟩
      rcases Nat.lt_or_ge j k with hh | hh
      · exact hf j hj hh
      · have : j = k := by omega
        subst this
        exact stNode_ok h.1.1 h.1.2 h.2 fun i hi hij => hg i hi (by omega)
  · (repeat' (first | refine WP.seq ?_ | refine WP.block ?_ | ((first | refine WP.region ?_ | refine WP.condW ?_ | refine WP.ret ?_ | refine WP.exit ?_ | refine WP.skip ?_); simp only [go_sem, tyAll, Nat.reduceAdd, Nat.reduceLT, Nat.reduceLeDiff, Nat.reduceEqDiff, Nat.reduceMul, Nat.reduceSub, Nat.reduceGT, reduceIte, Int.reduceNeg, Int.reduceToNat]) |  refine And.intro ?_ ?_ | intro _))
    all_goals first | omega | skip
    rw [stacksOk_all fun j hj => hf j hj (by omega)]
end
def kChild : Ctr := pur (fun args => (stkA args 0, aI args 1, oneFrame (aC args 2))) (fun x => [.agg [.sl 3 (x.1.map encNode)], .v (.int .i64 x.2.1), .agg (encFrame x.2.2)]) (fun x => x.1.length ≤ 4398046511104) (fun _ x => .v (.int .i64 (child x.1 x.2.1 x.2.2))) (fun _ _ => [])
theorem hit_yes {N : List Node} {p : Int} {f : Frame} {k : Nat} (hk : k < N.length) (hf : ∀ j (hj : j < N.length), j < k → hitNode p f N[j] = false) (h : N[k].parent = p ∧ N[k].name = f.name ∧ N[k].line = f.line) : child N p f = k :=
  firstIdx_hit hk hf (by
    obtain ⟨a, b⟩ := f
    simp only at h
    simp [hitNode, nodeFr, h])
theorem hit_no {p : Int} {f : Frame} {x : Node} (h : ¬ x.parent = p ∨ ¬ x.name = f.name ∨ ¬ x.line = f.line) : hitNode p f x = false := by
  obtain ⟨a, b⟩ := f
  simp only at h
  simp only [hitNode, nodeFr, Bool.and_eq_false_iff, decide_eq_false_iff_not, Frame.mk.injEq, not_and]
  rcases h with h | h | h
  · exact .inl h
  · exact .inr fun e => absurd e h
  · exact .inr fun _ => h
theorem cChildS : Cn Tryz.prog 179 kChild := by
  refine Cn.pur Tryz.func179 (by kernel_rfl) rfl fun d x hx => ?_
  obtain ⟨N, p, f⟩ := x
  simp only at hx ⊢
  refine Holds.go (c := cx0) Tryz.func179 rfl Tryz.results179 Tryz.ntmps179 (by omega) (by simp) rfl ?_
  intro X0 w0
  (repeat' (first | refine WP.seq ?_ | refine WP.block ?_ | ((first | refine WP.region ?_ | refine WP.condW ?_ | refine WP.ret ?_ | refine WP.exit ?_ | refine WP.skip ?_); simp only [go_sem, encFrame, tyAll, Nat.reduceAdd, Nat.reduceLT, Nat.reduceLeDiff, Nat.reduceEqDiff, Nat.reduceMul, Nat.reduceSub, Nat.reduceGT, reduceIte, Int.reduceNeg, Int.reduceToNat]) | ((first | refine WP.drawW 18 (by decide +kernel) (by kernel_rfl) ?_); simp only [go_sem, encFrame, tyAll, Nat.reduceAdd, Nat.reduceLT, Nat.reduceLeDiff, Nat.reduceEqDiff, Nat.reduceMul, Nat.reduceSub, Nat.reduceGT, reduceIte, Int.reduceNeg, Int.reduceToNat]) |  refine And.intro ?_ ?_ | intro _))
  all_goals first | omega | skip
  refine WP.loop (fun k : Nat => ⟨[(1, .v (.int .i64 p)), (3, .ptr 3 0 0 0), (5, .ptr 5 0 0 0), (7, .v (.int .i64 k))], [(3, .box 26 [.sl 3 (N.map encNode)]), (5, .box 46 (encFrame f))]⟩) (fun k => k ≤ N.length ∧ ∀ j (hj : j < N.length), j < k → hitNode p f N[j] = false) (fun k => N.length - k) 0 (by simp) ?_ ?_
  · (simp only [go_sem, encFrame, tyAll, Nat.reduceAdd, Nat.reduceLT, Nat.reduceLeDiff, Nat.reduceEqDiff, Nat.reduceMul, Nat.reduceSub, Nat.reduceGT, reduceIte, Int.reduceNeg, Int.reduceToNat] <;> (first | rfl | exact ⟨rfl, rfl⟩ | exact ⟨rfl, rfl, rfl⟩ | exact ⟨rfl, rfl, rfl, rfl⟩ | exact ⟨rfl, rfl, rfl, rfl, rfl⟩ | exact ⟨⟨rfl, rfl⟩, rfl⟩ | simp))
  intro k ⟨hk, hf⟩
  by_cases hlt : k < N.length
  · have h1 := rowAt_map encNode N k hlt
    (repeat' (first | refine WP.seq ?_ | refine WP.block ?_ | ((first | refine WP.region ?_ | refine WP.condW ?_ | refine WP.ret ?_ | refine WP.exit ?_ | refine WP.skip ?_); simp only [go_sem, h1, encNode, encFrame, tyAll, Nat.reduceAdd, Nat.reduceLT, Nat.reduceLeDiff, Nat.reduceEqDiff, Nat.reduceMul, Nat.reduceSub, Nat.reduceGT, reduceIte, Int.reduceNeg, Int.reduceToNat]) | ((first | refine WP.drawW 18 (by decide +kernel) (by kernel_rfl) ?_); simp only [go_sem, h1, encNode, encFrame, tyAll, Nat.reduceAdd, Nat.reduceLT, Nat.reduceLeDiff, Nat.reduceEqDiff, Nat.reduceMul, Nat.reduceSub, Nat.reduceGT, reduceIte, Int.reduceNeg, Int.reduceToNat]) |  refine And.intro ?_ ?_ | intro _))
    all_goals first | omega | skip
    · rename_i he
      rw [hit_yes hlt hf he]
    · rename_i he
      refine ⟨k + 1, ⟨by omega, fun j hj hji => ?_⟩, by omega, by (first | rfl | exact ⟨rfl, rfl⟩ | exact ⟨rfl, rfl, rfl⟩ | exact ⟨rfl, rfl, rfl, rfl⟩ | exact ⟨rfl, rfl, rfl, rfl, rfl⟩ | exact ⟨⟨rfl, rfl⟩, rfl⟩ | simp)⟩
      rcases Nat.lt_or_ge j k with hh | hh
      · exact hf j hj hh
      · have : j = k := by omega
        subst this
        exact hit_no he
  · (repeat' (first | refine WP.seq ?_ | refine WP.block ?_ | ((first | refine WP.region ?_ | refine WP.condW ?_ | refine WP.ret ?_ | refine WP.exit ?_ | refine WP.skip ?_); simp only [go_sem, tyAll, Nat.reduceAdd, Nat.reduceLT, Nat.reduceLeDiff, Nat.reduceEqDiff, Nat.reduceMul, Nat.reduceSub, Nat.reduceGT, reduceIte, Int.reduceNeg, Int.reduceToNat]) | ((first | refine WP.drawW 18 (by decide +kernel) (by kernel_rfl) ?_); simp only [go_sem, tyAll, Nat.reduceAdd, Nat.reduceLT, Nat.reduceLeDiff, Nat.reduceEqDiff, Nat.reduceMul, Nat.reduceSub, Nat.reduceGT, reduceIte, Int.reduceNeg, Int.reduceToNat]) |  refine And.intro ?_ ?_ | intro _))
    all_goals first | omega | skip
    rw [show child N p f = -1 from firstIdx_none fun i hi => hf i hi (by omega)]
theorem cChildI : Cn Tryz.prog 170 kChild := by
  refine Cn.pur Tryz.func170 (by kernel_rfl) rfl fun d x hx => ?_
  obtain ⟨N, p, f⟩ := x
  simp only at hx ⊢
  refine Holds.go (c := cx0) Tryz.func170 rfl Tryz.results170 Tryz.ntmps170 (by omega) (by simp) rfl ?_
  intro X0 w0
  (repeat' (first | refine WP.seq ?_ | refine WP.block ?_ | ((first | refine WP.region ?_ | refine WP.condW ?_ | refine WP.ret ?_ | refine WP.exit ?_ | refine WP.skip ?_); simp only [go_sem, encFrame, tyAll, Nat.reduceAdd, Nat.reduceLT, Nat.reduceLeDiff, Nat.reduceEqDiff, Nat.reduceMul, Nat.reduceSub, Nat.reduceGT, reduceIte, Int.reduceNeg, Int.reduceToNat]) |  refine And.intro ?_ ?_ | intro _))
  all_goals first | omega | skip
  refine WP.loop (fun k : Nat => ⟨[(1, .v (.int .i64 p)), (5, .ptr 5 0 0 0), (10, .sl 3 (N.map encNode)), (11, .v (.int .i64 N.length)), (12, .v (.int .i64 k))], [(5, .box 46 (encFrame f))]⟩) (fun k => k ≤ N.length ∧ ∀ j (hj : j < N.length), j < k → hitNode p f N[j] = false) (fun k => N.length - k) 0 (by simp) ?_ ?_
  · (simp only [go_sem, encFrame, tyAll, Nat.reduceAdd, Nat.reduceLT, Nat.reduceLeDiff, Nat.reduceEqDiff, Nat.reduceMul, Nat.reduceSub, Nat.reduceGT, reduceIte, Int.reduceNeg, Int.reduceToNat] <;> (first | rfl | exact ⟨rfl, rfl⟩ | exact ⟨rfl, rfl, rfl⟩ | exact ⟨rfl, rfl, rfl, rfl⟩ | exact ⟨rfl, rfl, rfl, rfl, rfl⟩ | exact ⟨⟨rfl, rfl⟩, rfl⟩ | simp))
  intro k ⟨hk, hf⟩
  by_cases hlt : k < N.length
  · have h1 := rowAt_map encNode N k hlt
    (repeat' (first | refine WP.seq ?_ | refine WP.block ?_ | ((first | refine WP.region ?_ | refine WP.condW ?_ | refine WP.ret ?_ | refine WP.exit ?_ | refine WP.skip ?_); simp only [go_sem, h1, encNode, encFrame, tyAll, Nat.reduceAdd, Nat.reduceLT, Nat.reduceLeDiff, Nat.reduceEqDiff, Nat.reduceMul, Nat.reduceSub, Nat.reduceGT, reduceIte, Int.reduceNeg, Int.reduceToNat]) |  refine And.intro ?_ ?_ | intro _))
    all_goals first | omega | skip
    · rename_i he
      rw [hit_yes hlt hf he]
    · rename_i he
      refine ⟨k + 1, ⟨by omega, fun j hj hji => ?_⟩, by omega, by (first | rfl | exact ⟨rfl, rfl⟩ | exact ⟨rfl, rfl, rfl⟩ | exact ⟨rfl, rfl, rfl, rfl⟩ | exact ⟨rfl, rfl, rfl, rfl, rfl⟩ | exact ⟨⟨rfl, rfl⟩, rfl⟩ | simp)⟩
      rcases Nat.lt_or_ge j k with hh | hh
      · exact hf j hj hh
      · have : j = k := by omega
        subst this
        exact hit_no he
  · (repeat' (first | refine WP.seq ?_ | refine WP.block ?_ | ((first | refine WP.region ?_ | refine WP.condW ?_ | refine WP.ret ?_ | refine WP.exit ?_ | refine WP.skip ?_); simp only [go_sem, tyAll, Nat.reduceAdd, Nat.reduceLT, Nat.reduceLeDiff, Nat.reduceEqDiff, Nat.reduceMul, Nat.reduceSub, Nat.reduceGT, reduceIte, Int.reduceNeg, Int.reduceToNat]) |  refine And.intro ?_ ?_ | intro _))
    all_goals first | omega | skip
    rw [show child N p f = -1 from firstIdx_none fun i hi => hf i hi (by omega)]
theorem rlNode {N : List Node} {row : List SV} (h : row ∈ N.map encNode) : row.length = 3 := by
  obtain ⟨x, _, rfl⟩ := List.mem_map.1 h; rfl
theorem rlFrame {N : List Frame} {row : List SV} (h : row ∈ N.map encFrame) : row.length = 2 := by
  obtain ⟨x, _, rfl⟩ := List.mem_map.1 h; rfl
theorem rlI {N : List Int} {row : List SV} (h : row ∈ N.map encI) : row.length = 1 := by
  obtain ⟨x, _, rfl⟩ := List.mem_map.1 h; rfl
theorem rlEntry {N : List Entry} {row : List SV} (h : row ∈ N.map encEntry) : row.length = 2 := by
  obtain ⟨x, _, rfl⟩ := List.mem_map.1 h; rfl
def kCopyStk : Ctr := pur (fun args => stkA args 0) (fun N => [.agg [.sl 3 (N.map encNode)]]) (fun N => N.length ≤ 4398046511104) (fun d _ => .agg [.own d]) (fun d N => [(d, .sl 157 3 (N.map encNode))])
theorem cCopyStkS : Cn Tryz.prog 178 kCopyStk := by
  refine Cn.pur Tryz.func178 (by kernel_rfl) rfl fun d x hx => ?_
  rename List Node => N
  refine Holds.go (c := cx0) Tryz.func178 rfl Tryz.results178 Tryz.ntmps178 (by omega) (by simp) rfl ?_
  intro X0 w0
  (repeat' (first | refine WP.seq ?_ | refine WP.block ?_ | ((first | refine WP.region ?_ | refine WP.condW ?_ | refine WP.ret ?_ | refine WP.exit ?_ | refine WP.skip ?_); simp only [go_sem, tyAll, Nat.reduceAdd, Nat.reduceLT, Nat.reduceLeDiff, Nat.reduceEqDiff, Nat.reduceMul, Nat.reduceSub, Nat.reduceGT, reduceIte, Int.reduceNeg, Int.reduceToNat]) |  refine And.intro ?_ ?_ | intro _))
  all_goals first | omega | exact rlNode ‹_› | exact ⟨_, _, rfl, _, _, rfl, rfl⟩ | skip
theorem cCopyStkI : Cn Tryz.prog 169 kCopyStk := by
  refine Cn.pur Tryz.func169 (by kernel_rfl) rfl fun d x hx => ?_
  rename List Node => N
  refine Holds.go (c := cx0) Tryz.func169 rfl Tryz.results169 Tryz.ntmps169 (by omega) (by simp) rfl ?_
  intro X0 w0
  (repeat' (first | refine WP.seq ?_ | refine WP.block ?_ | ((first | refine WP.region ?_ | refine WP.condW ?_ | refine WP.ret ?_ | refine WP.exit ?_ | refine WP.skip ?_); simp only [go_sem, tyAll, Nat.reduceAdd, Nat.reduceLT, Nat.reduceLeDiff, Nat.reduceEqDiff, Nat.reduceMul, Nat.reduceSub, Nat.reduceGT, reduceIte, Int.reduceNeg, Int.reduceToNat]) |  refine And.intro ?_ ?_ | intro _))
  all_goals first | omega | exact rlNode ‹_› | exact ⟨_, _, rfl, _, _, rfl, rfl⟩ | skip
end
section
open Go.Vc
set_option linter.unusedSimpArgs false
set_option linter.unusedVariables false
set_option maxHeartbeats 1000000
set_option maxRecDepth 10000
attribute [local irreducible] Go.Vc.WP
attribute [local go_sem] cx0_t cx0_c
def fl9d07e2ccfb : List Go.Vc.Fp := [⟨[1], [], [], [5, 6], [], []⟩, ⟨[3], [0], [], [5, 6], [], []⟩, ⟨[4], [0, 1], [], [6], [], [5]⟩, ⟨[], [], [], [5], [], [6]⟩, ⟨[1], [], [], [5, 6], [], []⟩, ⟨[7], [4], [], [5, 6], [], []⟩, ⟨[], [0, 1, 2, 3, 4, 5], [], [], [], []⟩, ⟨[], [0, 1, 2, 3, 4, 5, 6], [], [], [], []⟩, ⟨[], [0, 1, 2, 3, 4, 5, 6, 7], [], [], [], []⟩]
attribute [local go_sem] fl9d07e2ccfb
attribute [local go_sem] decNode_enc decFrame_enc oneFrame_enc stkA oneFrame_ab oneNode_abc decI_enc
/-- a profile: its nodes and its counts -/
def prA (args : List SV) (i : Nat) : List Node × List Int := match args[i]? with
  | some (.agg [.sl _ r, .sl _ q]) => (decNode r, decI q)
  | _ => ([], [])
attribute [local go_sem] prA
def encPr (x : List Node × List Int) : SV := .agg [.sl 3 (x.1.map encNode), .sl 1 (x.2.map encI)]
def wfP (x : List Node × List Int) : Prop := (x.1.length ≤ 4398046511104 ∧ ∀ n ∈ x.1, n.name.size ≤ 1099511627776) ∧ x.2.length ≤ 4398046511104
theorem cntOk_bad {C : List Int} {k : Nat} (hk : k < C.length) (h : C[k] < 0 ∨ 1000000000000 - (C.take k).sum < C[k]) : cntOk C = false := by
  cases hs : cntOk C with
  | false => rfl
  | true => have := cntOk_at hs k hk; omega
theorem profNo {N : List Node} {C : List Int} (h : stacksOk N = false ∨ ¬ (C.length : Int) = N.length ∨ cntOk C = false) : profileOk N C = false := by
  cases hs : profileOk N C with
  | false => rfl
  | true =>
    obtain ⟨h1, h2, h3⟩ := profileOk_iff.1 hs
    rcases h with h | h | h
    · rw [h1] at h; cases h
    · omega
    · rw [h3] at h; cases h
theorem cntOk_all {C : List Int} (h : ∀ j (hj : j < C.length), 0 ≤ C[j] ∧ C[j] ≤ 1000000000000 - (C.take j).sum) : cntOk C = true := by
  unfold cntOk
  exact decide_eq_true h
def kPrOk : Ctr := pur (fun args => prA args 0) (fun x => [.agg [.sl 3 (x.1.map encNode), .sl 1 (x.2.map encI)]]) wfP (fun _ x => .v (.bool (profileOk x.1 x.2))) (fun _ _ => [])
section
noncomputable def cxPoS : Cx := { P := Tryz.prog, tys := tys, C := [(127, kStOk), (67, k60)], hty := tysOk, hC := COk.cons cStOkS (COk.cons c58 (COk.nil _)) }
theorem cxPoS_t : cxPoS.tys = tys := rfl
theorem cxPoS_c : cxPoS.C = [(127, kStOk), (67, k60)] := rfl
attribute [local go_sem] cxPoS_t cxPoS_c kStOk k60
theorem cPrOkS : Cn Tryz.prog 63 kPrOk := by
  refine Cn.pur Tryz.func63 (by kernel_rfl) rfl fun d x hx => ?_
  obtain ⟨N, C⟩ := x
  obtain ⟨⟨hN, hs⟩, hC⟩ := hx
  simp only at hN hs hC ⊢
  refine Holds.go (c := cxPoS) Tryz.func63 rfl Tryz.results63 Tryz.ntmps63 (by omega) (by simp) rfl ?_
  intro X0 w0
  (repeat' (first | refine WP.seq ?_ | refine WP.block ?_ | ((first | refine WP.region ?_ | refine WP.condW ?_ | refine WP.ret ?_ | refine WP.exit ?_ | refine WP.skip ?_); simp only [go_sem, tyAll, Nat.reduceAdd, Nat.reduceLT, Nat.reduceLeDiff, Nat.reduceEqDiff, Nat.reduceMul, Nat.reduceSub, Nat.reduceGT, reduceIte, Int.reduceNeg, Int.reduceToNat]) |  refine And.intro ?_ ?_ | intro _))
  all_goals first | omega | exact hs _ ‹_› | skip
  · rename_i h; rw [profNo (h.imp_right .inl)]
  rename_i h
  refine WP.loop (fun k : Nat => ⟨[(1, .ptr 1 0 0 0), (3, .v (.int .i64 (C.take k).sum)), (4, .v (.int .i64 k))], [(1, .box 29 [.sl 3 (N.map encNode), .sl 1 (C.map encI)])]⟩)
    (fun k => k ≤ C.length ∧ ∀ j (hj : j < C.length), j < k → 0 ≤ C[j] ∧ C[j] ≤ 1000000000000 - (C.take j).sum) (fun k => C.length - k) 0 (by simp) ?_ ?_
  · (simp only [go_sem, tyAll, Nat.reduceAdd, Nat.reduceLT, Nat.reduceLeDiff, Nat.reduceEqDiff, Nat.reduceMul, Nat.reduceSub, Nat.reduceGT, reduceIte, Int.reduceNeg, Int.reduceToNat] <;> (first | rfl | exact ⟨rfl, rfl⟩ | exact ⟨rfl, rfl, rfl⟩ | exact ⟨rfl, rfl, rfl, rfl⟩ | exact ⟨rfl, rfl, rfl, rfl, rfl⟩ | exact ⟨⟨rfl, rfl⟩, rfl⟩ | simp))
  intro k ⟨hk, hf⟩
  have hsum : 0 ≤ (C.take k).sum ∧ (C.take k).sum ≤ 1000000000000 := by
    have := cntOk_sum (C := C.take k) (fun j hj => by
      rw [List.length_take] at hj
      have := hf j (by omega) (by omega)
      rw [List.getElem_take, List.take_take, Nat.min_eq_left (by omega)]
      exact this) k (by rw [List.length_take]; omega)
    rwa [List.take_take, Nat.min_self] at this
  by_cases hlt : k < C.length
  · have h1 := rowAt_map encI C k hlt
    have h2 := take_sum C k hlt
    (repeat' (first | refine WP.seq ?_ | refine WP.block ?_ | ((first | refine WP.region ?_ | refine WP.condW ?_ | refine WP.ret ?_ | refine WP.exit ?_ | refine WP.skip ?_); simp only [go_sem, h1, encI, tyAll, Nat.reduceAdd, Nat.reduceLT, Nat.reduceLeDiff, Nat.reduceEqDiff, Nat.reduceMul, Nat.reduceSub, Nat.reduceGT, reduceIte, Int.reduceNeg, Int.reduceToNat]) |  refine And.intro ?_ ?_ | intro _))
    all_goals first | omega | skip
    · rename_i hb; rw [profNo (.inr (.inr (cntOk_bad hlt (by omega))))]
    · rename_i hb
      refine ⟨k + 1, ⟨by omega, fun j hj hjk => ?_⟩, by omega, by rw [h2]; (first | rfl | exact ⟨rfl, rfl⟩ | exact ⟨rfl, rfl, rfl⟩ | exact ⟨rfl, rfl, rfl, rfl⟩ | exact ⟨rfl, rfl, rfl, rfl, rfl⟩ | exact ⟨⟨rfl, rfl⟩, rfl⟩ | simp)⟩
      rcases Nat.lt_or_ge j k with hh | hh
      · exact hf j hj hh
      · have : j = k := by omega
        subst this; omega
  · (repeat' (first | refine WP.seq ?_ | refine WP.block ?_ | ((first | refine WP.region ?_ | refine WP.condW ?_ | refine WP.ret ?_ | refine WP.exit ?_ | refine WP.skip ?_); simp only [go_sem, tyAll, Nat.reduceAdd, Nat.reduceLT, Nat.reduceLeDiff, Nat.reduceEqDiff, Nat.reduceMul, Nat.reduceSub, Nat.reduceGT, reduceIte, Int.reduceNeg, Int.reduceToNat]) |  refine And.intro ?_ ?_ | intro _))
    all_goals first | omega | skip
    rw [profileOk_iff.2 ⟨h.1, by omega, cntOk_all fun j hj => hf j hj (by omega)⟩]
end
section
noncomputable def cxPoI : Cx := { P := Tryz.prog, tys := tys, C := [(117, kStOk), (118, k60)], hty := tysOk, hC := COk.cons cStOkI (COk.cons c60 (COk.nil _)) }
theorem cxPoI_t : cxPoI.tys = tys := rfl
theorem cxPoI_c : cxPoI.C = [(117, kStOk), (118, k60)] := rfl
attribute [local go_sem] cxPoI_t cxPoI_c kStOk k60
theorem cPrOkI : Cn Tryz.prog 56 kPrOk := by
  refine Cn.pur Tryz.func56 (by kernel_rfl) rfl fun d x hx => ?_
  obtain ⟨N, C⟩ := x
  obtain ⟨⟨hN, hs⟩, hC⟩ := hx
  simp only at hN hs hC ⊢
  refine Holds.go (c := cxPoI) Tryz.func56 rfl Tryz.results56 Tryz.ntmps56 (by omega) (by simp) rfl ?_
  intro X0 w0
  (repeat' (first | refine WP.seq ?_ | refine WP.block ?_ | ((first | refine WP.region ?_ | refine WP.condW ?_ | refine WP.ret ?_ | refine WP.exit ?_ | refine WP.skip ?_); simp only [go_sem, tyAll, Nat.reduceAdd, Nat.reduceLT, Nat.reduceLeDiff, Nat.reduceEqDiff, Nat.reduceMul, Nat.reduceSub, Nat.reduceGT, reduceIte, Int.reduceNeg, Int.reduceToNat]) |  refine And.intro ?_ ?_ | intro _))
  all_goals first | omega | exact hs _ ‹_› | skip
  · rename_i h; rw [profNo (h.imp_right .inl)]
  rename_i h
  refine WP.loop (fun k : Nat => ⟨[(3, .v (.int .i64 (1000000000000 - (C.take k).sum))), (21, .sl 1 (C.map encI)), (22, .v (.int .i64 C.length)), (23, .v (.int .i64 k))], []⟩)
    (fun k => k ≤ C.length ∧ ∀ j (hj : j < C.length), j < k → 0 ≤ C[j] ∧ C[j] ≤ 1000000000000 - (C.take j).sum) (fun k => C.length - k) 0 (by simp) ?_ ?_
  · (simp only [go_sem, tyAll, Nat.reduceAdd, Nat.reduceLT, Nat.reduceLeDiff, Nat.reduceEqDiff, Nat.reduceMul, Nat.reduceSub, Nat.reduceGT, reduceIte, Int.reduceNeg, Int.reduceToNat] <;> (first | rfl | exact ⟨rfl, rfl⟩ | exact ⟨rfl, rfl, rfl⟩ | exact ⟨rfl, rfl, rfl, rfl⟩ | exact ⟨rfl, rfl, rfl, rfl, rfl⟩ | exact ⟨⟨rfl, rfl⟩, rfl⟩ | simp))
  intro k ⟨hk, hf⟩
  have hsum : 0 ≤ (C.take k).sum ∧ (C.take k).sum ≤ 1000000000000 := by
    have := cntOk_sum (C := C.take k) (fun j hj => by
      rw [List.length_take] at hj
      have := hf j (by omega) (by omega)
      rw [List.getElem_take, List.take_take, Nat.min_eq_left (by omega)]
      exact this) k (by rw [List.length_take]; omega)
    rwa [List.take_take, Nat.min_self] at this
  by_cases hlt : k < C.length
  · have h1 := rowAt_map encI C k hlt
    have h2 := take_sum C k hlt
    (repeat' (first | refine WP.seq ?_ | refine WP.block ?_ | ((first | refine WP.region ?_ | refine WP.condW ?_ | refine WP.ret ?_ | refine WP.exit ?_ | refine WP.skip ?_); simp only [go_sem, h1, encI, tyAll, Nat.reduceAdd, Nat.reduceLT, Nat.reduceLeDiff, Nat.reduceEqDiff, Nat.reduceMul, Nat.reduceSub, Nat.reduceGT, reduceIte, Int.reduceNeg, Int.reduceToNat]) |  refine And.intro ?_ ?_ | intro _))
    all_goals first | omega | skip
    · rename_i hb; rw [profNo (.inr (.inr (cntOk_bad hlt (by omega))))]
    · rename_i hb
      refine ⟨k + 1, ⟨by omega, fun j hj hjk => ?_⟩, by omega, by rw [h2, ← Int.sub_sub]; (first | rfl | exact ⟨rfl, rfl⟩ | exact ⟨rfl, rfl, rfl⟩ | exact ⟨rfl, rfl, rfl, rfl⟩ | exact ⟨rfl, rfl, rfl, rfl, rfl⟩ | exact ⟨⟨rfl, rfl⟩, rfl⟩ | simp)⟩
      rcases Nat.lt_or_ge j k with hh | hh
      · exact hf j hj hh
      · have : j = k := by omega
        subst this; omega
  · (repeat' (first | refine WP.seq ?_ | refine WP.block ?_ | ((first | refine WP.region ?_ | refine WP.condW ?_ | refine WP.ret ?_ | refine WP.exit ?_ | refine WP.skip ?_); simp only [go_sem, tyAll, Nat.reduceAdd, Nat.reduceLT, Nat.reduceLeDiff, Nat.reduceEqDiff, Nat.reduceMul, Nat.reduceSub, Nat.reduceGT, reduceIte, Int.reduceNeg, Int.reduceToNat]) |  refine And.intro ?_ ?_ | intro _))
    all_goals first | omega | skip
    rw [profileOk_iff.2 ⟨h.1, by omega, cntOk_all fun j hj => hf j hj (by omega)⟩]
end
def kCopyPr : Ctr := pur (fun args => prA args 0) (fun x => [.agg [.sl 3 (x.1.map encNode), .sl 1 (x.2.map encI)]]) (fun x => x.1.length ≤ 4398046511104 ∧ x.2.length ≤ 4398046511104) (fun d _ => .agg [.own d, .own (d + 1000)]) (fun d x => [(d, .sl 157 3 (x.1.map encNode)), (d + 1000, .sl 3 1 (x.2.map encI))])
section
noncomputable def cxCpS : Cx := { P := Tryz.prog, tys := tys, C := [(178, kCopyStk)], hty := tysOk, hC := COk.cons cCopyStkS (COk.nil _) }
theorem cxCpS_t : cxCpS.tys = tys := rfl
theorem cxCpS_c : cxCpS.C = [(178, kCopyStk)] := rfl
attribute [local go_sem] cxCpS_t cxCpS_c kCopyStk
theorem cCopyPrS : Cn Tryz.prog 152 kCopyPr := by
  refine Cn.pur Tryz.func152 (by kernel_rfl) rfl fun d x hx => ?_
  obtain ⟨N, C⟩ := x
  obtain ⟨hN, hC⟩ := hx
  simp only at hN hC ⊢
  refine Holds.go (c := cxCpS) Tryz.func152 rfl Tryz.results152 Tryz.ntmps152 (by omega) (by simp) rfl ?_
  intro X0 w0
  (repeat' (first | refine WP.seq ?_ | refine WP.block ?_ | ((first | refine WP.region ?_ | refine WP.condW ?_ | refine WP.ret ?_ | refine WP.exit ?_ | refine WP.skip ?_); simp only [go_sem, tyAll, Nat.reduceAdd, Nat.reduceLT, Nat.reduceLeDiff, Nat.reduceEqDiff, Nat.reduceMul, Nat.reduceSub, Nat.reduceGT, reduceIte, Int.reduceNeg, Int.reduceToNat]) | ((first | refine WP.flowW 6 fl9d07e2ccfb [3, 4, 5, 6, 7, 8] [5, 6] [] (by decide +kernel) (by kernel_rfl) (by kernel_rfl) (by kernel_rfl) ?_); simp only [go_sem, tyAll, Nat.reduceAdd, Nat.reduceLT, Nat.reduceLeDiff, Nat.reduceEqDiff, Nat.reduceMul, Nat.reduceSub, Nat.reduceGT, reduceIte, Int.reduceNeg, Int.reduceToNat]) |  refine And.intro ?_ ?_ | intro _))
  all_goals first | omega | exact rlNode ‹_› | exact rlI ‹_› | exact ⟨_, _, _, rfl⟩ | exact ⟨_, _, rfl, _, _, rfl, rfl⟩ | exact if_neg (by omega) | skip
end
section
noncomputable def cxCpI : Cx := { P := Tryz.prog, tys := tys, C := [(169, kCopyStk)], hty := tysOk, hC := COk.cons cCopyStkI (COk.nil _) }
theorem cxCpI_t : cxCpI.tys = tys := rfl
theorem cxCpI_c : cxCpI.C = [(169, kCopyStk)] := rfl
attribute [local go_sem] cxCpI_t cxCpI_c kCopyStk
theorem cCopyPrI : Cn Tryz.prog 132 kCopyPr := by
  refine Cn.pur Tryz.func132 (by kernel_rfl) rfl fun d x hx => ?_
  obtain ⟨N, C⟩ := x
  obtain ⟨hN, hC⟩ := hx
  simp only at hN hC ⊢
  refine Holds.go (c := cxCpI) Tryz.func132 rfl Tryz.results132 Tryz.ntmps132 (by omega) (by simp) rfl ?_
  intro X0 w0
  (repeat' (first | refine WP.seq ?_ | refine WP.block ?_ | ((first | refine WP.region ?_ | refine WP.condW ?_ | refine WP.ret ?_ | refine WP.exit ?_ | refine WP.skip ?_); simp only [go_sem, tyAll, Nat.reduceAdd, Nat.reduceLT, Nat.reduceLeDiff, Nat.reduceEqDiff, Nat.reduceMul, Nat.reduceSub, Nat.reduceGT, reduceIte, Int.reduceNeg, Int.reduceToNat]) | ((first | refine WP.flowW 6 fl9d07e2ccfb [3, 4, 5, 6, 7, 8] [5, 6] [] (by decide +kernel) (by kernel_rfl) (by kernel_rfl) (by kernel_rfl) ?_); simp only [go_sem, tyAll, Nat.reduceAdd, Nat.reduceLT, Nat.reduceLeDiff, Nat.reduceEqDiff, Nat.reduceMul, Nat.reduceSub, Nat.reduceGT, reduceIte, Int.reduceNeg, Int.reduceToNat]) |  refine And.intro ?_ ?_ | intro _))
  all_goals first | omega | exact rlNode ‹_› | exact rlI ‹_› | exact ⟨_, _, _, rfl⟩ | exact ⟨_, _, rfl, _, _, rfl, rfl⟩ | exact if_neg (by omega) | skip
end
end
section
open Go.Vc
set_option linter.unusedSimpArgs false
set_option linter.unusedVariables false
set_option maxHeartbeats 1000000
set_option maxRecDepth 10000
attribute [local irreducible] Go.Vc.WP
attribute [local go_sem] cx0_t cx0_c
def flc3c988df08 : List Go.Vc.Fp := [⟨[6], [], [], [55], [], []⟩, ⟨[47], [0], [], [55], [], []⟩, ⟨[7], [], [], [55], [], []⟩, ⟨[1], [], [], [55], [], []⟩, ⟨[8], [], [], [55], [], []⟩, ⟨[50, 51], [3, 4], [], [55], [], []⟩, ⟨[52], [3, 4, 5], [], [55], [], []⟩, ⟨[49, 53], [2, 3, 4, 5, 6], [], [55], [], []⟩, ⟨[54], [2, 3, 4, 5, 6, 7], [], [], [], [55]⟩, ⟨[], [0, 1, 2, 3, 4, 5, 6, 7, 8], [], [], [], []⟩, ⟨[], [0, 1, 2, 3, 4, 5, 6, 7, 8, 9], [], [], [], []⟩, ⟨[], [0, 1, 2, 3, 4, 5, 6, 7, 8, 9, 10], [], [], [], []⟩]
attribute [local go_sem] flc3c988df08
attribute [local go_sem] decNode_enc decFrame_enc oneFrame_enc stkA oneFrame_ab oneNode_abc
theorem intGo_step {L : List Frame} {k : Nat} (hk : k < L.length) (s : List Node × Int) : intGo (L.drop k) s = intGo (L.drop (k + 1)) (if child s.1 s.2 L[k] < 0 then (s.1 ++ [mkNode s.2 L[k]], (s.1.length : Int)) else (s.1, child s.1 s.2 L[k])) := by
  rw [List.drop_eq_getElem_cons hk, intGo]
theorem intern_no {N : List Node} {L : List Frame} (h : stacksOk N = false ∨ L.length = 0) : intern N L = (N, -1) := by
  unfold intern
  rw [if_neg]
  rintro ⟨h1, h2, _⟩
  rcases h with h | h
  · rw [h1] at h; cases h
  · exact h2 (List.eq_nil_of_length_eq_zero h)
theorem intern_bad {N : List Node} {L : List Frame} {k : Nat} (hk : k < L.length) (h : frOk L[k] = false) : intern N L = (N, -1) := by
  unfold intern
  rw [if_neg]
  rintro ⟨_, _, h3⟩
  rw [List.all_eq_true] at h3
  rw [h3 _ (List.getElem_mem hk)] at h; cases h
def wfF (L : List Frame) : Prop := L.length ≤ 1099511627776 ∧ ∀ f ∈ L, f.name.size ≤ 1099511627776
def kIntern : Ctr := pur (fun args => (stkA args 0, decFrame (aR args 1))) (fun x => [.agg [.sl 3 (x.1.map encNode)], .sl 2 (x.2.map encFrame)]) (fun x => (x.1.length + x.2.length ≤ 4398046511104 ∧ ∀ n ∈ x.1, n.name.size ≤ 1099511627776) ∧ ∀ f ∈ x.2, f.name.size ≤ 1099511627776)
  (fun d x => .tup [.agg [.own d], .v (.int .i64 (intern x.1 x.2).2)]) (fun d x => [(d, .sl 157 3 ((intern x.1 x.2).1.map encNode))])
theorem bndN {N M : List Node} {L : List Frame} {k : Nat} (h1 : M.length ≤ N.length + k) (h2 : k ≤ L.length) (h3 : N.length + L.length ≤ 4398046511104) : M.length ≤ 4398046511104 := by omega
section
noncomputable def cxInS : Cx := { P := Tryz.prog, tys := tys, C := [(127, kStOk), (178, kCopyStk), (168, kFrOk), (179, kChild)], hty := tysOk, hC := COk.cons cStOkS (COk.cons cCopyStkS (COk.cons cFrOkS (COk.cons cChildS (COk.nil _)))) }
theorem cxInS_t : cxInS.tys = tys := rfl
theorem cxInS_c : cxInS.C = [(127, kStOk), (178, kCopyStk), (168, kFrOk), (179, kChild)] := rfl
attribute [local go_sem] cxInS_t cxInS_c kStOk kCopyStk kFrOk kChild
theorem cInternS : Cn Tryz.prog 153 kIntern := by
  refine Cn.pur Tryz.func153 (by kernel_rfl) rfl fun d x hx => ?_
  obtain ⟨N, L⟩ := x
  obtain ⟨⟨hN, hs⟩, hL⟩ := hx
  simp only at hN hs hL ⊢
  refine Holds.go (c := cxInS) Tryz.func153 rfl Tryz.results153 Tryz.ntmps153 (by omega) (by simp) rfl ?_
  intro X0 w0
  (repeat' (first | refine WP.seq ?_ | refine WP.block ?_ | ((first | refine WP.region ?_ | refine WP.condW ?_ | refine WP.ret ?_ | refine WP.exit ?_ | refine WP.skip ?_); simp only [go_sem, tyAll, Nat.reduceAdd, Nat.reduceLT, Nat.reduceLeDiff, Nat.reduceEqDiff, Nat.reduceMul, Nat.reduceSub, Nat.reduceGT, reduceIte, Int.reduceNeg, Int.reduceToNat]) | ((first | refine WP.flowW 9 flc3c988df08 [47, 48, 49, 50, 51, 52, 53, 54, 55] [55] [] (by decide +kernel) (by kernel_rfl) (by kernel_rfl) (by kernel_rfl) ?_ | refine WP.drawW 7 (by decide +kernel) (by kernel_rfl) ?_); simp only [go_sem, tyAll, Nat.reduceAdd, Nat.reduceLT, Nat.reduceLeDiff, Nat.reduceEqDiff, Nat.reduceMul, Nat.reduceSub, Nat.reduceGT, reduceIte, Int.reduceNeg, Int.reduceToNat]) |  refine And.intro ?_ ?_ | intro _))
  all_goals first | omega | exact hs _ ‹_› | exact ⟨_, _, _, rfl⟩ | exact ⟨_, _, rfl, _, _, rfl, rfl⟩ | skip
  · rename_i h; rw [intern_no (h.imp_right fun e => by omega)]
  · rename_i h; rw [intern_no (h.imp_right fun e => by omega)]
  rename_i h
  have hi : intern N L = if L.all frOk = true then intGo L (N, -1) else (N, -1) := by
    unfold intern
    by_cases ha : L.all frOk = true
    · rw [if_pos ha, if_pos ⟨h.1, fun e => by subst e; simp at h, ha⟩]
    · rw [if_neg ha, if_neg fun hc => ha hc.2.2]
  refine WP.loop (fun s : Nat × List Node × Int => ⟨[(1, .sl 2 (L.map encFrame)), (2, .ptr 2 0 0 0), (4, .ptr 4 0 0 0), (6, .ptr 6 0 0 0), (7, .v (.int .i64 s.2.2)), (8, .v (.int .i64 s.1))],
    [(2, .box 26 [.sl 3 (N.map encNode)]), (4, .box 26 [.v (.slice none 0 0)]), (6, .box 26 [.own 11]), (11, .sl 157 3 (s.2.1.map encNode))]⟩)
    (fun s => s.1 ≤ L.length ∧ (∀ j (hj : j < L.length), j < s.1 → frOk L[j] = true) ∧ intGo L (N, -1) = intGo (L.drop s.1) s.2 ∧ s.2.1.length ≤ N.length + s.1 ∧ -1 ≤ s.2.2 ∧ s.2.2 < s.2.1.length) (fun s => L.length - s.1) (0, N, -1) ⟨by simp, by simp, by simp, by simp, by simp only; omega, by simp only; omega⟩ ?_ ?_
  · (simp only [go_sem, tyAll, Nat.reduceAdd, Nat.reduceLT, Nat.reduceLeDiff, Nat.reduceEqDiff, Nat.reduceMul, Nat.reduceSub, Nat.reduceGT, reduceIte, Int.reduceNeg, Int.reduceToNat] <;> (first | rfl | exact ⟨rfl, rfl⟩ | exact ⟨rfl, rfl, rfl⟩ | exact ⟨rfl, rfl, rfl, rfl⟩ | exact ⟨rfl, rfl, rfl, rfl, rfl⟩ | exact ⟨⟨rfl, rfl⟩, rfl⟩ | simp))
  rintro ⟨k, M, at'⟩ ⟨hk, hf, hg, hm, ha0, ha1⟩
  simp only at hk hf hg hm ha0 ha1 ⊢
  by_cases hlt : k < L.length
  · have h1 := rowAt_map encFrame L k hlt
    have hnm := hL _ (List.getElem_mem hlt)
    have hst := intGo_step hlt (M, at')
    have hcb := child_bound M at' L[k]
    rw [← hg] at hst
    simp only at hst hcb
    (repeat' (first | refine WP.seq ?_ | refine WP.block ?_ | ((first | refine WP.region ?_ | refine WP.condW ?_ | refine WP.ret ?_ | refine WP.exit ?_ | refine WP.skip ?_); simp only [go_sem, h1, encFrame, tyAll, Nat.reduceAdd, Nat.reduceLT, Nat.reduceLeDiff, Nat.reduceEqDiff, Nat.reduceMul, Nat.reduceSub, Nat.reduceGT, reduceIte, Int.reduceNeg, Int.reduceToNat]) | ((first | refine WP.flowW 9 flc3c988df08 [47, 48, 49, 50, 51, 52, 53, 54, 55] [55] [] (by decide +kernel) (by kernel_rfl) (by kernel_rfl) (by kernel_rfl) ?_ | refine WP.drawW 7 (by decide +kernel) (by kernel_rfl) ?_); simp only [go_sem, h1, encFrame, tyAll, Nat.reduceAdd, Nat.reduceLT, Nat.reduceLeDiff, Nat.reduceEqDiff, Nat.reduceMul, Nat.reduceSub, Nat.reduceGT, reduceIte, Int.reduceNeg, Int.reduceToNat]) |  refine And.intro ?_ ?_ | intro _))
    all_goals first | omega | exact rlNode ‹_› | exact ⟨_, _, _, rfl⟩ | exact ⟨_, _, rfl, _, _, rfl, rfl⟩ | skip
    · rename_i hb; rw [intern_bad hlt hb]
    · rename_i hb; rw [intern_bad hlt hb]
    · rename_i hfr hc
      have hc' : child M at' L[k] < 0 := hc
      rw [if_pos hc'] at hst
      refine ⟨(k + 1, M ++ [mkNode at' L[k]], (M.length : Int)), ⟨by simp only; omega, fun j hj hjk => ?_, hst, by simp only [List.length_append, List.length_cons, List.length_nil]; omega, by simp only; omega, by simp only [List.length_append, List.length_cons, List.length_nil]; omega⟩, by simp only; omega, by (first | rfl | exact ⟨rfl, rfl⟩ | exact ⟨rfl, rfl, rfl⟩ | exact ⟨rfl, rfl, rfl, rfl⟩ | exact ⟨rfl, rfl, rfl, rfl, rfl⟩ | exact ⟨⟨rfl, rfl⟩, rfl⟩ | simp), by simp only [List.map_append, List.map_cons, List.map_nil]; rfl⟩
      rcases Nat.lt_or_ge j k with hh | hh
      · exact hf j hj hh
      · have : j = k := by omega
        subst this; exact hfr
    · rename_i hfr hc
      have hc' : ¬ child M at' L[k] < 0 := by show ¬ child M at' ⟨L[k].name, L[k].line⟩ < 0; omega
      rw [if_neg hc'] at hst
      refine ⟨(k + 1, M, child M at' L[k]), ⟨by simp only; omega, fun j hj hjk => ?_, hst, by simp only; omega, by simp only; omega, by simp only; omega⟩, by simp only; omega, by (first | rfl | exact ⟨rfl, rfl⟩ | exact ⟨rfl, rfl, rfl⟩ | exact ⟨rfl, rfl, rfl, rfl⟩ | exact ⟨rfl, rfl, rfl, rfl, rfl⟩ | exact ⟨⟨rfl, rfl⟩, rfl⟩ | simp)⟩
      rcases Nat.lt_or_ge j k with hh | hh
      · exact hf j hj hh
      · have : j = k := by omega
        subst this; exact hfr
  · have hall : L.all frOk = true := by
      rw [List.all_eq_true]
      intro f hfm
      obtain ⟨j, hj, rfl⟩ := List.mem_iff_getElem.1 hfm
      exact hf j hj (by omega)
    rw [if_pos hall, hg, show k = L.length by omega, List.drop_length, intGo] at hi
    (repeat' (first | refine WP.seq ?_ | refine WP.block ?_ | ((first | refine WP.region ?_ | refine WP.condW ?_ | refine WP.ret ?_ | refine WP.exit ?_ | refine WP.skip ?_); simp only [go_sem, tyAll, Nat.reduceAdd, Nat.reduceLT, Nat.reduceLeDiff, Nat.reduceEqDiff, Nat.reduceMul, Nat.reduceSub, Nat.reduceGT, reduceIte, Int.reduceNeg, Int.reduceToNat]) | ((first | refine WP.flowW 9 flc3c988df08 [47, 48, 49, 50, 51, 52, 53, 54, 55] [55] [] (by decide +kernel) (by kernel_rfl) (by kernel_rfl) (by kernel_rfl) ?_ | refine WP.drawW 7 (by decide +kernel) (by kernel_rfl) ?_); simp only [go_sem, tyAll, Nat.reduceAdd, Nat.reduceLT, Nat.reduceLeDiff, Nat.reduceEqDiff, Nat.reduceMul, Nat.reduceSub, Nat.reduceGT, reduceIte, Int.reduceNeg, Int.reduceToNat]) |  refine And.intro ?_ ?_ | intro _))
    all_goals first | omega | exact rlNode ‹_› | exact ⟨_, _, _, rfl⟩ | exact ⟨_, _, rfl, _, _, rfl, rfl⟩ | skip
    · rw [hi]
    · rw [hi]
end
section
noncomputable def cxInI : Cx := { P := Tryz.prog, tys := tys, C := [(117, kStOk), (169, kCopyStk), (154, kFrOk), (170, kChild)], hty := tysOk, hC := COk.cons cStOkI (COk.cons cCopyStkI (COk.cons cFrOkI (COk.cons cChildI (COk.nil _)))) }
theorem cxInI_t : cxInI.tys = tys := rfl
theorem cxInI_c : cxInI.C = [(117, kStOk), (169, kCopyStk), (154, kFrOk), (170, kChild)] := rfl
attribute [local go_sem] cxInI_t cxInI_c kStOk kCopyStk kFrOk kChild
theorem cInternI : Cn Tryz.prog 133 kIntern := by
  refine Cn.pur Tryz.func133 (by kernel_rfl) rfl fun d x hx => ?_
  obtain ⟨N, L⟩ := x
  obtain ⟨⟨hN, hs⟩, hL⟩ := hx
  simp only at hN hs hL ⊢
  refine Holds.go (c := cxInI) Tryz.func133 rfl Tryz.results133 Tryz.ntmps133 (by omega) (by simp) rfl ?_
  intro X0 w0
  (repeat' (first | refine WP.seq ?_ | refine WP.block ?_ | ((first | refine WP.region ?_ | refine WP.condW ?_ | refine WP.ret ?_ | refine WP.exit ?_ | refine WP.skip ?_); simp only [go_sem, tyAll, Nat.reduceAdd, Nat.reduceLT, Nat.reduceLeDiff, Nat.reduceEqDiff, Nat.reduceMul, Nat.reduceSub, Nat.reduceGT, reduceIte, Int.reduceNeg, Int.reduceToNat]) |  refine And.intro ?_ ?_ | intro _))
  all_goals first | omega | exact hs _ ‹_› | exact ⟨_, _, _, rfl⟩ | exact ⟨_, _, rfl, _, _, rfl, rfl⟩ | skip
  · rename_i h; rw [intern_no (h.imp_right fun e => by omega)]
  · rename_i h; rw [intern_no (h.imp_right fun e => by omega)]
  rename_i h
  have hi : intern N L = if L.all frOk = true then intGo L (N, -1) else (N, -1) := by
    unfold intern
    by_cases ha : L.all frOk = true
    · rw [if_pos ha, if_pos ⟨h.1, fun e => by subst e; simp at h, ha⟩]
    · rw [if_neg ha, if_neg fun hc => ha hc.2.2]
  refine WP.loop (fun k : Nat => ⟨[(1, .sl 2 (L.map encFrame)), (4, .ptr 4 0 0 0), (6, .ptr 6 0 0 0), (24, .sl 2 (L.map encFrame)), (25, .v (.int .i64 L.length)), (26, .v (.int .i64 k))],
    [(4, .box 26 [.v (.slice none 0 0)]), (6, .box 26 [.own 14]), (14, .sl 157 3 (N.map encNode))]⟩)
    (fun k => k ≤ L.length ∧ (∀ j (hj : j < L.length), j < k → frOk L[j] = true)) (fun k => L.length - k) 0 ⟨by simp, by simp⟩ ?_ ?_
  · (simp only [go_sem, tyAll, Nat.reduceAdd, Nat.reduceLT, Nat.reduceLeDiff, Nat.reduceEqDiff, Nat.reduceMul, Nat.reduceSub, Nat.reduceGT, reduceIte, Int.reduceNeg, Int.reduceToNat] <;> (first | rfl | exact ⟨rfl, rfl⟩ | exact ⟨rfl, rfl, rfl⟩ | exact ⟨rfl, rfl, rfl, rfl⟩ | exact ⟨rfl, rfl, rfl, rfl, rfl⟩ | exact ⟨⟨rfl, rfl⟩, rfl⟩ | simp))
  intro k ⟨hk, hf⟩
  by_cases hlt : k < L.length
  · have h1 := rowAt_map encFrame L k hlt
    have hnm := hL _ (List.getElem_mem hlt)
    (repeat' (first | refine WP.seq ?_ | refine WP.block ?_ | ((first | refine WP.region ?_ | refine WP.condW ?_ | refine WP.ret ?_ | refine WP.exit ?_ | refine WP.skip ?_); simp only [go_sem, h1, encFrame, tyAll, Nat.reduceAdd, Nat.reduceLT, Nat.reduceLeDiff, Nat.reduceEqDiff, Nat.reduceMul, Nat.reduceSub, Nat.reduceGT, reduceIte, Int.reduceNeg, Int.reduceToNat]) |  refine And.intro ?_ ?_ | intro _))
    all_goals first | omega | exact rlNode ‹_› | exact ⟨_, _, _, rfl⟩ | exact ⟨_, _, rfl, _, _, rfl, rfl⟩ | skip
    · rename_i hb; rw [intern_bad hlt hb]
    · rename_i hb; rw [intern_bad hlt hb]
    · rename_i hfr
      refine ⟨k + 1, ⟨by omega, fun j hj hjk => ?_⟩, by omega, by (first | rfl | exact ⟨rfl, rfl⟩ | exact ⟨rfl, rfl, rfl⟩ | exact ⟨rfl, rfl, rfl, rfl⟩ | exact ⟨rfl, rfl, rfl, rfl, rfl⟩ | exact ⟨⟨rfl, rfl⟩, rfl⟩ | simp)⟩
      rcases Nat.lt_or_ge j k with hh | hh
      · exact hf j hj hh
      · have : j = k := by omega
        subst this; exact hfr
  have hall : L.all frOk = true := by
    rw [List.all_eq_true]
    intro f hfm
    obtain ⟨j, hj, rfl⟩ := List.mem_iff_getElem.1 hfm
    exact hf j hj (by omega)
  rw [if_pos hall] at hi
  (repeat' (first | refine WP.seq ?_ | refine WP.block ?_ | ((first | refine WP.region ?_ | refine WP.condW ?_ | refine WP.ret ?_ | refine WP.exit ?_ | refine WP.skip ?_); simp only [go_sem, tyAll, Nat.reduceAdd, Nat.reduceLT, Nat.reduceLeDiff, Nat.reduceEqDiff, Nat.reduceMul, Nat.reduceSub, Nat.reduceGT, reduceIte, Int.reduceNeg, Int.reduceToNat]) |  refine And.intro ?_ ?_ | intro _))
  all_goals first | omega | skip
  refine WP.loop (fun s : Nat × List Node × Int => ⟨[(4, .ptr 4 0 0 0), (6, .ptr 6 0 0 0), (9, .v (.int .i64 s.2.2)), (35, .sl 2 (L.map encFrame)), (36, .v (.int .i64 L.length)), (37, .v (.int .i64 s.1))],
    [(4, .box 26 [.v (.slice none 0 0)]), (6, .box 26 [.own 14]), (14, .sl 157 3 (s.2.1.map encNode))]⟩)
    (fun s => s.1 ≤ L.length ∧ intGo L (N, -1) = intGo (L.drop s.1) s.2 ∧ s.2.1.length ≤ N.length + s.1 ∧ -1 ≤ s.2.2 ∧ s.2.2 < s.2.1.length) (fun s => L.length - s.1) (0, N, -1) ⟨by simp, by simp, by simp, by simp only; omega, by simp only; omega⟩ ?_ ?_
  · (simp only [go_sem, tyAll, Nat.reduceAdd, Nat.reduceLT, Nat.reduceLeDiff, Nat.reduceEqDiff, Nat.reduceMul, Nat.reduceSub, Nat.reduceGT, reduceIte, Int.reduceNeg, Int.reduceToNat] <;> (first | rfl | exact ⟨rfl, rfl⟩ | exact ⟨rfl, rfl, rfl⟩ | exact ⟨rfl, rfl, rfl, rfl⟩ | exact ⟨rfl, rfl, rfl, rfl, rfl⟩ | exact ⟨⟨rfl, rfl⟩, rfl⟩ | simp))
  rintro ⟨k, M, at'⟩ ⟨hk, hg, hm, ha0, ha1⟩
  simp only at hk hg hm ha0 ha1 ⊢
  by_cases hlt : k < L.length
  · have h1 := rowAt_map encFrame L k hlt
    have hnm := hL _ (List.getElem_mem hlt)
    have hst := intGo_step hlt (M, at')
    have hcb := child_bound M at' L[k]
    rw [← hg] at hst
    simp only at hst hcb
    (repeat' (first | refine WP.seq ?_ | refine WP.block ?_ | ((first | refine WP.region ?_ | refine WP.condW ?_ | refine WP.ret ?_ | refine WP.exit ?_ | refine WP.skip ?_); simp only [go_sem, h1, encFrame, tyAll, Nat.reduceAdd, Nat.reduceLT, Nat.reduceLeDiff, Nat.reduceEqDiff, Nat.reduceMul, Nat.reduceSub, Nat.reduceGT, reduceIte, Int.reduceNeg, Int.reduceToNat]) |  refine And.intro ?_ ?_ | intro _))
    all_goals first | omega | exact rlNode ‹_› | exact ⟨_, _, _, rfl⟩ | exact ⟨_, _, rfl, _, _, rfl, rfl⟩ | skip
    · rename_i hc
      have hc' : child M at' L[k] < 0 := hc
      rw [if_pos hc'] at hst
      refine ⟨(k + 1, M ++ [mkNode at' L[k]], (M.length : Int)), ⟨by simp only; omega, hst, by simp only [List.length_append, List.length_cons, List.length_nil]; omega, by simp only; omega, by simp only [List.length_append, List.length_cons, List.length_nil]; omega⟩, by simp only; omega, by (first | rfl | exact ⟨rfl, rfl⟩ | exact ⟨rfl, rfl, rfl⟩ | exact ⟨rfl, rfl, rfl, rfl⟩ | exact ⟨rfl, rfl, rfl, rfl, rfl⟩ | exact ⟨⟨rfl, rfl⟩, rfl⟩ | simp), by simp only [List.map_append, List.map_cons, List.map_nil]; rfl⟩
    · rename_i hc
      have hc' : ¬ child M at' L[k] < 0 := by show ¬ child M at' ⟨L[k].name, L[k].line⟩ < 0; omega
      rw [if_neg hc'] at hst
      refine ⟨(k + 1, M, child M at' L[k]), ⟨by simp only; omega, hst, by simp only; omega, by simp only; omega, by simp only; omega⟩, by simp only; omega, by (first | rfl | exact ⟨rfl, rfl⟩ | exact ⟨rfl, rfl, rfl⟩ | exact ⟨rfl, rfl, rfl, rfl⟩ | exact ⟨rfl, rfl, rfl, rfl, rfl⟩ | exact ⟨⟨rfl, rfl⟩, rfl⟩ | simp)⟩
  · rw [hg, show k = L.length by omega, List.drop_length, intGo] at hi
    (repeat' (first | refine WP.seq ?_ | refine WP.block ?_ | ((first | refine WP.region ?_ | refine WP.condW ?_ | refine WP.ret ?_ | refine WP.exit ?_ | refine WP.skip ?_); simp only [go_sem, tyAll, Nat.reduceAdd, Nat.reduceLT, Nat.reduceLeDiff, Nat.reduceEqDiff, Nat.reduceMul, Nat.reduceSub, Nat.reduceGT, reduceIte, Int.reduceNeg, Int.reduceToNat]) |  refine And.intro ?_ ?_ | intro _))
    all_goals first | omega | exact rlNode ‹_› | exact ⟨_, _, _, rfl⟩ | exact ⟨_, _, rfl, _, _, rfl, rfl⟩ | skip
    · rw [hi]
    · rw [hi]
end
end
section
open Go.Vc
set_option linter.unusedSimpArgs false
set_option linter.unusedVariables false
set_option maxHeartbeats 1000000
set_option maxRecDepth 10000
attribute [local irreducible] Go.Vc.WP
attribute [local go_sem] cx0_t cx0_c
attribute [local go_sem] decNode_enc decFrame_enc oneFrame_enc stkA oneFrame_ab oneNode_abc decI_enc prA
theorem padC (C : List Int) (j : Nat) : (C ++ List.replicate j 0).map encI ++ [[SV.v (.int .i64 0)]] = (C ++ List.replicate (j + 1) 0).map encI := by
  rw [List.replicate_succ', ← List.append_assoc, List.map_append (l₂ := [0])]; rfl
theorem padC_get {C : List Int} {m k : Nat} (hk : k < C.length + m) (h0 : ∀ x ∈ C, 0 ≤ x ∧ x ≤ 1000000000000) : 0 ≤ (C ++ List.replicate m 0).getD k 0 ∧ (C ++ List.replicate m 0).getD k 0 ≤ 1000000000000 := by
  rw [List.getD_eq_getElem?_getD, List.getElem?_append]
  split
  · rename_i h
    rw [List.getElem?_eq_getElem h]
    exact h0 _ (List.getElem_mem h)
  · rename_i h
    rw [List.getElem?_replicate, if_pos (by omega)]; simp
def kAddStack : Ctr := pur (fun args => (prA args 0, decFrame (aR args 1), aI args 2)) (fun x => [.agg [.sl 3 (x.1.1.map encNode), .sl 1 (x.1.2.map encI)], .sl 2 (x.2.1.map encFrame), .v (.int .i64 x.2.2)])
  (fun x => (x.1.1.length + x.2.1.length ≤ 4398046511104 ∧ (∀ n ∈ x.1.1, n.name.size ≤ 1099511627776) ∧ x.1.2.length ≤ 4398046511104) ∧ ∀ f ∈ x.2.1, f.name.size ≤ 1099511627776)
  (fun d x => .tup [.agg [.own d, .own (d + 1000)], .v (.bool (addStack x.1.1 x.1.2 x.2.1 x.2.2).2)]) (fun d x => [(d, .sl 157 3 ((addStack x.1.1 x.1.2 x.2.1 x.2.2).1.1.map encNode)), (d + 1000, .sl 3 1 ((addStack x.1.1 x.1.2 x.2.1 x.2.2).1.2.map encI))])
theorem addNo {N : List Node} {C : List Int} {L : List Frame} {n : Int} (h : profileOk N C = false ∨ n < 0 ∨ 1000000000000 < n ∨ (intern N L).2 < 0) : addStack N C L n = ((N, C), false) := by
  unfold addStack
  rw [if_neg]
  rintro ⟨h1, h2, h3, h4, _⟩
  rcases h with h | h | h | h
  · rw [h1] at h; cases h
  · omega
  · omega
  · omega
section
noncomputable def cxAsS : Cx := { P := Tryz.prog, tys := tys, C := [(63, kPrOk), (67, k60), (152, kCopyPr), (153, kIntern)], hty := tysOk, hC := COk.cons cPrOkS (COk.cons c58 (COk.cons cCopyPrS (COk.cons cInternS (COk.nil _)))) }
theorem cxAsS_t : cxAsS.tys = tys := rfl
theorem cxAsS_c : cxAsS.C = [(63, kPrOk), (67, k60), (152, kCopyPr), (153, kIntern)] := rfl
attribute [local go_sem] cxAsS_t cxAsS_c kPrOk k60 kCopyPr kIntern
theorem cAddStackS : Cn Tryz.prog 115 kAddStack := by
  refine Cn.pur Tryz.func115 (by kernel_rfl) rfl fun d x hx => ?_
  obtain ⟨⟨N, C⟩, L, n⟩ := x
  obtain ⟨⟨hN, hs, hC⟩, hL⟩ := hx
  simp only at hN hs hC hL ⊢
  have hil := intern_len N L
  have hia := intern_at N L
  have hin := intern_names (B := 1099511627776) hs hL
  have hadd : profileOk N C = false ∨ n < 0 ∨ 1000000000000 < n ∨ (intern N L).2 < 0 → addStack N C L n = ((N, C), false) := addNo
  have hyes : profileOk N C = true → 0 ≤ n → n ≤ 1000000000000 → 0 ≤ (intern N L).2 → addStack N C L n = if profileOk (intern N L).1 (addC C (intern N L).1.length (intern N L).2.toNat n) = true then (((intern N L).1, addC C (intern N L).1.length (intern N L).2.toNat n), true) else ((N, C), false) := fun h1 h2 h3 h4 => by
    unfold addStack
    by_cases hp : profileOk (intern N L).1 (addC C (intern N L).1.length (intern N L).2.toNat n) = true
    · rw [if_pos hp, if_pos ⟨h1, h2, h3, h4, hp⟩]
    · rw [if_neg hp, if_neg fun hc => hp hc.2.2.2.2]
  generalize hI : intern N L = I at *
  obtain ⟨M, at'⟩ := I
  simp only at hil hia hin hadd hyes
  generalize hA : addStack N C L n = A at *
  refine Holds.go (c := cxAsS) Tryz.func115 rfl Tryz.results115 Tryz.ntmps115 (by omega) (by simp) rfl ?_
  intro X0 w0
  (repeat' (first | refine WP.seq ?_ | refine WP.block ?_ | ((first | refine WP.region ?_ | refine WP.condW ?_ | refine WP.ret ?_ | refine WP.exit ?_ | refine WP.skip ?_); simp only [go_sem, hI, tyAll, Nat.reduceAdd, Nat.reduceLT, Nat.reduceLeDiff, Nat.reduceEqDiff, Nat.reduceMul, Nat.reduceSub, Nat.reduceGT, reduceIte, Int.reduceNeg, Int.reduceToNat]) | ((first | refine WP.drawW 10 (by decide +kernel) (by kernel_rfl) ?_); simp only [go_sem, hI, tyAll, Nat.reduceAdd, Nat.reduceLT, Nat.reduceLeDiff, Nat.reduceEqDiff, Nat.reduceMul, Nat.reduceSub, Nat.reduceGT, reduceIte, Int.reduceNeg, Int.reduceToNat]) |  refine And.intro ?_ ?_ | intro _))
  all_goals first | omega | (simp only; omega) | exact hs _ ‹_› | exact hL _ ‹_› | exact ⟨_, _, _, rfl⟩ | exact ⟨_, _, rfl, _, _, rfl, rfl⟩ | skip
  iterate 3
    · rename_i h
      have e := hadd (h.elim .inl fun h => .inr (h.elim .inl fun h => .inr (.inl h)))
      subst e
      first | rfl | exact if_neg (by omega)
  iterate 3
    · rename_i h1 h
      have e := hadd (.inr (.inr (.inr h)))
      subst e
      first | rfl | exact if_neg (by omega)
  rename_i h h0
  obtain ⟨hpo, hn0, hn1⟩ := h
  have hy := hyes hpo hn0 hn1 (by omega)
  obtain ⟨_, hlen, hcnt⟩ := profileOk_iff.1 hpo
  have hpos : ∀ x ∈ C, 0 ≤ x ∧ x ≤ 1000000000000 := fun x hx => by
    obtain ⟨j, hj, rfl⟩ := List.mem_iff_getElem.1 hx
    have h1 := cntOk_at hcnt j hj
    have h2 := profileOk_sum hpo j (by omega)
    omega
  refine WP.loop (fun j : Nat => ⟨[(2, .v (.int .i64 n)), (3, .ptr 3 0 0 0), (6, .ptr 6 0 0 0), (8, .ptr 8 0 0 0), (9, .ptr 9 0 0 0), (10, .v (.int .i64 at'))],
    [(3, .box 29 [.sl 3 (N.map encNode), .sl 1 (C.map encI)]), (6, .box 29 [.v (.slice none 0 0), .v (.slice none 0 0)]), (8, .box 29 [.own 27, .own 1022]), (9, .box 26 [.own 27]), (27, .sl 157 3 (M.map encNode)), (1022, .sl 3 1 ((C ++ List.replicate j 0).map encI))]⟩)
    (fun j => C.length + j ≤ M.length) (fun j => M.length - j) 0 (by omega) ?_ ?_
  · have e0 : C ++ List.replicate 0 0 = C := by simp
    (simp only [go_sem, e0, tyAll, Nat.reduceAdd, Nat.reduceLT, Nat.reduceLeDiff, Nat.reduceEqDiff, Nat.reduceMul, Nat.reduceSub, Nat.reduceGT, reduceIte, Int.reduceNeg, Int.reduceToNat] <;> (first | rfl | exact ⟨rfl, rfl⟩ | exact ⟨rfl, rfl, rfl⟩ | exact ⟨rfl, rfl, rfl, rfl⟩ | exact ⟨rfl, rfl, rfl, rfl, rfl⟩ | exact ⟨⟨rfl, rfl⟩, rfl⟩ | simp))
  intro j hj
  have hcl : (C ++ List.replicate j (0 : Int)).length = C.length + j := by simp
  by_cases hlt : C.length + j < M.length
  · have hpad := padC C j
    (repeat' (first | refine WP.seq ?_ | refine WP.block ?_ | ((first | refine WP.region ?_ | refine WP.condW ?_ | refine WP.ret ?_ | refine WP.exit ?_ | refine WP.skip ?_); simp only [go_sem, hcl, hpad, tyAll, Nat.reduceAdd, Nat.reduceLT, Nat.reduceLeDiff, Nat.reduceEqDiff, Nat.reduceMul, Nat.reduceSub, Nat.reduceGT, reduceIte, Int.reduceNeg, Int.reduceToNat]) | ((first | refine WP.drawW 10 (by decide +kernel) (by kernel_rfl) ?_); simp only [go_sem, hcl, hpad, tyAll, Nat.reduceAdd, Nat.reduceLT, Nat.reduceLeDiff, Nat.reduceEqDiff, Nat.reduceMul, Nat.reduceSub, Nat.reduceGT, reduceIte, Int.reduceNeg, Int.reduceToNat]) |  refine And.intro ?_ ?_ | intro _))
    all_goals first | omega | exact rlI ‹_› | exact ⟨_, _, _, rfl⟩ | exact ⟨_, _, rfl, _, _, rfl, rfl⟩ | skip
    all_goals exact ⟨j + 1, by omega, by omega, by (first | rfl | exact ⟨rfl, rfl⟩ | exact ⟨rfl, rfl, rfl⟩ | exact ⟨rfl, rfl, rfl, rfl⟩ | exact ⟨rfl, rfl, rfl, rfl, rfl⟩ | exact ⟨⟨rfl, rfl⟩, rfl⟩ | simp)⟩
  · have hj2 : j = M.length - C.length := by omega
    have hk : at'.toNat < (C ++ List.replicate j (0 : Int)).length := by omega
    have h1 := rowAt_map encI (C ++ List.replicate j 0) at'.toNat hk
    have hb := padC_get (C := C) (m := j) (k := at'.toNat) (by omega) hpos
    have hg : (C ++ List.replicate j (0 : Int))[at'.toNat] = (C ++ List.replicate j 0).getD at'.toNat 0 := by rw [List.getD_eq_getElem?_getD, List.getElem?_eq_getElem hk]; rfl
    rw [hg] at h1
    have hset : addC C M.length at'.toNat n = (C ++ List.replicate j 0).set at'.toNat ((C ++ List.replicate j 0).getD at'.toNat 0 + n) := by rw [hj2]; rfl
    have hal := addC_len C M.length at'.toNat n
    rw [hset] at hy hal
    generalize (C ++ List.replicate j (0 : Int)).getD at'.toNat 0 = v at *
    have hse : ((C ++ List.replicate j 0).map encI).set at'.toNat [SV.v (.int .i64 (v + n))] = ((C ++ List.replicate j 0).set at'.toNat (v + n)).map encI := by rw [List.map_set]; rfl
    generalize (C ++ List.replicate j (0 : Int)).set at'.toNat (v + n) = D at *
    (repeat' (first | refine WP.seq ?_ | refine WP.block ?_ | ((first | refine WP.region ?_ | refine WP.condW ?_ | refine WP.ret ?_ | refine WP.exit ?_ | refine WP.skip ?_); simp only [go_sem, hcl, h1, hse, encI, tyAll, Nat.reduceAdd, Nat.reduceLT, Nat.reduceLeDiff, Nat.reduceEqDiff, Nat.reduceMul, Nat.reduceSub, Nat.reduceGT, reduceIte, Int.reduceNeg, Int.reduceToNat]) | ((first | refine WP.drawW 10 (by decide +kernel) (by kernel_rfl) ?_); simp only [go_sem, hcl, h1, hse, encI, tyAll, Nat.reduceAdd, Nat.reduceLT, Nat.reduceLeDiff, Nat.reduceEqDiff, Nat.reduceMul, Nat.reduceSub, Nat.reduceGT, reduceIte, Int.reduceNeg, Int.reduceToNat]) |  refine And.intro ?_ ?_ | intro _))
    all_goals first | omega | (simp only; omega) | exact hin _ ‹_› | exact ⟨_, _, _, rfl⟩ | exact ⟨_, _, rfl, _, _, rfl, rfl⟩ | skip
    iterate 3
      · rename_i h8 hf
        have e : A = ((N, C), false) := by rw [hy, if_neg (by rw [hf]; simp)]
        subst e
        first | rfl | exact if_neg (by omega)
    iterate 3
      · rename_i h8 hf
        have e : A = ((M, D), true) := by rw [hy, if_pos hf]
        subst e
        first | rfl | exact if_neg (by omega)
end
section
noncomputable def cxAsI : Cx := { P := Tryz.prog, tys := tys, C := [(56, kPrOk), (118, k60), (132, kCopyPr), (133, kIntern)], hty := tysOk, hC := COk.cons cPrOkI (COk.cons c60 (COk.cons cCopyPrI (COk.cons cInternI (COk.nil _)))) }
theorem cxAsI_t : cxAsI.tys = tys := rfl
theorem cxAsI_c : cxAsI.C = [(56, kPrOk), (118, k60), (132, kCopyPr), (133, kIntern)] := rfl
attribute [local go_sem] cxAsI_t cxAsI_c kPrOk k60 kCopyPr kIntern
theorem cAddStackI : Cn Tryz.prog 71 kAddStack := by
  refine Cn.pur Tryz.func71 (by kernel_rfl) rfl fun d x hx => ?_
  obtain ⟨⟨N, C⟩, L, n⟩ := x
  obtain ⟨⟨hN, hs, hC⟩, hL⟩ := hx
  simp only at hN hs hC hL ⊢
  have hil := intern_len N L
  have hia := intern_at N L
  have hin := intern_names (B := 1099511627776) hs hL
  have hadd : profileOk N C = false ∨ n < 0 ∨ 1000000000000 < n ∨ (intern N L).2 < 0 → addStack N C L n = ((N, C), false) := addNo
  have hyes : profileOk N C = true → 0 ≤ n → n ≤ 1000000000000 → 0 ≤ (intern N L).2 → addStack N C L n = if profileOk (intern N L).1 (addC C (intern N L).1.length (intern N L).2.toNat n) = true then (((intern N L).1, addC C (intern N L).1.length (intern N L).2.toNat n), true) else ((N, C), false) := fun h1 h2 h3 h4 => by
    unfold addStack
    by_cases hp : profileOk (intern N L).1 (addC C (intern N L).1.length (intern N L).2.toNat n) = true
    · rw [if_pos hp, if_pos ⟨h1, h2, h3, h4, hp⟩]
    · rw [if_neg hp, if_neg fun hc => hp hc.2.2.2.2]
  generalize hI : intern N L = I at *
  obtain ⟨M, at'⟩ := I
  simp only at hil hia hin hadd hyes
  generalize hA : addStack N C L n = A at *
  refine Holds.go (c := cxAsI) Tryz.func71 rfl Tryz.results71 Tryz.ntmps71 (by omega) (by simp) rfl ?_
  intro X0 w0
  (repeat' (first | refine WP.seq ?_ | refine WP.block ?_ | ((first | refine WP.region ?_ | refine WP.condW ?_ | refine WP.ret ?_ | refine WP.exit ?_ | refine WP.skip ?_); simp only [go_sem, hI, tyAll, Nat.reduceAdd, Nat.reduceLT, Nat.reduceLeDiff, Nat.reduceEqDiff, Nat.reduceMul, Nat.reduceSub, Nat.reduceGT, reduceIte, Int.reduceNeg, Int.reduceToNat]) |  refine And.intro ?_ ?_ | intro _))
  all_goals first | omega | (simp only; omega) | exact hs _ ‹_› | exact hL _ ‹_› | exact ⟨_, _, _, rfl⟩ | exact ⟨_, _, rfl, _, _, rfl, rfl⟩ | skip
  iterate 3
    · rename_i h
      have e := hadd (h.elim .inl fun h => .inr (h.elim .inl fun h => .inr (.inl h)))
      subst e
      first | rfl | exact if_neg (by omega)
  iterate 3
    · rename_i h1 h
      have e := hadd (.inr (.inr (.inr h)))
      subst e
      first | rfl | exact if_neg (by omega)
  rename_i h h0
  obtain ⟨hpo, hn0, hn1⟩ := h
  have hy := hyes hpo hn0 hn1 (by omega)
  obtain ⟨_, hlen, hcnt⟩ := profileOk_iff.1 hpo
  have hpos : ∀ x ∈ C, 0 ≤ x ∧ x ≤ 1000000000000 := fun x hx => by
    obtain ⟨j, hj, rfl⟩ := List.mem_iff_getElem.1 hx
    have h1 := cntOk_at hcnt j hj
    have h2 := profileOk_sum hpo j (by omega)
    omega
  refine WP.loop (fun j : Nat => ⟨[(2, .v (.int .i64 n)), (3, .ptr 3 0 0 0), (6, .ptr 6 0 0 0), (8, .ptr 8 0 0 0), (9, .ptr 9 0 0 0), (10, .v (.int .i64 at'))],
    [(3, .box 29 [.sl 3 (N.map encNode), .sl 1 (C.map encI)]), (6, .box 29 [.v (.slice none 0 0), .v (.slice none 0 0)]), (8, .box 29 [.own 27, .own 1022]), (9, .box 26 [.own 27]), (27, .sl 157 3 (M.map encNode)), (1022, .sl 3 1 ((C ++ List.replicate j 0).map encI))]⟩)
    (fun j => C.length + j ≤ M.length) (fun j => M.length - j) 0 (by omega) ?_ ?_
  · have e0 : C ++ List.replicate 0 0 = C := by simp
    (simp only [go_sem, e0, tyAll, Nat.reduceAdd, Nat.reduceLT, Nat.reduceLeDiff, Nat.reduceEqDiff, Nat.reduceMul, Nat.reduceSub, Nat.reduceGT, reduceIte, Int.reduceNeg, Int.reduceToNat] <;> (first | rfl | exact ⟨rfl, rfl⟩ | exact ⟨rfl, rfl, rfl⟩ | exact ⟨rfl, rfl, rfl, rfl⟩ | exact ⟨rfl, rfl, rfl, rfl, rfl⟩ | exact ⟨⟨rfl, rfl⟩, rfl⟩ | simp))
  intro j hj
  have hcl : (C ++ List.replicate j (0 : Int)).length = C.length + j := by simp
  by_cases hlt : C.length + j < M.length
  · have hpad := padC C j
    (repeat' (first | refine WP.seq ?_ | refine WP.block ?_ | ((first | refine WP.region ?_ | refine WP.condW ?_ | refine WP.ret ?_ | refine WP.exit ?_ | refine WP.skip ?_); simp only [go_sem, hcl, hpad, tyAll, Nat.reduceAdd, Nat.reduceLT, Nat.reduceLeDiff, Nat.reduceEqDiff, Nat.reduceMul, Nat.reduceSub, Nat.reduceGT, reduceIte, Int.reduceNeg, Int.reduceToNat]) |  refine And.intro ?_ ?_ | intro _))
    all_goals first | omega | exact rlI ‹_› | exact ⟨_, _, _, rfl⟩ | exact ⟨_, _, rfl, _, _, rfl, rfl⟩ | skip
    all_goals exact ⟨j + 1, by omega, by omega, by (first | rfl | exact ⟨rfl, rfl⟩ | exact ⟨rfl, rfl, rfl⟩ | exact ⟨rfl, rfl, rfl, rfl⟩ | exact ⟨rfl, rfl, rfl, rfl, rfl⟩ | exact ⟨⟨rfl, rfl⟩, rfl⟩ | simp)⟩
  · have hj2 : j = M.length - C.length := by omega
    have hk : at'.toNat < (C ++ List.replicate j (0 : Int)).length := by omega
    have h1 := rowAt_map encI (C ++ List.replicate j 0) at'.toNat hk
    have hb := padC_get (C := C) (m := j) (k := at'.toNat) (by omega) hpos
    have hg : (C ++ List.replicate j (0 : Int))[at'.toNat] = (C ++ List.replicate j 0).getD at'.toNat 0 := by rw [List.getD_eq_getElem?_getD, List.getElem?_eq_getElem hk]; rfl
    rw [hg] at h1
    have hset : addC C M.length at'.toNat n = (C ++ List.replicate j 0).set at'.toNat ((C ++ List.replicate j 0).getD at'.toNat 0 + n) := by rw [hj2]; rfl
    have hal := addC_len C M.length at'.toNat n
    rw [hset] at hy hal
    generalize (C ++ List.replicate j (0 : Int)).getD at'.toNat 0 = v at *
    have hse : ((C ++ List.replicate j 0).map encI).set at'.toNat [SV.v (.int .i64 (v + n))] = ((C ++ List.replicate j 0).set at'.toNat (v + n)).map encI := by rw [List.map_set]; rfl
    generalize (C ++ List.replicate j (0 : Int)).set at'.toNat (v + n) = D at *
    (repeat' (first | refine WP.seq ?_ | refine WP.block ?_ | ((first | refine WP.region ?_ | refine WP.condW ?_ | refine WP.ret ?_ | refine WP.exit ?_ | refine WP.skip ?_); simp only [go_sem, hcl, h1, hse, encI, tyAll, Nat.reduceAdd, Nat.reduceLT, Nat.reduceLeDiff, Nat.reduceEqDiff, Nat.reduceMul, Nat.reduceSub, Nat.reduceGT, reduceIte, Int.reduceNeg, Int.reduceToNat]) |  refine And.intro ?_ ?_ | intro _))
    all_goals first | omega | (simp only; omega) | exact hin _ ‹_› | exact ⟨_, _, _, rfl⟩ | exact ⟨_, _, rfl, _, _, rfl, rfl⟩ | skip
    iterate 3
      · rename_i h8 hf
        have e : A = ((N, C), false) := by rw [hy, if_neg (by rw [hf]; simp)]
        subst e
        first | rfl | exact if_neg (by omega)
    iterate 3
      · rename_i h8 hf
        have e : A = ((M, D), true) := by rw [hy, if_pos hf]
        subst e
        first | rfl | exact if_neg (by omega)
end
end
end Go.Proofs.YtklcphbgaeiegaaGreatDoor
/-
  DERIVED. A nil slice in a slot or in a variable's cell as a list of one's own that holds nothing.
-/
namespace Go.Vc
set_option linter.unusedVariables false

/-- object t is turned into what stands for the same cells -/
def rp (t : Nat) (ob : Ob) : List (Nat × Ob) → List (Nat × Ob)
  | [] => []
  | (u, o) :: l => (if u = t then (u, ob) else (u, o)) :: rp t ob l
theorem lk_rp {t : Nat} {ob : Ob} {j : Nat} : ∀ {l : List (Nat × Ob)} {o : Ob}, lk j (rp t ob l) = some o → ∃ o0, lk j l = some o0 ∧ (j = t → o = ob) ∧ (j ≠ t → o = o0)
  | (u, o1) :: l, o, h => by
    simp only [rp] at h
    by_cases hu : u = t
    · rw [if_pos hu] at h
      simp only [lk] at h ⊢
      by_cases hj : j = u
      · rw [if_pos hj] at h ⊢; cases h
        exact ⟨o1, rfl, fun _ => rfl, fun hn => absurd (hj.trans hu) hn⟩
      · rw [if_neg hj] at h ⊢; exact lk_rp h
    · rw [if_neg hu] at h
      simp only [lk] at h ⊢
      by_cases hj : j = u
      · rw [if_pos hj] at h ⊢; cases h
        exact ⟨_, rfl, fun e => absurd (hj.symm.trans e) hu, fun _ => rfl⟩
      · rw [if_neg hj] at h ⊢; exact lk_rp h
def isNil : SV → Bool
  | .v (.slice none 0 0) => true
  | _ => false
/-- cell k of variable t, a nil slice, is list id from here on (elements of type e, of s cells) -/
def St.adoptB (st : St) (t k id e s : Nat) : St :=
  match lk t (st.kill id).hp with
  | some (.box e' cs) => match cs[k]? with
    | some c => if isNil c = true ∧ id < 1000000 ∧ t ≠ id then { fr := (st.kill id).fr, hp := rp t (.box e' (cs.set k (.own id))) ((id, .sl e s []) :: (st.kill id).hp) } else st
    | none => st
  | _ => st
/-- .. what slot t holds -/
def St.adoptS (st : St) (t id e s : Nat) : St :=
  match lk t (st.kill id).fr with
  | some c => if isNil c = true ∧ id < 1000000 then { fr := (t, .own id) :: er t (st.kill id).fr, hp := (id, .sl e s []) :: (st.kill id).hp } else st
  | none => st
section
variable {c : Cx} {P : Program} {N : Nat} {X0 : Nat → Prop} {M : Nat → Value → Prop} {w0 : World} {st : St} {K : Exit → St → Prop}
theorem isNil_eq {x : SV} (h : isNil x = true) : x = .v (.slice none 0 0) := by
  unfold isNil at h
  split at h
  · rfl
  · cases h
theorem Sim.nilObj {β : Nat → Value} {a : Act} {w : World} (h : Sim N X0 M w0 st β a w) {id e s : Nat} (hid : id < 1000000) :
    ∃ β', β' id = .slice none 0 0 ∧ Sim N X0 M w0 { fr := (st.kill id).fr, hp := (id, .sl e s []) :: (st.kill id).hp } β' a w := by
  let β' : Nat → Value := fun i => if i = id then .slice none 0 0 else β i
  have hβ : ∀ i, i ≠ id → β' i = β i := fun i hi => by show (if i = id then _ else β i) = _; rw [if_neg hi]
  have hβd : β' id = .slice none 0 0 := by show (if id = id then _ else β id) = _; rw [if_pos rfl]
  have h1 := h.kill id hid hβ (by rw [hβd]; rfl) (w' := w) rfl rfl rfl (Nat.le_refl _) (fun _ _ _ => rfl) (X1 := X0) (fun b _ hb => .inl hb) h.x0
  refine ⟨β', hβd, ?_⟩
  exact h1.add (j := id) (lk_kill st id) (ob := .sl e s []) (.nil e s hβd) (fun b hb => by rw [hβd] at hb; cases hb) (fun b hb => by rw [hβd] at hb; cases hb) (fun b i o hb => by rw [hβd] at hb; cases hb)
theorem Sim.rp {β : Nat → Value} {a : Act} {w : World} (h : Sim N X0 M w0 st β a w) {t e' : Nat} {cs ds : List SV} (ht : lk t st.hp = some (.box e' cs)) (hl : ds.length = cs.length)
    (hd : ∀ (k : Nat) (d : SV), ds[k]? = some d → ∃ c, cs[k]? = some c ∧ ∀ u, R w (XX X0 β st.hp) β c u → R w (XX X0 β st.hp) β d u) : Sim N X0 M w0 { fr := st.fr, hp := Go.Vc.rp t (.box e' ds) st.hp } β a w := by
  have hX : ∀ b, XX X0 β (Go.Vc.rp t (.box e' ds) st.hp) b → XX X0 β st.hp b := fun b hb => by
    rcases hb with hb | ⟨j, o, hj, hb⟩
    · exact .inl hb
    · obtain ⟨o0, h1, _⟩ := lk_rp hj; exact .inr ⟨j, o0, h1, hb⟩
  have hS : Same (XX X0 β st.hp) w w := ⟨Nat.le_refl _, fun _ _ _ => rfl⟩
  exact { h with
    slots := fun u x hx => (h.slots u x hx).mono hS fun b _ => hX b
    objs := fun j o hj => by
      obtain ⟨o0, h1, h2, h3⟩ := lk_rp hj
      by_cases hjt : j = t
      · rw [h2 hjt]
        subst hjt
        have hO := h.objs j _ ht
        cases hO with
        | box b cur hv hh hlen hc =>
          refine .box b cur hv hh (by rw [hl]; exact hlen) fun k d u hk hu => ?_
          obtain ⟨c0, hc0, hR⟩ := hd k d hk
          obtain ⟨g1, g2⟩ := hc k c0 u hc0 hu
          exact ⟨g1, (hR u g2).mono hS fun b _ => hX b⟩
      · rw [h3 hjt]
        exact (h.objs j o0 h1).mono hS (fun b _ hb => hX b hb) (fun _ _ => rfl)
    inj := fun p q op oq b hp hq hbp hbq => by
      obtain ⟨o1, e1, _⟩ := lk_rp hp
      obtain ⟨o2, e2, _⟩ := lk_rp hq
      exact h.inj p q o1 o2 b e1 e2 hbp hbq
    mine := fun j o b hj hb => by
      obtain ⟨o1, e1, _⟩ := lk_rp hj
      exact h.mine j o1 b e1 hb }
theorem Sim.adoptB {β : Nat → Value} {a : Act} {w : World} (h : Sim N X0 M w0 st β a w) (t k id e s : Nat) : ∃ β', Sim N X0 M w0 (st.adoptB t k id e s) β' a w := by
  unfold St.adoptB
  split
  case h_2 => exact ⟨β, h⟩
  case h_1 _ e' cs hl =>
  split
  case h_2 => exact ⟨β, h⟩
  case h_1 _ c0 hc =>
  split
  case isFalse => exact ⟨β, h⟩
  case isTrue hh =>
  obtain ⟨hn, hid, hne⟩ := hh
  have hc0 := isNil_eq hn
  subst hc0
  obtain ⟨β', hb, h1⟩ := h.nilObj (e := e) (s := s) hid
  refine ⟨β', ?_⟩
  have hlt : k < cs.length := (List.getElem?_eq_some_iff.1 hc).1
  refine h1.rp (t := t) (e' := e') (cs := cs) (ds := cs.set k (.own id)) ?_ (by simp) fun i d hd => ?_
  · simp only [lk, if_neg hne]; exact hl
  · rw [List.getElem?_set] at hd
    split at hd
    · rename_i hik
      subst hik
      try rw [if_pos hlt] at hd
      cases hd
      exact ⟨_, hc, fun u hu => by have := hu.v_inv; subst this; rw [← hb]; exact .own id⟩
    · exact ⟨d, hd, fun u hu => hu⟩
theorem Sim.adoptS {β : Nat → Value} {a : Act} {w : World} (h : Sim N X0 M w0 st β a w) (t id e s : Nat) : ∃ β', Sim N X0 M w0 (st.adoptS t id e s) β' a w := by
  unfold St.adoptS
  split
  case h_2 => exact ⟨β, h⟩
  case h_1 _ c0 hc =>
  split
  case isFalse => exact ⟨β, h⟩
  case isTrue hh =>
  obtain ⟨hn, hid⟩ := hh
  have hc0 := isNil_eq hn
  subst hc0
  obtain ⟨β', hb, h1⟩ := h.nilObj (e := e) (s := s) hid
  refine ⟨β', ?_⟩
  have hv := (h1.slots t _ hc).v_inv
  exact { h1 with
    slots := fun u x hx => by
      simp only [lk] at hx
      split at hx
      · rename_i hut
        cases hx
        rw [hut, hv, ← hb]; exact .own id
      · rename_i hut
        rw [lk_er_ne hut] at hx
        exact h1.slots u x hx }
/-- a list of such changes -/
inductive Ado where
  | b (t k id e s : Nat)
  | s (t id e s : Nat)
def St.ado (st : St) : List Ado → St
  | [] => st
  | .b t k id e s :: l => (st.adoptB t k id e s).ado l
  | .s t id e s :: l => (st.adoptS t id e s).ado l
theorem Sim.ado {a : Act} {w : World} : ∀ (l : List Ado) {st : St} {β : Nat → Value}, Sim N X0 M w0 st β a w → ∃ β', Sim N X0 M w0 (st.ado l) β' a w
  | [], st, β, h => ⟨β, h⟩
  | .b t k id e s :: l, st, β, h => by obtain ⟨β', h'⟩ := h.adoptB t k id e s; exact Sim.ado l h'
  | .s t id e s :: l, st, β, h => by obtain ⟨β', h'⟩ := h.adoptS t id e s; exact Sim.ado l h'
theorem WP.ado (l : List Ado) {code : Code} (h : WP c N X0 M w0 code (st.ado l) K) : WP c N X0 M w0 code st K := fun hA β a w hs => by
  obtain ⟨β', h'⟩ := hs.ado l
  exact h hA β' a w h'
end
end Go.Vc

namespace Go.Proofs.YtklcphbgaeiegaaGreatDoor
open Go.Vc
attribute [local go_sem] St.runR St.runW St.stepV offV St.step St.stepU St.stepG mkCond guardB St.prK St.pr St.prLen St.eff St.callE St.callD St.callF St.callL aI aB aS aR aC St.isM St.argL Ctr.pure Ctr.lend Ctr.move Ctr.isL Ctr.wri pur len lentBy St.lentV St.lent1 nthS argsR restOf obsR pairs swapL unObs backL St.resL erL SV.ren1 SV.up SV.up2 Ob.up St.fzL cellIds partIds St.intoRow SV.ownId St.fz SV.fz1 St.prep St.mvL St.mv SV.re1 rnOk St.prEq vals eqCells scEq Value.kd St.prStr St.prCut cutR St.bnd St.prMin St.bld isShift outL retL outJ oR oC St.ev St.get St.put St.new St.kill SV.kill SV.kill1 Ob.kill St.app St.wrt St.rowsOf St.res St.killL lk er argsL SV.strip SV.need SV.share SV.share1 SV.owns SV.owns1 SV.owns2 SV.good SV.good1 SV.rok SV.rok1 SV.rok2 SV.isV SV.isV2 nodupN SV.cells SV.one SV.pur Ob.pb partsIn rowsIn splice cellsAt dstOk scal2 scal1 thenK blockK retK outK outs okC okL okA okT nilC nilL nilA nilT keepC keepL keepA keepT St.runG St.dltK St.least St.clean St.final St.hide offK badS badO SV.refs SV.leaf SV.leaf2 Ob.refs dlOk fpAt Go.Vc.cover tups SV.ofAgg St.out outC subL St.has rng wr Value.oneCell' Option.isSome_some Option.isSome_none List.nil_append Bool.false_eq_true List.map_cons List.map_nil List.all_cons List.all_nil List.length_cons List.length_nil List.drop_zero List.drop_succ_cons List.take_succ_cons List.take_zero List.drop_nil List.take_nil List.getElem?_cons_zero List.getElem?_cons_succ List.getElem?_nil List.cons_append List.nil_append List.append_nil List.append_assoc List.flatMap_cons List.flatMap_nil List.contains_cons List.contains_nil List.set_cons_zero List.set_cons_succ List.getElem?_toArray Option.getD_some Option.getD_none Option.map_some Option.map_none Option.bind_some Option.some.injEq Prod.mk.injEq if_true if_false true_and and_true and_self and_false false_and Bool.and_false Bool.false_and Bool.or_true Bool.true_or Bool.or_false Bool.false_or ne_eq not_true_eq_false not_false_eq_true decide_true decide_false List.mem_cons List.not_mem_nil List.filter_cons List.filter_nil List.any_cons List.any_nil List.isEmpty_nil List.isEmpty_cons Option.getD_none or_false false_or true_or or_true forall_eq_or_imp forall_eq reduceCtorEq exists_eq exists_eq' exists_eq_left' exists_eq_left exists_eq_right exists_eq_right' imp_self implies_true Bool.and_true Bool.true_and Bool.and_self beq_self_eq_true List.replicate_succ List.replicate_zero forall_const false_implies pickB_or pickB_and beqT beqF Int.toNat_natCast List.length_map List.length_replicate ge_iff_le gt_iff_lt decide_eq_true_eq decide_eq_false_iff_not Bool.and_eq_true Bool.or_eq_true Bool.not_eq_true' Bool.not_eq_false' condG List.toList_toArray Bool.or_eq_false_iff Bool.and_eq_false_iff Int.not_lt Int.not_le beq_iff_eq beq_eq_false_iff_ne bne_iff_ne bne_eq_false_iff_eq ne_eq Bool.not_true Bool.not_false exists_and_left
section
open Go.Vc
set_option linter.unusedSimpArgs false
set_option linter.unusedVariables false
set_option maxHeartbeats 1000000
set_option maxRecDepth 10000
attribute [local irreducible] Go.Vc.WP
attribute [local go_sem] cx0_t cx0_c
def fl674b519c88 : List Go.Vc.Fp := [⟨[3], [], [], [15, 17, 19, 1019], [], []⟩, ⟨[0], [], [], [15, 17, 19, 1019], [], []⟩, ⟨[14], [1], [], [17, 19, 1019], [], [15]⟩, ⟨[0], [], [], [15, 17, 19, 1019], [], []⟩, ⟨[], [], [], [15, 19, 1019], [], [17]⟩, ⟨[16, 17], [1, 2, 3, 4], [], [19, 1019], [], []⟩, ⟨[13, 15, 18], [0, 1, 2, 3, 4, 5], [], [], [], [19, 1019]⟩, ⟨[19], [0, 1, 2, 3, 4, 5, 6], [], [], [], []⟩, ⟨[12], [0, 1, 2, 3, 4, 5, 6, 7], [], [], [], []⟩, ⟨[12], [0, 1, 2, 3, 4, 5, 6, 7], [], [], [], []⟩, ⟨[], [0, 1, 2, 3, 4, 5, 6, 7, 8, 9], [], [], [], []⟩]
def fl4226c7e014 : List Go.Vc.Fp := [⟨[5], [], [], [12, 1012], [], []⟩, ⟨[4], [], [], [12, 1012], [], []⟩, ⟨[11], [1], [], [], [], [12, 1012]⟩, ⟨[], [0, 1, 2], [], [], [], []⟩, ⟨[], [0, 1, 2, 3], [], [], [], []⟩]
attribute [local go_sem] fl674b519c88 fl4226c7e014
attribute [local go_sem] len2 decCur_abc decU_enc decFrame_enc decI_enc St.thr St.offO pureBox St.thrC St.thrK St.dltTK St.runTG St.has1 St.fzS addL behind cur_eta decNode_enc oneNode_abc oneFrame_ab oneFrame_enc prA stkA isV_Node isV_It St.ado St.adoptB St.adoptS rp isNil
theorem drp_names {P : List Node × List Int} {n : Nat} (h : DrP P n) : ∀ x ∈ P.1, x.name.size ≤ 8 := by
  intro x hx
  obtain ⟨k, hk, rfl⟩ := List.mem_iff_getElem.1 hx
  have h1 := stacksOk_at (profileOk_iff.1 h.ok).1 k hk
  unfold stNode at h1
  simp only [Bool.and_eq_true, decide_eq_true_eq] at h1
  have h2 : nameOk P.1[k].name = true := by
    first
    | exact (frOk_iff.1 h1.1.2).1
    | exact (frOk_iff.1 h1.2.1).1
    | simp_all [frOk, nodeFr]
  exact (nameOk_letters h2).2.2
theorem drp_lens {P : List Node × List Int} {n : Nat} (h : DrP P n) : P.1.length ≤ 4 * n ∧ P.2.length ≤ 4 * n := by
  have h1 := h.len
  have h2 := (profileOk_iff.1 h.ok).2.1
  omega
def kPrD : Ctr := len2 [0] [] (fun args obs => decCur (oC obs 1000000)) (fun c => [.ptr 1000000 0 0 0]) (fun c => [(1000000, .box 135 (encCur c))]) CurOk
  (fun d _ => .agg [.own d, .own (d + 1000)]) (fun d c => [(d, .sl 157 3 ((prD c).1.1.map encNode)), (d + 1000, .sl 3 1 ((prD c).1.2.map encI))]) (fun c => [(1000000, .box 135 (encCur (prD c).2))])
def litC : List (List SV) := [[.v (.int .i64 1)], [.v (.int .i64 1)], [.v (.int .i64 2)], [.v (.int .i64 5)], [.v (.int .i64 40)]]
theorem row_cnt {q : Nat} (h : q < 5) : (decI [[.v (.int .i64 1)], [.v (.int .i64 1)], [.v (.int .i64 2)], [.v (.int .i64 5)], [.v (.int .i64 40)]]).getD q 0 = cntAt q := by
  match q, h with
  | 0, _ => rfl
  | 1, _ => rfl
  | 2, _ => rfl
  | 3, _ => rfl
  | 4, _ => rfl
section
noncomputable def cxPrD : Cx := { P := Tryz.prog, tys := tys, C := [(69, kBelow), (70, kStk), (116, kPickI), (115, kAddStack)], hty := tysOk, hC := COk.cons cBelowS (COk.cons cStkS (COk.cons cPickIS (COk.cons cAddStackS (COk.nil _)))) }
theorem cxPrD_t : cxPrD.tys = tys := rfl
theorem cxPrD_c : cxPrD.C = [(69, kBelow), (70, kStk), (116, kPickI), (115, kAddStack)] := rfl
attribute [local go_sem] cxPrD_t cxPrD_c kBelow kStk kPickI kAddStack
theorem cPrD : Cn Tryz.prog 55 kPrD := by
  refine Cn.len2 Tryz.func55 (by kernel_rfl) rfl fun d x hd hx => ?_
  rename Cur => c
  have hb := belowV_bd c (n := 8) (by omega)
  have hc8 := hx.belowC 8
  have hKn : belowV c 8 = (prN c : Int) := (Int.toNat_of_nonneg hb.1).symm
  refine HoldsL.go (c := cxPrD) Tryz.func55 rfl Tryz.results55 Tryz.ntmps55 (by omega) (by simp) rfl (by simp <;> omega) (by simp [SV.owns2, SV.owns, SV.owns1]) (by simp) rfl rfl (by simp) ?_
  intro X0 M w0
  (repeat' (first | refine WP.seq ?_ | refine WP.block ?_ | ((first | refine WP.region ?_ | refine WP.condW ?_ | refine WP.ret ?_ | refine WP.exit ?_ | refine WP.skip ?_); simp only [go_sem, encCur, hKn, tyAll, Nat.reduceAdd, Nat.reduceLT, Nat.reduceLeDiff, Nat.reduceEqDiff, Nat.reduceMul, Nat.reduceSub, Nat.reduceGT, reduceIte, Int.reduceNeg, Int.reduceToNat]) | ((first | refine WP.flowE 10 9 [] 10 fl674b519c88 [12, 13, 14, 15, 16, 17, 18, 19, 20, 21] [15, 17, 19, 1019] [] (by decide +kernel) (by decide +kernel) (by kernel_rfl) (by kernel_rfl) (by kernel_rfl) ?_); simp only [go_sem, encCur, hKn, tyAll, Nat.reduceAdd, Nat.reduceLT, Nat.reduceLeDiff, Nat.reduceEqDiff, Nat.reduceMul, Nat.reduceSub, Nat.reduceGT, reduceIte, Int.reduceNeg, Int.reduceToNat]) |  refine And.intro ?_ ?_ | intro _))
  all_goals first | omega | exact hx | skip
  refine WP.ado [.b 3 0 19 157 3, .b 3 1 1019 3 1] ?_
  refine WP.loop (fun j : Nat => ⟨[(0, .ptr 1000000 0 0 0), (2, .ptr 2 0 0 0), (3, .ptr 3 0 0 0), (4, .v (.int .i64 ((prN c : Int) - j)))],
    [(1000000, .box 135 (encCur (prGo j (([], []), belowC c 8)).2)), (2, .box 29 [.v (.slice none 0 0), .v (.slice none 0 0)]), (3, .box 29 [.own 19, .own 1019]),
      (19, .sl 157 3 ((prGo j (([], []), belowC c 8)).1.1.map encNode)), (1019, .sl 3 1 ((prGo j (([], []), belowC c 8)).1.2.map encI))]⟩)
    (fun j => j ≤ prN c) (fun j => prN c - j) 0 (by simp) ?_ ?_
  · simp only [encCur, prGo]; (simp only [go_sem, tyAll, Nat.reduceAdd, Nat.reduceLT, Nat.reduceLeDiff, Nat.reduceEqDiff, Nat.reduceMul, Nat.reduceSub, Nat.reduceGT, reduceIte, Int.reduceNeg, Int.reduceToNat] <;> (first | rfl | exact ⟨rfl, rfl⟩ | exact ⟨rfl, rfl, rfl⟩ | exact ⟨rfl, rfl, rfl, rfl⟩ | exact ⟨rfl, rfl, rfl, rfl, rfl⟩ | exact ⟨⟨rfl, rfl⟩, rfl⟩ | simp))
  intro j hj
  have hN7 := prN_le c
  obtain ⟨g1, g2⟩ := prGo_ok (belowC c 8) hc8 j (by omega)
  have hnx : prGo (j + 1) (([], []), belowC c 8) = prStep (prGo j (([], []), belowC c 8)) := rfl
  refine WP.prep [] [(19, 50), (1019, 1050)] rfl ?_
  by_cases hlt : j < prN c
  · have hli : (0 : Int) < (prN c : Int) - j := by omega
    generalize prGo j (([], []), belowC c 8) = S at g1 g2 hnx
    obtain ⟨⟨N, C⟩, u⟩ := S
    simp only at g1 g2 hnx ⊢
    obtain ⟨hs1, hs2⟩ := stkD_drawn u g2
    have hl := drp_lens g1
    have hnm : ∀ x ∈ N, x.name.size ≤ 1099511627776 := fun x hx => Nat.le_trans (drp_names g1 x hx) (by omega)
    have hfn : ∀ f ∈ (stkD u).1, f.name.size ≤ 1099511627776 := fun f hf => by
      have := (nameOk_letters (frOk_iff.1 (List.all_eq_true.1 hs1.ok f hf)).1).2.2
      omega
    have hsl := hs1.len
    have hq0 := belowV_bd (stkD u).2 (n := 5) (by omega)
    obtain ⟨q, hq⟩ : ∃ q : Nat, belowV (stkD u).2 5 = q := ⟨_, (Int.toNat_of_nonneg hq0.1).symm⟩
    have hr := row_cnt (q := q) (by omega)
    have hc5 : ((5 : Nat) : Int) = 5 := rfl
    have h5 : (decI [[.v (.int .i64 1)], [.v (.int .i64 1)], [.v (.int .i64 2)], [.v (.int .i64 5)], [.v (.int .i64 40)]]).length = 5 := rfl
    have hst : prStep ((N, C), u) = ((addStack N C (stkD u).1 (cntAt q)).1, belowC (stkD u).2 5) := by unfold prStep; simp only [hq]
    rw [hst] at hnx
    simp only at hl
    (repeat' (first | (refine WP.flowTE 1000000 [2, 5] 10 9 [] 10 [⟨[3], [], [17], [15, 17, 19, 1019], [], []⟩, ⟨[0], [], [], [15, 17, 19, 1019], [], []⟩, ⟨[14], [1], [], [17, 19, 1019], [], [15]⟩, ⟨[0], [], [], [15, 17, 19, 1019], [], []⟩, ⟨[], [], [], [15, 19, 1019], [], [17]⟩, ⟨[16, 17], [1, 2, 3, 4], [], [19, 1019], [17], []⟩, ⟨[13, 15, 18], [0, 1, 2, 3, 4, 5], [17], [], [], [19, 1019]⟩, ⟨[19], [0, 1, 2, 3, 4, 5, 6], [17], [], [], []⟩, ⟨[12], [0, 1, 2, 3, 4, 5, 6, 7], [17], [], [], []⟩, ⟨[12], [0, 1, 2, 3, 4, 5, 6, 7], [17], [], [], []⟩, ⟨[], [0, 1, 2, 3, 4, 5, 6, 7, 8, 9], [], [], [], []⟩] [12, 13, 14, 15, 16, 17, 18, 19, 20, 21] [15, 17, 19, 1019] [17] (by decide +kernel) (by decide +kernel) (by decide +kernel) (by kernel_rfl) (by kernel_rfl) (by kernel_rfl) ?_; simp only [go_sem, encCur, hli, hq, hr, h5, hc5, tyAll, Nat.reduceAdd, Nat.reduceLT, Nat.reduceLeDiff, Nat.reduceEqDiff, Nat.reduceMul, Nat.reduceSub, Nat.reduceGT, reduceIte, Int.reduceNeg, Int.reduceToNat]) | refine WP.seq ?_ | refine WP.block ?_ | ((first | refine WP.region ?_ | refine WP.condW ?_ | refine WP.ret ?_ | refine WP.exit ?_ | refine WP.skip ?_); simp only [go_sem, encCur, hli, hq, hr, h5, hc5, tyAll, Nat.reduceAdd, Nat.reduceLT, Nat.reduceLeDiff, Nat.reduceEqDiff, Nat.reduceMul, Nat.reduceSub, Nat.reduceGT, reduceIte, Int.reduceNeg, Int.reduceToNat]) | ((first | refine WP.flowE 10 9 [] 10 fl674b519c88 [12, 13, 14, 15, 16, 17, 18, 19, 20, 21] [15, 17, 19, 1019] [] (by decide +kernel) (by decide +kernel) (by kernel_rfl) (by kernel_rfl) (by kernel_rfl) ?_); simp only [go_sem, encCur, hli, hq, hr, h5, hc5, tyAll, Nat.reduceAdd, Nat.reduceLT, Nat.reduceLeDiff, Nat.reduceEqDiff, Nat.reduceMul, Nat.reduceSub, Nat.reduceGT, reduceIte, Int.reduceNeg, Int.reduceToNat]) |  refine And.intro ?_ ?_ | intro _))
    all_goals first | omega | exact g2 | exact hs2 | exact hnm _ ‹_› | exact hfn _ ‹_› | rfl | exact ⟨_, _, _, rfl⟩ | skip
    all_goals first | exact ⟨j + 1, by omega, by omega, by rw [show (prN c : Int) - j - 1 = (prN c : Int) - ((j + 1 : Nat) : Int) by omega], by rw [hnx], by rw [hnx], by rw [hnx]⟩ | trace_state
  · have hge : ¬ (0 : Int) < (prN c : Int) - j := by omega
    have hje : j = prN c := by omega
    subst hje
    (repeat' (first | refine WP.seq ?_ | refine WP.block ?_ | ((first | refine WP.region ?_ | refine WP.condW ?_ | refine WP.ret ?_ | refine WP.exit ?_ | refine WP.skip ?_); simp only [go_sem, encCur, hge, tyAll, Nat.reduceAdd, Nat.reduceLT, Nat.reduceLeDiff, Nat.reduceEqDiff, Nat.reduceMul, Nat.reduceSub, Nat.reduceGT, reduceIte, Int.reduceNeg, Int.reduceToNat]) | ((first | refine WP.flowE 10 9 [] 10 fl674b519c88 [12, 13, 14, 15, 16, 17, 18, 19, 20, 21] [15, 17, 19, 1019] [] (by decide +kernel) (by decide +kernel) (by kernel_rfl) (by kernel_rfl) (by kernel_rfl) ?_); simp only [go_sem, encCur, hge, tyAll, Nat.reduceAdd, Nat.reduceLT, Nat.reduceLeDiff, Nat.reduceEqDiff, Nat.reduceMul, Nat.reduceSub, Nat.reduceGT, reduceIte, Int.reduceNeg, Int.reduceToNat]) |  refine And.intro ?_ ?_ | intro _))
    all_goals first | omega | rfl | exact ⟨_, _, rfl⟩ | exact ⟨_, _, rfl, _, _, rfl, rfl⟩ | (rw [if_neg (by omega)]; rfl) | skip
    all_goals trace_state
end
def kDraw : Ctr := pur (fun args => decU (aR args 0)) (fun b => [.sl 1 (b.map encU)]) (fun b => b.length ≤ 1048576 ∧ ∀ z ∈ b, 0 ≤ z ∧ z ≤ 255) (fun d _ => .tup [.agg [.own d, .own (d + 1000)], .agg [.own (d + 2000), .own (d + 3000)]])
  (fun d b => [(d, .sl 157 3 ((drA b).1.map encNode)), (d + 1000, .sl 3 1 ((drA b).2.map encI)), (d + 2000, .sl 157 3 ((drB b).1.map encNode)), (d + 3000, .sl 3 1 ((drB b).2.map encI))])
section
noncomputable def cxDrP : Cx := { P := Tryz.prog, tys := tys, C := [(54, kNew), (55, kPrD)], hty := tysOk, hC := COk.cons cNewS (COk.cons cPrD (COk.nil _)) }
theorem cxDrP_t : cxDrP.tys = tys := rfl
theorem cxDrP_c : cxDrP.C = [(54, kNew), (55, kPrD)] := rfl
attribute [local go_sem] cxDrP_t cxDrP_c kNew kPrD
theorem cDraw : Cn Tryz.prog 13 kDraw := by
  refine Cn.pur Tryz.func13 (by kernel_rfl) rfl fun d x hx => ?_
  rename List Int => b
  obtain ⟨hb, hz⟩ := hx
  have h0 := newC_ok hb hz
  have h1 := (prD_ok _ h0).2
  have ea : prD (newC b) = (drA b, (prD (newC b)).2) := rfl
  have eb : (prD (prD (newC b)).2).1 = drB b := rfl
  refine Holds.go (c := cxDrP) Tryz.func13 rfl Tryz.results13 Tryz.ntmps13 (by omega) (by simp) rfl ?_
  intro X0 w0
  (repeat' (first | (refine WP.flowT 7 [2] [] 3 [⟨[5], [], [], [12, 1012], [], []⟩, ⟨[4], [], [], [12, 1012], [], []⟩, ⟨[11], [1], [], [], [], [12, 1012]⟩, ⟨[], [0, 1, 2], [], [], [], []⟩, ⟨[], [0, 1, 2, 3], [], [], [], []⟩] [10, 11, 12] [12, 1012] [] (by decide +kernel) (by decide +kernel) (by kernel_rfl) (by kernel_rfl) (by kernel_rfl) ?_; simp only [go_sem, encCur, tyAll, Nat.reduceAdd, Nat.reduceLT, Nat.reduceLeDiff, Nat.reduceEqDiff, Nat.reduceMul, Nat.reduceSub, Nat.reduceGT, reduceIte, Int.reduceNeg, Int.reduceToNat]) | refine WP.seq ?_ | refine WP.block ?_ | ((first | refine WP.region ?_ | refine WP.condW ?_ | refine WP.ret ?_ | refine WP.exit ?_ | refine WP.skip ?_); simp only [go_sem, encCur, tyAll, Nat.reduceAdd, Nat.reduceLT, Nat.reduceLeDiff, Nat.reduceEqDiff, Nat.reduceMul, Nat.reduceSub, Nat.reduceGT, reduceIte, Int.reduceNeg, Int.reduceToNat]) | ((first | refine WP.flowW 3 fl4226c7e014 [10, 11, 12] [12, 1012] [] (by decide +kernel) (by kernel_rfl) (by kernel_rfl) (by kernel_rfl) ?_); simp only [go_sem, encCur, tyAll, Nat.reduceAdd, Nat.reduceLT, Nat.reduceLeDiff, Nat.reduceEqDiff, Nat.reduceMul, Nat.reduceSub, Nat.reduceGT, reduceIte, Int.reduceNeg, Int.reduceToNat]) |  refine And.intro ?_ ?_ | intro _))
  all_goals first | omega | exact h0 | exact h1 | exact (hz _ ‹_›).1 | exact (hz _ ‹_›).2 | rfl | (rw [if_neg (by omega)]; rfl) | (rw [if_neg (by omega), if_neg (by omega)]; rfl) | (rw [if_neg (by omega), if_neg (by omega), if_neg (by omega)]; rfl) | exact ⟨_, _, rfl, _, _, rfl, rfl⟩ | exact ⟨_, _, rfl⟩ | skip
  all_goals trace_state
end
end
end Go.Proofs.YtklcphbgaeiegaaGreatDoor
/-
  DERIVED. A list that a call hands back as its own, taken as one that may only be read.
-/
namespace Go.Vc
set_option linter.unusedVariables false
def allV (rows : List (List SV)) : Prop := ∀ row ∈ rows, ∀ c ∈ row, ∃ x, c = .v x
theorem ObR.toSl {w : World} {X X' : Nat → Prop} {β : Nat → Value} {v : Value} {e s : Nat} {rows : List (List SV)} (h : ObR w X' β v (.sl e s rows)) (hX : ∀ b, blk v = some b → ¬ X b) (hv : allV rows) : Rp w X (.sl s rows) v := by
  cases h with
  | nil e s h => subst h; exact .nil s _ _
  | sl b cap cur us hv' hh h1 h2 h3 h4 h5 h6 h7 =>
    subst hv'
    refine .sl b 0 cap us (hX b rfl) (lt_of_heap hh) h1 h4 (fun i k row c hr hc => ?_) h6 (fun i k row c hr hc => ?_)
    · simp only [World.cell?, hh, Nat.zero_add]
      exact h5 i k row c hr hc
    · obtain ⟨x, rfl⟩ := hv row (List.mem_of_getElem? hr) c (List.mem_of_getElem? hc)
      have := h7 i k row _ hr hc
      cases this
      exact .v _
section
variable {P : Program} {f : FuncId} {args : List SV} {d e s : Nat} {rows : List (List SV)}
theorem Holds.frozen (h : Holds P f args (.own d) [(d, .sl e s rows)]) (hv : allV rows) : Holds P f args (.sl s rows) [] := by
  intro w X vs hG hX hl ha
  refine (h w X vs hG hX hl ha).mono fun en w' ⟨v, β, he, hb, hβ, hR, hO, hn⟩ => ?_
  refine ⟨v, β, he, hb, hβ, ?_, ⟨fun id ob hi => (by cases hi), fun i j oi oj b hi => (by cases hi)⟩, fun id ob b hi => (by cases hi)⟩
  have := hR.own_inv; subst this
  refine .p ((hO.1 d (.sl e s rows) (by simp [lk])).toSl (fun b hb' hx => ?_) hv)
  have h1 := hn d (.sl e s rows) b (by simp [lk]) hb'
  rcases hx with hx | ⟨i, o, hi, _⟩
  · have := hX b hx; omega
  · cases hi
theorem Holds.frozenT {y : Value} (h : Holds P f args (.tup [.own d, .v y]) [(d, .sl e s rows)]) (hv : allV rows) : Holds P f args (.tup [.sl s rows, .v y]) [] := by
  intro w X vs hG hX hl ha
  refine (h w X vs hG hX hl ha).mono fun en w' ⟨v, β, he, hb, hβ, hR, hO, hn⟩ => ?_
  refine ⟨v, β, he, hb, hβ, ?_, ⟨fun id ob hi => (by cases hi), fun i j oi oj b hi => (by cases hi)⟩, fun id ob b hi => (by cases hi)⟩
  obtain ⟨us, rfl, hul, hh⟩ := hR.tup_inv
  refine .tup hul fun k c u hc hu => ?_
  match k, hc with
  | 0, hc =>
    simp at hc; subst hc
    have := (hh 0 _ u rfl hu).own_inv
    subst this
    refine .p ((hO.1 d (.sl e s rows) (by simp [lk])).toSl (fun b hb' hx => ?_) hv)
    have h1 := hn d (.sl e s rows) b (by simp [lk]) hb'
    rcases hx with hx | ⟨i, o, hi, _⟩
    · have := hX b hx; omega
    · cases hi
  | 1, hc =>
    simp at hc; subst hc
    have := (hh 1 _ u rfl hu).v_inv
    subst this; exact .p (.v _)
  | k + 2, hc => simp at hc
end
/-- the same of a struct of two lists -/
theorem Holds.frozenA {P : Program} {f : FuncId} {args : List SV} {d1 d2 e1 s1 e2 s2 : Nat} {rows1 rows2 : List (List SV)} (hd : d1 ≠ d2) (h : Holds P f args (.agg [.own d1, .own d2]) [(d1, .sl e1 s1 rows1), (d2, .sl e2 s2 rows2)]) (hv1 : allV rows1) (hv2 : allV rows2) : Holds P f args (.agg [.sl s1 rows1, .sl s2 rows2]) [] := by
  intro w X vs hG hX hl ha
  refine (h w X vs hG hX hl ha).mono fun en w' ⟨v, β, he, hb, hβ, hR, hO, hn⟩ => ?_
  refine ⟨v, β, he, hb, hβ, ?_, ⟨fun id ob hi => (by cases hi), fun i j oi oj b hi => (by cases hi)⟩, fun id ob b hi => (by cases hi)⟩
  obtain ⟨us, rfl, hul, hh⟩ := hR.agg_inv
  have l1 : lk d1 [(d1, Ob.sl e1 s1 rows1), (d2, .sl e2 s2 rows2)] = some (.sl e1 s1 rows1) := by simp [lk]
  have l2 : lk d2 [(d1, Ob.sl e1 s1 rows1), (d2, .sl e2 s2 rows2)] = some (.sl e2 s2 rows2) := by simp [lk, Ne.symm hd]
  have key : ∀ {d e s : Nat} {rows : List (List SV)}, lk d [(d1, Ob.sl e1 s1 rows1), (d2, .sl e2 s2 rows2)] = some (.sl e s rows) → allV rows → R w' (XX X β []) β (.sl s rows) (β d) := fun {d e s rows} hl hv => by
    refine .p ((hO.1 d _ hl).toSl (fun b hb' hx => ?_) hv)
    have h1 := hn d _ b hl hb'
    rcases hx with hx | ⟨i, o, hi, _⟩
    · have := hX b hx; omega
    · cases hi
  refine .agg hul fun k c u hc hu => ?_
  match k, hc with
  | 0, hc =>
    simp at hc; subst hc
    have := (hh 0 _ u rfl hu).own_inv
    subst this; exact key l1 hv1
  | 1, hc =>
    simp at hc; subst hc
    have := (hh 1 _ u rfl hu).own_inv
    subst this; exact key l2 hv2
  | k + 2, hc => simp at hc
theorem Cn.frozenA {P : Program} {f : FuncId} {X : Type} {dec : List SV → X} {A : X → List SV} {pre : X → Prop} {e1 s1 e2 s2 : Nat} {rows1 rows2 : X → List (List SV)} (hv1 : ∀ x, allV (rows1 x)) (hv2 : ∀ x, allV (rows2 x))
    (h : Cn P f (Go.Vc.pur dec A pre (fun d _ => .agg [.own d, .own (d + 1000)]) (fun d x => [(d, .sl e1 s1 (rows1 x)), (d + 1000, .sl e2 s2 (rows2 x))]))) : Cn P f (Go.Vc.pur dec A pre (fun _ x => .agg [.sl s1 (rows1 x), .sl s2 (rows2 x)]) (fun _ _ => [])) :=
  ⟨h.call, fun d args ha => (h.holds d args ha).frozenA (by omega) (hv1 _) (hv2 _), fun _ _ _ h => h.elim⟩
theorem Cn.frozen {P : Program} {f : FuncId} {X : Type} {dec : List SV → X} {A : X → List SV} {pre : X → Prop} {e s : Nat} {rows : X → List (List SV)} (hv : ∀ x, allV (rows x))
    (h : Cn P f (Go.Vc.pur dec A pre (fun d _ => .own d) (fun d x => [(d, .sl e s (rows x))]))) : Cn P f (Go.Vc.pur dec A pre (fun _ x => .sl s (rows x)) (fun _ _ => [])) :=
  ⟨h.call, fun d args ha => (h.holds d args ha).frozen (hv _), fun _ _ _ h => h.elim⟩
theorem Cn.frozenT {P : Program} {f : FuncId} {X : Type} {dec : List SV → X} {A : X → List SV} {pre : X → Prop} {e s : Nat} {rows : X → List (List SV)} {y : X → Value} (hv : ∀ x, allV (rows x))
    (h : Cn P f (Go.Vc.pur dec A pre (fun d x => .tup [.own d, .v (y x)]) (fun d x => [(d, .sl e s (rows x))]))) : Cn P f (Go.Vc.pur dec A pre (fun _ x => .tup [.sl s (rows x), .v (y x)]) (fun _ _ => [])) :=
  ⟨h.call, fun d args ha => (h.holds d args ha).frozenT (hv _), fun _ _ _ h => h.elim⟩
end Go.Vc

/-
  DERIVED. What a call hands back as its own, taken as what may only be read: whatever its shape.
-/
namespace Go.Vc
set_option linter.unusedVariables false
def fz1m (robs : List (Nat × Ob)) : SV → SV
  | .own id => match lk id robs with
    | some (.sl _ s rows) => .sl s rows
    | _ => .junk
  | .v x => .v x
  | .sl s rows => .sl s rows
  | _ => .junk
theorem Holds.frz {P : Program} {f : FuncId} {args : List SV} {res : SV} {robs : List (Nat × Ob)} (h : Holds P f args res robs) (hv : ∀ id e s rows, lk id robs = some (.sl e s rows) → allV rows) : Holds P f args (res.up (fz1m robs)) [] := by
  intro w X vs hG hX hl ha
  refine (h w X vs hG hX hl ha).mono fun en w' ⟨v, β, he, hb, hβ, hR, hO, hn⟩ => ?_
  refine ⟨v, β, he, hb, hβ, ?_, ⟨fun id ob hi => (by cases hi), fun i j oi oj b hi => (by cases hi)⟩, fun id ob b hi => (by cases hi)⟩
  have hS : Same (XX X β robs) w' w' := ⟨Nat.le_refl _, fun _ _ _ => rfl⟩
  refine hR.up fun x u hx => ?_
  cases x with
  | own id =>
    have := hx.own_inv; subst this
    simp only [fz1m]
    split
    · rename_i e s rows hlk
      refine .p ((hO.1 id _ hlk).toSl (fun b hb' hx => ?_) (hv id e s rows hlk))
      have h1 := hn id _ b hlk hb'
      rcases hx with hx | ⟨i, o, hi, _⟩
      · have := hX b hx; omega
      · cases hi
    · exact .junk _
  | v y => have := hx.v_inv; subst this; exact .p (.v _)
  | sl s rows => exact .p (hx.sl_inv.mono hS (fun b _ hx => by
      rcases hx with hx | ⟨i, o, hi, _⟩
      · exact .inl hx
      · cases hi))
  | _ => exact .junk _
theorem Cn.frz {P : Program} {f : FuncId} {X : Type} {dec : List SV → X} {A : X → List SV} {pre : X → Prop} {res : Nat → X → SV} {robs : Nat → X → List (Nat × Ob)} {res' : X → SV}
    (h : Cn P f (Go.Vc.pur dec A pre res robs)) (hv : ∀ d x id e s rows, lk id (robs d x) = some (.sl e s rows) → allV rows) (he : ∀ d x, (res d x).up (fz1m (robs d x)) = res' x) : Cn P f (Go.Vc.pur dec A pre (fun _ x => res' x) (fun _ _ => [])) :=
  ⟨h.call, fun d args ha => (by have := (h.holds d args ha).frz (hv d _); rw [show ((Go.Vc.pur dec A pre res robs).pure d args).2.1 = res d (dec args) from rfl, show ((Go.Vc.pur dec A pre res robs).pure d args).2.2 = robs d (dec args) from rfl, he] at this; exact this), fun _ _ _ h => h.elim⟩
end Go.Vc

/-
  DERIVED. The library's contracts, laid at this program: tables of numbers. Printed by the kit's tools (lay.py).
-/
namespace Go.Proofs
open Go.Shelf
def Tryz.l106_ren : Go.Shelf.Ren := ⟨fun | 106 => 62 | 213 => 126 | 265 => 167 | n => n, fun | 9 => 9 | 3 => 3 | n => n, fun | n => n⟩
theorem Tryz.l106 : Go.Proofs.Lays.n106 Tryz.prog Tryz.l106_ren := {
  mixed := by kernel_rfl
  f106 := Tryz.func62.trans (congrArg some (by kernel_rfl))
  f213 := Tryz.func126.trans (congrArg some (by kernel_rfl))
  f265 := Tryz.func167.trans (congrArg some (by kernel_rfl))
  t3 := Tryz.underlying3
  a3 := Tryz.isAgg3
  z3 := Tryz.sizeOf3
  v3 := Tryz.zeroValue3
  t9 := Tryz.underlying9
  a9 := Tryz.isAgg9
  z9 := Tryz.sizeOf9
  v9 := Tryz.zeroValue9 }
def Tryz.lM145_ren : Go.Shelf.Ren := ⟨fun | 145 => 76 | 220 => 138 | 219 => 173 | 217 => 201 | 225 => 202 | 224 => 203 | 267 => 204 | 266 => 221 | 314 => 222 | n => n, fun | 9 => 9 | 4 => 4 | 59 => 105 | 3 => 3 | 5 => 5 | 46 => 143 | 146 => 223 | 51 => 172 | n => n, fun | 1 => 0 | n => n⟩
theorem Tryz.lM145 : Go.Proofs.LaysM.n145 Tryz.prog Tryz.lM145_ren := {
  mixed := by kernel_rfl
  f145 := Tryz.func76.trans (congrArg some (by kernel_rfl))
  f217 := Tryz.func201.trans (congrArg some (by kernel_rfl))
  f219 := Tryz.func173.trans (congrArg some (by kernel_rfl))
  f220 := Tryz.func138.trans (congrArg some (by kernel_rfl))
  f224 := Tryz.func203.trans (congrArg some (by kernel_rfl))
  f225 := Tryz.func202.trans (congrArg some (by kernel_rfl))
  f266 := Tryz.func221.trans (congrArg some (by kernel_rfl))
  f267 := Tryz.func204.trans (congrArg some (by kernel_rfl))
  f314 := Tryz.func222.trans (congrArg some (by kernel_rfl))
  t3 := Tryz.underlying3
  a3 := Tryz.isAgg3
  z3 := Tryz.sizeOf3
  v3 := Tryz.zeroValue3
  t4 := Tryz.underlying4
  a4 := Tryz.isAgg4
  z4 := Tryz.sizeOf4
  v4 := Tryz.zeroValue4
  t5 := Tryz.underlying5
  a5 := Tryz.isAgg5
  z5 := Tryz.sizeOf5
  v5 := Tryz.zeroValue5
  t9 := Tryz.underlying9
  a9 := Tryz.isAgg9
  z9 := Tryz.sizeOf9
  v9 := Tryz.zeroValue9
  t46 := Tryz.underlying143
  a46 := Tryz.isAgg143
  z46 := Tryz.sizeOf143
  v46 := Tryz.zeroValue143
  t51 := Tryz.underlying172
  a51 := Tryz.isAgg172
  z51 := Tryz.sizeOf172
  v51 := Tryz.zeroValue172
  t59 := Tryz.underlying105
  a59 := Tryz.isAgg105
  z59 := Tryz.sizeOf105
  v59 := Tryz.zeroValue105
  t146 := Tryz.underlying223
  a146 := Tryz.isAgg223
  z146 := Tryz.sizeOf223
  v146 := Tryz.zeroValue223
  g1 := by kernel_rfl
  i3 := by kernel_rfl
  i4 := by kernel_rfl
  i5 := by kernel_rfl
  i9 := by kernel_rfl
  i46 := by kernel_rfl
  i51 := by kernel_rfl
  i59 := by kernel_rfl
  i146 := by kernel_rfl
  m1 := by kernel_rfl
  s1_3 := fun w h => Go.Proofs.cell_of_shapedOpen_int (zero := #[.int .i64 0]) (t := 3) h (of_decide_eq_true (by kernel_rfl)) (by kernel_rfl) rfl (by kernel_rfl) (by kernel_rfl) Tryz.underlying3 }
def Tryz.lM146_ren : Go.Shelf.Ren := ⟨fun | 146 => 134 | 221 => 171 | 268 => 197 | 138 => 198 | 143 => 199 | 195 => 214 | 197 => 215 | 218 => 216 | 219 => 173 | 260 => 226 | 217 => 201 | 225 => 202 | 224 => 203 | 267 => 204 | 266 => 221 | 314 => 222 | n => n, fun | 9 => 9 | 31 => 58 | 3 => 3 | 4 => 4 | 0 => 0 | 105 => 217 | 21 => 21 | 5 => 5 | 46 => 143 | 119 => 233 | 139 => 236 | 138 => 235 | 146 => 223 | 51 => 172 | n => n, fun | 1 => 0 | 3 => 2 | 4 => 3 | n => n⟩
theorem Tryz.lM146 : Go.Proofs.LaysM.n146 Tryz.prog Tryz.lM146_ren := {
  mixed := by kernel_rfl
  f138 := Tryz.func198.trans (congrArg some (by kernel_rfl))
  f143 := Tryz.func199.trans (congrArg some (by kernel_rfl))
  f146 := Tryz.func134.trans (congrArg some (by kernel_rfl))
  f195 := Tryz.func214.trans (congrArg some (by kernel_rfl))
  f197 := Tryz.func215.trans (congrArg some (by kernel_rfl))
  f217 := Tryz.func201.trans (congrArg some (by kernel_rfl))
  f218 := Tryz.func216.trans (congrArg some (by kernel_rfl))
  f219 := Tryz.func173.trans (congrArg some (by kernel_rfl))
  f221 := Tryz.func171.trans (congrArg some (by kernel_rfl))
  f224 := Tryz.func203.trans (congrArg some (by kernel_rfl))
  f225 := Tryz.func202.trans (congrArg some (by kernel_rfl))
  f260 := Tryz.func226.trans (congrArg some (by kernel_rfl))
  f266 := Tryz.func221.trans (congrArg some (by kernel_rfl))
  f267 := Tryz.func204.trans (congrArg some (by kernel_rfl))
  f268 := Tryz.func197.trans (congrArg some (by kernel_rfl))
  f314 := Tryz.func222.trans (congrArg some (by kernel_rfl))
  t0 := Tryz.underlying0
  a0 := Tryz.isAgg0
  z0 := Tryz.sizeOf0
  v0 := Tryz.zeroValue0
  t3 := Tryz.underlying3
  a3 := Tryz.isAgg3
  z3 := Tryz.sizeOf3
  v3 := Tryz.zeroValue3
  t4 := Tryz.underlying4
  a4 := Tryz.isAgg4
  z4 := Tryz.sizeOf4
  v4 := Tryz.zeroValue4
  t5 := Tryz.underlying5
  a5 := Tryz.isAgg5
  z5 := Tryz.sizeOf5
  v5 := Tryz.zeroValue5
  t9 := Tryz.underlying9
  a9 := Tryz.isAgg9
  z9 := Tryz.sizeOf9
  v9 := Tryz.zeroValue9
  t21 := Tryz.underlying21
  a21 := Tryz.isAgg21
  z21 := Tryz.sizeOf21
  v21 := Tryz.zeroValue21
  t31 := Tryz.underlying58
  a31 := Tryz.isAgg58
  z31 := Tryz.sizeOf58
  v31 := Tryz.zeroValue58
  t46 := Tryz.underlying143
  a46 := Tryz.isAgg143
  z46 := Tryz.sizeOf143
  v46 := Tryz.zeroValue143
  t51 := Tryz.underlying172
  a51 := Tryz.isAgg172
  z51 := Tryz.sizeOf172
  v51 := Tryz.zeroValue172
  t105 := Tryz.underlying217
  a105 := Tryz.isAgg217
  z105 := Tryz.sizeOf217
  v105 := Tryz.zeroValue217
  t119 := Tryz.underlying233
  a119 := Tryz.isAgg233
  z119 := Tryz.sizeOf233
  t138 := Tryz.underlying235
  a138 := Tryz.isAgg235
  z138 := Tryz.sizeOf235
  v138 := Tryz.zeroValue235
  t139 := Tryz.underlying236
  a139 := Tryz.isAgg236
  z139 := Tryz.sizeOf236
  v139 := Tryz.zeroValue236
  t146 := Tryz.underlying223
  a146 := Tryz.isAgg223
  z146 := Tryz.sizeOf223
  v146 := Tryz.zeroValue223
  g1 := by kernel_rfl
  g3 := by kernel_rfl
  g4 := by kernel_rfl
  i0 := by kernel_rfl
  i3 := by kernel_rfl
  i4 := by kernel_rfl
  i5 := by kernel_rfl
  i9 := by kernel_rfl
  i21 := by kernel_rfl
  i31 := by kernel_rfl
  i46 := by kernel_rfl
  i51 := by kernel_rfl
  i105 := by kernel_rfl
  i138 := by kernel_rfl
  i139 := by kernel_rfl
  i146 := by kernel_rfl
  m1 := by kernel_rfl
  s1_3 := fun w h => Go.Proofs.cell_of_shapedOpen_int (zero := #[.int .i64 0]) (t := 3) h (of_decide_eq_true (by kernel_rfl)) (by kernel_rfl) rfl (by kernel_rfl) (by kernel_rfl) Tryz.underlying3
  m3 := by kernel_rfl
  m4 := by kernel_rfl }
def Tryz.lM171_ren : Go.Shelf.Ren := ⟨fun | 171 => 137 | 243 => 172 | 246 => 200 | 283 => 217 | 284 => 218 | 285 => 219 | 286 => 220 | 129 => 166 | 317 => 227 | 318 => 228 | 319 => 229 | 320 => 230 | 337 => 231 | 338 => 232 | n => n, fun | 3 => 3 | 9 => 9 | 2 => 2 | 4 => 4 | 171 => 219 | 0 => 0 | 53 => 174 | 37 => 22 | 5 => 5 | 173 => 221 | 212 => 230 | 51 => 172 | 20 => 20 | 213 => 231 | 46 => 143 | 232 => 237 | 233 => 238 | n => n, fun | 17 => 1 | 18 => 4 | 19 => 5 | n => n⟩
theorem Tryz.lM171 : Go.Proofs.LaysM.n171 Tryz.prog Tryz.lM171_ren := {
  mixed := by kernel_rfl
  f129 := Tryz.func166.trans (congrArg some (by kernel_rfl))
  f171 := Tryz.func137.trans (congrArg some (by kernel_rfl))
  f243 := Tryz.func172.trans (congrArg some (by kernel_rfl))
  f246 := Tryz.func200.trans (congrArg some (by kernel_rfl))
  f283 := Tryz.func217.trans (congrArg some (by kernel_rfl))
  f284 := Tryz.func218.trans (congrArg some (by kernel_rfl))
  f285 := Tryz.func219.trans (congrArg some (by kernel_rfl))
  f286 := Tryz.func220.trans (congrArg some (by kernel_rfl))
  f317 := Tryz.func227.trans (congrArg some (by kernel_rfl))
  f318 := Tryz.func228.trans (congrArg some (by kernel_rfl))
  f319 := Tryz.func229.trans (congrArg some (by kernel_rfl))
  f320 := Tryz.func230.trans (congrArg some (by kernel_rfl))
  f337 := Tryz.func231.trans (congrArg some (by kernel_rfl))
  f338 := Tryz.func232.trans (congrArg some (by kernel_rfl))
  t0 := Tryz.underlying0
  a0 := Tryz.isAgg0
  z0 := Tryz.sizeOf0
  v0 := Tryz.zeroValue0
  t2 := Tryz.underlying2
  a2 := Tryz.isAgg2
  z2 := Tryz.sizeOf2
  v2 := Tryz.zeroValue2
  t3 := Tryz.underlying3
  a3 := Tryz.isAgg3
  z3 := Tryz.sizeOf3
  v3 := Tryz.zeroValue3
  t4 := Tryz.underlying4
  a4 := Tryz.isAgg4
  z4 := Tryz.sizeOf4
  v4 := Tryz.zeroValue4
  t5 := Tryz.underlying5
  a5 := Tryz.isAgg5
  z5 := Tryz.sizeOf5
  v5 := Tryz.zeroValue5
  t9 := Tryz.underlying9
  a9 := Tryz.isAgg9
  z9 := Tryz.sizeOf9
  v9 := Tryz.zeroValue9
  t20 := Tryz.underlying20
  a20 := Tryz.isAgg20
  z20 := Tryz.sizeOf20
  v20 := Tryz.zeroValue20
  t37 := Tryz.underlying22
  a37 := Tryz.isAgg22
  z37 := Tryz.sizeOf22
  v37 := Tryz.zeroValue22
  t46 := Tryz.underlying143
  a46 := Tryz.isAgg143
  z46 := Tryz.sizeOf143
  v46 := Tryz.zeroValue143
  t51 := Tryz.underlying172
  a51 := Tryz.isAgg172
  z51 := Tryz.sizeOf172
  v51 := Tryz.zeroValue172
  t53 := Tryz.underlying174
  a53 := Tryz.isAgg174
  z53 := Tryz.sizeOf174
  v53 := Tryz.zeroValue174
  t171 := Tryz.underlying219
  a171 := Tryz.isAgg219
  z171 := Tryz.sizeOf219
  v171 := Tryz.zeroValue219
  t173 := Tryz.underlying221
  a173 := Tryz.isAgg221
  z173 := Tryz.sizeOf221
  v173 := Tryz.zeroValue221
  t212 := Tryz.underlying230
  a212 := Tryz.isAgg230
  z212 := Tryz.sizeOf230
  v212 := Tryz.zeroValue230
  t213 := Tryz.underlying231
  a213 := Tryz.isAgg231
  z213 := Tryz.sizeOf231
  t232 := Tryz.underlying237
  a232 := Tryz.isAgg237
  z232 := Tryz.sizeOf237
  v232 := Tryz.zeroValue237
  t233 := Tryz.underlying238
  a233 := Tryz.isAgg238
  z233 := Tryz.sizeOf238
  v233 := Tryz.zeroValue238
  g17 := by kernel_rfl
  g18 := by kernel_rfl
  g19 := by kernel_rfl
  i0 := by kernel_rfl
  i2 := by kernel_rfl
  i3 := by kernel_rfl
  i4 := by kernel_rfl
  i5 := by kernel_rfl
  i9 := by kernel_rfl
  i20 := by kernel_rfl
  i37 := by kernel_rfl
  i46 := by kernel_rfl
  i51 := by kernel_rfl
  i53 := by kernel_rfl
  i171 := by kernel_rfl
  i173 := by kernel_rfl
  i212 := by kernel_rfl
  i232 := by kernel_rfl
  i233 := by kernel_rfl
  m17 := by kernel_rfl
  m18 := by kernel_rfl
  m19 := by kernel_rfl }
def Tryz.l156_ren : Go.Shelf.Ren := ⟨fun | 156 => 155 | 165 => 181 | 166 => 182 | 169 => 183 | 240 => 208 | 241 => 209 | 276 => 223 | 277 => 224 | n => n, fun | 31 => 58 | 9 => 9 | 3 => 3 | 4 => 4 | 0 => 0 | 20 => 20 | 72 => 187 | 76 => 191 | 70 => 185 | 37 => 22 | 75 => 190 | 127 => 210 | 164 => 225 | 5 => 5 | 80 => 193 | n => n, fun | n => n⟩
theorem Tryz.l156 : Go.Proofs.Lays.n156 Tryz.prog Tryz.l156_ren := {
  mixed := by kernel_rfl
  f156 := Tryz.func155.trans (congrArg some (by kernel_rfl))
  f165 := Tryz.func181.trans (congrArg some (by kernel_rfl))
  f166 := Tryz.func182.trans (congrArg some (by kernel_rfl))
  f169 := Tryz.func183.trans (congrArg some (by kernel_rfl))
  f240 := Tryz.func208.trans (congrArg some (by kernel_rfl))
  f241 := Tryz.func209.trans (congrArg some (by kernel_rfl))
  f276 := Tryz.func223.trans (congrArg some (by kernel_rfl))
  f277 := Tryz.func224.trans (congrArg some (by kernel_rfl))
  t0 := Tryz.underlying0
  a0 := Tryz.isAgg0
  z0 := Tryz.sizeOf0
  v0 := Tryz.zeroValue0
  t3 := Tryz.underlying3
  a3 := Tryz.isAgg3
  z3 := Tryz.sizeOf3
  v3 := Tryz.zeroValue3
  t4 := Tryz.underlying4
  a4 := Tryz.isAgg4
  z4 := Tryz.sizeOf4
  v4 := Tryz.zeroValue4
  t9 := Tryz.underlying9
  a9 := Tryz.isAgg9
  z9 := Tryz.sizeOf9
  v9 := Tryz.zeroValue9
  t20 := Tryz.underlying20
  a20 := Tryz.isAgg20
  z20 := Tryz.sizeOf20
  v20 := Tryz.zeroValue20
  t31 := Tryz.underlying58
  a31 := Tryz.isAgg58
  z31 := Tryz.sizeOf58
  v31 := Tryz.zeroValue58
  t37 := Tryz.underlying22
  a37 := Tryz.isAgg22
  z37 := Tryz.sizeOf22
  v37 := Tryz.zeroValue22
  t70 := Tryz.underlying185
  a70 := Tryz.isAgg185
  z70 := Tryz.sizeOf185
  v70 := Tryz.zeroValue185
  t72 := Tryz.underlying187
  a72 := Tryz.isAgg187
  z72 := Tryz.sizeOf187
  v72 := Tryz.zeroValue187
  t75 := Tryz.underlying190
  a75 := Tryz.isAgg190
  z75 := Tryz.sizeOf190
  v75 := Tryz.zeroValue190
  t76 := Tryz.underlying191
  a76 := Tryz.isAgg191
  z76 := Tryz.sizeOf191
  v76 := Tryz.zeroValue191
  t127 := Tryz.underlying210
  a127 := Tryz.isAgg210
  z127 := Tryz.sizeOf210
  v127 := Tryz.zeroValue210
  t164 := Tryz.underlying225
  a164 := Tryz.isAgg225
  z164 := Tryz.sizeOf225
  v164 := Tryz.zeroValue225 }
end Go.Proofs

/-
  DERIVED. Plain lists: the library's words for cutting texts, as this claim's.
-/
namespace Go.Proofs.YtklcphbgaeiegaaGreatDoor
set_option linter.unusedVariables false

theorem index_no (c : UInt8) : ∀ {l : List UInt8}, c ∉ l → Lib.index l [c] = -1
  | [], _ => rfl
  | b :: l, h => by
    simp only [List.mem_cons, not_or] at h
    unfold Lib.index
    rw [index_no c h.2, if_neg (by simp [List.isPrefixOf]; exact h.1)]
    rfl
theorem index_at (c : UInt8) : ∀ {x : List UInt8} (r : List UInt8), c ∉ x → Lib.index (x ++ c :: r) [c] = x.length
  | [], r, _ => by simp [Lib.index, List.isPrefixOf]
  | b :: x, r, h => by
    simp only [List.mem_cons, not_or] at h
    rw [List.cons_append]
    unfold Lib.index
    rw [index_at c r h.2, if_neg (by simp [List.isPrefixOf]; exact h.1), if_neg (by simp; try omega)]
    simp
theorem cut_first (c : UInt8) : ∀ l : List UInt8, c ∉ l ∨ ∃ x r, l = x ++ c :: r ∧ c ∉ x
  | [] => .inl (by simp)
  | b :: l => by
    by_cases hb : b = c
    · exact .inr ⟨[], l, by rw [hb]; rfl, by simp⟩
    · rcases cut_first c l with h | ⟨x, r, h1, h2⟩
      · exact .inl (by simp only [List.mem_cons, not_or]; exact ⟨fun e => hb e.symm, h⟩)
      · exact .inr ⟨b :: x, r, by rw [h1]; rfl, by simp only [List.mem_cons, not_or]; exact ⟨fun e => hb e.symm, h2⟩⟩
theorem libcut_no (c : UInt8) {l : List UInt8} (h : c ∉ l) : Lib.cut l [c] = (l, [], false) := by
  unfold Lib.cut
  rw [index_no c h, if_neg (by omega)]
theorem libcut_at (c : UInt8) {x : List UInt8} (r : List UInt8) (h : c ∉ x) : Lib.cut (x ++ c :: r) [c] = (x, r, true) := by
  unfold Lib.cut
  rw [index_at c r h, if_pos (by omega), Int.toNat_natCast]
  simp
def one1 (c : UInt8) : ByteArray := ⟨#[c]⟩
theorem bts_ext (s : ByteArray) (l : List UInt8) (h : s.data.toList = l) : s = bts l := by rw [← h, bts_list]
theorem splitB_cut (c : UInt8) : ∀ (n : Nat) (s : ByteArray), s.size ≤ n → Lib.splitB (one1 c) 0 (Lib.countB s (one1 c)) s = (cutL c s.data.toList).map bts := by
  intro n
  induction n with
  | zero =>
    intro s hs
    have he : s.data.toList = [] := by apply List.eq_nil_of_length_eq_zero; have : s.data.toList.length = s.size := by simp
                                       omega
    have hi : Lib.indexB s (one1 c) = -1 := by unfold Lib.indexB; rw [he]; rfl
    rw [Lib.countB_miss s _ hi, Lib.splitB_zero, he]
    simp only [cutL, List.map_cons, List.map_nil]
    rw [bts_ext s [] he]
  | succ n ih =>
    intro s hs
    rcases cut_first c s.data.toList with h | ⟨x, r, h1, h2⟩
    · have hi : Lib.indexB s (one1 c) = -1 := index_no c h
      rw [Lib.countB_miss s _ hi, Lib.splitB_zero, cutL_plain c h, List.map_cons, List.map_nil, bts_list]
    · have hi : Lib.indexB s (one1 c) = (x.length : Nat) := by
        unfold Lib.indexB
        rw [h1]; exact index_at c r h2
      have hsz : s.size = x.length + 1 + r.length := by
        have : s.data.toList.length = s.size := by simp
        rw [← this, h1]; simp; omega
      have e1 : (one1 c).size = 1 := rfl
      have hr : s.extract (x.length + 1) s.size = bts r := by
        apply bts_ext
        rw [ByteArray.data_extract, Array.toList_extract, h1, hsz]
        simp [List.extract]
      have hx : s.extract 0 (x.length + 0) = bts x := by
        apply bts_ext
        rw [ByteArray.data_extract, Array.toList_extract, h1]
        simp [List.extract]
      rw [Lib.countB_hit s _ x.length (by rw [e1]; omega) hi, Nat.add_comm 1, Lib.splitB_hit _ _ _ _ _ hi, e1, hr, hx, ih (bts r) (by rw [bts_size]; omega), h1, cutL_app c r h2]
      simp [bts]
theorem splitB_len (c : UInt8) (s : ByteArray) : (cutL c s.data.toList).length = Lib.countB s (one1 c) + 1 := by
  have h1 := splitB_cut c s.size s (Nat.le_refl _)
  have h2 := Lib.splitB_all (one1 c) (Nat.le_refl 1) 0 _ s rfl
  rw [h1, List.length_map] at h2
  exact h2
theorem decDigits_fmtL : ∀ (n k : Nat), k ≤ n → Lib.decDigits k = fmtL k
  | 0, k, h => by
    have : k = 0 := by omega
    subst this
    rw [Lib.decDigits, dif_pos (by omega)]; rfl
  | n + 1, k, h => by
    rw [Lib.decDigits]
    unfold fmtL
    split
    · rename_i h10
      split
      · rename_i h0; subst h0; rfl
      · rename_i h0
        rw [decB_pos k (by omega), show k / 10 = 0 by omega, show k % 10 = k by omega]
        simp [decB]
    · rename_i h10
      rw [if_neg (by omega), decB_pos k (by omega), decDigits_fmtL n (k / 10) (by omega)]
      unfold fmtL
      rw [if_neg (by omega)]
theorem itoa_fmtL (n : Int) (h : 0 ≤ n) : (⟨(Lib.itoa n).toArray⟩ : ByteArray) = bts (fmtL n.toNat) := by
  unfold Lib.itoa
  rw [if_neg (by omega), decDigits_fmtL n.toNat n.toNat (Nat.le_refl _)]
  rfl
theorem cutL_len (c : UInt8) : ∀ l : List UInt8, (cutL c l).length ≤ l.length + 1
  | [] => by simp [cutL]
  | b :: l => by
    have ih := cutL_len c l
    unfold cutL
    split
    · simp only [List.length_cons]; omega
    · split
      · simp
      · rename_i x xs h; rw [h] at ih; simp only [List.length_cons] at ih ⊢; omega
theorem cutL_mem (c : UInt8) : ∀ {l x : List UInt8}, x ∈ cutL c l → x.length ≤ l.length
  | [], x, h => by simp only [cutL, List.mem_cons, List.not_mem_nil, or_false] at h; subst h; simp
  | b :: l, x, h => by
    unfold cutL at h
    split at h
    · rcases List.mem_cons.1 h with rfl | h
      · simp
      · have := cutL_mem c h; simp only [List.length_cons]; omega
    · split at h
      · simp only [List.mem_cons, List.not_mem_nil, or_false] at h; subst h; simp
      · rename_i y ys hy
        rcases List.mem_cons.1 h with rfl | h
        · have := cutL_mem c (l := l) (x := y) (by rw [hy]; simp)
          simp only [List.length_cons]; omega
        · have := cutL_mem c (l := l) (x := x) (by rw [hy]; simp [h])
          simp only [List.length_cons]; omega
/-- a part, by its first sign -/
theorem partF_cut (p : List UInt8) : partF p = Option.map (fun (v : Nat) => (⟨bts (Lib.cut p [58]).1, (v : Int)⟩ : Frame)) (parseU (bts (Lib.cut p [58]).2.1)) := by
  unfold partF
  rcases cut_first 58 p with h | ⟨x, r, h1, h2⟩
  · rw [cutL_plain 58 h, libcut_no 58 h]
    have : parseU (bts []) = none := by decide
    simp only [this, Option.map_none]
  · rw [h1, cutL_app 58 r h2, libcut_at 58 r h2]
    rcases cut_first 58 r with h | ⟨y, q, h3, h4⟩
    · rw [cutL_plain 58 h]
    · have hb : parseU (bts r) = none := by
        have hmem : (58 : UInt8) ∈ r := by rw [h3]; simp
        obtain ⟨i, hi, he⟩ := List.mem_iff_getElem.1 hmem
        have hi' : i < (bts r).size := by rw [bts_size]; exact hi
        refine parseU_bad hi' ?_
        have : (bts r)[i]! = 58 := by
          rw [getElem!_pos _ i hi', ← he]
          simp only [bts]
          rfl
        rw [this]; decide
      rw [hb, Option.map_none, h3, cutL_app 58 q h4]
      have := cutL_ne 58 q
      generalize cutL 58 q = z at this ⊢
      match z, this with
      | a :: z, _ => rfl
end Go.Proofs.YtklcphbgaeiegaaGreatDoor

