/-
  DERIVED. Several texts of ours in one: VtPrL, VtPrM, VtShare, VtRow, VtTabP, VtSortT, VtTabS, VtTabI, VpTab2, VtTablesL, VcY, VtPrR.
-/
import Derived.Test.YtklcphbgaeiegaaGreatDoorVq0
import Derived.Test.YtklcphbgaeiegaaGreatDoorVq1
import Derived.Test.YtklcphbgaeiegaaGreatDoorVq2
import Derived.Test.YtklcphbgaeiegaaGreatDoorVq3
import Derived.Test.YtklcphbgaeiegaaGreatDoorVq4
import Derived.Test.YtklcphbgaeiegaaGreatDoorVq5
import Derived.Test.YtklcphbgaeiegaaGreatDoorVq6
import Derived.Test.YtklcphbgaeiegaaGreatDoorVq7
import Derived.Test.YtklcphbgaeiegaaGreatDoorVq8
import Derived.Test.YtklcphbgaeiegaaGreatDoorVq9
import Derived.Test.YtklcphbgaeiegaaGreatDoorVr10
import Derived.Shelf.Small.Strs
import Derived.Deep.Strs
import Derived.Lib.SmallJoins
set_option linter.unusedSimpArgs false
set_option linter.unusedVariables false
namespace Go.Proofs.YtklcphbgaeiegaaGreatDoor
open Go.Vc
attribute [local go_sem] St.runR St.runW St.stepV offV St.step St.stepU St.stepG mkCond guardB St.prK St.pr St.prLen St.eff St.callE St.callD St.callF St.callL aI aB aS aR aC St.isM St.argL Ctr.pure Ctr.lend Ctr.move Ctr.isL Ctr.wri pur len lentBy St.lentV St.lent1 nthS argsR restOf obsR pairs swapL unObs backL St.resL erL SV.ren1 SV.up SV.up2 Ob.up St.fzL cellIds partIds St.intoRow SV.ownId St.fz SV.fz1 St.prep St.mvL St.mv SV.re1 rnOk St.prEq vals eqCells scEq Value.kd St.prStr St.prCut cutR St.bnd St.prMin St.bld isShift outL retL outJ oR oC St.ev St.get St.put St.new St.kill SV.kill SV.kill1 Ob.kill St.app St.wrt St.rowsOf St.res St.killL lk er argsL SV.strip SV.need SV.share SV.share1 SV.owns SV.owns1 SV.owns2 SV.good SV.good1 SV.rok SV.rok1 SV.rok2 SV.isV SV.isV2 nodupN SV.cells SV.one SV.pur Ob.pb partsIn rowsIn splice cellsAt dstOk scal2 scal1 thenK blockK retK outK outs okC okL okA okT nilC nilL nilA nilT keepC keepL keepA keepT St.runG St.dltK St.least St.clean St.final St.hide offK badS badO SV.refs SV.leaf SV.leaf2 Ob.refs dlOk fpAt Go.Vc.cover tups SV.ofAgg St.out outC subL St.has rng wr Value.oneCell' Option.isSome_some Option.isSome_none List.nil_append Bool.false_eq_true List.map_cons List.map_nil List.all_cons List.all_nil List.length_cons List.length_nil List.drop_zero List.drop_succ_cons List.take_succ_cons List.take_zero List.drop_nil List.take_nil List.getElem?_cons_zero List.getElem?_cons_succ List.getElem?_nil List.cons_append List.nil_append List.append_nil List.append_assoc List.flatMap_cons List.flatMap_nil List.contains_cons List.contains_nil List.set_cons_zero List.set_cons_succ List.getElem?_toArray Option.getD_some Option.getD_none Option.map_some Option.map_none Option.bind_some Option.some.injEq Prod.mk.injEq if_true if_false true_and and_true and_self and_false false_and Bool.and_false Bool.false_and Bool.or_true Bool.true_or Bool.or_false Bool.false_or ne_eq not_true_eq_false not_false_eq_true decide_true decide_false List.mem_cons List.not_mem_nil List.filter_cons List.filter_nil List.any_cons List.any_nil List.isEmpty_nil List.isEmpty_cons Option.getD_none or_false false_or true_or or_true forall_eq_or_imp forall_eq reduceCtorEq exists_eq exists_eq' exists_eq_left' exists_eq_left exists_eq_right exists_eq_right' imp_self implies_true Bool.and_true Bool.true_and Bool.and_self beq_self_eq_true List.replicate_succ List.replicate_zero forall_const false_implies pickB_or pickB_and beqT beqF Int.toNat_natCast List.length_map List.length_replicate ge_iff_le gt_iff_lt decide_eq_true_eq decide_eq_false_iff_not Bool.and_eq_true Bool.or_eq_true Bool.not_eq_true' Bool.not_eq_false' condG List.toList_toArray Bool.or_eq_false_iff Bool.and_eq_false_iff Int.not_lt Int.not_le beq_iff_eq beq_eq_false_iff_ne bne_iff_ne bne_eq_false_iff_eq ne_eq Bool.not_true Bool.not_false exists_and_left
section
open Go.Vc
set_option linter.unusedSimpArgs false
set_option linter.unusedVariables false
set_option maxHeartbeats 1000000
set_option maxRecDepth 10000
attribute [local irreducible] Go.Vc.WP
attribute [local go_sem] cx0_t cx0_c
attribute [local go_sem] decNode_enc decFrame_enc oneFrame_enc stkA oneFrame_ab oneNode_abc decI_enc prA encI_inj
theorem szGo_neg : ∀ (l : List Nat) (r : Int), 0 ≤ r → szGo l r < 0 → szGo l r = -1
  | [], r, h, h2 => by unfold szGo at h2 ⊢; omega
  | n :: l, r, h, h2 => by
    unfold szGo at h2 ⊢
    split
    · rfl
    · rename_i h3
      rw [if_neg h3] at h2
      exact szGo_neg l _ (by omega) h2
theorem szGo_le1 : ∀ (l : List Nat) (r : Int), -1 ≤ r → szGo l r ≤ r
  | [], r, h => Int.le_refl _
  | n :: l, r, h => by
    unfold szGo
    split
    · omega
    · have := szGo_le1 l (r - n) (by omega)
      omega
theorem szvNode_neg {N : List Node} {l : Int} (h0 : 0 ≤ l) (h : szvNode N l < 0) : szvNode N l = -1 := by
  unfold szvNode at h ⊢
  split
  · rfl
  · rename_i h2
    rw [if_neg h2] at h
    exact szGo_neg _ _ (by omega) h
theorem szvNode_le {N : List Node} {l : Int} (h0 : 0 ≤ l) : szvNode N l ≤ l := by
  unfold szvNode
  split
  · omega
  · have := szGo_le1 (sizesNode N) (l - N.length) (by omega)
    omega
theorem szvNode_ok' {N : List Node} {l : Int} (hl : l ≤ 1048576) (h : ¬ szvNode N l < 0) : N.length ≤ 1048576 ∧ ∀ x ∈ N, x.name.size ≤ 1048576 := by
  unfold szvNode at h
  split at h
  · omega
  · rename_i h2
    refine ⟨by omega, fun x hx => ?_⟩
    have := szGo_ok (sizesNode N) _ (by omega) (Int.not_lt.1 h) x.name.size (List.mem_map.2 ⟨x, hx, rfl⟩)
    omega
def kszI : Ctr := pur (fun args => (decI (aR args 0), aI args 1)) (fun x => [.sl 1 (x.1.map encI), .v (.int .i64 x.2)]) (fun x => x.1.length ≤ maxLen ∧ 0 ≤ x.2 ∧ x.2 ≤ 1048576)
  (fun _ x => .v (.int .i64 (if x.2 - x.1.length < 0 then -1 else x.2 - x.1.length))) (fun _ _ => [])
section
noncomputable def cxSzI : Cx := { P := Tryz.prog, tys := tys, C := [], hty := tysOk, hC := COk.nil _ }
theorem cxSzI_t : cxSzI.tys = tys := rfl
theorem cxSzI_c : cxSzI.C = [] := rfl
attribute [local go_sem] cxSzI_t cxSzI_c 
theorem cszI : Cn Tryz.prog 99 kszI := by
  refine Cn.pur Tryz.func99 (by kernel_rfl) rfl fun d x hx => ?_
  obtain ⟨L, left⟩ := x
  obtain ⟨hL, h0, h1⟩ := hx
  simp only at hL h0 h1 ⊢
  have hm : maxLen = 9223372036854775807 := rfl
  refine Holds.go (c := cxSzI) Tryz.func99 rfl Tryz.results99 Tryz.ntmps99 (by omega) (by simp) rfl ?_
  intro X0 w0
  (repeat' (first | refine WP.seq ?_ | refine WP.block ?_ | ((first | refine WP.region ?_ | refine WP.condW ?_ | refine WP.ret ?_ | refine WP.exit ?_ | refine WP.skip ?_); simp only [go_sem, tyAll, Nat.reduceAdd, Nat.reduceLT, Nat.reduceLeDiff, Nat.reduceEqDiff, Nat.reduceMul, Nat.reduceSub, Nat.reduceGT, reduceIte, Int.reduceNeg, Int.reduceToNat]) |  refine And.intro ?_ ?_ | intro _))
  all_goals first | omega | skip
  · rename_i h; rw [if_pos h]
  · rename_i h; rw [if_neg (by omega)]
end
def kszStk : Ctr := pur (fun args => (stkA args 0, aI args 1)) (fun x => [.agg [.sl 3 (x.1.map encNode)], .v (.int .i64 x.2)]) (fun x => x.1.length ≤ maxLen ∧ (∀ r ∈ x.1, r.name.size ≤ maxLen) ∧ 0 ≤ x.2 ∧ x.2 ≤ 1048576)
  (fun _ x => .v (.int .i64 (szvNode x.1 x.2))) (fun _ _ => [])
section
noncomputable def cxSzStk : Cx := { P := Tryz.prog, tys := tys, C := [(147, kszNodeS)], hty := tysOk, hC := COk.cons cszNodeS (COk.nil _) }
theorem cxSzStk_t : cxSzStk.tys = tys := rfl
theorem cxSzStk_c : cxSzStk.C = [(147, kszNodeS)] := rfl
attribute [local go_sem] cxSzStk_t cxSzStk_c kszNodeS
theorem cszStk : Cn Tryz.prog 98 kszStk := by
  refine Cn.pur Tryz.func98 (by kernel_rfl) rfl fun d x hx => ?_
  obtain ⟨N, left⟩ := x
  obtain ⟨hN, hs, h0, h1⟩ := hx
  simp only at hN hs h0 h1 ⊢
  refine Holds.go (c := cxSzStk) Tryz.func98 rfl Tryz.results98 Tryz.ntmps98 (by omega) (by simp) rfl ?_
  intro X0 w0
  (repeat' (first | refine WP.seq ?_ | refine WP.block ?_ | ((first | refine WP.region ?_ | refine WP.condW ?_ | refine WP.ret ?_ | refine WP.exit ?_ | refine WP.skip ?_); simp only [go_sem, tyAll, Nat.reduceAdd, Nat.reduceLT, Nat.reduceLeDiff, Nat.reduceEqDiff, Nat.reduceMul, Nat.reduceSub, Nat.reduceGT, reduceIte, Int.reduceNeg, Int.reduceToNat]) |  refine And.intro ?_ ?_ | intro _))
  all_goals first | omega | exact hs _ ‹_› | skip
  · rename_i h; rw [szvNode_neg h0 h]
end
def szvPr (x : List Node × List Int) (l : Int) : Int := if szvNode x.1 l < 0 then -1 else if szvNode x.1 l - x.2.length < 0 then -1 else szvNode x.1 l - x.2.length
theorem szvPr_le {x : List Node × List Int} {l : Int} (h0 : 0 ≤ l) : szvPr x l ≤ l := by
  have := szvNode_le (N := x.1) h0
  unfold szvPr
  split
  · omega
  · split <;> omega
theorem szvPr_neg {x : List Node × List Int} {l : Int} (h : szvPr x l < 0) : szvPr x l = -1 := by
  unfold szvPr at h ⊢
  split
  · rfl
  · split
    · rfl
    · rename_i h1 h2; rw [if_neg h1, if_neg h2] at h; omega
theorem szvPr_ok {x : List Node × List Int} {l : Int} (hl : l ≤ 1048576) (h : ¬ szvPr x l < 0) : (x.1.length ≤ 1048576 ∧ ∀ n ∈ x.1, n.name.size ≤ 1048576) ∧ x.2.length ≤ 1048576 := by
  unfold szvPr at h
  split at h
  · omega
  · rename_i h1
    refine ⟨szvNode_ok' hl h1, ?_⟩
    split at h
    · omega
    · by_cases h0 : 0 ≤ l
      · have := szvNode_le (N := x.1) h0
        omega
      · exfalso
        apply h1
        unfold szvNode
        rw [if_pos (by omega)]; omega
def wfM (x : List Node × List Int) : Prop := x.1.length ≤ maxLen ∧ (∀ r ∈ x.1, r.name.size ≤ maxLen) ∧ x.2.length ≤ maxLen
def kszPr : Ctr := pur (fun args => (prA args 0, aI args 1)) (fun x => [.agg [.sl 3 (x.1.1.map encNode), .sl 1 (x.1.2.map encI)], .v (.int .i64 x.2)]) (fun x => wfM x.1 ∧ 0 ≤ x.2 ∧ x.2 ≤ 1048576)
  (fun _ x => .v (.int .i64 (szvPr x.1 x.2))) (fun _ _ => [])
section
noncomputable def cxSzPr : Cx := { P := Tryz.prog, tys := tys, C := [(98, kszStk), (99, kszI)], hty := tysOk, hC := COk.cons cszStk (COk.cons cszI (COk.nil _)) }
theorem cxSzPr_t : cxSzPr.tys = tys := rfl
theorem cxSzPr_c : cxSzPr.C = [(98, kszStk), (99, kszI)] := rfl
attribute [local go_sem] cxSzPr_t cxSzPr_c kszStk kszI
theorem cszPr : Cn Tryz.prog 41 kszPr := by
  refine Cn.pur Tryz.func41 (by kernel_rfl) rfl fun d x hx => ?_
  obtain ⟨⟨N, C⟩, left⟩ := x
  obtain ⟨⟨hN, hs, hC⟩, h0, h1⟩ := hx
  simp only at hN hs hC h0 h1 ⊢
  have hle := szvNode_le (N := N) h0
  refine Holds.go (c := cxSzPr) Tryz.func41 rfl Tryz.results41 Tryz.ntmps41 (by omega) (by simp) rfl ?_
  intro X0 w0
  (repeat' (first | refine WP.seq ?_ | refine WP.block ?_ | ((first | refine WP.region ?_ | refine WP.condW ?_ | refine WP.ret ?_ | refine WP.exit ?_ | refine WP.skip ?_); simp only [go_sem, tyAll, Nat.reduceAdd, Nat.reduceLT, Nat.reduceLeDiff, Nat.reduceEqDiff, Nat.reduceMul, Nat.reduceSub, Nat.reduceGT, reduceIte, Int.reduceNeg, Int.reduceToNat]) |  refine And.intro ?_ ?_ | intro _))
  all_goals first | omega | exact hs _ ‹_› | skip
  · rename_i h; rw [szvPr, if_pos h]
  · rename_i h g
    rw [szvPr, if_neg (Int.not_lt.2 h)]
    split
    · rfl
    · rename_i h5
      have h6 : ¬ (szvNode N left - (C.length : Int) < 0) := h5
      rw [if_neg h6] at g
      exact absurd g h6
  · rename_i h g
    rw [szvPr, if_neg (Int.not_lt.2 h)]
end
def ktoStk : Ctr := pur (fun args => stkA args 0) (fun N => [.agg [.sl 3 (N.map encNode)]]) (fun N => N.length ≤ 2097152) (fun d _ => .agg [.own d]) (fun d N => [(d, .sl 157 3 (N.map encNode))])
section
noncomputable def cxToStk : Cx := { P := Tryz.prog, tys := tys, C := [(148, ktoNodeS)], hty := tysOk, hC := COk.cons ctoNodeS (COk.nil _) }
theorem cxToStk_t : cxToStk.tys = tys := rfl
theorem cxToStk_c : cxToStk.C = [(148, ktoNodeS)] := rfl
attribute [local go_sem] cxToStk_t cxToStk_c ktoNodeS
theorem ctoStk : Cn Tryz.prog 100 ktoStk := by
  refine Cn.pur Tryz.func100 (by kernel_rfl) rfl fun d x hx => ?_
  refine Holds.go (c := cxToStk) Tryz.func100 rfl Tryz.results100 Tryz.ntmps100 (by omega) (by simp) rfl ?_
  intro X0 w0
  (repeat' (first | refine WP.seq ?_ | refine WP.block ?_ | ((first | refine WP.region ?_ | refine WP.condW ?_ | refine WP.ret ?_ | refine WP.exit ?_ | refine WP.skip ?_); simp only [go_sem, tyAll, Nat.reduceAdd, Nat.reduceLT, Nat.reduceLeDiff, Nat.reduceEqDiff, Nat.reduceMul, Nat.reduceSub, Nat.reduceGT, reduceIte, Int.reduceNeg, Int.reduceToNat]) |  refine And.intro ?_ ?_ | intro _))
  all_goals first | omega | exact ⟨_, _, _, rfl⟩ | exact ⟨_, _, rfl, _, _, rfl, rfl⟩ | skip
end
def ktoPr : Ctr := pur (fun args => prA args 0) (fun x => [.agg [.sl 3 (x.1.map encNode), .sl 1 (x.2.map encI)]]) (fun x => x.1.length ≤ 2097152 ∧ x.2.length ≤ 2097152) (fun d _ => .agg [.own d, .own (d + 1000)]) (fun d x => [(d, .sl 157 3 (x.1.map encNode)), (d + 1000, .sl 3 1 (x.2.map encI))])
section
noncomputable def cxToPr : Cx := { P := Tryz.prog, tys := tys, C := [(100, ktoStk), (101, k15)], hty := tysOk, hC := COk.cons ctoStk (COk.cons c15 (COk.nil _)) }
theorem cxToPr_t : cxToPr.tys = tys := rfl
theorem cxToPr_c : cxToPr.C = [(100, ktoStk), (101, k15)] := rfl
attribute [local go_sem] cxToPr_t cxToPr_c ktoStk k15
theorem ctoPr : Cn Tryz.prog 43 ktoPr := by
  refine Cn.pur Tryz.func43 (by kernel_rfl) rfl fun d x hx => ?_
  obtain ⟨N, C⟩ := x
  obtain ⟨hN, hC⟩ := hx
  simp only at hN hC ⊢
  refine Holds.go (c := cxToPr) Tryz.func43 rfl Tryz.results43 Tryz.ntmps43 (by omega) (by simp) rfl ?_
  intro X0 w0
  (repeat' (first | refine WP.seq ?_ | refine WP.block ?_ | ((first | refine WP.region ?_ | refine WP.condW ?_ | refine WP.ret ?_ | refine WP.exit ?_ | refine WP.skip ?_); simp only [go_sem, tyAll, Nat.reduceAdd, Nat.reduceLT, Nat.reduceLeDiff, Nat.reduceEqDiff, Nat.reduceMul, Nat.reduceSub, Nat.reduceGT, reduceIte, Int.reduceNeg, Int.reduceToNat]) |  refine And.intro ?_ ?_ | intro _))
  all_goals first | omega | exact ⟨_, _, _, rfl⟩ | exact ⟨_, _, rfl, _, _, rfl, rfl⟩ | (rw [if_neg (by omega)]) | skip
end
def keqStk : Ctr := pur (fun args => (stkA args 0, stkA args 1)) (fun x => [.agg [.sl 3 (x.1.map encNode)], .agg [.sl 3 (x.2.map encNode)]]) (fun x => x.1.length ≤ 4398046511104) (fun _ x => .v (.bool (decide (x.1 = x.2)))) (fun _ _ => [])
section
noncomputable def cxEqStk : Cx := { P := Tryz.prog, tys := tys, C := [(149, keqNodeS)], hty := tysOk, hC := COk.cons ceqNodeS (COk.nil _) }
theorem cxEqStk_t : cxEqStk.tys = tys := rfl
theorem cxEqStk_c : cxEqStk.C = [(149, keqNodeS)] := rfl
attribute [local go_sem] cxEqStk_t cxEqStk_c keqNodeS
theorem ceqStk : Cn Tryz.prog 102 keqStk := by
  refine Cn.pur Tryz.func102 (by kernel_rfl) rfl fun d x hx => ?_
  obtain ⟨N, M⟩ := x
  simp only at hx ⊢
  refine Holds.go (c := cxEqStk) Tryz.func102 rfl Tryz.results102 Tryz.ntmps102 (by omega) (by simp) rfl ?_
  intro X0 w0
  (repeat' (first | refine WP.seq ?_ | refine WP.block ?_ | ((first | refine WP.region ?_ | refine WP.condW ?_ | refine WP.ret ?_ | refine WP.exit ?_ | refine WP.skip ?_); simp only [go_sem, tyAll, Nat.reduceAdd, Nat.reduceLT, Nat.reduceLeDiff, Nat.reduceEqDiff, Nat.reduceMul, Nat.reduceSub, Nat.reduceGT, reduceIte, Int.reduceNeg, Int.reduceToNat]) |  refine And.intro ?_ ?_ | intro _))
  all_goals first | omega | simp_all | skip
end
def keqPr : Ctr := pur (fun args => (prA args 0, prA args 1)) (fun x => [.agg [.sl 3 (x.1.1.map encNode), .sl 1 (x.1.2.map encI)], .agg [.sl 3 (x.2.1.map encNode), .sl 1 (x.2.2.map encI)]]) (fun x => x.1.1.length ≤ 4398046511104 ∧ x.1.2.length ≤ 4398046511104)
  (fun _ x => .v (.bool (decide (x.1 = x.2)))) (fun _ _ => [])
section
noncomputable def cxEqPr : Cx := { P := Tryz.prog, tys := tys, C := [(102, keqStk), (103, k17)], hty := tysOk, hC := COk.cons ceqStk (COk.cons c17 (COk.nil _)) }
theorem cxEqPr_t : cxEqPr.tys = tys := rfl
theorem cxEqPr_c : cxEqPr.C = [(102, keqStk), (103, k17)] := rfl
attribute [local go_sem] cxEqPr_t cxEqPr_c keqStk k17
theorem ceqPr : Cn Tryz.prog 44 keqPr := by
  refine Cn.pur Tryz.func44 (by kernel_rfl) rfl fun d x hx => ?_
  obtain ⟨⟨N, C⟩, ⟨M, D⟩⟩ := x
  simp only at hx ⊢
  refine Holds.go (c := cxEqPr) Tryz.func44 rfl Tryz.results44 Tryz.ntmps44 (by omega) (by simp) rfl ?_
  intro X0 w0
  (repeat' (first | refine WP.seq ?_ | refine WP.block ?_ | ((first | refine WP.region ?_ | refine WP.condW ?_ | refine WP.ret ?_ | refine WP.exit ?_ | refine WP.skip ?_); simp only [go_sem, tyAll, Nat.reduceAdd, Nat.reduceLT, Nat.reduceLeDiff, Nat.reduceEqDiff, Nat.reduceMul, Nat.reduceSub, Nat.reduceGT, reduceIte, Int.reduceNeg, Int.reduceToNat]) |  refine And.intro ?_ ?_ | intro _))
  all_goals first | omega | simp_all | skip
end
end
section
open Go.Vc
set_option linter.unusedSimpArgs false
set_option linter.unusedVariables false
set_option maxHeartbeats 1000000
set_option maxRecDepth 10000
attribute [local irreducible] Go.Vc.WP
attribute [local go_sem] cx0_t cx0_c
attribute [local go_sem] isV_Node isV_It decNode_enc decFrame_enc oneFrame_enc stkA oneFrame_ab oneNode_abc decI_enc prA encI_inj
def kmarkStk : Ctr := len [0] [] (fun args obs => (decNode (oR obs 1000000), aI args 1)) (fun x => [.agg [.own 1000000], .v (.int .i64 x.2)]) (fun x => [(1000000, .sl 157 3 (x.1.map encNode))]) (fun x => x.1.length ≤ 4398046511104 ∧ 0 ≤ x.2 ∧ x.2 ≤ 100000000000000)
  (fun _ x => .v (.int .i64 (x.2 + 3 * x.1.length))) (fun _ _ => []) (fun x => [(1000000, .sl 157 3 ((marksNode x.2 x.1.length).map encNode))])
section
noncomputable def cxMkStk : Cx := { P := Tryz.prog, tys := tys, C := [(150, kmarkNodeS)], hty := tysOk, hC := COk.cons cmarkNodeS (COk.nil _) }
theorem cxMkStk_t : cxMkStk.tys = tys := rfl
theorem cxMkStk_c : cxMkStk.C = [(150, kmarkNodeS)] := rfl
attribute [local go_sem] cxMkStk_t cxMkStk_c kmarkNodeS
theorem cmarkStk : Cn Tryz.prog 104 kmarkStk := by
  refine Cn.len Tryz.func104 (by kernel_rfl) rfl fun d x hd hx => ?_
  obtain ⟨L, k0⟩ := x
  obtain ⟨hL, h0, h1⟩ := hx
  simp only at hL h0 h1 ⊢
  refine HoldsL.go (c := cxMkStk) Tryz.func104 rfl Tryz.results104 Tryz.ntmps104 (by omega) (by simp) rfl (by simp <;> omega) (by simp [SV.owns2, SV.owns, SV.owns1]) (by simp) rfl rfl (by simp) ?_
  intro X0 M w0
  (repeat' (first | refine WP.seq ?_ | refine WP.block ?_ | ((first | refine WP.region ?_ | refine WP.condW ?_ | refine WP.ret ?_ | refine WP.exit ?_ | refine WP.skip ?_); simp only [go_sem, tyAll, Nat.reduceAdd, Nat.reduceLT, Nat.reduceLeDiff, Nat.reduceEqDiff, Nat.reduceMul, Nat.reduceSub, Nat.reduceGT, reduceIte, Int.reduceNeg, Int.reduceToNat]) |  refine And.intro ?_ ?_ | intro _))
  all_goals first | omega | skip
end
def kheldStk : Ctr := pur (fun args => (stkA args 0, aI args 1)) (fun x => [.agg [.sl 3 (x.1.map encNode)], .v (.int .i64 x.2)]) (fun x => x.1.length ≤ 4398046511104 ∧ 0 ≤ x.2 ∧ x.2 ≤ 100000000000000)
  (fun _ x => .v (.int .i64 (if x.1 = marksNode x.2 x.1.length then x.2 + 3 * x.1.length else -1))) (fun _ _ => [])
section
noncomputable def cxHeStk : Cx := { P := Tryz.prog, tys := tys, C := [(151, kheldNodeS)], hty := tysOk, hC := COk.cons cheldNodeS (COk.nil _) }
theorem cxHeStk_t : cxHeStk.tys = tys := rfl
theorem cxHeStk_c : cxHeStk.C = [(151, kheldNodeS)] := rfl
attribute [local go_sem] cxHeStk_t cxHeStk_c kheldNodeS
theorem cheldStk : Cn Tryz.prog 106 kheldStk := by
  refine Cn.pur Tryz.func106 (by kernel_rfl) rfl fun d x hx => ?_
  obtain ⟨L, k0⟩ := x
  obtain ⟨hL, h0, h1⟩ := hx
  simp only at hL h0 h1 ⊢
  refine Holds.go (c := cxHeStk) Tryz.func106 rfl Tryz.results106 Tryz.ntmps106 (by omega) (by simp) rfl ?_
  intro X0 w0
  (repeat' (first | refine WP.seq ?_ | refine WP.block ?_ | ((first | refine WP.region ?_ | refine WP.condW ?_ | refine WP.ret ?_ | refine WP.exit ?_ | refine WP.skip ?_); simp only [go_sem, tyAll, Nat.reduceAdd, Nat.reduceLT, Nat.reduceLeDiff, Nat.reduceEqDiff, Nat.reduceMul, Nat.reduceSub, Nat.reduceGT, reduceIte, Int.reduceNeg, Int.reduceToNat]) |  refine And.intro ?_ ?_ | intro _))
  all_goals first | omega | skip
  · rename_i h
    by_cases he : L = marksNode k0 L.length
    · rw [if_pos he] at h; omega
    · rw [if_neg he]
end
def kmarkPr : Ctr := len [0] [] (fun args obs => ((decNode (oR obs 1000000), decI (oR obs 1000001)), aI args 1)) (fun x => [.agg [.own 1000000, .own 1000001], .v (.int .i64 x.2)])
  (fun x => [(1000000, .sl 157 3 (x.1.1.map encNode)), (1000001, .sl 3 1 (x.1.2.map encI))]) (fun x => x.1.1.length ≤ 4398046511104 ∧ x.1.2.length ≤ 4398046511104 ∧ 0 ≤ x.2 ∧ x.2 ≤ 10000000000000)
  (fun _ x => .v (.int .i64 (x.2 + 3 * x.1.1.length + x.1.2.length))) (fun _ _ => []) (fun x => [(1000000, .sl 157 3 ((marksNode x.2 x.1.1.length).map encNode)), (1000001, .sl 3 1 ((marksI (x.2 + 3 * x.1.1.length) x.1.2.length).map encI))])
section
noncomputable def cxMkPr : Cx := { P := Tryz.prog, tys := tys, C := [(104, kmarkStk), (105, k18)], hty := tysOk, hC := COk.cons cmarkStk (COk.cons c18 (COk.nil _)) }
theorem cxMkPr_t : cxMkPr.tys = tys := rfl
theorem cxMkPr_c : cxMkPr.C = [(104, kmarkStk), (105, k18)] := rfl
attribute [local go_sem] cxMkPr_t cxMkPr_c kmarkStk k18
theorem cmarkPr : Cn Tryz.prog 45 kmarkPr := by
  refine Cn.len Tryz.func45 (by kernel_rfl) rfl fun d x hd hx => ?_
  obtain ⟨⟨N, C⟩, k0⟩ := x
  obtain ⟨hN, hC, h0, h1⟩ := hx
  simp only at hN hC h0 h1 ⊢
  refine HoldsL.go (c := cxMkPr) Tryz.func45 rfl Tryz.results45 Tryz.ntmps45 (by omega) (by simp) rfl (by simp <;> omega) (by simp [SV.owns2, SV.owns, SV.owns1]) (by simp) rfl rfl (by simp) ?_
  intro X0 M w0
  (repeat' (first | refine WP.seq ?_ | refine WP.block ?_ | ((first | refine WP.region ?_ | refine WP.condW ?_ | refine WP.ret ?_ | refine WP.exit ?_ | refine WP.skip ?_); simp only [go_sem, tyAll, Nat.reduceAdd, Nat.reduceLT, Nat.reduceLeDiff, Nat.reduceEqDiff, Nat.reduceMul, Nat.reduceSub, Nat.reduceGT, reduceIte, Int.reduceNeg, Int.reduceToNat]) |  refine And.intro ?_ ?_ | intro _))
  all_goals first | omega | skip
end
def kheldPr : Ctr := pur (fun args => (prA args 0, aI args 1)) (fun x => [.agg [.sl 3 (x.1.1.map encNode), .sl 1 (x.1.2.map encI)], .v (.int .i64 x.2)]) (fun x => x.1.1.length ≤ 4398046511104 ∧ x.1.2.length ≤ 4398046511104 ∧ 0 ≤ x.2 ∧ x.2 ≤ 10000000000000)
  (fun _ x => .v (.int .i64 (if x.1.1 = marksNode x.2 x.1.1.length ∧ x.1.2 = marksI (x.2 + 3 * x.1.1.length) x.1.2.length then x.2 + 3 * x.1.1.length + x.1.2.length else -1))) (fun _ _ => [])
section
noncomputable def cxHePr : Cx := { P := Tryz.prog, tys := tys, C := [(106, kheldStk), (107, k19)], hty := tysOk, hC := COk.cons cheldStk (COk.cons c19 (COk.nil _)) }
theorem cxHePr_t : cxHePr.tys = tys := rfl
theorem cxHePr_c : cxHePr.C = [(106, kheldStk), (107, k19)] := rfl
attribute [local go_sem] cxHePr_t cxHePr_c kheldStk k19
theorem cheldPr : Cn Tryz.prog 46 kheldPr := by
  refine Cn.pur Tryz.func46 (by kernel_rfl) rfl fun d x hx => ?_
  obtain ⟨⟨N, C⟩, k0⟩ := x
  obtain ⟨hN, hC, h0, h1⟩ := hx
  simp only at hN hC h0 h1 ⊢
  refine Holds.go (c := cxHePr) Tryz.func46 rfl Tryz.results46 Tryz.ntmps46 (by omega) (by simp) rfl ?_
  intro X0 w0
  by_cases he : N = marksNode k0 N.length
  · by_cases hf : C = marksI (k0 + 3 * N.length) C.length
    · (repeat' (first | refine WP.seq ?_ | refine WP.block ?_ | ((first | refine WP.region ?_ | refine WP.condW ?_ | refine WP.ret ?_ | refine WP.exit ?_ | refine WP.skip ?_); simp only [go_sem, if_pos he, if_pos hf, tyAll, Nat.reduceAdd, Nat.reduceLT, Nat.reduceLeDiff, Nat.reduceEqDiff, Nat.reduceMul, Nat.reduceSub, Nat.reduceGT, reduceIte, Int.reduceNeg, Int.reduceToNat]) |  refine And.intro ?_ ?_ | intro _))
      all_goals first | omega | skip
      all_goals rw [if_pos ⟨he, hf⟩]
    · (repeat' (first | refine WP.seq ?_ | refine WP.block ?_ | ((first | refine WP.region ?_ | refine WP.condW ?_ | refine WP.ret ?_ | refine WP.exit ?_ | refine WP.skip ?_); simp only [go_sem, if_pos he, if_neg hf, tyAll, Nat.reduceAdd, Nat.reduceLT, Nat.reduceLeDiff, Nat.reduceEqDiff, Nat.reduceMul, Nat.reduceSub, Nat.reduceGT, reduceIte, Int.reduceNeg, Int.reduceToNat]) |  refine And.intro ?_ ?_ | intro _))
      all_goals first | omega | skip
      all_goals rw [if_neg fun h => hf h.2]
  · (repeat' (first | refine WP.seq ?_ | refine WP.block ?_ | ((first | refine WP.region ?_ | refine WP.condW ?_ | refine WP.ret ?_ | refine WP.exit ?_ | refine WP.skip ?_); simp only [go_sem, if_neg he, tyAll, Nat.reduceAdd, Nat.reduceLT, Nat.reduceLeDiff, Nat.reduceEqDiff, Nat.reduceMul, Nat.reduceSub, Nat.reduceGT, reduceIte, Int.reduceNeg, Int.reduceToNat]) |  refine And.intro ?_ ?_ | intro _))
    all_goals first | omega | skip
    all_goals rw [if_neg fun h => he h.1]
end
end
section
open Go.Vc
set_option linter.unusedSimpArgs false
set_option linter.unusedVariables false
set_option maxHeartbeats 1000000
set_option maxRecDepth 10000
attribute [local irreducible] Go.Vc.WP
attribute [local go_sem] cx0_t cx0_c
attribute [local go_sem] isV_Node isV_It isV_Entry decNode_enc decFrame_enc oneFrame_enc stkA oneFrame_ab oneNode_abc decI_enc decS_enc aU prA decEntry_enc St.fzS addL behind encI_inj
theorem sumE_take_le {E : List Entry} (h : ∀ e ∈ E, 0 ≤ e.count) (k : Nat) : 0 ≤ sumE (E.take k) ∧ sumE (E.take k) ≤ sumE E := by
  have h1 : sumE E = sumE (E.take k) + sumE (E.drop k) := by
    unfold sumE; rw [← List.sum_append, ← List.map_append, List.take_append_drop]
  have h2 : 0 ≤ sumE (E.drop k) := sum_nonneg fun x hx => by
    obtain ⟨e, he, rfl⟩ := List.mem_map.1 hx
    exact h e (List.mem_of_mem_drop he)
  have h3 : 0 ≤ sumE (E.take k) := sum_nonneg fun x hx => by
    obtain ⟨e, he, rfl⟩ := List.mem_map.1 hx
    exact h e (List.mem_of_mem_take he)
  omega
theorem ent_pos {N : List Node} {C : List Int} : ∀ e ∈ entriesOf N C, 0 ≤ e.count := fun e he => by obtain ⟨_, k, _, _, _, h, _⟩ := entriesOf_mem he; omega
theorem keep_sum (N : List Node) (C : List Int) (p : Entry → Bool) (k : Nat) : 0 ≤ sumE (((entriesOf N C).take k).filter p) ∧ sumE (((entriesOf N C).take k).filter p) ≤ totalOf N C := by
  obtain ⟨h1, h2⟩ := sumE_take_le (E := entriesOf N C) ent_pos k
  obtain ⟨h3, h4⟩ := sum_filter_le (p := p) (L := (entriesOf N C).take k) fun e he => ent_pos e (List.mem_of_mem_take he)
  rw [sumE_entries] at h2
  omega
theorem tdiv_rng {a b : Int} (h0 : 0 ≤ a) (h1 : a ≤ 1000000000000000) (hb : 0 < b) : 0 ≤ Int.tdiv a b ∧ Int.tdiv a b ≤ 1000000000000000 := by
  rw [Int.tdiv_eq_ediv_of_nonneg h0]
  exact ⟨Int.ediv_nonneg h0 (by omega), Int.le_trans (Int.ediv_le_self _ h0) h1⟩
def shareOf (N : List Node) (C : List Int) (s : ByteArray) : Int := if totalOf N C = 0 then 0 else Int.tdiv (1000 * sumE ((entriesOf N C).filter (keepS s true))) (totalOf N C)
theorem allV_NodeY (L : List Node) : allV (L.map encNode) := allV_map (fun x c hc => by
  simp only [encNode, List.mem_cons, List.not_mem_nil, or_false] at hc
  rcases hc with rfl | rfl | rfl <;> exact ⟨_, rfl⟩) L
theorem allV_IY (L : List Int) : allV (L.map encI) := allV_map (fun x c hc => by
  simp only [encI, List.mem_cons, List.not_mem_nil, or_false] at hc
  exact ⟨_, hc⟩) L
def kFocZ : Ctr := pur (fun args => (prA args 0, aS args 1)) (fun x => [.agg [.sl 3 (x.1.1.map encNode), .sl 1 (x.1.2.map encI)], .v (.string x.2)])
  (fun x => (x.1.1.length ≤ 1048576 ∧ ∀ n ∈ x.1.1, n.name.size ≤ 1048576) ∧ x.1.2.length ≤ 1048576)
  (fun _ x => .agg [.sl 3 ((mapP (pick x.2 true) x.1.1 x.1.2).1.map encNode), .sl 1 ((mapP (pick x.2 true) x.1.1 x.1.2).2.map encI)]) (fun _ _ => [])
theorem cFocZ : Cn Tryz.prog 40 kFocZ := Cn.frozenA (fun x => allV_NodeY _) (fun x => allV_IY _) cFocS
def kShare : Ctr := pur (fun args => (prA args 0, aS args 1)) (fun x => [.agg [.sl 3 (x.1.1.map encNode), .sl 1 (x.1.2.map encI)], .v (.string x.2)])
  (fun x => (x.1.1.length ≤ 1048576 ∧ ∀ n ∈ x.1.1, n.name.size ≤ 1048576) ∧ x.1.2.length ≤ 1048576) (fun _ x => .v (.int .i64 (shareOf x.1.1 x.1.2 x.2))) (fun _ _ => [])
section
noncomputable def cxShS : Cx := { P := Tryz.prog, tys := tys, C := [(15, kTotal), (40, kFocZ)], hty := tysOk, hC := COk.cons cTotalS (COk.cons cFocZ (COk.nil _)) }
theorem cxShS_t : cxShS.tys = tys := rfl
theorem cxShS_c : cxShS.C = [(15, kTotal), (40, kFocZ)] := rfl
attribute [local go_sem] cxShS_t cxShS_c kTotal kFocZ
end
section
noncomputable def cxShI : Cx := { P := Tryz.prog, tys := tys, C := [(72, kTotal), (57, kEntZ), (73, kParseZ), (74, kNamed)], hty := tysOk, hC := COk.cons cTotalI (COk.cons cEntZI (COk.cons cParseZI (COk.cons cNamed (COk.nil _)))) }
theorem cxShI_t : cxShI.tys = tys := rfl
theorem cxShI_c : cxShI.C = [(72, kTotal), (57, kEntZ), (73, kParseZ), (74, kNamed)] := rfl
attribute [local go_sem] cxShI_t cxShI_c kTotal kEntZ kParseZ kNamed
theorem cShareI : Cn Tryz.prog 22 kShare := by
  refine Cn.pur Tryz.func22 (by kernel_rfl) rfl fun d x hx => ?_
  obtain ⟨⟨N, C⟩, s⟩ := x
  obtain ⟨⟨hN, hs⟩, hC⟩ := hx
  simp only at hN hs hC ⊢
  have htb := totalOf_bound N C
  have hlen := entriesOf_len N C
  refine Holds.go (c := cxShI) Tryz.func22 rfl Tryz.results22 Tryz.ntmps22 (by omega) (by simp) rfl ?_
  intro X0 w0
  by_cases h0 : totalOf N C = 0
  · have hr : shareOf N C s = 0 := if_pos h0
    (repeat' (first | refine WP.seq ?_ | refine WP.block ?_ | ((first | refine WP.region ?_ | refine WP.condW ?_ | refine WP.ret ?_ | refine WP.exit ?_ | refine WP.skip ?_); simp only [go_sem, h0, hr, tyAll, Nat.reduceAdd, Nat.reduceLT, Nat.reduceLeDiff, Nat.reduceEqDiff, Nat.reduceMul, Nat.reduceSub, Nat.reduceGT, reduceIte, Int.reduceNeg, Int.reduceToNat]) |  refine And.intro ?_ ?_ | intro _))
    all_goals first | omega | (simp only; omega) | exact Nat.le_trans (hs _ ‹_›) (by omega) | skip
    all_goals trace_state
  have hr : shareOf N C s = Int.tdiv (1000 * sumE ((entriesOf N C).filter (keepS s true))) (totalOf N C) := if_neg h0
  rw [hr]
  (repeat' (first | refine WP.seq ?_ | refine WP.block ?_ | ((first | refine WP.region ?_ | refine WP.condW ?_ | refine WP.ret ?_ | refine WP.exit ?_ | refine WP.skip ?_); simp only [go_sem, h0, tyAll, Nat.reduceAdd, Nat.reduceLT, Nat.reduceLeDiff, Nat.reduceEqDiff, Nat.reduceMul, Nat.reduceSub, Nat.reduceGT, reduceIte, Int.reduceNeg, Int.reduceToNat]) |  refine And.intro ?_ ?_ | intro _))
  all_goals first | omega | (simp only; omega) | exact Nat.le_trans (hs _ ‹_›) (by omega) | skip
  refine WP.loop (fun k : Nat => ⟨[(1, .v (.string s)), (5, .v (.int .i64 (totalOf N C))), (6, .v (.int .i64 (sumE (((entriesOf N C).take k).filter (keepS s true))))), (16, .sl 2 ((entriesOf N C).map encEntry)), (17, .v (.int .i64 (entriesOf N C).length)), (18, .v (.int .i64 k))], []⟩)
    (fun k => k ≤ (entriesOf N C).length) (fun k => (entriesOf N C).length - k) 0 (by simp) ?_ ?_
  · (simp only [go_sem, tyAll, Nat.reduceAdd, Nat.reduceLT, Nat.reduceLeDiff, Nat.reduceEqDiff, Nat.reduceMul, Nat.reduceSub, Nat.reduceGT, reduceIte, Int.reduceNeg, Int.reduceToNat] <;> (first | rfl | exact ⟨rfl, rfl⟩ | exact ⟨rfl, rfl, rfl⟩ | exact ⟨rfl, rfl, rfl, rfl⟩ | exact ⟨rfl, rfl, rfl, rfl, rfl⟩ | exact ⟨⟨rfl, rfl⟩, rfl⟩ | simp))
  intro k hk
  have hsb := keep_sum N C (keepS s true) k
  by_cases hlt : k < (entriesOf N C).length
  · have hli : (k : Int) < (entriesOf N C).length := by omega
    have h1 := rowAt_map encEntry (entriesOf N C) k hlt
    have hm := List.getElem_mem hlt
    obtain ⟨z1, z2, z3⟩ := ent_sizes hN hm
    have hsu := fl_succ (keepS s true) hlt
    have hsb' := keep_sum N C (keepS s true) (k + 1)
    have hfr : (parseF (entriesOf N C)[k].stack).getD [] = frsE (entriesOf N C)[k] := rfl
    cases hq : keepS s true (entriesOf N C)[k] with
    | true =>
      have hq' : 0 ≤ idxF s (frsE (entriesOf N C)[k]) := by simpa [keepS] using hq
      rw [hq, if_pos rfl] at hsu
      have hse : sumE (((entriesOf N C).take (k + 1)).filter (keepS s true)) = sumE (((entriesOf N C).take k).filter (keepS s true)) + (entriesOf N C)[k].count := by
        rw [hsu]; unfold sumE; rw [List.map_append, List.sum_append]; simp
      rw [hse] at hsb'
      (repeat' (first | refine WP.seq ?_ | refine WP.block ?_ | ((first | refine WP.region ?_ | refine WP.condW ?_ | refine WP.ret ?_ | refine WP.exit ?_ | refine WP.skip ?_); simp only [go_sem, hli, h1, encEntry, hfr, hq', tyAll, Nat.reduceAdd, Nat.reduceLT, Nat.reduceLeDiff, Nat.reduceEqDiff, Nat.reduceMul, Nat.reduceSub, Nat.reduceGT, reduceIte, Int.reduceNeg, Int.reduceToNat]) |  refine And.intro ?_ ?_ | intro _))
      all_goals first | omega | (simp only; omega) | exact ⟨_, _, _, rfl⟩ | skip
      all_goals first | exact ⟨k + 1, by omega, by omega, by simp only [hse]; (first | rfl | exact ⟨rfl, rfl⟩ | exact ⟨rfl, rfl, rfl⟩ | exact ⟨rfl, rfl, rfl, rfl⟩ | exact ⟨rfl, rfl, rfl, rfl, rfl⟩ | exact ⟨⟨rfl, rfl⟩, rfl⟩ | simp)⟩ | trace_state
    | false =>
      have hq' : ¬ 0 ≤ idxF s (frsE (entriesOf N C)[k]) := by simpa [keepS] using hq
      rw [hq, if_neg (by simp), List.append_nil] at hsu
      (repeat' (first | refine WP.seq ?_ | refine WP.block ?_ | ((first | refine WP.region ?_ | refine WP.condW ?_ | refine WP.ret ?_ | refine WP.exit ?_ | refine WP.skip ?_); simp only [go_sem, hli, h1, encEntry, hfr, hq', tyAll, Nat.reduceAdd, Nat.reduceLT, Nat.reduceLeDiff, Nat.reduceEqDiff, Nat.reduceMul, Nat.reduceSub, Nat.reduceGT, reduceIte, Int.reduceNeg, Int.reduceToNat]) |  refine And.intro ?_ ?_ | intro _))
      all_goals first | omega | (simp only; omega) | exact ⟨_, _, _, rfl⟩ | skip
      all_goals first | exact ⟨k + 1, by omega, by omega, by simp only [hsu]; (first | rfl | exact ⟨rfl, rfl⟩ | exact ⟨rfl, rfl, rfl⟩ | exact ⟨rfl, rfl, rfl, rfl⟩ | exact ⟨rfl, rfl, rfl, rfl, rfl⟩ | exact ⟨⟨rfl, rfl⟩, rfl⟩ | simp)⟩ | trace_state
  · have hge : ¬ (k : Int) < (entriesOf N C).length := by omega
    have hke : k = (entriesOf N C).length := by omega
    subst hke
    rw [List.take_length] at hsb ⊢
    have hdv := tdiv_rng (a := 1000 * sumE ((entriesOf N C).filter (keepS s true))) (b := totalOf N C) (by omega) (by omega) (by omega)
    (repeat' (first | refine WP.seq ?_ | refine WP.block ?_ | ((first | refine WP.region ?_ | refine WP.condW ?_ | refine WP.ret ?_ | refine WP.exit ?_ | refine WP.skip ?_); simp only [go_sem, hge, tyAll, Nat.reduceAdd, Nat.reduceLT, Nat.reduceLeDiff, Nat.reduceEqDiff, Nat.reduceMul, Nat.reduceSub, Nat.reduceGT, reduceIte, Int.reduceNeg, Int.reduceToNat]) |  refine And.intro ?_ ?_ | intro _))
    all_goals first | omega | skip
    all_goals trace_state
end
section
attribute [local go_sem] kszPr ktoPr keqPr kShare
end
end
section
open Go.Vc
set_option linter.unusedSimpArgs false
set_option linter.unusedVariables false
set_option maxHeartbeats 1000000
set_option maxRecDepth 10000
attribute [local irreducible] Go.Vc.WP
attribute [local go_sem] cx0_t cx0_c


def kRowOf1 : Ctr := pur (fun args => (oneTableRow (aC args 0), capS args 1)) (fun x => [.agg (encTableRow x.1), .rptr 1 [[.v (.string x.2)]] 0 0]) (fun _ => True) (fun _ x => .v (.bool (rowHit x.2 x.1))) (fun _ _ => [])
theorem cRowOf1 : Cn Tryz.prog 65 kRowOf1 := by
  refine Cn.pur Tryz.func65 (by kernel_rfl) rfl fun d x _ => ?_
  obtain ⟨x, s⟩ := x
  refine Holds.go (c := cx0) Tryz.func65 rfl Tryz.results65 Tryz.ntmps65 (by omega) (by simp) rfl ?_
  intro X0 w0
  have hr : Go.Vc.rowAt [[SV.v (Value.string s)]] 0 = [SV.v (Value.string s)] := rfl
  simp only [encTableRow]
  (repeat' (first | refine WP.seq ?_ | refine WP.block ?_ | ((first | refine WP.region ?_ | refine WP.condW ?_ | refine WP.ret ?_ | refine WP.exit ?_ | refine WP.skip ?_); simp only [go_sem, hr, rowHit, tyAll, Nat.reduceAdd, Nat.reduceLT, Nat.reduceLeDiff, Nat.reduceEqDiff, Nat.reduceMul, Nat.reduceSub, Nat.reduceGT, reduceIte, Int.reduceNeg, Int.reduceToNat]) |  refine And.intro ?_ ?_ | intro _))
  all_goals first | omega | skip
noncomputable def cxR1 : Cx := { P := Tryz.prog, tys := tys, C := [(65, kRowOf1)], hty := tysOk, hC := COk.cons cRowOf1 (COk.nil _) }
theorem cxR1_t : cxR1.tys = tys := rfl
theorem cxR1_c : cxR1.C = [(65, kRowOf1)] := rfl
def kIdxRow : Ctr := pur (fun args => (decTableRow (aR args 0), capS args 1)) (fun x => [.sl 3 (x.1.map encTableRow), .fn 65 [.rptr 1 [[.v (.string x.2)]] 0 0]]) (fun x => x.1.length ≤ 4398046511104)
  (fun _ x => .v (.int .i64 (firstIdx (rowHit x.2) x.1))) (fun _ _ => [])
attribute [local go_sem] cxR1_t cxR1_c kRowOf1 oneTableRow capS
theorem cIdxRow : Cn Tryz.prog 64 kIdxRow := by
  refine Cn.pur Tryz.func64 (by kernel_rfl) rfl fun d x hL => ?_
  obtain ⟨L, s⟩ := x
  simp only at hL ⊢
  refine Holds.go (c := cxR1) Tryz.func64 rfl Tryz.results64 Tryz.ntmps64 (by omega) (by simp) rfl ?_
  intro X0 w0
  (repeat' (first | refine WP.seq ?_ | refine WP.block ?_ | ((first | refine WP.region ?_ | refine WP.condW ?_ | refine WP.ret ?_ | refine WP.exit ?_ | refine WP.skip ?_); simp only [go_sem, tyAll, Nat.reduceAdd, Nat.reduceLT, Nat.reduceLeDiff, Nat.reduceEqDiff, Nat.reduceMul, Nat.reduceSub, Nat.reduceGT, reduceIte, Int.reduceNeg, Int.reduceToNat]) |  refine And.intro ?_ ?_ | intro _))
  refine WP.loop (fun k : Nat => ⟨[(0, .sl 3 (L.map encTableRow)), (1, .fn 65 [.rptr 1 [[.v (.string s)]] 0 0]), (7, .v (.int .i64 L.length)), (8, .v (.int .i64 k))], []⟩)
    (fun k => k ≤ L.length ∧ ∀ i (hi : i < L.length), i < k → rowHit s L[i] = false) (fun k => L.length - k) 0 (by simp) ?_ ?_
  · simp only [go_sem, tyAll, Nat.reduceAdd, Nat.reduceLT, Nat.reduceLeDiff, Nat.reduceEqDiff, Nat.reduceMul, Nat.reduceSub, Nat.reduceGT, reduceIte, Int.reduceNeg, Int.reduceToNat]; first | exact ⟨rfl, rfl⟩ | rfl
  intro k ⟨hk, hf⟩
  by_cases hlt : k < L.length
  · have h1 := rowAt_map encTableRow L k hlt
    (repeat' (first | refine WP.seq ?_ | refine WP.block ?_ | ((first | refine WP.region ?_ | refine WP.condW ?_ | refine WP.ret ?_ | refine WP.exit ?_ | refine WP.skip ?_); simp only [go_sem, h1, encTableRow, tyAll, Nat.reduceAdd, Nat.reduceLT, Nat.reduceLeDiff, Nat.reduceEqDiff, Nat.reduceMul, Nat.reduceSub, Nat.reduceGT, reduceIte, Int.reduceNeg, Int.reduceToNat]) |  refine And.intro ?_ ?_ | intro _))
    all_goals first | omega | skip
    · rename_i hh
      rw [firstIdx_hit (p := rowHit s) hlt hf (by first | exact hh | simpa [rowHit] using hh)]
    · rename_i hh
      refine ⟨k + 1, ⟨by omega, fun i hi hik => ?_⟩, by omega, rfl⟩
      rcases Nat.lt_or_ge i k with h | h
      · exact hf i hi h
      · have : i = k := by omega
        subst this
        first | exact hh | simpa [rowHit] using hh
  · (repeat' (first | refine WP.seq ?_ | refine WP.block ?_ | ((first | refine WP.region ?_ | refine WP.condW ?_ | refine WP.ret ?_ | refine WP.exit ?_ | refine WP.skip ?_); simp only [go_sem, tyAll, Nat.reduceAdd, Nat.reduceLT, Nat.reduceLeDiff, Nat.reduceEqDiff, Nat.reduceMul, Nat.reduceSub, Nat.reduceGT, reduceIte, Int.reduceNeg, Int.reduceToNat]) |  refine And.intro ?_ ?_ | intro _))
    all_goals first | omega | skip
    rw [firstIdx_none fun i hi => hf i hi (by omega)]

def kRowOf : Ctr := pur (fun args => (decTableRow (aR args 0), aS args 1)) (fun x => [.sl 3 (x.1.map encTableRow), .v (.string x.2)]) (fun x => x.1.length ≤ 4398046511104) (fun _ x => .v (.int .i64 (firstIdx (rowHit x.2) x.1))) (fun _ _ => [])
noncomputable def cxR2 : Cx := { P := Tryz.prog, tys := tys, C := [(64, kIdxRow)], hty := tysOk, hC := COk.cons cIdxRow (COk.nil _) }
theorem cxR2_t : cxR2.tys = tys := rfl
theorem cxR2_c : cxR2.C = [(64, kIdxRow)] := rfl
attribute [local go_sem] cxR2_t cxR2_c kIdxRow decTableRow_enc
theorem cRowOfI : Cn Tryz.prog 16 kRowOf := by
  refine Cn.pur Tryz.func16 (by kernel_rfl) rfl fun d x hL => ?_
  obtain ⟨L, s⟩ := x
  simp only at hL ⊢
  refine Holds.go (c := cxR2) Tryz.func16 rfl Tryz.results16 Tryz.ntmps16 (by omega) (by simp) rfl ?_
  intro X0 w0
  (repeat' (first | refine WP.seq ?_ | refine WP.block ?_ | ((first | refine WP.region ?_ | refine WP.condW ?_ | refine WP.ret ?_ | refine WP.exit ?_ | refine WP.skip ?_); simp only [go_sem, tyAll, Nat.reduceAdd, Nat.reduceLT, Nat.reduceLeDiff, Nat.reduceEqDiff, Nat.reduceMul, Nat.reduceSub, Nat.reduceGT, reduceIte, Int.reduceNeg, Int.reduceToNat]) |  refine And.intro ?_ ?_ | intro _))
  all_goals first | omega | skip
attribute [local go_sem] kszTableRowS ktoTableRowS keqTableRowS kRowOf isV_TableRow
end
end Go.Proofs.YtklcphbgaeiegaaGreatDoor
/-
  DERIVED. Plain lists: one step of a table's rows as cells.
-/
namespace Go.Proofs.YtklcphbgaeiegaaGreatDoor
open Go.Vc Go.Pl
set_option linter.unusedVariables false
theorem tab_row {L : List TableRow} {p : Nat} (hp : p < L.length) : Go.Vc.rowAt (L.map encTableRow) p = encTableRow (L.getD p default) := by
  rw [rowAt_map encTableRow L p hp, List.getD_eq_getElem?_getD, List.getElem?_eq_getElem hp]; rfl
theorem tab_set (L : List TableRow) (p : Nat) (g : TableRow → TableRow) : (L.map encTableRow).set p (encTableRow (g (L.getD p default))) = (setAt L p g).map encTableRow := by
  unfold setAt; rw [← List.map_set]
theorem setAt_get {L : List TableRow} {p : Nat} (hp : p < L.length) (g : TableRow → TableRow) : (setAt L p g).getD p default = g (L.getD p default) := by
  unfold setAt
  rw [List.getD_eq_getElem?_getD, List.getElem?_set, if_pos rfl]
  simp [hp]
theorem idx_first {ns : List ByteArray} {i : Nat} (hi : i < ns.length) : (firstIdx (strIs ns[i]) ns = (i : Int)) = (ns[i] ∉ ns.take i) := propext ⟨fun h hm => by
  obtain ⟨j, hj, he⟩ := List.mem_take_iff_getElem.1 hm
  have hlt : j < i := by omega
  obtain ⟨q, hq, h1, h2⟩ := firstIdx_pos (p := strIs ns[i]) (L := ns) (by omega)
  have hqi : q = i := by omega
  subst hqi
  unfold firstIdx at h
  split at h
  · rename_i z hz
    have hzi : z = q := by omega
    subst hzi
    have := (List.findIdx?_eq_some_iff_getElem.1 hz).2.2 j hlt
    rw [show ns[j] = ns[z] from he] at this
    simp [strIs] at this
  · omega, fun h => by
  refine firstIdx_hit hi (fun j hj hji => ?_) (by simp [strIs])
  have : ns[j] ≠ ns[i] := fun e => h (List.mem_take_iff_getElem.2 ⟨j, by omega, e⟩)
  simp [strIs, this]⟩
/-- what a step needs of the rows: where the name's row is, and what is in it -/
theorem tab_at (L : List TableRow) (s : ByteArray) : ∃ (L2 : List TableRow) (p : Nat) (r : TableRow), rowAdd L s = L2 ∧ rowPos L s = p ∧ p < L2.length ∧ L2.getD p default = r ∧ r.name = s := ⟨_, _, _, rfl, rfl, (rowPos_lt L s).1, rfl, (rowPos_lt L s).2⟩
theorem rowAdd_new {L : List TableRow} {s : ByteArray} (h : firstIdx (rowHit s) L < 0) : (L.map encTableRow ++ [[SV.v (.string s), SV.v (.int .i64 0), SV.v (.int .i64 0)]]) = (rowAdd L s).map encTableRow ∧ rowPos L s = L.length := by
  unfold rowAdd rowPos
  rw [if_pos h, if_pos h, List.map_append]
  exact ⟨rfl, rfl⟩
theorem rowAdd_old {L : List TableRow} {s : ByteArray} (h : ¬ firstIdx (rowHit s) L < 0) : rowAdd L s = L ∧ firstIdx (rowHit s) L = (rowPos L s : Int) := by
  unfold rowAdd rowPos
  rw [if_neg h, if_neg h]
  exact ⟨rfl, by omega⟩
section
variable {c : Int} {ns : List ByteArray} {L L0 L2 : List TableRow} {i p : Nat}
theorem step_any (hi : i < ns.length) (h2 : rowAdd (tabK c ns L i) ns[i] = L2) (hp : rowPos (tabK c ns L i) ns[i] = p) : tabK c ns L (i + 1) = (if i + 1 = ns.length then setAt (if ns[i] ∈ ns.take i then L2 else setAt L2 p (upTot c)) p (upSelf c) else (if ns[i] ∈ ns.take i then L2 else setAt L2 p (upTot c))) := by
  have hs : ns.getD i ⟨#[]⟩ = ns[i] := by rw [List.getD_eq_getElem?_getD, List.getElem?_eq_getElem hi]; rfl
  rw [tabK]
  unfold tabStep
  simp only [hs, h2, hp]
end
theorem namesE_len {N : List Node} {C : List Int} (hN : N.length ≤ 1048576) {e : Entry} (h : e ∈ entriesOf N C) : (namesE e).length ≤ 1048576 := by
  unfold namesE; rw [List.length_map]; exact (ent_sizes hN h).2.1
theorem tabE_len {B : Nat} {E : List Entry} (h : ∀ e ∈ E, (namesE e).length ≤ B) : ∀ k, k ≤ E.length → (tabE (E.take k)).length ≤ B * k
  | 0, _ => by simp [tabE]
  | k + 1, hk => by
    have hk' : k < E.length := by omega
    have ih := tabE_len h k (by omega)
    have h1 := h _ (List.getElem_mem hk')
    have h2 := tabK_len E[k].count (namesE E[k]) (tabE (E.take k)) (namesE E[k]).length
    rw [tabE_succ hk', Nat.mul_add, Nat.mul_one]
    omega
end Go.Proofs.YtklcphbgaeiegaaGreatDoor

/-
  DERIVED. The library's sort of table rows, as the program calls it.
-/
namespace Go.Proofs.YtklcphbgaeiegaaGreatDoor
open Go.Vc Go.Pl Go.Shelf Go.RowKit Go.Lib Go.Sort
set_option linter.unusedVariables false
def cfT (x y : TableRow) : Int := if y.total < x.total then -1 else if x.total < y.total then 1 else compareBytes x.name.data.toList y.name.data.toList
theorem ltT_cf (x y : TableRow) : ltOf cfT x y = ltT x y := by
  unfold ltOf cfT ltT
  by_cases h1 : y.total < x.total
  · rw [if_pos h1]; simp [h1]
  · rw [if_neg h1]
    by_cases h2 : x.total < y.total
    · rw [if_pos h2]
      have : ¬ x.total = y.total := by omega
      simp [h1, this]
    · rw [if_neg h2]
      have : x.total = y.total := by omega
      have h3 := cmp_less x.name.data.toList y.name.data.toList
      rw [toList_data, toList_data] at h3
      unfold ltS
      simp [this, ← h3, toList_data]
theorem ltT_ntrans {a b c : TableRow} (h1 : ltT a b = false) (h2 : ltT b c = false) : ltT a c = false := by
  simp only [ltT, Bool.or_eq_false_iff, decide_eq_false_iff_not, Bool.and_eq_false_iff] at h1 h2 ⊢
  refine ⟨by omega, ?_⟩
  by_cases he : a.total = c.total
  · right
    have e1 : a.total = b.total := by omega
    have e2 : b.total = c.total := by omega
    have h3 := h1.2.resolve_left (fun h => h e1)
    have h4 := h2.2.resolve_left (fun h => h e2)
    exact ltS_ntrans h3 h4
  · left; exact he
theorem swoT : SWO (ltOf cfT) := ⟨fun x => by rw [ltT_cf]; exact ltT_strict.irrefl _, fun x y z h1 h2 => by rw [ltT_cf] at h1 h2 ⊢; exact ltT_strict.trans _ _ _ h1 h2, fun x y z h1 h2 => by rw [ltT_cf] at h1 h2 ⊢; exact ltT_ntrans h1 h2⟩
def vTableRow (x : TableRow) : List Value := [.string x.name, .int .i64 x.self, .int .i64 x.total]
set_option maxHeartbeats 1000000 in
set_option maxRecDepth 100000 in
theorem closureT (x y : TableRow) (W : World) : Calls Tryz.prog 61 #[.agg #[.string x.name, .int .i64 x.self, .int .i64 x.total], .agg #[.string y.name, .int .i64 y.self, .int .i64 y.total]] W fun e w' => e = .returned (.int .i64 (cfT x y)) ∧ ∃ q os', w' = grow (W.drewN q) os' := by
  unfold cfT
  have hcon := fun W' => Any.strings_Compare Tryz.l106 x.name y.name W'
  change ∀ W', Calls Tryz.prog 62 _ _ _ at hcon
  generalize Lib.compareBytes x.name.data.toList y.name.data.toList = r at hcon ⊢
  go_enter Tryz.func61, Tryz.ntmps61
  by_cases h1 : y.total < x.total
  · rw [if_pos h1]
    go_wp2
    go_ret
    exact ⟨rfl, 0, _, by rw [alloc_eq_grow, alloc_eq_grow, grow_grow]; rfl⟩
  rw [if_neg h1]
  by_cases h2 : x.total < y.total
  · rw [if_pos h2]
    go_wp2
    go_ret
    exact ⟨rfl, 0, _, by rw [alloc_eq_grow, alloc_eq_grow, grow_grow]; rfl⟩
  rw [if_neg h2]
  go_wp2_with (go_at_call 62; refine (hcon _).mono ?_; rintro e w' ⟨rfl, rfl⟩)
  go_ret
  exact ⟨rfl, 0, _, by rw [alloc_eq_grow, alloc_eq_grow, grow_grow]; rfl⟩
def kSortT : Ctr := len [0] [] (fun args obs => decTableRow (oR obs 1000000)) (fun x => [.own 1000000, .fn 61 []]) (fun x => [(1000000, .sl 35 3 (x.map encTableRow))])
  (fun x => x.length ≤ 1099511627776 ∧ x.Pairwise fun a b => ltT a b = true ∨ ltT b a = true) (fun _ x => .tup []) (fun _ _ => []) (fun x => [(1000000, .sl 35 3 ((insAll ltT x).map encTableRow))])
theorem cSortT : Cn Tryz.prog 60 kSortT := by
  refine Cn.len Tryz.func60 (by kernel_rfl) rfl fun d x hd hx => ?_
  have eg : ∀ args w, (callFunc 61 args).run Tryz.prog w = .ok (.enter 61 args) w := enters_of Tryz.func61 (by kernel_rfl) rfl
  have h := sortK_holdsL Tryz.lSlF06_60 3 (by omega) Tryz.isAgg35 Tryz.sizeOf35 vTableRow (fun _ => rfl) (fun x v hv => by simp [vTableRow] at hv; rcases hv with rfl | rfl | rfl <;> rfl) cfT swoT 61 eg
    (fun blk off size w _ _ _ _ x y => closureT x y _) ltT ltT_cf ltT_strict 35 x hx.1 hx.2
  rw [vrows_map vTableRow encTableRow (fun _ => rfl), vrows_map vTableRow encTableRow (fun _ => rfl)] at h
  exact h
end Go.Proofs.YtklcphbgaeiegaaGreatDoor

namespace Go.Proofs.YtklcphbgaeiegaaGreatDoor
open Go.Vc
attribute [local go_sem] St.runR St.runW St.stepV offV St.step St.stepU St.stepG mkCond guardB St.prK St.pr St.prLen St.eff St.callE St.callD St.callF St.callL aI aB aS aR aC St.isM St.argL Ctr.pure Ctr.lend Ctr.move Ctr.isL Ctr.wri pur len lentBy St.lentV St.lent1 nthS argsR restOf obsR pairs swapL unObs backL St.resL erL SV.ren1 SV.up SV.up2 Ob.up St.fzL cellIds partIds St.intoRow SV.ownId St.fz SV.fz1 St.prep St.mvL St.mv SV.re1 rnOk St.prEq vals eqCells scEq Value.kd St.prStr St.prCut cutR St.bnd St.prMin St.bld isShift outL retL outJ oR oC St.ev St.get St.put St.new St.kill SV.kill SV.kill1 Ob.kill St.app St.wrt St.rowsOf St.res St.killL lk er argsL SV.strip SV.need SV.share SV.share1 SV.owns SV.owns1 SV.owns2 SV.good SV.good1 SV.rok SV.rok1 SV.rok2 SV.isV SV.isV2 nodupN SV.cells SV.one SV.pur Ob.pb partsIn rowsIn splice cellsAt dstOk scal2 scal1 thenK blockK retK outK outs okC okL okA okT nilC nilL nilA nilT keepC keepL keepA keepT St.runG St.dltK St.least St.clean St.final St.hide offK badS badO SV.refs SV.leaf SV.leaf2 Ob.refs dlOk fpAt Go.Vc.cover tups SV.ofAgg St.out outC subL St.has rng wr Value.oneCell' Option.isSome_some Option.isSome_none List.nil_append Bool.false_eq_true List.map_cons List.map_nil List.all_cons List.all_nil List.length_cons List.length_nil List.drop_zero List.drop_succ_cons List.take_succ_cons List.take_zero List.drop_nil List.take_nil List.getElem?_cons_zero List.getElem?_cons_succ List.getElem?_nil List.cons_append List.nil_append List.append_nil List.append_assoc List.flatMap_cons List.flatMap_nil List.contains_cons List.contains_nil List.set_cons_zero List.set_cons_succ List.getElem?_toArray Option.getD_some Option.getD_none Option.map_some Option.map_none Option.bind_some Option.some.injEq Prod.mk.injEq if_true if_false true_and and_true and_self and_false false_and Bool.and_false Bool.false_and Bool.or_true Bool.true_or Bool.or_false Bool.false_or ne_eq not_true_eq_false not_false_eq_true decide_true decide_false List.mem_cons List.not_mem_nil List.filter_cons List.filter_nil List.any_cons List.any_nil List.isEmpty_nil List.isEmpty_cons Option.getD_none or_false false_or true_or or_true forall_eq_or_imp forall_eq reduceCtorEq exists_eq exists_eq' exists_eq_left' exists_eq_left exists_eq_right exists_eq_right' imp_self implies_true Bool.and_true Bool.true_and Bool.and_self beq_self_eq_true List.replicate_succ List.replicate_zero forall_const false_implies pickB_or pickB_and beqT beqF Int.toNat_natCast List.length_map List.length_replicate ge_iff_le gt_iff_lt decide_eq_true_eq decide_eq_false_iff_not Bool.and_eq_true Bool.or_eq_true Bool.not_eq_true' Bool.not_eq_false' condG List.toList_toArray Bool.or_eq_false_iff Bool.and_eq_false_iff Int.not_lt Int.not_le beq_iff_eq beq_eq_false_iff_ne bne_iff_ne bne_eq_false_iff_eq ne_eq Bool.not_true Bool.not_false exists_and_left
section
open Go.Vc
set_option linter.unusedSimpArgs false
set_option linter.unusedVariables false
set_option maxHeartbeats 1000000
set_option maxRecDepth 10000
attribute [local irreducible] Go.Vc.WP
attribute [local go_sem] cx0_t cx0_c
attribute [local go_sem] isV_Node isV_It isV_Entry isV_S isV_TableRow decNode_enc decFrame_enc decTableRow_enc oneFrame_enc stkA oneFrame_ab oneNode_abc decI_enc decS_enc aU prA decEntry_enc St.fzS addL behind
open Go.Pl
theorem take_encS (m : Nat) (L : List ByteArray) : (L.map encS).take m = (L.take m).map encS := List.map_take.symm
theorem encTableRow0 : encTableRow ⟨⟨#[]⟩, 0, 0⟩ = [.v (.string ⟨#[]⟩), .v (.int .i64 0), .v (.int .i64 0)] := rfl
def kTab : Ctr := pur (fun args => prA args 0) (fun x => [.agg [.sl 3 (x.1.map encNode), .sl 1 (x.2.map encI)]])
  (fun x => (x.1.length ≤ 1048576 ∧ ∀ n ∈ x.1, n.name.size ≤ 1048576) ∧ x.2.length ≤ 1048576) (fun d _ => .own d) (fun d x => [(d, .sl 35 3 ((tableOf x.1 x.2).map encTableRow))])
theorem rlTab {N : List TableRow} {row : List SV} (h : row ∈ N.map encTableRow) : row.length = 3 := by
  obtain ⟨x, _, rfl⟩ := List.mem_map.1 h; rfl
section
attribute [local go_sem] kEntZ kNamesZ kRowOf kIdxS
set_option maxHeartbeats 20000000 in
end
end
section
open Go.Vc
set_option linter.unusedSimpArgs false
set_option linter.unusedVariables false
set_option maxHeartbeats 1000000
set_option maxRecDepth 10000
attribute [local irreducible] Go.Vc.WP
attribute [local go_sem] cx0_t cx0_c
def fle4b2322f61 : List Go.Vc.Fp := [⟨[3], [], [], [], [], []⟩, ⟨[9], [], [], [], [], []⟩, ⟨[49, 50], [0, 1], [], [], [], []⟩, ⟨[51], [0, 1, 2], [], [], [], []⟩, ⟨[52], [0, 1, 2, 3], [], [], [], []⟩, ⟨[5], [], [], [], [], []⟩, ⟨[54], [5], [], [], [], []⟩, ⟨[], [0, 1, 2, 3, 4, 5, 6], [], [], [], []⟩, ⟨[], [0, 1, 2, 3, 4, 5, 6, 7], [], [], [], []⟩, ⟨[], [0, 1, 2, 3, 4, 5, 6, 7, 8], [], [], [], []⟩, ⟨[], [0, 1, 2, 3, 4, 5, 6, 7, 8, 9], [], [], [], []⟩]
def fl7a6a7c0218 : List Go.Vc.Fp := [⟨[3], [], [], [], [], []⟩, ⟨[9], [], [], [], [], []⟩, ⟨[64, 65], [0, 1], [], [], [], []⟩, ⟨[66], [0, 1, 2], [], [], [], []⟩, ⟨[67], [0, 1, 2, 3], [], [], [], []⟩, ⟨[5], [], [], [], [], []⟩, ⟨[69], [5], [], [], [], []⟩, ⟨[], [0, 1, 2, 3, 4, 5, 6], [], [], [], []⟩, ⟨[], [0, 1, 2, 3, 4, 5, 6, 7], [], [], [], []⟩, ⟨[], [0, 1, 2, 3, 4, 5, 6, 7, 8], [], [], [], []⟩, ⟨[], [0, 1, 2, 3, 4, 5, 6, 7, 8, 9], [], [], [], []⟩]
attribute [local go_sem] fle4b2322f61 fl7a6a7c0218
attribute [local go_sem] isV_Node isV_It isV_Entry isV_S isV_TableRow decNode_enc decFrame_enc decTableRow_enc oneFrame_enc stkA oneFrame_ab oneNode_abc decI_enc decS_enc aU prA decEntry_enc St.fzS addL behind
open Go.Pl

section
noncomputable def cxTbI : Cx := { P := Tryz.prog, tys := tys, C := [(56, kPrOk), (57, kEntZ), (58, kNamesZ), (16, kRowOf), (59, kHasS), (60, kSortT)], hty := tysOk, hC := COk.cons cPrOkI (COk.cons cEntZI (COk.cons cNamesI (COk.cons cRowOfI (COk.cons cHasS (COk.cons cSortT (COk.nil _)))))) }
theorem cxTbI_t : cxTbI.tys = tys := rfl
theorem cxTbI_c : cxTbI.C = [(56, kPrOk), (57, kEntZ), (58, kNamesZ), (16, kRowOf), (59, kHasS), (60, kSortT)] := rfl
attribute [local go_sem] cxTbI_t cxTbI_c kPrOk kEntZ kNamesZ kRowOf kHasS kSortT
set_option maxHeartbeats 20000000 in
theorem cTabI : Cn Tryz.prog 14 kTab := by
  refine Cn.pur Tryz.func14 (by kernel_rfl) rfl fun d x hx => ?_
  obtain ⟨N, C⟩ := x
  obtain ⟨⟨hN, hs⟩, hC⟩ := hx
  simp only at hN hs hC ⊢
  have hlen := entriesOf_len N C
  refine Holds.go (c := cxTbI) Tryz.func14 rfl Tryz.results14 Tryz.ntmps14 (by omega) (by simp) rfl ?_
  intro X0 w0
  cases hok : profileOk N C with
  | false =>
    have h0 : tableOf N C = [] := by unfold tableOf entriesOf; rw [if_neg (by rw [hok]; simp)]; rfl
    (repeat' (first | refine WP.seq ?_ | refine WP.block ?_ | ((first | refine WP.region ?_ | refine WP.condW ?_ | refine WP.ret ?_ | refine WP.exit ?_ | refine WP.skip ?_); simp only [go_sem, hok, h0, tyAll, Nat.reduceAdd, Nat.reduceLT, Nat.reduceLeDiff, Nat.reduceEqDiff, Nat.reduceMul, Nat.reduceSub, Nat.reduceGT, reduceIte, Int.reduceNeg, Int.reduceToNat]) | ((first | refine WP.flowW 7 fle4b2322f61 [49, 50, 51, 52, 53, 54, 55] [] [] (by decide +kernel) (by kernel_rfl) (by kernel_rfl) (by kernel_rfl) ?_ | refine WP.flowW 7 fl7a6a7c0218 [64, 65, 66, 67, 68, 69, 70] [] [] (by decide +kernel) (by kernel_rfl) (by kernel_rfl) (by kernel_rfl) ?_); simp only [go_sem, hok, h0, tyAll, Nat.reduceAdd, Nat.reduceLT, Nat.reduceLeDiff, Nat.reduceEqDiff, Nat.reduceMul, Nat.reduceSub, Nat.reduceGT, reduceIte, Int.reduceNeg, Int.reduceToNat]) |  refine And.intro ?_ ?_ | intro _))
    all_goals first | omega | (simp only; omega) | exact Nat.le_trans (hs _ ‹_›) (by omega) | exact ⟨_, _, _, rfl⟩ | exact ⟨_, _, rfl⟩ | skip
    all_goals trace_state
  | true =>
  (repeat' (first | refine WP.seq ?_ | refine WP.block ?_ | ((first | refine WP.region ?_ | refine WP.condW ?_ | refine WP.ret ?_ | refine WP.exit ?_ | refine WP.skip ?_); simp only [go_sem, hok, tyAll, Nat.reduceAdd, Nat.reduceLT, Nat.reduceLeDiff, Nat.reduceEqDiff, Nat.reduceMul, Nat.reduceSub, Nat.reduceGT, reduceIte, Int.reduceNeg, Int.reduceToNat]) | ((first | refine WP.flowW 7 fle4b2322f61 [49, 50, 51, 52, 53, 54, 55] [] [] (by decide +kernel) (by kernel_rfl) (by kernel_rfl) (by kernel_rfl) ?_ | refine WP.flowW 7 fl7a6a7c0218 [64, 65, 66, 67, 68, 69, 70] [] [] (by decide +kernel) (by kernel_rfl) (by kernel_rfl) (by kernel_rfl) ?_); simp only [go_sem, hok, tyAll, Nat.reduceAdd, Nat.reduceLT, Nat.reduceLeDiff, Nat.reduceEqDiff, Nat.reduceMul, Nat.reduceSub, Nat.reduceGT, reduceIte, Int.reduceNeg, Int.reduceToNat]) |  refine And.intro ?_ ?_ | intro _))
  all_goals first | omega | (simp only; omega) | exact Nat.le_trans (hs _ ‹_›) (by omega) | exact ⟨_, _, _, rfl⟩ | skip
  refine WP.loop (fun k : Nat => ⟨[(3, .own 13), (15, .sl 2 ((entriesOf N C).map encEntry)), (16, .v (.int .i64 (entriesOf N C).length)), (17, .v (.int .i64 k))], [(13, .sl 35 3 ((tabE ((entriesOf N C).take k)).map encTableRow))]⟩)
    (fun k => k ≤ (entriesOf N C).length) (fun k => (entriesOf N C).length - k) 0 (by simp) ?_ ?_
  · (simp only [go_sem, tyAll, Nat.reduceAdd, Nat.reduceLT, Nat.reduceLeDiff, Nat.reduceEqDiff, Nat.reduceMul, Nat.reduceSub, Nat.reduceGT, reduceIte, Int.reduceNeg, Int.reduceToNat] <;> (first | rfl | exact ⟨rfl, rfl⟩ | exact ⟨rfl, rfl, rfl⟩ | exact ⟨rfl, rfl, rfl, rfl⟩ | exact ⟨rfl, rfl, rfl, rfl, rfl⟩ | exact ⟨⟨rfl, rfl⟩, rfl⟩ | simp))
  intro k hk
  have hTl := tabE_len (B := 1048576) (fun e he => namesE_len hN he) k hk
  have hTk : 1048576 * k ≤ 1048576 * 1048576 := Nat.mul_le_mul_left _ (by omega)
  by_cases hkl : k < (entriesOf N C).length
  · have hki : (k : Int) < (entriesOf N C).length := by omega
    have hE := rowAt_map encEntry (entriesOf N C) k hkl
    have hmem := List.getElem_mem hkl
    obtain ⟨z1, z2, z3⟩ := ent_sizes hN hmem
    have hsu := tabE_succ hkl
    have hnl := namesE_len hN hmem
    obtain ⟨hT, hS⟩ := tabE_TB (E := entriesOf N C) ent_pos k (by omega) (entriesOf N C)[k].count
    have hc := ent_pos _ hmem
    have hss := sumE_succ hkl
    have hst := (sumE_take_le (E := entriesOf N C) ent_pos (k + 1)).2
    rw [sumE_entries] at hst
    have htb := totalOf_bound N C
    have hns : (frsS (entriesOf N C)[k].stack).map (fun x => x.name) = namesE (entriesOf N C)[k] := rfl
    generalize namesE (entriesOf N C)[k] = ns at hsu hnl hns
    generalize hcE : (entriesOf N C)[k].count = c at hT hc hss hsu
    generalize tabE ((entriesOf N C).take k) = L at hT hsu hTl ⊢
    generalize sumE ((entriesOf N C).take k) = S at hT hS hss
    generalize sumE ((entriesOf N C).take (k + 1)) = S1 at hss hst
    (repeat' (first | refine WP.seq ?_ | refine WP.block ?_ | ((first | refine WP.region ?_ | refine WP.condW ?_ | refine WP.ret ?_ | refine WP.exit ?_ | refine WP.skip ?_); simp only [go_sem, hki, hE, encEntry, hns, hcE, tyAll, Nat.reduceAdd, Nat.reduceLT, Nat.reduceLeDiff, Nat.reduceEqDiff, Nat.reduceMul, Nat.reduceSub, Nat.reduceGT, reduceIte, Int.reduceNeg, Int.reduceToNat]) | ((first | refine WP.flowW 7 fle4b2322f61 [49, 50, 51, 52, 53, 54, 55] [] [] (by decide +kernel) (by kernel_rfl) (by kernel_rfl) (by kernel_rfl) ?_ | refine WP.flowW 7 fl7a6a7c0218 [64, 65, 66, 67, 68, 69, 70] [] [] (by decide +kernel) (by kernel_rfl) (by kernel_rfl) (by kernel_rfl) ?_); simp only [go_sem, hki, hE, encEntry, hns, hcE, tyAll, Nat.reduceAdd, Nat.reduceLT, Nat.reduceLeDiff, Nat.reduceEqDiff, Nat.reduceMul, Nat.reduceSub, Nat.reduceGT, reduceIte, Int.reduceNeg, Int.reduceToNat]) |  refine And.intro ?_ ?_ | intro _))
    all_goals first | omega | exact ⟨_, _, _, rfl⟩ | skip
    refine WP.loop (fun i : Nat => ⟨[(3, .own 13), (5, .ptr 5 0 0 0), (6, .sl 1 (ns.map encS)), (15, .sl 2 ((entriesOf N C).map encEntry)), (16, .v (.int .i64 (entriesOf N C).length)), (17, .v (.int .i64 k)), (24, .sl 1 (ns.map encS)), (25, .v (.int .i64 ns.length)), (26, .v (.int .i64 i))], [(5, .box 54 [.v (.string (entriesOf N C)[k].stack), .v (.int .i64 c)]), (13, .sl 35 3 ((tabK c ns L i).map encTableRow))]⟩) (fun i => i ≤ ns.length) (fun i => ns.length - i) 0 (by simp) ?_ ?_
    · (simp only [go_sem, tyAll, Nat.reduceAdd, Nat.reduceLT, Nat.reduceLeDiff, Nat.reduceEqDiff, Nat.reduceMul, Nat.reduceSub, Nat.reduceGT, reduceIte, Int.reduceNeg, Int.reduceToNat] <;> (first | rfl | exact ⟨rfl, rfl⟩ | exact ⟨rfl, rfl, rfl⟩ | exact ⟨rfl, rfl, rfl, rfl⟩ | exact ⟨rfl, rfl, rfl, rfl, rfl⟩ | exact ⟨⟨rfl, rfl⟩, rfl⟩ | simp))
    intro i hi
    by_cases hlt : i < ns.length
    · skip
      have hli : (i : Int) < ns.length := by omega
      have h1 := rowAt_map encS ns i hlt
      obtain ⟨L2, p, r, e2, ep, hp, hr, hrn⟩ := tab_at (tabK c ns L i) ns[i]
      have hstep := step_any (c := c) hlt e2 ep
      have hb := tabK_TB (ns := ns) hS hc hT i (by omega)
      rw [decide_eq_false (by omega), Bool.false_and] at hb
      have hb2 := hb.add hS hc ns[i]
      rw [e2] at hb2
      have hbr := hb2 r (by rw [← hr]; exact getD_mem hp)
      rw [hrn] at hbr
      simp only [Bool.false_eq_true, if_false] at hbr
      have hMl := tabK_len c ns L i
      have hL2l := rowAdd_len (tabK c ns L i) ns[i]
      rw [e2] at hL2l
      have hl3 : (setAt L2 p (upTot c)).length = L2.length := setAt_len _ _
      have f1 := tab_row hp
      have f2 := tab_set L2 p (upTot c)
      have f3 := tab_row (L := setAt L2 p (upTot c)) (by rw [hl3]; exact hp)
      have f4 := tab_set (setAt L2 p (upTot c)) p (upSelf c)
      have f5 := tab_set L2 p (upSelf c)
      rw [hr] at f1 f2 f5
      rw [setAt_get hp, hr] at f3 f4
      simp only [encTableRow, upTot, upSelf] at f1 f2 f3 f4 f5
      change _ = List.map encTableRow (setAt L2 p (upTot c)) at f2
      generalize tabK c ns L i = M at e2 ep hMl hL2l ⊢
      by_cases hidx : firstIdx (rowHit ns[i]) M < 0
      · obtain ⟨a1, a2⟩ := rowAdd_new hidx
        rw [e2] at a1
        rw [ep] at a2
        have a3 : ((M.length : Nat) : Int) = (p : Int) := by omega
        by_cases hm : ns[i] ∈ ns.take i
        · simp only [if_pos hm] at hstep hbr
          by_cases hl : i + 1 = ns.length
          · simp only [if_pos hl] at hstep
            have hq : ((i : Int) = (ns.length : Int) - 1) = True := eq_true (by omega)
            (repeat' (first | refine WP.seq ?_ | refine WP.block ?_ | ((first | refine WP.region ?_ | refine WP.condW ?_ | refine WP.ret ?_ | refine WP.exit ?_ | refine WP.skip ?_); simp only [go_sem, hki, hE, hcE, hli, h1, encS, encEntry, encTableRow0, hidx, a1, a3, hm, take_encS, hq, f1, f5, tyAll, Nat.reduceAdd, Nat.reduceLT, Nat.reduceLeDiff, Nat.reduceEqDiff, Nat.reduceMul, Nat.reduceSub, Nat.reduceGT, reduceIte, Int.reduceNeg, Int.reduceToNat]) | ((first | refine WP.flowW 7 fle4b2322f61 [49, 50, 51, 52, 53, 54, 55] [] [] (by decide +kernel) (by kernel_rfl) (by kernel_rfl) (by kernel_rfl) ?_ | refine WP.flowW 7 fl7a6a7c0218 [64, 65, 66, 67, 68, 69, 70] [] [] (by decide +kernel) (by kernel_rfl) (by kernel_rfl) (by kernel_rfl) ?_); simp only [go_sem, hki, hE, hcE, hli, h1, encS, encEntry, encTableRow0, hidx, a1, a3, hm, take_encS, hq, f1, f5, tyAll, Nat.reduceAdd, Nat.reduceLT, Nat.reduceLeDiff, Nat.reduceEqDiff, Nat.reduceMul, Nat.reduceSub, Nat.reduceGT, reduceIte, Int.reduceNeg, Int.reduceToNat]) |  refine And.intro ?_ ?_ | intro _))
            all_goals first | omega | exact ⟨_, _, _, rfl⟩ | (simp only [List.length_append, List.length_map, List.length_cons, List.length_nil, List.length_take]; omega) | skip
            all_goals first | exact ⟨i + 1, by omega, by omega, by simp only [hstep]; (first | rfl | exact ⟨rfl, rfl⟩ | exact ⟨rfl, rfl, rfl⟩ | exact ⟨rfl, rfl, rfl, rfl⟩ | exact ⟨rfl, rfl, rfl, rfl, rfl⟩ | exact ⟨⟨rfl, rfl⟩, rfl⟩ | simp)⟩ | trace_state
          · simp only [if_neg hl] at hstep
            have hq : ((i : Int) = (ns.length : Int) - 1) = False := eq_false (by omega)
            (repeat' (first | refine WP.seq ?_ | refine WP.block ?_ | ((first | refine WP.region ?_ | refine WP.condW ?_ | refine WP.ret ?_ | refine WP.exit ?_ | refine WP.skip ?_); simp only [go_sem, hki, hE, hcE, hli, h1, encS, encEntry, encTableRow0, hidx, a1, a3, hm, take_encS, hq, f1, tyAll, Nat.reduceAdd, Nat.reduceLT, Nat.reduceLeDiff, Nat.reduceEqDiff, Nat.reduceMul, Nat.reduceSub, Nat.reduceGT, reduceIte, Int.reduceNeg, Int.reduceToNat]) | ((first | refine WP.flowW 7 fle4b2322f61 [49, 50, 51, 52, 53, 54, 55] [] [] (by decide +kernel) (by kernel_rfl) (by kernel_rfl) (by kernel_rfl) ?_ | refine WP.flowW 7 fl7a6a7c0218 [64, 65, 66, 67, 68, 69, 70] [] [] (by decide +kernel) (by kernel_rfl) (by kernel_rfl) (by kernel_rfl) ?_); simp only [go_sem, hki, hE, hcE, hli, h1, encS, encEntry, encTableRow0, hidx, a1, a3, hm, take_encS, hq, f1, tyAll, Nat.reduceAdd, Nat.reduceLT, Nat.reduceLeDiff, Nat.reduceEqDiff, Nat.reduceMul, Nat.reduceSub, Nat.reduceGT, reduceIte, Int.reduceNeg, Int.reduceToNat]) |  refine And.intro ?_ ?_ | intro _))
            all_goals first | omega | exact ⟨_, _, _, rfl⟩ | (simp only [List.length_append, List.length_map, List.length_cons, List.length_nil, List.length_take]; omega) | skip
            all_goals first | exact ⟨i + 1, by omega, by omega, by simp only [hstep]; (first | rfl | exact ⟨rfl, rfl⟩ | exact ⟨rfl, rfl, rfl⟩ | exact ⟨rfl, rfl, rfl, rfl⟩ | exact ⟨rfl, rfl, rfl, rfl, rfl⟩ | exact ⟨⟨rfl, rfl⟩, rfl⟩ | simp)⟩ | trace_state
        · simp only [if_neg hm] at hstep hbr
          by_cases hl : i + 1 = ns.length
          · simp only [if_pos hl] at hstep
            have hq : ((i : Int) = (ns.length : Int) - 1) = True := eq_true (by omega)
            (repeat' (first | refine WP.seq ?_ | refine WP.block ?_ | ((first | refine WP.region ?_ | refine WP.condW ?_ | refine WP.ret ?_ | refine WP.exit ?_ | refine WP.skip ?_); simp only [go_sem, hki, hE, hcE, hli, h1, encS, encEntry, encTableRow0, hidx, a1, a3, hm, take_encS, hq, f1, f2, f3, f4, hl3, tyAll, Nat.reduceAdd, Nat.reduceLT, Nat.reduceLeDiff, Nat.reduceEqDiff, Nat.reduceMul, Nat.reduceSub, Nat.reduceGT, reduceIte, Int.reduceNeg, Int.reduceToNat]) | ((first | refine WP.flowW 7 fle4b2322f61 [49, 50, 51, 52, 53, 54, 55] [] [] (by decide +kernel) (by kernel_rfl) (by kernel_rfl) (by kernel_rfl) ?_ | refine WP.flowW 7 fl7a6a7c0218 [64, 65, 66, 67, 68, 69, 70] [] [] (by decide +kernel) (by kernel_rfl) (by kernel_rfl) (by kernel_rfl) ?_); simp only [go_sem, hki, hE, hcE, hli, h1, encS, encEntry, encTableRow0, hidx, a1, a3, hm, take_encS, hq, f1, f2, f3, f4, hl3, tyAll, Nat.reduceAdd, Nat.reduceLT, Nat.reduceLeDiff, Nat.reduceEqDiff, Nat.reduceMul, Nat.reduceSub, Nat.reduceGT, reduceIte, Int.reduceNeg, Int.reduceToNat]) |  refine And.intro ?_ ?_ | intro _))
            all_goals first | omega | exact ⟨_, _, _, rfl⟩ | (simp only [List.length_append, List.length_map, List.length_cons, List.length_nil, List.length_take]; omega) | skip
            all_goals first | exact ⟨i + 1, by omega, by omega, by simp only [hstep]; (first | rfl | exact ⟨rfl, rfl⟩ | exact ⟨rfl, rfl, rfl⟩ | exact ⟨rfl, rfl, rfl, rfl⟩ | exact ⟨rfl, rfl, rfl, rfl, rfl⟩ | exact ⟨⟨rfl, rfl⟩, rfl⟩ | simp)⟩ | trace_state
          · simp only [if_neg hl] at hstep
            have hq : ((i : Int) = (ns.length : Int) - 1) = False := eq_false (by omega)
            (repeat' (first | refine WP.seq ?_ | refine WP.block ?_ | ((first | refine WP.region ?_ | refine WP.condW ?_ | refine WP.ret ?_ | refine WP.exit ?_ | refine WP.skip ?_); simp only [go_sem, hki, hE, hcE, hli, h1, encS, encEntry, encTableRow0, hidx, a1, a3, hm, take_encS, hq, f1, f2, tyAll, Nat.reduceAdd, Nat.reduceLT, Nat.reduceLeDiff, Nat.reduceEqDiff, Nat.reduceMul, Nat.reduceSub, Nat.reduceGT, reduceIte, Int.reduceNeg, Int.reduceToNat]) | ((first | refine WP.flowW 7 fle4b2322f61 [49, 50, 51, 52, 53, 54, 55] [] [] (by decide +kernel) (by kernel_rfl) (by kernel_rfl) (by kernel_rfl) ?_ | refine WP.flowW 7 fl7a6a7c0218 [64, 65, 66, 67, 68, 69, 70] [] [] (by decide +kernel) (by kernel_rfl) (by kernel_rfl) (by kernel_rfl) ?_); simp only [go_sem, hki, hE, hcE, hli, h1, encS, encEntry, encTableRow0, hidx, a1, a3, hm, take_encS, hq, f1, f2, tyAll, Nat.reduceAdd, Nat.reduceLT, Nat.reduceLeDiff, Nat.reduceEqDiff, Nat.reduceMul, Nat.reduceSub, Nat.reduceGT, reduceIte, Int.reduceNeg, Int.reduceToNat]) |  refine And.intro ?_ ?_ | intro _))
            all_goals first | omega | exact ⟨_, _, _, rfl⟩ | (simp only [List.length_append, List.length_map, List.length_cons, List.length_nil, List.length_take]; omega) | skip
            all_goals first | exact ⟨i + 1, by omega, by omega, by simp only [hstep]; (first | rfl | exact ⟨rfl, rfl⟩ | exact ⟨rfl, rfl, rfl⟩ | exact ⟨rfl, rfl, rfl, rfl⟩ | exact ⟨rfl, rfl, rfl, rfl, rfl⟩ | exact ⟨⟨rfl, rfl⟩, rfl⟩ | simp)⟩ | trace_state
      · obtain ⟨b1, b2⟩ := rowAdd_old hidx
        rw [e2] at b1
        rw [ep] at b2
        subst b1
        have hpn : ¬ (p : Int) < 0 := by omega
        by_cases hm : ns[i] ∈ ns.take i
        · simp only [if_pos hm] at hstep hbr
          by_cases hl : i + 1 = ns.length
          · simp only [if_pos hl] at hstep
            have hq : ((i : Int) = (ns.length : Int) - 1) = True := eq_true (by omega)
            (repeat' (first | refine WP.seq ?_ | refine WP.block ?_ | ((first | refine WP.region ?_ | refine WP.condW ?_ | refine WP.ret ?_ | refine WP.exit ?_ | refine WP.skip ?_); simp only [go_sem, hki, hE, hcE, hli, h1, encS, encEntry, encTableRow0, b2, hpn, hm, take_encS, hq, f1, f5, tyAll, Nat.reduceAdd, Nat.reduceLT, Nat.reduceLeDiff, Nat.reduceEqDiff, Nat.reduceMul, Nat.reduceSub, Nat.reduceGT, reduceIte, Int.reduceNeg, Int.reduceToNat]) | ((first | refine WP.flowW 7 fle4b2322f61 [49, 50, 51, 52, 53, 54, 55] [] [] (by decide +kernel) (by kernel_rfl) (by kernel_rfl) (by kernel_rfl) ?_ | refine WP.flowW 7 fl7a6a7c0218 [64, 65, 66, 67, 68, 69, 70] [] [] (by decide +kernel) (by kernel_rfl) (by kernel_rfl) (by kernel_rfl) ?_); simp only [go_sem, hki, hE, hcE, hli, h1, encS, encEntry, encTableRow0, b2, hpn, hm, take_encS, hq, f1, f5, tyAll, Nat.reduceAdd, Nat.reduceLT, Nat.reduceLeDiff, Nat.reduceEqDiff, Nat.reduceMul, Nat.reduceSub, Nat.reduceGT, reduceIte, Int.reduceNeg, Int.reduceToNat]) |  refine And.intro ?_ ?_ | intro _))
            all_goals first | omega | exact ⟨_, _, _, rfl⟩ | (simp only [List.length_append, List.length_map, List.length_cons, List.length_nil, List.length_take]; omega) | skip
            all_goals first | exact ⟨i + 1, by omega, by omega, by simp only [hstep]; (first | rfl | exact ⟨rfl, rfl⟩ | exact ⟨rfl, rfl, rfl⟩ | exact ⟨rfl, rfl, rfl, rfl⟩ | exact ⟨rfl, rfl, rfl, rfl, rfl⟩ | exact ⟨⟨rfl, rfl⟩, rfl⟩ | simp)⟩ | trace_state
          · simp only [if_neg hl] at hstep
            have hq : ((i : Int) = (ns.length : Int) - 1) = False := eq_false (by omega)
            (repeat' (first | refine WP.seq ?_ | refine WP.block ?_ | ((first | refine WP.region ?_ | refine WP.condW ?_ | refine WP.ret ?_ | refine WP.exit ?_ | refine WP.skip ?_); simp only [go_sem, hki, hE, hcE, hli, h1, encS, encEntry, encTableRow0, b2, hpn, hm, take_encS, hq, f1, tyAll, Nat.reduceAdd, Nat.reduceLT, Nat.reduceLeDiff, Nat.reduceEqDiff, Nat.reduceMul, Nat.reduceSub, Nat.reduceGT, reduceIte, Int.reduceNeg, Int.reduceToNat]) | ((first | refine WP.flowW 7 fle4b2322f61 [49, 50, 51, 52, 53, 54, 55] [] [] (by decide +kernel) (by kernel_rfl) (by kernel_rfl) (by kernel_rfl) ?_ | refine WP.flowW 7 fl7a6a7c0218 [64, 65, 66, 67, 68, 69, 70] [] [] (by decide +kernel) (by kernel_rfl) (by kernel_rfl) (by kernel_rfl) ?_); simp only [go_sem, hki, hE, hcE, hli, h1, encS, encEntry, encTableRow0, b2, hpn, hm, take_encS, hq, f1, tyAll, Nat.reduceAdd, Nat.reduceLT, Nat.reduceLeDiff, Nat.reduceEqDiff, Nat.reduceMul, Nat.reduceSub, Nat.reduceGT, reduceIte, Int.reduceNeg, Int.reduceToNat]) |  refine And.intro ?_ ?_ | intro _))
            all_goals first | omega | exact ⟨_, _, _, rfl⟩ | (simp only [List.length_append, List.length_map, List.length_cons, List.length_nil, List.length_take]; omega) | skip
            all_goals first | exact ⟨i + 1, by omega, by omega, by simp only [hstep]; (first | rfl | exact ⟨rfl, rfl⟩ | exact ⟨rfl, rfl, rfl⟩ | exact ⟨rfl, rfl, rfl, rfl⟩ | exact ⟨rfl, rfl, rfl, rfl, rfl⟩ | exact ⟨⟨rfl, rfl⟩, rfl⟩ | simp)⟩ | trace_state
        · simp only [if_neg hm] at hstep hbr
          by_cases hl : i + 1 = ns.length
          · simp only [if_pos hl] at hstep
            have hq : ((i : Int) = (ns.length : Int) - 1) = True := eq_true (by omega)
            (repeat' (first | refine WP.seq ?_ | refine WP.block ?_ | ((first | refine WP.region ?_ | refine WP.condW ?_ | refine WP.ret ?_ | refine WP.exit ?_ | refine WP.skip ?_); simp only [go_sem, hki, hE, hcE, hli, h1, encS, encEntry, encTableRow0, b2, hpn, hm, take_encS, hq, f1, f2, f3, f4, hl3, tyAll, Nat.reduceAdd, Nat.reduceLT, Nat.reduceLeDiff, Nat.reduceEqDiff, Nat.reduceMul, Nat.reduceSub, Nat.reduceGT, reduceIte, Int.reduceNeg, Int.reduceToNat]) | ((first | refine WP.flowW 7 fle4b2322f61 [49, 50, 51, 52, 53, 54, 55] [] [] (by decide +kernel) (by kernel_rfl) (by kernel_rfl) (by kernel_rfl) ?_ | refine WP.flowW 7 fl7a6a7c0218 [64, 65, 66, 67, 68, 69, 70] [] [] (by decide +kernel) (by kernel_rfl) (by kernel_rfl) (by kernel_rfl) ?_); simp only [go_sem, hki, hE, hcE, hli, h1, encS, encEntry, encTableRow0, b2, hpn, hm, take_encS, hq, f1, f2, f3, f4, hl3, tyAll, Nat.reduceAdd, Nat.reduceLT, Nat.reduceLeDiff, Nat.reduceEqDiff, Nat.reduceMul, Nat.reduceSub, Nat.reduceGT, reduceIte, Int.reduceNeg, Int.reduceToNat]) |  refine And.intro ?_ ?_ | intro _))
            all_goals first | omega | exact ⟨_, _, _, rfl⟩ | (simp only [List.length_append, List.length_map, List.length_cons, List.length_nil, List.length_take]; omega) | skip
            all_goals first | exact ⟨i + 1, by omega, by omega, by simp only [hstep]; (first | rfl | exact ⟨rfl, rfl⟩ | exact ⟨rfl, rfl, rfl⟩ | exact ⟨rfl, rfl, rfl, rfl⟩ | exact ⟨rfl, rfl, rfl, rfl, rfl⟩ | exact ⟨⟨rfl, rfl⟩, rfl⟩ | simp)⟩ | trace_state
          · simp only [if_neg hl] at hstep
            have hq : ((i : Int) = (ns.length : Int) - 1) = False := eq_false (by omega)
            (repeat' (first | refine WP.seq ?_ | refine WP.block ?_ | ((first | refine WP.region ?_ | refine WP.condW ?_ | refine WP.ret ?_ | refine WP.exit ?_ | refine WP.skip ?_); simp only [go_sem, hki, hE, hcE, hli, h1, encS, encEntry, encTableRow0, b2, hpn, hm, take_encS, hq, f1, f2, tyAll, Nat.reduceAdd, Nat.reduceLT, Nat.reduceLeDiff, Nat.reduceEqDiff, Nat.reduceMul, Nat.reduceSub, Nat.reduceGT, reduceIte, Int.reduceNeg, Int.reduceToNat]) | ((first | refine WP.flowW 7 fle4b2322f61 [49, 50, 51, 52, 53, 54, 55] [] [] (by decide +kernel) (by kernel_rfl) (by kernel_rfl) (by kernel_rfl) ?_ | refine WP.flowW 7 fl7a6a7c0218 [64, 65, 66, 67, 68, 69, 70] [] [] (by decide +kernel) (by kernel_rfl) (by kernel_rfl) (by kernel_rfl) ?_); simp only [go_sem, hki, hE, hcE, hli, h1, encS, encEntry, encTableRow0, b2, hpn, hm, take_encS, hq, f1, f2, tyAll, Nat.reduceAdd, Nat.reduceLT, Nat.reduceLeDiff, Nat.reduceEqDiff, Nat.reduceMul, Nat.reduceSub, Nat.reduceGT, reduceIte, Int.reduceNeg, Int.reduceToNat]) |  refine And.intro ?_ ?_ | intro _))
            all_goals first | omega | exact ⟨_, _, _, rfl⟩ | (simp only [List.length_append, List.length_map, List.length_cons, List.length_nil, List.length_take]; omega) | skip
            all_goals first | exact ⟨i + 1, by omega, by omega, by simp only [hstep]; (first | rfl | exact ⟨rfl, rfl⟩ | exact ⟨rfl, rfl, rfl⟩ | exact ⟨rfl, rfl, rfl, rfl⟩ | exact ⟨rfl, rfl, rfl, rfl, rfl⟩ | exact ⟨⟨rfl, rfl⟩, rfl⟩ | simp)⟩ | trace_state
    · have hge : ¬ (i : Int) < ns.length := by omega
      have hie : i = ns.length := by omega
      subst hie
      (repeat' (first | refine WP.seq ?_ | refine WP.block ?_ | ((first | refine WP.region ?_ | refine WP.condW ?_ | refine WP.ret ?_ | refine WP.exit ?_ | refine WP.skip ?_); simp only [go_sem, hge, tyAll, Nat.reduceAdd, Nat.reduceLT, Nat.reduceLeDiff, Nat.reduceEqDiff, Nat.reduceMul, Nat.reduceSub, Nat.reduceGT, reduceIte, Int.reduceNeg, Int.reduceToNat]) | ((first | refine WP.flowW 7 fle4b2322f61 [49, 50, 51, 52, 53, 54, 55] [] [] (by decide +kernel) (by kernel_rfl) (by kernel_rfl) (by kernel_rfl) ?_ | refine WP.flowW 7 fl7a6a7c0218 [64, 65, 66, 67, 68, 69, 70] [] [] (by decide +kernel) (by kernel_rfl) (by kernel_rfl) (by kernel_rfl) ?_); simp only [go_sem, hge, tyAll, Nat.reduceAdd, Nat.reduceLT, Nat.reduceLeDiff, Nat.reduceEqDiff, Nat.reduceMul, Nat.reduceSub, Nat.reduceGT, reduceIte, Int.reduceNeg, Int.reduceToNat]) |  refine And.intro ?_ ?_ | intro _))
      all_goals first | omega | skip
      all_goals first | exact ⟨k + 1, by omega, by omega, by simp only [hsu]; (first | rfl | exact ⟨rfl, rfl⟩ | exact ⟨rfl, rfl, rfl⟩ | exact ⟨rfl, rfl, rfl, rfl⟩ | exact ⟨rfl, rfl, rfl, rfl, rfl⟩ | exact ⟨⟨rfl, rfl⟩, rfl⟩ | simp)⟩ | trace_state
  have hge : ¬ (k : Int) < (entriesOf N C).length := by omega
  have hke : k = (entriesOf N C).length := by omega
  subst hke
  rw [List.take_length] at hTl ⊢
  have hR : tableOf N C = insAll ltT (tabE (entriesOf N C)) := rfl
  have hpr := tabE_pair (entriesOf N C)
  have hTl2 : (tabE (entriesOf N C)).length ≤ 1099511627776 := by omega
  rw [hR]
  generalize tabE (entriesOf N C) = R at hTl2 hpr ⊢
  (repeat' (first | refine WP.seq ?_ | refine WP.block ?_ | ((first | refine WP.region ?_ | refine WP.condW ?_ | refine WP.ret ?_ | refine WP.exit ?_ | refine WP.skip ?_); simp only [go_sem, hge, tyAll, Nat.reduceAdd, Nat.reduceLT, Nat.reduceLeDiff, Nat.reduceEqDiff, Nat.reduceMul, Nat.reduceSub, Nat.reduceGT, reduceIte, Int.reduceNeg, Int.reduceToNat]) | ((first | refine WP.flowW 7 fle4b2322f61 [49, 50, 51, 52, 53, 54, 55] [] [] (by decide +kernel) (by kernel_rfl) (by kernel_rfl) (by kernel_rfl) ?_ | refine WP.flowW 7 fl7a6a7c0218 [64, 65, 66, 67, 68, 69, 70] [] [] (by decide +kernel) (by kernel_rfl) (by kernel_rfl) (by kernel_rfl) ?_); simp only [go_sem, hge, tyAll, Nat.reduceAdd, Nat.reduceLT, Nat.reduceLeDiff, Nat.reduceEqDiff, Nat.reduceMul, Nat.reduceSub, Nat.reduceGT, reduceIte, Int.reduceNeg, Int.reduceToNat]) |  refine And.intro ?_ ?_ | intro _))
  all_goals first | omega | exact hpr | exact ⟨_, _, _, rfl⟩ | skip
  all_goals trace_state
end
end
end Go.Proofs.YtklcphbgaeiegaaGreatDoor
/-
  DERIVED. Plain lists: what the rows of a table say.
-/
namespace Go.Proofs.YtklcphbgaeiegaaGreatDoor
set_option linter.unusedVariables false
set_option linter.unusedSimpArgs false
open Go.Pl
/-- a weight, summed up over rows -/
def sw (w : TableRow → Int) : List TableRow → Int
  | [] => 0
  | r :: L => w r + sw w L
theorem sw_app (w : TableRow → Int) : ∀ A B, sw w (A ++ B) = sw w A + sw w B
  | [], B => by simp [sw]
  | r :: A, B => by simp only [List.cons_append, sw]; rw [sw_app w A B]; omega
theorem sw_perm {w : TableRow → Int} {A B : List TableRow} (h : A.Perm B) : sw w A = sw w B := by
  induction h with
  | nil => rfl
  | cons x _ ih => simp only [sw]; rw [ih]
  | swap x y l => simp only [sw]; omega
  | trans _ _ h1 h2 => rw [h1, h2]
theorem sw_set {w : TableRow → Int} {x : TableRow} : ∀ {L : List TableRow} {k : Nat}, k < L.length → sw w (L.set k x) = sw w L + w x - w (L.getD k default)
  | [], k, h => absurd h (by simp)
  | r :: L, 0, _ => by simp [sw]; omega
  | r :: L, k + 1, h => by
    have hk : k < L.length := by simpa using h
    have e : (r :: L).getD (k + 1) default = L.getD k default := by simp
    rw [List.set_cons_succ, sw, sw_set hk, sw, e]; omega
theorem sw_setAt {w : TableRow → Int} {g : TableRow → TableRow} {L : List TableRow} {k : Nat} (hk : k < L.length) : sw w (setAt L k g) = sw w L + w (g (L.getD k default)) - w (L.getD k default) := by
  unfold setAt; exact sw_set hk
theorem sw_rowAdd {w : TableRow → Int} {L : List TableRow} {s : ByteArray} (h : w ⟨s, 0, 0⟩ = 0) : sw w (rowAdd L s) = sw w L := by
  unfold rowAdd
  split
  · rw [sw_app]; simp [sw, h]
  · rfl
/-- what one name adds -/
theorem sw_step {w : TableRow → Int} {c : Int} {a b : ByteArray → Int} (h0 : ∀ s, w ⟨s, 0, 0⟩ = 0) (ha : ∀ r, w (upTot c r) = w r + a r.name) (hb : ∀ r, w (upSelf c r) = w r + b r.name) (ns : List ByteArray) (L : List TableRow) (i : Nat) :
    sw w (tabStep c ns L i) = sw w L + (if ns.getD i ⟨#[]⟩ ∈ ns.take i then 0 else a (ns.getD i ⟨#[]⟩)) + (if i + 1 = ns.length then b (ns.getD i ⟨#[]⟩) else 0) := by
  obtain ⟨hk, hn⟩ := rowPos_lt L (ns.getD i ⟨#[]⟩)
  have e0 := sw_rowAdd (w := w) (L := L) (h0 (ns.getD i ⟨#[]⟩))
  have e1 := sw_setAt (w := w) (g := upTot c) hk
  have e2 := sw_setAt (w := w) (g := upSelf c) hk
  rw [ha, hn] at e1
  rw [hb, hn] at e2
  have hk2 : rowPos L (ns.getD i ⟨#[]⟩) < (setAt (rowAdd L (ns.getD i ⟨#[]⟩)) (rowPos L (ns.getD i ⟨#[]⟩)) (upTot c)).length := by rw [setAt_len]; exact hk
  have hn2 : ((setAt (rowAdd L (ns.getD i ⟨#[]⟩)) (rowPos L (ns.getD i ⟨#[]⟩)) (upTot c)).getD (rowPos L (ns.getD i ⟨#[]⟩)) default).name = ns.getD i ⟨#[]⟩ := by
    have hx : ((rowAdd L (ns.getD i ⟨#[]⟩)).getD (rowPos L (ns.getD i ⟨#[]⟩)) default).name = ns.getD i ⟨#[]⟩ := hn
    have : (setAt (rowAdd L (ns.getD i ⟨#[]⟩)) (rowPos L (ns.getD i ⟨#[]⟩)) (upTot c)).getD (rowPos L (ns.getD i ⟨#[]⟩)) default = upTot c ((rowAdd L (ns.getD i ⟨#[]⟩)).getD (rowPos L (ns.getD i ⟨#[]⟩)) default) := by
      unfold setAt
      rw [List.getD_eq_getElem?_getD, List.getElem?_set_self (by simpa using hk), Option.getD_some]
    rw [this]; exact hx
  have e3 := sw_setAt (w := w) (g := upSelf c) hk2
  rw [hb, hn2] at e3
  unfold tabStep
  simp only
  by_cases h1 : ns.getD i ⟨#[]⟩ ∈ ns.take i
  · simp only [h1, if_true]
    by_cases h2 : i + 1 = ns.length
    · simp only [h2, if_true]; omega
    · simp only [h2, if_false]; omega
  · simp only [h1, if_false]
    by_cases h2 : i + 1 = ns.length
    · simp only [h2, if_true]; omega
    · simp only [h2, if_false]; omega
def wSelf (t : ByteArray) (r : TableRow) : Int := if r.name = t then r.self else 0
def wTot (t : ByteArray) (r : TableRow) : Int := if r.name = t then r.total else 0
/-- what the entries count in which t stands -/
def withE (t : ByteArray) : List Entry → Int
  | [] => 0
  | e :: E => (if t ∈ namesE e then e.count else 0) + withE t E
/-- .. at whose end it stands -/
def endE (t : ByteArray) : List Entry → Int
  | [] => 0
  | e :: E => (if (namesE e).getLast? = some t then e.count else 0) + endE t E
theorem tot_k (t : ByteArray) (c : Int) (ns : List ByteArray) (L : List TableRow) : ∀ i, i ≤ ns.length → sw (wTot t) (tabK c ns L i) = sw (wTot t) L + (if t ∈ ns.take i then c else 0)
  | 0, _ => by simp [tabK]
  | i + 1, hi => by
    have hlt : i < ns.length := by omega
    have ih := tot_k t c ns L i (by omega)
    have h := sw_step (w := wTot t) (c := c) (a := fun s => if s = t then c else 0) (b := fun _ => 0) (fun s => by unfold wTot; split <;> rfl) (fun r => by unfold wTot upTot; simp only; split <;> simp) (fun r => by unfold wTot upSelf; simp only; split <;> simp) ns (tabK c ns L i) i
    have hg : ns.getD i ⟨#[]⟩ = ns[i] := by rw [List.getD_eq_getElem?_getD, List.getElem?_eq_getElem hlt]; rfl
    rw [hg] at h
    have ht : t ∈ ns.take (i + 1) ↔ t ∈ ns.take i ∨ t = ns[i] := by rw [List.take_succ_eq_append_getElem hlt, List.mem_append, List.mem_singleton]
    rw [tabK, h, ih]
    have hz : (if i + 1 = ns.length then (0 : Int) else 0) = 0 := by split <;> rfl
    rw [hz]
    by_cases h1 : t = ns[i]
    · subst h1
      rw [if_pos (ht.2 (.inr rfl))]
      by_cases h2 : ns[i] ∈ ns.take i
      · rw [if_pos h2, if_pos h2]; omega
      · rw [if_neg h2, if_neg h2, if_pos rfl]; omega
    · have e : t ∈ ns.take (i + 1) ↔ t ∈ ns.take i := by rw [ht]; simp [h1]
      simp only [e]
      have h3 : (if ns[i] ∈ ns.take i then (0 : Int) else if ns[i] = t then c else 0) = 0 := by
        split
        · rfl
        · rw [if_neg fun h => h1 h.symm]
      rw [h3]; omega
theorem self_k {w : TableRow → Int} {c : Int} {b : ByteArray → Int} (h0 : ∀ s, w ⟨s, 0, 0⟩ = 0) (ha : ∀ r, w (upTot c r) = w r) (hb : ∀ r, w (upSelf c r) = w r + b r.name) (ns : List ByteArray) (L : List TableRow) : ∀ i, i ≤ ns.length → sw w (tabK c ns L i) = sw w L + (if i = ns.length then (ns.getLast?.map b).getD 0 else 0)
  | 0, h => by
    rw [tabK]
    split
    · rename_i e
      have : ns = [] := List.length_eq_zero_iff.1 e.symm
      subst this; simp
    · omega
  | i + 1, hi => by
    have hlt : i < ns.length := by omega
    have ih := self_k h0 ha hb ns L i (by omega)
    rw [if_neg (by omega)] at ih
    have h := sw_step (w := w) (c := c) (a := fun _ => 0) (b := b) h0 (fun r => by rw [ha]; omega) hb ns (tabK c ns L i) i
    have hg : ns.getD i ⟨#[]⟩ = ns[i] := by rw [List.getD_eq_getElem?_getD, List.getElem?_eq_getElem hlt]; rfl
    rw [hg] at h
    rw [tabK, h, ih]
    have hz : (if ns[i] ∈ ns.take i then (0 : Int) else 0) = 0 := by split <;> rfl
    rw [hz]
    by_cases hl : i + 1 = ns.length
    · rw [if_pos hl, if_pos hl]
      have : ns.getLast? = some ns[i] := by
        rw [List.getLast?_eq_getElem?, show ns.length - 1 = i by omega, List.getElem?_eq_getElem hlt]
      rw [this]; simp
    · rw [if_neg hl, if_neg hl]; omega
theorem tab_tot (t : ByteArray) : ∀ (E : List Entry) (L : List TableRow), sw (wTot t) (E.foldl (fun L e => tabK e.count (namesE e) L (namesE e).length) L) = sw (wTot t) L + withE t E
  | [], L => by simp [withE]
  | e :: E, L => by
    rw [List.foldl_cons, tab_tot t E, tot_k t e.count (namesE e) L _ (Nat.le_refl _), List.take_length, withE]; omega
theorem tab_self (t : ByteArray) : ∀ (E : List Entry) (L : List TableRow), sw (wSelf t) (E.foldl (fun L e => tabK e.count (namesE e) L (namesE e).length) L) = sw (wSelf t) L + endE t E
  | [], L => by simp [endE]
  | e :: E, L => by
    have h := self_k (w := wSelf t) (c := e.count) (b := fun s => if s = t then e.count else 0) (fun s => by unfold wSelf; split <;> rfl) (fun r => rfl) (fun r => by unfold wSelf upSelf; simp only; split <;> simp) (namesE e) L _ (Nat.le_refl _)
    rw [if_pos rfl] at h
    rw [List.foldl_cons, tab_self t E, h, endE]
    have : ((namesE e).getLast?.map fun s => if s = t then e.count else 0).getD 0 = if (namesE e).getLast? = some t then e.count else 0 := by
      cases (namesE e).getLast? with
      | none => simp
      | some s => simp
    rw [this]; omega
theorem tab_sum : ∀ (E : List Entry) (L : List TableRow), (∀ e ∈ E, namesE e ≠ []) → sw (·.self) (E.foldl (fun L e => tabK e.count (namesE e) L (namesE e).length) L) = sw (·.self) L + sumE E
  | [], L, _ => by simp [sumE]
  | e :: E, L, he => by
    have h := self_k (w := (·.self)) (c := e.count) (b := fun _ => e.count) (fun s => rfl) (fun r => rfl) (fun r => rfl) (namesE e) L _ (Nat.le_refl _)
    rw [if_pos rfl] at h
    rw [List.foldl_cons, tab_sum E _ (fun x hx => he x (List.mem_cons_of_mem _ hx)), h]
    have h1 := he e List.mem_cons_self
    have h2 : ((namesE e).getLast?.map fun _ => e.count).getD 0 = e.count := by
      cases hg : (namesE e).getLast? with
      | none => exact absurd (List.getLast?_eq_none_iff.1 hg) h1
      | some s => rfl
    rw [h2]; simp [sumE]; omega
theorem sw_at {w : TableRow → Int} {t : ByteArray} (hw : ∀ r : TableRow, r.name ≠ t → w r = 0) : ∀ {L : List TableRow}, Apart L → ∀ {r : TableRow}, r ∈ L → r.name = t → sw w L = w r
  | [], _, r, h, _ => absurd h (by simp)
  | x :: L, ha, r, h, hr => by
    obtain ⟨h1, h2⟩ := List.pairwise_cons.1 ha
    rw [sw]
    rcases List.mem_cons.1 h with h | h
    · subst h
      have : sw w L = 0 := by
        have : ∀ M : List TableRow, (∀ y ∈ M, y.name ≠ t) → sw w M = 0 := by
          intro M
          induction M with
          | nil => intro _; rfl
          | cons y M ih => intro hy; rw [sw, hw y (hy y List.mem_cons_self), ih fun z hz => hy z (List.mem_cons_of_mem _ hz)]; rfl
        exact this L fun y hy => by rw [← hr]; exact (h1 y hy).symm
      omega
    · rw [hw x (by rw [← hr]; exact h1 r h), sw_at hw h2 h hr]; omega
/-- a row's counts -/
theorem row_tot {E : List Entry} {r : TableRow} (h : r ∈ tabE E) : r.total = withE r.name E := by
  have h1 := tab_tot r.name E []
  have h2 := sw_at (w := wTot r.name) (t := r.name) (fun x hx => if_neg hx) (tabE_apart E) h rfl
  unfold tabE at h2
  rw [h1] at h2
  unfold wTot at h2
  rw [if_pos rfl] at h2
  simpa [sw] using h2.symm
theorem row_self {E : List Entry} {r : TableRow} (h : r ∈ tabE E) : r.self = endE r.name E := by
  have h1 := tab_self r.name E []
  have h2 := sw_at (w := wSelf r.name) (t := r.name) (fun x hx => if_neg hx) (tabE_apart E) h rfl
  unfold tabE at h2
  rw [h1] at h2
  unfold wSelf at h2
  rw [if_pos rfl] at h2
  simpa [sw] using h2.symm
theorem end_with {E : List Entry} (h : ∀ e ∈ E, 0 ≤ e.count) (t : ByteArray) : endE t E ≤ withE t E ∧ withE t E ≤ sumE E := by
  induction E with
  | nil => simp [endE, withE, sumE]
  | cons e E ih =>
    have ih := ih fun x hx => h x (List.mem_cons_of_mem _ hx)
    have hc := h e List.mem_cons_self
    have hs : sumE (e :: E) = e.count + sumE E := by simp [sumE]
    rw [endE, withE, hs]
    by_cases h1 : (namesE e).getLast? = some t
    · rw [if_pos h1, if_pos (List.mem_of_getLast? h1)]; omega
    · rw [if_neg h1]; split <;> omega
theorem with_all {E : List Entry} {t : ByteArray} (h : ∀ e ∈ E, t ∈ namesE e) : withE t E = sumE E := by
  induction E with
  | nil => rfl
  | cons e E ih =>
    have hs : sumE (e :: E) = e.count + sumE E := by simp [sumE]
    rw [withE, if_pos (h e List.mem_cons_self), ih fun x hx => h x (List.mem_cons_of_mem _ hx), hs]
theorem tab_all {E : List Entry} (h : ∀ e ∈ E, namesE e ≠ []) : sw (·.self) (tabE E) = sumE E := by
  have := tab_sum E [] h
  simpa [sw, tabE] using this
/-! ## the table in order -/
theorem sw_some {w : TableRow → Int} : ∀ {L : List TableRow}, sw w L ≠ 0 → ∃ r ∈ L, w r ≠ 0
  | [], h => absurd rfl h
  | x :: L, h => by
    by_cases hx : w x = 0
    · obtain ⟨r, h1, h2⟩ := sw_some (w := w) (L := L) (by intro h0; apply h; rw [sw, hx, h0]; rfl)
      exact ⟨r, List.mem_cons_of_mem _ h1, h2⟩
    · exact ⟨x, List.mem_cons_self, hx⟩
theorem tab_mem {E : List Entry} {r : TableRow} : r ∈ insAll ltT (tabE E) ↔ r ∈ tabE E := insAll_mem
/-- own counts are at most the totals, and these at most all -/
theorem table_le {E : List Entry} (h : ∀ e ∈ E, 0 ≤ e.count) {r : TableRow} (hr : r ∈ insAll ltT (tabE E)) : r.self ≤ r.total ∧ r.total ≤ sumE E := by
  have hm := tab_mem.1 hr
  rw [row_self hm, row_tot hm]
  exact end_with h r.name
/-- the totals descend -/
theorem table_desc {E : List Entry} {k : Nat} (hk : k + 1 < (insAll ltT (tabE E)).length) : ((insAll ltT (tabE E))[k + 1]).total ≤ ((insAll ltT (tabE E))[k]'(by omega)).total := by
  have h := insAll_asc ltT_strict (tabE_pair E)
  have h1 := List.pairwise_iff_getElem.1 h k (k + 1) (by omega) hk (by omega)
  simp only [ltT, Bool.or_eq_true, decide_eq_true_eq, Bool.and_eq_true] at h1
  rcases h1 with h1 | ⟨h1, _⟩ <;> omega
/-- no name stands twice -/
theorem table_names {E : List Entry} : (insAll ltT (tabE E)).Pairwise fun a b => a.name ≠ b.name :=
  ((insAll_perm (lt := ltT) (tabE E)).pairwise_iff (fun {a b} h => Ne.symm h)).2 (tabE_apart E)
/-- the own counts sum up to all -/
theorem table_sum {E : List Entry} (h : ∀ e ∈ E, namesE e ≠ []) : sw (·.self) (insAll ltT (tabE E)) = sumE E := by
  rw [sw_perm (insAll_perm (lt := ltT) (tabE E)), tab_all h]
/-- a name that stands in every entry has all -/
theorem table_main {E : List Entry} {t : ByteArray} (h : ∀ e ∈ E, t ∈ namesE e) {r : TableRow} (hr : r ∈ insAll ltT (tabE E)) (hn : r.name = t) : r.total = sumE E := by
  rw [row_tot (tab_mem.1 hr), hn, with_all h]
/-- .. and a row, unless there is nothing -/
theorem table_has {E : List Entry} {t : ByteArray} (h : ∀ e ∈ E, t ∈ namesE e) (h0 : sumE E ≠ 0) : ∃ r ∈ insAll ltT (tabE E), r.name = t := by
  have h1 := tab_tot t E []
  have h2 : sw (wTot t) (tabE E) ≠ 0 := by
    unfold tabE
    rw [h1, with_all h]
    simpa [sw] using h0
  obtain ⟨r, h3, h4⟩ := sw_some h2
  refine ⟨r, tab_mem.2 h3, ?_⟩
  unfold wTot at h4
  by_cases hn : r.name = t
  · exact hn
  · rw [if_neg hn] at h4; exact absurd rfl h4
theorem table_none {E : List Entry} (h : ∀ e ∈ E, 0 < e.count) (h0 : sumE E = 0) : insAll ltT (tabE E) = [] := by
  cases E with
  | nil => rfl
  | cons e E =>
    have hs : sumE (e :: E) = e.count + sumE E := by simp [sumE]
    have h1 := h e List.mem_cons_self
    have h2 := (end_with (E := E) (fun x hx => Int.le_of_lt (h x (List.mem_cons_of_mem _ hx))) ⟨#[]⟩).2
    have h3 : 0 ≤ withE ⟨#[]⟩ E := by
      have : ∀ E : List Entry, (∀ x ∈ E, 0 < x.count) → 0 ≤ withE ⟨#[]⟩ E := by
        intro E
        induction E with
        | nil => intro _; simp [withE]
        | cons x E ih =>
          intro hx
          have := hx x List.mem_cons_self
          have := ih fun y hy => hx y (List.mem_cons_of_mem _ hy)
          rw [withE]; split <;> omega
      exact this E fun x hx => h x (List.mem_cons_of_mem _ hx)
    omega
end Go.Proofs.YtklcphbgaeiegaaGreatDoor

namespace Go.Proofs.YtklcphbgaeiegaaGreatDoor
open Go.Vc
attribute [local go_sem] St.runR St.runW St.stepV offV St.step St.stepU St.stepG mkCond guardB St.prK St.pr St.prLen St.eff St.callE St.callD St.callF St.callL aI aB aS aR aC St.isM St.argL Ctr.pure Ctr.lend Ctr.move Ctr.isL Ctr.wri pur len lentBy St.lentV St.lent1 nthS argsR restOf obsR pairs swapL unObs backL St.resL erL SV.ren1 SV.up SV.up2 Ob.up St.fzL cellIds partIds St.intoRow SV.ownId St.fz SV.fz1 St.prep St.mvL St.mv SV.re1 rnOk St.prEq vals eqCells scEq Value.kd St.prStr St.prCut cutR St.bnd St.prMin St.bld isShift outL retL outJ oR oC St.ev St.get St.put St.new St.kill SV.kill SV.kill1 Ob.kill St.app St.wrt St.rowsOf St.res St.killL lk er argsL SV.strip SV.need SV.share SV.share1 SV.owns SV.owns1 SV.owns2 SV.good SV.good1 SV.rok SV.rok1 SV.rok2 SV.isV SV.isV2 nodupN SV.cells SV.one SV.pur Ob.pb partsIn rowsIn splice cellsAt dstOk scal2 scal1 thenK blockK retK outK outs okC okL okA okT nilC nilL nilA nilT keepC keepL keepA keepT St.runG St.dltK St.least St.clean St.final St.hide offK badS badO SV.refs SV.leaf SV.leaf2 Ob.refs dlOk fpAt Go.Vc.cover tups SV.ofAgg St.out outC subL St.has rng wr Value.oneCell' Option.isSome_some Option.isSome_none List.nil_append Bool.false_eq_true List.map_cons List.map_nil List.all_cons List.all_nil List.length_cons List.length_nil List.drop_zero List.drop_succ_cons List.take_succ_cons List.take_zero List.drop_nil List.take_nil List.getElem?_cons_zero List.getElem?_cons_succ List.getElem?_nil List.cons_append List.nil_append List.append_nil List.append_assoc List.flatMap_cons List.flatMap_nil List.contains_cons List.contains_nil List.set_cons_zero List.set_cons_succ List.getElem?_toArray Option.getD_some Option.getD_none Option.map_some Option.map_none Option.bind_some Option.some.injEq Prod.mk.injEq if_true if_false true_and and_true and_self and_false false_and Bool.and_false Bool.false_and Bool.or_true Bool.true_or Bool.or_false Bool.false_or ne_eq not_true_eq_false not_false_eq_true decide_true decide_false List.mem_cons List.not_mem_nil List.filter_cons List.filter_nil List.any_cons List.any_nil List.isEmpty_nil List.isEmpty_cons Option.getD_none or_false false_or true_or or_true forall_eq_or_imp forall_eq reduceCtorEq exists_eq exists_eq' exists_eq_left' exists_eq_left exists_eq_right exists_eq_right' imp_self implies_true Bool.and_true Bool.true_and Bool.and_self beq_self_eq_true List.replicate_succ List.replicate_zero forall_const false_implies pickB_or pickB_and beqT beqF Int.toNat_natCast List.length_map List.length_replicate ge_iff_le gt_iff_lt decide_eq_true_eq decide_eq_false_iff_not Bool.and_eq_true Bool.or_eq_true Bool.not_eq_true' Bool.not_eq_false' condG List.toList_toArray Bool.or_eq_false_iff Bool.and_eq_false_iff Int.not_lt Int.not_le beq_iff_eq beq_eq_false_iff_ne bne_iff_ne bne_eq_false_iff_eq ne_eq Bool.not_true Bool.not_false exists_and_left
section
open Go.Vc
set_option linter.unusedSimpArgs false
set_option linter.unusedVariables false
set_option maxHeartbeats 1000000
set_option maxRecDepth 10000
attribute [local irreducible] Go.Vc.WP
attribute [local go_sem] cx0_t cx0_c
open Go.Pl
attribute [local go_sem] isV_Node isV_It isV_Entry decNode_enc decFrame_enc oneFrame_enc stkA oneFrame_ab oneNode_abc decI_enc prA encI_inj decTableRow_enc decU_enc
theorem allV_TableRow (L : List TableRow) : allV (L.map encTableRow) := allV_map (fun x c hc => by
  simp only [encTableRow, List.mem_cons, List.not_mem_nil, or_false] at hc
  rcases hc with rfl | rfl | rfl <;> exact ⟨_, rfl⟩) L
def kTabZ : Ctr := pur (fun args => prA args 0) (fun x => [.agg [.sl 3 (x.1.map encNode), .sl 1 (x.2.map encI)]])
  (fun x => (x.1.length ≤ 1048576 ∧ ∀ n ∈ x.1, n.name.size ≤ 1048576) ∧ x.2.length ≤ 1048576) (fun _ x => .sl 3 ((tableOf x.1 x.2).map encTableRow)) (fun _ _ => [])
theorem cTabZ : Cn Tryz.prog 14 kTabZ := Cn.frozen (fun x => allV_TableRow _) cTabI
theorem sw_succ (w : TableRow → Int) {L : List TableRow} {k : Nat} (hk : k < L.length) : sw w (L.take (k + 1)) = sw w (L.take k) + w L[k] := by
  rw [List.take_succ_eq_append_getElem hk, sw_app]
  simp [sw]
theorem row_first {L : List TableRow} (h : L.Pairwise fun a b => a.name ≠ b.name) {k : Nat} (hk : k < L.length) : firstIdx (rowHit L[k].name) L = k :=
  firstIdx_hit hk (fun i hi hik => by
    have := List.pairwise_iff_getElem.1 h i k hi hk hik
    simp [rowHit, this]) (by simp [rowHit])
theorem sw_nn {w : TableRow → Int} : ∀ {L : List TableRow}, (∀ r ∈ L, 0 ≤ w r) → 0 ≤ sw w L
  | [], _ => Int.le_refl _
  | r :: L, h => by
    have h1 := sw_nn (L := L) fun x hx => h x (List.mem_cons_of_mem _ hx)
    have h2 := h r List.mem_cons_self
    simp only [sw]; omega
theorem sw_take {w : TableRow → Int} {R : List TableRow} (h : ∀ r ∈ R, 0 ≤ w r) (k : Nat) : 0 ≤ sw w (R.take k) ∧ sw w (R.take k) ≤ sw w R := by
  have h1 := sw_nn (w := w) (L := R.take k) fun r hr => h r (List.mem_of_mem_take hr)
  have h2 := sw_nn (w := w) (L := R.drop k) fun r hr => h r (List.mem_of_mem_drop hr)
  have h3 := sw_app w (R.take k) (R.drop k)
  rw [List.take_append_drop] at h3
  omega
section
noncomputable def cxLTables : Cx := { P := Tryz.prog, tys := tys, C := [(12, kBig), (13, kDrawZ), (14, kTabZ), (15, kTotal), (16, kRowOf)], hty := tysOk, hC := COk.cons cBig (COk.cons cDrawZ (COk.cons cTabZ (COk.cons cTotalS (COk.cons cRowOfI (COk.nil _))))) }
theorem cxLTables_t : cxLTables.tys = tys := rfl
theorem cxLTables_c : cxLTables.C = [(12, kBig), (13, kDrawZ), (14, kTabZ), (15, kTotal), (16, kRowOf)] := rfl
attribute [local go_sem] cxLTables_t cxLTables_c kBig kDrawZ kTabZ kTotal kRowOf
theorem lawTables (b : List Int) (hb : b.length ≤ maxLen) (hz : ∀ z ∈ b, IntKind.u8.min ≤ z ∧ z ≤ IntKind.u8.max) : Holds Tryz.prog 3 [.sl 1 (b.map encU)] (.v (.bool true)) [] := by
  have hm : maxLen = 9223372036854775807 := rfl
  have hz' : ∀ z ∈ b, 0 ≤ z ∧ z ≤ 255 := fun z h => hz z h
  refine Holds.go (c := cxLTables) Tryz.func3 rfl Tryz.results3 Tryz.ntmps3 (by omega) (by simp) rfl ?_
  intro X0 w0
  by_cases hbig : 1048576 < (b.length : Int)
  · (repeat' (first | refine WP.seq ?_ | refine WP.block ?_ | ((first | refine WP.region ?_ | refine WP.condW ?_ | refine WP.ret ?_ | refine WP.exit ?_ | refine WP.skip ?_); simp only [go_sem, hbig, tyAll, Nat.reduceAdd, Nat.reduceLT, Nat.reduceLeDiff, Nat.reduceEqDiff, Nat.reduceMul, Nat.reduceSub, Nat.reduceGT, reduceIte, Int.reduceNeg, Int.reduceToNat]) | ((first | refine WP.drawW 50 (by decide +kernel) (by kernel_rfl) ?_ | refine WP.drawW 25 (by decide +kernel) (by kernel_rfl) ?_); simp only [go_sem, hbig, tyAll, Nat.reduceAdd, Nat.reduceLT, Nat.reduceLeDiff, Nat.reduceEqDiff, Nat.reduceMul, Nat.reduceSub, Nat.reduceGT, reduceIte, Int.reduceNeg, Int.reduceToNat]) |  refine And.intro ?_ ?_ | intro _))
    all_goals first | omega | skip
    all_goals trace_state
  have hb1 : b.length ≤ 1048576 := by omega
  have hdr := drA_ok hb1 hz'
  have hnm := drp_names hdr
  obtain ⟨hl1, hl2⟩ := drp_lens hdr
  have htot := DrP.total hdr
  have hen := hdr.ents
  have hsum := sumE_entries (drA b).1 (drA b).2
  have hpos : ∀ e ∈ entriesOf (drA b).1 (drA b).2, 0 < e.count := fun e he => by obtain ⟨_, k, _, _, _, h, _⟩ := entriesOf_mem he; exact h
  have htb := totalOf_bound (drA b).1 (drA b).2
  have hne : ∀ e ∈ entriesOf (drA b).1 (drA b).2, namesE e ≠ [] := fun e he h => by
    have := (hen e he).has
    rw [h] at this; cases this
  obtain ⟨R, hR⟩ : ∃ R, R = tableOf (drA b).1 (drA b).2 := ⟨_, rfl⟩
  have g1 : ∀ r ∈ R, r.self ≤ r.total ∧ r.total ≤ totalOf (drA b).1 (drA b).2 := fun r hr => by
    subst hR; rw [← hsum]; exact table_le (fun e he => Int.le_of_lt (hpos e he)) hr
  have g0 : ∀ r ∈ R, 0 ≤ r.self := fun r hr => by
    subst hR
    have h1 := (tabE_TB (E := entriesOf (drA b).1 (drA b).2) (fun e he => Int.le_of_lt (hpos e he)) (entriesOf (drA b).1 (drA b).2).length (Nat.le_refl _) 0).1
    rw [List.take_length] at h1
    exact (h1 r (tab_mem.1 hr)).1
  have g2 : ∀ k (hk : k + 1 < (R).length), ((R)[k + 1]).total ≤ ((R)[k]'(by omega)).total := by subst hR; exact fun k hk => table_desc hk
  have g3 : (R).Pairwise fun a b => a.name ≠ b.name := by subst hR; exact table_names
  have g4 : sw (·.self) (R) = totalOf (drA b).1 (drA b).2 := by subst hR; rw [← hsum]; exact table_sum hne
  have g5 : ∀ r ∈ R, r.name = nMain → r.total = totalOf (drA b).1 (drA b).2 := fun r hr h => by
    subst hR; rw [← hsum]; exact table_main (fun e he => (hen e he).has) hr h
  have g6 : totalOf (drA b).1 (drA b).2 ≠ 0 → ∃ r ∈ R, r.name = nMain := fun h => by subst hR; exact table_has (fun e he => (hen e he).has) (by rw [hsum]; exact h)
  have g7 : totalOf (drA b).1 (drA b).2 = 0 → R = [] := fun h => by subst hR; exact table_none hpos (by rw [hsum]; exact h)
  have hlen : (R).length ≤ 1048576 := by
    subst hR
    unfold tableOf
    rw [insAll_len]
    have key : ∀ E : List Entry, (∀ e ∈ E, (namesE e).length ≤ 4) → ∀ L : List TableRow, (E.foldl (fun L e => tabK e.count (namesE e) L (namesE e).length) L).length ≤ L.length + 4 * E.length := by
      intro E
      induction E with
      | nil => intro _ L; simp
      | cons e E ih =>
        intro h L
        have h1 := ih (fun x hx => h x (List.mem_cons_of_mem _ hx)) (tabK e.count (namesE e) L (namesE e).length)
        have h2 := tabK_len e.count (namesE e) L (namesE e).length
        have h3 := h e List.mem_cons_self
        simp only [List.foldl_cons, List.length_cons]
        omega
    have h1 := key (entriesOf (drA b).1 (drA b).2) (fun e he => by unfold namesE; rw [List.length_map]; exact (hen e he).len) []
    have h2 := entriesOf_len (drA b).1 (drA b).2
    unfold tabE
    simp only [List.length_nil] at h1
    omega
  have hw1 : (drA b).1.length ≤ 1048576 := by omega
  have hw2 : (drA b).2.length ≤ 1048576 := by omega
  have hnm' : ∀ n ∈ (drA b).1, n.name.size ≤ 1048576 := fun n hn => Nat.le_trans (hnm n hn) (by omega)
  clear hnm hdr hen hsum hpos hne hl1 hl2
  generalize hT : totalOf (drA b).1 (drA b).2 = T at *
  have hR := hR.symm
  have gs := sw_take (w := (·.self)) g0
  (repeat' (first | refine WP.seq ?_ | refine WP.block ?_ | ((first | refine WP.region ?_ | refine WP.condW ?_ | refine WP.ret ?_ | refine WP.exit ?_ | refine WP.skip ?_); simp only [go_sem, hbig, hR, hT, tyAll, Nat.reduceAdd, Nat.reduceLT, Nat.reduceLeDiff, Nat.reduceEqDiff, Nat.reduceMul, Nat.reduceSub, Nat.reduceGT, reduceIte, Int.reduceNeg, Int.reduceToNat]) | ((first | refine WP.drawW 50 (by decide +kernel) (by kernel_rfl) ?_ | refine WP.drawW 25 (by decide +kernel) (by kernel_rfl) ?_); simp only [go_sem, hbig, hR, hT, tyAll, Nat.reduceAdd, Nat.reduceLT, Nat.reduceLeDiff, Nat.reduceEqDiff, Nat.reduceMul, Nat.reduceSub, Nat.reduceGT, reduceIte, Int.reduceNeg, Int.reduceToNat]) |  refine And.intro ?_ ?_ | intro _))
  all_goals first | omega | exact (hz' _ ‹_›).1 | exact (hz' _ ‹_›).2 | exact hnm' _ ‹_› | skip
  refine WP.loop (fun k : Nat => ⟨[(3, .ptr 3 0 0 0), (5, .sl 3 (R.map encTableRow)), (6, .v (.int .i64 (sw (·.self) (R.take k)))), (7, .v (.int .i64 k))], [(3, .box 29 [.sl 3 ((drA b).1.map encNode), .sl 1 ((drA b).2.map encI)])]⟩)
    (fun k => k ≤ R.length) (fun k => R.length - k) 0 (by simp) ?_ ?_
  · (simp only [go_sem, tyAll, Nat.reduceAdd, Nat.reduceLT, Nat.reduceLeDiff, Nat.reduceEqDiff, Nat.reduceMul, Nat.reduceSub, Nat.reduceGT, reduceIte, Int.reduceNeg, Int.reduceToNat] <;> (first | rfl | exact ⟨rfl, rfl⟩ | exact ⟨rfl, rfl, rfl⟩ | exact ⟨rfl, rfl, rfl, rfl⟩ | exact ⟨rfl, rfl, rfl, rfl, rfl⟩ | exact ⟨⟨rfl, rfl⟩, rfl⟩ | simp))
  intro k hk
  have gk := gs k
  rw [g4] at gk
  by_cases hlt : k < R.length
  · have hli : (k : Int) < R.length := by omega
    have h1 := rowAt_map encTableRow R k hlt
    have hmem := List.getElem_mem hlt
    obtain ⟨a1, a2⟩ := g1 _ hmem
    have a0 := g0 _ hmem
    have a3 := row_first g3 hlt
    have a4 : ¬ R[k].total < R[k].self := Int.not_lt.2 a1
    have a5 : ¬ T < R[k].total := Int.not_lt.2 a2
    have hsu := sw_succ (·.self) hlt
    have gk2 := gs (k + 1)
    rw [hsu, g4] at gk2
    cases k with
    | zero =>
      have hk0 : ¬ (0 : Int) < ((0 : Nat) : Int) := by omega
      have hz1 : (((0 : Nat) : Int) - 1).toNat = 0 := rfl
      have hs0 : sw (fun x : TableRow => x.self) [] = 0 := rfl
      (repeat' (first | refine WP.seq ?_ | refine WP.block ?_ | ((first | refine WP.region ?_ | refine WP.condW ?_ | refine WP.ret ?_ | refine WP.exit ?_ | refine WP.skip ?_); simp only [go_sem, hli, h1, encTableRow, hT, a3, a4, a5, hk0, hs0, hz1, tyAll, Nat.reduceAdd, Nat.reduceLT, Nat.reduceLeDiff, Nat.reduceEqDiff, Nat.reduceMul, Nat.reduceSub, Nat.reduceGT, reduceIte, Int.reduceNeg, Int.reduceToNat]) | ((first | refine WP.drawW 50 (by decide +kernel) (by kernel_rfl) ?_ | refine WP.drawW 25 (by decide +kernel) (by kernel_rfl) ?_); simp only [go_sem, hli, h1, encTableRow, hT, a3, a4, a5, hk0, hs0, hz1, tyAll, Nat.reduceAdd, Nat.reduceLT, Nat.reduceLeDiff, Nat.reduceEqDiff, Nat.reduceMul, Nat.reduceSub, Nat.reduceGT, reduceIte, Int.reduceNeg, Int.reduceToNat]) |  refine And.intro ?_ ?_ | intro _))
      all_goals first | omega | (simp only; omega) | exact Nat.le_trans (hnm' _ ‹_›) (by omega) | exact ⟨0 + 1, by omega, by omega, by rw [hsu]; (first | rfl | exact ⟨rfl, rfl⟩ | exact ⟨rfl, rfl, rfl⟩ | exact ⟨rfl, rfl, rfl, rfl⟩ | exact ⟨rfl, rfl, rfl, rfl, rfl⟩ | exact ⟨⟨rfl, rfl⟩, rfl⟩ | simp)⟩ | skip
      all_goals trace_state
    | succ m =>
      have hk0 : (0 : Int) < ((m + 1 : Nat) : Int) := by omega
      have hkm : ((m + 1 : Nat) : Int) - 1 = (m : Int) := by omega
      have hml : m < R.length := by omega
      have hmi : (m : Int) < R.length := by omega
      have h2 := rowAt_map encTableRow R m hml
      have a6 : ¬ R[m].total < R[m + 1].total := Int.not_lt.2 (g2 m hlt)
      (repeat' (first | refine WP.seq ?_ | refine WP.block ?_ | ((first | refine WP.region ?_ | refine WP.condW ?_ | refine WP.ret ?_ | refine WP.exit ?_ | refine WP.skip ?_); simp only [go_sem, hli, h1, encTableRow, hT, a3, a4, a5, hk0, hkm, h2, hmi, a6, tyAll, Nat.reduceAdd, Nat.reduceLT, Nat.reduceLeDiff, Nat.reduceEqDiff, Nat.reduceMul, Nat.reduceSub, Nat.reduceGT, reduceIte, Int.reduceNeg, Int.reduceToNat]) | ((first | refine WP.drawW 50 (by decide +kernel) (by kernel_rfl) ?_ | refine WP.drawW 25 (by decide +kernel) (by kernel_rfl) ?_); simp only [go_sem, hli, h1, encTableRow, hT, a3, a4, a5, hk0, hkm, h2, hmi, a6, tyAll, Nat.reduceAdd, Nat.reduceLT, Nat.reduceLeDiff, Nat.reduceEqDiff, Nat.reduceMul, Nat.reduceSub, Nat.reduceGT, reduceIte, Int.reduceNeg, Int.reduceToNat]) |  refine And.intro ?_ ?_ | intro _))
      all_goals first | omega | (simp only; omega) | exact Nat.le_trans (hnm' _ ‹_›) (by omega) | exact ⟨m + 1 + 1, by omega, by omega, by rw [hsu]; (first | rfl | exact ⟨rfl, rfl⟩ | exact ⟨rfl, rfl, rfl⟩ | exact ⟨rfl, rfl, rfl, rfl⟩ | exact ⟨rfl, rfl, rfl, rfl, rfl⟩ | exact ⟨⟨rfl, rfl⟩, rfl⟩ | simp)⟩ | skip
      all_goals trace_state
  · have hge : ¬ (k : Int) < R.length := by omega
    have hke : k = R.length := by omega
    subst hke
    rw [List.take_length, g4]
    by_cases hT0 : T = 0
    · have hnil := g7 hT0
      subst hnil
      subst hT0
      have hf : firstIdx (rowHit ⟨#[109, 97, 105, 110]⟩) ([] : List TableRow) = -1 := by decide
      have hdn : decTableRow [] = [] := rfl
      (repeat' (first | refine WP.seq ?_ | refine WP.block ?_ | ((first | refine WP.region ?_ | refine WP.condW ?_ | refine WP.ret ?_ | refine WP.exit ?_ | refine WP.skip ?_); simp only [go_sem, hge, hf, hT, hdn, tyAll, Nat.reduceAdd, Nat.reduceLT, Nat.reduceLeDiff, Nat.reduceEqDiff, Nat.reduceMul, Nat.reduceSub, Nat.reduceGT, reduceIte, Int.reduceNeg, Int.reduceToNat]) | ((first | refine WP.drawW 50 (by decide +kernel) (by kernel_rfl) ?_ | refine WP.drawW 25 (by decide +kernel) (by kernel_rfl) ?_); simp only [go_sem, hge, hf, hT, hdn, tyAll, Nat.reduceAdd, Nat.reduceLT, Nat.reduceLeDiff, Nat.reduceEqDiff, Nat.reduceMul, Nat.reduceSub, Nat.reduceGT, reduceIte, Int.reduceNeg, Int.reduceToNat]) |  refine And.intro ?_ ?_ | intro _))
      all_goals first | omega | (simp only; omega) | exact Nat.le_trans (hnm' _ ‹_›) (by omega) | rfl | simp [hT0] | skip
      all_goals trace_state
    · obtain ⟨r, hr, hn⟩ := g6 hT0
      obtain ⟨q, hq, rfl⟩ := List.mem_iff_getElem.1 hr
      have hf : firstIdx (rowHit ⟨#[109, 97, 105, 110]⟩) R = q := by
        have := row_first g3 hq
        rw [hn] at this; exact this
      have ht := g5 _ hr hn
      have hqi : (q : Int) < R.length := by omega
      have hq0 : ¬ (q : Int) < 0 := by omega
      have h1 := rowAt_map encTableRow R q hq
      (repeat' (first | refine WP.seq ?_ | refine WP.block ?_ | ((first | refine WP.region ?_ | refine WP.condW ?_ | refine WP.ret ?_ | refine WP.exit ?_ | refine WP.skip ?_); simp only [go_sem, hge, hf, hT, hqi, h1, encTableRow, ht, hT0, hq0, tyAll, Nat.reduceAdd, Nat.reduceLT, Nat.reduceLeDiff, Nat.reduceEqDiff, Nat.reduceMul, Nat.reduceSub, Nat.reduceGT, reduceIte, Int.reduceNeg, Int.reduceToNat]) | ((first | refine WP.drawW 50 (by decide +kernel) (by kernel_rfl) ?_ | refine WP.drawW 25 (by decide +kernel) (by kernel_rfl) ?_); simp only [go_sem, hge, hf, hT, hqi, h1, encTableRow, ht, hT0, hq0, tyAll, Nat.reduceAdd, Nat.reduceLT, Nat.reduceLeDiff, Nat.reduceEqDiff, Nat.reduceMul, Nat.reduceSub, Nat.reduceGT, reduceIte, Int.reduceNeg, Int.reduceToNat]) |  refine And.intro ?_ ?_ | intro _))
      all_goals first | omega | (simp only; omega) | exact Nat.le_trans (hnm' _ ‹_›) (by omega) | rfl | simp [hT0] | skip
      all_goals trace_state
end
end
end Go.Proofs.YtklcphbgaeiegaaGreatDoor
/-
  DERIVED. What is read of a struct, field by field, stands for what its fields stand for.
-/
namespace Go.Vc
open Go.RowKit Go.WideShapes Go.ChangeShapes Go.Deep
set_option linter.unusedVariables false
section
variable {H : Type} {enc : TypeId × Value → H} {P : Program} {w : World}
theorem Cells.append {r1 r2 : List SV} {c1 c2 : List Value} (h1 : Cells w r1 c1) (h2 : Cells w r2 c2) : Cells w (r1 ++ r2) (c1 ++ c2) := by
  refine ⟨by rw [List.length_append, List.length_append, h1.1, h2.1], fun k c u hc hu => ?_⟩
  rw [List.getElem?_append] at hc hu
  by_cases hk : k < r1.length
  · rw [if_pos hk] at hc
    rw [if_pos (by rw [← h1.1]; exact hk)] at hu
    exact h1.2 k c u hc hu
  · rw [if_neg hk] at hc
    rw [if_neg (by rw [← h1.1]; exact hk), ← h1.1] at hu
    exact h2.2 _ c u hc hu
theorem Dec.map {t : TypeId} {α β : Type} {e : α → List SV} {wf : α → Prop} {e' : β → List SV} {wf' : β → Prop} (hd : Dec H enc P w t e wf) (g : α → β) (he : ∀ a, e' (g a) = e a) (hw : ∀ a, wf a → wf' (g a)) : Dec H enc P w t e' wf' := by
  intro base sp held n cs y h
  obtain ⟨a, ha, hc⟩ := hd _ _ _ _ _ _ h
  exact ⟨g a, hw a ha, by rw [he]; exact hc⟩
theorem Dec.struct1 {t : TypeId} {f0 : Field} {k0 : Nat} {α : Type} {e : α → List SV} {wf : α → Prop} (ht : P.underlying t = some (.struct #[f0])) (o0 : f0.offset = 0) (h0 : P.cellsOf f0.type = k0) (hC : P.cellsOf t = k0) (hd : Dec H enc P w f0.type e wf) : Dec H enc P w t e wf := by
  intro base sp held n cs y h
  obtain ⟨y0, m, _, hl, g0⟩ := trod_struct1 ht h
  obtain ⟨a, ha, hc⟩ := hd _ _ _ _ _ _ g0
  rw [o0, h0, List.drop_zero, List.take_of_length_le (by omega)] at hc
  exact ⟨a, ha, hc⟩
theorem Dec.struct2 {t : TypeId} {f0 f1 : Field} {k0 k1 : Nat} {α β : Type} {e0 : α → List SV} {w0 : α → Prop} {e1 : β → List SV} {w1 : β → Prop} (ht : P.underlying t = some (.struct #[f0, f1])) (o0 : f0.offset = 0) (h0 : P.cellsOf f0.type = k0) (o1 : f1.offset = k0) (h1 : P.cellsOf f1.type = k1) (hC : P.cellsOf t = k0 + k1)
    (d0 : Dec H enc P w f0.type e0 w0) (d1 : Dec H enc P w f1.type e1 w1) : Dec H enc P w t (fun x : α × β => e0 x.1 ++ e1 x.2) (fun x => w0 x.1 ∧ w1 x.2) := by
  intro base sp held n cs y h
  obtain ⟨y0, y1, m, _, hl, g0, g1⟩ := trod_struct2 ht h
  obtain ⟨a, ha, hc⟩ := d0 _ _ _ _ _ _ g0
  obtain ⟨b, hb, hd⟩ := d1 _ _ _ _ _ _ g1
  rw [o0, h0, List.drop_zero] at hc
  rw [o1, h1, List.take_of_length_le (by rw [List.length_drop]; omega)] at hd
  refine ⟨(a, b), ⟨ha, hb⟩, ?_⟩
  have := hc.append hd
  rwa [List.take_append_drop] at this
theorem Dec.struct3 {t : TypeId} {f0 f1 f2 : Field} {k0 k1 k2 : Nat} {α β γ : Type} {e0 : α → List SV} {w0 : α → Prop} {e1 : β → List SV} {w1 : β → Prop} {e2 : γ → List SV} {w2 : γ → Prop} (ht : P.underlying t = some (.struct #[f0, f1, f2])) (o0 : f0.offset = 0) (h0 : P.cellsOf f0.type = k0) (o1 : f1.offset = k0) (h1 : P.cellsOf f1.type = k1) (o2 : f2.offset = k0 + k1) (h2 : P.cellsOf f2.type = k2) (hC : P.cellsOf t = k0 + k1 + k2)
    (d0 : Dec H enc P w f0.type e0 w0) (d1 : Dec H enc P w f1.type e1 w1) (d2 : Dec H enc P w f2.type e2 w2) : Dec H enc P w t (fun x : α × β × γ => e0 x.1 ++ (e1 x.2.1 ++ e2 x.2.2)) (fun x => w0 x.1 ∧ w1 x.2.1 ∧ w2 x.2.2) := by
  intro base sp held n cs y h
  obtain ⟨y0, y1, y2, m, _, hl, g0, g1, g2⟩ := trod_struct3 ht h
  obtain ⟨a, ha, hc⟩ := d0 _ _ _ _ _ _ g0
  obtain ⟨b, hb, hd⟩ := d1 _ _ _ _ _ _ g1
  obtain ⟨c, hc', he⟩ := d2 _ _ _ _ _ _ g2
  rw [o0, h0, List.drop_zero] at hc
  rw [o1, h1] at hd
  rw [o2, h2, List.take_of_length_le (by rw [List.length_drop]; omega), ← List.drop_drop] at he
  refine ⟨(a, b, c), ⟨ha, hb, hc'⟩, ?_⟩
  have := hc.append (hd.append he)
  rwa [List.take_append_drop, List.take_append_drop] at this
end
end Go.Vc

/-
  DERIVED. What is read of stacks and of a profile.
-/
namespace Go.Proofs.YtklcphbgaeiegaaGreatDoor
open Go.Vc Go.RowKit Go.WideShapes Go.ChangeShapes Go.Deep
section
variable {H : Type} {enc : TypeId × Value → H} {w : World}
def okN (L : List Node) : Prop := L.length ≤ maxLen ∧ ∀ x ∈ L, x.name.size ≤ maxLen
theorem rowNode' : Dec H enc Tryz.prog w 182 encNode (fun x => x.name.size ≤ maxLen) :=
  (Dec.struct2 (k0 := 1) (k1 := 2) Tryz.underlying182 rfl (by kernel_rfl) rfl (by kernel_rfl) (by kernel_rfl) (Dec.int Tryz.underlying3) rowFrame).map (fun x : Int × Frame => (⟨x.1, x.2.name, x.2.line⟩ : Node)) (fun _ => rfl) (fun _ h => h.2.1)
theorem rowStk : Dec H enc Tryz.prog w 70 (fun N : List Node => [.sl 3 (N.map encNode)]) okN :=
  Dec.struct1 (k0 := 1) Tryz.underlying70 rfl (by kernel_rfl) (by kernel_rfl) (Dec.slice (s := 3) Tryz.underlying68 (by kernel_rfl) (by omega) rowNode' (fun _ => rfl))
theorem rowPr : Dec H enc Tryz.prog w 72 (fun x : List Node × List Int => [.sl 3 (x.1.map encNode), .sl 1 (x.2.map encI)]) wfM :=
  (Dec.struct2 (k0 := 1) (k1 := 1) Tryz.underlying72 rfl (by kernel_rfl) rfl (by kernel_rfl) (by kernel_rfl) rowStk
    (Dec.slice (s := 1) Tryz.underlying27 (by kernel_rfl) (by omega) (Dec.int Tryz.underlying3) (fun _ => rfl))).map (fun x : List Node × List Int => x) (fun _ => rfl) (fun _ h => ⟨h.1.1, h.1.2, h.2.1⟩)
end
end Go.Proofs.YtklcphbgaeiegaaGreatDoor

