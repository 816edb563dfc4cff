/-
  DERIVED. Several texts of ours in one: VtPrL, VtPrM, VtShare, VtWeightsL, VcY, VtPrR.
-/
import Derived.Test.YtahcfcimfcjhhaaGreatDoorVx0
import Derived.Test.YtahcfcimfcjhhaaGreatDoorVx1
import Derived.Test.YtahcfcimfcjhhaaGreatDoorVx2
import Derived.Test.YtahcfcimfcjhhaaGreatDoorVx3
import Derived.Test.YtahcfcimfcjhhaaGreatDoorVx4
import Derived.Test.YtahcfcimfcjhhaaGreatDoorVx5
import Derived.Test.YtahcfcimfcjhhaaGreatDoorVx6
import Derived.Test.YtahcfcimfcjhhaaGreatDoorVx7
import Derived.Test.YtahcfcimfcjhhaaGreatDoorVx8
import Derived.Test.YtahcfcimfcjhhaaGreatDoorVz9
import Derived.Deep.Strs
import Derived.Lib.SmallJoins
set_option linter.unusedSimpArgs false
set_option linter.unusedVariables false
namespace Go.Proofs.YtahcfcimfcjhhaaGreatDoor
open Go.Vc
attribute [local go_sem] St.runR St.runW St.stepV offV St.step St.stepU St.stepG mkCond guardB St.prK St.pr St.prLen St.eff St.callE St.callD St.callF St.callL aI aB aS aR aC St.isM St.argL Ctr.pure Ctr.lend Ctr.move Ctr.isL Ctr.wri pur len lentBy St.lentV St.lent1 nthS argsR restOf obsR pairs swapL unObs backL St.resL erL SV.ren1 SV.up SV.up2 Ob.up St.fzL cellIds partIds St.intoRow SV.ownId St.fz SV.fz1 St.prep St.mvL St.mv SV.re1 rnOk St.prEq vals eqCells scEq Value.kd St.prStr St.prCut cutR St.bnd St.prMin St.bld isShift outL retL outJ oR oC St.ev St.get St.put St.new St.kill SV.kill SV.kill1 Ob.kill St.app St.wrt St.rowsOf St.res St.killL lk er argsL SV.strip SV.need SV.share SV.share1 SV.owns SV.owns1 SV.owns2 SV.good SV.good1 SV.rok SV.rok1 SV.rok2 SV.isV SV.isV2 nodupN SV.cells SV.one SV.pur Ob.pb partsIn rowsIn splice cellsAt dstOk scal2 scal1 thenK blockK retK outK outs okC okL okA okT nilC nilL nilA nilT keepC keepL keepA keepT St.runG St.dltK St.least St.clean St.final St.hide offK badS badO SV.refs SV.leaf SV.leaf2 Ob.refs dlOk fpAt Go.Vc.cover tups SV.ofAgg St.out outC subL St.has rng wr Value.oneCell' Option.isSome_some Option.isSome_none List.nil_append Bool.false_eq_true List.map_cons List.map_nil List.all_cons List.all_nil List.length_cons List.length_nil List.drop_zero List.drop_succ_cons List.take_succ_cons List.take_zero List.drop_nil List.take_nil List.getElem?_cons_zero List.getElem?_cons_succ List.getElem?_nil List.cons_append List.nil_append List.append_nil List.append_assoc List.flatMap_cons List.flatMap_nil List.contains_cons List.contains_nil List.set_cons_zero List.set_cons_succ List.getElem?_toArray Option.getD_some Option.getD_none Option.map_some Option.map_none Option.bind_some Option.some.injEq Prod.mk.injEq if_true if_false true_and and_true and_self and_false false_and Bool.and_false Bool.false_and Bool.or_true Bool.true_or Bool.or_false Bool.false_or ne_eq not_true_eq_false not_false_eq_true decide_true decide_false List.mem_cons List.not_mem_nil List.filter_cons List.filter_nil List.any_cons List.any_nil List.isEmpty_nil List.isEmpty_cons Option.getD_none or_false false_or true_or or_true forall_eq_or_imp forall_eq reduceCtorEq exists_eq exists_eq' exists_eq_left' exists_eq_left exists_eq_right exists_eq_right' imp_self implies_true Bool.and_true Bool.true_and Bool.and_self beq_self_eq_true List.replicate_succ List.replicate_zero forall_const false_implies pickB_or pickB_and beqT beqF Int.toNat_natCast List.length_map List.length_replicate ge_iff_le gt_iff_lt decide_eq_true_eq decide_eq_false_iff_not Bool.and_eq_true Bool.or_eq_true Bool.not_eq_true' Bool.not_eq_false' condG List.toList_toArray Bool.or_eq_false_iff Bool.and_eq_false_iff Int.not_lt Int.not_le beq_iff_eq beq_eq_false_iff_ne bne_iff_ne bne_eq_false_iff_eq ne_eq Bool.not_true Bool.not_false exists_and_left
section
open Go.Vc
set_option linter.unusedSimpArgs false
set_option linter.unusedVariables false
set_option maxHeartbeats 1000000
set_option maxRecDepth 10000
attribute [local irreducible] Go.Vc.WP
attribute [local go_sem] cx0_t cx0_c
attribute [local go_sem] decNode_enc decFrame_enc oneFrame_enc stkA oneFrame_ab oneNode_abc decI_enc prA encI_inj
theorem szGo_neg : ∀ (l : List Nat) (r : Int), 0 ≤ r → szGo l r < 0 → szGo l r = -1
  | [], r, h, h2 => by unfold szGo at h2 ⊢; omega
  | n :: l, r, h, h2 => by
    unfold szGo at h2 ⊢
    split
    · rfl
    · rename_i h3
      rw [if_neg h3] at h2
      exact szGo_neg l _ (by omega) h2
theorem szGo_le1 : ∀ (l : List Nat) (r : Int), -1 ≤ r → szGo l r ≤ r
  | [], r, h => Int.le_refl _
  | n :: l, r, h => by
    unfold szGo
    split
    · omega
    · have := szGo_le1 l (r - n) (by omega)
      omega
theorem szvNode_neg {N : List Node} {l : Int} (h0 : 0 ≤ l) (h : szvNode N l < 0) : szvNode N l = -1 := by
  unfold szvNode at h ⊢
  split
  · rfl
  · rename_i h2
    rw [if_neg h2] at h
    exact szGo_neg _ _ (by omega) h
theorem szvNode_le {N : List Node} {l : Int} (h0 : 0 ≤ l) : szvNode N l ≤ l := by
  unfold szvNode
  split
  · omega
  · have := szGo_le1 (sizesNode N) (l - N.length) (by omega)
    omega
theorem szvNode_ok' {N : List Node} {l : Int} (hl : l ≤ 1048576) (h : ¬ szvNode N l < 0) : N.length ≤ 1048576 ∧ ∀ x ∈ N, x.name.size ≤ 1048576 := by
  unfold szvNode at h
  split at h
  · omega
  · rename_i h2
    refine ⟨by omega, fun x hx => ?_⟩
    have := szGo_ok (sizesNode N) _ (by omega) (Int.not_lt.1 h) x.name.size (List.mem_map.2 ⟨x, hx, rfl⟩)
    omega
def kszI : Ctr := pur (fun args => (decI (aR args 0), aI args 1)) (fun x => [.sl 1 (x.1.map encI), .v (.int .i64 x.2)]) (fun x => x.1.length ≤ maxLen ∧ 0 ≤ x.2 ∧ x.2 ≤ 1048576)
  (fun _ x => .v (.int .i64 (if x.2 - x.1.length < 0 then -1 else x.2 - x.1.length))) (fun _ _ => [])
section
noncomputable def cxSzI : Cx := { P := Tryz.prog, tys := tys, C := [], hty := tysOk, hC := COk.nil _ }
theorem cxSzI_t : cxSzI.tys = tys := rfl
theorem cxSzI_c : cxSzI.C = [] := rfl
attribute [local go_sem] cxSzI_t cxSzI_c 
theorem cszI : Cn Tryz.prog 48 kszI := by
  refine Cn.pur Tryz.func48 (by kernel_rfl) rfl fun d x hx => ?_
  obtain ⟨L, left⟩ := x
  obtain ⟨hL, h0, h1⟩ := hx
  simp only at hL h0 h1 ⊢
  have hm : maxLen = 9223372036854775807 := rfl
  refine Holds.go (c := cxSzI) Tryz.func48 rfl Tryz.results48 Tryz.ntmps48 (by omega) (by simp) rfl ?_
  intro X0 w0
  (repeat' (first | refine WP.seq ?_ | refine WP.block ?_ | ((first | refine WP.region ?_ | refine WP.condW ?_ | refine WP.ret ?_ | refine WP.exit ?_ | refine WP.skip ?_); simp only [go_sem, tyAll, Nat.reduceAdd, Nat.reduceLT, Nat.reduceLeDiff, Nat.reduceEqDiff, Nat.reduceMul, Nat.reduceSub, Nat.reduceGT, reduceIte, Int.reduceNeg, Int.reduceToNat]) |  refine And.intro ?_ ?_ | intro _))
  all_goals first | omega | skip
  · rename_i h; rw [if_pos h]
  · rename_i h; rw [if_neg (by omega)]
end
def kszStk : Ctr := pur (fun args => (stkA args 0, aI args 1)) (fun x => [.agg [.sl 3 (x.1.map encNode)], .v (.int .i64 x.2)]) (fun x => x.1.length ≤ maxLen ∧ (∀ r ∈ x.1, r.name.size ≤ maxLen) ∧ 0 ≤ x.2 ∧ x.2 ≤ 1048576)
  (fun _ x => .v (.int .i64 (szvNode x.1 x.2))) (fun _ _ => [])
section
noncomputable def cxSzStk : Cx := { P := Tryz.prog, tys := tys, C := [(82, kszNodeS)], hty := tysOk, hC := COk.cons cszNodeS (COk.nil _) }
theorem cxSzStk_t : cxSzStk.tys = tys := rfl
theorem cxSzStk_c : cxSzStk.C = [(82, kszNodeS)] := rfl
attribute [local go_sem] cxSzStk_t cxSzStk_c kszNodeS
theorem cszStk : Cn Tryz.prog 47 kszStk := by
  refine Cn.pur Tryz.func47 (by kernel_rfl) rfl fun d x hx => ?_
  obtain ⟨N, left⟩ := x
  obtain ⟨hN, hs, h0, h1⟩ := hx
  simp only at hN hs h0 h1 ⊢
  refine Holds.go (c := cxSzStk) Tryz.func47 rfl Tryz.results47 Tryz.ntmps47 (by omega) (by simp) rfl ?_
  intro X0 w0
  (repeat' (first | refine WP.seq ?_ | refine WP.block ?_ | ((first | refine WP.region ?_ | refine WP.condW ?_ | refine WP.ret ?_ | refine WP.exit ?_ | refine WP.skip ?_); simp only [go_sem, tyAll, Nat.reduceAdd, Nat.reduceLT, Nat.reduceLeDiff, Nat.reduceEqDiff, Nat.reduceMul, Nat.reduceSub, Nat.reduceGT, reduceIte, Int.reduceNeg, Int.reduceToNat]) |  refine And.intro ?_ ?_ | intro _))
  all_goals first | omega | exact hs _ ‹_› | skip
  · rename_i h; rw [szvNode_neg h0 h]
end
def szvPr (x : List Node × List Int) (l : Int) : Int := if szvNode x.1 l < 0 then -1 else if szvNode x.1 l - x.2.length < 0 then -1 else szvNode x.1 l - x.2.length
theorem szvPr_le {x : List Node × List Int} {l : Int} (h0 : 0 ≤ l) : szvPr x l ≤ l := by
  have := szvNode_le (N := x.1) h0
  unfold szvPr
  split
  · omega
  · split <;> omega
theorem szvPr_neg {x : List Node × List Int} {l : Int} (h : szvPr x l < 0) : szvPr x l = -1 := by
  unfold szvPr at h ⊢
  split
  · rfl
  · split
    · rfl
    · rename_i h1 h2; rw [if_neg h1, if_neg h2] at h; omega
theorem szvPr_ok {x : List Node × List Int} {l : Int} (hl : l ≤ 1048576) (h : ¬ szvPr x l < 0) : (x.1.length ≤ 1048576 ∧ ∀ n ∈ x.1, n.name.size ≤ 1048576) ∧ x.2.length ≤ 1048576 := by
  unfold szvPr at h
  split at h
  · omega
  · rename_i h1
    refine ⟨szvNode_ok' hl h1, ?_⟩
    split at h
    · omega
    · by_cases h0 : 0 ≤ l
      · have := szvNode_le (N := x.1) h0
        omega
      · exfalso
        apply h1
        unfold szvNode
        rw [if_pos (by omega)]; omega
def wfM (x : List Node × List Int) : Prop := x.1.length ≤ maxLen ∧ (∀ r ∈ x.1, r.name.size ≤ maxLen) ∧ x.2.length ≤ maxLen
def kszPr : Ctr := pur (fun args => (prA args 0, aI args 1)) (fun x => [.agg [.sl 3 (x.1.1.map encNode), .sl 1 (x.1.2.map encI)], .v (.int .i64 x.2)]) (fun x => wfM x.1 ∧ 0 ≤ x.2 ∧ x.2 ≤ 1048576)
  (fun _ x => .v (.int .i64 (szvPr x.1 x.2))) (fun _ _ => [])
section
noncomputable def cxSzPr : Cx := { P := Tryz.prog, tys := tys, C := [(47, kszStk), (48, kszI)], hty := tysOk, hC := COk.cons cszStk (COk.cons cszI (COk.nil _)) }
theorem cxSzPr_t : cxSzPr.tys = tys := rfl
theorem cxSzPr_c : cxSzPr.C = [(47, kszStk), (48, kszI)] := rfl
attribute [local go_sem] cxSzPr_t cxSzPr_c kszStk kszI
theorem cszPr : Cn Tryz.prog 20 kszPr := by
  refine Cn.pur Tryz.func20 (by kernel_rfl) rfl fun d x hx => ?_
  obtain ⟨⟨N, C⟩, left⟩ := x
  obtain ⟨⟨hN, hs, hC⟩, h0, h1⟩ := hx
  simp only at hN hs hC h0 h1 ⊢
  have hle := szvNode_le (N := N) h0
  refine Holds.go (c := cxSzPr) Tryz.func20 rfl Tryz.results20 Tryz.ntmps20 (by omega) (by simp) rfl ?_
  intro X0 w0
  (repeat' (first | refine WP.seq ?_ | refine WP.block ?_ | ((first | refine WP.region ?_ | refine WP.condW ?_ | refine WP.ret ?_ | refine WP.exit ?_ | refine WP.skip ?_); simp only [go_sem, tyAll, Nat.reduceAdd, Nat.reduceLT, Nat.reduceLeDiff, Nat.reduceEqDiff, Nat.reduceMul, Nat.reduceSub, Nat.reduceGT, reduceIte, Int.reduceNeg, Int.reduceToNat]) |  refine And.intro ?_ ?_ | intro _))
  all_goals first | omega | exact hs _ ‹_› | skip
  · rename_i h; rw [szvPr, if_pos h]
  · rename_i h g
    rw [szvPr, if_neg (Int.not_lt.2 h)]
    split
    · rfl
    · rename_i h5
      have h6 : ¬ (szvNode N left - (C.length : Int) < 0) := h5
      rw [if_neg h6] at g
      exact absurd g h6
  · rename_i h g
    rw [szvPr, if_neg (Int.not_lt.2 h)]
end
def ktoStk : Ctr := pur (fun args => stkA args 0) (fun N => [.agg [.sl 3 (N.map encNode)]]) (fun N => N.length ≤ 2097152) (fun d _ => .agg [.own d]) (fun d N => [(d, .sl 132 3 (N.map encNode))])
section
noncomputable def cxToStk : Cx := { P := Tryz.prog, tys := tys, C := [(87, ktoNodeS)], hty := tysOk, hC := COk.cons ctoNodeS (COk.nil _) }
theorem cxToStk_t : cxToStk.tys = tys := rfl
theorem cxToStk_c : cxToStk.C = [(87, ktoNodeS)] := rfl
attribute [local go_sem] cxToStk_t cxToStk_c ktoNodeS
theorem ctoStk : Cn Tryz.prog 52 ktoStk := by
  refine Cn.pur Tryz.func52 (by kernel_rfl) rfl fun d x hx => ?_
  refine Holds.go (c := cxToStk) Tryz.func52 rfl Tryz.results52 Tryz.ntmps52 (by omega) (by simp) rfl ?_
  intro X0 w0
  (repeat' (first | refine WP.seq ?_ | refine WP.block ?_ | ((first | refine WP.region ?_ | refine WP.condW ?_ | refine WP.ret ?_ | refine WP.exit ?_ | refine WP.skip ?_); simp only [go_sem, tyAll, Nat.reduceAdd, Nat.reduceLT, Nat.reduceLeDiff, Nat.reduceEqDiff, Nat.reduceMul, Nat.reduceSub, Nat.reduceGT, reduceIte, Int.reduceNeg, Int.reduceToNat]) |  refine And.intro ?_ ?_ | intro _))
  all_goals first | omega | exact ⟨_, _, _, rfl⟩ | exact ⟨_, _, rfl, _, _, rfl, rfl⟩ | skip
end
def ktoPr : Ctr := pur (fun args => prA args 0) (fun x => [.agg [.sl 3 (x.1.map encNode), .sl 1 (x.2.map encI)]]) (fun x => x.1.length ≤ 2097152 ∧ x.2.length ≤ 2097152) (fun d _ => .agg [.own d, .own (d + 1000)]) (fun d x => [(d, .sl 132 3 (x.1.map encNode)), (d + 1000, .sl 3 1 (x.2.map encI))])
section
noncomputable def cxToPr : Cx := { P := Tryz.prog, tys := tys, C := [(52, ktoStk), (53, k15)], hty := tysOk, hC := COk.cons ctoStk (COk.cons c15 (COk.nil _)) }
theorem cxToPr_t : cxToPr.tys = tys := rfl
theorem cxToPr_c : cxToPr.C = [(52, ktoStk), (53, k15)] := rfl
attribute [local go_sem] cxToPr_t cxToPr_c ktoStk k15
theorem ctoPr : Cn Tryz.prog 22 ktoPr := by
  refine Cn.pur Tryz.func22 (by kernel_rfl) rfl fun d x hx => ?_
  obtain ⟨N, C⟩ := x
  obtain ⟨hN, hC⟩ := hx
  simp only at hN hC ⊢
  refine Holds.go (c := cxToPr) Tryz.func22 rfl Tryz.results22 Tryz.ntmps22 (by omega) (by simp) rfl ?_
  intro X0 w0
  (repeat' (first | refine WP.seq ?_ | refine WP.block ?_ | ((first | refine WP.region ?_ | refine WP.condW ?_ | refine WP.ret ?_ | refine WP.exit ?_ | refine WP.skip ?_); simp only [go_sem, tyAll, Nat.reduceAdd, Nat.reduceLT, Nat.reduceLeDiff, Nat.reduceEqDiff, Nat.reduceMul, Nat.reduceSub, Nat.reduceGT, reduceIte, Int.reduceNeg, Int.reduceToNat]) |  refine And.intro ?_ ?_ | intro _))
  all_goals first | omega | exact ⟨_, _, _, rfl⟩ | exact ⟨_, _, rfl, _, _, rfl, rfl⟩ | (rw [if_neg (by omega)]) | skip
end
def keqStk : Ctr := pur (fun args => (stkA args 0, stkA args 1)) (fun x => [.agg [.sl 3 (x.1.map encNode)], .agg [.sl 3 (x.2.map encNode)]]) (fun x => x.1.length ≤ 4398046511104) (fun _ x => .v (.bool (decide (x.1 = x.2)))) (fun _ _ => [])
section
noncomputable def cxEqStk : Cx := { P := Tryz.prog, tys := tys, C := [(88, keqNodeS)], hty := tysOk, hC := COk.cons ceqNodeS (COk.nil _) }
theorem cxEqStk_t : cxEqStk.tys = tys := rfl
theorem cxEqStk_c : cxEqStk.C = [(88, keqNodeS)] := rfl
attribute [local go_sem] cxEqStk_t cxEqStk_c keqNodeS
theorem ceqStk : Cn Tryz.prog 55 keqStk := by
  refine Cn.pur Tryz.func55 (by kernel_rfl) rfl fun d x hx => ?_
  obtain ⟨N, M⟩ := x
  simp only at hx ⊢
  refine Holds.go (c := cxEqStk) Tryz.func55 rfl Tryz.results55 Tryz.ntmps55 (by omega) (by simp) rfl ?_
  intro X0 w0
  (repeat' (first | refine WP.seq ?_ | refine WP.block ?_ | ((first | refine WP.region ?_ | refine WP.condW ?_ | refine WP.ret ?_ | refine WP.exit ?_ | refine WP.skip ?_); simp only [go_sem, tyAll, Nat.reduceAdd, Nat.reduceLT, Nat.reduceLeDiff, Nat.reduceEqDiff, Nat.reduceMul, Nat.reduceSub, Nat.reduceGT, reduceIte, Int.reduceNeg, Int.reduceToNat]) |  refine And.intro ?_ ?_ | intro _))
  all_goals first | omega | simp_all | skip
end
def keqPr : Ctr := pur (fun args => (prA args 0, prA args 1)) (fun x => [.agg [.sl 3 (x.1.1.map encNode), .sl 1 (x.1.2.map encI)], .agg [.sl 3 (x.2.1.map encNode), .sl 1 (x.2.2.map encI)]]) (fun x => x.1.1.length ≤ 4398046511104 ∧ x.1.2.length ≤ 4398046511104)
  (fun _ x => .v (.bool (decide (x.1 = x.2)))) (fun _ _ => [])
section
noncomputable def cxEqPr : Cx := { P := Tryz.prog, tys := tys, C := [(55, keqStk), (56, k17)], hty := tysOk, hC := COk.cons ceqStk (COk.cons c17 (COk.nil _)) }
theorem cxEqPr_t : cxEqPr.tys = tys := rfl
theorem cxEqPr_c : cxEqPr.C = [(55, keqStk), (56, k17)] := rfl
attribute [local go_sem] cxEqPr_t cxEqPr_c keqStk k17
theorem ceqPr : Cn Tryz.prog 24 keqPr := by
  refine Cn.pur Tryz.func24 (by kernel_rfl) rfl fun d x hx => ?_
  obtain ⟨⟨N, C⟩, ⟨M, D⟩⟩ := x
  simp only at hx ⊢
  refine Holds.go (c := cxEqPr) Tryz.func24 rfl Tryz.results24 Tryz.ntmps24 (by omega) (by simp) rfl ?_
  intro X0 w0
  (repeat' (first | refine WP.seq ?_ | refine WP.block ?_ | ((first | refine WP.region ?_ | refine WP.condW ?_ | refine WP.ret ?_ | refine WP.exit ?_ | refine WP.skip ?_); simp only [go_sem, tyAll, Nat.reduceAdd, Nat.reduceLT, Nat.reduceLeDiff, Nat.reduceEqDiff, Nat.reduceMul, Nat.reduceSub, Nat.reduceGT, reduceIte, Int.reduceNeg, Int.reduceToNat]) |  refine And.intro ?_ ?_ | intro _))
  all_goals first | omega | simp_all | skip
end
end
section
open Go.Vc
set_option linter.unusedSimpArgs false
set_option linter.unusedVariables false
set_option maxHeartbeats 1000000
set_option maxRecDepth 10000
attribute [local irreducible] Go.Vc.WP
attribute [local go_sem] cx0_t cx0_c
attribute [local go_sem] isV_Node isV_It decNode_enc decFrame_enc oneFrame_enc stkA oneFrame_ab oneNode_abc decI_enc prA encI_inj
def kmarkStk : Ctr := len [0] [] (fun args obs => (decNode (oR obs 1000000), aI args 1)) (fun x => [.agg [.own 1000000], .v (.int .i64 x.2)]) (fun x => [(1000000, .sl 132 3 (x.1.map encNode))]) (fun x => x.1.length ≤ 4398046511104 ∧ 0 ≤ x.2 ∧ x.2 ≤ 100000000000000)
  (fun _ x => .v (.int .i64 (x.2 + 3 * x.1.length))) (fun _ _ => []) (fun x => [(1000000, .sl 132 3 ((marksNode x.2 x.1.length).map encNode))])
section
noncomputable def cxMkStk : Cx := { P := Tryz.prog, tys := tys, C := [(89, kmarkNodeS)], hty := tysOk, hC := COk.cons cmarkNodeS (COk.nil _) }
theorem cxMkStk_t : cxMkStk.tys = tys := rfl
theorem cxMkStk_c : cxMkStk.C = [(89, kmarkNodeS)] := rfl
attribute [local go_sem] cxMkStk_t cxMkStk_c kmarkNodeS
theorem cmarkStk : Cn Tryz.prog 57 kmarkStk := by
  refine Cn.len Tryz.func57 (by kernel_rfl) rfl fun d x hd hx => ?_
  obtain ⟨L, k0⟩ := x
  obtain ⟨hL, h0, h1⟩ := hx
  simp only at hL h0 h1 ⊢
  refine HoldsL.go (c := cxMkStk) Tryz.func57 rfl Tryz.results57 Tryz.ntmps57 (by omega) (by simp) rfl (by simp <;> omega) (by simp [SV.owns2, SV.owns, SV.owns1]) (by simp) rfl rfl (by simp) ?_
  intro X0 M w0
  (repeat' (first | refine WP.seq ?_ | refine WP.block ?_ | ((first | refine WP.region ?_ | refine WP.condW ?_ | refine WP.ret ?_ | refine WP.exit ?_ | refine WP.skip ?_); simp only [go_sem, tyAll, Nat.reduceAdd, Nat.reduceLT, Nat.reduceLeDiff, Nat.reduceEqDiff, Nat.reduceMul, Nat.reduceSub, Nat.reduceGT, reduceIte, Int.reduceNeg, Int.reduceToNat]) |  refine And.intro ?_ ?_ | intro _))
  all_goals first | omega | skip
end
def kheldStk : Ctr := pur (fun args => (stkA args 0, aI args 1)) (fun x => [.agg [.sl 3 (x.1.map encNode)], .v (.int .i64 x.2)]) (fun x => x.1.length ≤ 4398046511104 ∧ 0 ≤ x.2 ∧ x.2 ≤ 100000000000000)
  (fun _ x => .v (.int .i64 (if x.1 = marksNode x.2 x.1.length then x.2 + 3 * x.1.length else -1))) (fun _ _ => [])
section
noncomputable def cxHeStk : Cx := { P := Tryz.prog, tys := tys, C := [], hty := tysOk, hC := COk.nil _ }
theorem cxHeStk_t : cxHeStk.tys = tys := rfl
theorem cxHeStk_c : cxHeStk.C = [] := rfl
attribute [local go_sem] cxHeStk_t cxHeStk_c 
end
def kmarkPr : Ctr := len [0] [] (fun args obs => ((decNode (oR obs 1000000), decI (oR obs 1000001)), aI args 1)) (fun x => [.agg [.own 1000000, .own 1000001], .v (.int .i64 x.2)])
  (fun x => [(1000000, .sl 132 3 (x.1.1.map encNode)), (1000001, .sl 3 1 (x.1.2.map encI))]) (fun x => x.1.1.length ≤ 4398046511104 ∧ x.1.2.length ≤ 4398046511104 ∧ 0 ≤ x.2 ∧ x.2 ≤ 10000000000000)
  (fun _ x => .v (.int .i64 (x.2 + 3 * x.1.1.length + x.1.2.length))) (fun _ _ => []) (fun x => [(1000000, .sl 132 3 ((marksNode x.2 x.1.1.length).map encNode)), (1000001, .sl 3 1 ((marksI (x.2 + 3 * x.1.1.length) x.1.2.length).map encI))])
section
noncomputable def cxMkPr : Cx := { P := Tryz.prog, tys := tys, C := [(57, kmarkStk), (58, k18)], hty := tysOk, hC := COk.cons cmarkStk (COk.cons c18 (COk.nil _)) }
theorem cxMkPr_t : cxMkPr.tys = tys := rfl
theorem cxMkPr_c : cxMkPr.C = [(57, kmarkStk), (58, k18)] := rfl
attribute [local go_sem] cxMkPr_t cxMkPr_c kmarkStk k18
theorem cmarkPr : Cn Tryz.prog 25 kmarkPr := by
  refine Cn.len Tryz.func25 (by kernel_rfl) rfl fun d x hd hx => ?_
  obtain ⟨⟨N, C⟩, k0⟩ := x
  obtain ⟨hN, hC, h0, h1⟩ := hx
  simp only at hN hC h0 h1 ⊢
  refine HoldsL.go (c := cxMkPr) Tryz.func25 rfl Tryz.results25 Tryz.ntmps25 (by omega) (by simp) rfl (by simp <;> omega) (by simp [SV.owns2, SV.owns, SV.owns1]) (by simp) rfl rfl (by simp) ?_
  intro X0 M w0
  (repeat' (first | refine WP.seq ?_ | refine WP.block ?_ | ((first | refine WP.region ?_ | refine WP.condW ?_ | refine WP.ret ?_ | refine WP.exit ?_ | refine WP.skip ?_); simp only [go_sem, tyAll, Nat.reduceAdd, Nat.reduceLT, Nat.reduceLeDiff, Nat.reduceEqDiff, Nat.reduceMul, Nat.reduceSub, Nat.reduceGT, reduceIte, Int.reduceNeg, Int.reduceToNat]) |  refine And.intro ?_ ?_ | intro _))
  all_goals first | omega | skip
end
def kheldPr : Ctr := pur (fun args => (prA args 0, aI args 1)) (fun x => [.agg [.sl 3 (x.1.1.map encNode), .sl 1 (x.1.2.map encI)], .v (.int .i64 x.2)]) (fun x => x.1.1.length ≤ 4398046511104 ∧ x.1.2.length ≤ 4398046511104 ∧ 0 ≤ x.2 ∧ x.2 ≤ 10000000000000)
  (fun _ x => .v (.int .i64 (if x.1.1 = marksNode x.2 x.1.1.length ∧ x.1.2 = marksI (x.2 + 3 * x.1.1.length) x.1.2.length then x.2 + 3 * x.1.1.length + x.1.2.length else -1))) (fun _ _ => [])
section
noncomputable def cxHePr : Cx := { P := Tryz.prog, tys := tys, C := [], hty := tysOk, hC := COk.nil _ }
theorem cxHePr_t : cxHePr.tys = tys := rfl
theorem cxHePr_c : cxHePr.C = [] := rfl
attribute [local go_sem] cxHePr_t cxHePr_c 
end
end
section
open Go.Vc
set_option linter.unusedSimpArgs false
set_option linter.unusedVariables false
set_option maxHeartbeats 1000000
set_option maxRecDepth 10000
attribute [local irreducible] Go.Vc.WP
attribute [local go_sem] cx0_t cx0_c
attribute [local go_sem] isV_Node isV_It isV_Entry decNode_enc decFrame_enc oneFrame_enc stkA oneFrame_ab oneNode_abc decI_enc decS_enc aU prA decEntry_enc St.fzS addL behind encI_inj
theorem sumE_take_le {E : List Entry} (h : ∀ e ∈ E, 0 ≤ e.count) (k : Nat) : 0 ≤ sumE (E.take k) ∧ sumE (E.take k) ≤ sumE E := by
  have h1 : sumE E = sumE (E.take k) + sumE (E.drop k) := by
    unfold sumE; rw [← List.sum_append, ← List.map_append, List.take_append_drop]
  have h2 : 0 ≤ sumE (E.drop k) := sum_nonneg fun x hx => by
    obtain ⟨e, he, rfl⟩ := List.mem_map.1 hx
    exact h e (List.mem_of_mem_drop he)
  have h3 : 0 ≤ sumE (E.take k) := sum_nonneg fun x hx => by
    obtain ⟨e, he, rfl⟩ := List.mem_map.1 hx
    exact h e (List.mem_of_mem_take he)
  omega
theorem ent_pos {N : List Node} {C : List Int} : ∀ e ∈ entriesOf N C, 0 ≤ e.count := fun e he => by obtain ⟨_, k, _, _, _, h, _⟩ := entriesOf_mem he; omega
theorem keep_sum (N : List Node) (C : List Int) (p : Entry → Bool) (k : Nat) : 0 ≤ sumE (((entriesOf N C).take k).filter p) ∧ sumE (((entriesOf N C).take k).filter p) ≤ totalOf N C := by
  obtain ⟨h1, h2⟩ := sumE_take_le (E := entriesOf N C) ent_pos k
  obtain ⟨h3, h4⟩ := sum_filter_le (p := p) (L := (entriesOf N C).take k) fun e he => ent_pos e (List.mem_of_mem_take he)
  rw [sumE_entries] at h2
  omega
theorem tdiv_rng {a b : Int} (h0 : 0 ≤ a) (h1 : a ≤ 1000000000000000) (hb : 0 < b) : 0 ≤ Int.tdiv a b ∧ Int.tdiv a b ≤ 1000000000000000 := by
  rw [Int.tdiv_eq_ediv_of_nonneg h0]
  exact ⟨Int.ediv_nonneg h0 (by omega), Int.le_trans (Int.ediv_le_self _ h0) h1⟩
def shareOf (N : List Node) (C : List Int) (s : ByteArray) : Int := if totalOf N C = 0 then 0 else Int.tdiv (1000 * sumE ((entriesOf N C).filter (keepS s true))) (totalOf N C)
theorem allV_NodeY (L : List Node) : allV (L.map encNode) := allV_map (fun x c hc => by
  simp only [encNode, List.mem_cons, List.not_mem_nil, or_false] at hc
  rcases hc with rfl | rfl | rfl <;> exact ⟨_, rfl⟩) L
theorem allV_IY (L : List Int) : allV (L.map encI) := allV_map (fun x c hc => by
  simp only [encI, List.mem_cons, List.not_mem_nil, or_false] at hc
  exact ⟨_, hc⟩) L
def kFocZ : Ctr := pur (fun args => (prA args 0, aS args 1)) (fun x => [.agg [.sl 3 (x.1.1.map encNode), .sl 1 (x.1.2.map encI)], .v (.string x.2)])
  (fun x => (x.1.1.length ≤ 1048576 ∧ ∀ n ∈ x.1.1, n.name.size ≤ 1048576) ∧ x.1.2.length ≤ 1048576)
  (fun _ x => .agg [.sl 3 ((mapP (pick x.2 true) x.1.1 x.1.2).1.map encNode), .sl 1 ((mapP (pick x.2 true) x.1.1 x.1.2).2.map encI)]) (fun _ _ => [])
def kShare : Ctr := pur (fun args => (prA args 0, aS args 1)) (fun x => [.agg [.sl 3 (x.1.1.map encNode), .sl 1 (x.1.2.map encI)], .v (.string x.2)])
  (fun x => (x.1.1.length ≤ 1048576 ∧ ∀ n ∈ x.1.1, n.name.size ≤ 1048576) ∧ x.1.2.length ≤ 1048576) (fun _ x => .v (.int .i64 (shareOf x.1.1 x.1.2 x.2))) (fun _ _ => [])
section
noncomputable def cxShS : Cx := { P := Tryz.prog, tys := tys, C := [(13, kTotal)], hty := tysOk, hC := COk.cons cTotalS (COk.nil _) }
theorem cxShS_t : cxShS.tys = tys := rfl
theorem cxShS_c : cxShS.C = [(13, kTotal)] := rfl
attribute [local go_sem] cxShS_t cxShS_c kTotal
end
section
noncomputable def cxShI : Cx := { P := Tryz.prog, tys := tys, C := [(35, kTotal), (36, kEntZ), (37, kParseZ), (38, kNamed)], hty := tysOk, hC := COk.cons cTotalI (COk.cons cEntZI (COk.cons cParseZI (COk.cons cNamed (COk.nil _)))) }
theorem cxShI_t : cxShI.tys = tys := rfl
theorem cxShI_c : cxShI.C = [(35, kTotal), (36, kEntZ), (37, kParseZ), (38, kNamed)] := rfl
attribute [local go_sem] cxShI_t cxShI_c kTotal kEntZ kParseZ kNamed
theorem cShareI : Cn Tryz.prog 12 kShare := by
  refine Cn.pur Tryz.func12 (by kernel_rfl) rfl fun d x hx => ?_
  obtain ⟨⟨N, C⟩, s⟩ := x
  obtain ⟨⟨hN, hs⟩, hC⟩ := hx
  simp only at hN hs hC ⊢
  have htb := totalOf_bound N C
  have hlen := entriesOf_len N C
  refine Holds.go (c := cxShI) Tryz.func12 rfl Tryz.results12 Tryz.ntmps12 (by omega) (by simp) rfl ?_
  intro X0 w0
  by_cases h0 : totalOf N C = 0
  · have hr : shareOf N C s = 0 := if_pos h0
    (repeat' (first | refine WP.seq ?_ | refine WP.block ?_ | ((first | refine WP.region ?_ | refine WP.condW ?_ | refine WP.ret ?_ | refine WP.exit ?_ | refine WP.skip ?_); simp only [go_sem, h0, hr, tyAll, Nat.reduceAdd, Nat.reduceLT, Nat.reduceLeDiff, Nat.reduceEqDiff, Nat.reduceMul, Nat.reduceSub, Nat.reduceGT, reduceIte, Int.reduceNeg, Int.reduceToNat]) |  refine And.intro ?_ ?_ | intro _))
    all_goals first | omega | (simp only; omega) | exact Nat.le_trans (hs _ ‹_›) (by omega) | skip
    all_goals trace_state
  have hr : shareOf N C s = Int.tdiv (1000 * sumE ((entriesOf N C).filter (keepS s true))) (totalOf N C) := if_neg h0
  rw [hr]
  (repeat' (first | refine WP.seq ?_ | refine WP.block ?_ | ((first | refine WP.region ?_ | refine WP.condW ?_ | refine WP.ret ?_ | refine WP.exit ?_ | refine WP.skip ?_); simp only [go_sem, h0, tyAll, Nat.reduceAdd, Nat.reduceLT, Nat.reduceLeDiff, Nat.reduceEqDiff, Nat.reduceMul, Nat.reduceSub, Nat.reduceGT, reduceIte, Int.reduceNeg, Int.reduceToNat]) |  refine And.intro ?_ ?_ | intro _))
  all_goals first | omega | (simp only; omega) | exact Nat.le_trans (hs _ ‹_›) (by omega) | skip
  refine WP.loop (fun k : Nat => ⟨[(1, .v (.string s)), (5, .v (.int .i64 (totalOf N C))), (6, .v (.int .i64 (sumE (((entriesOf N C).take k).filter (keepS s true))))), (16, .sl 2 ((entriesOf N C).map encEntry)), (17, .v (.int .i64 (entriesOf N C).length)), (18, .v (.int .i64 k))], []⟩)
    (fun k => k ≤ (entriesOf N C).length) (fun k => (entriesOf N C).length - k) 0 (by simp) ?_ ?_
  · (simp only [go_sem, tyAll, Nat.reduceAdd, Nat.reduceLT, Nat.reduceLeDiff, Nat.reduceEqDiff, Nat.reduceMul, Nat.reduceSub, Nat.reduceGT, reduceIte, Int.reduceNeg, Int.reduceToNat] <;> (first | rfl | exact ⟨rfl, rfl⟩ | exact ⟨rfl, rfl, rfl⟩ | exact ⟨rfl, rfl, rfl, rfl⟩ | exact ⟨rfl, rfl, rfl, rfl, rfl⟩ | exact ⟨⟨rfl, rfl⟩, rfl⟩ | simp))
  intro k hk
  have hsb := keep_sum N C (keepS s true) k
  by_cases hlt : k < (entriesOf N C).length
  · have hli : (k : Int) < (entriesOf N C).length := by omega
    have h1 := rowAt_map encEntry (entriesOf N C) k hlt
    have hm := List.getElem_mem hlt
    obtain ⟨z1, z2, z3⟩ := ent_sizes hN hm
    have hsu := fl_succ (keepS s true) hlt
    have hsb' := keep_sum N C (keepS s true) (k + 1)
    have hfr : (parseF (entriesOf N C)[k].stack).getD [] = frsE (entriesOf N C)[k] := rfl
    cases hq : keepS s true (entriesOf N C)[k] with
    | true =>
      have hq' : 0 ≤ idxF s (frsE (entriesOf N C)[k]) := by simpa [keepS] using hq
      rw [hq, if_pos rfl] at hsu
      have hse : sumE (((entriesOf N C).take (k + 1)).filter (keepS s true)) = sumE (((entriesOf N C).take k).filter (keepS s true)) + (entriesOf N C)[k].count := by
        rw [hsu]; unfold sumE; rw [List.map_append, List.sum_append]; simp
      rw [hse] at hsb'
      (repeat' (first | refine WP.seq ?_ | refine WP.block ?_ | ((first | refine WP.region ?_ | refine WP.condW ?_ | refine WP.ret ?_ | refine WP.exit ?_ | refine WP.skip ?_); simp only [go_sem, hli, h1, encEntry, hfr, hq', tyAll, Nat.reduceAdd, Nat.reduceLT, Nat.reduceLeDiff, Nat.reduceEqDiff, Nat.reduceMul, Nat.reduceSub, Nat.reduceGT, reduceIte, Int.reduceNeg, Int.reduceToNat]) |  refine And.intro ?_ ?_ | intro _))
      all_goals first | omega | (simp only; omega) | exact ⟨_, _, _, rfl⟩ | skip
      all_goals first | exact ⟨k + 1, by omega, by omega, by simp only [hse]; (first | rfl | exact ⟨rfl, rfl⟩ | exact ⟨rfl, rfl, rfl⟩ | exact ⟨rfl, rfl, rfl, rfl⟩ | exact ⟨rfl, rfl, rfl, rfl, rfl⟩ | exact ⟨⟨rfl, rfl⟩, rfl⟩ | simp)⟩ | trace_state
    | false =>
      have hq' : ¬ 0 ≤ idxF s (frsE (entriesOf N C)[k]) := by simpa [keepS] using hq
      rw [hq, if_neg (by simp), List.append_nil] at hsu
      (repeat' (first | refine WP.seq ?_ | refine WP.block ?_ | ((first | refine WP.region ?_ | refine WP.condW ?_ | refine WP.ret ?_ | refine WP.exit ?_ | refine WP.skip ?_); simp only [go_sem, hli, h1, encEntry, hfr, hq', tyAll, Nat.reduceAdd, Nat.reduceLT, Nat.reduceLeDiff, Nat.reduceEqDiff, Nat.reduceMul, Nat.reduceSub, Nat.reduceGT, reduceIte, Int.reduceNeg, Int.reduceToNat]) |  refine And.intro ?_ ?_ | intro _))
      all_goals first | omega | (simp only; omega) | exact ⟨_, _, _, rfl⟩ | skip
      all_goals first | exact ⟨k + 1, by omega, by omega, by simp only [hsu]; (first | rfl | exact ⟨rfl, rfl⟩ | exact ⟨rfl, rfl, rfl⟩ | exact ⟨rfl, rfl, rfl, rfl⟩ | exact ⟨rfl, rfl, rfl, rfl, rfl⟩ | exact ⟨⟨rfl, rfl⟩, rfl⟩ | simp)⟩ | trace_state
  · have hge : ¬ (k : Int) < (entriesOf N C).length := by omega
    have hke : k = (entriesOf N C).length := by omega
    subst hke
    rw [List.take_length] at hsb ⊢
    have hdv := tdiv_rng (a := 1000 * sumE ((entriesOf N C).filter (keepS s true))) (b := totalOf N C) (by omega) (by omega) (by omega)
    (repeat' (first | refine WP.seq ?_ | refine WP.block ?_ | ((first | refine WP.region ?_ | refine WP.condW ?_ | refine WP.ret ?_ | refine WP.exit ?_ | refine WP.skip ?_); simp only [go_sem, hge, tyAll, Nat.reduceAdd, Nat.reduceLT, Nat.reduceLeDiff, Nat.reduceEqDiff, Nat.reduceMul, Nat.reduceSub, Nat.reduceGT, reduceIte, Int.reduceNeg, Int.reduceToNat]) |  refine And.intro ?_ ?_ | intro _))
    all_goals first | omega | skip
    all_goals trace_state
end
section
noncomputable def cxShL : Cx := { P := Tryz.prog, tys := tys, C := [(20, kszPr), (22, ktoPr), (24, keqPr), (12, kShare)], hty := tysOk, hC := COk.cons cszPr (COk.cons ctoPr (COk.cons ceqPr (COk.cons cShareI (COk.nil _)))) }
theorem cxShL_t : cxShL.tys = tys := rfl
theorem cxShL_c : cxShL.C = [(20, kszPr), (22, ktoPr), (24, keqPr), (12, kShare)] := rfl
attribute [local go_sem] cxShL_t cxShL_c kszPr ktoPr keqPr kShare
end
end
section
open Go.Vc
set_option linter.unusedSimpArgs false
set_option linter.unusedVariables false
set_option maxHeartbeats 1000000
set_option maxRecDepth 10000
attribute [local irreducible] Go.Vc.WP
attribute [local go_sem] cx0_t cx0_c
open Go.Pl
attribute [local go_sem] isV_Node isV_It isV_Entry decNode_enc decFrame_enc oneFrame_enc stkA oneFrame_ab oneNode_abc decI_enc prA encI_inj decU_enc decFS_enc tmA tm_eta St.runO St.stepO St.runFz St.fzAt
theorem pr_names {P : Pr} (h : profileOk P.1 P.2 = true) : ∀ x ∈ P.1, x.name.size ≤ 8 := by
  intro x hx
  obtain ⟨k, hk, rfl⟩ := List.mem_iff_getElem.1 hx
  have h1 := stacksOk_at (profileOk_iff.1 h).1 k hk
  unfold stNode at h1
  simp only [Bool.and_eq_true, decide_eq_true_eq] at h1
  have h2 : nameOk P.1[k].name = true := by
    first
    | exact (frOk_iff.1 h1.1.2).1
    | exact (frOk_iff.1 h1.2.1).1
    | simp_all [frOk, nodeFr]
  exact (nameOk_letters h2).2.2
def kFiresZ : Ctr := pur (fun args => (tmA args 0, aI args 1)) (fun x => [.agg [.v (.int .i64 x.1.period), .v (.int .i64 x.1.spread), .v (.int .i64 x.1.left), .v (.int .i64 x.1.state)], .v (.int .i64 x.2)]) (fun _ => True)
  (fun _ x => .sl 1 ((if 0 ≤ x.2 ∧ x.2 ≤ 3000 then firesK x.1 x.2.toNat else []).map encI)) (fun _ _ => [])
theorem cFiresZ : Cn Tryz.prog 8 kFiresZ := Cn.frozen (fun x => allV_I _) cFiresS
def kWZ : Ctr := pur (fun args => decI (aR args 0)) (fun L => [.sl 1 (L.map encI)]) (fun L => L.length ≤ 2097152) (fun _ L => .sl 1 ((weights L).map encI)) (fun _ _ => [])
theorem cWZ : Cn Tryz.prog 9 kWZ := Cn.frozen (fun x => allV_I _) cW2
theorem asc_fires (x : Tm) : Asc1 (firesK x 100) := ⟨firesK_asc x 100, fun y hy => by have := firesK_mem x 100 y hy; omega, firesK_len x 100⟩
theorem share_main {P : Pr} {n : Nat} {T : Int} (h : DrW P n T) (h0 : 0 ≤ T) : shareOf P.1 P.2 nMain = if T = 0 then 0 else 1000 := by
  have ht : totalOf P.1 P.2 = T := by unfold totalOf; rw [if_pos h.ok]; exact h.sum
  unfold shareOf
  rw [ht]
  by_cases hT : T = 0
  · rw [if_pos hT, if_pos hT]
  · rw [if_neg hT, if_neg hT]
    have hf : (entriesOf P.1 P.2).filter (keepS nMain true) = entriesOf P.1 P.2 := by
      rw [List.filter_eq_self]
      intro e he
      obtain ⟨f, R, h1, h2, _⟩ := (h.ents e he).head
      unfold keepS
      rw [beq_true, decide_eq_true_eq]
      rcases Int.lt_or_le (idxF nMain (frsE e)) 0 with hn | hn
      · exfalso
        have := firstIdx_neg hn f (by rw [h1]; exact List.mem_cons_self)
        simp [hasName, h2] at this
      · exact hn
    rw [hf, sumE_entries, ht]
    exact Int.mul_tdiv_cancel 1000 hT
theorem share_le {P : Pr} {n : Nat} {T : Int} (h : DrW P n T) (h0 : 0 ≤ T) (s : ByteArray) : shareOf P.1 P.2 s ≤ 1000 := by
  have ht : totalOf P.1 P.2 = T := by unfold totalOf; rw [if_pos h.ok]; exact h.sum
  unfold shareOf
  rw [ht]
  by_cases hT : T = 0
  · rw [if_pos hT]; omega
  · rw [if_neg hT]
    have h1 := keep_sum P.1 P.2 (keepS s true) (entriesOf P.1 P.2).length
    rw [List.take_length, ht] at h1
    rw [Int.tdiv_eq_ediv_of_nonneg (by omega)]
    exact Int.ediv_le_of_le_mul (by omega) (by omega)
section
noncomputable def cxLWts : Cx := { P := Tryz.prog, tys := tys, C := [(6, kBig), (7, kDrawTm), (8, kFiresZ), (9, kWZ), (10, kDrawS), (11, kWg), (12, kShare), (13, kTotal)], hty := tysOk, hC := COk.cons cBig (COk.cons cDrawTm (COk.cons cFiresZ (COk.cons cWZ (COk.cons cDrawS (COk.cons cWgI (COk.cons cShareI (COk.cons cTotalS (COk.nil _)))))))) }
theorem cxLWts_t : cxLWts.tys = tys := rfl
theorem cxLWts_c : cxLWts.C = [(6, kBig), (7, kDrawTm), (8, kFiresZ), (9, kWZ), (10, kDrawS), (11, kWg), (12, kShare), (13, kTotal)] := rfl
attribute [local go_sem] cxLWts_t cxLWts_c kBig kDrawTm kFiresZ kWZ kDrawS kWg kShare kTotal
set_option maxHeartbeats 3000000 in
theorem lawWeights (b : List Int) (hb : b.length ≤ maxLen) (hz : ∀ z ∈ b, IntKind.u8.min ≤ z ∧ z ≤ IntKind.u8.max) : Holds Tryz.prog 3 [.sl 1 (b.map encU)] (.v (.bool true)) [] := by
  have hm : maxLen = 9223372036854775807 := rfl
  have hz' : ∀ z ∈ b, 0 ≤ z ∧ z ≤ 255 := fun z h => hz z h
  refine Holds.go (c := cxLWts) Tryz.func3 rfl Tryz.results3 Tryz.ntmps3 (by omega) (by simp) rfl ?_
  intro X0 w0
  by_cases hbig : 1048576 < (b.length : Int)
  · (repeat' (first | refine WP.seq ?_ | refine WP.block ?_ | ((first | refine WP.region ?_ | refine WP.condW ?_ | refine WP.ret ?_ | refine WP.exit ?_ | refine WP.skip ?_); simp only [go_sem, hbig, tyAll, Nat.reduceAdd, Nat.reduceLT, Nat.reduceLeDiff, Nat.reduceEqDiff, Nat.reduceMul, Nat.reduceSub, Nat.reduceGT, reduceIte, Int.reduceNeg, Int.reduceToNat]) |  refine And.intro ?_ ?_ | intro _))
    all_goals first | omega | skip
    all_goals trace_state
  have hb1 : b.length ≤ 1048576 := by omega
  obtain ⟨F, hF⟩ : ∃ F, firesK (tmD (newC b)) 100 = F := ⟨_, rfl⟩
  have hA : Asc1 F := by rw [← hF]; exact asc_fires _
  have c100 : ((0 : Int) ≤ 100) = True := eq_true (by omega)
  have c3000 : ((100 : Int) ≤ 3000) = True := eq_true (by omega)
  obtain ⟨w1, w2, w3, w4, w5⟩ := weights_asc hA
  have hFl := hA.len
  obtain ⟨W, hW⟩ : ∃ W, weights F = W := ⟨_, rfl⟩
  rw [hW] at w1 w2 w3 w4 w5
  obtain ⟨S, hS⟩ : ∃ S, drawS b = S := ⟨_, rfl⟩
  obtain ⟨s1, s2⟩ := drawS_ok hb1 hz'
  rw [hS] at s1 s2
  have wsum : ∀ k, k ≤ W.length → 0 ≤ (W.take k).sum ∧ (W.take k).sum ≤ W.sum := fun k hk => by
    have nn : ∀ Q : List Int, (∀ w ∈ Q, 1 ≤ w) → 0 ≤ Q.sum := by
      intro Q
      induction Q with
      | nil => intro _; simp
      | cons x Q ih =>
        intro h
        have h1 := h x List.mem_cons_self
        have h2 := ih fun y hy => h y (List.mem_cons_of_mem _ hy)
        rw [List.sum_cons]; omega
    have g1 := nn (W.take k) fun w hw => w2 w (List.mem_of_mem_take hw)
    have g2 := nn (W.drop k) fun w hw => w2 w (List.mem_of_mem_drop hw)
    have g3 : W.sum = (W.take k).sum + (W.drop k).sum := by
      conv => lhs; rw [← List.take_append_drop k W]
      rw [List.sum_append]
    omega
  (repeat' (first | refine WP.seq ?_ | refine WP.block ?_ | ((first | refine WP.region ?_ | refine WP.condW ?_ | refine WP.ret ?_ | refine WP.exit ?_ | refine WP.skip ?_); simp only [go_sem, hbig, c100, c3000, hF, hW, hS, tyAll, Nat.reduceAdd, Nat.reduceLT, Nat.reduceLeDiff, Nat.reduceEqDiff, Nat.reduceMul, Nat.reduceSub, Nat.reduceGT, reduceIte, Int.reduceNeg, Int.reduceToNat]) |  refine And.intro ?_ ?_ | intro _))
  all_goals first | omega | exact (hz' _ ‹_›).1 | exact (hz' _ ‹_›).2 | skip
  refine WP.loop (fun k : Nat => ⟨[(4, .sl 1 (F.map encI)), (5, .sl 1 (W.map encI)), (6, .own 22), (7, .v (.int .i64 (W.take k).sum)), (8, .own 23), (9, .v (.int .i64 k))], [(22, .sl 34 1 (S.map encFS)), (23, .sl 34 1 ((bases k).map encFS))]⟩)
    (fun k => k ≤ W.length) (fun k => W.length - k) 0 (by simp) ?_ ?_
  · have h0 : bases 0 = [] := rfl
    (simp only [go_sem, h0, tyAll, Nat.reduceAdd, Nat.reduceLT, Nat.reduceLeDiff, Nat.reduceEqDiff, Nat.reduceMul, Nat.reduceSub, Nat.reduceGT, reduceIte, Int.reduceNeg, Int.reduceToNat] <;> (first | rfl | exact ⟨rfl, rfl⟩ | exact ⟨rfl, rfl, rfl⟩ | exact ⟨rfl, rfl, rfl, rfl⟩ | exact ⟨rfl, rfl, rfl, rfl, rfl⟩ | exact ⟨⟨rfl, rfl⟩, rfl⟩ | simp))
  intro k hk
  have gk := wsum k hk
  have gbl := bases_len k
  by_cases hlt : k < W.length
  · have hli : (k : Int) < W.length := by omega
    have h1 := rowAt_map encI W k hlt
    have hw1 : ¬ W[k] < 1 := by have := w2 _ (List.getElem_mem hlt); omega
    have gk1 := wsum (k + 1) (by omega)
    have hsu : (W.take (k + 1)).sum = (W.take k).sum + W[k] := by rw [List.take_succ_eq_append_getElem hlt, List.sum_append]; simp
    have h5 : 0 ≤ (k : Int).tmod 5 ∧ (k : Int).tmod 5 < 5 := ⟨Int.tmod_nonneg _ (by omega), Int.tmod_lt_of_pos _ (by omega)⟩
    have hbs : (bases (k + 1)).map encFS = (bases k).map encFS ++ [[.sl 2 [[.v (.string ⟨#[109, 97, 105, 110]⟩), .v (.int .i64 (1 + (k : Int).tmod 5))]]]] := by
      rw [bases_succ, List.map_append]; rfl
    (repeat' (first | (refine WP.regionF (id := 13) [(6, [41])] ?_; simp only [go_sem, hli, h1, encI, hw1, tyAll, Nat.reduceAdd, Nat.reduceLT, Nat.reduceLeDiff, Nat.reduceEqDiff, Nat.reduceMul, Nat.reduceSub, Nat.reduceGT, reduceIte, Int.reduceNeg, Int.reduceToNat]) | refine WP.seq ?_ | refine WP.block ?_ | ((first | refine WP.region ?_ | refine WP.condW ?_ | refine WP.ret ?_ | refine WP.exit ?_ | refine WP.skip ?_); simp only [go_sem, hli, h1, encI, hw1, tyAll, Nat.reduceAdd, Nat.reduceLT, Nat.reduceLeDiff, Nat.reduceEqDiff, Nat.reduceMul, Nat.reduceSub, Nat.reduceGT, reduceIte, Int.reduceNeg, Int.reduceToNat]) |  refine And.intro ?_ ?_ | intro _))
    all_goals first | omega | exact ⟨_, _, _, rfl⟩ | skip
    all_goals first | exact ⟨k + 1, by omega, by omega, by rw [hsu, hbs]; (first | rfl | exact ⟨rfl, rfl⟩ | exact ⟨rfl, rfl, rfl⟩ | exact ⟨rfl, rfl, rfl, rfl⟩ | exact ⟨rfl, rfl, rfl, rfl, rfl⟩ | exact ⟨⟨rfl, rfl⟩, rfl⟩ | simp)⟩ | trace_state
  · have hge : ¬ (k : Int) < W.length := by omega
    obtain rfl : k = W.length := by omega
    rw [List.take_length]
    obtain ⟨B, hB⟩ : ∃ B, bases W.length = B := ⟨_, rfl⟩
    have b1 : B.length = W.length := by rw [← hB]; exact bases_len _
    have b2 : ∀ G ∈ B, Drawn G := by rw [← hB]; exact bases_drawn _
    rw [hB]
    (repeat' (first | refine WP.seq ?_ | refine WP.block ?_ | ((first | refine WP.region ?_ | refine WP.condW ?_ | refine WP.ret ?_ | refine WP.exit ?_ | refine WP.skip ?_); simp only [go_sem, hge, tyAll, Nat.reduceAdd, Nat.reduceLT, Nat.reduceLeDiff, Nat.reduceEqDiff, Nat.reduceMul, Nat.reduceSub, Nat.reduceGT, reduceIte, Int.reduceNeg, Int.reduceToNat]) |  refine And.intro ?_ ?_ | intro _))
    all_goals first | omega | skip
    refine WP.loop (fun j : Nat => ⟨[(4, .sl 1 (F.map encI)), (5, .sl 1 (W.map encI)), (6, .own 22), (7, .v (.int .i64 W.sum)), (8, .own 23), (10, .v (.int .i64 j))], [(22, .sl 34 1 (S.map encFS)), (23, .sl 34 1 ((mixS S B j).map encFS))]⟩)
      (fun j => j ≤ S.length ∧ j ≤ B.length) (fun j => S.length - j) 0 (by simp) ?_ ?_
    · have h0 : mixS S B 0 = B := mixS_zero S B
      (simp only [go_sem, h0, tyAll, Nat.reduceAdd, Nat.reduceLT, Nat.reduceLeDiff, Nat.reduceEqDiff, Nat.reduceMul, Nat.reduceSub, Nat.reduceGT, reduceIte, Int.reduceNeg, Int.reduceToNat] <;> (first | rfl | exact ⟨rfl, rfl⟩ | exact ⟨rfl, rfl, rfl⟩ | exact ⟨rfl, rfl, rfl, rfl⟩ | exact ⟨rfl, rfl, rfl, rfl, rfl⟩ | exact ⟨⟨rfl, rfl⟩, rfl⟩ | simp))
    intro j ⟨hj1, hj2⟩
    have hml := mixS_len hj1 hj2
    by_cases hc : j < S.length ∧ j < B.length
    · obtain ⟨c1, c2⟩ := hc
      have ci1 : (j : Int) < S.length := by omega
      have ci2 : (j : Int) < (mixS S B j).length := by omega
      have h2 := rowAt_map encFS S j c1
      have hst : ((mixS S B j).map encFS).set j [.sl 2 (S[j].map encFrame)] = (mixS S B (j + 1)).map encFS := by
        rw [← mixS_set c1 c2, List.map_set]; rfl
      have htl : (Go.Vc.rowAt ((mixS S B j).map encFS) j).tail = [] := by rw [rowAt_map encFS _ j (by omega)]; rfl
      have htl' : List.drop 1 (Go.Vc.rowAt ((mixS S B j).map encFS) j) = [] := by rw [rowAt_map encFS _ j (by omega)]; rfl
      (repeat' (first | refine WP.seq ?_ | refine WP.block ?_ | ((first | refine WP.region ?_ | refine WP.condW ?_ | refine WP.ret ?_ | refine WP.exit ?_ | refine WP.skip ?_); simp only [go_sem, ci1, ci2, h2, encFS, tyAll, Nat.reduceAdd, Nat.reduceLT, Nat.reduceLeDiff, Nat.reduceEqDiff, Nat.reduceMul, Nat.reduceSub, Nat.reduceGT, reduceIte, Int.reduceNeg, Int.reduceToNat]) |  refine And.intro ?_ ?_ | intro _))
      all_goals first | omega | exact ⟨_, _, _, rfl⟩ | skip
      all_goals first | exact ⟨j + 1, by omega, by omega, by rw [Int.natCast_add]; rfl, by rw [show List.drop 1 (Go.Vc.rowAt ((mixS S B j).map encFS) j) = [] from htl', hst]⟩ | trace_state
    · obtain ⟨A, hAe⟩ : ∃ A, mixS S B j = A := ⟨_, rfl⟩
      have a1 : A.length = W.length := by rw [← hAe]; omega
      have a2 : ∀ G ∈ A, Drawn G := by rw [← hAe]; exact mixS_drawn s1 b2 j
      obtain ⟨q, hq, hD⟩ := weigh_ok a1 a2 w2 (by omega)
      have hDn := pr_names hD.ok
      have hDl := hD.len
      have hDc := (profileOk_iff.1 hD.ok).2.1
      have hT : totalOf q.1 q.2 = W.sum := by unfold totalOf; rw [if_pos hD.ok]; exact hD.sum
      have hws := (wsum W.length (Nat.le_refl _)).1
      rw [List.take_length] at hws
      have hsm := share_main hD hws
      have hsf := share_le hD hws ⟨#[102]⟩
      have hsz : ∀ n ∈ q.1, n.name.size ≤ 1048576 := fun n hn => Nat.le_trans (hDn n hn) (by omega)
      have hpre : ∀ G ∈ A, G.length ≤ 1048576 ∧ ∀ f ∈ G, f.name.size ≤ 1048576 := fun G hG => by
        have g := a2 G hG
        refine ⟨Nat.le_trans g.len (by omega), fun f hf => ?_⟩
        have := (nameOk_letters (frOk_iff.1 (List.all_eq_true.1 g.ok f hf)).1).2.2
        omega
      have hnm : nMain = ⟨#[109, 97, 105, 110]⟩ := rfl
      rw [hnm] at hsm
      rw [hAe] at hml ⊢
      have hcF : ¬ ((j : Int) < S.length ∧ (j : Int) < A.length) := fun h => hc ⟨by omega, by omega⟩
      have hAl : A.length ≤ 1048576 := by omega
      by_cases hF0 : F.length = 0
      · have hF1 : (F.length : Int) = 0 := by omega
        have hW0 : W = [] := w5 hF0
        have hT0 : W.sum = 0 := by rw [hW0]; rfl
        rw [if_pos hT0] at hsm
        have hWl : (W.length : Int) = 0 := by rw [hW0]; rfl
        by_cases c1 : (j : Int) < S.length
        · have c2 : ¬ (j : Int) < A.length := fun h => hcF ⟨c1, h⟩
          (repeat' (first | refine WP.seq ?_ | refine WP.block ?_ | ((first | refine WP.region ?_ | refine WP.condW ?_ | refine WP.ret ?_ | refine WP.exit ?_ | refine WP.skip ?_); simp only [go_sem, c1, c2, hq, hF1, hWl, hsm, tyAll, Nat.reduceAdd, Nat.reduceLT, Nat.reduceLeDiff, Nat.reduceEqDiff, Nat.reduceMul, Nat.reduceSub, Nat.reduceGT, reduceIte, Int.reduceNeg, Int.reduceToNat]) |  refine And.intro ?_ ?_ | intro _))
          all_goals first | omega | (simp only; omega) | exact (hpre _ ‹_›).1 | exact (hpre _ ‹_›).2 _ ‹_› | exact hsz _ ‹_› | exact Nat.le_trans (hsz _ ‹_›) (by omega) | rfl | skip
          all_goals trace_state
        · (repeat' (first | refine WP.seq ?_ | refine WP.block ?_ | ((first | refine WP.region ?_ | refine WP.condW ?_ | refine WP.ret ?_ | refine WP.exit ?_ | refine WP.skip ?_); simp only [go_sem, c1, hq, hF1, hWl, hsm, tyAll, Nat.reduceAdd, Nat.reduceLT, Nat.reduceLeDiff, Nat.reduceEqDiff, Nat.reduceMul, Nat.reduceSub, Nat.reduceGT, reduceIte, Int.reduceNeg, Int.reduceToNat]) |  refine And.intro ?_ ?_ | intro _))
          all_goals first | omega | (simp only; omega) | exact (hpre _ ‹_›).1 | exact (hpre _ ‹_›).2 _ ‹_› | exact hsz _ ‹_› | exact Nat.le_trans (hsz _ ‹_›) (by omega) | rfl | skip
          all_goals trace_state
      · have hF1 : ¬ (F.length : Int) = 0 := by omega
        obtain ⟨m, hm1⟩ : ∃ m, F.length = m + 1 := ⟨F.length - 1, by omega⟩
        have hml2 : m < F.length := by omega
        have hsum : W.sum = F[m] + 1 := w4 m hml2 (by omega)
        have hT0 : ¬ W.sum = 0 := by have := hA.bd _ (List.getElem_mem hml2); omega
        rw [if_neg hT0] at hsm
        have hFm : (F.length : Int) - 1 = m := by omega
        have hmi : (m : Int) < F.length := by omega
        have hr := rowAt_map encI F m hml2
        have hbm := hA.bd _ (List.getElem_mem hml2)
        by_cases c1 : (j : Int) < S.length
        · have c2 : ¬ (j : Int) < A.length := fun h => hcF ⟨c1, h⟩
          (repeat' (first | refine WP.seq ?_ | refine WP.block ?_ | ((first | refine WP.region ?_ | refine WP.condW ?_ | refine WP.ret ?_ | refine WP.exit ?_ | refine WP.skip ?_); simp only [go_sem, c1, c2, hq, hF1, hFm, hmi, hr, encI, hT, hsum, hsm, hsf, tyAll, Nat.reduceAdd, Nat.reduceLT, Nat.reduceLeDiff, Nat.reduceEqDiff, Nat.reduceMul, Nat.reduceSub, Nat.reduceGT, reduceIte, Int.reduceNeg, Int.reduceToNat]) |  refine And.intro ?_ ?_ | intro _))
          all_goals first | omega | (simp only; omega) | exact (hpre _ ‹_›).1 | exact (hpre _ ‹_›).2 _ ‹_› | exact hsz _ ‹_› | exact Nat.le_trans (hsz _ ‹_›) (by omega) | rfl | skip
          all_goals trace_state
        · (repeat' (first | refine WP.seq ?_ | refine WP.block ?_ | ((first | refine WP.region ?_ | refine WP.condW ?_ | refine WP.ret ?_ | refine WP.exit ?_ | refine WP.skip ?_); simp only [go_sem, c1, hq, hF1, hFm, hmi, hr, encI, hT, hsum, hsm, hsf, tyAll, Nat.reduceAdd, Nat.reduceLT, Nat.reduceLeDiff, Nat.reduceEqDiff, Nat.reduceMul, Nat.reduceSub, Nat.reduceGT, reduceIte, Int.reduceNeg, Int.reduceToNat]) |  refine And.intro ?_ ?_ | intro _))
          all_goals first | omega | (simp only; omega) | exact (hpre _ ‹_›).1 | exact (hpre _ ‹_›).2 _ ‹_› | exact hsz _ ‹_› | exact Nat.le_trans (hsz _ ‹_›) (by omega) | rfl | skip
          all_goals trace_state
end
end
end Go.Proofs.YtahcfcimfcjhhaaGreatDoor
/-
  DERIVED. What is read of a struct, field by field, stands for what its fields stand for.
-/
namespace Go.Vc
open Go.RowKit Go.WideShapes Go.ChangeShapes Go.Deep
set_option linter.unusedVariables false
section
variable {H : Type} {enc : TypeId × Value → H} {P : Program} {w : World}
theorem Cells.append {r1 r2 : List SV} {c1 c2 : List Value} (h1 : Cells w r1 c1) (h2 : Cells w r2 c2) : Cells w (r1 ++ r2) (c1 ++ c2) := by
  refine ⟨by rw [List.length_append, List.length_append, h1.1, h2.1], fun k c u hc hu => ?_⟩
  rw [List.getElem?_append] at hc hu
  by_cases hk : k < r1.length
  · rw [if_pos hk] at hc
    rw [if_pos (by rw [← h1.1]; exact hk)] at hu
    exact h1.2 k c u hc hu
  · rw [if_neg hk] at hc
    rw [if_neg (by rw [← h1.1]; exact hk), ← h1.1] at hu
    exact h2.2 _ c u hc hu
theorem Dec.map {t : TypeId} {α β : Type} {e : α → List SV} {wf : α → Prop} {e' : β → List SV} {wf' : β → Prop} (hd : Dec H enc P w t e wf) (g : α → β) (he : ∀ a, e' (g a) = e a) (hw : ∀ a, wf a → wf' (g a)) : Dec H enc P w t e' wf' := by
  intro base sp held n cs y h
  obtain ⟨a, ha, hc⟩ := hd _ _ _ _ _ _ h
  exact ⟨g a, hw a ha, by rw [he]; exact hc⟩
theorem Dec.struct1 {t : TypeId} {f0 : Field} {k0 : Nat} {α : Type} {e : α → List SV} {wf : α → Prop} (ht : P.underlying t = some (.struct #[f0])) (o0 : f0.offset = 0) (h0 : P.cellsOf f0.type = k0) (hC : P.cellsOf t = k0) (hd : Dec H enc P w f0.type e wf) : Dec H enc P w t e wf := by
  intro base sp held n cs y h
  obtain ⟨y0, m, _, hl, g0⟩ := trod_struct1 ht h
  obtain ⟨a, ha, hc⟩ := hd _ _ _ _ _ _ g0
  rw [o0, h0, List.drop_zero, List.take_of_length_le (by omega)] at hc
  exact ⟨a, ha, hc⟩
theorem Dec.struct2 {t : TypeId} {f0 f1 : Field} {k0 k1 : Nat} {α β : Type} {e0 : α → List SV} {w0 : α → Prop} {e1 : β → List SV} {w1 : β → Prop} (ht : P.underlying t = some (.struct #[f0, f1])) (o0 : f0.offset = 0) (h0 : P.cellsOf f0.type = k0) (o1 : f1.offset = k0) (h1 : P.cellsOf f1.type = k1) (hC : P.cellsOf t = k0 + k1)
    (d0 : Dec H enc P w f0.type e0 w0) (d1 : Dec H enc P w f1.type e1 w1) : Dec H enc P w t (fun x : α × β => e0 x.1 ++ e1 x.2) (fun x => w0 x.1 ∧ w1 x.2) := by
  intro base sp held n cs y h
  obtain ⟨y0, y1, m, _, hl, g0, g1⟩ := trod_struct2 ht h
  obtain ⟨a, ha, hc⟩ := d0 _ _ _ _ _ _ g0
  obtain ⟨b, hb, hd⟩ := d1 _ _ _ _ _ _ g1
  rw [o0, h0, List.drop_zero] at hc
  rw [o1, h1, List.take_of_length_le (by rw [List.length_drop]; omega)] at hd
  refine ⟨(a, b), ⟨ha, hb⟩, ?_⟩
  have := hc.append hd
  rwa [List.take_append_drop] at this
theorem Dec.struct3 {t : TypeId} {f0 f1 f2 : Field} {k0 k1 k2 : Nat} {α β γ : Type} {e0 : α → List SV} {w0 : α → Prop} {e1 : β → List SV} {w1 : β → Prop} {e2 : γ → List SV} {w2 : γ → Prop} (ht : P.underlying t = some (.struct #[f0, f1, f2])) (o0 : f0.offset = 0) (h0 : P.cellsOf f0.type = k0) (o1 : f1.offset = k0) (h1 : P.cellsOf f1.type = k1) (o2 : f2.offset = k0 + k1) (h2 : P.cellsOf f2.type = k2) (hC : P.cellsOf t = k0 + k1 + k2)
    (d0 : Dec H enc P w f0.type e0 w0) (d1 : Dec H enc P w f1.type e1 w1) (d2 : Dec H enc P w f2.type e2 w2) : Dec H enc P w t (fun x : α × β × γ => e0 x.1 ++ (e1 x.2.1 ++ e2 x.2.2)) (fun x => w0 x.1 ∧ w1 x.2.1 ∧ w2 x.2.2) := by
  intro base sp held n cs y h
  obtain ⟨y0, y1, y2, m, _, hl, g0, g1, g2⟩ := trod_struct3 ht h
  obtain ⟨a, ha, hc⟩ := d0 _ _ _ _ _ _ g0
  obtain ⟨b, hb, hd⟩ := d1 _ _ _ _ _ _ g1
  obtain ⟨c, hc', he⟩ := d2 _ _ _ _ _ _ g2
  rw [o0, h0, List.drop_zero] at hc
  rw [o1, h1] at hd
  rw [o2, h2, List.take_of_length_le (by rw [List.length_drop]; omega), ← List.drop_drop] at he
  refine ⟨(a, b, c), ⟨ha, hb, hc'⟩, ?_⟩
  have := hc.append (hd.append he)
  rwa [List.take_append_drop, List.take_append_drop] at this
end
end Go.Vc

/-
  DERIVED. What is read of stacks and of a profile.
-/
namespace Go.Proofs.YtahcfcimfcjhhaaGreatDoor
open Go.Vc Go.RowKit Go.WideShapes Go.ChangeShapes Go.Deep
section
variable {H : Type} {enc : TypeId × Value → H} {w : World}
def okN (L : List Node) : Prop := L.length ≤ maxLen ∧ ∀ x ∈ L, x.name.size ≤ maxLen
theorem rowNode' : Dec H enc Tryz.prog w 141 encNode (fun x => x.name.size ≤ maxLen) :=
  (Dec.struct2 (k0 := 1) (k1 := 2) Tryz.underlying141 rfl (by kernel_rfl) rfl (by kernel_rfl) (by kernel_rfl) (Dec.int Tryz.underlying3) rowFrame).map (fun x : Int × Frame => (⟨x.1, x.2.name, x.2.line⟩ : Node)) (fun _ => rfl) (fun _ h => h.2.1)
theorem rowStk : Dec H enc Tryz.prog w 57 (fun N : List Node => [.sl 3 (N.map encNode)]) okN :=
  Dec.struct1 (k0 := 1) Tryz.underlying57 rfl (by kernel_rfl) (by kernel_rfl) (Dec.slice (s := 3) Tryz.underlying55 (by kernel_rfl) (by omega) rowNode' (fun _ => rfl))
theorem rowPr : Dec H enc Tryz.prog w 59 (fun x : List Node × List Int => [.sl 3 (x.1.map encNode), .sl 1 (x.2.map encI)]) wfM :=
  (Dec.struct2 (k0 := 1) (k1 := 1) Tryz.underlying59 rfl (by kernel_rfl) rfl (by kernel_rfl) (by kernel_rfl) rowStk
    (Dec.slice (s := 1) Tryz.underlying27 (by kernel_rfl) (by omega) (Dec.int Tryz.underlying3) (fun _ => rfl))).map (fun x : List Node × List Int => x) (fun _ => rfl) (fun _ h => ⟨h.1.1, h.1.2, h.2.1⟩)
end
end Go.Proofs.YtahcfcimfcjhhaaGreatDoor

