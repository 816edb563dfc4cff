/-
  DERIVED. Several texts of ours in one: VtPrL, VtPrM, VtShare, VpNb2, VtNbS, VtNbI, VtNbC, VpMir.
-/
import Derived.Test.YtklcphbgaeiegaaGreatDoorVq0
import Derived.Test.YtklcphbgaeiegaaGreatDoorVq1
import Derived.Test.YtklcphbgaeiegaaGreatDoorVq2
import Derived.Test.YtklcphbgaeiegaaGreatDoorVq3
import Derived.Test.YtklcphbgaeiegaaGreatDoorVq4
import Derived.Test.YtklcphbgaeiegaaGreatDoorVq5
import Derived.Test.YtklcphbgaeiegaaGreatDoorVq6
import Derived.Test.YtklcphbgaeiegaaGreatDoorVq7
import Derived.Test.YtklcphbgaeiegaaGreatDoorVq8
import Derived.Test.YtklcphbgaeiegaaGreatDoorVq9
import Derived.Test.YtklcphbgaeiegaaGreatDoorVo10
set_option linter.unusedSimpArgs false
set_option linter.unusedVariables false
namespace Go.Proofs.YtklcphbgaeiegaaGreatDoor
open Go.Vc
attribute [local go_sem] St.runR St.runW St.stepV offV St.step St.stepU St.stepG mkCond guardB St.prK St.pr St.prLen St.eff St.callE St.callD St.callF St.callL aI aB aS aR aC St.isM St.argL Ctr.pure Ctr.lend Ctr.move Ctr.isL Ctr.wri pur len lentBy St.lentV St.lent1 nthS argsR restOf obsR pairs swapL unObs backL St.resL erL SV.ren1 SV.up SV.up2 Ob.up St.fzL cellIds partIds St.intoRow SV.ownId St.fz SV.fz1 St.prep St.mvL St.mv SV.re1 rnOk St.prEq vals eqCells scEq Value.kd St.prStr St.prCut cutR St.bnd St.prMin St.bld isShift outL retL outJ oR oC St.ev St.get St.put St.new St.kill SV.kill SV.kill1 Ob.kill St.app St.wrt St.rowsOf St.res St.killL lk er argsL SV.strip SV.need SV.share SV.share1 SV.owns SV.owns1 SV.owns2 SV.good SV.good1 SV.rok SV.rok1 SV.rok2 SV.isV SV.isV2 nodupN SV.cells SV.one SV.pur Ob.pb partsIn rowsIn splice cellsAt dstOk scal2 scal1 thenK blockK retK outK outs okC okL okA okT nilC nilL nilA nilT keepC keepL keepA keepT St.runG St.dltK St.least St.clean St.final St.hide offK badS badO SV.refs SV.leaf SV.leaf2 Ob.refs dlOk fpAt Go.Vc.cover tups SV.ofAgg St.out outC subL St.has rng wr Value.oneCell' Option.isSome_some Option.isSome_none List.nil_append Bool.false_eq_true List.map_cons List.map_nil List.all_cons List.all_nil List.length_cons List.length_nil List.drop_zero List.drop_succ_cons List.take_succ_cons List.take_zero List.drop_nil List.take_nil List.getElem?_cons_zero List.getElem?_cons_succ List.getElem?_nil List.cons_append List.nil_append List.append_nil List.append_assoc List.flatMap_cons List.flatMap_nil List.contains_cons List.contains_nil List.set_cons_zero List.set_cons_succ List.getElem?_toArray Option.getD_some Option.getD_none Option.map_some Option.map_none Option.bind_some Option.some.injEq Prod.mk.injEq if_true if_false true_and and_true and_self and_false false_and Bool.and_false Bool.false_and Bool.or_true Bool.true_or Bool.or_false Bool.false_or ne_eq not_true_eq_false not_false_eq_true decide_true decide_false List.mem_cons List.not_mem_nil List.filter_cons List.filter_nil List.any_cons List.any_nil List.isEmpty_nil List.isEmpty_cons Option.getD_none or_false false_or true_or or_true forall_eq_or_imp forall_eq reduceCtorEq exists_eq exists_eq' exists_eq_left' exists_eq_left exists_eq_right exists_eq_right' imp_self implies_true Bool.and_true Bool.true_and Bool.and_self beq_self_eq_true List.replicate_succ List.replicate_zero forall_const false_implies pickB_or pickB_and beqT beqF Int.toNat_natCast List.length_map List.length_replicate ge_iff_le gt_iff_lt decide_eq_true_eq decide_eq_false_iff_not Bool.and_eq_true Bool.or_eq_true Bool.not_eq_true' Bool.not_eq_false' condG List.toList_toArray Bool.or_eq_false_iff Bool.and_eq_false_iff Int.not_lt Int.not_le beq_iff_eq beq_eq_false_iff_ne bne_iff_ne bne_eq_false_iff_eq ne_eq Bool.not_true Bool.not_false exists_and_left
section
open Go.Vc
set_option linter.unusedSimpArgs false
set_option linter.unusedVariables false
set_option maxHeartbeats 1000000
set_option maxRecDepth 10000
attribute [local irreducible] Go.Vc.WP
attribute [local go_sem] cx0_t cx0_c
attribute [local go_sem] decNode_enc decFrame_enc oneFrame_enc stkA oneFrame_ab oneNode_abc decI_enc prA encI_inj
theorem szGo_neg : ∀ (l : List Nat) (r : Int), 0 ≤ r → szGo l r < 0 → szGo l r = -1
  | [], r, h, h2 => by unfold szGo at h2 ⊢; omega
  | n :: l, r, h, h2 => by
    unfold szGo at h2 ⊢
    split
    · rfl
    · rename_i h3
      rw [if_neg h3] at h2
      exact szGo_neg l _ (by omega) h2
theorem szGo_le1 : ∀ (l : List Nat) (r : Int), -1 ≤ r → szGo l r ≤ r
  | [], r, h => Int.le_refl _
  | n :: l, r, h => by
    unfold szGo
    split
    · omega
    · have := szGo_le1 l (r - n) (by omega)
      omega
theorem szvNode_neg {N : List Node} {l : Int} (h0 : 0 ≤ l) (h : szvNode N l < 0) : szvNode N l = -1 := by
  unfold szvNode at h ⊢
  split
  · rfl
  · rename_i h2
    rw [if_neg h2] at h
    exact szGo_neg _ _ (by omega) h
theorem szvNode_le {N : List Node} {l : Int} (h0 : 0 ≤ l) : szvNode N l ≤ l := by
  unfold szvNode
  split
  · omega
  · have := szGo_le1 (sizesNode N) (l - N.length) (by omega)
    omega
theorem szvNode_ok' {N : List Node} {l : Int} (hl : l ≤ 1048576) (h : ¬ szvNode N l < 0) : N.length ≤ 1048576 ∧ ∀ x ∈ N, x.name.size ≤ 1048576 := by
  unfold szvNode at h
  split at h
  · omega
  · rename_i h2
    refine ⟨by omega, fun x hx => ?_⟩
    have := szGo_ok (sizesNode N) _ (by omega) (Int.not_lt.1 h) x.name.size (List.mem_map.2 ⟨x, hx, rfl⟩)
    omega
def kszI : Ctr := pur (fun args => (decI (aR args 0), aI args 1)) (fun x => [.sl 1 (x.1.map encI), .v (.int .i64 x.2)]) (fun x => x.1.length ≤ maxLen ∧ 0 ≤ x.2 ∧ x.2 ≤ 1048576)
  (fun _ x => .v (.int .i64 (if x.2 - x.1.length < 0 then -1 else x.2 - x.1.length))) (fun _ _ => [])
section
noncomputable def cxSzI : Cx := { P := Tryz.prog, tys := tys, C := [], hty := tysOk, hC := COk.nil _ }
theorem cxSzI_t : cxSzI.tys = tys := rfl
theorem cxSzI_c : cxSzI.C = [] := rfl
attribute [local go_sem] cxSzI_t cxSzI_c 
theorem cszI : Cn Tryz.prog 99 kszI := by
  refine Cn.pur Tryz.func99 (by kernel_rfl) rfl fun d x hx => ?_
  obtain ⟨L, left⟩ := x
  obtain ⟨hL, h0, h1⟩ := hx
  simp only at hL h0 h1 ⊢
  have hm : maxLen = 9223372036854775807 := rfl
  refine Holds.go (c := cxSzI) Tryz.func99 rfl Tryz.results99 Tryz.ntmps99 (by omega) (by simp) rfl ?_
  intro X0 w0
  (repeat' (first | refine WP.seq ?_ | refine WP.block ?_ | ((first | refine WP.region ?_ | refine WP.condW ?_ | refine WP.ret ?_ | refine WP.exit ?_ | refine WP.skip ?_); simp only [go_sem, tyAll, Nat.reduceAdd, Nat.reduceLT, Nat.reduceLeDiff, Nat.reduceEqDiff, Nat.reduceMul, Nat.reduceSub, Nat.reduceGT, reduceIte, Int.reduceNeg, Int.reduceToNat]) |  refine And.intro ?_ ?_ | intro _))
  all_goals first | omega | skip
  · rename_i h; rw [if_pos h]
  · rename_i h; rw [if_neg (by omega)]
end
def kszStk : Ctr := pur (fun args => (stkA args 0, aI args 1)) (fun x => [.agg [.sl 3 (x.1.map encNode)], .v (.int .i64 x.2)]) (fun x => x.1.length ≤ maxLen ∧ (∀ r ∈ x.1, r.name.size ≤ maxLen) ∧ 0 ≤ x.2 ∧ x.2 ≤ 1048576)
  (fun _ x => .v (.int .i64 (szvNode x.1 x.2))) (fun _ _ => [])
section
noncomputable def cxSzStk : Cx := { P := Tryz.prog, tys := tys, C := [(147, kszNodeS)], hty := tysOk, hC := COk.cons cszNodeS (COk.nil _) }
theorem cxSzStk_t : cxSzStk.tys = tys := rfl
theorem cxSzStk_c : cxSzStk.C = [(147, kszNodeS)] := rfl
attribute [local go_sem] cxSzStk_t cxSzStk_c kszNodeS
theorem cszStk : Cn Tryz.prog 98 kszStk := by
  refine Cn.pur Tryz.func98 (by kernel_rfl) rfl fun d x hx => ?_
  obtain ⟨N, left⟩ := x
  obtain ⟨hN, hs, h0, h1⟩ := hx
  simp only at hN hs h0 h1 ⊢
  refine Holds.go (c := cxSzStk) Tryz.func98 rfl Tryz.results98 Tryz.ntmps98 (by omega) (by simp) rfl ?_
  intro X0 w0
  (repeat' (first | refine WP.seq ?_ | refine WP.block ?_ | ((first | refine WP.region ?_ | refine WP.condW ?_ | refine WP.ret ?_ | refine WP.exit ?_ | refine WP.skip ?_); simp only [go_sem, tyAll, Nat.reduceAdd, Nat.reduceLT, Nat.reduceLeDiff, Nat.reduceEqDiff, Nat.reduceMul, Nat.reduceSub, Nat.reduceGT, reduceIte, Int.reduceNeg, Int.reduceToNat]) |  refine And.intro ?_ ?_ | intro _))
  all_goals first | omega | exact hs _ ‹_› | skip
  · rename_i h; rw [szvNode_neg h0 h]
end
def szvPr (x : List Node × List Int) (l : Int) : Int := if szvNode x.1 l < 0 then -1 else if szvNode x.1 l - x.2.length < 0 then -1 else szvNode x.1 l - x.2.length
theorem szvPr_le {x : List Node × List Int} {l : Int} (h0 : 0 ≤ l) : szvPr x l ≤ l := by
  have := szvNode_le (N := x.1) h0
  unfold szvPr
  split
  · omega
  · split <;> omega
theorem szvPr_neg {x : List Node × List Int} {l : Int} (h : szvPr x l < 0) : szvPr x l = -1 := by
  unfold szvPr at h ⊢
  split
  · rfl
  · split
    · rfl
    · rename_i h1 h2; rw [if_neg h1, if_neg h2] at h; omega
theorem szvPr_ok {x : List Node × List Int} {l : Int} (hl : l ≤ 1048576) (h : ¬ szvPr x l < 0) : (x.1.length ≤ 1048576 ∧ ∀ n ∈ x.1, n.name.size ≤ 1048576) ∧ x.2.length ≤ 1048576 := by
  unfold szvPr at h
  split at h
  · omega
  · rename_i h1
    refine ⟨szvNode_ok' hl h1, ?_⟩
    split at h
    · omega
    · by_cases h0 : 0 ≤ l
      · have := szvNode_le (N := x.1) h0
        omega
      · exfalso
        apply h1
        unfold szvNode
        rw [if_pos (by omega)]; omega
def wfM (x : List Node × List Int) : Prop := x.1.length ≤ maxLen ∧ (∀ r ∈ x.1, r.name.size ≤ maxLen) ∧ x.2.length ≤ maxLen
def kszPr : Ctr := pur (fun args => (prA args 0, aI args 1)) (fun x => [.agg [.sl 3 (x.1.1.map encNode), .sl 1 (x.1.2.map encI)], .v (.int .i64 x.2)]) (fun x => wfM x.1 ∧ 0 ≤ x.2 ∧ x.2 ≤ 1048576)
  (fun _ x => .v (.int .i64 (szvPr x.1 x.2))) (fun _ _ => [])
section
noncomputable def cxSzPr : Cx := { P := Tryz.prog, tys := tys, C := [(98, kszStk), (99, kszI)], hty := tysOk, hC := COk.cons cszStk (COk.cons cszI (COk.nil _)) }
theorem cxSzPr_t : cxSzPr.tys = tys := rfl
theorem cxSzPr_c : cxSzPr.C = [(98, kszStk), (99, kszI)] := rfl
attribute [local go_sem] cxSzPr_t cxSzPr_c kszStk kszI
theorem cszPr : Cn Tryz.prog 41 kszPr := by
  refine Cn.pur Tryz.func41 (by kernel_rfl) rfl fun d x hx => ?_
  obtain ⟨⟨N, C⟩, left⟩ := x
  obtain ⟨⟨hN, hs, hC⟩, h0, h1⟩ := hx
  simp only at hN hs hC h0 h1 ⊢
  have hle := szvNode_le (N := N) h0
  refine Holds.go (c := cxSzPr) Tryz.func41 rfl Tryz.results41 Tryz.ntmps41 (by omega) (by simp) rfl ?_
  intro X0 w0
  (repeat' (first | refine WP.seq ?_ | refine WP.block ?_ | ((first | refine WP.region ?_ | refine WP.condW ?_ | refine WP.ret ?_ | refine WP.exit ?_ | refine WP.skip ?_); simp only [go_sem, tyAll, Nat.reduceAdd, Nat.reduceLT, Nat.reduceLeDiff, Nat.reduceEqDiff, Nat.reduceMul, Nat.reduceSub, Nat.reduceGT, reduceIte, Int.reduceNeg, Int.reduceToNat]) |  refine And.intro ?_ ?_ | intro _))
  all_goals first | omega | exact hs _ ‹_› | skip
  · rename_i h; rw [szvPr, if_pos h]
  · rename_i h g
    rw [szvPr, if_neg (Int.not_lt.2 h)]
    split
    · rfl
    · rename_i h5
      have h6 : ¬ (szvNode N left - (C.length : Int) < 0) := h5
      rw [if_neg h6] at g
      exact absurd g h6
  · rename_i h g
    rw [szvPr, if_neg (Int.not_lt.2 h)]
end
def ktoStk : Ctr := pur (fun args => stkA args 0) (fun N => [.agg [.sl 3 (N.map encNode)]]) (fun N => N.length ≤ 2097152) (fun d _ => .agg [.own d]) (fun d N => [(d, .sl 157 3 (N.map encNode))])
section
noncomputable def cxToStk : Cx := { P := Tryz.prog, tys := tys, C := [(148, ktoNodeS)], hty := tysOk, hC := COk.cons ctoNodeS (COk.nil _) }
theorem cxToStk_t : cxToStk.tys = tys := rfl
theorem cxToStk_c : cxToStk.C = [(148, ktoNodeS)] := rfl
attribute [local go_sem] cxToStk_t cxToStk_c ktoNodeS
theorem ctoStk : Cn Tryz.prog 100 ktoStk := by
  refine Cn.pur Tryz.func100 (by kernel_rfl) rfl fun d x hx => ?_
  refine Holds.go (c := cxToStk) Tryz.func100 rfl Tryz.results100 Tryz.ntmps100 (by omega) (by simp) rfl ?_
  intro X0 w0
  (repeat' (first | refine WP.seq ?_ | refine WP.block ?_ | ((first | refine WP.region ?_ | refine WP.condW ?_ | refine WP.ret ?_ | refine WP.exit ?_ | refine WP.skip ?_); simp only [go_sem, tyAll, Nat.reduceAdd, Nat.reduceLT, Nat.reduceLeDiff, Nat.reduceEqDiff, Nat.reduceMul, Nat.reduceSub, Nat.reduceGT, reduceIte, Int.reduceNeg, Int.reduceToNat]) |  refine And.intro ?_ ?_ | intro _))
  all_goals first | omega | exact ⟨_, _, _, rfl⟩ | exact ⟨_, _, rfl, _, _, rfl, rfl⟩ | skip
end
def ktoPr : Ctr := pur (fun args => prA args 0) (fun x => [.agg [.sl 3 (x.1.map encNode), .sl 1 (x.2.map encI)]]) (fun x => x.1.length ≤ 2097152 ∧ x.2.length ≤ 2097152) (fun d _ => .agg [.own d, .own (d + 1000)]) (fun d x => [(d, .sl 157 3 (x.1.map encNode)), (d + 1000, .sl 3 1 (x.2.map encI))])
section
noncomputable def cxToPr : Cx := { P := Tryz.prog, tys := tys, C := [(100, ktoStk), (101, k15)], hty := tysOk, hC := COk.cons ctoStk (COk.cons c15 (COk.nil _)) }
theorem cxToPr_t : cxToPr.tys = tys := rfl
theorem cxToPr_c : cxToPr.C = [(100, ktoStk), (101, k15)] := rfl
attribute [local go_sem] cxToPr_t cxToPr_c ktoStk k15
theorem ctoPr : Cn Tryz.prog 43 ktoPr := by
  refine Cn.pur Tryz.func43 (by kernel_rfl) rfl fun d x hx => ?_
  obtain ⟨N, C⟩ := x
  obtain ⟨hN, hC⟩ := hx
  simp only at hN hC ⊢
  refine Holds.go (c := cxToPr) Tryz.func43 rfl Tryz.results43 Tryz.ntmps43 (by omega) (by simp) rfl ?_
  intro X0 w0
  (repeat' (first | refine WP.seq ?_ | refine WP.block ?_ | ((first | refine WP.region ?_ | refine WP.condW ?_ | refine WP.ret ?_ | refine WP.exit ?_ | refine WP.skip ?_); simp only [go_sem, tyAll, Nat.reduceAdd, Nat.reduceLT, Nat.reduceLeDiff, Nat.reduceEqDiff, Nat.reduceMul, Nat.reduceSub, Nat.reduceGT, reduceIte, Int.reduceNeg, Int.reduceToNat]) |  refine And.intro ?_ ?_ | intro _))
  all_goals first | omega | exact ⟨_, _, _, rfl⟩ | exact ⟨_, _, rfl, _, _, rfl, rfl⟩ | (rw [if_neg (by omega)]) | skip
end
def keqStk : Ctr := pur (fun args => (stkA args 0, stkA args 1)) (fun x => [.agg [.sl 3 (x.1.map encNode)], .agg [.sl 3 (x.2.map encNode)]]) (fun x => x.1.length ≤ 4398046511104) (fun _ x => .v (.bool (decide (x.1 = x.2)))) (fun _ _ => [])
section
noncomputable def cxEqStk : Cx := { P := Tryz.prog, tys := tys, C := [(149, keqNodeS)], hty := tysOk, hC := COk.cons ceqNodeS (COk.nil _) }
theorem cxEqStk_t : cxEqStk.tys = tys := rfl
theorem cxEqStk_c : cxEqStk.C = [(149, keqNodeS)] := rfl
attribute [local go_sem] cxEqStk_t cxEqStk_c keqNodeS
theorem ceqStk : Cn Tryz.prog 102 keqStk := by
  refine Cn.pur Tryz.func102 (by kernel_rfl) rfl fun d x hx => ?_
  obtain ⟨N, M⟩ := x
  simp only at hx ⊢
  refine Holds.go (c := cxEqStk) Tryz.func102 rfl Tryz.results102 Tryz.ntmps102 (by omega) (by simp) rfl ?_
  intro X0 w0
  (repeat' (first | refine WP.seq ?_ | refine WP.block ?_ | ((first | refine WP.region ?_ | refine WP.condW ?_ | refine WP.ret ?_ | refine WP.exit ?_ | refine WP.skip ?_); simp only [go_sem, tyAll, Nat.reduceAdd, Nat.reduceLT, Nat.reduceLeDiff, Nat.reduceEqDiff, Nat.reduceMul, Nat.reduceSub, Nat.reduceGT, reduceIte, Int.reduceNeg, Int.reduceToNat]) |  refine And.intro ?_ ?_ | intro _))
  all_goals first | omega | simp_all | skip
end
def keqPr : Ctr := pur (fun args => (prA args 0, prA args 1)) (fun x => [.agg [.sl 3 (x.1.1.map encNode), .sl 1 (x.1.2.map encI)], .agg [.sl 3 (x.2.1.map encNode), .sl 1 (x.2.2.map encI)]]) (fun x => x.1.1.length ≤ 4398046511104 ∧ x.1.2.length ≤ 4398046511104)
  (fun _ x => .v (.bool (decide (x.1 = x.2)))) (fun _ _ => [])
section
noncomputable def cxEqPr : Cx := { P := Tryz.prog, tys := tys, C := [(102, keqStk), (103, k17)], hty := tysOk, hC := COk.cons ceqStk (COk.cons c17 (COk.nil _)) }
theorem cxEqPr_t : cxEqPr.tys = tys := rfl
theorem cxEqPr_c : cxEqPr.C = [(102, keqStk), (103, k17)] := rfl
attribute [local go_sem] cxEqPr_t cxEqPr_c keqStk k17
theorem ceqPr : Cn Tryz.prog 44 keqPr := by
  refine Cn.pur Tryz.func44 (by kernel_rfl) rfl fun d x hx => ?_
  obtain ⟨⟨N, C⟩, ⟨M, D⟩⟩ := x
  simp only at hx ⊢
  refine Holds.go (c := cxEqPr) Tryz.func44 rfl Tryz.results44 Tryz.ntmps44 (by omega) (by simp) rfl ?_
  intro X0 w0
  (repeat' (first | refine WP.seq ?_ | refine WP.block ?_ | ((first | refine WP.region ?_ | refine WP.condW ?_ | refine WP.ret ?_ | refine WP.exit ?_ | refine WP.skip ?_); simp only [go_sem, tyAll, Nat.reduceAdd, Nat.reduceLT, Nat.reduceLeDiff, Nat.reduceEqDiff, Nat.reduceMul, Nat.reduceSub, Nat.reduceGT, reduceIte, Int.reduceNeg, Int.reduceToNat]) |  refine And.intro ?_ ?_ | intro _))
  all_goals first | omega | simp_all | skip
end
end
section
open Go.Vc
set_option linter.unusedSimpArgs false
set_option linter.unusedVariables false
set_option maxHeartbeats 1000000
set_option maxRecDepth 10000
attribute [local irreducible] Go.Vc.WP
attribute [local go_sem] cx0_t cx0_c
attribute [local go_sem] isV_Node isV_It decNode_enc decFrame_enc oneFrame_enc stkA oneFrame_ab oneNode_abc decI_enc prA encI_inj
def kmarkStk : Ctr := len [0] [] (fun args obs => (decNode (oR obs 1000000), aI args 1)) (fun x => [.agg [.own 1000000], .v (.int .i64 x.2)]) (fun x => [(1000000, .sl 157 3 (x.1.map encNode))]) (fun x => x.1.length ≤ 4398046511104 ∧ 0 ≤ x.2 ∧ x.2 ≤ 100000000000000)
  (fun _ x => .v (.int .i64 (x.2 + 3 * x.1.length))) (fun _ _ => []) (fun x => [(1000000, .sl 157 3 ((marksNode x.2 x.1.length).map encNode))])
section
noncomputable def cxMkStk : Cx := { P := Tryz.prog, tys := tys, C := [(150, kmarkNodeS)], hty := tysOk, hC := COk.cons cmarkNodeS (COk.nil _) }
theorem cxMkStk_t : cxMkStk.tys = tys := rfl
theorem cxMkStk_c : cxMkStk.C = [(150, kmarkNodeS)] := rfl
attribute [local go_sem] cxMkStk_t cxMkStk_c kmarkNodeS
theorem cmarkStk : Cn Tryz.prog 104 kmarkStk := by
  refine Cn.len Tryz.func104 (by kernel_rfl) rfl fun d x hd hx => ?_
  obtain ⟨L, k0⟩ := x
  obtain ⟨hL, h0, h1⟩ := hx
  simp only at hL h0 h1 ⊢
  refine HoldsL.go (c := cxMkStk) Tryz.func104 rfl Tryz.results104 Tryz.ntmps104 (by omega) (by simp) rfl (by simp <;> omega) (by simp [SV.owns2, SV.owns, SV.owns1]) (by simp) rfl rfl (by simp) ?_
  intro X0 M w0
  (repeat' (first | refine WP.seq ?_ | refine WP.block ?_ | ((first | refine WP.region ?_ | refine WP.condW ?_ | refine WP.ret ?_ | refine WP.exit ?_ | refine WP.skip ?_); simp only [go_sem, tyAll, Nat.reduceAdd, Nat.reduceLT, Nat.reduceLeDiff, Nat.reduceEqDiff, Nat.reduceMul, Nat.reduceSub, Nat.reduceGT, reduceIte, Int.reduceNeg, Int.reduceToNat]) |  refine And.intro ?_ ?_ | intro _))
  all_goals first | omega | skip
end
def kheldStk : Ctr := pur (fun args => (stkA args 0, aI args 1)) (fun x => [.agg [.sl 3 (x.1.map encNode)], .v (.int .i64 x.2)]) (fun x => x.1.length ≤ 4398046511104 ∧ 0 ≤ x.2 ∧ x.2 ≤ 100000000000000)
  (fun _ x => .v (.int .i64 (if x.1 = marksNode x.2 x.1.length then x.2 + 3 * x.1.length else -1))) (fun _ _ => [])
section
noncomputable def cxHeStk : Cx := { P := Tryz.prog, tys := tys, C := [(151, kheldNodeS)], hty := tysOk, hC := COk.cons cheldNodeS (COk.nil _) }
theorem cxHeStk_t : cxHeStk.tys = tys := rfl
theorem cxHeStk_c : cxHeStk.C = [(151, kheldNodeS)] := rfl
attribute [local go_sem] cxHeStk_t cxHeStk_c kheldNodeS
theorem cheldStk : Cn Tryz.prog 106 kheldStk := by
  refine Cn.pur Tryz.func106 (by kernel_rfl) rfl fun d x hx => ?_
  obtain ⟨L, k0⟩ := x
  obtain ⟨hL, h0, h1⟩ := hx
  simp only at hL h0 h1 ⊢
  refine Holds.go (c := cxHeStk) Tryz.func106 rfl Tryz.results106 Tryz.ntmps106 (by omega) (by simp) rfl ?_
  intro X0 w0
  (repeat' (first | refine WP.seq ?_ | refine WP.block ?_ | ((first | refine WP.region ?_ | refine WP.condW ?_ | refine WP.ret ?_ | refine WP.exit ?_ | refine WP.skip ?_); simp only [go_sem, tyAll, Nat.reduceAdd, Nat.reduceLT, Nat.reduceLeDiff, Nat.reduceEqDiff, Nat.reduceMul, Nat.reduceSub, Nat.reduceGT, reduceIte, Int.reduceNeg, Int.reduceToNat]) |  refine And.intro ?_ ?_ | intro _))
  all_goals first | omega | skip
  · rename_i h
    by_cases he : L = marksNode k0 L.length
    · rw [if_pos he] at h; omega
    · rw [if_neg he]
end
def kmarkPr : Ctr := len [0] [] (fun args obs => ((decNode (oR obs 1000000), decI (oR obs 1000001)), aI args 1)) (fun x => [.agg [.own 1000000, .own 1000001], .v (.int .i64 x.2)])
  (fun x => [(1000000, .sl 157 3 (x.1.1.map encNode)), (1000001, .sl 3 1 (x.1.2.map encI))]) (fun x => x.1.1.length ≤ 4398046511104 ∧ x.1.2.length ≤ 4398046511104 ∧ 0 ≤ x.2 ∧ x.2 ≤ 10000000000000)
  (fun _ x => .v (.int .i64 (x.2 + 3 * x.1.1.length + x.1.2.length))) (fun _ _ => []) (fun x => [(1000000, .sl 157 3 ((marksNode x.2 x.1.1.length).map encNode)), (1000001, .sl 3 1 ((marksI (x.2 + 3 * x.1.1.length) x.1.2.length).map encI))])
section
noncomputable def cxMkPr : Cx := { P := Tryz.prog, tys := tys, C := [(104, kmarkStk), (105, k18)], hty := tysOk, hC := COk.cons cmarkStk (COk.cons c18 (COk.nil _)) }
theorem cxMkPr_t : cxMkPr.tys = tys := rfl
theorem cxMkPr_c : cxMkPr.C = [(104, kmarkStk), (105, k18)] := rfl
attribute [local go_sem] cxMkPr_t cxMkPr_c kmarkStk k18
theorem cmarkPr : Cn Tryz.prog 45 kmarkPr := by
  refine Cn.len Tryz.func45 (by kernel_rfl) rfl fun d x hd hx => ?_
  obtain ⟨⟨N, C⟩, k0⟩ := x
  obtain ⟨hN, hC, h0, h1⟩ := hx
  simp only at hN hC h0 h1 ⊢
  refine HoldsL.go (c := cxMkPr) Tryz.func45 rfl Tryz.results45 Tryz.ntmps45 (by omega) (by simp) rfl (by simp <;> omega) (by simp [SV.owns2, SV.owns, SV.owns1]) (by simp) rfl rfl (by simp) ?_
  intro X0 M w0
  (repeat' (first | refine WP.seq ?_ | refine WP.block ?_ | ((first | refine WP.region ?_ | refine WP.condW ?_ | refine WP.ret ?_ | refine WP.exit ?_ | refine WP.skip ?_); simp only [go_sem, tyAll, Nat.reduceAdd, Nat.reduceLT, Nat.reduceLeDiff, Nat.reduceEqDiff, Nat.reduceMul, Nat.reduceSub, Nat.reduceGT, reduceIte, Int.reduceNeg, Int.reduceToNat]) |  refine And.intro ?_ ?_ | intro _))
  all_goals first | omega | skip
end
def kheldPr : Ctr := pur (fun args => (prA args 0, aI args 1)) (fun x => [.agg [.sl 3 (x.1.1.map encNode), .sl 1 (x.1.2.map encI)], .v (.int .i64 x.2)]) (fun x => x.1.1.length ≤ 4398046511104 ∧ x.1.2.length ≤ 4398046511104 ∧ 0 ≤ x.2 ∧ x.2 ≤ 10000000000000)
  (fun _ x => .v (.int .i64 (if x.1.1 = marksNode x.2 x.1.1.length ∧ x.1.2 = marksI (x.2 + 3 * x.1.1.length) x.1.2.length then x.2 + 3 * x.1.1.length + x.1.2.length else -1))) (fun _ _ => [])
section
noncomputable def cxHePr : Cx := { P := Tryz.prog, tys := tys, C := [(106, kheldStk), (107, k19)], hty := tysOk, hC := COk.cons cheldStk (COk.cons c19 (COk.nil _)) }
theorem cxHePr_t : cxHePr.tys = tys := rfl
theorem cxHePr_c : cxHePr.C = [(106, kheldStk), (107, k19)] := rfl
attribute [local go_sem] cxHePr_t cxHePr_c kheldStk k19
theorem cheldPr : Cn Tryz.prog 46 kheldPr := by
  refine Cn.pur Tryz.func46 (by kernel_rfl) rfl fun d x hx => ?_
  obtain ⟨⟨N, C⟩, k0⟩ := x
  obtain ⟨hN, hC, h0, h1⟩ := hx
  simp only at hN hC h0 h1 ⊢
  refine Holds.go (c := cxHePr) Tryz.func46 rfl Tryz.results46 Tryz.ntmps46 (by omega) (by simp) rfl ?_
  intro X0 w0
  by_cases he : N = marksNode k0 N.length
  · by_cases hf : C = marksI (k0 + 3 * N.length) C.length
    · (repeat' (first | refine WP.seq ?_ | refine WP.block ?_ | ((first | refine WP.region ?_ | refine WP.condW ?_ | refine WP.ret ?_ | refine WP.exit ?_ | refine WP.skip ?_); simp only [go_sem, if_pos he, if_pos hf, tyAll, Nat.reduceAdd, Nat.reduceLT, Nat.reduceLeDiff, Nat.reduceEqDiff, Nat.reduceMul, Nat.reduceSub, Nat.reduceGT, reduceIte, Int.reduceNeg, Int.reduceToNat]) |  refine And.intro ?_ ?_ | intro _))
      all_goals first | omega | skip
      all_goals rw [if_pos ⟨he, hf⟩]
    · (repeat' (first | refine WP.seq ?_ | refine WP.block ?_ | ((first | refine WP.region ?_ | refine WP.condW ?_ | refine WP.ret ?_ | refine WP.exit ?_ | refine WP.skip ?_); simp only [go_sem, if_pos he, if_neg hf, tyAll, Nat.reduceAdd, Nat.reduceLT, Nat.reduceLeDiff, Nat.reduceEqDiff, Nat.reduceMul, Nat.reduceSub, Nat.reduceGT, reduceIte, Int.reduceNeg, Int.reduceToNat]) |  refine And.intro ?_ ?_ | intro _))
      all_goals first | omega | skip
      all_goals rw [if_neg fun h => hf h.2]
  · (repeat' (first | refine WP.seq ?_ | refine WP.block ?_ | ((first | refine WP.region ?_ | refine WP.condW ?_ | refine WP.ret ?_ | refine WP.exit ?_ | refine WP.skip ?_); simp only [go_sem, if_neg he, tyAll, Nat.reduceAdd, Nat.reduceLT, Nat.reduceLeDiff, Nat.reduceEqDiff, Nat.reduceMul, Nat.reduceSub, Nat.reduceGT, reduceIte, Int.reduceNeg, Int.reduceToNat]) |  refine And.intro ?_ ?_ | intro _))
    all_goals first | omega | skip
    all_goals rw [if_neg fun h => he h.1]
end
end
section
open Go.Vc
set_option linter.unusedSimpArgs false
set_option linter.unusedVariables false
set_option maxHeartbeats 1000000
set_option maxRecDepth 10000
attribute [local irreducible] Go.Vc.WP
attribute [local go_sem] cx0_t cx0_c
attribute [local go_sem] isV_Node isV_It isV_Entry decNode_enc decFrame_enc oneFrame_enc stkA oneFrame_ab oneNode_abc decI_enc decS_enc aU prA decEntry_enc St.fzS addL behind encI_inj
theorem sumE_take_le {E : List Entry} (h : ∀ e ∈ E, 0 ≤ e.count) (k : Nat) : 0 ≤ sumE (E.take k) ∧ sumE (E.take k) ≤ sumE E := by
  have h1 : sumE E = sumE (E.take k) + sumE (E.drop k) := by
    unfold sumE; rw [← List.sum_append, ← List.map_append, List.take_append_drop]
  have h2 : 0 ≤ sumE (E.drop k) := sum_nonneg fun x hx => by
    obtain ⟨e, he, rfl⟩ := List.mem_map.1 hx
    exact h e (List.mem_of_mem_drop he)
  have h3 : 0 ≤ sumE (E.take k) := sum_nonneg fun x hx => by
    obtain ⟨e, he, rfl⟩ := List.mem_map.1 hx
    exact h e (List.mem_of_mem_take he)
  omega
theorem ent_pos {N : List Node} {C : List Int} : ∀ e ∈ entriesOf N C, 0 ≤ e.count := fun e he => by obtain ⟨_, k, _, _, _, h, _⟩ := entriesOf_mem he; omega
theorem keep_sum (N : List Node) (C : List Int) (p : Entry → Bool) (k : Nat) : 0 ≤ sumE (((entriesOf N C).take k).filter p) ∧ sumE (((entriesOf N C).take k).filter p) ≤ totalOf N C := by
  obtain ⟨h1, h2⟩ := sumE_take_le (E := entriesOf N C) ent_pos k
  obtain ⟨h3, h4⟩ := sum_filter_le (p := p) (L := (entriesOf N C).take k) fun e he => ent_pos e (List.mem_of_mem_take he)
  rw [sumE_entries] at h2
  omega
theorem tdiv_rng {a b : Int} (h0 : 0 ≤ a) (h1 : a ≤ 1000000000000000) (hb : 0 < b) : 0 ≤ Int.tdiv a b ∧ Int.tdiv a b ≤ 1000000000000000 := by
  rw [Int.tdiv_eq_ediv_of_nonneg h0]
  exact ⟨Int.ediv_nonneg h0 (by omega), Int.le_trans (Int.ediv_le_self _ h0) h1⟩
def shareOf (N : List Node) (C : List Int) (s : ByteArray) : Int := if totalOf N C = 0 then 0 else Int.tdiv (1000 * sumE ((entriesOf N C).filter (keepS s true))) (totalOf N C)
theorem allV_NodeY (L : List Node) : allV (L.map encNode) := allV_map (fun x c hc => by
  simp only [encNode, List.mem_cons, List.not_mem_nil, or_false] at hc
  rcases hc with rfl | rfl | rfl <;> exact ⟨_, rfl⟩) L
theorem allV_IY (L : List Int) : allV (L.map encI) := allV_map (fun x c hc => by
  simp only [encI, List.mem_cons, List.not_mem_nil, or_false] at hc
  exact ⟨_, hc⟩) L
def kFocZ : Ctr := pur (fun args => (prA args 0, aS args 1)) (fun x => [.agg [.sl 3 (x.1.1.map encNode), .sl 1 (x.1.2.map encI)], .v (.string x.2)])
  (fun x => (x.1.1.length ≤ 1048576 ∧ ∀ n ∈ x.1.1, n.name.size ≤ 1048576) ∧ x.1.2.length ≤ 1048576)
  (fun _ x => .agg [.sl 3 ((mapP (pick x.2 true) x.1.1 x.1.2).1.map encNode), .sl 1 ((mapP (pick x.2 true) x.1.1 x.1.2).2.map encI)]) (fun _ _ => [])
theorem cFocZ : Cn Tryz.prog 40 kFocZ := Cn.frozenA (fun x => allV_NodeY _) (fun x => allV_IY _) cFocS
def kShare : Ctr := pur (fun args => (prA args 0, aS args 1)) (fun x => [.agg [.sl 3 (x.1.1.map encNode), .sl 1 (x.1.2.map encI)], .v (.string x.2)])
  (fun x => (x.1.1.length ≤ 1048576 ∧ ∀ n ∈ x.1.1, n.name.size ≤ 1048576) ∧ x.1.2.length ≤ 1048576) (fun _ x => .v (.int .i64 (shareOf x.1.1 x.1.2 x.2))) (fun _ _ => [])
section
noncomputable def cxShS : Cx := { P := Tryz.prog, tys := tys, C := [(15, kTotal), (40, kFocZ)], hty := tysOk, hC := COk.cons cTotalS (COk.cons cFocZ (COk.nil _)) }
theorem cxShS_t : cxShS.tys = tys := rfl
theorem cxShS_c : cxShS.C = [(15, kTotal), (40, kFocZ)] := rfl
attribute [local go_sem] cxShS_t cxShS_c kTotal kFocZ
end
section
noncomputable def cxShI : Cx := { P := Tryz.prog, tys := tys, C := [(72, kTotal), (57, kEntZ), (73, kParseZ), (74, kNamed)], hty := tysOk, hC := COk.cons cTotalI (COk.cons cEntZI (COk.cons cParseZI (COk.cons cNamed (COk.nil _)))) }
theorem cxShI_t : cxShI.tys = tys := rfl
theorem cxShI_c : cxShI.C = [(72, kTotal), (57, kEntZ), (73, kParseZ), (74, kNamed)] := rfl
attribute [local go_sem] cxShI_t cxShI_c kTotal kEntZ kParseZ kNamed
theorem cShareI : Cn Tryz.prog 22 kShare := by
  refine Cn.pur Tryz.func22 (by kernel_rfl) rfl fun d x hx => ?_
  obtain ⟨⟨N, C⟩, s⟩ := x
  obtain ⟨⟨hN, hs⟩, hC⟩ := hx
  simp only at hN hs hC ⊢
  have htb := totalOf_bound N C
  have hlen := entriesOf_len N C
  refine Holds.go (c := cxShI) Tryz.func22 rfl Tryz.results22 Tryz.ntmps22 (by omega) (by simp) rfl ?_
  intro X0 w0
  by_cases h0 : totalOf N C = 0
  · have hr : shareOf N C s = 0 := if_pos h0
    (repeat' (first | refine WP.seq ?_ | refine WP.block ?_ | ((first | refine WP.region ?_ | refine WP.condW ?_ | refine WP.ret ?_ | refine WP.exit ?_ | refine WP.skip ?_); simp only [go_sem, h0, hr, tyAll, Nat.reduceAdd, Nat.reduceLT, Nat.reduceLeDiff, Nat.reduceEqDiff, Nat.reduceMul, Nat.reduceSub, Nat.reduceGT, reduceIte, Int.reduceNeg, Int.reduceToNat]) |  refine And.intro ?_ ?_ | intro _))
    all_goals first | omega | (simp only; omega) | exact Nat.le_trans (hs _ ‹_›) (by omega) | skip
    all_goals trace_state
  have hr : shareOf N C s = Int.tdiv (1000 * sumE ((entriesOf N C).filter (keepS s true))) (totalOf N C) := if_neg h0
  rw [hr]
  (repeat' (first | refine WP.seq ?_ | refine WP.block ?_ | ((first | refine WP.region ?_ | refine WP.condW ?_ | refine WP.ret ?_ | refine WP.exit ?_ | refine WP.skip ?_); simp only [go_sem, h0, tyAll, Nat.reduceAdd, Nat.reduceLT, Nat.reduceLeDiff, Nat.reduceEqDiff, Nat.reduceMul, Nat.reduceSub, Nat.reduceGT, reduceIte, Int.reduceNeg, Int.reduceToNat]) |  refine And.intro ?_ ?_ | intro _))
  all_goals first | omega | (simp only; omega) | exact Nat.le_trans (hs _ ‹_›) (by omega) | skip
  refine WP.loop (fun k : Nat => ⟨[(1, .v (.string s)), (5, .v (.int .i64 (totalOf N C))), (6, .v (.int .i64 (sumE (((entriesOf N C).take k).filter (keepS s true))))), (16, .sl 2 ((entriesOf N C).map encEntry)), (17, .v (.int .i64 (entriesOf N C).length)), (18, .v (.int .i64 k))], []⟩)
    (fun k => k ≤ (entriesOf N C).length) (fun k => (entriesOf N C).length - k) 0 (by simp) ?_ ?_
  · (simp only [go_sem, tyAll, Nat.reduceAdd, Nat.reduceLT, Nat.reduceLeDiff, Nat.reduceEqDiff, Nat.reduceMul, Nat.reduceSub, Nat.reduceGT, reduceIte, Int.reduceNeg, Int.reduceToNat] <;> (first | rfl | exact ⟨rfl, rfl⟩ | exact ⟨rfl, rfl, rfl⟩ | exact ⟨rfl, rfl, rfl, rfl⟩ | exact ⟨rfl, rfl, rfl, rfl, rfl⟩ | exact ⟨⟨rfl, rfl⟩, rfl⟩ | simp))
  intro k hk
  have hsb := keep_sum N C (keepS s true) k
  by_cases hlt : k < (entriesOf N C).length
  · have hli : (k : Int) < (entriesOf N C).length := by omega
    have h1 := rowAt_map encEntry (entriesOf N C) k hlt
    have hm := List.getElem_mem hlt
    obtain ⟨z1, z2, z3⟩ := ent_sizes hN hm
    have hsu := fl_succ (keepS s true) hlt
    have hsb' := keep_sum N C (keepS s true) (k + 1)
    have hfr : (parseF (entriesOf N C)[k].stack).getD [] = frsE (entriesOf N C)[k] := rfl
    cases hq : keepS s true (entriesOf N C)[k] with
    | true =>
      have hq' : 0 ≤ idxF s (frsE (entriesOf N C)[k]) := by simpa [keepS] using hq
      rw [hq, if_pos rfl] at hsu
      have hse : sumE (((entriesOf N C).take (k + 1)).filter (keepS s true)) = sumE (((entriesOf N C).take k).filter (keepS s true)) + (entriesOf N C)[k].count := by
        rw [hsu]; unfold sumE; rw [List.map_append, List.sum_append]; simp
      rw [hse] at hsb'
      (repeat' (first | refine WP.seq ?_ | refine WP.block ?_ | ((first | refine WP.region ?_ | refine WP.condW ?_ | refine WP.ret ?_ | refine WP.exit ?_ | refine WP.skip ?_); simp only [go_sem, hli, h1, encEntry, hfr, hq', tyAll, Nat.reduceAdd, Nat.reduceLT, Nat.reduceLeDiff, Nat.reduceEqDiff, Nat.reduceMul, Nat.reduceSub, Nat.reduceGT, reduceIte, Int.reduceNeg, Int.reduceToNat]) |  refine And.intro ?_ ?_ | intro _))
      all_goals first | omega | (simp only; omega) | exact ⟨_, _, _, rfl⟩ | skip
      all_goals first | exact ⟨k + 1, by omega, by omega, by simp only [hse]; (first | rfl | exact ⟨rfl, rfl⟩ | exact ⟨rfl, rfl, rfl⟩ | exact ⟨rfl, rfl, rfl, rfl⟩ | exact ⟨rfl, rfl, rfl, rfl, rfl⟩ | exact ⟨⟨rfl, rfl⟩, rfl⟩ | simp)⟩ | trace_state
    | false =>
      have hq' : ¬ 0 ≤ idxF s (frsE (entriesOf N C)[k]) := by simpa [keepS] using hq
      rw [hq, if_neg (by simp), List.append_nil] at hsu
      (repeat' (first | refine WP.seq ?_ | refine WP.block ?_ | ((first | refine WP.region ?_ | refine WP.condW ?_ | refine WP.ret ?_ | refine WP.exit ?_ | refine WP.skip ?_); simp only [go_sem, hli, h1, encEntry, hfr, hq', tyAll, Nat.reduceAdd, Nat.reduceLT, Nat.reduceLeDiff, Nat.reduceEqDiff, Nat.reduceMul, Nat.reduceSub, Nat.reduceGT, reduceIte, Int.reduceNeg, Int.reduceToNat]) |  refine And.intro ?_ ?_ | intro _))
      all_goals first | omega | (simp only; omega) | exact ⟨_, _, _, rfl⟩ | skip
      all_goals first | exact ⟨k + 1, by omega, by omega, by simp only [hsu]; (first | rfl | exact ⟨rfl, rfl⟩ | exact ⟨rfl, rfl, rfl⟩ | exact ⟨rfl, rfl, rfl, rfl⟩ | exact ⟨rfl, rfl, rfl, rfl, rfl⟩ | exact ⟨⟨rfl, rfl⟩, rfl⟩ | simp)⟩ | trace_state
  · have hge : ¬ (k : Int) < (entriesOf N C).length := by omega
    have hke : k = (entriesOf N C).length := by omega
    subst hke
    rw [List.take_length] at hsb ⊢
    have hdv := tdiv_rng (a := 1000 * sumE ((entriesOf N C).filter (keepS s true))) (b := totalOf N C) (by omega) (by omega) (by omega)
    (repeat' (first | refine WP.seq ?_ | refine WP.block ?_ | ((first | refine WP.region ?_ | refine WP.condW ?_ | refine WP.ret ?_ | refine WP.exit ?_ | refine WP.skip ?_); simp only [go_sem, hge, tyAll, Nat.reduceAdd, Nat.reduceLT, Nat.reduceLeDiff, Nat.reduceEqDiff, Nat.reduceMul, Nat.reduceSub, Nat.reduceGT, reduceIte, Int.reduceNeg, Int.reduceToNat]) |  refine And.intro ?_ ?_ | intro _))
    all_goals first | omega | skip
    all_goals trace_state
end
section
attribute [local go_sem] kszPr ktoPr keqPr kShare
end
end
end Go.Proofs.YtklcphbgaeiegaaGreatDoor
/-
  DERIVED. Plain lists: counts by name, one step as cells.
-/
namespace Go.Proofs.YtklcphbgaeiegaaGreatDoor
open Go.Vc Go.Pl
set_option linter.unusedVariables false
theorem namesE_len2 {N : List Node} {C : List Int} (hN : N.length ≤ 1048576) {e : Entry} (h : e ∈ entriesOf N C) : (namesE e).length ≤ 1048576 := by
  unfold namesE; rw [List.length_map]; exact (ent_sizes hN h).2.1
theorem bump_len (L : List Entry) (s : ByteArray) (c : Int) : (bump L s c).length ≤ L.length + 1 := by
  unfold bump
  split <;> simp
theorem insB_len (L : List Entry) (s : ByteArray) (c : Int) : (insB L s c).length ≤ L.length + 1 := by
  have := posE_le L s
  unfold insB
  split
  · simp
  · simp only [List.length_append, List.length_take, List.length_cons, List.length_drop]; omega
theorem addI_len (c : Int) : ∀ (ns : List ByteArray) (L : List Entry), (addI c ns L).length ≤ L.length + ns.length
  | [], L => by simp [addI]
  | s :: ns, L => by
    have h1 := addI_len c ns (bump L s c)
    have h2 := bump_len L s c
    simp only [List.length_cons]
    have : addI c (s :: ns) L = addI c ns (bump L s c) := rfl
    rw [this]; omega
theorem addO_len (c : Int) : ∀ (ns : List ByteArray) (L : List Entry), (addO c ns L).length ≤ L.length + ns.length
  | [], L => by simp [addO]
  | s :: ns, L => by
    have h1 := addO_len c ns (insB L s c)
    have h2 := insB_len L s c
    simp only [List.length_cons]
    have : addO c (s :: ns) L = addO c ns (insB L s c) := rfl
    rw [this]; omega
theorem nbI_len {B : Nat} {s : ByteArray} {d : Int} {E : List Entry} (h : ∀ e ∈ E, (namesE e).length ≤ B) : ∀ k, k ≤ E.length → (nbI s d (E.take k)).length ≤ B * k
  | 0, _ => by simp [nbI]
  | k + 1, hk => by
    have hk' : k < E.length := by omega
    have ih := nbI_len (s := s) (d := d) h k (by omega)
    have h1 := h _ (List.getElem_mem hk')
    have h2 := nearK_len s d (namesE E[k]) (namesE E[k]).length
    have h3 := addI_len E[k].count (nearE s d E[k]) (nbI s d (E.take k))
    rw [nbI_succ s d hk', Nat.mul_add, Nat.mul_one]
    unfold nearE at h3 ⊢
    omega
theorem nbO_len {B : Nat} {s : ByteArray} {d : Int} {E : List Entry} (h : ∀ e ∈ E, (namesE e).length ≤ B) : ∀ k, k ≤ E.length → (nbO s d (E.take k)).length ≤ B * k
  | 0, _ => by simp [nbO]
  | k + 1, hk => by
    have hk' : k < E.length := by omega
    have ih := nbO_len (s := s) (d := d) h k (by omega)
    have h1 := h _ (List.getElem_mem hk')
    have h2 := nearK_len s d (namesE E[k]) (namesE E[k]).length
    have h3 := addO_len E[k].count (nearE s d E[k]) (nbO s d (E.take k))
    rw [nbO_succ s d hk', Nat.mul_add, Nat.mul_one]
    unfold nearE at h3 ⊢
    omega
/-- room for c more -/
theorem room_rep {c S : Int} (hc : 0 ≤ c) (hS : 0 ≤ S) {f : ByteArray → Option Int} (h : Bd f S [] c) {ns : List ByteArray} (hn : ns.Nodup) {L : List Entry} (hr : Rep' L (addF' c ns f)) {e : Entry} (he : e ∈ L) (hs : e.stack ∉ ns) : 0 ≤ e.count ∧ e.count ≤ S := by
  have h1 := addF_bd hc hS h hn ns.length (Nat.le_refl _)
  rw [List.take_length] at h1
  have h2 := h1 _ _ ((hr.mem e).1 he)
  rw [if_neg hs] at h2
  omega
section
variable {s : ByteArray} {d : Int} {ns : List ByteArray} {i : Nat}
theorem near_no (hi : i < ns.length) (h : ¬ (ns[i] = s ∧ 0 ≤ (i : Int) + d ∧ (i : Int) + d < ns.length)) : nearK s d ns (i + 1) = nearK s d ns i := by
  rw [nearK, if_neg]
  rintro ⟨h1, h2, h3, _⟩
  rw [List.getD_eq_getElem?_getD, List.getElem?_eq_getElem hi] at h1
  exact h ⟨h1, h2, h3⟩
theorem near_old (hi : i < ns.length) {j : Nat} (hj : j < ns.length) (hji : (j : Int) = (i : Int) + d) (h : ns[j] ∈ nearK s d ns i) : nearK s d ns (i + 1) = nearK s d ns i := by
  rw [nearK, if_neg]
  rintro ⟨_, _, _, h4⟩
  rw [show ((i : Int) + d).toNat = j by omega, List.getD_eq_getElem?_getD, List.getElem?_eq_getElem hj] at h4
  exact h4 h
theorem near_new (hi : i < ns.length) {j : Nat} (hj : j < ns.length) (hji : (j : Int) = (i : Int) + d) (hs : ns[i] = s) (h : ns[j] ∉ nearK s d ns i) : nearK s d ns (i + 1) = nearK s d ns i ++ [ns[j]] := by
  have e1 : ns.getD ((i : Int) + d).toNat ⟨#[]⟩ = ns[j] := by rw [show ((i : Int) + d).toNat = j by omega, List.getD_eq_getElem?_getD, List.getElem?_eq_getElem hj]; rfl
  have e2 : ns.getD i ⟨#[]⟩ = s := by rw [List.getD_eq_getElem?_getD, List.getElem?_eq_getElem hi]; exact hs
  rw [nearK, e1, e2, if_pos ⟨rfl, by omega, by omega, h⟩]
end
/-- what stands where s belongs -/
theorem insB_old {L : List Entry} {s : ByteArray} {c : Int} {q : Nat} (hp : posE L s = q) (hq : q < L.length) (hs : L[q].stack = s) : ((L.map encEntry).set q [SV.v (.string L[q].stack), SV.v (.int .i64 (L[q].count + c))]) = (insB L s c).map encEntry := by
  have e1 : L.getD q default = L[q] := by rw [List.getD_eq_getElem?_getD, List.getElem?_eq_getElem hq]; rfl
  unfold insB
  rw [hp, e1, if_pos ⟨hq, hs⟩, ← hs, List.map_set]
  rfl
theorem insB_new {L : List Entry} {s : ByteArray} {c : Int} {q : Nat} (hp : posE L s = q) (hn : ¬ (q < L.length ∧ (L.getD q default).stack = s)) : insB L s c = L.take q ++ ⟨s, c⟩ :: L.drop q := by
  unfold insB
  rw [hp, if_neg hn]
/-- the list with room for s -/
def openE (L : List Entry) (q : Nat) (s : ByteArray) : List Entry := L.take q ++ ⟨s, 0⟩ :: L.drop q
theorem openE_row {L : List Entry} {q : Nat} {s : ByteArray} (hq : q ≤ L.length) : Go.Vc.rowAt ((openE L q s).map encEntry) q = [SV.v (.string s), SV.v (.int .i64 0)] := by
  have hl : q < (openE L q s).length := by unfold openE; simp only [List.length_append, List.length_take, List.length_cons, List.length_drop]; omega
  rw [rowAt_map encEntry (openE L q s) q hl]
  have h : (openE L q s)[q]? = some ⟨s, 0⟩ := by
    unfold openE
    rw [List.getElem?_append_right (by rw [List.length_take]; omega), List.length_take, Nat.min_eq_left hq, Nat.sub_self]; rfl
  rw [(List.getElem?_eq_some_iff.1 h).2]; rfl
theorem openE_set {L : List Entry} {q : Nat} {s : ByteArray} {c : Int} (hq : q ≤ L.length) : ((openE L q s).map encEntry).set q [SV.v (.string s), SV.v (.int .i64 (0 + c))] = (L.take q ++ ⟨s, c⟩ :: L.drop q).map encEntry := by
  have : (openE L q s).set q ⟨s, c⟩ = L.take q ++ ⟨s, c⟩ :: L.drop q := by
    unfold openE
    rw [List.set_append, if_neg (by rw [List.length_take]; omega), List.length_take, Nat.min_eq_left hq, Nat.sub_self, List.set_cons_zero]
  rw [← this, List.map_set]
  simp only [encEntry, Int.zero_add]
theorem openE_len {L : List Entry} {q : Nat} {s : ByteArray} (hq : q ≤ L.length) : (openE L q s).length = L.length + 1 := by
  unfold openE; simp only [List.length_append, List.length_take, List.length_cons, List.length_drop]; omega
/-! in place -/
theorem bump_new {L : List Entry} {s : ByteArray} {c : Int} (h : firstIdx (isAt s) L < 0) : L.map encEntry ++ [[SV.v (.string s), SV.v (.int .i64 c)]] = (bump L s c).map encEntry := by
  unfold bump; rw [if_pos h, List.map_append]; rfl
theorem bump_old {L : List Entry} {s : ByteArray} {c : Int} (h : ¬ firstIdx (isAt s) L < 0) : ∃ (p : Nat) (hp : p < L.length), firstIdx (isAt s) L = p ∧ L[p].stack = s ∧ (L.map encEntry).set p [SV.v (.string L[p].stack), SV.v (.int .i64 (L[p].count + c))] = (bump L s c).map encEntry := by
  obtain ⟨p, hp, h1, h2⟩ := firstIdx_pos h
  have hs : L[p].stack = s := by simpa [isAt] using h2
  refine ⟨p, hp, h1, hs, ?_⟩
  unfold bump
  rw [if_neg h, h1, Int.toNat_natCast, List.getD_eq_getElem?_getD, List.getElem?_eq_getElem hp, Option.getD_some, List.map_set, hs]
  rfl
end Go.Proofs.YtklcphbgaeiegaaGreatDoor

namespace Go.Proofs.YtklcphbgaeiegaaGreatDoor
open Go.Vc
attribute [local go_sem] St.runR St.runW St.stepV offV St.step St.stepU St.stepG mkCond guardB St.prK St.pr St.prLen St.eff St.callE St.callD St.callF St.callL aI aB aS aR aC St.isM St.argL Ctr.pure Ctr.lend Ctr.move Ctr.isL Ctr.wri pur len lentBy St.lentV St.lent1 nthS argsR restOf obsR pairs swapL unObs backL St.resL erL SV.ren1 SV.up SV.up2 Ob.up St.fzL cellIds partIds St.intoRow SV.ownId St.fz SV.fz1 St.prep St.mvL St.mv SV.re1 rnOk St.prEq vals eqCells scEq Value.kd St.prStr St.prCut cutR St.bnd St.prMin St.bld isShift outL retL outJ oR oC St.ev St.get St.put St.new St.kill SV.kill SV.kill1 Ob.kill St.app St.wrt St.rowsOf St.res St.killL lk er argsL SV.strip SV.need SV.share SV.share1 SV.owns SV.owns1 SV.owns2 SV.good SV.good1 SV.rok SV.rok1 SV.rok2 SV.isV SV.isV2 nodupN SV.cells SV.one SV.pur Ob.pb partsIn rowsIn splice cellsAt dstOk scal2 scal1 thenK blockK retK outK outs okC okL okA okT nilC nilL nilA nilT keepC keepL keepA keepT St.runG St.dltK St.least St.clean St.final St.hide offK badS badO SV.refs SV.leaf SV.leaf2 Ob.refs dlOk fpAt Go.Vc.cover tups SV.ofAgg St.out outC subL St.has rng wr Value.oneCell' Option.isSome_some Option.isSome_none List.nil_append Bool.false_eq_true List.map_cons List.map_nil List.all_cons List.all_nil List.length_cons List.length_nil List.drop_zero List.drop_succ_cons List.take_succ_cons List.take_zero List.drop_nil List.take_nil List.getElem?_cons_zero List.getElem?_cons_succ List.getElem?_nil List.cons_append List.nil_append List.append_nil List.append_assoc List.flatMap_cons List.flatMap_nil List.contains_cons List.contains_nil List.set_cons_zero List.set_cons_succ List.getElem?_toArray Option.getD_some Option.getD_none Option.map_some Option.map_none Option.bind_some Option.some.injEq Prod.mk.injEq if_true if_false true_and and_true and_self and_false false_and Bool.and_false Bool.false_and Bool.or_true Bool.true_or Bool.or_false Bool.false_or ne_eq not_true_eq_false not_false_eq_true decide_true decide_false List.mem_cons List.not_mem_nil List.filter_cons List.filter_nil List.any_cons List.any_nil List.isEmpty_nil List.isEmpty_cons Option.getD_none or_false false_or true_or or_true forall_eq_or_imp forall_eq reduceCtorEq exists_eq exists_eq' exists_eq_left' exists_eq_left exists_eq_right exists_eq_right' imp_self implies_true Bool.and_true Bool.true_and Bool.and_self beq_self_eq_true List.replicate_succ List.replicate_zero forall_const false_implies pickB_or pickB_and beqT beqF Int.toNat_natCast List.length_map List.length_replicate ge_iff_le gt_iff_lt decide_eq_true_eq decide_eq_false_iff_not Bool.and_eq_true Bool.or_eq_true Bool.not_eq_true' Bool.not_eq_false' condG List.toList_toArray Bool.or_eq_false_iff Bool.and_eq_false_iff Int.not_lt Int.not_le beq_iff_eq beq_eq_false_iff_ne bne_iff_ne bne_eq_false_iff_eq ne_eq Bool.not_true Bool.not_false exists_and_left
section
open Go.Vc
set_option linter.unusedSimpArgs false
set_option linter.unusedVariables false
set_option maxHeartbeats 1000000
set_option maxRecDepth 10000
attribute [local irreducible] Go.Vc.WP
attribute [local go_sem] cx0_t cx0_c
def fla18b2e2e72 : List Go.Vc.Fp := [⟨[], [], [], [110, 116, 117], [], [106]⟩, ⟨[7], [], [], [106, 110, 116, 117], [], []⟩, ⟨[14], [], [], [106, 110, 116, 117], [], []⟩, ⟨[107, 108], [1, 2], [], [106, 110, 116, 117], [], []⟩, ⟨[106, 109], [0, 1, 2, 3], [], [116, 117], [106], [110]⟩, ⟨[10], [], [106], [106, 110, 116, 117], [], []⟩, ⟨[13], [], [106], [106, 110, 116, 117], [], []⟩, ⟨[111, 112], [5, 6], [106], [106, 110, 116, 117], [], []⟩, ⟨[113], [5, 6, 7], [106], [106, 110, 116, 117], [], []⟩, ⟨[114], [5, 6, 7, 8], [106], [106, 110, 116, 117], [], []⟩, ⟨[115], [5, 6, 7, 8, 9], [106], [106, 110, 117], [], [116]⟩, ⟨[110, 116], [0, 1, 2, 3, 4, 5, 6, 7, 8, 9, 10], [106], [], [110], [117]⟩, ⟨[7], [], [106, 110], [106, 110, 116, 117], [], []⟩, ⟨[14], [], [106, 110], [106, 110, 116, 117], [], []⟩, ⟨[118, 119], [12, 13], [106, 110], [106, 110, 116, 117], [], []⟩, ⟨[], [0, 1, 2, 3, 4, 5, 6, 7, 8, 9, 10, 11, 12, 13, 14], [], [], [], []⟩, ⟨[], [0, 1, 2, 3, 4, 5, 6, 7, 8, 9, 10, 11, 12, 13, 14, 15], [], [], [], []⟩]
def flf10d1098bd : List Go.Vc.Fp := [⟨[7], [], [], [], [], []⟩, ⟨[14], [], [], [], [], []⟩, ⟨[7], [], [], [], [], []⟩, ⟨[14], [], [], [], [], []⟩, ⟨[124, 125], [2, 3], [], [], [], []⟩, ⟨[126], [2, 3, 4], [], [], [], []⟩, ⟨[127], [2, 3, 4, 5], [], [], [], []⟩, ⟨[8], [], [], [], [], []⟩, ⟨[9], [], [], [], [], []⟩, ⟨[129, 130], [7, 8], [], [], [], []⟩, ⟨[131], [7, 8, 9], [], [], [], []⟩, ⟨[132], [7, 8, 9, 10], [], [], [], []⟩, ⟨[128, 133], [2, 3, 4, 5, 6, 7, 8, 9, 10, 11], [], [], [], []⟩, ⟨[], [0, 1, 2, 3, 4, 5, 6, 7, 8, 9, 10, 11, 12], [], [], [], []⟩, ⟨[], [0, 1, 2, 3, 4, 5, 6, 7, 8, 9, 10, 11, 12, 13], [], [], [], []⟩, ⟨[], [0, 1, 2, 3, 4, 5, 6, 7, 8, 9, 10, 11, 12, 13, 14], [], [], [], []⟩]
attribute [local go_sem] fla18b2e2e72 flf10d1098bd
attribute [local go_sem] isV_Node isV_It isV_Entry isV_S decNode_enc decFrame_enc oneFrame_enc stkA oneFrame_ab oneNode_abc decI_enc decS_enc aU prA decEntry_enc St.fzS addL behind St.runO St.stepO
open Go.Pl
def kNb : Ctr := pur (fun args => (prA args 0, aS args 1, aI args 2)) (fun x => [.agg [.sl 3 (x.1.1.map encNode), .sl 1 (x.1.2.map encI)], .v (.string x.2.1), .v (.int .i64 x.2.2)])
  (fun x => ((x.1.1.length ≤ 1048576 ∧ ∀ n ∈ x.1.1, n.name.size ≤ 1048576) ∧ x.1.2.length ≤ 1048576) ∧ -1 ≤ x.2.2 ∧ x.2.2 ≤ 1) (fun d _ => .own d) (fun d x => [(d, .sl 54 2 ((nbO x.2.1 x.2.2 (entriesOf x.1.1 x.1.2)).map encEntry))])
theorem mem_pos {L : List ByteArray} {s : ByteArray} : (0 ≤ firstIdx (strIs s) L) = (s ∈ L) := firstIdx_mem
section
noncomputable def cxNbS : Cx := { P := Tryz.prog, tys := tys, C := [(35, kEntZ), (143, kNamesZ), (144, kIdxS)], hty := tysOk, hC := COk.cons cEntZS (COk.cons cNamesS (COk.cons cIdxSS (COk.nil _))) }
theorem cxNbS_t : cxNbS.tys = tys := rfl
theorem cxNbS_c : cxNbS.C = [(35, kEntZ), (143, kNamesZ), (144, kIdxS)] := rfl
attribute [local go_sem] cxNbS_t cxNbS_c kEntZ kNamesZ kIdxS
set_option maxHeartbeats 20000000 in
theorem cNbS : Cn Tryz.prog 82 kNb := by
  refine Cn.pur Tryz.func82 (by kernel_rfl) rfl fun d x hx => ?_
  obtain ⟨⟨N, C⟩, s, dd⟩ := x
  obtain ⟨⟨⟨hN, hs⟩, hC⟩, hd0, hd1⟩ := hx
  simp only at hN hs hC hd0 hd1 ⊢
  have hlen := entriesOf_len N C
  refine Holds.go (c := cxNbS) Tryz.func82 rfl Tryz.results82 Tryz.ntmps82 (by omega) (by simp) rfl ?_
  intro X0 w0
  (repeat' (first | refine WP.seq ?_ | refine WP.block ?_ | ((first | refine WP.region ?_ | refine WP.condW ?_ | refine WP.ret ?_ | refine WP.exit ?_ | refine WP.skip ?_); simp only [go_sem, tyAll, Nat.reduceAdd, Nat.reduceLT, Nat.reduceLeDiff, Nat.reduceEqDiff, Nat.reduceMul, Nat.reduceSub, Nat.reduceGT, reduceIte, Int.reduceNeg, Int.reduceToNat]) | ((first | refine WP.flowZ [7] 15 fla18b2e2e72 [106, 107, 108, 109, 110, 111, 112, 113, 114, 115, 116, 117, 118, 119, 120] [106, 110, 116, 117] [106, 110] (by decide +kernel) (by kernel_rfl) (by kernel_rfl) (by kernel_rfl) ?_ | refine WP.flowW 15 fla18b2e2e72 [106, 107, 108, 109, 110, 111, 112, 113, 114, 115, 116, 117, 118, 119, 120] [106, 110, 116, 117] [106, 110] (by decide +kernel) (by kernel_rfl) (by kernel_rfl) (by kernel_rfl) ?_ | refine WP.flowW 13 flf10d1098bd [122, 123, 124, 125, 126, 127, 128, 129, 130, 131, 132, 133, 134] [] [] (by decide +kernel) (by kernel_rfl) (by kernel_rfl) (by kernel_rfl) ?_ | refine WP.drawW 16 (by decide +kernel) (by kernel_rfl) ?_); simp only [go_sem, tyAll, Nat.reduceAdd, Nat.reduceLT, Nat.reduceLeDiff, Nat.reduceEqDiff, Nat.reduceMul, Nat.reduceSub, Nat.reduceGT, reduceIte, Int.reduceNeg, Int.reduceToNat]) |  refine And.intro ?_ ?_ | intro _))
  all_goals first | omega | (simp only; omega) | exact Nat.le_trans (hs _ ‹_›) (by omega) | exact ⟨_, _, _, rfl⟩ | skip
  refine WP.prep [] [(15, 117)] rfl ?_
  refine WP.loop (fun k : Nat => ⟨[(1, .v (.string s)), (2, .v (.int .i64 dd)), (7, .own 117), (8, .sl 2 ((entriesOf N C).map encEntry)), (9, .v (.int .i64 k))], [(117, .sl 54 2 ((nbO s dd ((entriesOf N C).take k)).map encEntry))]⟩)
    (fun k => k ≤ (entriesOf N C).length) (fun k => (entriesOf N C).length - k) 0 (by simp) ?_ ?_
  · (simp only [go_sem, tyAll, Nat.reduceAdd, Nat.reduceLT, Nat.reduceLeDiff, Nat.reduceEqDiff, Nat.reduceMul, Nat.reduceSub, Nat.reduceGT, reduceIte, Int.reduceNeg, Int.reduceToNat] <;> (first | rfl | exact ⟨rfl, rfl⟩ | exact ⟨rfl, rfl, rfl⟩ | exact ⟨rfl, rfl, rfl, rfl⟩ | exact ⟨rfl, rfl, rfl, rfl, rfl⟩ | exact ⟨⟨rfl, rfl⟩, rfl⟩ | simp))
  intro k hk
  have hTl := nbO_len (B := 1048576) (s := s) (d := dd) (fun e he => namesE_len2 hN he) k hk
  have hTk : 1048576 * k ≤ 1048576 * 1048576 := Nat.mul_le_mul_left _ (by omega)
  by_cases hkl : k < (entriesOf N C).length
  rotate_left
  · have hge : ¬ (k : Int) < (entriesOf N C).length := by omega
    have hke : k = (entriesOf N C).length := by omega
    subst hke
    rw [List.take_length] at hTl ⊢
    (repeat' (first | refine WP.seq ?_ | refine WP.block ?_ | ((first | refine WP.region ?_ | refine WP.condW ?_ | refine WP.ret ?_ | refine WP.exit ?_ | refine WP.skip ?_); simp only [go_sem, hge, tyAll, Nat.reduceAdd, Nat.reduceLT, Nat.reduceLeDiff, Nat.reduceEqDiff, Nat.reduceMul, Nat.reduceSub, Nat.reduceGT, reduceIte, Int.reduceNeg, Int.reduceToNat]) | ((first | refine WP.flowZ [7] 15 fla18b2e2e72 [106, 107, 108, 109, 110, 111, 112, 113, 114, 115, 116, 117, 118, 119, 120] [106, 110, 116, 117] [106, 110] (by decide +kernel) (by kernel_rfl) (by kernel_rfl) (by kernel_rfl) ?_ | refine WP.flowW 15 fla18b2e2e72 [106, 107, 108, 109, 110, 111, 112, 113, 114, 115, 116, 117, 118, 119, 120] [106, 110, 116, 117] [106, 110] (by decide +kernel) (by kernel_rfl) (by kernel_rfl) (by kernel_rfl) ?_ | refine WP.flowW 13 flf10d1098bd [122, 123, 124, 125, 126, 127, 128, 129, 130, 131, 132, 133, 134] [] [] (by decide +kernel) (by kernel_rfl) (by kernel_rfl) (by kernel_rfl) ?_ | refine WP.drawW 16 (by decide +kernel) (by kernel_rfl) ?_); simp only [go_sem, hge, tyAll, Nat.reduceAdd, Nat.reduceLT, Nat.reduceLeDiff, Nat.reduceEqDiff, Nat.reduceMul, Nat.reduceSub, Nat.reduceGT, reduceIte, Int.reduceNeg, Int.reduceToNat]) |  refine And.intro ?_ ?_ | intro _))
    all_goals first | omega | skip
    all_goals trace_state
  have hki : (k : Int) < (entriesOf N C).length := by omega
  have hE := rowAt_map encEntry (entriesOf N C) k hkl
  have hmem := List.getElem_mem hkl
  obtain ⟨z1, z2, z3⟩ := ent_sizes hN hmem
  have hsu := nbO_succ s dd hkl
  have hnl := namesE_len2 hN hmem
  obtain ⟨hB, hS⟩ := nbF_bd (E := entriesOf N C) s dd ent_pos k (by omega) (entriesOf N C)[k].count
  obtain ⟨hR, hA⟩ := nbO_rep s dd ((entriesOf N C).take k)
  have hc := ent_pos _ hmem
  have hss := sumE_succ hkl
  have hst := (sumE_take_le (E := entriesOf N C) ent_pos (k + 1)).2
  rw [sumE_entries] at hst
  have htb := totalOf_bound N C
  have hns : (frsS (entriesOf N C)[k].stack).map (fun x => x.name) = namesE (entriesOf N C)[k] := rfl
  unfold nearE at hsu
  generalize namesE (entriesOf N C)[k] = ns at hsu hnl hns
  generalize hcE : (entriesOf N C)[k].count = c at hB hc hss hsu
  generalize nbO s dd ((entriesOf N C).take k) = L at hR hA hsu hTl ⊢
  generalize nbF s dd ((entriesOf N C).take k) = fF at hB hR
  generalize sumE ((entriesOf N C).take k) = S at hB hS hss
  generalize sumE ((entriesOf N C).take (k + 1)) = S1 at hss hst
  (repeat' (first | refine WP.seq ?_ | refine WP.block ?_ | ((first | refine WP.region ?_ | refine WP.condW ?_ | refine WP.ret ?_ | refine WP.exit ?_ | refine WP.skip ?_); simp only [go_sem, hki, hE, encEntry, hns, hcE, tyAll, Nat.reduceAdd, Nat.reduceLT, Nat.reduceLeDiff, Nat.reduceEqDiff, Nat.reduceMul, Nat.reduceSub, Nat.reduceGT, reduceIte, Int.reduceNeg, Int.reduceToNat]) | ((first | refine WP.flowZ [7] 15 fla18b2e2e72 [106, 107, 108, 109, 110, 111, 112, 113, 114, 115, 116, 117, 118, 119, 120] [106, 110, 116, 117] [106, 110] (by decide +kernel) (by kernel_rfl) (by kernel_rfl) (by kernel_rfl) ?_ | refine WP.flowW 15 fla18b2e2e72 [106, 107, 108, 109, 110, 111, 112, 113, 114, 115, 116, 117, 118, 119, 120] [106, 110, 116, 117] [106, 110] (by decide +kernel) (by kernel_rfl) (by kernel_rfl) (by kernel_rfl) ?_ | refine WP.flowW 13 flf10d1098bd [122, 123, 124, 125, 126, 127, 128, 129, 130, 131, 132, 133, 134] [] [] (by decide +kernel) (by kernel_rfl) (by kernel_rfl) (by kernel_rfl) ?_ | refine WP.drawW 16 (by decide +kernel) (by kernel_rfl) ?_); simp only [go_sem, hki, hE, encEntry, hns, hcE, tyAll, Nat.reduceAdd, Nat.reduceLT, Nat.reduceLeDiff, Nat.reduceEqDiff, Nat.reduceMul, Nat.reduceSub, Nat.reduceGT, reduceIte, Int.reduceNeg, Int.reduceToNat]) |  refine And.intro ?_ ?_ | intro _))
  all_goals first | omega | exact ⟨_, _, _, rfl⟩ | skip
  refine WP.loop (fun i : Nat => ⟨[(1, .v (.string s)), (2, .v (.int .i64 dd)), (7, .own 117), (8, .sl 2 ((entriesOf N C).map encEntry)), (9, .v (.int .i64 k)), (10, .sl 1 (ns.map encS)), (11, .own 30), (12, .v (.int .i64 i))],
      [(30, .sl 9 1 ((nearK s dd ns i).map encS)), (117, .sl 54 2 ((addO c (nearK s dd ns i) L).map encEntry))]⟩) (fun i => i ≤ ns.length) (fun i => ns.length - i) 0 (by simp) ?_ ?_
  · (simp only [go_sem, tyAll, Nat.reduceAdd, Nat.reduceLT, Nat.reduceLeDiff, Nat.reduceEqDiff, Nat.reduceMul, Nat.reduceSub, Nat.reduceGT, reduceIte, Int.reduceNeg, Int.reduceToNat] <;> (first | rfl | exact ⟨rfl, rfl⟩ | exact ⟨rfl, rfl, rfl⟩ | exact ⟨rfl, rfl, rfl, rfl⟩ | exact ⟨rfl, rfl, rfl, rfl, rfl⟩ | exact ⟨⟨rfl, rfl⟩, rfl⟩ | simp))
  intro i hi
  by_cases hlt : i < ns.length
  rotate_left
  · have hge : ¬ (i : Int) < ns.length := by omega
    have hie : i = ns.length := by omega
    subst hie
    (repeat' (first | refine WP.seq ?_ | refine WP.block ?_ | ((first | refine WP.region ?_ | refine WP.condW ?_ | refine WP.ret ?_ | refine WP.exit ?_ | refine WP.skip ?_); simp only [go_sem, hge, tyAll, Nat.reduceAdd, Nat.reduceLT, Nat.reduceLeDiff, Nat.reduceEqDiff, Nat.reduceMul, Nat.reduceSub, Nat.reduceGT, reduceIte, Int.reduceNeg, Int.reduceToNat]) | ((first | refine WP.flowZ [7] 15 fla18b2e2e72 [106, 107, 108, 109, 110, 111, 112, 113, 114, 115, 116, 117, 118, 119, 120] [106, 110, 116, 117] [106, 110] (by decide +kernel) (by kernel_rfl) (by kernel_rfl) (by kernel_rfl) ?_ | refine WP.flowW 15 fla18b2e2e72 [106, 107, 108, 109, 110, 111, 112, 113, 114, 115, 116, 117, 118, 119, 120] [106, 110, 116, 117] [106, 110] (by decide +kernel) (by kernel_rfl) (by kernel_rfl) (by kernel_rfl) ?_ | refine WP.flowW 13 flf10d1098bd [122, 123, 124, 125, 126, 127, 128, 129, 130, 131, 132, 133, 134] [] [] (by decide +kernel) (by kernel_rfl) (by kernel_rfl) (by kernel_rfl) ?_ | refine WP.drawW 16 (by decide +kernel) (by kernel_rfl) ?_); simp only [go_sem, hge, tyAll, Nat.reduceAdd, Nat.reduceLT, Nat.reduceLeDiff, Nat.reduceEqDiff, Nat.reduceMul, Nat.reduceSub, Nat.reduceGT, reduceIte, Int.reduceNeg, Int.reduceToNat]) |  refine And.intro ?_ ?_ | intro _))
    all_goals first | omega | skip
    all_goals first | exact ⟨k + 1, by omega, by omega, by simp only [hsu]; (first | rfl | exact ⟨rfl, rfl⟩ | exact ⟨rfl, rfl, rfl⟩ | exact ⟨rfl, rfl, rfl, rfl⟩ | exact ⟨rfl, rfl, rfl, rfl, rfl⟩ | exact ⟨⟨rfl, rfl⟩, rfl⟩ | simp)⟩ | trace_state
  have hli : (i : Int) < ns.length := by omega
  have h1 := rowAt_map encS ns i hlt
  have hkk := nearK_len s dd ns i
  have hnd := nearK_nodup s dd ns i
  obtain ⟨hR1, hA1⟩ := addO_rep c (nearK s dd ns i) hR hA
  have hOl := addO_len c (nearK s dd ns i) L
  by_cases hcond : ns[i] = s ∧ 0 ≤ (i : Int) + dd ∧ (i : Int) + dd < ns.length
  rotate_left
  · have hno := near_no (d := dd) hlt hcond
    have hro : (∃ t, Go.Vc.rowAt (ns.map encS) ((i : Int) + dd).toNat = [SV.v (.string t)]) ∨ Go.Vc.rowAt (ns.map encS) ((i : Int) + dd).toNat = [] := by
      by_cases hz : ((i : Int) + dd).toNat < ns.length
      · exact .inl ⟨_, rowAt_map encS ns _ hz⟩
      · right; unfold Go.Vc.rowAt; rw [List.getElem?_eq_none (by rw [List.length_map]; omega)]; rfl
    rcases hro with ⟨t, ht⟩ | ht
    · skip
      by_cases q1 : ns[i] = s
      · by_cases q2 : (i : Int) + dd < 0
        · (repeat' (first | (refine WP.regionO (id := 12) ?_; simp only [go_sem, hli, h1, encS, q1, q2, ht, tyAll, Nat.reduceAdd, Nat.reduceLT, Nat.reduceLeDiff, Nat.reduceEqDiff, Nat.reduceMul, Nat.reduceSub, Nat.reduceGT, reduceIte, Int.reduceNeg, Int.reduceToNat]) | refine WP.seq ?_ | refine WP.block ?_ | ((first | refine WP.region ?_ | refine WP.condW ?_ | refine WP.ret ?_ | refine WP.exit ?_ | refine WP.skip ?_); simp only [go_sem, hli, h1, encS, q1, q2, ht, tyAll, Nat.reduceAdd, Nat.reduceLT, Nat.reduceLeDiff, Nat.reduceEqDiff, Nat.reduceMul, Nat.reduceSub, Nat.reduceGT, reduceIte, Int.reduceNeg, Int.reduceToNat]) | ((first | refine WP.flowZ [7] 15 fla18b2e2e72 [106, 107, 108, 109, 110, 111, 112, 113, 114, 115, 116, 117, 118, 119, 120] [106, 110, 116, 117] [106, 110] (by decide +kernel) (by kernel_rfl) (by kernel_rfl) (by kernel_rfl) ?_ | refine WP.flowW 15 fla18b2e2e72 [106, 107, 108, 109, 110, 111, 112, 113, 114, 115, 116, 117, 118, 119, 120] [106, 110, 116, 117] [106, 110] (by decide +kernel) (by kernel_rfl) (by kernel_rfl) (by kernel_rfl) ?_ | refine WP.flowW 13 flf10d1098bd [122, 123, 124, 125, 126, 127, 128, 129, 130, 131, 132, 133, 134] [] [] (by decide +kernel) (by kernel_rfl) (by kernel_rfl) (by kernel_rfl) ?_ | refine WP.drawW 16 (by decide +kernel) (by kernel_rfl) ?_); simp only [go_sem, hli, h1, encS, q1, q2, ht, tyAll, Nat.reduceAdd, Nat.reduceLT, Nat.reduceLeDiff, Nat.reduceEqDiff, Nat.reduceMul, Nat.reduceSub, Nat.reduceGT, reduceIte, Int.reduceNeg, Int.reduceToNat]) |  refine And.intro ?_ ?_ | intro _))
          all_goals first | omega | skip
          all_goals first | exact ⟨i + 1, by omega, by omega, by simp only [hno]; (first | rfl | exact ⟨rfl, rfl⟩ | exact ⟨rfl, rfl, rfl⟩ | exact ⟨rfl, rfl, rfl, rfl⟩ | exact ⟨rfl, rfl, rfl, rfl, rfl⟩ | exact ⟨⟨rfl, rfl⟩, rfl⟩ | simp)⟩ | trace_state
        · have q3 : ¬ (i : Int) + dd < ns.length := fun h => hcond ⟨q1, by omega, h⟩
          have q3' : (ns.length : Int) ≤ (i : Int) + dd := by omega
          (repeat' (first | (refine WP.regionO (id := 12) ?_; simp only [go_sem, hli, h1, encS, q1, q2, q3', ht, tyAll, Nat.reduceAdd, Nat.reduceLT, Nat.reduceLeDiff, Nat.reduceEqDiff, Nat.reduceMul, Nat.reduceSub, Nat.reduceGT, reduceIte, Int.reduceNeg, Int.reduceToNat]) | refine WP.seq ?_ | refine WP.block ?_ | ((first | refine WP.region ?_ | refine WP.condW ?_ | refine WP.ret ?_ | refine WP.exit ?_ | refine WP.skip ?_); simp only [go_sem, hli, h1, encS, q1, q2, q3', ht, tyAll, Nat.reduceAdd, Nat.reduceLT, Nat.reduceLeDiff, Nat.reduceEqDiff, Nat.reduceMul, Nat.reduceSub, Nat.reduceGT, reduceIte, Int.reduceNeg, Int.reduceToNat]) | ((first | refine WP.flowZ [7] 15 fla18b2e2e72 [106, 107, 108, 109, 110, 111, 112, 113, 114, 115, 116, 117, 118, 119, 120] [106, 110, 116, 117] [106, 110] (by decide +kernel) (by kernel_rfl) (by kernel_rfl) (by kernel_rfl) ?_ | refine WP.flowW 15 fla18b2e2e72 [106, 107, 108, 109, 110, 111, 112, 113, 114, 115, 116, 117, 118, 119, 120] [106, 110, 116, 117] [106, 110] (by decide +kernel) (by kernel_rfl) (by kernel_rfl) (by kernel_rfl) ?_ | refine WP.flowW 13 flf10d1098bd [122, 123, 124, 125, 126, 127, 128, 129, 130, 131, 132, 133, 134] [] [] (by decide +kernel) (by kernel_rfl) (by kernel_rfl) (by kernel_rfl) ?_ | refine WP.drawW 16 (by decide +kernel) (by kernel_rfl) ?_); simp only [go_sem, hli, h1, encS, q1, q2, q3', ht, tyAll, Nat.reduceAdd, Nat.reduceLT, Nat.reduceLeDiff, Nat.reduceEqDiff, Nat.reduceMul, Nat.reduceSub, Nat.reduceGT, reduceIte, Int.reduceNeg, Int.reduceToNat]) |  refine And.intro ?_ ?_ | intro _))
          all_goals first | omega | skip
          all_goals first | exact ⟨i + 1, by omega, by omega, by simp only [hno]; (first | rfl | exact ⟨rfl, rfl⟩ | exact ⟨rfl, rfl, rfl⟩ | exact ⟨rfl, rfl, rfl, rfl⟩ | exact ⟨rfl, rfl, rfl, rfl, rfl⟩ | exact ⟨⟨rfl, rfl⟩, rfl⟩ | simp)⟩ | trace_state
      · (repeat' (first | (refine WP.regionO (id := 12) ?_; simp only [go_sem, hli, h1, encS, q1, ht, tyAll, Nat.reduceAdd, Nat.reduceLT, Nat.reduceLeDiff, Nat.reduceEqDiff, Nat.reduceMul, Nat.reduceSub, Nat.reduceGT, reduceIte, Int.reduceNeg, Int.reduceToNat]) | refine WP.seq ?_ | refine WP.block ?_ | ((first | refine WP.region ?_ | refine WP.condW ?_ | refine WP.ret ?_ | refine WP.exit ?_ | refine WP.skip ?_); simp only [go_sem, hli, h1, encS, q1, ht, tyAll, Nat.reduceAdd, Nat.reduceLT, Nat.reduceLeDiff, Nat.reduceEqDiff, Nat.reduceMul, Nat.reduceSub, Nat.reduceGT, reduceIte, Int.reduceNeg, Int.reduceToNat]) | ((first | refine WP.flowZ [7] 15 fla18b2e2e72 [106, 107, 108, 109, 110, 111, 112, 113, 114, 115, 116, 117, 118, 119, 120] [106, 110, 116, 117] [106, 110] (by decide +kernel) (by kernel_rfl) (by kernel_rfl) (by kernel_rfl) ?_ | refine WP.flowW 15 fla18b2e2e72 [106, 107, 108, 109, 110, 111, 112, 113, 114, 115, 116, 117, 118, 119, 120] [106, 110, 116, 117] [106, 110] (by decide +kernel) (by kernel_rfl) (by kernel_rfl) (by kernel_rfl) ?_ | refine WP.flowW 13 flf10d1098bd [122, 123, 124, 125, 126, 127, 128, 129, 130, 131, 132, 133, 134] [] [] (by decide +kernel) (by kernel_rfl) (by kernel_rfl) (by kernel_rfl) ?_ | refine WP.drawW 16 (by decide +kernel) (by kernel_rfl) ?_); simp only [go_sem, hli, h1, encS, q1, ht, tyAll, Nat.reduceAdd, Nat.reduceLT, Nat.reduceLeDiff, Nat.reduceEqDiff, Nat.reduceMul, Nat.reduceSub, Nat.reduceGT, reduceIte, Int.reduceNeg, Int.reduceToNat]) |  refine And.intro ?_ ?_ | intro _))
        all_goals first | omega | skip
        all_goals first | exact ⟨i + 1, by omega, by omega, by simp only [hno]; (first | rfl | exact ⟨rfl, rfl⟩ | exact ⟨rfl, rfl, rfl⟩ | exact ⟨rfl, rfl, rfl, rfl⟩ | exact ⟨rfl, rfl, rfl, rfl, rfl⟩ | exact ⟨⟨rfl, rfl⟩, rfl⟩ | simp)⟩ | trace_state
    · skip
      by_cases q1 : ns[i] = s
      · by_cases q2 : (i : Int) + dd < 0
        · (repeat' (first | (refine WP.regionO (id := 12) ?_; simp only [go_sem, hli, h1, encS, q1, q2, ht, tyAll, Nat.reduceAdd, Nat.reduceLT, Nat.reduceLeDiff, Nat.reduceEqDiff, Nat.reduceMul, Nat.reduceSub, Nat.reduceGT, reduceIte, Int.reduceNeg, Int.reduceToNat]) | refine WP.seq ?_ | refine WP.block ?_ | ((first | refine WP.region ?_ | refine WP.condW ?_ | refine WP.ret ?_ | refine WP.exit ?_ | refine WP.skip ?_); simp only [go_sem, hli, h1, encS, q1, q2, ht, tyAll, Nat.reduceAdd, Nat.reduceLT, Nat.reduceLeDiff, Nat.reduceEqDiff, Nat.reduceMul, Nat.reduceSub, Nat.reduceGT, reduceIte, Int.reduceNeg, Int.reduceToNat]) | ((first | refine WP.flowZ [7] 15 fla18b2e2e72 [106, 107, 108, 109, 110, 111, 112, 113, 114, 115, 116, 117, 118, 119, 120] [106, 110, 116, 117] [106, 110] (by decide +kernel) (by kernel_rfl) (by kernel_rfl) (by kernel_rfl) ?_ | refine WP.flowW 15 fla18b2e2e72 [106, 107, 108, 109, 110, 111, 112, 113, 114, 115, 116, 117, 118, 119, 120] [106, 110, 116, 117] [106, 110] (by decide +kernel) (by kernel_rfl) (by kernel_rfl) (by kernel_rfl) ?_ | refine WP.flowW 13 flf10d1098bd [122, 123, 124, 125, 126, 127, 128, 129, 130, 131, 132, 133, 134] [] [] (by decide +kernel) (by kernel_rfl) (by kernel_rfl) (by kernel_rfl) ?_ | refine WP.drawW 16 (by decide +kernel) (by kernel_rfl) ?_); simp only [go_sem, hli, h1, encS, q1, q2, ht, tyAll, Nat.reduceAdd, Nat.reduceLT, Nat.reduceLeDiff, Nat.reduceEqDiff, Nat.reduceMul, Nat.reduceSub, Nat.reduceGT, reduceIte, Int.reduceNeg, Int.reduceToNat]) |  refine And.intro ?_ ?_ | intro _))
          all_goals first | omega | skip
          all_goals first | exact ⟨i + 1, by omega, by omega, by simp only [hno]; (first | rfl | exact ⟨rfl, rfl⟩ | exact ⟨rfl, rfl, rfl⟩ | exact ⟨rfl, rfl, rfl, rfl⟩ | exact ⟨rfl, rfl, rfl, rfl, rfl⟩ | exact ⟨⟨rfl, rfl⟩, rfl⟩ | simp)⟩ | trace_state
        · have q3 : ¬ (i : Int) + dd < ns.length := fun h => hcond ⟨q1, by omega, h⟩
          have q3' : (ns.length : Int) ≤ (i : Int) + dd := by omega
          (repeat' (first | (refine WP.regionO (id := 12) ?_; simp only [go_sem, hli, h1, encS, q1, q2, q3', ht, tyAll, Nat.reduceAdd, Nat.reduceLT, Nat.reduceLeDiff, Nat.reduceEqDiff, Nat.reduceMul, Nat.reduceSub, Nat.reduceGT, reduceIte, Int.reduceNeg, Int.reduceToNat]) | refine WP.seq ?_ | refine WP.block ?_ | ((first | refine WP.region ?_ | refine WP.condW ?_ | refine WP.ret ?_ | refine WP.exit ?_ | refine WP.skip ?_); simp only [go_sem, hli, h1, encS, q1, q2, q3', ht, tyAll, Nat.reduceAdd, Nat.reduceLT, Nat.reduceLeDiff, Nat.reduceEqDiff, Nat.reduceMul, Nat.reduceSub, Nat.reduceGT, reduceIte, Int.reduceNeg, Int.reduceToNat]) | ((first | refine WP.flowZ [7] 15 fla18b2e2e72 [106, 107, 108, 109, 110, 111, 112, 113, 114, 115, 116, 117, 118, 119, 120] [106, 110, 116, 117] [106, 110] (by decide +kernel) (by kernel_rfl) (by kernel_rfl) (by kernel_rfl) ?_ | refine WP.flowW 15 fla18b2e2e72 [106, 107, 108, 109, 110, 111, 112, 113, 114, 115, 116, 117, 118, 119, 120] [106, 110, 116, 117] [106, 110] (by decide +kernel) (by kernel_rfl) (by kernel_rfl) (by kernel_rfl) ?_ | refine WP.flowW 13 flf10d1098bd [122, 123, 124, 125, 126, 127, 128, 129, 130, 131, 132, 133, 134] [] [] (by decide +kernel) (by kernel_rfl) (by kernel_rfl) (by kernel_rfl) ?_ | refine WP.drawW 16 (by decide +kernel) (by kernel_rfl) ?_); simp only [go_sem, hli, h1, encS, q1, q2, q3', ht, tyAll, Nat.reduceAdd, Nat.reduceLT, Nat.reduceLeDiff, Nat.reduceEqDiff, Nat.reduceMul, Nat.reduceSub, Nat.reduceGT, reduceIte, Int.reduceNeg, Int.reduceToNat]) |  refine And.intro ?_ ?_ | intro _))
          all_goals first | omega | skip
          all_goals first | exact ⟨i + 1, by omega, by omega, by simp only [hno]; (first | rfl | exact ⟨rfl, rfl⟩ | exact ⟨rfl, rfl, rfl⟩ | exact ⟨rfl, rfl, rfl, rfl⟩ | exact ⟨rfl, rfl, rfl, rfl, rfl⟩ | exact ⟨⟨rfl, rfl⟩, rfl⟩ | simp)⟩ | trace_state
      · (repeat' (first | (refine WP.regionO (id := 12) ?_; simp only [go_sem, hli, h1, encS, q1, ht, tyAll, Nat.reduceAdd, Nat.reduceLT, Nat.reduceLeDiff, Nat.reduceEqDiff, Nat.reduceMul, Nat.reduceSub, Nat.reduceGT, reduceIte, Int.reduceNeg, Int.reduceToNat]) | refine WP.seq ?_ | refine WP.block ?_ | ((first | refine WP.region ?_ | refine WP.condW ?_ | refine WP.ret ?_ | refine WP.exit ?_ | refine WP.skip ?_); simp only [go_sem, hli, h1, encS, q1, ht, tyAll, Nat.reduceAdd, Nat.reduceLT, Nat.reduceLeDiff, Nat.reduceEqDiff, Nat.reduceMul, Nat.reduceSub, Nat.reduceGT, reduceIte, Int.reduceNeg, Int.reduceToNat]) | ((first | refine WP.flowZ [7] 15 fla18b2e2e72 [106, 107, 108, 109, 110, 111, 112, 113, 114, 115, 116, 117, 118, 119, 120] [106, 110, 116, 117] [106, 110] (by decide +kernel) (by kernel_rfl) (by kernel_rfl) (by kernel_rfl) ?_ | refine WP.flowW 15 fla18b2e2e72 [106, 107, 108, 109, 110, 111, 112, 113, 114, 115, 116, 117, 118, 119, 120] [106, 110, 116, 117] [106, 110] (by decide +kernel) (by kernel_rfl) (by kernel_rfl) (by kernel_rfl) ?_ | refine WP.flowW 13 flf10d1098bd [122, 123, 124, 125, 126, 127, 128, 129, 130, 131, 132, 133, 134] [] [] (by decide +kernel) (by kernel_rfl) (by kernel_rfl) (by kernel_rfl) ?_ | refine WP.drawW 16 (by decide +kernel) (by kernel_rfl) ?_); simp only [go_sem, hli, h1, encS, q1, ht, tyAll, Nat.reduceAdd, Nat.reduceLT, Nat.reduceLeDiff, Nat.reduceEqDiff, Nat.reduceMul, Nat.reduceSub, Nat.reduceGT, reduceIte, Int.reduceNeg, Int.reduceToNat]) |  refine And.intro ?_ ?_ | intro _))
        all_goals first | omega | skip
        all_goals first | exact ⟨i + 1, by omega, by omega, by simp only [hno]; (first | rfl | exact ⟨rfl, rfl⟩ | exact ⟨rfl, rfl, rfl⟩ | exact ⟨rfl, rfl, rfl, rfl⟩ | exact ⟨rfl, rfl, rfl, rfl, rfl⟩ | exact ⟨⟨rfl, rfl⟩, rfl⟩ | simp)⟩ | trace_state
  obtain ⟨q1, q2, q3⟩ := hcond
  obtain ⟨j, hj⟩ : ∃ j : Nat, (j : Int) = (i : Int) + dd := ⟨((i : Int) + dd).toNat, by omega⟩
  have hjl : j < ns.length := by omega
  have hjt : ((i : Int) + dd).toNat = j := by omega
  have hrj := rowAt_map encS ns j hjl
  have q2' : ¬ (i : Int) + dd < 0 := by omega
  have q3' : ¬ (ns.length : Int) ≤ (i : Int) + dd := by omega
  by_cases hin : ns[j] ∈ nearK s dd ns i
  · have hno := near_old hlt hjl hj hin
    have hix : 0 ≤ firstIdx (strIs ns[j]) (nearK s dd ns i) := by rw [firstIdx_mem]; exact hin
    (repeat' (first | refine WP.seq ?_ | refine WP.block ?_ | ((first | refine WP.region ?_ | refine WP.condW ?_ | refine WP.ret ?_ | refine WP.exit ?_ | refine WP.skip ?_); simp only [go_sem, hli, h1, hrj, encS, q1, q2', q3', hjt, hix, tyAll, Nat.reduceAdd, Nat.reduceLT, Nat.reduceLeDiff, Nat.reduceEqDiff, Nat.reduceMul, Nat.reduceSub, Nat.reduceGT, reduceIte, Int.reduceNeg, Int.reduceToNat]) | ((first | refine WP.flowZ [7] 15 fla18b2e2e72 [106, 107, 108, 109, 110, 111, 112, 113, 114, 115, 116, 117, 118, 119, 120] [106, 110, 116, 117] [106, 110] (by decide +kernel) (by kernel_rfl) (by kernel_rfl) (by kernel_rfl) ?_ | refine WP.flowW 15 fla18b2e2e72 [106, 107, 108, 109, 110, 111, 112, 113, 114, 115, 116, 117, 118, 119, 120] [106, 110, 116, 117] [106, 110] (by decide +kernel) (by kernel_rfl) (by kernel_rfl) (by kernel_rfl) ?_ | refine WP.flowW 13 flf10d1098bd [122, 123, 124, 125, 126, 127, 128, 129, 130, 131, 132, 133, 134] [] [] (by decide +kernel) (by kernel_rfl) (by kernel_rfl) (by kernel_rfl) ?_ | refine WP.drawW 16 (by decide +kernel) (by kernel_rfl) ?_); simp only [go_sem, hli, h1, hrj, encS, q1, q2', q3', hjt, hix, tyAll, Nat.reduceAdd, Nat.reduceLT, Nat.reduceLeDiff, Nat.reduceEqDiff, Nat.reduceMul, Nat.reduceSub, Nat.reduceGT, reduceIte, Int.reduceNeg, Int.reduceToNat]) |  refine And.intro ?_ ?_ | intro _))
    all_goals first | omega | skip
    all_goals first | exact ⟨i + 1, by omega, by omega, by simp only [hno]; (first | rfl | exact ⟨rfl, rfl⟩ | exact ⟨rfl, rfl, rfl⟩ | exact ⟨rfl, rfl, rfl, rfl⟩ | exact ⟨rfl, rfl, rfl, rfl, rfl⟩ | exact ⟨⟨rfl, rfl⟩, rfl⟩ | simp)⟩ | trace_state
  have hnew := near_new hlt hjl hj q1 hin
  have hix : ¬ 0 ≤ firstIdx (strIs ns[j]) (nearK s dd ns i) := by rw [firstIdx_mem]; exact hin
  have hadd : addO c (nearK s dd ns i ++ [ns[j]]) L = insB (addO c (nearK s dd ns i) L) ns[j] c := by unfold addO; rw [List.foldl_append]; rfl
  have hroom : ∀ e ∈ addO c (nearK s dd ns i) L, e.stack ∉ nearK s dd ns i → 0 ≤ e.count ∧ e.count ≤ S := fun e he hs => room_rep hc hS hB hnd hR1 he hs
  have hsn : (nearK s dd ns i).map encS ++ [[SV.v (.string ns[j])]] = (nearK s dd ns i ++ [ns[j]]).map encS := by rw [List.map_append]; rfl
  generalize nearK s dd ns i = K at hkk hnd hR1 hA1 hOl hin hnew hix hadd hroom hsn ⊢
  generalize addO c K L = O at hR1 hA1 hOl hadd hroom ⊢
  (repeat' (first | refine WP.seq ?_ | refine WP.block ?_ | ((first | refine WP.region ?_ | refine WP.condW ?_ | refine WP.ret ?_ | refine WP.exit ?_ | refine WP.skip ?_); simp only [go_sem, hli, h1, hrj, encS, q1, q2', q3', hjt, hix, hsn, tyAll, Nat.reduceAdd, Nat.reduceLT, Nat.reduceLeDiff, Nat.reduceEqDiff, Nat.reduceMul, Nat.reduceSub, Nat.reduceGT, reduceIte, Int.reduceNeg, Int.reduceToNat]) | ((first | refine WP.flowZ [7] 15 fla18b2e2e72 [106, 107, 108, 109, 110, 111, 112, 113, 114, 115, 116, 117, 118, 119, 120] [106, 110, 116, 117] [106, 110] (by decide +kernel) (by kernel_rfl) (by kernel_rfl) (by kernel_rfl) ?_ | refine WP.flowW 15 fla18b2e2e72 [106, 107, 108, 109, 110, 111, 112, 113, 114, 115, 116, 117, 118, 119, 120] [106, 110, 116, 117] [106, 110] (by decide +kernel) (by kernel_rfl) (by kernel_rfl) (by kernel_rfl) ?_ | refine WP.flowW 13 flf10d1098bd [122, 123, 124, 125, 126, 127, 128, 129, 130, 131, 132, 133, 134] [] [] (by decide +kernel) (by kernel_rfl) (by kernel_rfl) (by kernel_rfl) ?_ | refine WP.drawW 16 (by decide +kernel) (by kernel_rfl) ?_); simp only [go_sem, hli, h1, hrj, encS, q1, q2', q3', hjt, hix, hsn, tyAll, Nat.reduceAdd, Nat.reduceLT, Nat.reduceLeDiff, Nat.reduceEqDiff, Nat.reduceMul, Nat.reduceSub, Nat.reduceGT, reduceIte, Int.reduceNeg, Int.reduceToNat]) |  refine And.intro ?_ ?_ | intro _))
  all_goals first | omega | exact ⟨_, _, _, rfl⟩ | (simp only [List.length_map]; omega) | skip
  refine WP.loop (fun q : Nat => ⟨[(1, .v (.string s)), (2, .v (.int .i64 dd)), (7, .own 117), (8, .sl 2 ((entriesOf N C).map encEntry)), (9, .v (.int .i64 k)), (10, .sl 1 (ns.map encS)), (11, .own 30), (12, .v (.int .i64 i)), (13, .v (.int .i64 ((i : Int) + dd))), (14, .v (.int .i64 q))],
      [(30, .sl 9 1 ((K ++ [ns[j]]).map encS)), (117, .sl 54 2 (O.map encEntry))]⟩) (fun q => q ≤ O.length ∧ ∀ y (hy : y < O.length), y < q → ltS O[y].stack ns[j] = true) (fun q => O.length - q) 0 (by simp) ?_ ?_
  · (simp only [go_sem, tyAll, Nat.reduceAdd, Nat.reduceLT, Nat.reduceLeDiff, Nat.reduceEqDiff, Nat.reduceMul, Nat.reduceSub, Nat.reduceGT, reduceIte, Int.reduceNeg, Int.reduceToNat] <;> (first | rfl | exact ⟨rfl, rfl⟩ | exact ⟨rfl, rfl, rfl⟩ | exact ⟨rfl, rfl, rfl, rfl⟩ | exact ⟨rfl, rfl, rfl, rfl, rfl⟩ | exact ⟨⟨rfl, rfl⟩, rfl⟩ | simp))
  intro q ⟨hq, hf⟩
  have hol1 := openE_len (s := ns[j]) hq
  have hor := openE_row (s := ns[j]) hq
  have hos := openE_set (s := ns[j]) (c := c) hq
  have hform : List.take q (O.map encEntry) ++ [SV.v (.string ns[j]), SV.v (.int .i64 0)] :: List.drop q (O.map encEntry) = (openE O q ns[j]).map encEntry := by
    unfold openE; rw [List.map_append, List.map_cons, List.map_take, List.map_drop]; rfl
  by_cases hql : q < O.length
  · have hqi : (q : Int) < O.length := by omega
    have hO := rowAt_map encEntry O q hql
    cases hl : ltS O[q].stack ns[j] with
    | true =>
      (repeat' (first | refine WP.seq ?_ | refine WP.block ?_ | ((first | refine WP.region ?_ | refine WP.condW ?_ | refine WP.ret ?_ | refine WP.exit ?_ | refine WP.skip ?_); simp only [go_sem, hki, hE, hcE, hli, h1, hrj, encS, encEntry, q1, hjt, hqi, hO, ltS_def, hl, tyAll, Nat.reduceAdd, Nat.reduceLT, Nat.reduceLeDiff, Nat.reduceEqDiff, Nat.reduceMul, Nat.reduceSub, Nat.reduceGT, reduceIte, Int.reduceNeg, Int.reduceToNat]) | ((first | refine WP.flowZ [7] 15 fla18b2e2e72 [106, 107, 108, 109, 110, 111, 112, 113, 114, 115, 116, 117, 118, 119, 120] [106, 110, 116, 117] [106, 110] (by decide +kernel) (by kernel_rfl) (by kernel_rfl) (by kernel_rfl) ?_ | refine WP.flowW 15 fla18b2e2e72 [106, 107, 108, 109, 110, 111, 112, 113, 114, 115, 116, 117, 118, 119, 120] [106, 110, 116, 117] [106, 110] (by decide +kernel) (by kernel_rfl) (by kernel_rfl) (by kernel_rfl) ?_ | refine WP.flowW 13 flf10d1098bd [122, 123, 124, 125, 126, 127, 128, 129, 130, 131, 132, 133, 134] [] [] (by decide +kernel) (by kernel_rfl) (by kernel_rfl) (by kernel_rfl) ?_ | refine WP.drawW 16 (by decide +kernel) (by kernel_rfl) ?_); simp only [go_sem, hki, hE, hcE, hli, h1, hrj, encS, encEntry, q1, hjt, hqi, hO, ltS_def, hl, tyAll, Nat.reduceAdd, Nat.reduceLT, Nat.reduceLeDiff, Nat.reduceEqDiff, Nat.reduceMul, Nat.reduceSub, Nat.reduceGT, reduceIte, Int.reduceNeg, Int.reduceToNat]) |  refine And.intro ?_ ?_ | intro _))
      all_goals first | omega | skip
      all_goals first | exact ⟨q + 1, ⟨by omega, fun y hy hyq => by
        rcases Nat.lt_or_ge y q with h | h
        · exact hf y hy h
        · have : y = q := by omega
          subst this; exact hl⟩, by omega, by (first | rfl | exact ⟨rfl, rfl⟩ | exact ⟨rfl, rfl, rfl⟩ | exact ⟨rfl, rfl, rfl, rfl⟩ | exact ⟨rfl, rfl, rfl, rfl, rfl⟩ | exact ⟨⟨rfl, rfl⟩, rfl⟩ | simp)⟩ | trace_state
    | false =>
      have hpos := posE_eq (L := O) (s := ns[j]) hq hf (fun _ => hl)
      have hqe : ((q : Int) = (O.length : Int)) = False := eq_false (by omega)
      by_cases heq : O[q].stack = ns[j]
      · have hset := insB_old (c := c) hpos hql heq
        have hrm := hroom O[q] (List.getElem_mem hql) (by rw [heq]; exact hin)
        rw [← hadd, ← hnew] at hset
        rw [← hnew]
        have heq' : (O[q].stack = ns[j]) = True := eq_true heq
        (repeat' (first | refine WP.seq ?_ | refine WP.block ?_ | ((first | refine WP.region ?_ | refine WP.condW ?_ | refine WP.ret ?_ | refine WP.exit ?_ | refine WP.skip ?_); simp only [go_sem, hki, hE, hcE, hli, h1, hrj, encS, encEntry, q1, hjt, hqi, hqe, hO, ltS_def, hl, heq', hset, tyAll, Nat.reduceAdd, Nat.reduceLT, Nat.reduceLeDiff, Nat.reduceEqDiff, Nat.reduceMul, Nat.reduceSub, Nat.reduceGT, reduceIte, Int.reduceNeg, Int.reduceToNat]) | ((first | refine WP.flowZ [7] 15 fla18b2e2e72 [106, 107, 108, 109, 110, 111, 112, 113, 114, 115, 116, 117, 118, 119, 120] [106, 110, 116, 117] [106, 110] (by decide +kernel) (by kernel_rfl) (by kernel_rfl) (by kernel_rfl) ?_ | refine WP.flowW 15 fla18b2e2e72 [106, 107, 108, 109, 110, 111, 112, 113, 114, 115, 116, 117, 118, 119, 120] [106, 110, 116, 117] [106, 110] (by decide +kernel) (by kernel_rfl) (by kernel_rfl) (by kernel_rfl) ?_ | refine WP.flowW 13 flf10d1098bd [122, 123, 124, 125, 126, 127, 128, 129, 130, 131, 132, 133, 134] [] [] (by decide +kernel) (by kernel_rfl) (by kernel_rfl) (by kernel_rfl) ?_ | refine WP.drawW 16 (by decide +kernel) (by kernel_rfl) ?_); simp only [go_sem, hki, hE, hcE, hli, h1, hrj, encS, encEntry, q1, hjt, hqi, hqe, hO, ltS_def, hl, heq', hset, tyAll, Nat.reduceAdd, Nat.reduceLT, Nat.reduceLeDiff, Nat.reduceEqDiff, Nat.reduceMul, Nat.reduceSub, Nat.reduceGT, reduceIte, Int.reduceNeg, Int.reduceToNat]) |  refine And.intro ?_ ?_ | intro _))
        all_goals first | omega | skip
        all_goals first | exact ⟨i + 1, by omega, by omega, by (first | rfl | exact ⟨rfl, rfl⟩ | exact ⟨rfl, rfl, rfl⟩ | exact ⟨rfl, rfl, rfl, rfl⟩ | exact ⟨rfl, rfl, rfl, rfl, rfl⟩ | exact ⟨⟨rfl, rfl⟩, rfl⟩ | simp)⟩ | trace_state
      · have heq' : (O[q].stack = ns[j]) = False := eq_false heq
        have hnq : ¬ (q < O.length ∧ (O.getD q default).stack = ns[j]) := fun h => heq (by have := h.2; rw [List.getD_eq_getElem?_getD, List.getElem?_eq_getElem hql] at this; exact this)
        have hib := insB_new (c := c) hpos hnq
        rw [← hib, ← hadd, ← hnew] at hos
        rw [← hnew]
        (repeat' (first | refine WP.seq ?_ | refine WP.block ?_ | ((first | refine WP.region ?_ | refine WP.condW ?_ | refine WP.ret ?_ | refine WP.exit ?_ | refine WP.skip ?_); simp only [go_sem, hki, hE, hcE, hli, h1, hrj, encS, encEntry, q1, hjt, hqi, hqe, hO, ltS_def, hl, heq', hform, hor, hol1, hos, tyAll, Nat.reduceAdd, Nat.reduceLT, Nat.reduceLeDiff, Nat.reduceEqDiff, Nat.reduceMul, Nat.reduceSub, Nat.reduceGT, reduceIte, Int.reduceNeg, Int.reduceToNat]) | ((first | refine WP.flowZ [7] 15 fla18b2e2e72 [106, 107, 108, 109, 110, 111, 112, 113, 114, 115, 116, 117, 118, 119, 120] [106, 110, 116, 117] [106, 110] (by decide +kernel) (by kernel_rfl) (by kernel_rfl) (by kernel_rfl) ?_ | refine WP.flowW 15 fla18b2e2e72 [106, 107, 108, 109, 110, 111, 112, 113, 114, 115, 116, 117, 118, 119, 120] [106, 110, 116, 117] [106, 110] (by decide +kernel) (by kernel_rfl) (by kernel_rfl) (by kernel_rfl) ?_ | refine WP.flowW 13 flf10d1098bd [122, 123, 124, 125, 126, 127, 128, 129, 130, 131, 132, 133, 134] [] [] (by decide +kernel) (by kernel_rfl) (by kernel_rfl) (by kernel_rfl) ?_ | refine WP.drawW 16 (by decide +kernel) (by kernel_rfl) ?_); simp only [go_sem, hki, hE, hcE, hli, h1, hrj, encS, encEntry, q1, hjt, hqi, hqe, hO, ltS_def, hl, heq', hform, hor, hol1, hos, tyAll, Nat.reduceAdd, Nat.reduceLT, Nat.reduceLeDiff, Nat.reduceEqDiff, Nat.reduceMul, Nat.reduceSub, Nat.reduceGT, reduceIte, Int.reduceNeg, Int.reduceToNat]) |  refine And.intro ?_ ?_ | intro _))
        all_goals first | omega | exact rlEntry (List.mem_of_mem_take ‹_›) | exact rlEntry (List.mem_of_mem_drop ‹_›) | exact ⟨_, _, _, rfl⟩ | (simp only [List.length_append, List.length_take, List.length_drop, List.length_map, List.length_cons, List.length_nil]; omega) | skip
        all_goals first | exact ⟨i + 1, by omega, by omega, by (first | rfl | exact ⟨rfl, rfl⟩ | exact ⟨rfl, rfl, rfl⟩ | exact ⟨rfl, rfl, rfl, rfl⟩ | exact ⟨rfl, rfl, rfl, rfl, rfl⟩ | exact ⟨⟨rfl, rfl⟩, rfl⟩ | simp)⟩ | trace_state
  · have hql' : q = O.length := by omega
    have hqi : ¬ (q : Int) < O.length := by omega
    have hr0 : Go.Vc.rowAt (O.map encEntry) q = [] := by unfold Go.Vc.rowAt; rw [List.getElem?_eq_none (by rw [List.length_map]; omega)]; rfl
    have hpos := posE_eq (L := O) (s := ns[j]) hq hf (fun h => absurd h hql)
    have hqe : ((q : Int) = (O.length : Int)) = True := eq_true (by omega)
    have hnq : ¬ (q < O.length ∧ (O.getD q default).stack = ns[j]) := fun h => hql h.1
    have hib := insB_new (c := c) hpos hnq
    rw [← hib, ← hadd, ← hnew] at hos
    rw [← hnew]
    (repeat' (first | refine WP.seq ?_ | refine WP.block ?_ | ((first | refine WP.region ?_ | refine WP.condW ?_ | refine WP.ret ?_ | refine WP.exit ?_ | refine WP.skip ?_); simp only [go_sem, hki, hE, hcE, hli, h1, hrj, encS, encEntry, q1, hjt, hqi, hqe, hr0, ltS_def, hform, hor, hol1, hos, tyAll, Nat.reduceAdd, Nat.reduceLT, Nat.reduceLeDiff, Nat.reduceEqDiff, Nat.reduceMul, Nat.reduceSub, Nat.reduceGT, reduceIte, Int.reduceNeg, Int.reduceToNat]) | ((first | refine WP.flowZ [7] 15 fla18b2e2e72 [106, 107, 108, 109, 110, 111, 112, 113, 114, 115, 116, 117, 118, 119, 120] [106, 110, 116, 117] [106, 110] (by decide +kernel) (by kernel_rfl) (by kernel_rfl) (by kernel_rfl) ?_ | refine WP.flowW 15 fla18b2e2e72 [106, 107, 108, 109, 110, 111, 112, 113, 114, 115, 116, 117, 118, 119, 120] [106, 110, 116, 117] [106, 110] (by decide +kernel) (by kernel_rfl) (by kernel_rfl) (by kernel_rfl) ?_ | refine WP.flowW 13 flf10d1098bd [122, 123, 124, 125, 126, 127, 128, 129, 130, 131, 132, 133, 134] [] [] (by decide +kernel) (by kernel_rfl) (by kernel_rfl) (by kernel_rfl) ?_ | refine WP.drawW 16 (by decide +kernel) (by kernel_rfl) ?_); simp only [go_sem, hki, hE, hcE, hli, h1, hrj, encS, encEntry, q1, hjt, hqi, hqe, hr0, ltS_def, hform, hor, hol1, hos, tyAll, Nat.reduceAdd, Nat.reduceLT, Nat.reduceLeDiff, Nat.reduceEqDiff, Nat.reduceMul, Nat.reduceSub, Nat.reduceGT, reduceIte, Int.reduceNeg, Int.reduceToNat]) |  refine And.intro ?_ ?_ | intro _))
    all_goals first | omega | exact rlEntry (List.mem_of_mem_take ‹_›) | exact rlEntry (List.mem_of_mem_drop ‹_›) | exact ⟨_, _, _, rfl⟩ | (simp only [List.length_append, List.length_take, List.length_drop, List.length_map, List.length_cons, List.length_nil]; omega) | skip
    all_goals first | exact ⟨i + 1, by omega, by omega, by (first | rfl | exact ⟨rfl, rfl⟩ | exact ⟨rfl, rfl, rfl⟩ | exact ⟨rfl, rfl, rfl, rfl⟩ | exact ⟨rfl, rfl, rfl, rfl, rfl⟩ | exact ⟨⟨rfl, rfl⟩, rfl⟩ | simp)⟩ | trace_state
end
end
section
open Go.Vc
set_option linter.unusedSimpArgs false
set_option linter.unusedVariables false
set_option maxHeartbeats 1000000
set_option maxRecDepth 10000
attribute [local irreducible] Go.Vc.WP
attribute [local go_sem] cx0_t cx0_c
def fle1da56e46b : List Go.Vc.Fp := [⟨[7], [], [], [], [], []⟩, ⟨[17], [], [], [], [], []⟩, ⟨[88, 89], [0, 1], [], [], [], []⟩, ⟨[90], [0, 1, 2], [], [], [], []⟩, ⟨[91], [0, 1, 2, 3], [], [], [], []⟩, ⟨[9], [], [], [], [], []⟩, ⟨[93], [5], [], [], [], []⟩, ⟨[], [0, 1, 2, 3, 4, 5, 6], [], [], [], []⟩, ⟨[], [0, 1, 2, 3, 4, 5, 6, 7], [], [], [], []⟩, ⟨[], [0, 1, 2, 3, 4, 5, 6, 7, 8], [], [], [], []⟩, ⟨[], [0, 1, 2, 3, 4, 5, 6, 7, 8, 9], [], [], [], []⟩]
attribute [local go_sem] fle1da56e46b
attribute [local go_sem] isV_Node isV_It isV_Entry isV_S decNode_enc decFrame_enc oneFrame_enc stkA oneFrame_ab oneNode_abc decI_enc decS_enc aU prA decEntry_enc St.fzS addL behind St.runO St.stepO capS
open Go.Pl
section
noncomputable def cxNbI : Cx := { P := Tryz.prog, tys := tys, C := [(56, kPrOk), (57, kEntZ), (58, kNamesZ), (118, k60), (59, kHasS), (140, kIdxE), (121, kSortN)], hty := tysOk, hC := COk.cons cPrOkI (COk.cons cEntZI (COk.cons cNamesI (COk.cons c60 (COk.cons cHasS (COk.cons cIdxE (COk.cons cSortN (COk.nil _))))))) }
theorem cxNbI_t : cxNbI.tys = tys := rfl
theorem cxNbI_c : cxNbI.C = [(56, kPrOk), (57, kEntZ), (58, kNamesZ), (118, k60), (59, kHasS), (140, kIdxE), (121, kSortN)] := rfl
attribute [local go_sem] cxNbI_t cxNbI_c kPrOk kEntZ kNamesZ k60 kHasS kIdxE kSortN
set_option maxHeartbeats 20000000 in
theorem cNbI : Cn Tryz.prog 81 kNb := by
  refine Cn.pur Tryz.func81 (by kernel_rfl) rfl fun d x hx => ?_
  obtain ⟨⟨N, C⟩, s, dd⟩ := x
  obtain ⟨⟨⟨hN, hs⟩, hC⟩, hd0, hd1⟩ := hx
  simp only at hN hs hC hd0 hd1 ⊢
  have hlen := entriesOf_len N C
  refine Holds.go (c := cxNbI) Tryz.func81 rfl Tryz.results81 Tryz.ntmps81 (by omega) (by simp) rfl ?_
  intro X0 w0
  cases hok : profileOk N C with
  | false =>
    have h0 : nbO s dd (entriesOf N C) = [] := by unfold entriesOf; rw [if_neg (by rw [hok]; simp)]; rfl
    (repeat' (first | refine WP.seq ?_ | refine WP.block ?_ | ((first | refine WP.region ?_ | refine WP.condW ?_ | refine WP.ret ?_ | refine WP.exit ?_ | refine WP.skip ?_); simp only [go_sem, hok, h0, tyAll, Nat.reduceAdd, Nat.reduceLT, Nat.reduceLeDiff, Nat.reduceEqDiff, Nat.reduceMul, Nat.reduceSub, Nat.reduceGT, reduceIte, Int.reduceNeg, Int.reduceToNat]) | ((first | refine WP.flowW 7 fle1da56e46b [88, 89, 90, 91, 92, 93, 94] [] [] (by decide +kernel) (by kernel_rfl) (by kernel_rfl) (by kernel_rfl) ?_); simp only [go_sem, hok, h0, tyAll, Nat.reduceAdd, Nat.reduceLT, Nat.reduceLeDiff, Nat.reduceEqDiff, Nat.reduceMul, Nat.reduceSub, Nat.reduceGT, reduceIte, Int.reduceNeg, Int.reduceToNat]) |  refine And.intro ?_ ?_ | intro _))
    all_goals first | omega | (simp only; omega) | exact Nat.le_trans (hs _ ‹_›) (by omega) | exact ⟨_, _, _, rfl⟩ | exact ⟨_, _, rfl⟩ | skip
    all_goals trace_state
  | true =>
  (repeat' (first | refine WP.seq ?_ | refine WP.block ?_ | ((first | refine WP.region ?_ | refine WP.condW ?_ | refine WP.ret ?_ | refine WP.exit ?_ | refine WP.skip ?_); simp only [go_sem, hok, tyAll, Nat.reduceAdd, Nat.reduceLT, Nat.reduceLeDiff, Nat.reduceEqDiff, Nat.reduceMul, Nat.reduceSub, Nat.reduceGT, reduceIte, Int.reduceNeg, Int.reduceToNat]) | ((first | refine WP.flowW 7 fle1da56e46b [88, 89, 90, 91, 92, 93, 94] [] [] (by decide +kernel) (by kernel_rfl) (by kernel_rfl) (by kernel_rfl) ?_); simp only [go_sem, hok, tyAll, Nat.reduceAdd, Nat.reduceLT, Nat.reduceLeDiff, Nat.reduceEqDiff, Nat.reduceMul, Nat.reduceSub, Nat.reduceGT, reduceIte, Int.reduceNeg, Int.reduceToNat]) |  refine And.intro ?_ ?_ | intro _))
  all_goals first | omega | (simp only; omega) | exact Nat.le_trans (hs _ ‹_›) (by omega) | exact ⟨_, _, _, rfl⟩ | skip
  refine WP.loop (fun k : Nat => ⟨[(1, .v (.string s)), (2, .v (.int .i64 dd)), (7, .own 21), (23, .sl 2 ((entriesOf N C).map encEntry)), (24, .v (.int .i64 (entriesOf N C).length)), (25, .v (.int .i64 k))], [(21, .sl 54 2 ((nbI s dd ((entriesOf N C).take k)).map encEntry))]⟩)
    (fun k => k ≤ (entriesOf N C).length) (fun k => (entriesOf N C).length - k) 0 (by simp) ?_ ?_
  · (simp only [go_sem, tyAll, Nat.reduceAdd, Nat.reduceLT, Nat.reduceLeDiff, Nat.reduceEqDiff, Nat.reduceMul, Nat.reduceSub, Nat.reduceGT, reduceIte, Int.reduceNeg, Int.reduceToNat] <;> (first | rfl | exact ⟨rfl, rfl⟩ | exact ⟨rfl, rfl, rfl⟩ | exact ⟨rfl, rfl, rfl, rfl⟩ | exact ⟨rfl, rfl, rfl, rfl, rfl⟩ | exact ⟨⟨rfl, rfl⟩, rfl⟩ | simp))
  intro k hk
  have hTl := nbI_len (B := 1048576) (s := s) (d := dd) (fun e he => namesE_len2 hN he) k hk
  have hTk : 1048576 * k ≤ 1048576 * 1048576 := Nat.mul_le_mul_left _ (by omega)
  by_cases hkl : k < (entriesOf N C).length
  rotate_left
  · have hge : ¬ (k : Int) < (entriesOf N C).length := by omega
    have hke : k = (entriesOf N C).length := by omega
    subst hke
    rw [List.take_length] at hTl ⊢
    obtain ⟨hio, hpr⟩ := nbIO s dd (entriesOf N C)
    rw [← hio]
    (repeat' (first | refine WP.seq ?_ | refine WP.block ?_ | ((first | refine WP.region ?_ | refine WP.condW ?_ | refine WP.ret ?_ | refine WP.exit ?_ | refine WP.skip ?_); simp only [go_sem, hge, tyAll, Nat.reduceAdd, Nat.reduceLT, Nat.reduceLeDiff, Nat.reduceEqDiff, Nat.reduceMul, Nat.reduceSub, Nat.reduceGT, reduceIte, Int.reduceNeg, Int.reduceToNat]) | ((first | refine WP.flowW 7 fle1da56e46b [88, 89, 90, 91, 92, 93, 94] [] [] (by decide +kernel) (by kernel_rfl) (by kernel_rfl) (by kernel_rfl) ?_); simp only [go_sem, hge, tyAll, Nat.reduceAdd, Nat.reduceLT, Nat.reduceLeDiff, Nat.reduceEqDiff, Nat.reduceMul, Nat.reduceSub, Nat.reduceGT, reduceIte, Int.reduceNeg, Int.reduceToNat]) |  refine And.intro ?_ ?_ | intro _))
    all_goals first | omega | exact hpr | skip
    all_goals trace_state
  have hki : (k : Int) < (entriesOf N C).length := by omega
  have hE := rowAt_map encEntry (entriesOf N C) k hkl
  have hmem := List.getElem_mem hkl
  obtain ⟨z1, z2, z3⟩ := ent_sizes hN hmem
  have hsu := nbI_succ s dd hkl
  have hnl := namesE_len2 hN hmem
  obtain ⟨hB, hS⟩ := nbF_bd (E := entriesOf N C) s dd ent_pos k (by omega) (entriesOf N C)[k].count
  have hR := nbI_rep s dd ((entriesOf N C).take k)
  have hc := ent_pos _ hmem
  have hss := sumE_succ hkl
  have hst := (sumE_take_le (E := entriesOf N C) ent_pos (k + 1)).2
  rw [sumE_entries] at hst
  have htb := totalOf_bound N C
  have hns : (frsS (entriesOf N C)[k].stack).map (fun x => x.name) = namesE (entriesOf N C)[k] := rfl
  unfold nearE at hsu
  generalize namesE (entriesOf N C)[k] = ns at hsu hnl hns
  generalize hcE : (entriesOf N C)[k].count = c at hB hc hss hsu
  generalize nbI s dd ((entriesOf N C).take k) = L at hR hsu hTl ⊢
  generalize nbF s dd ((entriesOf N C).take k) = fF at hB hR
  generalize sumE ((entriesOf N C).take k) = S at hB hS hss
  generalize sumE ((entriesOf N C).take (k + 1)) = S1 at hss hst
  (repeat' (first | refine WP.seq ?_ | refine WP.block ?_ | ((first | refine WP.region ?_ | refine WP.condW ?_ | refine WP.ret ?_ | refine WP.exit ?_ | refine WP.skip ?_); simp only [go_sem, hki, hE, encEntry, hns, hcE, tyAll, Nat.reduceAdd, Nat.reduceLT, Nat.reduceLeDiff, Nat.reduceEqDiff, Nat.reduceMul, Nat.reduceSub, Nat.reduceGT, reduceIte, Int.reduceNeg, Int.reduceToNat]) | ((first | refine WP.flowW 7 fle1da56e46b [88, 89, 90, 91, 92, 93, 94] [] [] (by decide +kernel) (by kernel_rfl) (by kernel_rfl) (by kernel_rfl) ?_); simp only [go_sem, hki, hE, encEntry, hns, hcE, tyAll, Nat.reduceAdd, Nat.reduceLT, Nat.reduceLeDiff, Nat.reduceEqDiff, Nat.reduceMul, Nat.reduceSub, Nat.reduceGT, reduceIte, Int.reduceNeg, Int.reduceToNat]) |  refine And.intro ?_ ?_ | intro _))
  all_goals first | omega | exact ⟨_, _, _, rfl⟩ | skip
  refine WP.loop (fun i : Nat => ⟨[(1, .v (.string s)), (2, .v (.int .i64 dd)), (7, .own 21), (9, .ptr 9 0 0 0), (10, .sl 1 (ns.map encS)), (11, .own 32), (23, .sl 2 ((entriesOf N C).map encEntry)), (24, .v (.int .i64 (entriesOf N C).length)), (25, .v (.int .i64 k)), (33, .sl 1 (ns.map encS)), (34, .v (.int .i64 ns.length)), (35, .v (.int .i64 i))],
      [(9, .box 54 [.v (.string (entriesOf N C)[k].stack), .v (.int .i64 c)]), (21, .sl 54 2 (L.map encEntry)), (32, .sl 9 1 ((nearK s dd ns i).map encS))]⟩) (fun i => i ≤ ns.length) (fun i => ns.length - i) 0 (by simp) ?_ ?_
  · (simp only [go_sem, tyAll, Nat.reduceAdd, Nat.reduceLT, Nat.reduceLeDiff, Nat.reduceEqDiff, Nat.reduceMul, Nat.reduceSub, Nat.reduceGT, reduceIte, Int.reduceNeg, Int.reduceToNat] <;> (first | rfl | exact ⟨rfl, rfl⟩ | exact ⟨rfl, rfl, rfl⟩ | exact ⟨rfl, rfl, rfl, rfl⟩ | exact ⟨rfl, rfl, rfl, rfl, rfl⟩ | exact ⟨⟨rfl, rfl⟩, rfl⟩ | simp))
  intro i hi
  by_cases hlt : i < ns.length
  · have hli : (i : Int) < ns.length := by omega
    have h1 := rowAt_map encS ns i hlt
    have hkk := nearK_len s dd ns i
    by_cases hcond : ns[i] = s ∧ 0 ≤ (i : Int) + dd ∧ (i : Int) + dd < ns.length
    rotate_left
    · have hno := near_no (d := dd) hlt hcond
      have hro : (∃ t, Go.Vc.rowAt (ns.map encS) ((i : Int) + dd).toNat = [SV.v (.string t)]) ∨ Go.Vc.rowAt (ns.map encS) ((i : Int) + dd).toNat = [] := by
        by_cases hz : ((i : Int) + dd).toNat < ns.length
        · exact .inl ⟨_, rowAt_map encS ns _ hz⟩
        · right; unfold Go.Vc.rowAt; rw [List.getElem?_eq_none (by rw [List.length_map]; omega)]; rfl
      rcases hro with ⟨t, ht⟩ | ht
      all_goals
        by_cases q1 : ns[i] = s
        · by_cases q2 : 0 ≤ (i : Int) + dd
          · have q3 : ¬ (i : Int) + dd ≤ (ns.length : Int) - 1 := fun h => hcond ⟨q1, q2, by omega⟩
            (repeat' (first | (refine WP.regionO (id := 13) ?_; simp only [go_sem, hli, h1, encS, q1, q2, q3, ht, tyAll, Nat.reduceAdd, Nat.reduceLT, Nat.reduceLeDiff, Nat.reduceEqDiff, Nat.reduceMul, Nat.reduceSub, Nat.reduceGT, reduceIte, Int.reduceNeg, Int.reduceToNat]) | refine WP.seq ?_ | refine WP.block ?_ | ((first | refine WP.region ?_ | refine WP.condW ?_ | refine WP.ret ?_ | refine WP.exit ?_ | refine WP.skip ?_); simp only [go_sem, hli, h1, encS, q1, q2, q3, ht, tyAll, Nat.reduceAdd, Nat.reduceLT, Nat.reduceLeDiff, Nat.reduceEqDiff, Nat.reduceMul, Nat.reduceSub, Nat.reduceGT, reduceIte, Int.reduceNeg, Int.reduceToNat]) | ((first | refine WP.flowW 7 fle1da56e46b [88, 89, 90, 91, 92, 93, 94] [] [] (by decide +kernel) (by kernel_rfl) (by kernel_rfl) (by kernel_rfl) ?_); simp only [go_sem, hli, h1, encS, q1, q2, q3, ht, tyAll, Nat.reduceAdd, Nat.reduceLT, Nat.reduceLeDiff, Nat.reduceEqDiff, Nat.reduceMul, Nat.reduceSub, Nat.reduceGT, reduceIte, Int.reduceNeg, Int.reduceToNat]) |  refine And.intro ?_ ?_ | intro _))
            all_goals first | omega | skip
            all_goals first | exact ⟨i + 1, by omega, by omega, by simp only [hno]; (first | rfl | exact ⟨rfl, rfl⟩ | exact ⟨rfl, rfl, rfl⟩ | exact ⟨rfl, rfl, rfl, rfl⟩ | exact ⟨rfl, rfl, rfl, rfl, rfl⟩ | exact ⟨⟨rfl, rfl⟩, rfl⟩ | simp)⟩ | trace_state
          · (repeat' (first | (refine WP.regionO (id := 13) ?_; simp only [go_sem, hli, h1, encS, q1, q2, ht, tyAll, Nat.reduceAdd, Nat.reduceLT, Nat.reduceLeDiff, Nat.reduceEqDiff, Nat.reduceMul, Nat.reduceSub, Nat.reduceGT, reduceIte, Int.reduceNeg, Int.reduceToNat]) | refine WP.seq ?_ | refine WP.block ?_ | ((first | refine WP.region ?_ | refine WP.condW ?_ | refine WP.ret ?_ | refine WP.exit ?_ | refine WP.skip ?_); simp only [go_sem, hli, h1, encS, q1, q2, ht, tyAll, Nat.reduceAdd, Nat.reduceLT, Nat.reduceLeDiff, Nat.reduceEqDiff, Nat.reduceMul, Nat.reduceSub, Nat.reduceGT, reduceIte, Int.reduceNeg, Int.reduceToNat]) | ((first | refine WP.flowW 7 fle1da56e46b [88, 89, 90, 91, 92, 93, 94] [] [] (by decide +kernel) (by kernel_rfl) (by kernel_rfl) (by kernel_rfl) ?_); simp only [go_sem, hli, h1, encS, q1, q2, ht, tyAll, Nat.reduceAdd, Nat.reduceLT, Nat.reduceLeDiff, Nat.reduceEqDiff, Nat.reduceMul, Nat.reduceSub, Nat.reduceGT, reduceIte, Int.reduceNeg, Int.reduceToNat]) |  refine And.intro ?_ ?_ | intro _))
            all_goals first | omega | skip
            all_goals first | exact ⟨i + 1, by omega, by omega, by simp only [hno]; (first | rfl | exact ⟨rfl, rfl⟩ | exact ⟨rfl, rfl, rfl⟩ | exact ⟨rfl, rfl, rfl, rfl⟩ | exact ⟨rfl, rfl, rfl, rfl, rfl⟩ | exact ⟨⟨rfl, rfl⟩, rfl⟩ | simp)⟩ | trace_state
        · (repeat' (first | (refine WP.regionO (id := 13) ?_; simp only [go_sem, hli, h1, encS, q1, ht, tyAll, Nat.reduceAdd, Nat.reduceLT, Nat.reduceLeDiff, Nat.reduceEqDiff, Nat.reduceMul, Nat.reduceSub, Nat.reduceGT, reduceIte, Int.reduceNeg, Int.reduceToNat]) | refine WP.seq ?_ | refine WP.block ?_ | ((first | refine WP.region ?_ | refine WP.condW ?_ | refine WP.ret ?_ | refine WP.exit ?_ | refine WP.skip ?_); simp only [go_sem, hli, h1, encS, q1, ht, tyAll, Nat.reduceAdd, Nat.reduceLT, Nat.reduceLeDiff, Nat.reduceEqDiff, Nat.reduceMul, Nat.reduceSub, Nat.reduceGT, reduceIte, Int.reduceNeg, Int.reduceToNat]) | ((first | refine WP.flowW 7 fle1da56e46b [88, 89, 90, 91, 92, 93, 94] [] [] (by decide +kernel) (by kernel_rfl) (by kernel_rfl) (by kernel_rfl) ?_); simp only [go_sem, hli, h1, encS, q1, ht, tyAll, Nat.reduceAdd, Nat.reduceLT, Nat.reduceLeDiff, Nat.reduceEqDiff, Nat.reduceMul, Nat.reduceSub, Nat.reduceGT, reduceIte, Int.reduceNeg, Int.reduceToNat]) |  refine And.intro ?_ ?_ | intro _))
          all_goals first | omega | skip
          all_goals first | exact ⟨i + 1, by omega, by omega, by simp only [hno]; (first | rfl | exact ⟨rfl, rfl⟩ | exact ⟨rfl, rfl, rfl⟩ | exact ⟨rfl, rfl, rfl, rfl⟩ | exact ⟨rfl, rfl, rfl, rfl, rfl⟩ | exact ⟨⟨rfl, rfl⟩, rfl⟩ | simp)⟩ | trace_state
    obtain ⟨q1, q2, q3⟩ := hcond
    obtain ⟨j, hj⟩ : ∃ j : Nat, (j : Int) = (i : Int) + dd := ⟨((i : Int) + dd).toNat, by omega⟩
    have hjl : j < ns.length := by omega
    have hjt : ((i : Int) + dd).toNat = j := by omega
    have hrj := rowAt_map encS ns j hjl
    have q3' : (i : Int) + dd ≤ (ns.length : Int) - 1 := by omega
    by_cases hin : ns[j] ∈ nearK s dd ns i
    · have hno := near_old hlt hjl hj hin
      (repeat' (first | (refine WP.regionO (id := 13) ?_; simp only [go_sem, hli, h1, hrj, encS, q1, q2, q3', hjt, hin, tyAll, Nat.reduceAdd, Nat.reduceLT, Nat.reduceLeDiff, Nat.reduceEqDiff, Nat.reduceMul, Nat.reduceSub, Nat.reduceGT, reduceIte, Int.reduceNeg, Int.reduceToNat]) | refine WP.seq ?_ | refine WP.block ?_ | ((first | refine WP.region ?_ | refine WP.condW ?_ | refine WP.ret ?_ | refine WP.exit ?_ | refine WP.skip ?_); simp only [go_sem, hli, h1, hrj, encS, q1, q2, q3', hjt, hin, tyAll, Nat.reduceAdd, Nat.reduceLT, Nat.reduceLeDiff, Nat.reduceEqDiff, Nat.reduceMul, Nat.reduceSub, Nat.reduceGT, reduceIte, Int.reduceNeg, Int.reduceToNat]) | ((first | refine WP.flowW 7 fle1da56e46b [88, 89, 90, 91, 92, 93, 94] [] [] (by decide +kernel) (by kernel_rfl) (by kernel_rfl) (by kernel_rfl) ?_); simp only [go_sem, hli, h1, hrj, encS, q1, q2, q3', hjt, hin, tyAll, Nat.reduceAdd, Nat.reduceLT, Nat.reduceLeDiff, Nat.reduceEqDiff, Nat.reduceMul, Nat.reduceSub, Nat.reduceGT, reduceIte, Int.reduceNeg, Int.reduceToNat]) |  refine And.intro ?_ ?_ | intro _))
      all_goals first | omega | skip
      all_goals first | exact ⟨i + 1, by omega, by omega, by simp only [hno]; (first | rfl | exact ⟨rfl, rfl⟩ | exact ⟨rfl, rfl, rfl⟩ | exact ⟨rfl, rfl, rfl, rfl⟩ | exact ⟨rfl, rfl, rfl, rfl, rfl⟩ | exact ⟨⟨rfl, rfl⟩, rfl⟩ | simp)⟩ | trace_state
    · have hnew := near_new hlt hjl hj q1 hin
      have hsn : (nearK s dd ns i).map encS ++ [[SV.v (.string ns[j])]] = (nearK s dd ns (i + 1)).map encS := by rw [hnew, List.map_append]; rfl
      (repeat' (first | (refine WP.regionO (id := 13) ?_; simp only [go_sem, hli, h1, hrj, encS, q1, q2, q3', hjt, hin, hsn, tyAll, Nat.reduceAdd, Nat.reduceLT, Nat.reduceLeDiff, Nat.reduceEqDiff, Nat.reduceMul, Nat.reduceSub, Nat.reduceGT, reduceIte, Int.reduceNeg, Int.reduceToNat]) | refine WP.seq ?_ | refine WP.block ?_ | ((first | refine WP.region ?_ | refine WP.condW ?_ | refine WP.ret ?_ | refine WP.exit ?_ | refine WP.skip ?_); simp only [go_sem, hli, h1, hrj, encS, q1, q2, q3', hjt, hin, hsn, tyAll, Nat.reduceAdd, Nat.reduceLT, Nat.reduceLeDiff, Nat.reduceEqDiff, Nat.reduceMul, Nat.reduceSub, Nat.reduceGT, reduceIte, Int.reduceNeg, Int.reduceToNat]) | ((first | refine WP.flowW 7 fle1da56e46b [88, 89, 90, 91, 92, 93, 94] [] [] (by decide +kernel) (by kernel_rfl) (by kernel_rfl) (by kernel_rfl) ?_); simp only [go_sem, hli, h1, hrj, encS, q1, q2, q3', hjt, hin, hsn, tyAll, Nat.reduceAdd, Nat.reduceLT, Nat.reduceLeDiff, Nat.reduceEqDiff, Nat.reduceMul, Nat.reduceSub, Nat.reduceGT, reduceIte, Int.reduceNeg, Int.reduceToNat]) |  refine And.intro ?_ ?_ | intro _))
      all_goals first | omega | exact ⟨_, _, _, rfl⟩ | (simp only [List.length_map]; omega) | skip
      all_goals first | exact ⟨i + 1, by omega, by omega, by (first | rfl | exact ⟨rfl, rfl⟩ | exact ⟨rfl, rfl, rfl⟩ | exact ⟨rfl, rfl, rfl, rfl⟩ | exact ⟨rfl, rfl, rfl, rfl, rfl⟩ | exact ⟨⟨rfl, rfl⟩, rfl⟩ | simp)⟩ | trace_state
  have hge : ¬ (i : Int) < ns.length := by omega
  have hie : i = ns.length := by omega
  have hnd := nearK_nodup s dd ns ns.length
  have hNl := nearK_len s dd ns ns.length
  subst hie
  generalize nearK s dd ns ns.length = K at hnd hNl hsu ⊢
  (repeat' (first | refine WP.seq ?_ | refine WP.block ?_ | ((first | refine WP.region ?_ | refine WP.condW ?_ | refine WP.ret ?_ | refine WP.exit ?_ | refine WP.skip ?_); simp only [go_sem, hge, tyAll, Nat.reduceAdd, Nat.reduceLT, Nat.reduceLeDiff, Nat.reduceEqDiff, Nat.reduceMul, Nat.reduceSub, Nat.reduceGT, reduceIte, Int.reduceNeg, Int.reduceToNat]) | ((first | refine WP.flowW 7 fle1da56e46b [88, 89, 90, 91, 92, 93, 94] [] [] (by decide +kernel) (by kernel_rfl) (by kernel_rfl) (by kernel_rfl) ?_); simp only [go_sem, hge, tyAll, Nat.reduceAdd, Nat.reduceLT, Nat.reduceLeDiff, Nat.reduceEqDiff, Nat.reduceMul, Nat.reduceSub, Nat.reduceGT, reduceIte, Int.reduceNeg, Int.reduceToNat]) |  refine And.intro ?_ ?_ | intro _))
  all_goals first | omega | skip
  refine WP.loop (fun t : Nat => ⟨[(1, .v (.string s)), (2, .v (.int .i64 dd)), (7, .own 21), (9, .ptr 9 0 0 0), (23, .sl 2 ((entriesOf N C).map encEntry)), (24, .v (.int .i64 (entriesOf N C).length)), (25, .v (.int .i64 k)), (70, .own 32), (71, .v (.int .i64 K.length)), (72, .v (.int .i64 t))],
      [(9, .box 54 [.v (.string (entriesOf N C)[k].stack), .v (.int .i64 c)]), (21, .sl 54 2 ((addI c (K.take t) L).map encEntry)), (32, .sl 9 1 (K.map encS))]⟩) (fun t => t ≤ K.length) (fun t => K.length - t) 0 (by simp) ?_ ?_
  · (simp only [go_sem, tyAll, Nat.reduceAdd, Nat.reduceLT, Nat.reduceLeDiff, Nat.reduceEqDiff, Nat.reduceMul, Nat.reduceSub, Nat.reduceGT, reduceIte, Int.reduceNeg, Int.reduceToNat] <;> (first | rfl | exact ⟨rfl, rfl⟩ | exact ⟨rfl, rfl, rfl⟩ | exact ⟨rfl, rfl, rfl, rfl⟩ | exact ⟨rfl, rfl, rfl, rfl, rfl⟩ | exact ⟨⟨rfl, rfl⟩, rfl⟩ | simp))
  intro t ht
  have hOl := addI_len c (K.take t) L
  rw [List.length_take] at hOl
  by_cases htl : t < K.length
  rotate_left
  · have htg : ¬ (t : Int) < K.length := by omega
    have hte : t = K.length := by omega
    subst hte
    rw [List.take_length] at hOl ⊢
    (repeat' (first | refine WP.seq ?_ | refine WP.block ?_ | ((first | refine WP.region ?_ | refine WP.condW ?_ | refine WP.ret ?_ | refine WP.exit ?_ | refine WP.skip ?_); simp only [go_sem, htg, tyAll, Nat.reduceAdd, Nat.reduceLT, Nat.reduceLeDiff, Nat.reduceEqDiff, Nat.reduceMul, Nat.reduceSub, Nat.reduceGT, reduceIte, Int.reduceNeg, Int.reduceToNat]) | ((first | refine WP.flowW 7 fle1da56e46b [88, 89, 90, 91, 92, 93, 94] [] [] (by decide +kernel) (by kernel_rfl) (by kernel_rfl) (by kernel_rfl) ?_); simp only [go_sem, htg, tyAll, Nat.reduceAdd, Nat.reduceLT, Nat.reduceLeDiff, Nat.reduceEqDiff, Nat.reduceMul, Nat.reduceSub, Nat.reduceGT, reduceIte, Int.reduceNeg, Int.reduceToNat]) |  refine And.intro ?_ ?_ | intro _))
    all_goals first | omega | skip
    all_goals first | exact ⟨k + 1, by omega, by omega, by simp only [hsu]; (first | rfl | exact ⟨rfl, rfl⟩ | exact ⟨rfl, rfl, rfl⟩ | exact ⟨rfl, rfl, rfl, rfl⟩ | exact ⟨rfl, rfl, rfl, rfl, rfl⟩ | exact ⟨⟨rfl, rfl⟩, rfl⟩ | simp)⟩ | trace_state
  have hti : (t : Int) < K.length := by omega
  have hrK := rowAt_map encS K t htl
  have hadd := addI_succ c htl L
  have hR1 := addI_rep c (K.take t) hR
  have hnt : (K.take t).Nodup := (List.take_sublist t K).nodup hnd
  have hnot : K[t] ∉ K.take t := fun hm => by
    obtain ⟨y, hy, he⟩ := List.mem_take_iff_getElem.1 hm
    exact (List.pairwise_iff_getElem.1 hnd) y t (by omega) htl (by omega) he
  have hroom : ∀ e ∈ addI c (K.take t) L, e.stack = K[t] → 0 ≤ e.count ∧ e.count ≤ S := fun e he hs => room_rep hc hS hB hnt hR1 he (by rw [hs]; exact hnot)
  have hr16 : Go.Vc.rowAt [[SV.v (Value.string K[t])]] 0 = [SV.v (Value.string K[t])] := rfl
  generalize addI c (K.take t) L = O at hOl hadd hR1 hroom ⊢
  by_cases hidx : firstIdx (isAt K[t]) O < 0
  · have hbn := bump_new (c := c) hidx
    rw [← hadd] at hbn
    (repeat' (first | refine WP.seq ?_ | refine WP.block ?_ | ((first | refine WP.region ?_ | refine WP.condW ?_ | refine WP.ret ?_ | refine WP.exit ?_ | refine WP.skip ?_); simp only [go_sem, hti, hrK, encS, hr16, hidx, hbn, tyAll, Nat.reduceAdd, Nat.reduceLT, Nat.reduceLeDiff, Nat.reduceEqDiff, Nat.reduceMul, Nat.reduceSub, Nat.reduceGT, reduceIte, Int.reduceNeg, Int.reduceToNat]) | ((first | refine WP.flowW 7 fle1da56e46b [88, 89, 90, 91, 92, 93, 94] [] [] (by decide +kernel) (by kernel_rfl) (by kernel_rfl) (by kernel_rfl) ?_); simp only [go_sem, hti, hrK, encS, hr16, hidx, hbn, tyAll, Nat.reduceAdd, Nat.reduceLT, Nat.reduceLeDiff, Nat.reduceEqDiff, Nat.reduceMul, Nat.reduceSub, Nat.reduceGT, reduceIte, Int.reduceNeg, Int.reduceToNat]) |  refine And.intro ?_ ?_ | intro _))
    all_goals first | omega | exact ⟨_, _, _, rfl⟩ | (simp only [List.length_map]; omega) | skip
    all_goals first | exact ⟨t + 1, by omega, by omega, by (first | rfl | exact ⟨rfl, rfl⟩ | exact ⟨rfl, rfl, rfl⟩ | exact ⟨rfl, rfl, rfl, rfl⟩ | exact ⟨rfl, rfl, rfl, rfl, rfl⟩ | exact ⟨⟨rfl, rfl⟩, rfl⟩ | simp)⟩ | trace_state
  · obtain ⟨p, hp, hfi, hst2, hset⟩ := bump_old (c := c) hidx
    rw [← hadd] at hset
    have hO := rowAt_map encEntry O p hp
    have hrm := hroom O[p] (List.getElem_mem hp) hst2
    have hpn : ¬ (p : Int) < 0 := by omega
    (repeat' (first | refine WP.seq ?_ | refine WP.block ?_ | ((first | refine WP.region ?_ | refine WP.condW ?_ | refine WP.ret ?_ | refine WP.exit ?_ | refine WP.skip ?_); simp only [go_sem, hti, hrK, encS, encEntry, hr16, hfi, hpn, hO, hset, tyAll, Nat.reduceAdd, Nat.reduceLT, Nat.reduceLeDiff, Nat.reduceEqDiff, Nat.reduceMul, Nat.reduceSub, Nat.reduceGT, reduceIte, Int.reduceNeg, Int.reduceToNat]) | ((first | refine WP.flowW 7 fle1da56e46b [88, 89, 90, 91, 92, 93, 94] [] [] (by decide +kernel) (by kernel_rfl) (by kernel_rfl) (by kernel_rfl) ?_); simp only [go_sem, hti, hrK, encS, encEntry, hr16, hfi, hpn, hO, hset, tyAll, Nat.reduceAdd, Nat.reduceLT, Nat.reduceLeDiff, Nat.reduceEqDiff, Nat.reduceMul, Nat.reduceSub, Nat.reduceGT, reduceIte, Int.reduceNeg, Int.reduceToNat]) |  refine And.intro ?_ ?_ | intro _))
    all_goals first | omega | exact ⟨_, _, _, rfl⟩ | (simp only [List.length_map]; omega) | skip
    all_goals first | exact ⟨t + 1, by omega, by omega, by (first | rfl | exact ⟨rfl, rfl⟩ | exact ⟨rfl, rfl, rfl⟩ | exact ⟨rfl, rfl, rfl, rfl⟩ | exact ⟨rfl, rfl, rfl, rfl, rfl⟩ | exact ⟨⟨rfl, rfl⟩, rfl⟩ | simp)⟩ | trace_state
end
end
section
open Go.Vc
set_option linter.unusedSimpArgs false
set_option linter.unusedVariables false
set_option maxHeartbeats 1000000
set_option maxRecDepth 10000
attribute [local irreducible] Go.Vc.WP
attribute [local go_sem] cx0_t cx0_c
attribute [local go_sem] isV_Node isV_It isV_Entry decNode_enc decEntry_enc decFrame_enc oneFrame_enc stkA oneFrame_ab oneNode_abc decI_enc prA
open Go.Pl
theorem nbE_len (s : ByteArray) (d : Int) {N : List Node} {C : List Int} (hN : N.length ≤ 1048576) (hC : C.length ≤ 1048576) : (nbO s d (entriesOf N C)).length ≤ 1099511627776 := by
  have h1 := nbO_len (B := 1048576) (s := s) (d := d) (E := entriesOf N C) (fun e he => namesE_len2 hN he) (entriesOf N C).length (Nat.le_refl _)
  rw [List.take_length] at h1
  have h2 := entriesOf_len N C
  have h3 : 1048576 * (entriesOf N C).length ≤ 1048576 * 1048576 := Nat.mul_le_mul_left _ (by omega)
  omega
def kCallersOf : Ctr := pur (fun args => (prA args 0, aS args 1)) (fun x => [.agg [.sl 3 (x.1.1.map encNode), .sl 1 (x.1.2.map encI)], .v (.string x.2)])
  (fun x => (x.1.1.length ≤ 1048576 ∧ ∀ n ∈ x.1.1, n.name.size ≤ 1048576) ∧ x.1.2.length ≤ 1048576) (fun d _ => .own d) (fun d x => [(d, .sl 54 2 ((nbO x.2 (-1) (entriesOf x.1.1 x.1.2)).map encEntry))])
def kCalleesOf : Ctr := pur (fun args => (prA args 0, aS args 1)) (fun x => [.agg [.sl 3 (x.1.1.map encNode), .sl 1 (x.1.2.map encI)], .v (.string x.2)])
  (fun x => (x.1.1.length ≤ 1048576 ∧ ∀ n ∈ x.1.1, n.name.size ≤ 1048576) ∧ x.1.2.length ≤ 1048576) (fun d _ => .own d) (fun d x => [(d, .sl 54 2 ((nbO x.2 1 (entriesOf x.1.1 x.1.2)).map encEntry))])
section
noncomputable def cxNCallersOfS : Cx := { P := Tryz.prog, tys := tys, C := [(82, kNb)], hty := tysOk, hC := COk.cons cNbS (COk.nil _) }
theorem cxNCallersOfS_t : cxNCallersOfS.tys = tys := rfl
theorem cxNCallersOfS_c : cxNCallersOfS.C = [(82, kNb)] := rfl
attribute [local go_sem] cxNCallersOfS_t cxNCallersOfS_c kNb
end
section
noncomputable def cxNCallersOfI : Cx := { P := Tryz.prog, tys := tys, C := [(81, kNb)], hty := tysOk, hC := COk.cons cNbI (COk.nil _) }
theorem cxNCallersOfI_t : cxNCallersOfI.tys = tys := rfl
theorem cxNCallersOfI_c : cxNCallersOfI.C = [(81, kNb)] := rfl
attribute [local go_sem] cxNCallersOfI_t cxNCallersOfI_c kNb
theorem cCallersOfI : Cn Tryz.prog 28 kCallersOf := by
  refine Cn.pur Tryz.func28 (by kernel_rfl) rfl fun d x hx => ?_
  obtain ⟨⟨N, C⟩, s⟩ := x
  obtain ⟨⟨hN, hs⟩, hC⟩ := hx
  simp only at hN hs hC ⊢
  refine Holds.go (c := cxNCallersOfI) Tryz.func28 rfl Tryz.results28 Tryz.ntmps28 (by omega) (by simp) rfl ?_
  intro X0 w0
  (repeat' (first | refine WP.seq ?_ | refine WP.block ?_ | ((first | refine WP.region ?_ | refine WP.condW ?_ | refine WP.ret ?_ | refine WP.exit ?_ | refine WP.skip ?_); simp only [go_sem, tyAll, Nat.reduceAdd, Nat.reduceLT, Nat.reduceLeDiff, Nat.reduceEqDiff, Nat.reduceMul, Nat.reduceSub, Nat.reduceGT, reduceIte, Int.reduceNeg, Int.reduceToNat]) |  refine And.intro ?_ ?_ | intro _))
  all_goals first | omega | exact hs _ ‹_› | exact ⟨_, _, _, rfl⟩ | skip
  all_goals trace_state
end
section
noncomputable def cxNCalleesOfS : Cx := { P := Tryz.prog, tys := tys, C := [(82, kNb)], hty := tysOk, hC := COk.cons cNbS (COk.nil _) }
theorem cxNCalleesOfS_t : cxNCalleesOfS.tys = tys := rfl
theorem cxNCalleesOfS_c : cxNCalleesOfS.C = [(82, kNb)] := rfl
attribute [local go_sem] cxNCalleesOfS_t cxNCalleesOfS_c kNb
theorem cCalleesOfS : Cn Tryz.prog 29 kCalleesOf := by
  refine Cn.pur Tryz.func29 (by kernel_rfl) rfl fun d x hx => ?_
  obtain ⟨⟨N, C⟩, s⟩ := x
  obtain ⟨⟨hN, hs⟩, hC⟩ := hx
  simp only at hN hs hC ⊢
  refine Holds.go (c := cxNCalleesOfS) Tryz.func29 rfl Tryz.results29 Tryz.ntmps29 (by omega) (by simp) rfl ?_
  intro X0 w0
  (repeat' (first | refine WP.seq ?_ | refine WP.block ?_ | ((first | refine WP.region ?_ | refine WP.condW ?_ | refine WP.ret ?_ | refine WP.exit ?_ | refine WP.skip ?_); simp only [go_sem, tyAll, Nat.reduceAdd, Nat.reduceLT, Nat.reduceLeDiff, Nat.reduceEqDiff, Nat.reduceMul, Nat.reduceSub, Nat.reduceGT, reduceIte, Int.reduceNeg, Int.reduceToNat]) |  refine And.intro ?_ ?_ | intro _))
  all_goals first | omega | exact hs _ ‹_› | exact ⟨_, _, _, rfl⟩ | skip
  all_goals trace_state
end
section
noncomputable def cxNCalleesOfI : Cx := { P := Tryz.prog, tys := tys, C := [(81, kNb)], hty := tysOk, hC := COk.cons cNbI (COk.nil _) }
theorem cxNCalleesOfI_t : cxNCalleesOfI.tys = tys := rfl
theorem cxNCalleesOfI_c : cxNCalleesOfI.C = [(81, kNb)] := rfl
attribute [local go_sem] cxNCalleesOfI_t cxNCalleesOfI_c kNb
theorem cCalleesOfI : Cn Tryz.prog 27 kCalleesOf := by
  refine Cn.pur Tryz.func27 (by kernel_rfl) rfl fun d x hx => ?_
  obtain ⟨⟨N, C⟩, s⟩ := x
  obtain ⟨⟨hN, hs⟩, hC⟩ := hx
  simp only at hN hs hC ⊢
  refine Holds.go (c := cxNCalleesOfI) Tryz.func27 rfl Tryz.results27 Tryz.ntmps27 (by omega) (by simp) rfl ?_
  intro X0 w0
  (repeat' (first | refine WP.seq ?_ | refine WP.block ?_ | ((first | refine WP.region ?_ | refine WP.condW ?_ | refine WP.ret ?_ | refine WP.exit ?_ | refine WP.skip ?_); simp only [go_sem, tyAll, Nat.reduceAdd, Nat.reduceLT, Nat.reduceLeDiff, Nat.reduceEqDiff, Nat.reduceMul, Nat.reduceSub, Nat.reduceGT, reduceIte, Int.reduceNeg, Int.reduceToNat]) |  refine And.intro ?_ ?_ | intro _))
  all_goals first | omega | exact hs _ ‹_› | exact ⟨_, _, _, rfl⟩ | skip
  all_goals trace_state
end
end
end Go.Proofs.YtklcphbgaeiegaaGreatDoor
/-
  DERIVED. Plain lists: callers and callees mirror each other.
-/
namespace Go.Proofs.YtklcphbgaeiegaaGreatDoor
set_option linter.unusedVariables false
set_option linter.unusedSimpArgs false
open Go.Pl
/-- the count that stands beside a name -/
def cntOf (t : ByteArray) : List Entry → Int
  | [] => 0
  | e :: L => (if e.stack = t then e.count else 0) + cntOf t L
theorem cntOf_app (t : ByteArray) : ∀ A B : List Entry, cntOf t (A ++ B) = cntOf t A + cntOf t B
  | [], B => by simp [cntOf]
  | e :: A, B => by simp only [List.cons_append, cntOf]; rw [cntOf_app t A B]; omega
theorem cntOf_succ (t : ByteArray) {L : List Entry} {k : Nat} (hk : k < L.length) : cntOf t (L.take (k + 1)) = cntOf t (L.take k) + (if L[k].stack = t then L[k].count else 0) := by
  rw [List.take_succ_eq_append_getElem hk, cntOf_app]; simp [cntOf]
theorem cntOf_no {t : ByteArray} : ∀ {L : List Entry}, (∀ e ∈ L, e.stack ≠ t) → cntOf t L = 0
  | [], _ => rfl
  | e :: L, h => by
    rw [cntOf, if_neg (h e List.mem_cons_self), cntOf_no fun x hx => h x (List.mem_cons_of_mem _ hx)]; rfl
theorem cntOf_one : ∀ {L : List Entry}, (L.Pairwise fun a b => a.stack ≠ b.stack) → ∀ {e : Entry}, e ∈ L → cntOf e.stack L = e.count
  | [], _, e, he => absurd he (by simp)
  | x :: L, h, e, he => by
    obtain ⟨h1, h2⟩ := List.pairwise_cons.1 h
    rw [cntOf]
    rcases List.mem_cons.1 he with he | he
    · subst he
      rw [if_pos rfl, cntOf_no fun y hy => (h1 y hy).symm]; omega
    · rw [if_neg (h1 e he), cntOf_one h2 he]; omega
theorem cntOf_rep {L : List Entry} {f : ByteArray → Option Int} (h : Rep' L f) (t : ByteArray) : cntOf t L = (f t).getD 0 := by
  cases hf : f t with
  | none =>
    rw [cntOf_no fun e he hs => ?_]; rfl
    have := (h.mem e).1 he
    rw [hs, hf] at this; cases this
  | some n =>
    have := cntOf_one h.nd ((h.mem ⟨t, n⟩).2 hf)
    exact this
theorem nearK_mem {s : ByteArray} {d : Int} {ns : List ByteArray} {t : ByteArray} : ∀ k, t ∈ nearK s d ns k ↔ ∃ j, j < k ∧ ns.getD j ⟨#[]⟩ = s ∧ 0 ≤ (j : Int) + d ∧ (j : Int) + d < ns.length ∧ ns.getD ((j : Int) + d).toNat ⟨#[]⟩ = t
  | 0 => by simp [nearK]
  | k + 1 => by
    have ih := nearK_mem (s := s) (d := d) (ns := ns) (t := t) k
    rw [nearK]
    constructor
    · intro h
      split at h
      · rename_i hc
        rcases List.mem_append.1 h with h | h
        · obtain ⟨j, h1, h2⟩ := ih.1 h
          exact ⟨j, by omega, h2⟩
        · exact ⟨k, by omega, hc.1, hc.2.1, hc.2.2.1, (List.mem_singleton.1 h).symm⟩
      · obtain ⟨j, h1, h2⟩ := ih.1 h
        exact ⟨j, by omega, h2⟩
    · rintro ⟨j, h1, h2, h3, h4, h5⟩
      by_cases hj : j < k
      · have := ih.2 ⟨j, hj, h2, h3, h4, h5⟩
        split
        · exact List.mem_append_left _ this
        · exact this
      · obtain rfl : j = k := by omega
        split
        · exact List.mem_append_right _ (List.mem_singleton.2 h5.symm)
        · rename_i hc
          by_cases hm : ns.getD ((j : Int) + d).toNat ⟨#[]⟩ ∈ nearK s d ns j
          · rw [← h5]; exact hm
          · exact absurd ⟨h2, h3, h4, hm⟩ hc
theorem near_mirror (a b : ByteArray) (e : Entry) : b ∈ nearE a 1 e ↔ a ∈ nearE b (-1) e := by
  unfold nearE
  rw [nearK_mem, nearK_mem]
  constructor
  · rintro ⟨j, h1, h2, h3, h4, h5⟩
    refine ⟨j + 1, by omega, ?_, by omega, by omega, ?_⟩
    · rw [show ((j : Int) + 1).toNat = j + 1 by omega] at h5; exact h5
    · rw [show (((j + 1 : Nat) : Int) + -1).toNat = j by omega]; exact h2
  · rintro ⟨j, h1, h2, h3, h4, h5⟩
    refine ⟨((j : Int) + -1).toNat, by omega, h5, by omega, by omega, ?_⟩
    rw [show ((((j : Int) + -1).toNat : Int) + 1).toNat = j by omega]; exact h2
theorem addF_at {c : Int} {t : ByteArray} : ∀ {ns : List ByteArray}, ns.Nodup → ∀ f : ByteArray → Option Int, (addF' c ns f t).getD 0 = (f t).getD 0 + (if t ∈ ns then c else 0)
  | [], _, f => by simp [addF']
  | s :: ns, hn, f => by
    obtain ⟨h1, h2⟩ := List.nodup_cons.1 hn
    have ih := addF_at (c := c) (t := t) h2 (updF f s c)
    have e : addF' c (s :: ns) f = addF' c ns (updF f s c) := rfl
    rw [e, ih]
    unfold updF
    by_cases hs : t = s
    · subst hs
      rw [if_pos rfl, if_neg h1, if_pos List.mem_cons_self, Option.getD_some]; omega
    · rw [if_neg hs]
      have : (t ∈ s :: ns) ↔ t ∈ ns := by simp [hs]
      simp only [this]
/-- what the entries count in which t stands beside s -/
def besideE (s : ByteArray) (d : Int) (t : ByteArray) : List Entry → Int
  | [] => 0
  | e :: E => (if t ∈ nearE s d e then e.count else 0) + besideE s d t E
theorem nbF_at (s : ByteArray) (d : Int) (t : ByteArray) : ∀ (E : List Entry) (f : ByteArray → Option Int), ((E.foldl (fun f e => addF' e.count (nearE s d e) f) f) t).getD 0 = (f t).getD 0 + besideE s d t E
  | [], f => by simp [besideE]
  | e :: E, f => by
    have hn : (nearE s d e).Nodup := nearK_nodup s d (namesE e) _
    rw [List.foldl_cons, nbF_at s d t E, addF_at hn, besideE]
    omega
theorem beside_mirror (a b : ByteArray) : ∀ E : List Entry, besideE a 1 b E = besideE b (-1) a E
  | [] => rfl
  | e :: E => by
    rw [besideE, besideE, beside_mirror a b E]
    simp only [near_mirror a b e]
theorem cntOf_nb (s : ByteArray) (d : Int) (t : ByteArray) (E : List Entry) : cntOf t (nbO s d E) = besideE s d t E := by
  rw [cntOf_rep (nbO_rep s d E).1 t]
  unfold nbF
  rw [nbF_at]
  simp
/-- callers and callees mirror each other -/
theorem nb_mirror (a b : ByteArray) (E : List Entry) : cntOf b (nbO a 1 E) = cntOf a (nbO b (-1) E) := by
  rw [cntOf_nb, cntOf_nb, beside_mirror]
/-- a name that only begins stacks has no callers -/
theorem nb_none {s : ByteArray} {E : List Entry} (h : ∀ e ∈ E, ∀ j, 0 < j → j < (namesE e).length → (namesE e).getD j ⟨#[]⟩ ≠ s) : nbO s (-1) E = [] := by
  have hn : ∀ e ∈ E, nearE s (-1) e = [] := by
    intro e he
    rw [List.eq_nil_iff_forall_not_mem]
    intro t ht
    unfold nearE at ht
    obtain ⟨j, h1, h2, h3, h4, h5⟩ := (nearK_mem _).1 ht
    exact h e he j (by omega) h1 h2
  unfold nbO
  have : ∀ (E : List Entry) (L : List Entry), (∀ e ∈ E, nearE s (-1) e = []) → E.foldl (fun L e => addO e.count (nearE s (-1) e) L) L = L := by
    intro E
    induction E with
    | nil => intro L _; rfl
    | cons e E ih =>
      intro L h
      rw [List.foldl_cons, h e List.mem_cons_self]
      exact ih _ fun x hx => h x (List.mem_cons_of_mem _ hx)
  exact this E [] hn
end Go.Proofs.YtklcphbgaeiegaaGreatDoor

