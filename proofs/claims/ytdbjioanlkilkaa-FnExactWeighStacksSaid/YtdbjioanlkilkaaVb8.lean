/-
  DERIVED. Several texts of ours in one: VtPrL, VtPrM, VcY, VcYw, VtLineR, VtWeighL.
-/
import Derived.Test.YtdbjioanlkilkaaVb0
import Derived.Test.YtdbjioanlkilkaaVb1
import Derived.Test.YtdbjioanlkilkaaVb2
import Derived.Test.YtdbjioanlkilkaaVb3
import Derived.Test.YtdbjioanlkilkaaVb4
import Derived.Test.YtdbjioanlkilkaaVb5
import Derived.Test.YtdbjioanlkilkaaVb6
import Derived.Test.YtdbjioanlkilkaaVb7
import Derived.Deep.Strs
import Derived.Lib.SmallJoins
set_option linter.unusedSimpArgs false
set_option linter.unusedVariables false
namespace Go.Proofs.Ytdbjioanlkilkaa
open Go.Vc
attribute [local go_sem] St.runR St.runW St.stepV offV St.step St.stepU St.stepG mkCond guardB St.prK St.pr St.prLen St.eff St.callE St.callD St.callF St.callL aI aB aS aR aC St.isM St.argL Ctr.pure Ctr.lend Ctr.move Ctr.isL Ctr.wri pur len lentBy St.lentV St.lent1 nthS argsR restOf obsR pairs swapL unObs backL St.resL erL SV.ren1 SV.up SV.up2 Ob.up St.fzL cellIds partIds St.intoRow SV.ownId St.fz SV.fz1 St.prep St.mvL St.mv SV.re1 rnOk St.prEq vals eqCells scEq Value.kd St.prStr St.prCut cutR St.bnd St.prMin St.bld isShift outL retL outJ oR oC oE oD SV.upq SV.isSl SV.shut St.ev St.get St.put St.new St.kill SV.kill SV.kill1 Ob.kill St.app St.wrt St.rowsOf St.res St.killL lk er argsL SV.strip SV.need SV.share SV.share1 SV.owns SV.owns1 SV.owns2 SV.good SV.good1 SV.rok SV.rok1 SV.rok2 SV.isV SV.isV2 nodupN SV.cells SV.one SV.pur Ob.pb partsIn rowsIn splice cellsAt dstOk scal2 scal1 thenK blockK retK outK outs okC okL okA okT nilC nilL nilA nilT keepC keepL keepA keepT St.runG St.dltK St.least St.clean St.final St.hide offK badS badO SV.refs SV.leaf SV.leaf2 Ob.refs dlOk fpAt Go.Vc.cover tups SV.ofAgg St.out outC subL St.has rng wr Value.oneCell' Option.isSome_some Option.isSome_none List.nil_append Bool.false_eq_true List.map_cons List.map_nil List.all_cons List.all_nil List.length_cons List.length_nil List.drop_zero List.drop_succ_cons List.take_succ_cons List.take_zero List.drop_nil List.take_nil List.getElem?_cons_zero List.getElem?_cons_succ List.getElem?_nil List.cons_append List.nil_append List.append_nil List.append_assoc List.flatMap_cons List.flatMap_nil List.contains_cons List.contains_nil List.set_cons_zero List.set_cons_succ List.getElem?_toArray Option.getD_some Option.getD_none Option.map_some Option.map_none Option.bind_some Option.some.injEq Prod.mk.injEq if_true if_false true_and and_true and_self and_false false_and Bool.and_false Bool.false_and Bool.or_true Bool.true_or Bool.or_false Bool.false_or ne_eq not_true_eq_false not_false_eq_true decide_true decide_false List.mem_cons List.not_mem_nil List.filter_cons List.filter_nil List.any_cons List.any_nil List.isEmpty_nil List.isEmpty_cons Option.getD_none or_false false_or true_or or_true forall_eq_or_imp forall_eq reduceCtorEq exists_eq exists_eq' exists_eq_left' exists_eq_left exists_eq_right exists_eq_right' imp_self implies_true Bool.and_true Bool.true_and Bool.and_self beq_self_eq_true List.replicate_succ List.replicate_zero forall_const false_implies pickB_or pickB_and beqT beqF Int.toNat_natCast List.length_map List.length_replicate ge_iff_le gt_iff_lt decide_eq_true_eq decide_eq_false_iff_not Bool.and_eq_true Bool.or_eq_true Bool.not_eq_true' Bool.not_eq_false' condG List.toList_toArray Bool.or_eq_false_iff Bool.and_eq_false_iff Int.not_lt Int.not_le beq_iff_eq beq_eq_false_iff_ne bne_iff_ne bne_eq_false_iff_eq ne_eq Bool.not_true Bool.not_false exists_and_left
section
open Go.Vc
set_option linter.unusedSimpArgs false
set_option linter.unusedVariables false
set_option maxHeartbeats 1000000
set_option maxRecDepth 10000
attribute [local irreducible] Go.Vc.WP
attribute [local go_sem] cx0_t cx0_c
attribute [local go_sem] decNode_enc decFrame_enc oneFrame_enc stkA oneFrame_ab oneNode_abc decI_enc prA encI_inj
theorem szGo_neg : ∀ (l : List Nat) (r : Int), 0 ≤ r → szGo l r < 0 → szGo l r = -1
  | [], r, h, h2 => by unfold szGo at h2 ⊢; omega
  | n :: l, r, h, h2 => by
    unfold szGo at h2 ⊢
    split
    · rfl
    · rename_i h3
      rw [if_neg h3] at h2
      exact szGo_neg l _ (by omega) h2
theorem szGo_le1 : ∀ (l : List Nat) (r : Int), -1 ≤ r → szGo l r ≤ r
  | [], r, h => Int.le_refl _
  | n :: l, r, h => by
    unfold szGo
    split
    · omega
    · have := szGo_le1 l (r - n) (by omega)
      omega
theorem szvNode_neg {N : List Node} {l : Int} (h0 : 0 ≤ l) (h : szvNode N l < 0) : szvNode N l = -1 := by
  unfold szvNode at h ⊢
  split
  · rfl
  · rename_i h2
    rw [if_neg h2] at h
    exact szGo_neg _ _ (by omega) h
theorem szvNode_le {N : List Node} {l : Int} (h0 : 0 ≤ l) : szvNode N l ≤ l := by
  unfold szvNode
  split
  · omega
  · have := szGo_le1 (sizesNode N) (l - N.length) (by omega)
    omega
theorem szvNode_ok' {N : List Node} {l : Int} (hl : l ≤ 1048576) (h : ¬ szvNode N l < 0) : N.length ≤ 1048576 ∧ ∀ x ∈ N, x.name.size ≤ 1048576 := by
  unfold szvNode at h
  split at h
  · omega
  · rename_i h2
    refine ⟨by omega, fun x hx => ?_⟩
    have := szGo_ok (sizesNode N) _ (by omega) (Int.not_lt.1 h) x.name.size (List.mem_map.2 ⟨x, hx, rfl⟩)
    omega
def kszI : Ctr := pur (fun args => (decI (aR args 0), aI args 1)) (fun x => [.sl 1 (x.1.map encI), .v (.int .i64 x.2)]) (fun x => x.1.length ≤ maxLen ∧ 0 ≤ x.2 ∧ x.2 ≤ 1048576)
  (fun _ x => .v (.int .i64 (if x.2 - x.1.length < 0 then -1 else x.2 - x.1.length))) (fun _ _ => [])
section
noncomputable def cxSzI : Cx := { P := Try.prog, tys := tys, C := [], hty := tysOk, hC := COk.nil _ }
theorem cxSzI_t : cxSzI.tys = tys := rfl
theorem cxSzI_c : cxSzI.C = [] := rfl
attribute [local go_sem] cxSzI_t cxSzI_c 
theorem cszI : Cn Try.prog 137 kszI := by
  refine Cn.pur Try.func137 (by kernel_rfl) rfl fun d x hx => ?_
  obtain ⟨L, left⟩ := x
  obtain ⟨hL, h0, h1⟩ := hx
  simp only at hL h0 h1 ⊢
  have hm : maxLen = 9223372036854775807 := rfl
  refine Holds.go (c := cxSzI) Try.func137 rfl Try.results137 Try.ntmps137 (by omega) (by simp) rfl ?_
  intro X0 w0
  (repeat' (first | refine WP.seq ?_ | refine WP.block ?_ | ((first | refine WP.region ?_ | refine WP.condW ?_ | refine WP.ret ?_ | refine WP.exit ?_ | refine WP.skip ?_); simp only [go_sem, tyAll, Nat.reduceAdd, Nat.reduceLT, Nat.reduceLeDiff, Nat.reduceEqDiff, Nat.reduceMul, Nat.reduceSub, Nat.reduceGT, reduceIte, Int.reduceNeg, Int.reduceToNat]) |  refine And.intro ?_ ?_ | intro _))
  all_goals first | omega | skip
  · rename_i h; rw [if_pos h]
  · rename_i h; rw [if_neg (by omega)]
end
def kszStk : Ctr := pur (fun args => (stkA args 0, aI args 1)) (fun x => [.agg [.sl 3 (x.1.map encNode)], .v (.int .i64 x.2)]) (fun x => x.1.length ≤ maxLen ∧ (∀ r ∈ x.1, r.name.size ≤ maxLen) ∧ 0 ≤ x.2 ∧ x.2 ≤ 1048576)
  (fun _ x => .v (.int .i64 (szvNode x.1 x.2))) (fun _ _ => [])
section
noncomputable def cxSzStk : Cx := { P := Try.prog, tys := tys, C := [], hty := tysOk, hC := COk.nil _ }
theorem cxSzStk_t : cxSzStk.tys = tys := rfl
theorem cxSzStk_c : cxSzStk.C = [] := rfl
attribute [local go_sem] cxSzStk_t cxSzStk_c 
end
def szvPr (x : List Node × List Int) (l : Int) : Int := if szvNode x.1 l < 0 then -1 else if szvNode x.1 l - x.2.length < 0 then -1 else szvNode x.1 l - x.2.length
theorem szvPr_le {x : List Node × List Int} {l : Int} (h0 : 0 ≤ l) : szvPr x l ≤ l := by
  have := szvNode_le (N := x.1) h0
  unfold szvPr
  split
  · omega
  · split <;> omega
theorem szvPr_neg {x : List Node × List Int} {l : Int} (h : szvPr x l < 0) : szvPr x l = -1 := by
  unfold szvPr at h ⊢
  split
  · rfl
  · split
    · rfl
    · rename_i h1 h2; rw [if_neg h1, if_neg h2] at h; omega
theorem szvPr_ok {x : List Node × List Int} {l : Int} (hl : l ≤ 1048576) (h : ¬ szvPr x l < 0) : (x.1.length ≤ 1048576 ∧ ∀ n ∈ x.1, n.name.size ≤ 1048576) ∧ x.2.length ≤ 1048576 := by
  unfold szvPr at h
  split at h
  · omega
  · rename_i h1
    refine ⟨szvNode_ok' hl h1, ?_⟩
    split at h
    · omega
    · by_cases h0 : 0 ≤ l
      · have := szvNode_le (N := x.1) h0
        omega
      · exfalso
        apply h1
        unfold szvNode
        rw [if_pos (by omega)]; omega
def wfM (x : List Node × List Int) : Prop := x.1.length ≤ maxLen ∧ (∀ r ∈ x.1, r.name.size ≤ maxLen) ∧ x.2.length ≤ maxLen
def kszPr : Ctr := pur (fun args => (prA args 0, aI args 1)) (fun x => [.agg [.sl 3 (x.1.1.map encNode), .sl 1 (x.1.2.map encI)], .v (.int .i64 x.2)]) (fun x => wfM x.1 ∧ 0 ≤ x.2 ∧ x.2 ≤ 1048576)
  (fun _ x => .v (.int .i64 (szvPr x.1 x.2))) (fun _ _ => [])
section
noncomputable def cxSzPr : Cx := { P := Try.prog, tys := tys, C := [(137, kszI)], hty := tysOk, hC := COk.cons cszI (COk.nil _) }
theorem cxSzPr_t : cxSzPr.tys = tys := rfl
theorem cxSzPr_c : cxSzPr.C = [(137, kszI)] := rfl
attribute [local go_sem] cxSzPr_t cxSzPr_c kszI
end
def ktoStk : Ctr := pur (fun args => stkA args 0) (fun N => [.agg [.sl 3 (N.map encNode)]]) (fun N => N.length ≤ 2097152) (fun d _ => .agg [.own d]) (fun d N => [(d, .sl 187 3 (N.map encNode))])
section
noncomputable def cxToStk : Cx := { P := Try.prog, tys := tys, C := [], hty := tysOk, hC := COk.nil _ }
theorem cxToStk_t : cxToStk.tys = tys := rfl
theorem cxToStk_c : cxToStk.C = [] := rfl
attribute [local go_sem] cxToStk_t cxToStk_c 
end
def ktoPr : Ctr := pur (fun args => prA args 0) (fun x => [.agg [.sl 3 (x.1.map encNode), .sl 1 (x.2.map encI)]]) (fun x => x.1.length ≤ 2097152 ∧ x.2.length ≤ 2097152) (fun d _ => .agg [.own d, .own (d + 1000)]) (fun d x => [(d, .sl 187 3 (x.1.map encNode)), (d + 1000, .sl 3 1 (x.2.map encI))])
section
noncomputable def cxToPr : Cx := { P := Try.prog, tys := tys, C := [(10, k15)], hty := tysOk, hC := COk.cons c15 (COk.nil _) }
theorem cxToPr_t : cxToPr.tys = tys := rfl
theorem cxToPr_c : cxToPr.C = [(10, k15)] := rfl
attribute [local go_sem] cxToPr_t cxToPr_c k15
end
def keqStk : Ctr := pur (fun args => (stkA args 0, stkA args 1)) (fun x => [.agg [.sl 3 (x.1.map encNode)], .agg [.sl 3 (x.2.map encNode)]]) (fun x => x.1.length ≤ 4398046511104) (fun _ x => .v (.bool (decide (x.1 = x.2)))) (fun _ _ => [])
section
noncomputable def cxEqStk : Cx := { P := Try.prog, tys := tys, C := [(104, keqNodeS)], hty := tysOk, hC := COk.cons ceqNodeS (COk.nil _) }
theorem cxEqStk_t : cxEqStk.tys = tys := rfl
theorem cxEqStk_c : cxEqStk.C = [(104, keqNodeS)] := rfl
attribute [local go_sem] cxEqStk_t cxEqStk_c keqNodeS
theorem ceqStk : Cn Try.prog 62 keqStk := by
  refine Cn.pur Try.func62 (by kernel_rfl) rfl fun d x hx => ?_
  obtain ⟨N, M⟩ := x
  simp only at hx ⊢
  refine Holds.go (c := cxEqStk) Try.func62 rfl Try.results62 Try.ntmps62 (by omega) (by simp) rfl ?_
  intro X0 w0
  (repeat' (first | refine WP.seq ?_ | refine WP.block ?_ | ((first | refine WP.region ?_ | refine WP.condW ?_ | refine WP.ret ?_ | refine WP.exit ?_ | refine WP.skip ?_); simp only [go_sem, tyAll, Nat.reduceAdd, Nat.reduceLT, Nat.reduceLeDiff, Nat.reduceEqDiff, Nat.reduceMul, Nat.reduceSub, Nat.reduceGT, reduceIte, Int.reduceNeg, Int.reduceToNat]) |  refine And.intro ?_ ?_ | intro _))
  all_goals first | omega | simp_all | skip
end
def keqPr : Ctr := pur (fun args => (prA args 0, prA args 1)) (fun x => [.agg [.sl 3 (x.1.1.map encNode), .sl 1 (x.1.2.map encI)], .agg [.sl 3 (x.2.1.map encNode), .sl 1 (x.2.2.map encI)]]) (fun x => x.1.1.length ≤ 4398046511104 ∧ x.1.2.length ≤ 4398046511104)
  (fun _ x => .v (.bool (decide (x.1 = x.2)))) (fun _ _ => [])
section
noncomputable def cxEqPr : Cx := { P := Try.prog, tys := tys, C := [(62, keqStk), (14, k17)], hty := tysOk, hC := COk.cons ceqStk (COk.cons c17 (COk.nil _)) }
theorem cxEqPr_t : cxEqPr.tys = tys := rfl
theorem cxEqPr_c : cxEqPr.C = [(62, keqStk), (14, k17)] := rfl
attribute [local go_sem] cxEqPr_t cxEqPr_c keqStk k17
theorem ceqPr : Cn Try.prog 30 keqPr := by
  refine Cn.pur Try.func30 (by kernel_rfl) rfl fun d x hx => ?_
  obtain ⟨⟨N, C⟩, ⟨M, D⟩⟩ := x
  simp only at hx ⊢
  refine Holds.go (c := cxEqPr) Try.func30 rfl Try.results30 Try.ntmps30 (by omega) (by simp) rfl ?_
  intro X0 w0
  (repeat' (first | refine WP.seq ?_ | refine WP.block ?_ | ((first | refine WP.region ?_ | refine WP.condW ?_ | refine WP.ret ?_ | refine WP.exit ?_ | refine WP.skip ?_); simp only [go_sem, tyAll, Nat.reduceAdd, Nat.reduceLT, Nat.reduceLeDiff, Nat.reduceEqDiff, Nat.reduceMul, Nat.reduceSub, Nat.reduceGT, reduceIte, Int.reduceNeg, Int.reduceToNat]) |  refine And.intro ?_ ?_ | intro _))
  all_goals first | omega | simp_all | skip
end
end
section
open Go.Vc
set_option linter.unusedSimpArgs false
set_option linter.unusedVariables false
set_option maxHeartbeats 1000000
set_option maxRecDepth 10000
attribute [local irreducible] Go.Vc.WP
attribute [local go_sem] cx0_t cx0_c
attribute [local go_sem] isV_Node isV_It decNode_enc decFrame_enc oneFrame_enc stkA oneFrame_ab oneNode_abc decI_enc prA encI_inj
def kmarkStk : Ctr := len [0] [] (fun args obs => (decNode (oR obs 1000000), aI args 1)) (fun x => [.agg [.own 1000000], .v (.int .i64 x.2)]) (fun x => [(1000000, .sl 187 3 (x.1.map encNode))]) (fun x => x.1.length ≤ 4398046511104 ∧ 0 ≤ x.2 ∧ x.2 ≤ 100000000000000)
  (fun _ x => .v (.int .i64 (x.2 + 3 * x.1.length))) (fun _ _ => []) (fun x => [(1000000, .sl 187 3 ((marksNode x.2 x.1.length).map encNode))])
section
noncomputable def cxMkStk : Cx := { P := Try.prog, tys := tys, C := [(105, kmarkNodeS)], hty := tysOk, hC := COk.cons cmarkNodeS (COk.nil _) }
theorem cxMkStk_t : cxMkStk.tys = tys := rfl
theorem cxMkStk_c : cxMkStk.C = [(105, kmarkNodeS)] := rfl
attribute [local go_sem] cxMkStk_t cxMkStk_c kmarkNodeS
theorem cmarkStk : Cn Try.prog 63 kmarkStk := by
  refine Cn.len Try.func63 (by kernel_rfl) rfl fun d x hd hx => ?_
  obtain ⟨L, k0⟩ := x
  obtain ⟨hL, h0, h1⟩ := hx
  simp only at hL h0 h1 ⊢
  refine HoldsL.go (c := cxMkStk) Try.func63 rfl Try.results63 Try.ntmps63 (by omega) (by simp) rfl (by simp <;> omega) (by simp [SV.owns2, SV.owns, SV.owns1]) (by simp) rfl rfl (by simp) ?_
  intro X0 M w0
  (repeat' (first | refine WP.seq ?_ | refine WP.block ?_ | ((first | refine WP.region ?_ | refine WP.condW ?_ | refine WP.ret ?_ | refine WP.exit ?_ | refine WP.skip ?_); simp only [go_sem, tyAll, Nat.reduceAdd, Nat.reduceLT, Nat.reduceLeDiff, Nat.reduceEqDiff, Nat.reduceMul, Nat.reduceSub, Nat.reduceGT, reduceIte, Int.reduceNeg, Int.reduceToNat]) |  refine And.intro ?_ ?_ | intro _))
  all_goals first | omega | skip
end
def kheldStk : Ctr := pur (fun args => (stkA args 0, aI args 1)) (fun x => [.agg [.sl 3 (x.1.map encNode)], .v (.int .i64 x.2)]) (fun x => x.1.length ≤ 4398046511104 ∧ 0 ≤ x.2 ∧ x.2 ≤ 100000000000000)
  (fun _ x => .v (.int .i64 (if x.1 = marksNode x.2 x.1.length then x.2 + 3 * x.1.length else -1))) (fun _ _ => [])
section
noncomputable def cxHeStk : Cx := { P := Try.prog, tys := tys, C := [(106, kheldNodeS)], hty := tysOk, hC := COk.cons cheldNodeS (COk.nil _) }
theorem cxHeStk_t : cxHeStk.tys = tys := rfl
theorem cxHeStk_c : cxHeStk.C = [(106, kheldNodeS)] := rfl
attribute [local go_sem] cxHeStk_t cxHeStk_c kheldNodeS
theorem cheldStk : Cn Try.prog 64 kheldStk := by
  refine Cn.pur Try.func64 (by kernel_rfl) rfl fun d x hx => ?_
  obtain ⟨L, k0⟩ := x
  obtain ⟨hL, h0, h1⟩ := hx
  simp only at hL h0 h1 ⊢
  refine Holds.go (c := cxHeStk) Try.func64 rfl Try.results64 Try.ntmps64 (by omega) (by simp) rfl ?_
  intro X0 w0
  (repeat' (first | refine WP.seq ?_ | refine WP.block ?_ | ((first | refine WP.region ?_ | refine WP.condW ?_ | refine WP.ret ?_ | refine WP.exit ?_ | refine WP.skip ?_); simp only [go_sem, tyAll, Nat.reduceAdd, Nat.reduceLT, Nat.reduceLeDiff, Nat.reduceEqDiff, Nat.reduceMul, Nat.reduceSub, Nat.reduceGT, reduceIte, Int.reduceNeg, Int.reduceToNat]) |  refine And.intro ?_ ?_ | intro _))
  all_goals first | omega | skip
  · rename_i h
    by_cases he : L = marksNode k0 L.length
    · rw [if_pos he] at h; omega
    · rw [if_neg he]
end
def kmarkPr : Ctr := len [0] [] (fun args obs => ((decNode (oR obs 1000000), decI (oR obs 1000001)), aI args 1)) (fun x => [.agg [.own 1000000, .own 1000001], .v (.int .i64 x.2)])
  (fun x => [(1000000, .sl 187 3 (x.1.1.map encNode)), (1000001, .sl 3 1 (x.1.2.map encI))]) (fun x => x.1.1.length ≤ 4398046511104 ∧ x.1.2.length ≤ 4398046511104 ∧ 0 ≤ x.2 ∧ x.2 ≤ 10000000000000)
  (fun _ x => .v (.int .i64 (x.2 + 3 * x.1.1.length + x.1.2.length))) (fun _ _ => []) (fun x => [(1000000, .sl 187 3 ((marksNode x.2 x.1.1.length).map encNode)), (1000001, .sl 3 1 ((marksI (x.2 + 3 * x.1.1.length) x.1.2.length).map encI))])
section
noncomputable def cxMkPr : Cx := { P := Try.prog, tys := tys, C := [(63, kmarkStk), (16, k18)], hty := tysOk, hC := COk.cons cmarkStk (COk.cons c18 (COk.nil _)) }
theorem cxMkPr_t : cxMkPr.tys = tys := rfl
theorem cxMkPr_c : cxMkPr.C = [(63, kmarkStk), (16, k18)] := rfl
attribute [local go_sem] cxMkPr_t cxMkPr_c kmarkStk k18
theorem cmarkPr : Cn Try.prog 33 kmarkPr := by
  refine Cn.len Try.func33 (by kernel_rfl) rfl fun d x hd hx => ?_
  obtain ⟨⟨N, C⟩, k0⟩ := x
  obtain ⟨hN, hC, h0, h1⟩ := hx
  simp only at hN hC h0 h1 ⊢
  refine HoldsL.go (c := cxMkPr) Try.func33 rfl Try.results33 Try.ntmps33 (by omega) (by simp) rfl (by simp <;> omega) (by simp [SV.owns2, SV.owns, SV.owns1]) (by simp) rfl rfl (by simp) ?_
  intro X0 M w0
  (repeat' (first | refine WP.seq ?_ | refine WP.block ?_ | ((first | refine WP.region ?_ | refine WP.condW ?_ | refine WP.ret ?_ | refine WP.exit ?_ | refine WP.skip ?_); simp only [go_sem, tyAll, Nat.reduceAdd, Nat.reduceLT, Nat.reduceLeDiff, Nat.reduceEqDiff, Nat.reduceMul, Nat.reduceSub, Nat.reduceGT, reduceIte, Int.reduceNeg, Int.reduceToNat]) |  refine And.intro ?_ ?_ | intro _))
  all_goals first | omega | skip
end
def kheldPr : Ctr := pur (fun args => (prA args 0, aI args 1)) (fun x => [.agg [.sl 3 (x.1.1.map encNode), .sl 1 (x.1.2.map encI)], .v (.int .i64 x.2)]) (fun x => x.1.1.length ≤ 4398046511104 ∧ x.1.2.length ≤ 4398046511104 ∧ 0 ≤ x.2 ∧ x.2 ≤ 10000000000000)
  (fun _ x => .v (.int .i64 (if x.1.1 = marksNode x.2 x.1.1.length ∧ x.1.2 = marksI (x.2 + 3 * x.1.1.length) x.1.2.length then x.2 + 3 * x.1.1.length + x.1.2.length else -1))) (fun _ _ => [])
section
noncomputable def cxHePr : Cx := { P := Try.prog, tys := tys, C := [(64, kheldStk), (65, k19)], hty := tysOk, hC := COk.cons cheldStk (COk.cons c19 (COk.nil _)) }
theorem cxHePr_t : cxHePr.tys = tys := rfl
theorem cxHePr_c : cxHePr.C = [(64, kheldStk), (65, k19)] := rfl
attribute [local go_sem] cxHePr_t cxHePr_c kheldStk k19
theorem cheldPr : Cn Try.prog 34 kheldPr := by
  refine Cn.pur Try.func34 (by kernel_rfl) rfl fun d x hx => ?_
  obtain ⟨⟨N, C⟩, k0⟩ := x
  obtain ⟨hN, hC, h0, h1⟩ := hx
  simp only at hN hC h0 h1 ⊢
  refine Holds.go (c := cxHePr) Try.func34 rfl Try.results34 Try.ntmps34 (by omega) (by simp) rfl ?_
  intro X0 w0
  by_cases he : N = marksNode k0 N.length
  · by_cases hf : C = marksI (k0 + 3 * N.length) C.length
    · (repeat' (first | refine WP.seq ?_ | refine WP.block ?_ | ((first | refine WP.region ?_ | refine WP.condW ?_ | refine WP.ret ?_ | refine WP.exit ?_ | refine WP.skip ?_); simp only [go_sem, if_pos he, if_pos hf, tyAll, Nat.reduceAdd, Nat.reduceLT, Nat.reduceLeDiff, Nat.reduceEqDiff, Nat.reduceMul, Nat.reduceSub, Nat.reduceGT, reduceIte, Int.reduceNeg, Int.reduceToNat]) |  refine And.intro ?_ ?_ | intro _))
      all_goals first | omega | skip
      all_goals rw [if_pos ⟨he, hf⟩]
    · (repeat' (first | refine WP.seq ?_ | refine WP.block ?_ | ((first | refine WP.region ?_ | refine WP.condW ?_ | refine WP.ret ?_ | refine WP.exit ?_ | refine WP.skip ?_); simp only [go_sem, if_pos he, if_neg hf, tyAll, Nat.reduceAdd, Nat.reduceLT, Nat.reduceLeDiff, Nat.reduceEqDiff, Nat.reduceMul, Nat.reduceSub, Nat.reduceGT, reduceIte, Int.reduceNeg, Int.reduceToNat]) |  refine And.intro ?_ ?_ | intro _))
      all_goals first | omega | skip
      all_goals rw [if_neg fun h => hf h.2]
  · (repeat' (first | refine WP.seq ?_ | refine WP.block ?_ | ((first | refine WP.region ?_ | refine WP.condW ?_ | refine WP.ret ?_ | refine WP.exit ?_ | refine WP.skip ?_); simp only [go_sem, if_neg he, tyAll, Nat.reduceAdd, Nat.reduceLT, Nat.reduceLeDiff, Nat.reduceEqDiff, Nat.reduceMul, Nat.reduceSub, Nat.reduceGT, reduceIte, Int.reduceNeg, Int.reduceToNat]) |  refine And.intro ?_ ?_ | intro _))
    all_goals first | omega | skip
    all_goals rw [if_neg fun h => he h.1]
end
end
end Go.Proofs.Ytdbjioanlkilkaa
/-
  DERIVED. What is read of a struct, field by field, stands for what its fields stand for.
-/
namespace Go.Vc
open Go.RowKit Go.WideShapes Go.ChangeShapes Go.Deep
set_option linter.unusedVariables false
section
variable {H : Type} {enc : TypeId × Value → H} {P : Program} {w : World}
theorem Cells.append {r1 r2 : List SV} {c1 c2 : List Value} (h1 : Cells w r1 c1) (h2 : Cells w r2 c2) : Cells w (r1 ++ r2) (c1 ++ c2) := by
  refine ⟨by rw [List.length_append, List.length_append, h1.1, h2.1], fun k c u hc hu => ?_⟩
  rw [List.getElem?_append] at hc hu
  by_cases hk : k < r1.length
  · rw [if_pos hk] at hc
    rw [if_pos (by rw [← h1.1]; exact hk)] at hu
    exact h1.2 k c u hc hu
  · rw [if_neg hk] at hc
    rw [if_neg (by rw [← h1.1]; exact hk), ← h1.1] at hu
    exact h2.2 _ c u hc hu
theorem Dec.map {t : TypeId} {α β : Type} {e : α → List SV} {wf : α → Prop} {e' : β → List SV} {wf' : β → Prop} (hd : Dec H enc P w t e wf) (g : α → β) (he : ∀ a, e' (g a) = e a) (hw : ∀ a, wf a → wf' (g a)) : Dec H enc P w t e' wf' := by
  intro base sp held n cs y h
  obtain ⟨a, ha, hc⟩ := hd _ _ _ _ _ _ h
  exact ⟨g a, hw a ha, by rw [he]; exact hc⟩
theorem Dec.struct1 {t : TypeId} {f0 : Field} {k0 : Nat} {α : Type} {e : α → List SV} {wf : α → Prop} (ht : P.underlying t = some (.struct #[f0])) (o0 : f0.offset = 0) (h0 : P.cellsOf f0.type = k0) (hC : P.cellsOf t = k0) (hd : Dec H enc P w f0.type e wf) : Dec H enc P w t e wf := by
  intro base sp held n cs y h
  obtain ⟨y0, m, _, hl, g0⟩ := trod_struct1 ht h
  obtain ⟨a, ha, hc⟩ := hd _ _ _ _ _ _ g0
  rw [o0, h0, List.drop_zero, List.take_of_length_le (by omega)] at hc
  exact ⟨a, ha, hc⟩
theorem Dec.struct2 {t : TypeId} {f0 f1 : Field} {k0 k1 : Nat} {α β : Type} {e0 : α → List SV} {w0 : α → Prop} {e1 : β → List SV} {w1 : β → Prop} (ht : P.underlying t = some (.struct #[f0, f1])) (o0 : f0.offset = 0) (h0 : P.cellsOf f0.type = k0) (o1 : f1.offset = k0) (h1 : P.cellsOf f1.type = k1) (hC : P.cellsOf t = k0 + k1)
    (d0 : Dec H enc P w f0.type e0 w0) (d1 : Dec H enc P w f1.type e1 w1) : Dec H enc P w t (fun x : α × β => e0 x.1 ++ e1 x.2) (fun x => w0 x.1 ∧ w1 x.2) := by
  intro base sp held n cs y h
  obtain ⟨y0, y1, m, _, hl, g0, g1⟩ := trod_struct2 ht h
  obtain ⟨a, ha, hc⟩ := d0 _ _ _ _ _ _ g0
  obtain ⟨b, hb, hd⟩ := d1 _ _ _ _ _ _ g1
  rw [o0, h0, List.drop_zero] at hc
  rw [o1, h1, List.take_of_length_le (by rw [List.length_drop]; omega)] at hd
  refine ⟨(a, b), ⟨ha, hb⟩, ?_⟩
  have := hc.append hd
  rwa [List.take_append_drop] at this
theorem Dec.struct3 {t : TypeId} {f0 f1 f2 : Field} {k0 k1 k2 : Nat} {α β γ : Type} {e0 : α → List SV} {w0 : α → Prop} {e1 : β → List SV} {w1 : β → Prop} {e2 : γ → List SV} {w2 : γ → Prop} (ht : P.underlying t = some (.struct #[f0, f1, f2])) (o0 : f0.offset = 0) (h0 : P.cellsOf f0.type = k0) (o1 : f1.offset = k0) (h1 : P.cellsOf f1.type = k1) (o2 : f2.offset = k0 + k1) (h2 : P.cellsOf f2.type = k2) (hC : P.cellsOf t = k0 + k1 + k2)
    (d0 : Dec H enc P w f0.type e0 w0) (d1 : Dec H enc P w f1.type e1 w1) (d2 : Dec H enc P w f2.type e2 w2) : Dec H enc P w t (fun x : α × β × γ => e0 x.1 ++ (e1 x.2.1 ++ e2 x.2.2)) (fun x => w0 x.1 ∧ w1 x.2.1 ∧ w2 x.2.2) := by
  intro base sp held n cs y h
  obtain ⟨y0, y1, y2, m, _, hl, g0, g1, g2⟩ := trod_struct3 ht h
  obtain ⟨a, ha, hc⟩ := d0 _ _ _ _ _ _ g0
  obtain ⟨b, hb, hd⟩ := d1 _ _ _ _ _ _ g1
  obtain ⟨c, hc', he⟩ := d2 _ _ _ _ _ _ g2
  rw [o0, h0, List.drop_zero] at hc
  rw [o1, h1] at hd
  rw [o2, h2, List.take_of_length_le (by rw [List.length_drop]; omega), ← List.drop_drop] at he
  refine ⟨(a, b, c), ⟨ha, hb, hc'⟩, ?_⟩
  have := hc.append (hd.append he)
  rwa [List.take_append_drop, List.take_append_drop] at this
end
end Go.Vc

/-
  DERIVED. What is read of a struct of four to seven fields stands for what its fields stand for.
-/
namespace Go.Vc
open Go.RowKit Go.WideShapes Go.ChangeShapes Go.Deep
set_option linter.unusedVariables false
section
variable {H : Type} {enc : TypeId × Value → H} {P : Program} {w : World}
theorem take_drop_join (cs : List Value) (a b : Nat) : (cs.drop a).take b ++ cs.drop (a + b) = cs.drop a := by
  rw [← List.drop_drop, List.take_append_drop]
theorem Dec.struct4 {t : TypeId} {f0 f1 f2 f3 : Field} {k0 k1 k2 k3 : Nat} {α0 α1 α2 α3 : Type} {e0 : α0 → List SV} {w0 : α0 → Prop} {e1 : α1 → List SV} {w1 : α1 → Prop} {e2 : α2 → List SV} {w2 : α2 → Prop} {e3 : α3 → List SV} {w3 : α3 → Prop} (ht : P.underlying t = some (.struct #[f0, f1, f2, f3])) (o0 : f0.offset = 0) (h0 : P.cellsOf f0.type = k0) (o1 : f1.offset = k0) (h1 : P.cellsOf f1.type = k1) (o2 : f2.offset = k0 + k1) (h2 : P.cellsOf f2.type = k2) (o3 : f3.offset = k0 + k1 + k2) (h3 : P.cellsOf f3.type = k3) (hC : P.cellsOf t = k0 + k1 + k2 + k3)
    (d0 : Dec H enc P w f0.type e0 w0) (d1 : Dec H enc P w f1.type e1 w1) (d2 : Dec H enc P w f2.type e2 w2) (d3 : Dec H enc P w f3.type e3 w3) : Dec H enc P w t (fun x : α0 × α1 × α2 × α3 => e0 x.1 ++ (e1 x.2.1 ++ (e2 x.2.2.1 ++ e3 x.2.2.2))) (fun x => w0 x.1 ∧ w1 x.2.1 ∧ w2 x.2.2.1 ∧ w3 x.2.2.2) := by
  intro base sp held n cs y h
  obtain ⟨xs, m, _, rfl, hl, hlen, hf⟩ := DataW.trod_struct ht h
  match xs, hlen with
  | [y0, y1, y2, y3], _ =>
    have g0 : DataW.trod enc P w base sp held m f0.type ((cs.drop f0.offset).take (P.cellsOf f0.type)) = some y0 := by simpa using hf 0 f0 rfl
    obtain ⟨a0, v0, c0⟩ := d0 _ _ _ _ _ _ g0
    rw [o0, h0] at c0
    have g1 : DataW.trod enc P w base sp held m f1.type ((cs.drop f1.offset).take (P.cellsOf f1.type)) = some y1 := by simpa using hf 1 f1 rfl
    obtain ⟨a1, v1, c1⟩ := d1 _ _ _ _ _ _ g1
    rw [o1, h1] at c1
    have g2 : DataW.trod enc P w base sp held m f2.type ((cs.drop f2.offset).take (P.cellsOf f2.type)) = some y2 := by simpa using hf 2 f2 rfl
    obtain ⟨a2, v2, c2⟩ := d2 _ _ _ _ _ _ g2
    rw [o2, h2] at c2
    have g3 : DataW.trod enc P w base sp held m f3.type ((cs.drop f3.offset).take (P.cellsOf f3.type)) = some y3 := by simpa using hf 3 f3 rfl
    obtain ⟨a3, v3, c3⟩ := d3 _ _ _ _ _ _ g3
    rw [o3, h3] at c3
    rw [List.take_of_length_le (by rw [List.length_drop]; omega)] at c3
    refine ⟨(a0, a1, a2, a3), ⟨v0, v1, v2, v3⟩, ?_⟩
    have := c0.append (c1.append (c2.append c3))
    rw [take_drop_join, take_drop_join, List.drop_zero, List.take_append_drop] at this
    exact this
theorem Dec.struct5 {t : TypeId} {f0 f1 f2 f3 f4 : Field} {k0 k1 k2 k3 k4 : Nat} {α0 α1 α2 α3 α4 : Type} {e0 : α0 → List SV} {w0 : α0 → Prop} {e1 : α1 → List SV} {w1 : α1 → Prop} {e2 : α2 → List SV} {w2 : α2 → Prop} {e3 : α3 → List SV} {w3 : α3 → Prop} {e4 : α4 → List SV} {w4 : α4 → Prop} (ht : P.underlying t = some (.struct #[f0, f1, f2, f3, f4])) (o0 : f0.offset = 0) (h0 : P.cellsOf f0.type = k0) (o1 : f1.offset = k0) (h1 : P.cellsOf f1.type = k1) (o2 : f2.offset = k0 + k1) (h2 : P.cellsOf f2.type = k2) (o3 : f3.offset = k0 + k1 + k2) (h3 : P.cellsOf f3.type = k3) (o4 : f4.offset = k0 + k1 + k2 + k3) (h4 : P.cellsOf f4.type = k4) (hC : P.cellsOf t = k0 + k1 + k2 + k3 + k4)
    (d0 : Dec H enc P w f0.type e0 w0) (d1 : Dec H enc P w f1.type e1 w1) (d2 : Dec H enc P w f2.type e2 w2) (d3 : Dec H enc P w f3.type e3 w3) (d4 : Dec H enc P w f4.type e4 w4) : Dec H enc P w t (fun x : α0 × α1 × α2 × α3 × α4 => e0 x.1 ++ (e1 x.2.1 ++ (e2 x.2.2.1 ++ (e3 x.2.2.2.1 ++ e4 x.2.2.2.2)))) (fun x => w0 x.1 ∧ w1 x.2.1 ∧ w2 x.2.2.1 ∧ w3 x.2.2.2.1 ∧ w4 x.2.2.2.2) := by
  intro base sp held n cs y h
  obtain ⟨xs, m, _, rfl, hl, hlen, hf⟩ := DataW.trod_struct ht h
  match xs, hlen with
  | [y0, y1, y2, y3, y4], _ =>
    have g0 : DataW.trod enc P w base sp held m f0.type ((cs.drop f0.offset).take (P.cellsOf f0.type)) = some y0 := by simpa using hf 0 f0 rfl
    obtain ⟨a0, v0, c0⟩ := d0 _ _ _ _ _ _ g0
    rw [o0, h0] at c0
    have g1 : DataW.trod enc P w base sp held m f1.type ((cs.drop f1.offset).take (P.cellsOf f1.type)) = some y1 := by simpa using hf 1 f1 rfl
    obtain ⟨a1, v1, c1⟩ := d1 _ _ _ _ _ _ g1
    rw [o1, h1] at c1
    have g2 : DataW.trod enc P w base sp held m f2.type ((cs.drop f2.offset).take (P.cellsOf f2.type)) = some y2 := by simpa using hf 2 f2 rfl
    obtain ⟨a2, v2, c2⟩ := d2 _ _ _ _ _ _ g2
    rw [o2, h2] at c2
    have g3 : DataW.trod enc P w base sp held m f3.type ((cs.drop f3.offset).take (P.cellsOf f3.type)) = some y3 := by simpa using hf 3 f3 rfl
    obtain ⟨a3, v3, c3⟩ := d3 _ _ _ _ _ _ g3
    rw [o3, h3] at c3
    have g4 : DataW.trod enc P w base sp held m f4.type ((cs.drop f4.offset).take (P.cellsOf f4.type)) = some y4 := by simpa using hf 4 f4 rfl
    obtain ⟨a4, v4, c4⟩ := d4 _ _ _ _ _ _ g4
    rw [o4, h4] at c4
    rw [List.take_of_length_le (by rw [List.length_drop]; omega)] at c4
    refine ⟨(a0, a1, a2, a3, a4), ⟨v0, v1, v2, v3, v4⟩, ?_⟩
    have := c0.append (c1.append (c2.append (c3.append c4)))
    rw [take_drop_join, take_drop_join, take_drop_join, List.drop_zero, List.take_append_drop] at this
    exact this
theorem Dec.struct6 {t : TypeId} {f0 f1 f2 f3 f4 f5 : Field} {k0 k1 k2 k3 k4 k5 : Nat} {α0 α1 α2 α3 α4 α5 : Type} {e0 : α0 → List SV} {w0 : α0 → Prop} {e1 : α1 → List SV} {w1 : α1 → Prop} {e2 : α2 → List SV} {w2 : α2 → Prop} {e3 : α3 → List SV} {w3 : α3 → Prop} {e4 : α4 → List SV} {w4 : α4 → Prop} {e5 : α5 → List SV} {w5 : α5 → Prop} (ht : P.underlying t = some (.struct #[f0, f1, f2, f3, f4, f5])) (o0 : f0.offset = 0) (h0 : P.cellsOf f0.type = k0) (o1 : f1.offset = k0) (h1 : P.cellsOf f1.type = k1) (o2 : f2.offset = k0 + k1) (h2 : P.cellsOf f2.type = k2) (o3 : f3.offset = k0 + k1 + k2) (h3 : P.cellsOf f3.type = k3) (o4 : f4.offset = k0 + k1 + k2 + k3) (h4 : P.cellsOf f4.type = k4) (o5 : f5.offset = k0 + k1 + k2 + k3 + k4) (h5 : P.cellsOf f5.type = k5) (hC : P.cellsOf t = k0 + k1 + k2 + k3 + k4 + k5)
    (d0 : Dec H enc P w f0.type e0 w0) (d1 : Dec H enc P w f1.type e1 w1) (d2 : Dec H enc P w f2.type e2 w2) (d3 : Dec H enc P w f3.type e3 w3) (d4 : Dec H enc P w f4.type e4 w4) (d5 : Dec H enc P w f5.type e5 w5) : Dec H enc P w t (fun x : α0 × α1 × α2 × α3 × α4 × α5 => e0 x.1 ++ (e1 x.2.1 ++ (e2 x.2.2.1 ++ (e3 x.2.2.2.1 ++ (e4 x.2.2.2.2.1 ++ e5 x.2.2.2.2.2))))) (fun x => w0 x.1 ∧ w1 x.2.1 ∧ w2 x.2.2.1 ∧ w3 x.2.2.2.1 ∧ w4 x.2.2.2.2.1 ∧ w5 x.2.2.2.2.2) := by
  intro base sp held n cs y h
  obtain ⟨xs, m, _, rfl, hl, hlen, hf⟩ := DataW.trod_struct ht h
  match xs, hlen with
  | [y0, y1, y2, y3, y4, y5], _ =>
    have g0 : DataW.trod enc P w base sp held m f0.type ((cs.drop f0.offset).take (P.cellsOf f0.type)) = some y0 := by simpa using hf 0 f0 rfl
    obtain ⟨a0, v0, c0⟩ := d0 _ _ _ _ _ _ g0
    rw [o0, h0] at c0
    have g1 : DataW.trod enc P w base sp held m f1.type ((cs.drop f1.offset).take (P.cellsOf f1.type)) = some y1 := by simpa using hf 1 f1 rfl
    obtain ⟨a1, v1, c1⟩ := d1 _ _ _ _ _ _ g1
    rw [o1, h1] at c1
    have g2 : DataW.trod enc P w base sp held m f2.type ((cs.drop f2.offset).take (P.cellsOf f2.type)) = some y2 := by simpa using hf 2 f2 rfl
    obtain ⟨a2, v2, c2⟩ := d2 _ _ _ _ _ _ g2
    rw [o2, h2] at c2
    have g3 : DataW.trod enc P w base sp held m f3.type ((cs.drop f3.offset).take (P.cellsOf f3.type)) = some y3 := by simpa using hf 3 f3 rfl
    obtain ⟨a3, v3, c3⟩ := d3 _ _ _ _ _ _ g3
    rw [o3, h3] at c3
    have g4 : DataW.trod enc P w base sp held m f4.type ((cs.drop f4.offset).take (P.cellsOf f4.type)) = some y4 := by simpa using hf 4 f4 rfl
    obtain ⟨a4, v4, c4⟩ := d4 _ _ _ _ _ _ g4
    rw [o4, h4] at c4
    have g5 : DataW.trod enc P w base sp held m f5.type ((cs.drop f5.offset).take (P.cellsOf f5.type)) = some y5 := by simpa using hf 5 f5 rfl
    obtain ⟨a5, v5, c5⟩ := d5 _ _ _ _ _ _ g5
    rw [o5, h5] at c5
    rw [List.take_of_length_le (by rw [List.length_drop]; omega)] at c5
    refine ⟨(a0, a1, a2, a3, a4, a5), ⟨v0, v1, v2, v3, v4, v5⟩, ?_⟩
    have := c0.append (c1.append (c2.append (c3.append (c4.append c5))))
    rw [take_drop_join, take_drop_join, take_drop_join, take_drop_join, List.drop_zero, List.take_append_drop] at this
    exact this
theorem Dec.struct7 {t : TypeId} {f0 f1 f2 f3 f4 f5 f6 : Field} {k0 k1 k2 k3 k4 k5 k6 : Nat} {α0 α1 α2 α3 α4 α5 α6 : Type} {e0 : α0 → List SV} {w0 : α0 → Prop} {e1 : α1 → List SV} {w1 : α1 → Prop} {e2 : α2 → List SV} {w2 : α2 → Prop} {e3 : α3 → List SV} {w3 : α3 → Prop} {e4 : α4 → List SV} {w4 : α4 → Prop} {e5 : α5 → List SV} {w5 : α5 → Prop} {e6 : α6 → List SV} {w6 : α6 → Prop} (ht : P.underlying t = some (.struct #[f0, f1, f2, f3, f4, f5, f6])) (o0 : f0.offset = 0) (h0 : P.cellsOf f0.type = k0) (o1 : f1.offset = k0) (h1 : P.cellsOf f1.type = k1) (o2 : f2.offset = k0 + k1) (h2 : P.cellsOf f2.type = k2) (o3 : f3.offset = k0 + k1 + k2) (h3 : P.cellsOf f3.type = k3) (o4 : f4.offset = k0 + k1 + k2 + k3) (h4 : P.cellsOf f4.type = k4) (o5 : f5.offset = k0 + k1 + k2 + k3 + k4) (h5 : P.cellsOf f5.type = k5) (o6 : f6.offset = k0 + k1 + k2 + k3 + k4 + k5) (h6 : P.cellsOf f6.type = k6) (hC : P.cellsOf t = k0 + k1 + k2 + k3 + k4 + k5 + k6)
    (d0 : Dec H enc P w f0.type e0 w0) (d1 : Dec H enc P w f1.type e1 w1) (d2 : Dec H enc P w f2.type e2 w2) (d3 : Dec H enc P w f3.type e3 w3) (d4 : Dec H enc P w f4.type e4 w4) (d5 : Dec H enc P w f5.type e5 w5) (d6 : Dec H enc P w f6.type e6 w6) : Dec H enc P w t (fun x : α0 × α1 × α2 × α3 × α4 × α5 × α6 => e0 x.1 ++ (e1 x.2.1 ++ (e2 x.2.2.1 ++ (e3 x.2.2.2.1 ++ (e4 x.2.2.2.2.1 ++ (e5 x.2.2.2.2.2.1 ++ e6 x.2.2.2.2.2.2)))))) (fun x => w0 x.1 ∧ w1 x.2.1 ∧ w2 x.2.2.1 ∧ w3 x.2.2.2.1 ∧ w4 x.2.2.2.2.1 ∧ w5 x.2.2.2.2.2.1 ∧ w6 x.2.2.2.2.2.2) := by
  intro base sp held n cs y h
  obtain ⟨xs, m, _, rfl, hl, hlen, hf⟩ := DataW.trod_struct ht h
  match xs, hlen with
  | [y0, y1, y2, y3, y4, y5, y6], _ =>
    have g0 : DataW.trod enc P w base sp held m f0.type ((cs.drop f0.offset).take (P.cellsOf f0.type)) = some y0 := by simpa using hf 0 f0 rfl
    obtain ⟨a0, v0, c0⟩ := d0 _ _ _ _ _ _ g0
    rw [o0, h0] at c0
    have g1 : DataW.trod enc P w base sp held m f1.type ((cs.drop f1.offset).take (P.cellsOf f1.type)) = some y1 := by simpa using hf 1 f1 rfl
    obtain ⟨a1, v1, c1⟩ := d1 _ _ _ _ _ _ g1
    rw [o1, h1] at c1
    have g2 : DataW.trod enc P w base sp held m f2.type ((cs.drop f2.offset).take (P.cellsOf f2.type)) = some y2 := by simpa using hf 2 f2 rfl
    obtain ⟨a2, v2, c2⟩ := d2 _ _ _ _ _ _ g2
    rw [o2, h2] at c2
    have g3 : DataW.trod enc P w base sp held m f3.type ((cs.drop f3.offset).take (P.cellsOf f3.type)) = some y3 := by simpa using hf 3 f3 rfl
    obtain ⟨a3, v3, c3⟩ := d3 _ _ _ _ _ _ g3
    rw [o3, h3] at c3
    have g4 : DataW.trod enc P w base sp held m f4.type ((cs.drop f4.offset).take (P.cellsOf f4.type)) = some y4 := by simpa using hf 4 f4 rfl
    obtain ⟨a4, v4, c4⟩ := d4 _ _ _ _ _ _ g4
    rw [o4, h4] at c4
    have g5 : DataW.trod enc P w base sp held m f5.type ((cs.drop f5.offset).take (P.cellsOf f5.type)) = some y5 := by simpa using hf 5 f5 rfl
    obtain ⟨a5, v5, c5⟩ := d5 _ _ _ _ _ _ g5
    rw [o5, h5] at c5
    have g6 : DataW.trod enc P w base sp held m f6.type ((cs.drop f6.offset).take (P.cellsOf f6.type)) = some y6 := by simpa using hf 6 f6 rfl
    obtain ⟨a6, v6, c6⟩ := d6 _ _ _ _ _ _ g6
    rw [o6, h6] at c6
    rw [List.take_of_length_le (by rw [List.length_drop]; omega)] at c6
    refine ⟨(a0, a1, a2, a3, a4, a5, a6), ⟨v0, v1, v2, v3, v4, v5, v6⟩, ?_⟩
    have := c0.append (c1.append (c2.append (c3.append (c4.append (c5.append c6)))))
    rw [take_drop_join, take_drop_join, take_drop_join, take_drop_join, take_drop_join, List.drop_zero, List.take_append_drop] at this
    exact this
end
end Go.Vc

/-
  DERIVED. What is read of a line.
-/
namespace Go.Proofs.Ytdbjioanlkilkaa
open Go.Vc Go.ChangeShapes Go.WideShapes Go.ChangeAt Go.RowKit
set_option linter.unusedVariables false
section
variable {H : Type} {enc : TypeId × Value → H} {w : World}
theorem rowStrs : Dec H enc Try.prog w 74 (fun L : List ByteArray => [.sl 1 (L.map encS)]) (fun L => L.length ≤ maxLen ∧ ∀ s ∈ L, s.size ≤ maxLen) :=
  Dec.slice (s := 1) Try.underlying74 (by kernel_rfl) (by omega) (Dec.string Try.underlying9) (fun _ => rfl)
theorem rowToks : Dec H enc Try.prog w 95 (fun L : List Tok => [.sl 3 (L.map encTok)]) (fun L => L.length ≤ maxLen ∧ ∀ s ∈ L, s.name.size ≤ maxLen) :=
  (Dec.slice (s := 3) Try.underlying95 (by kernel_rfl) (by omega) rowTok (fun _ => rfl)).map (fun x : List Tok => x) (fun _ => rfl) (fun _ h => ⟨h.1, fun s hs => (h.2 s hs).2.2⟩)
theorem rowLine : Dec H enc Try.prog w 97 encLine bigLine :=
  (Dec.struct4 (k0 := 1) (k1 := 1) (k2 := 1) (k3 := 1) Try.underlying97 rfl (by kernel_rfl) rfl (by kernel_rfl) rfl (by kernel_rfl) rfl (by kernel_rfl) (by kernel_rfl) (Dec.int Try.underlying3) (Dec.string Try.underlying9) rowStrs rowToks).map
    (fun x : Int × ByteArray × List ByteArray × List Tok => (⟨x.1, x.2.1, x.2.2.1, x.2.2.2⟩ : Line)) (fun _ => rfl) (fun _ h => ⟨h.2.1, h.2.2.1.1, h.2.2.1.2, h.2.2.2.1, h.2.2.2.2⟩)
end
end Go.Proofs.Ytdbjioanlkilkaa

namespace Go.Proofs.Ytdbjioanlkilkaa
open Go.Vc
attribute [local go_sem] St.runR St.runW St.stepV offV St.step St.stepU St.stepG mkCond guardB St.prK St.pr St.prLen St.eff St.callE St.callD St.callF St.callL aI aB aS aR aC St.isM St.argL Ctr.pure Ctr.lend Ctr.move Ctr.isL Ctr.wri pur len lentBy St.lentV St.lent1 nthS argsR restOf obsR pairs swapL unObs backL St.resL erL SV.ren1 SV.up SV.up2 Ob.up St.fzL cellIds partIds St.intoRow SV.ownId St.fz SV.fz1 St.prep St.mvL St.mv SV.re1 rnOk St.prEq vals eqCells scEq Value.kd St.prStr St.prCut cutR St.bnd St.prMin St.bld isShift outL retL outJ oR oC oE oD SV.upq SV.isSl SV.shut St.ev St.get St.put St.new St.kill SV.kill SV.kill1 Ob.kill St.app St.wrt St.rowsOf St.res St.killL lk er argsL SV.strip SV.need SV.share SV.share1 SV.owns SV.owns1 SV.owns2 SV.good SV.good1 SV.rok SV.rok1 SV.rok2 SV.isV SV.isV2 nodupN SV.cells SV.one SV.pur Ob.pb partsIn rowsIn splice cellsAt dstOk scal2 scal1 thenK blockK retK outK outs okC okL okA okT nilC nilL nilA nilT keepC keepL keepA keepT St.runG St.dltK St.least St.clean St.final St.hide offK badS badO SV.refs SV.leaf SV.leaf2 Ob.refs dlOk fpAt Go.Vc.cover tups SV.ofAgg St.out outC subL St.has rng wr Value.oneCell' Option.isSome_some Option.isSome_none List.nil_append Bool.false_eq_true List.map_cons List.map_nil List.all_cons List.all_nil List.length_cons List.length_nil List.drop_zero List.drop_succ_cons List.take_succ_cons List.take_zero List.drop_nil List.take_nil List.getElem?_cons_zero List.getElem?_cons_succ List.getElem?_nil List.cons_append List.nil_append List.append_nil List.append_assoc List.flatMap_cons List.flatMap_nil List.contains_cons List.contains_nil List.set_cons_zero List.set_cons_succ List.getElem?_toArray Option.getD_some Option.getD_none Option.map_some Option.map_none Option.bind_some Option.some.injEq Prod.mk.injEq if_true if_false true_and and_true and_self and_false false_and Bool.and_false Bool.false_and Bool.or_true Bool.true_or Bool.or_false Bool.false_or ne_eq not_true_eq_false not_false_eq_true decide_true decide_false List.mem_cons List.not_mem_nil List.filter_cons List.filter_nil List.any_cons List.any_nil List.isEmpty_nil List.isEmpty_cons Option.getD_none or_false false_or true_or or_true forall_eq_or_imp forall_eq reduceCtorEq exists_eq exists_eq' exists_eq_left' exists_eq_left exists_eq_right exists_eq_right' imp_self implies_true Bool.and_true Bool.true_and Bool.and_self beq_self_eq_true List.replicate_succ List.replicate_zero forall_const false_implies pickB_or pickB_and beqT beqF Int.toNat_natCast List.length_map List.length_replicate ge_iff_le gt_iff_lt decide_eq_true_eq decide_eq_false_iff_not Bool.and_eq_true Bool.or_eq_true Bool.not_eq_true' Bool.not_eq_false' condG List.toList_toArray Bool.or_eq_false_iff Bool.and_eq_false_iff Int.not_lt Int.not_le beq_iff_eq beq_eq_false_iff_ne bne_iff_ne bne_eq_false_iff_eq ne_eq Bool.not_true Bool.not_false exists_and_left
section
open Go.Vc
set_option linter.unusedSimpArgs false
set_option linter.unusedVariables false
set_option maxHeartbeats 1000000
set_option maxRecDepth 10000
attribute [local irreducible] Go.Vc.WP
attribute [local go_sem] cx0_t cx0_c
attribute [local go_sem] isV_Node isV_It decNode_enc decFrame_enc oneFrame_enc stkA oneFrame_ab oneNode_abc decI_enc prA decFS_enc
theorem wgGo_len : ∀ (S : List (List Frame)) (W : List Int) (p q : Pr), wgGo S W p = some q → (∀ F ∈ S, F.length ≤ 1048576) → q.1.length ≤ max p.1.length p.2.length + 1048576 * S.length ∧ q.2.length ≤ max p.1.length p.2.length + 1048576 * S.length
  | [], W, p, q, h, _ => by
    unfold wgGo at h
    cases h
    simp only [List.length_nil]
    omega
  | F :: S, [], p, q, h, _ => by
    unfold wgGo at h
    cases h
    omega
  | F :: S, c :: W, p, q, h, hF => by
    rw [wgGo] at h
    split at h
    · have h1 := hF F List.mem_cons_self
      have h2 := addStack_len p.1 p.2 F c
      have h3 := wgGo_len S W _ q h fun G hG => hF G (List.mem_cons_of_mem _ hG)
      simp only [List.length_cons, Nat.mul_add]
      omega
    · cases h
theorem weigh_len {S : List (List Frame)} {W : List Int} (hS : S.length ≤ 1048576) (hF : ∀ F ∈ S, F.length ≤ 1048576) : ((weigh S W).getD ([], [])).1.length ≤ 1099511627776 ∧ ((weigh S W).getD ([], [])).2.length ≤ 1099511627776 := by
  unfold weigh
  split
  · cases h : wgGo S W ([], []) with
    | none => simp
    | some q =>
      have := wgGo_len S W _ q h hF
      have h2 : 1048576 * S.length ≤ 1048576 * 1048576 := Nat.mul_le_mul_left _ hS
      simp only [Option.getD_some, List.length_nil] at this ⊢
      omega
  · simp
theorem szvFSS_ok {L : List (List Frame)} (h : 0 ≤ szvFSS L 1048576) : L.length ≤ 1048576 ∧ ∀ x ∈ L, x.length ≤ 1048576 ∧ ∀ f ∈ x, f.name.size ≤ 1048576 := by
  obtain ⟨a, b⟩ := szList_ok (by simp only [List.mem_map]; rintro _ ⟨x, _, rfl⟩; exact szvFrame_f x) h
  rw [List.length_map] at a
  refine ⟨by omega, fun x hx => ?_⟩
  obtain ⟨r, r0, r1, r2⟩ := b _ (List.mem_map.2 ⟨x, hx, rfl⟩)
  obtain ⟨p, q⟩ := szvFrame_ok' r2
  exact ⟨by omega, fun f hf => by have := q f hf; omega⟩
section
attribute [local irreducible] bigFS
noncomputable def cxWgL : Cx := { P := Try.prog, tys := tys, C := [(26, kszFSS), (28, ktoFSS), (10, k15), (27, kWg), (29, kWg), (30, keqPr), (14, k17), (31, kqFSS), (32, kmarkFSS), (16, k18), (33, kmarkPr), (34, kheldPr)], hty := tysOk, hC := COk.cons cszFSS (COk.cons ctoFSS (COk.cons c15 (COk.cons cWgS (COk.cons cWgI (COk.cons ceqPr (COk.cons c17 (COk.cons cqFSS (COk.cons cmarkFSS (COk.cons c18 (COk.cons cmarkPr (COk.cons cheldPr (COk.nil _)))))))))))) }
theorem cxWgL_t : cxWgL.tys = tys := rfl
theorem cxWgL_c : cxWgL.C = [(26, kszFSS), (28, ktoFSS), (10, k15), (27, kWg), (29, kWg), (30, keqPr), (14, k17), (31, kqFSS), (32, kmarkFSS), (16, k18), (33, kmarkPr), (34, kheldPr)] := rfl
attribute [local go_sem] cxWgL_t cxWgL_c kszFSS ktoFSS k15 kWg keqPr k17 kqFSS kmarkFSS k18 kmarkPr kheldPr
set_option maxHeartbeats 4000000 in
theorem lawWeighStacks (S : List (List Frame)) (W : List Int) (hL : S.length ≤ maxLen ∧ ∀ x ∈ S, bigFS x) (hV : W.length ≤ maxLen) : Holds Try.prog 5 [.sl 1 (S.map encFS), .sl 1 (W.map encI)] (.v (.bool true)) [] := by
  refine Holds.go (c := cxWgL) Try.func5 rfl Try.results5 Try.ntmps5 (by omega) (by simp) rfl ?_
  intro X0 w0
  have hm : maxLen = 9223372036854775807 := rfl
  obtain ⟨hL, hs⟩ := hL
  have key := @szvFSS_ok S
  generalize hz : szvFSS S 1048576 = z at key
  by_cases h5 : z < 0
  · (repeat' (first | refine WP.seq ?_ | refine WP.block ?_ | ((first | refine WP.region ?_ | refine WP.condW ?_ | refine WP.ret ?_ | refine WP.exit ?_ | refine WP.skip ?_); simp only [go_sem, hz, h5, tyAll, Nat.reduceAdd, Nat.reduceLT, Nat.reduceLeDiff, Nat.reduceEqDiff, Nat.reduceMul, Nat.reduceSub, Nat.reduceGT, reduceIte, Int.reduceNeg, Int.reduceToNat]) |  refine And.intro ?_ ?_ | intro _))
    all_goals first | omega | exact hs _ ‹_› | skip
    all_goals trace_state
  · obtain ⟨k1, k2⟩ := key (by omega)
    have k3 : ∀ x ∈ S, x.length ≤ 1048576 := fun x hx => (k2 x hx).1
    have hcnt := cntFS_le k1 k3
    obtain ⟨p1, p2⟩ := weigh_len (W := W) k1 k3
    generalize hP : (weigh S W).getD ([], []) = P at p1 p2
    generalize hB : (weigh S W).isSome = B
    have hpre : preWg (S, W) := ⟨k1, k2⟩
    have m1 := marksNode_len 1 P.1.length
    have m2 := marksI_len (1 + 3 * P.1.length) P.2.length
    (repeat' (first | refine WP.seq ?_ | refine WP.block ?_ | ((first | refine WP.region ?_ | refine WP.condW ?_ | refine WP.ret ?_ | refine WP.exit ?_ | refine WP.skip ?_); simp only [go_sem, hz, h5, hP, hB, m1, m2, tyAll, Nat.reduceAdd, Nat.reduceLT, Nat.reduceLeDiff, Nat.reduceEqDiff, Nat.reduceMul, Nat.reduceSub, Nat.reduceGT, reduceIte, Int.reduceNeg, Int.reduceToNat]) |  refine And.intro ?_ ?_ | intro _))
    all_goals first | omega | exact hs _ ‹_› | exact k3 _ ‹_› | exact (k2 _ ‹_›).2 _ ‹_› | exact ⟨_, _, _, rfl⟩ | exact hpre | exact ⟨_, _, rfl, _, _, rfl, rfl⟩ | skip
    all_goals trace_state
end
section
open Go.ChangeShapes Go.WideShapes Go.ChangeAt Go.RowKit
variable {H : Type} {enc : TypeId × Value → H} {w : World}
theorem rowFS : Dec H enc Try.prog w 127 encFS bigFS :=
  (Dec.slice (s := 2) Try.underlying127 (by kernel_rfl) (by omega) rowFrame (fun _ => rfl)).map (fun x : List Frame => x) (fun _ => rfl) (fun _ h => ⟨h.1, fun f hf => (h.2 f hf).1⟩)
end
end
end Go.Proofs.Ytdbjioanlkilkaa
