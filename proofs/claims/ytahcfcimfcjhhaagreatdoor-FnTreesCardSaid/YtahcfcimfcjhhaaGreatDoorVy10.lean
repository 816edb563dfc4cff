/-
  DERIVED. Several texts of ours in one: VtMark, VtTreeC, VtTreeOk, VtTotal, VtDTree, VcDel, VpTree5, VpComp, VsLayC, VtSortC, VtGrow, VtTreeI.
-/
import Derived.Test.YtahcfcimfcjhhaaGreatDoorVx0
import Derived.Test.YtahcfcimfcjhhaaGreatDoorVx1
import Derived.Test.YtahcfcimfcjhhaaGreatDoorVx2
import Derived.Test.YtahcfcimfcjhhaaGreatDoorVx3
import Derived.Test.YtahcfcimfcjhhaaGreatDoorVx4
import Derived.Test.YtahcfcimfcjhhaaGreatDoorVx5
import Derived.Test.YtahcfcimfcjhhaaGreatDoorVx6
import Derived.Test.YtahcfcimfcjhhaaGreatDoorVx7
import Derived.Test.YtahcfcimfcjhhaaGreatDoorVx8
import Derived.Test.YtahcfcimfcjhhaaGreatDoorVy9
import Derived.Lib.SlicesCompact
import Derived.Lib.RowBridge
import Derived.Shelf.Sort.Plain
import Derived.Shelf.Slices.CompactS
import Derived.Test.YtahcfcimfcjhhaaGreatDoorProg
import Derived.Shelf.Slices.In.SortNone
set_option linter.unusedSimpArgs false
set_option linter.unusedVariables false
namespace Go.Proofs.YtahcfcimfcjhhaaGreatDoor
open Go.Vc
attribute [local go_sem] St.runR St.runW St.stepV offV St.step St.stepU St.stepG mkCond guardB St.prK St.pr St.prLen St.eff St.callE St.callD St.callF St.callL aI aB aS aR aC St.isM St.argL Ctr.pure Ctr.lend Ctr.move Ctr.isL Ctr.wri pur len lentBy St.lentV St.lent1 nthS argsR restOf obsR pairs swapL unObs backL St.resL erL SV.ren1 SV.up SV.up2 Ob.up St.fzL cellIds partIds St.intoRow SV.ownId St.fz SV.fz1 St.prep St.mvL St.mv SV.re1 rnOk St.prEq vals eqCells scEq Value.kd St.prStr St.prCut cutR St.bnd St.prMin St.bld isShift outL retL outJ oR oC St.ev St.get St.put St.new St.kill SV.kill SV.kill1 Ob.kill St.app St.wrt St.rowsOf St.res St.killL lk er argsL SV.strip SV.need SV.share SV.share1 SV.owns SV.owns1 SV.owns2 SV.good SV.good1 SV.rok SV.rok1 SV.rok2 SV.isV SV.isV2 nodupN SV.cells SV.one SV.pur Ob.pb partsIn rowsIn splice cellsAt dstOk scal2 scal1 thenK blockK retK outK outs okC okL okA okT nilC nilL nilA nilT keepC keepL keepA keepT St.runG St.dltK St.least St.clean St.final St.hide offK badS badO SV.refs SV.leaf SV.leaf2 Ob.refs dlOk fpAt Go.Vc.cover tups SV.ofAgg St.out outC subL St.has rng wr Value.oneCell' Option.isSome_some Option.isSome_none List.nil_append Bool.false_eq_true List.map_cons List.map_nil List.all_cons List.all_nil List.length_cons List.length_nil List.drop_zero List.drop_succ_cons List.take_succ_cons List.take_zero List.drop_nil List.take_nil List.getElem?_cons_zero List.getElem?_cons_succ List.getElem?_nil List.cons_append List.nil_append List.append_nil List.append_assoc List.flatMap_cons List.flatMap_nil List.contains_cons List.contains_nil List.set_cons_zero List.set_cons_succ List.getElem?_toArray Option.getD_some Option.getD_none Option.map_some Option.map_none Option.bind_some Option.some.injEq Prod.mk.injEq if_true if_false true_and and_true and_self and_false false_and Bool.and_false Bool.false_and Bool.or_true Bool.true_or Bool.or_false Bool.false_or ne_eq not_true_eq_false not_false_eq_true decide_true decide_false List.mem_cons List.not_mem_nil List.filter_cons List.filter_nil List.any_cons List.any_nil List.isEmpty_nil List.isEmpty_cons Option.getD_none or_false false_or true_or or_true forall_eq_or_imp forall_eq reduceCtorEq exists_eq exists_eq' exists_eq_left' exists_eq_left exists_eq_right exists_eq_right' imp_self implies_true Bool.and_true Bool.true_and Bool.and_self beq_self_eq_true List.replicate_succ List.replicate_zero forall_const false_implies pickB_or pickB_and beqT beqF Int.toNat_natCast List.length_map List.length_replicate ge_iff_le gt_iff_lt decide_eq_true_eq decide_eq_false_iff_not Bool.and_eq_true Bool.or_eq_true Bool.not_eq_true' Bool.not_eq_false' condG List.toList_toArray Bool.or_eq_false_iff Bool.and_eq_false_iff Int.not_lt Int.not_le beq_iff_eq beq_eq_false_iff_ne bne_iff_ne bne_eq_false_iff_eq ne_eq Bool.not_true Bool.not_false exists_and_left
section
open Go.Vc
set_option linter.unusedSimpArgs false
set_option linter.unusedVariables false
set_option maxHeartbeats 1000000
set_option maxRecDepth 10000
attribute [local irreducible] Go.Vc.WP
attribute [local go_sem] cx0_t cx0_c
def keqS : Ctr := pur (fun args => (decS (aR args 0), decS (aR args 1))) (fun x => [.sl 1 (x.1.map encS), .sl 1 (x.2.map encS)]) (fun x => x.1.length ≤ 4398046511104) (fun _ x => .v (.bool (decide (x.1 = x.2)))) (fun _ _ => [])
def marksS (k : Int) (n : Nat) : List ByteArray := (List.range n).map fun i : Nat => markT (k + (i : Int))
theorem marksS_len (k : Int) (n : Nat) : (marksS k n).length = n := by simp [marksS]
def halfS (L : List ByteArray) (k0 : Int) (k : Nat) : List ByteArray := marksS k0 k ++ L.drop k
theorem halfS_len (L : List ByteArray) (k0 : Int) (k : Nat) (h : k ≤ L.length) : (halfS L k0 k).length = L.length := by simp [halfS, marksS_len]; omega
theorem halfS_set (L : List ByteArray) (k0 : Int) (k : Nat) (h : k < L.length) : ((halfS L k0 k).map encS).set k (encS (markT (k0 + k))) = (halfS L k0 (k + 1)).map encS := by
  rw [← List.map_set]
  congr 1
  unfold halfS
  rw [List.set_append, if_neg (by simp [marksS_len]), marksS_len, Nat.sub_self, List.drop_eq_getElem_cons h, List.set_cons_zero]
  simp [marksS, List.range_succ]
def kmarkS : Ctr := len [0] [] (fun args obs => (decS (oR obs 1000000), aI args 1)) (fun x => [.own 1000000, .v (.int .i64 x.2)]) (fun x => [(1000000, .sl 9 1 (x.1.map encS))]) (fun x => x.1.length ≤ 4398046511104 ∧ 0 ≤ x.2 ∧ x.2 ≤ 500000000000000)
  (fun _ x => .v (.int .i64 (x.2 + x.1.length))) (fun _ _ => []) (fun x => [(1000000, .sl 9 1 ((marksS x.2 x.1.length).map encS))])
section
noncomputable def cxMs : Cx := { P := Tryz.prog, tys := tys, C := [(59, kmarkT)], hty := tysOk, hC := COk.cons cmarkT (COk.nil _) }
theorem cxMs_t : cxMs.tys = tys := rfl
theorem cxMs_c : cxMs.C = [(59, kmarkT)] := rfl
attribute [local go_sem] cxMs_t cxMs_c kmarkT
def kheldS : Ctr := pur (fun args => (decS (aR args 0), aI args 1)) (fun x => [.sl 1 (x.1.map encS), .v (.int .i64 x.2)]) (fun x => x.1.length ≤ 4398046511104 ∧ 0 ≤ x.2 ∧ x.2 ≤ 500000000000000)
  (fun _ x => .v (.int .i64 (if x.1 = marksS x.2 x.1.length then x.2 + x.1.length else -1))) (fun _ _ => [])
end
end
section
open Go.Vc
set_option linter.unusedSimpArgs false
set_option linter.unusedVariables false
set_option maxHeartbeats 1000000
set_option maxRecDepth 10000
attribute [local irreducible] Go.Vc.WP
attribute [local go_sem] cx0_t cx0_c
open Go.Pl
/-- a list of texts as a cell -/
def encSS (l : List ByteArray) : List SV := [.sl 1 (l.map encS)]
def oneSS : List SV → List ByteArray
  | [.sl _ rows] => decS rows
  | _ => []
def decSS (rows : List (List SV)) : List (List ByteArray) := rows.map oneSS
theorem decSS_enc (L : List (List ByteArray)) : decSS (L.map encSS) = L := by
  unfold decSS
  rw [List.map_map]
  conv => rhs; rw [← List.map_id L]
  apply List.map_congr_left
  intro x _
  exact decS_enc x
theorem rlS1 {L : List ByteArray} {row : List SV} (h : row ∈ L.map encS) : row.length = 1 := by
  obtain ⟨x, _, rfl⟩ := List.mem_map.1 h; rfl
theorem sumC_zip : ∀ {A : List (List ByteArray)} {B : List Int}, A.length = B.length → sumC (A.zip B) = B.sum
  | [], [], _ => rfl
  | a :: A, b :: B, h => by
    have := sumC_zip (A := A) (B := B) (by simpa using h)
    rw [List.zip_cons_cons, sumC_cons, this, List.sum_cons]
def ncP (N : List Node) (C : List Int) : List NC := (entriesOf N C).map fun e => (namesE e, e.count)
def treeOf (N : List Node) (C : List Int) : List TreeNode := growP N.length [] (-1) 0 (ncP N C)
def preT (x : List Node × List Int) : Prop := (x.1.length ≤ 1048576 ∧ ∀ n ∈ x.1, n.name.size ≤ 1048576) ∧ x.2.length ≤ 1048576
def kTree : Ctr := pur (fun args => prA args 0) (fun x => [.agg [.sl 3 (x.1.map encNode), .sl 1 (x.2.map encI)]]) preT (fun d _ => .own d) (fun d x => [(d, .sl 49 4 ((treeOf x.1 x.2).map encTreeNode))])
theorem ncP_zip (E : List Entry) : (E.map namesE).zip (E.map (·.count)) = E.map fun e => (namesE e, e.count) := by
  induction E with
  | nil => rfl
  | cons e E ih => rw [List.map_cons, List.map_cons, List.zip_cons_cons, ih, List.map_cons]
theorem sum_le_mul {A : List Nat} {m : Nat} (h : ∀ x ∈ A, x ≤ m) : A.sum ≤ m * A.length := by
  induction A with
  | nil => simp
  | cons a A ih =>
    have h1 := h a List.mem_cons_self
    have h2 := ih fun x hx => h x (List.mem_cons_of_mem _ hx)
    rw [List.sum_cons, List.length_cons, Nat.mul_succ]; omega
end
section
open Go.Vc
set_option linter.unusedSimpArgs false
set_option linter.unusedVariables false
set_option maxHeartbeats 1000000
set_option maxRecDepth 10000
attribute [local irreducible] Go.Vc.WP
attribute [local go_sem] cx0_t cx0_c k60 kNameOk
noncomputable def cxTk : Cx := { P := Tryz.prog, tys := tys, C := [(44, k60), (30, k60), (105, kNameOk), (46, kNameOk)], hty := tysOk, hC := COk.cons c60 (COk.cons c58 (COk.cons cNameOkS (COk.cons cNameOkI (COk.nil _)))) }
theorem cxTk_t : cxTk.tys = tys := rfl
theorem cxTk_c : cxTk.C = [(44, k60), (30, k60), (105, kNameOk), (46, kNameOk)] := rfl
attribute [local go_sem] cxTk_t cxTk_c

def kTreeOk : Ctr := pur (fun args => decTreeNode (aR args 0)) (fun L => [.sl 4 (L.map encTreeNode)]) (fun L => L.length ≤ 1048576 ∧ ∀ x ∈ L, x.name.size ≤ 1048576) (fun _ L => .v (.bool (treeOk L))) (fun _ _ => [])
theorem cTreeOkI : Cn Tryz.prog 18 kTreeOk := by
  refine Cn.pur Tryz.func18 (by kernel_rfl) rfl fun d L hL => ?_
  obtain ⟨hL, hs⟩ := hL
  refine Holds.go (c := cxTk) Tryz.func18 rfl Tryz.results18 Tryz.ntmps18 (by omega) (by simp) rfl ?_
  intro X0 w0
  (repeat' (first | refine WP.seq ?_ | refine WP.block ?_ | ((first | refine WP.region ?_ | refine WP.condW ?_ | refine WP.ret ?_ | refine WP.exit ?_ | refine WP.skip ?_); simp only [go_sem, tyAll, Nat.reduceAdd, Nat.reduceLT, Nat.reduceLeDiff, Nat.reduceEqDiff, Nat.reduceMul, Nat.reduceSub, Nat.reduceGT, reduceIte, Int.reduceNeg, Int.reduceToNat]) |  refine And.intro ?_ ?_ | intro _))
  all_goals first | omega | skip
  refine WP.loop (fun k : Nat => ⟨[(0, .sl 4 (L.map encTreeNode)), (3, .own 10), (11, .sl 4 (L.map encTreeNode)), (12, .v (.int .i64 L.length)), (13, .v (.int .i64 k))], [(10, .sl 3 1 ((sumsAt L k).map encI))]⟩) (fun k => k ≤ L.length ∧ ∀ j (h : j < L.length), j < k → nodeOk j L[j] = true) (fun k => L.length - k) 0 (by simp) ?_ ?_
  · rw [sumsAt_zero]
    simp only [go_sem, tyAll, Nat.reduceAdd, Nat.reduceLT, Nat.reduceLeDiff, Nat.reduceEqDiff, Nat.reduceMul, Nat.reduceSub, Nat.reduceGT, reduceIte, Int.reduceNeg, Int.reduceToNat]
    refine ⟨rfl, ?_⟩
    rw [List.map_replicate]; rfl
  intro k ⟨hk, hf⟩
  by_cases hlt : k < L.length
  · have h1 := rowAt_map encTreeNode L k hlt
    have h2 := hs _ (List.getElem_mem hlt)
    have h4 := sumsAt_len L k
    have h5 := rowAt_map encI (sumsAt L k) k (by omega)
    have h6 : ((sumsAt L k).map encI).set k [.v (.int .i64 ((sumsAt L k)[k] + L[k].self))] = (sumsMid L k).map encI := by
      rw [← sumsMid_set L k hlt, List.map_set]; rfl
    have h7 := sumsMid_len L k
    have hb0 := below_bound (L := L) (k : Int) k hk hf
    have hv : (sumsAt L k)[k] = below L k k := by simp [sumsAt]
    rw [hv] at h6
    rcases Int.lt_or_le L[k].parent 0 with hneg | hpos
    · have h8 := sumsMid_root L k hlt hneg
      (repeat' (first | refine WP.seq ?_ | refine WP.block ?_ | ((first | refine WP.region ?_ | refine WP.condW ?_ | refine WP.ret ?_ | refine WP.exit ?_ | refine WP.skip ?_); simp only [go_sem, h1, h4, h5, h6, h7, hv, encTreeNode, encI, tyAll, Nat.reduceAdd, Nat.reduceLT, Nat.reduceLeDiff, Nat.reduceEqDiff, Nat.reduceMul, Nat.reduceSub, Nat.reduceGT, reduceIte, Int.reduceNeg, Int.reduceToNat]) | (refine WP.drawW 8 (by kernel_rfl) (by kernel_rfl) ?_; simp only [go_sem, h1, h4, h5, h6, h7, hv, encTreeNode, encI, tyAll, Nat.reduceAdd, Nat.reduceLT, Nat.reduceLeDiff, Nat.reduceEqDiff, Nat.reduceMul, Nat.reduceSub, Nat.reduceGT, reduceIte, Int.reduceNeg, Int.reduceToNat]) | (refine WP.drawW 9 (by kernel_rfl) (by kernel_rfl) ?_; simp only [go_sem, h1, h4, h5, h6, h7, hv, encTreeNode, encI, tyAll, Nat.reduceAdd, Nat.reduceLT, Nat.reduceLeDiff, Nat.reduceEqDiff, Nat.reduceMul, Nat.reduceSub, Nat.reduceGT, reduceIte, Int.reduceNeg, Int.reduceToNat]) |  refine And.intro ?_ ?_ | intro _))
      all_goals first | omega | skip
      · rename_i hb
        rw [treeOk_node hlt (by
          rw [Bool.eq_false_iff]
          intro hc
          have := nodeOk_iff.1 hc
          rcases hb with ((h | h) | h) | h
          · omega
          · rw [this.2.2.1] at h; cases h
          · omega
          · omega)]
      · rename_i hb _
        refine ⟨k + 1, ⟨by omega, fun j hj hjk => ?_⟩, by omega, rfl, ?_⟩
        · rcases Nat.lt_or_ge j k with h | h
          · exact hf j hj h
          · have : j = k := by omega
            subst this
            exact nodeOk_iff.2 ⟨by omega, by omega, hb.1.1.2, by omega, by omega, by omega, by omega⟩
        · rw [h8]
    · obtain ⟨q, hq⟩ := Int.eq_ofNat_of_zero_le hpos
      by_cases hqk : q < k
      · have h9 := rowAt_map encI (sumsMid L k) q (by omega)
        have hbq := below_bound (L := L) (q : Int) k hk hf
        have hnq := nodeOk_iff.1 (hf q (by omega) hqk)
        have hvq : (sumsMid L k)[q]'(by omega) = L[q].self + below L q k := by simp [sumsMid, show q < L.length by omega, show q < k + 1 by omega]
        have h8 := sumsMid_child L k q hlt (by omega) hq
        have h10 : ((sumsMid L k).map encI).set q [.v (.int .i64 ((sumsMid L k)[q]'(by omega) + L[k].total))] = (sumsAt L (k + 1)).map encI := by
          rw [← h8, List.map_set]; rfl
        rw [hvq] at h10
        (repeat' (first | refine WP.seq ?_ | refine WP.block ?_ | ((first | refine WP.region ?_ | refine WP.condW ?_ | refine WP.ret ?_ | refine WP.exit ?_ | refine WP.skip ?_); simp only [go_sem, h1, h4, h5, h6, h7, hv, hq, h9, hvq, h10, encTreeNode, encI, tyAll, Nat.reduceAdd, Nat.reduceLT, Nat.reduceLeDiff, Nat.reduceEqDiff, Nat.reduceMul, Nat.reduceSub, Nat.reduceGT, reduceIte, Int.reduceNeg, Int.reduceToNat]) | (refine WP.drawW 8 (by kernel_rfl) (by kernel_rfl) ?_; simp only [go_sem, h1, h4, h5, h6, h7, hv, hq, h9, hvq, h10, encTreeNode, encI, tyAll, Nat.reduceAdd, Nat.reduceLT, Nat.reduceLeDiff, Nat.reduceEqDiff, Nat.reduceMul, Nat.reduceSub, Nat.reduceGT, reduceIte, Int.reduceNeg, Int.reduceToNat]) | (refine WP.drawW 9 (by kernel_rfl) (by kernel_rfl) ?_; simp only [go_sem, h1, h4, h5, h6, h7, hv, hq, h9, hvq, h10, encTreeNode, encI, tyAll, Nat.reduceAdd, Nat.reduceLT, Nat.reduceLeDiff, Nat.reduceEqDiff, Nat.reduceMul, Nat.reduceSub, Nat.reduceGT, reduceIte, Int.reduceNeg, Int.reduceToNat]) |  refine And.intro ?_ ?_ | intro _))
        all_goals first | omega | skip
        · rename_i hb
          rw [treeOk_node hlt (by
            rw [Bool.eq_false_iff]
            intro hc
            have := nodeOk_iff.1 hc
            rcases hb with ((h | h) | h) | h
            · omega
            · rw [this.2.2.1] at h; cases h
            · omega
            · omega)]
        · rename_i hb _
          refine ⟨k + 1, ⟨by omega, fun j hj hjk => ?_⟩, by omega, rfl, rfl⟩
          rcases Nat.lt_or_ge j k with h | h
          · exact hf j hj h
          · have : j = k := by omega
            subst this
            exact nodeOk_iff.2 ⟨by omega, by omega, hb.1.1.2, by omega, by omega, by omega, by omega⟩
      · (repeat' (first | refine WP.seq ?_ | refine WP.block ?_ | ((first | refine WP.region ?_ | refine WP.condW ?_ | refine WP.ret ?_ | refine WP.exit ?_ | refine WP.skip ?_); simp only [go_sem, h1, h4, h5, h6, h7, hv, encTreeNode, encI, tyAll, Nat.reduceAdd, Nat.reduceLT, Nat.reduceLeDiff, Nat.reduceEqDiff, Nat.reduceMul, Nat.reduceSub, Nat.reduceGT, reduceIte, Int.reduceNeg, Int.reduceToNat]) | (refine WP.drawW 8 (by kernel_rfl) (by kernel_rfl) ?_; simp only [go_sem, h1, h4, h5, h6, h7, hv, encTreeNode, encI, tyAll, Nat.reduceAdd, Nat.reduceLT, Nat.reduceLeDiff, Nat.reduceEqDiff, Nat.reduceMul, Nat.reduceSub, Nat.reduceGT, reduceIte, Int.reduceNeg, Int.reduceToNat]) | (refine WP.drawW 9 (by kernel_rfl) (by kernel_rfl) ?_; simp only [go_sem, h1, h4, h5, h6, h7, hv, encTreeNode, encI, tyAll, Nat.reduceAdd, Nat.reduceLT, Nat.reduceLeDiff, Nat.reduceEqDiff, Nat.reduceMul, Nat.reduceSub, Nat.reduceGT, reduceIte, Int.reduceNeg, Int.reduceToNat]) |  refine And.intro ?_ ?_ | intro _))
        all_goals first | omega | skip
        · rename_i hb
          rw [treeOk_node hlt (by
            rw [Bool.eq_false_iff]
            intro hc
            have := nodeOk_iff.1 hc
            rcases hb with ((h | h) | h) | h
            · omega
            · rw [this.2.2.1] at h; cases h
            · omega
            · omega)]
  · have hok : ∀ j (h : j < L.length), j < L.length → nodeOk j L[j] = true := fun j h _ => hf j h (by omega)
    have hke : k = L.length := by omega
    subst hke
    have h4 := sumsAt_len L L.length
    (repeat' (first | refine WP.seq ?_ | refine WP.block ?_ | ((first | refine WP.region ?_ | refine WP.condW ?_ | refine WP.ret ?_ | refine WP.exit ?_ | refine WP.skip ?_); simp only [go_sem, tyAll, Nat.reduceAdd, Nat.reduceLT, Nat.reduceLeDiff, Nat.reduceEqDiff, Nat.reduceMul, Nat.reduceSub, Nat.reduceGT, reduceIte, Int.reduceNeg, Int.reduceToNat]) |  refine And.intro ?_ ?_ | intro _))
    all_goals first | omega | skip
    refine WP.loop (fun k : Nat => ⟨[(0, .sl 4 (L.map encTreeNode)), (3, .own 10), (63, .sl 4 (L.map encTreeNode)), (64, .v (.int .i64 L.length)), (65, .v (.int .i64 k))], [(10, .sl 3 1 ((sumsAt L L.length).map encI))]⟩) (fun k => k ≤ L.length ∧ ∀ j (h : j < L.length), j < k → L[j].self + below L j L.length = L[j].total) (fun k => L.length - k) 0 (by simp) ?_ ?_
    · simp only [go_sem, tyAll, Nat.reduceAdd, Nat.reduceLT, Nat.reduceLeDiff, Nat.reduceEqDiff, Nat.reduceMul, Nat.reduceSub, Nat.reduceGT, reduceIte, Int.reduceNeg, Int.reduceToNat]; first | exact ⟨rfl, rfl⟩ | rfl
    intro m ⟨hm, hg⟩
    by_cases hlm : m < L.length
    · have h1 := rowAt_map encTreeNode L m hlm
      have h5 := rowAt_map encI (sumsAt L L.length) m (by omega)
      have hv : (sumsAt L L.length)[m]'(by omega) = L[m].self + below L m L.length := by simp [sumsAt, hlm]
      (repeat' (first | refine WP.seq ?_ | refine WP.block ?_ | ((first | refine WP.region ?_ | refine WP.condW ?_ | refine WP.ret ?_ | refine WP.exit ?_ | refine WP.skip ?_); simp only [go_sem, h1, h4, h5, hv, encTreeNode, encI, tyAll, Nat.reduceAdd, Nat.reduceLT, Nat.reduceLeDiff, Nat.reduceEqDiff, Nat.reduceMul, Nat.reduceSub, Nat.reduceGT, reduceIte, Int.reduceNeg, Int.reduceToNat]) | (refine WP.drawW 7 (by kernel_rfl) (by kernel_rfl) ?_; simp only [go_sem, h1, h4, h5, hv, encTreeNode, encI, tyAll, Nat.reduceAdd, Nat.reduceLT, Nat.reduceLeDiff, Nat.reduceEqDiff, Nat.reduceMul, Nat.reduceSub, Nat.reduceGT, reduceIte, Int.reduceNeg, Int.reduceToNat]) |  refine And.intro ?_ ?_ | intro _))
      all_goals first | omega | skip
      · rename_i hp
        rw [treeOk_sum hlm hp]
      · rename_i hp
        refine ⟨m + 1, ⟨by omega, fun j hj hjm => ?_⟩, by omega, rfl⟩
        rcases Nat.lt_or_ge j m with h | h
        · exact hg j hj h
        · have : j = m := by omega
          subst this
          exact hp
    · (repeat' (first | refine WP.seq ?_ | refine WP.block ?_ | ((first | refine WP.region ?_ | refine WP.condW ?_ | refine WP.ret ?_ | refine WP.exit ?_ | refine WP.skip ?_); simp only [go_sem, tyAll, Nat.reduceAdd, Nat.reduceLT, Nat.reduceLeDiff, Nat.reduceEqDiff, Nat.reduceMul, Nat.reduceSub, Nat.reduceGT, reduceIte, Int.reduceNeg, Int.reduceToNat]) |  refine And.intro ?_ ?_ | intro _))
      all_goals first | omega | skip
      rw [treeOk_all (fun j h => hok j h h) (fun j h => hg j h (by omega))]
end
section
open Go.Vc
set_option linter.unusedSimpArgs false
set_option linter.unusedVariables false
set_option maxHeartbeats 1000000
set_option maxRecDepth 10000
attribute [local irreducible] Go.Vc.WP
attribute [local go_sem] cx0_t cx0_c
noncomputable def cxTt : Cx := { P := Tryz.prog, tys := tys, C := [(18, kTreeOk)], hty := tysOk, hC := COk.cons cTreeOkI (COk.nil _) }
theorem cxTt_t : cxTt.tys = tys := rfl
theorem cxTt_c : cxTt.C = [(18, kTreeOk)] := rfl
attribute [local go_sem] cxTt_t cxTt_c kTreeOk
def treeTotal (L : List TreeNode) : Int := if treeOk L = true then (if below L (-1) L.length > 1000000000000 then 0 else below L (-1) L.length) else 0
theorem treeOk_nodes {L : List TreeNode} (h : treeOk L = true) : ∀ j (hj : j < L.length), nodeOk j L[j] = true := by
  unfold treeOk at h
  rw [Bool.and_eq_true, decide_eq_true_eq] at h
  exact h.1
def kTreeTotal : Ctr := pur (fun args => decTreeNode (aR args 0)) (fun L => [.sl 4 (L.map encTreeNode)]) (fun L => L.length ≤ 1048576 ∧ ∀ x ∈ L, x.name.size ≤ 1048576) (fun _ L => .v (.int .i64 (treeTotal L))) (fun _ _ => [])
theorem cTreeTotalI : Cn Tryz.prog 19 kTreeTotal := by
  refine Cn.pur Tryz.func19 (by kernel_rfl) rfl fun d x hx => ?_
  obtain ⟨hL, hs⟩ := hx
  refine Holds.go (c := cxTt) Tryz.func19 rfl Tryz.results19 Tryz.ntmps19 (by omega) (by simp) rfl ?_
  intro X0 w0
  (repeat' (first | refine WP.seq ?_ | refine WP.block ?_ | ((first | refine WP.region ?_ | refine WP.condW ?_ | refine WP.ret ?_ | refine WP.exit ?_ | refine WP.skip ?_); simp only [go_sem, decTreeNode_enc, tyAll, Nat.reduceAdd, Nat.reduceLT, Nat.reduceLeDiff, Nat.reduceEqDiff, Nat.reduceMul, Nat.reduceSub, Nat.reduceGT, reduceIte, Int.reduceNeg, Int.reduceToNat]) |  refine And.intro ?_ ?_ | intro _))
  all_goals first | omega | exact hs _ ‹_› | skip
  · rename_i h; simp [treeTotal, h]
  rename_i hok
  refine WP.loop (fun k : Nat => ⟨[(3, .v (.int .i64 (below x (-1) k))), (9, .sl 4 (x.map encTreeNode)), (10, .v (.int .i64 x.length)), (11, .v (.int .i64 k))], []⟩) (fun k => k ≤ x.length) (fun k => x.length - k) 0 (by simp) ?_ ?_
  · simp only [go_sem, below_zero, tyAll, Nat.reduceAdd, Nat.reduceLT, Nat.reduceLeDiff, Nat.reduceEqDiff, Nat.reduceMul, Nat.reduceSub, Nat.reduceGT, reduceIte, Int.reduceNeg, Int.reduceToNat]; simp
  intro k hk
  have hb := below_bound (L := x) (-1) k hk (fun j hj _ => treeOk_nodes hok j hj)
  by_cases hlt : k < x.length
  · have h1 := rowAt_map encTreeNode x k hlt
    have h2 := below_succ x (-1) k hlt
    have h3 := nodeOk_iff.1 (treeOk_nodes hok k hlt)
    (repeat' (first | refine WP.seq ?_ | refine WP.block ?_ | ((first | refine WP.region ?_ | refine WP.condW ?_ | refine WP.ret ?_ | refine WP.exit ?_ | refine WP.skip ?_); simp only [go_sem, h1, encTreeNode, tyAll, Nat.reduceAdd, Nat.reduceLT, Nat.reduceLeDiff, Nat.reduceEqDiff, Nat.reduceMul, Nat.reduceSub, Nat.reduceGT, reduceIte, Int.reduceNeg, Int.reduceToNat]) |  refine And.intro ?_ ?_ | intro _))
    all_goals first | omega | skip
    · rename_i hp
      rw [if_pos hp] at h2
      exact ⟨k + 1, by omega, by omega, by rw [h2]; (first | rfl | exact ⟨rfl, rfl⟩ | exact ⟨rfl, rfl, rfl⟩ | exact ⟨rfl, rfl, rfl, rfl⟩ | exact ⟨rfl, rfl, rfl, rfl, rfl⟩ | exact ⟨⟨rfl, rfl⟩, rfl⟩ | simp)⟩
    · rename_i hp
      rw [if_neg hp, Int.add_zero] at h2
      exact ⟨k + 1, by omega, by omega, by rw [h2]; (first | rfl | exact ⟨rfl, rfl⟩ | exact ⟨rfl, rfl, rfl⟩ | exact ⟨rfl, rfl, rfl, rfl⟩ | exact ⟨rfl, rfl, rfl, rfl, rfl⟩ | exact ⟨⟨rfl, rfl⟩, rfl⟩ | simp)⟩
  · have hke : k = x.length := by omega
    subst hke
    (repeat' (first | refine WP.seq ?_ | refine WP.block ?_ | ((first | refine WP.region ?_ | refine WP.condW ?_ | refine WP.ret ?_ | refine WP.exit ?_ | refine WP.skip ?_); simp only [go_sem, tyAll, Nat.reduceAdd, Nat.reduceLT, Nat.reduceLeDiff, Nat.reduceEqDiff, Nat.reduceMul, Nat.reduceSub, Nat.reduceGT, reduceIte, Int.reduceNeg, Int.reduceToNat]) |  refine And.intro ?_ ?_ | intro _))
    all_goals first | omega | skip
    · rename_i h; simp [treeTotal, hok]; omega
    · rename_i h; simp [treeTotal, hok]; omega

noncomputable def cxTtl : Cx := { P := Tryz.prog, tys := tys, C := [(23, keqTreeNodeS), (19, kTreeTotal)], hty := tysOk, hC := COk.cons ceqTreeNodeS (COk.cons cTreeTotalI (COk.nil _)) }
theorem cxTtl_t : cxTtl.tys = tys := rfl
theorem cxTtl_c : cxTtl.C = [(23, keqTreeNodeS), (19, kTreeTotal)] := rfl
attribute [local go_sem] cxTtl_t cxTtl_c keqTreeNodeS kTreeTotal
attribute [local go_sem] isV_TreeNode decTreeNode_enc
end
section
open Go.Vc
set_option linter.unusedSimpArgs false
set_option linter.unusedVariables false
set_option maxHeartbeats 1000000
set_option maxRecDepth 10000
attribute [local irreducible] Go.Vc.WP
attribute [local go_sem] cx0_t cx0_c
open Go.Pl
attribute [local go_sem] isV_Node isV_It isV_Entry decNode_enc decFrame_enc oneFrame_enc stkA oneFrame_ab oneNode_abc decI_enc prA encI_inj decU_enc isV_TreeNode decTreeNode_enc
theorem allV_TreeNode (L : List TreeNode) : allV (L.map encTreeNode) := allV_map (fun x c hc => by
  simp only [encTreeNode, List.mem_cons, List.not_mem_nil, or_false] at hc
  rcases hc with rfl | rfl | rfl | rfl <;> exact ⟨_, rfl⟩) L
def kTreeZ : Ctr := pur (fun args => prA args 0) (fun x => [.agg [.sl 3 (x.1.map encNode), .sl 1 (x.2.map encI)]]) preT (fun _ x => .sl 4 ((treeOf x.1 x.2).map encTreeNode)) (fun _ _ => [])
/-- what is known of a drawn profile's tree -/
structure DTree (L : List TreeNode) : Prop where
  ok : treeOk L = true
  pre : preO L
  len : L.length ≤ 1000
  pos : ∀ x ∈ L, 1 ≤ x.total
  top : totB L (-1) ≤ 1000000000000
  nms : ∀ x ∈ L, x.name.size ≤ 1048576
theorem drp_tree {P : List Node × List Int} (h : DrP P 7) : DTree (treeOf P.1 P.2) := by
  obtain ⟨N, C⟩ := P
  have hl := drp_lens h
  have hlen := entriesOf_len N C
  have hen := h.ents
  simp only at hl hen ⊢
  have hS1 : nmsOk (ncP N C) := fun x hx => by
    obtain ⟨e, he, rfl⟩ := List.mem_map.1 hx
    obtain ⟨_, k, _, _, _, g, _⟩ := entriesOf_mem he
    obtain ⟨_, _, g2, _, _⟩ := ent_frs he
    refine ⟨by simp only; omega, fun a ha => ?_⟩
    obtain ⟨f, hf, rfl⟩ := List.mem_map.1 ha
    exact (frOk_iff.1 (List.all_eq_true.1 g2 f hf)).1
  have hS2 : ∀ x ∈ ncP N C, x.1.length ≤ 4 := fun x hx => by
    obtain ⟨e, he, rfl⟩ := List.mem_map.1 hx
    show (namesE e).length ≤ 4
    unfold namesE; rw [List.length_map]; exact (hen e he).len
  have hS3 : ∀ x ∈ ncP N C, x.1.length ≤ N.length := fun x hx => by
    obtain ⟨e, he, rfl⟩ := List.mem_map.1 hx
    show (namesE e).length ≤ N.length
    obtain ⟨_, _, _, g, _⟩ := ent_frs he
    unfold namesE; rw [List.length_map]; exact g
  have hS4 : sumC (ncP N C) ≤ 1000000000000 := by
    have g1 := sumE_entries N C
    have g2 := totalOf_bound N C
    have : sumC (ncP N C) = sumE (entriesOf N C) := by unfold sumC ncP sumE; rw [List.map_map]; rfl
    omega
  obtain ⟨t1, t2, t3, t4⟩ := tree_ok hS1 hS3 hS4
  have t5 := tree_pre hS1 hS3 hS4
  have t6 := grow_len N.length [] (-1) 0 (ncP N C)
  have t7 : wtN 0 (ncP N C) ≤ 4 * (ncP N C).length := by
    have := sum_le_mul (A := (ncP N C).map fun x => x.1.length - 0) (m := 4) (fun y hy => by
      obtain ⟨x, hx, rfl⟩ := List.mem_map.1 hy
      exact hS2 x hx)
    rw [List.length_map] at this
    exact this
  have t8 : (ncP N C).length = (entriesOf N C).length := by unfold ncP; rw [List.length_map]
  have t9 : sumC (longC 0 (ncP N C)) ≤ sumC (ncP N C) := sumC_filter _ fun x hx => by have := (hS1 x hx).1; omega
  refine ⟨t1, t5, ?_, t3, ?_, fun x hx => ?_⟩
  · show (growP N.length [] (-1) 0 (ncP N C)).length ≤ 1000
    simp only [List.length_nil] at t6
    omega
  · show totB (growP N.length [] (-1) 0 (ncP N C)) (-1) ≤ _
    rw [t2]; omega
  · obtain ⟨i, hi, rfl⟩ := List.mem_iff_getElem.1 hx
    have g1 := nodeOk_iff.1 (treeOk_nodes t1 i hi)
    have : (treeOf N C)[i].name.size ≤ 8 := (nameOk_letters g1.2.2.1).2.2
    omega
theorem drp_sum {P : List Node × List Int} (h : DrP P 7) : totB (treeOf P.1 P.2) (-1) = totalOf P.1 P.2 := by
  obtain ⟨N, C⟩ := P
  have hen := h.ents
  simp only at hen ⊢
  have hS1 : nmsOk (ncP N C) := fun x hx => by
    obtain ⟨e, he, rfl⟩ := List.mem_map.1 hx
    obtain ⟨_, k, _, _, _, g, _⟩ := entriesOf_mem he
    obtain ⟨_, _, g2, _, _⟩ := ent_frs he
    refine ⟨by simp only; omega, fun a ha => ?_⟩
    obtain ⟨f, hf, rfl⟩ := List.mem_map.1 ha
    exact (frOk_iff.1 (List.all_eq_true.1 g2 f hf)).1
  have hS3 : ∀ x ∈ ncP N C, x.1.length ≤ N.length := fun x hx => by
    obtain ⟨e, he, rfl⟩ := List.mem_map.1 hx
    show (namesE e).length ≤ N.length
    obtain ⟨_, _, _, g, _⟩ := ent_frs he
    unfold namesE; rw [List.length_map]; exact g
  have hS4 : sumC (ncP N C) = totalOf N C := by
    have g1 := sumE_entries N C
    have : sumC (ncP N C) = sumE (entriesOf N C) := by unfold sumC ncP sumE; rw [List.map_map]; rfl
    omega
  have g2 := totalOf_bound N C
  obtain ⟨_, t2, _, _⟩ := tree_ok hS1 hS3 (by omega)
  show totB (growP N.length [] (-1) 0 (ncP N C)) (-1) = _
  rw [t2, ← hS4]
  congr 1
  unfold longC
  rw [List.filter_eq_self]
  intro x hx
  obtain ⟨e, he, rfl⟩ := List.mem_map.1 hx
  obtain ⟨g, _⟩ := ent_frs he
  have : (namesE e).length ≠ 0 := by
    unfold namesE; rw [List.length_map]
    intro h0
    exact g (List.eq_nil_of_length_eq_zero h0)
  simp; omega
theorem drp_ord {P : List Node × List Int} (h : DrP P 7) : ∀ i j (hi : i < (treeOf P.1 P.2).length) (hj : j < (treeOf P.1 P.2).length), i < j → (treeOf P.1 P.2)[i].parent = (treeOf P.1 P.2)[j].parent → ltS (treeOf P.1 P.2)[i].name (treeOf P.1 P.2)[j].name = true := by
  obtain ⟨N, C⟩ := P
  simp only
  have hS1 : nmsOk (ncP N C) := fun x hx => by
    obtain ⟨e, he, rfl⟩ := List.mem_map.1 hx
    obtain ⟨_, k, _, _, _, g, _⟩ := entriesOf_mem he
    obtain ⟨_, _, g2, _, _⟩ := ent_frs he
    refine ⟨by simp only; omega, fun a ha => ?_⟩
    obtain ⟨f, hf, rfl⟩ := List.mem_map.1 ha
    exact (frOk_iff.1 (List.all_eq_true.1 g2 f hf)).1
  have hS3 : ∀ x ∈ ncP N C, x.1.length ≤ N.length := fun x hx => by
    obtain ⟨e, he, rfl⟩ := List.mem_map.1 hx
    show (namesE e).length ≤ N.length
    obtain ⟨_, _, _, g, _⟩ := ent_frs he
    unfold namesE; rw [List.length_map]; exact g
  have hS4 : sumC (ncP N C) = totalOf N C := by
    have g1 := sumE_entries N C
    have : sumC (ncP N C) = sumE (entriesOf N C) := by unfold sumC ncP sumE; rw [List.map_map]; rfl
    omega
  have g2 := totalOf_bound N C
  exact (tree_ok hS1 hS3 (by omega)).2.2.2
end
end Go.Proofs.YtahcfcimfcjhhaaGreatDoor
/-
  DERIVED. A list of one's own: its end cleared; its end cut off.
-/
namespace Go.Vc
set_option linter.unusedVariables false
set_option linter.unusedSimpArgs false
section
variable {P : Program} {tys : List (Nat × TyD)} {C : List (FuncId × Ctr)} {N : Nat} {X0 : Nat → Prop} {M : Nat → Value → Prop} {w0 : World} {st : St} {β : Nat → Value} {a : Act} {w : World}

/-- a slice of one's own from a place on, cleared -/
theorem clear_own (hty : ∀ T d, lk T tys = some d → TyOk P T d) (h : Sim N X0 M w0 st β a w) {T : Nat} {t e : TyD} (ht : lk T tys = some t) (he : lk t.elem tys = some e) (hk : t.kind = 1) (hzl : e.z.length = e.size) (hz1 : e.z.all Value.oneCell' = true)
    {j es : Nat} {rows : List (List SV)} (hl : lk j st.hp = some (.sl es e.size rows)) {lo : Nat} (hlo : lo ≤ rows.length) (ty : TypeId) :
    ∃ p cap w', β j = .slice p rows.length cap ∧ rows.length ≤ cap ∧ (Builtin.clear_ #[T] ty #[.slice (if cap = lo then p else p.map (·.add (lo * e.size))) (rows.length - lo) (cap - lo)]).run P w = .ok (.tuple #[]) w' ∧
      Sim N X0 M w0 (st.wrt j (.sl es e.size (rows.take lo ++ List.replicate (rows.length - lo) (e.z.map .v)))) β a w' := by
  have hT := (hty T t ht).slice hk
  have hE := hty t.elem e he
  obtain ⟨zv, hz, hzc⟩ := hE.zero w
  have hob := h.objs j _ hl
  generalize hβ : β j = bv at hob
  have none_case : rows.length - lo = 0 → rows.take lo ++ List.replicate (rows.length - lo) (e.z.map .v) = rows := fun h0 => by
    rw [h0, List.replicate_zero, List.append_nil, List.take_of_length_le (by omega)]
  have same : Sim N X0 M w0 (st.wrt j (.sl es e.size rows)) β a w := h.less (fun t x hx => hx) (fun t x hx => by
    simp only [St.wrt, lk] at hx
    by_cases hq : t = j
    · subst hq; rw [if_pos rfl] at hx; rw [hl]; exact hx
    · rw [if_neg hq, lk_er_ne hq] at hx; exact hx)
  cases hob with
  | nil e' s' h0 =>
    have : lo = 0 := by simpa using hlo
    subst this
    refine ⟨none, 0, w, h0, Nat.le_refl _, ?_, ?_⟩
    · simp [Builtin.clear_, run_underlying hT]
    · have := none_case rfl
      rw [this]; exact same
  | sl b cap cur us hv hh hcap hmax hsz hlen hcell hone hr =>
    by_cases h0 : rows.length - lo = 0
    · refine ⟨some ⟨b, 0, none⟩, cap, w, hv, hcap, ?_, ?_⟩
      · rw [h0]
        by_cases hc : cap = lo
        · simp [Builtin.clear_, run_underlying hT, hc]
        · simp [Builtin.clear_, run_underlying hT, hc]
      · rw [none_case h0]; exact same
    · have hne : ¬ cap = lo := by omega
      have hfl := flat_zero (w := w) (X := XX X0 β st.hp) (n := rows.length - lo) (m := (rows.length - lo) * e.size) hzc hzl hz1 (Nat.le_refl _)
      have hzs : zv.cells.size = e.size := by rw [← Array.length_toList, hzc, hzl]
      rw [List.take_of_length_le (by simp)] at hfl
      have hZ : (Builtin.zeroCells zv.cells (rows.length - lo)).toList = ((Array.range ((rows.length - lo) * e.size)).map (zv.cells[· % zv.cells.size]!)).toList := by unfold Builtin.zeroCells; rw [hzs]
      generalize hZn : (Builtin.zeroCells zv.cells (rows.length - lo)).toList = Z at hZ
      rw [← hZ] at hfl
      have hZl := hfl.len
      rw [List.length_replicate] at hZl
      have hmul : lo * e.size + (rows.length - lo) * e.size = rows.length * e.size := by rw [← Nat.add_mul]; congr 1; omega
      have hcm : rows.length * e.size ≤ cap * e.size := Nat.mul_le_mul_right _ hcap
      have hst := run_storeCells_at (P := P) b (lo * e.size) es Z 0 cur w hh (by rw [hZl, hsz]; omega) hfl.one
      simp only [Nat.add_zero] at hst
      refine ⟨some ⟨b, 0, none⟩, cap, w.setRow b (cur.toList.take (lo * e.size) ++ Z ++ cur.toList.drop (lo * e.size + Z.length)).toArray, hv, hcap, ?_, ?_⟩
      · show (Builtin.clear_ #[T] ty #[.slice (if cap = lo then some ⟨b, 0, none⟩ else (some ⟨b, 0, none⟩ : Option Addr).map (·.add (lo * e.size))) (rows.length - lo) (cap - lo)]).run P w = _
        rw [if_neg hne]
        have hadd : (some (⟨b, 0, none⟩ : Addr)).map (·.add (lo * e.size)) = some ⟨b, lo * e.size, none⟩ := by
          simp only [Option.map_some, Addr.add, Option.some.injEq]
          simp
          try exact fun hh => hh.symm
        rw [hadd]
        obtain ⟨n, hn⟩ : ∃ n, rows.length - lo = n + 1 := ⟨rows.length - lo - 1, by omega⟩
        rw [hn] at hZn
        rw [hn]
        simp only [Builtin.clear_, Sem.run_bind, run_underlying hT, Result.andThen_ok, hz, hZn, hst, List.getElem?_toArray, List.getElem?_cons_zero]
        rfl
      · have hblt := lt_of_heap hh
        have hset : (w.setRow b (cur.toList.take (lo * e.size) ++ Z ++ cur.toList.drop (lo * e.size + Z.length)).toArray).heap[b]? = some (.cells (cur.toList.take (lo * e.size) ++ Z ++ cur.toList.drop (lo * e.size + Z.length)).toArray es (0, 0)) := by
          simp [World.setRow, Array.getElem?_modify, hh]
        refine h.write (j := j) (ob := .sl es e.size rows) hl rfl rfl rfl (by rw [setRow_size]; exact Nat.le_refl _) (fun b' hb' hne' => ?_) ?_
        · have : b' ≠ b := fun e' => hne' (by rw [hβ, hv, e']; rfl)
          simp [World.setRow, Array.getElem?_modify, Ne.symm this]
        · rw [hβ]
          have hcl : cur.toList.length = cap * e.size := by rw [Array.length_toList]; exact hsz
          have hlen' : ((rows.take lo ++ List.replicate (rows.length - lo) (e.z.map SV.v)).length) = rows.length := by simp; omega
          have hS : Same (XX X0 β st.hp) w (w.setRow b (cur.toList.take (lo * e.size) ++ Z ++ cur.toList.drop (lo * e.size + Z.length)).toArray) := ⟨by rw [setRow_size]; exact Nat.le_refl _, fun b' _ hn => by
            have : b' ≠ b := fun e' => hn (.inr ⟨j, _, hl, by rw [hβ, hv, e']; rfl⟩)
            simp [World.setRow, Array.getElem?_modify, Ne.symm this]⟩
          have key : ∀ (i k : Nat) (row : List SV) (c : SV), (rows.take lo ++ List.replicate (rows.length - lo) (e.z.map SV.v))[i]? = some row → row[k]? = some c → row.length = e.size →
              ∃ u, (cur.toList.take (lo * e.size) ++ Z ++ cur.toList.drop (lo * e.size + Z.length))[i * e.size + k]? = some u ∧ u.oneCell' = true ∧ Rp w (XX X0 β st.hp) c u := fun i k row c hrow hc hrl => by
            have hks : k < e.size := by rw [← hrl]; exact (List.getElem?_eq_some_iff.1 hc).1
            have htl : (rows.take lo).length = lo := by simp; omega
            have hct : (cur.toList.take (lo * e.size)).length = lo * e.size := by rw [List.length_take, hcl]; omega
            by_cases hi : i < lo
            · rw [List.getElem?_append_left (by rw [htl]; exact hi), List.getElem?_take_of_lt hi] at hrow
              have hlt : i * e.size + k < lo * e.size := lt_flat hi hks
              rw [List.append_assoc, List.getElem?_append_left (by rw [hct]; exact hlt), List.getElem?_take_of_lt hlt]
              refine ⟨us i k, ?_, hone i k row c hrow hc, hr i k row c hrow hc⟩
              have := hcell i k row c hrow hc
              simpa using this
            · rw [List.getElem?_append_right (by rw [htl]; omega), htl] at hrow
              obtain ⟨u, hu, hR⟩ := hfl.cell (i - lo) k row c hrow hc
              have hil : i - lo < rows.length - lo := by
                have := (List.getElem?_eq_some_iff.1 hrow).1
                simpa using this
              have hidx : i * e.size + k = lo * e.size + ((i - lo) * e.size + k) := by
                have : i * e.size = lo * e.size + (i - lo) * e.size := by rw [← Nat.add_mul]; congr 1; omega
                omega
              have hlt : (i - lo) * e.size + k < Z.length := by rw [hZl]; exact lt_flat hil hks
              refine ⟨u, ?_, hfl.one u (List.mem_of_getElem? hu), hR⟩
              rw [hidx, List.append_assoc, List.getElem?_append_right (by rw [hct]; omega), hct, Nat.add_sub_cancel_left, List.getElem?_append_left hlt]
              exact hu
          have hrl : ∀ (i : Nat) (row : List SV), (rows.take lo ++ List.replicate (rows.length - lo) (e.z.map SV.v))[i]? = some row → row.length = e.size := fun i row hrow => by
            have hm := List.mem_of_getElem? hrow
            rcases List.mem_append.1 hm with hm | hm
            · obtain ⟨q, hq⟩ := List.mem_iff_getElem?.1 (List.mem_of_mem_take hm)
              exact hlen q row hq
            · rw [(List.mem_replicate.1 hm).2, List.length_map, hzl]
          refine ObR.sl (us := fun i k => ((cur.toList.take (lo * e.size) ++ Z ++ cur.toList.drop (lo * e.size + Z.length))[i * e.size + k]?).getD undef) b cap _ (by rw [hlen']; exact hv) hset (by rw [hlen']; exact hcap) hmax ?_ hrl ?_ ?_ ?_
          · simp only [List.size_toArray, List.length_append, List.length_take, List.length_drop, hcl]
            omega
          · intro i k row c hrow hc
            obtain ⟨u, hu, _, _⟩ := key i k row c hrow hc (hrl i row hrow)
            rw [hu]; simpa using hu
          · intro i k row c hrow hc
            obtain ⟨u, hu, h1, _⟩ := key i k row c hrow hc (hrl i row hrow)
            rw [hu]; exact h1
          · intro i k row c hrow hc
            obtain ⟨u, hu, _, h2⟩ := key i k row c hrow hc (hrl i row hrow)
            rw [hu]; exact h2.mono hS (fun _ _ hb => hb)

theorem own_slice {X : Nat → Prop} {v : Value} {e s : Nat} {rows : List (List SV)} (h : ObR w X β v (.sl e s rows)) : ∃ p cap, v = .slice p rows.length cap ∧ rows.length ≤ cap ∧ ∀ ad, p = some ad → ad.off = 0 ∧ ad.spot = none := by
  cases h with
  | nil e s h => exact ⟨none, 0, h, Nat.le_refl _, fun ad h => by cases h⟩
  | sl b cap cur us hv hh hcap => exact ⟨_, cap, hv, hcap, fun ad h => by cases h; exact ⟨rfl, rfl⟩⟩

/-- a slice of one's own from a place on, and its clearing -/
def St.clrK (tys : List (Nat × TyD)) (N : Nat) (o3 o4 : Oper) (st : St) (K : St → Prop) : Prop :=
  match o3.op, o4.op with
  | .slice T x (some lo) none none, .call c => match c.callee with
    | .builtin .clear => match o3.dst, c.args.toList, c.argTypes.toList, (st.ev x).strip, (st.ev lo).strip with
      | some d, [.tmp y], [T'], .own j, .v (.int .i64 p) => match lk T tys, lk j st.hp with
        | some t, some (.sl es s rows) => match lk t.elem tys with
          | some e => o3.guard.isNone = true ∧ o4.guard.isNone = true ∧ o4.dst.isNone = true ∧ T = T' ∧ y = d ∧ d < N ∧ t.kind = 1 ∧ s = e.size ∧ e.z.length = e.size ∧ e.z.all Value.oneCell' = true ∧ (st.ev x).need ∧ (st.ev lo).need ∧ 0 ≤ p ∧ p ≤ (rows.length : Int) ∧
              K ((st.put (some d) .junk).wrt j (.sl es s (rows.take p.toNat ++ List.replicate (rows.length - p.toNat) (e.z.map .v))))
          | none => False
        | _, _ => False
      | _, _, _, _, _ => False
    | _ => False
  | _, _ => False
theorem clrK_sound (hty : ∀ T d, lk T tys = some d → TyOk P T d) (h : Sim N X0 M w0 st β a w) {ops : Array Oper} {o3 o4 : Oper} {K : St → Prop} (hw : st.clrK tys N o3 o4 K) {Q : Exit → Act → World → Prop} (hQ : ∀ a w, Ok N X0 M w0 K a w → Q .normal a w) : wpList P ops Q [o3, o4] a w := by
  unfold St.clrK at hw
  split at hw
  case h_2 => exact hw.elim
  case h_1 _ _ T x lo c ho3 ho4 =>
  split at hw
  case h_2 => exact hw.elim
  case h_1 _ hcal =>
  split at hw
  case h_2 => exact hw.elim
  case h_1 _ _ _ _ _ d y T' j p hd3 hargs htys hx hlo =>
  split at hw
  case h_2 => exact hw.elim
  case h_1 _ _ t es s rows ht hl =>
  split at hw
  case h_2 => exact hw.elim
  case h_1 _ e he =>
  obtain ⟨g3, g4, hd4, rfl, rfl, hdN, hk, rfl, hzl, hz1, n1, n2, hp0, hp1, hK⟩ := hw
  have hT := (hty T t ht).slice hk
  have hE := hty t.elem e he
  have hS : ∀ w, (Go.sizeOf t.elem).run P w = .ok e.size w := fun w => hE.sizeOf w
  have ex := (St.ev_strip h hx n1).own_inv
  have el := (St.ev_strip h hlo n2).v_inv
  obtain ⟨pp, cap, hv, hnc, _⟩ := own_slice (h.objs j _ hl)
  have hsl := slice_rows hT hS pp rows.length cap hnc (some (.int .i64 p)) none p rows.length (.inl rfl) (.inr ⟨rfl, rfl⟩) hp0 hp1 (Int.le_refl _) w
  rw [Int.toNat_natCast] at hsl
  generalize hsv : Value.slice (if cap = p.toNat then pp else pp.map (·.add (p.toNat * e.size))) (rows.length - p.toNat) (cap - p.toNat) = sv at hsl
  have hr3 : (execOp a.eval o3).run P w = .ok (.value sv) w := by
    simp [execOp, ho3, ex, hv, el, hsl]
  have h1 := h.put hdN (x := .junk) (v := sv) (.junk _)
  obtain ⟨pp', cap', w', hb, _, hclr, h2⟩ := clear_own hty h1 (T := T) ht he hk hzl hz1 (j := j) (es := es) (rows := rows) hl (lo := p.toNat) (by omega) o4.type
  rw [hv] at hb
  injection hb with e1 e2 e3
  subst e1 e3
  rw [hsv] at hclr
  have hev : (a.put (some y) sv).eval (.tmp y) = sv := by
    show (a.put (some y) sv).tmps.getD y undef = sv
    rw [getD_put_same (by rw [h.size]; exact hdN)]
  have ea : c.args = #[.tmp y] := by rw [← Array.toArray_toList (xs := c.args), hargs]
  have et : c.argTypes = #[T] := by rw [← Array.toArray_toList (xs := c.argTypes), htys]
  have hr4 : (execOp (a.put (some y) sv).eval o4).run P w = .ok (.value (.tuple #[])) w' := by
    simp [execOp, ho4, resolve, hcal, ea, et, invoke, builtin, hev, hclr]
  have w3 : Region.wanted o3 (yielded ops a.tmps) = true := by
    have : o3.guard = none := by simpa using g3
    simp [Region.wanted, this]
  unfold wpList
  rw [if_pos w3]
  refine .inl ?_
  unfold Oper.wp
  rw [hr3, Oper.upon_value, hd3]
  have w4 : Region.wanted o4 (yielded ops (a.put (some y) sv).tmps) = true := by
    have : o4.guard = none := by simpa using g4
    simp [Region.wanted, this]
  unfold wpList
  rw [if_pos w4]
  refine .inl ?_
  unfold Oper.wp
  have hd4' : o4.dst = none := by simpa using hd4
  rw [hr4, Oper.upon_value, hd4']
  unfold wpList
  exact hQ _ _ ⟨_, β, hK, h2⟩

/-- the beginning of a list of one's own: the list is no more than that -/
def St.cutK (tys : List (Nat × TyD)) (N : Nat) (o : Oper) (st : St) (K : St → Prop) : Prop :=
  match o.op with
  | .slice T x none (some hi) none => match o.dst, (st.ev x).strip, (st.ev hi).strip with
    | some d, .own j, .v (.int .i64 p) => match lk T tys, lk j st.hp with
      | some t, some (.sl es s rows) => match lk t.elem tys with
        | some e => o.guard.isNone = true ∧ d < N ∧ j < 1000000 ∧ t.kind = 1 ∧ s = e.size ∧ (st.ev x).need ∧ (st.ev hi).need ∧ 0 ≤ p ∧ p ≤ (rows.length : Int) ∧ K (st.app j d (.sl es s (rows.take p.toNat)))
        | none => False
      | _, _ => False
    | _, _, _ => False
  | _ => False
theorem cutK_sound (hty : ∀ T d, lk T tys = some d → TyOk P T d) (h : Sim N X0 M w0 st β a w) {ops : Array Oper} {o : Oper} {K : St → Prop} (hw : st.cutK tys N o K) {Q : Exit → Act → World → Prop} :
    Region.wanted o (yielded ops a.tmps) = true ∧ o.wp P a w (Ok N X0 M w0 K) Q := by
  unfold St.cutK at hw
  split at hw
  case h_2 => exact hw.elim
  case h_1 _ T x hi ho =>
  split at hw
  case h_2 => exact hw.elim
  case h_1 _ _ _ d j p hd hx hhi =>
  split at hw
  case h_2 => exact hw.elim
  case h_1 _ _ t es s rows ht hl =>
  split at hw
  case h_2 => exact hw.elim
  case h_1 _ e he =>
  obtain ⟨g, hdN, hjl, hk, rfl, n1, n2, hp0, hp1, hK⟩ := hw
  have hgn : o.guard = none := by simpa using g
  refine ⟨by simp [Region.wanted, hgn], ?_⟩
  have hT := (hty T t ht).slice hk
  have hE := hty t.elem e he
  have hS : ∀ w, (Go.sizeOf t.elem).run P w = .ok e.size w := fun w => hE.sizeOf w
  have ex := (St.ev_strip h hx n1).own_inv
  have el := (St.ev_strip h hhi n2).v_inv
  have hob := h.objs j _ hl
  obtain ⟨pp, cap, hv, hnc, hpp⟩ := own_slice hob
  have hsl := slice_rows hT hS pp rows.length cap hnc none (some (.int .i64 p)) 0 p (.inr ⟨rfl, rfl⟩) (.inl rfl) (Int.le_refl _) hp0 hp1 w
  have hsv : Value.slice (if cap = (0 : Int).toNat then pp else pp.map (·.add ((0 : Int).toNat * e.size))) (p.toNat - (0 : Int).toNat) (cap - (0 : Int).toNat) = .slice pp p.toNat cap := by
    have h0 : (0 : Int).toNat = 0 := rfl
    rw [h0, Nat.zero_mul, Nat.sub_zero, Nat.sub_zero]
    congr 1
    split
    · rfl
    · cases pp with
      | none => rfl
      | some ad =>
        obtain ⟨q1, q2⟩ := hpp ad rfl
        obtain ⟨a1, a2, a3⟩ := ad
        simp only at q1 q2
        subst q1 q2
        simp [Addr.add]
  rw [hsv] at hsl
  have hr : (execOp a.eval o).run P w = .ok (.value (.slice pp p.toNat cap)) w := by
    simp [execOp, ho, ex, hv, el, hsl]
  have hblk : ∀ b, blk (.slice pp p.toNat cap) = some b ↔ blk (β j) = some b := fun b => by rw [hv]; cases pp <;> rfl
  let β' : Nat → Value := fun i => if i = j then .slice pp p.toNat cap else β i
  have hβ : ∀ i, i ≠ j → β' i = β i := fun i hi => by show (if i = j then _ else β i) = _; rw [if_neg hi]
  have hβj : β' j = .slice pp p.toNat cap := by show (if j = j then _ else β j) = _; rw [if_pos rfl]
  have hX1 : ∀ b, b < w.heap.size → (X0 b ∨ blk (β j) = some b) → XX X0 β st.hp b := fun b _ hh => by
    rcases hh with hh | hh
    · exact .inl hh
    · exact .inr ⟨j, _, hl, hh⟩
  have h1 : Sim N (fun b => X0 b ∨ blk (β j) = some b) M w0 (st.kill j) β' a w :=
    h.kill j hjl hβ (by rw [hβj]; rfl) rfl rfl rfl (Nat.le_refl _) (fun b _ _ => rfl) hX1 (fun b hh => by
      rcases hh with hh | hh
      · exact h.x0 b hh
      · exact hob.lt hh)
  have hXk : ∀ b, b < w.heap.size → XX (fun b => X0 b ∨ blk (β j) = some b) β' (st.kill j).hp b → XX X0 β st.hp b := fun b hlt hh => XX_kill hβ (hX1 b hlt) hh
  have hSm : Same (XX X0 β st.hp) w w := ⟨Nat.le_refl _, fun _ _ _ => rfl⟩
  have hob' : ObR w (XX (fun b => X0 b ∨ blk (β j) = some b) β' (st.kill j).hp) β' (.slice pp p.toNat cap) (.sl es e.size (rows.take p.toNat)) := by
    have hlen : (rows.take p.toNat).length = p.toNat := by rw [List.length_take]; omega
    generalize hbv : β j = bv at hob hv
    cases hob with
    | nil e' s' h0 =>
      rw [h0] at hv
      injection hv with q1 q2 q3
      subst q1 q3
      have : p.toNat = 0 := by simp at hp1; omega
      rw [this]
      exact .nil _ _ rfl
    | sl b cap' cur us hv' hh hcap hmax hsz hlenr hcell hone hrp =>
      rw [hv'] at hv
      injection hv with q1 q2 q3
      subst q1 q3
      have sub : ∀ {i : Nat} {row : List SV}, (rows.take p.toNat)[i]? = some row → rows[i]? = some row := fun {i row} hq => by
        rw [List.getElem?_take] at hq
        split at hq
        · exact hq
        · cases hq
      exact ObR.sl b cap' cur us (by rw [hlen]) hh (by rw [hlen]; omega) hmax hsz (fun i row hq => hlenr i row (sub hq)) (fun i k row c hq hc => hcell i k row c (sub hq) hc) (fun i k row c hq hc => hone i k row c (sub hq) hc)
        (fun i k row c hq hc => (hrp i k row c (sub hq) hc).mono hSm (fun b hlt hh => hXk b hlt (by rw [hbv]; exact hh)))
  have h2 := h1.add (j := j) (lk_kill st j) (ob := .sl es e.size (rows.take p.toNat)) (by rw [hβj]; exact hob') (fun b hh => .inr (by rw [hβj] at hh; exact (hblk b).1 hh))
    (fun b hh => by rw [hβj] at hh; exact h.mine j _ b hl ((hblk b).1 hh))
    (fun b id o' hh hi' hid => by
      rw [hβj] at hh
      have hne : id ≠ j := fun e => by subst e; rw [lk_kill] at hi'; cases hi'
      rw [hβ id hne] at hid
      rw [lk_kill_ne hne] at hi'
      cases hy : lk id st.hp with
      | none => rw [hy] at hi'; cases hi'
      | some y => exact hne (h.inj id j y _ b hy hl hid ((hblk b).1 hh)))
  have h3 := h2.un (X1 := X0) (fun b hh => .inl hh)
  unfold Oper.wp
  rw [hr, Oper.upon_value, hd]
  refine ⟨_, β', hK, ?_⟩
  have hR := R.own (w := w) (X := XX X0 β' ((j, .sl es e.size (rows.take p.toNat)) :: (st.kill j).hp)) (β := β') j
  rw [hβj] at hR
  exact h3.put hdN hR

theorem runR_then (hA : Ap P X0 M w0) (hty : ∀ T d, lk T tys = some d → TyOk P T d) (hC : COk P C) {ops : Array Oper} {l2 : List Oper} {K : St → Prop} {Q : Exit → Act → World → Prop} (hQ : ∀ a w, Ok N X0 M w0 K a w → wpList P ops Q l2 a w) :
    ∀ (l : List Oper) {st : St} {β : Nat → Value} {a : Act} {w : World}, Sim N X0 M w0 st β a w → St.runR tys C N ops l st K → wpList P ops Q (l ++ l2) a w
  | [], st, β, a, w, h, hw => hQ a w ⟨st, β, hw, h⟩
  | o :: l, st, β, a, w, h, hw => by
    have h1 := step_sound (Q := Q) hA hty hC h hw
    show wpList P ops Q (o :: (l ++ l2)) a w
    unfold wpList
    split
    · rename_i hwt
      rw [if_pos hwt] at h1
      exact .inl (Oper.wp_mono (fun a' w' ⟨st', β', h2, h3⟩ => runR_then hA hty hC hQ l h3 h2) h1)
    · rename_i hwt
      rw [if_neg hwt] at h1
      obtain ⟨st', β', h2, h3⟩ := h1
      exact runR_then hA hty hC hQ l h3 h2
end
section
variable {c : Cx} {N : Nat} {X0 : Nat → Prop} {M : Nat → Value → Prop} {w0 : World} {st : St} {K : Exit → St → Prop}
theorem WP.regionClr {id : Nat} {o1 o2 o3 o4 : Oper} (h : St.runR c.tys c.C N #[o1, o2, o3, o4] [o1, o2] st fun st' => st'.clrK c.tys N o3 o4 (K .normal)) : WP c N X0 M w0 (.region id #[o1, o2, o3, o4] false) st K := fun hA β a w hs =>
  wp_region_lit (l := [o1, o2, o3, o4]) (runR_then hA c.hty c.hC (l2 := [o3, o4]) (fun a w ⟨st', β', h1, h2⟩ => clrK_sound c.hty h2 h1 (fun a w hk => hk)) [o1, o2] hs h)
theorem WP.regionCut {id : Nat} {o1 o2 o3 o4 : Oper} (h : St.runR c.tys c.C N #[o1, o2, o3, o4] [o1, o2] st fun st' => st'.cutK c.tys N o3 fun st2 => St.runR c.tys c.C N #[o1, o2, o3, o4] [o4] st2 (K .normal)) : WP c N X0 M w0 (.region id #[o1, o2, o3, o4] false) st K := fun hA β a w hs =>
  wp_region_lit (l := [o1, o2, o3, o4]) (runR_then hA c.hty c.hC (l2 := [o3, o4]) (fun a w ⟨st', β', h1, h2⟩ => by
    obtain ⟨q1, q2⟩ := cutK_sound (ops := #[o1, o2, o3, o4]) (Q := fun e a w => Ok N X0 M w0 (K e) a w) c.hty h2 h1
    unfold wpList
    rw [if_pos q1]
    exact .inl (Oper.wp_mono (fun a' w' ⟨st3, β3, h4, h5⟩ => runR_sound hA c.hty c.hC (fun a w hk => hk) [o4] h5 h4) q2)) [o1, o2] hs h)
end
end Go.Vc

/-
  DERIVED. Plain lists: what the program's loops keep while they grow a tree.
-/
namespace Go.Proofs.YtahcfcimfcjhhaaGreatDoor
set_option linter.unusedVariables false
set_option linter.unusedSimpArgs false
open Go.Pl
theorem namesAt_succ {n : Nat} {S : List NC} {k : Nat} (h : k < S.length) : namesAt n (S.take (k + 1)) = namesAt n (S.take k) ++ (if hl : n < S[k].1.length then [S[k].1[n]] else []) := by
  unfold namesAt
  rw [List.take_succ_eq_append_getElem h, List.filterMap_append]
  congr 1
  by_cases hl : n < S[k].1.length
  · rw [dif_pos hl]; simp [List.getElem?_eq_getElem hl]
  · rw [dif_neg hl]; simp [List.getElem?_eq_none (Nat.le_of_not_lt hl)]
theorem selA_take_skip {n : Nat} {a : ByteArray} {S : List NC} {k : Nat} (h : k < S.length) (hs : S[k].1[n]? ≠ some a) : selA n a (S.take (k + 1)) = selA n a (S.take k) := by
  unfold selA
  rw [List.take_succ_eq_append_getElem h, List.filter_append]
  simp [hs]
theorem selA_take {n : Nat} {a : ByteArray} {S : List NC} {k : Nat} (h : k < S.length) (hs : S[k].1[n]? = some a) : selA n a (S.take (k + 1)) = selA n a (S.take k) ++ [S[k]] := by
  unfold selA
  rw [List.take_succ_eq_append_getElem h, List.filter_append]
  simp [hs]
def selfP (n : Nat) (a : ByteArray) (S : List NC) (k : Nat) : Int := sumC (endC (n + 1) (selA n a (S.take k)))
def totP (n : Nat) (a : ByteArray) (S : List NC) (k : Nat) : Int := sumC (selA n a (S.take k))
def belN (n : Nat) (a : ByteArray) (S : List NC) (k : Nat) : List (List ByteArray) := (selA n a (S.take k)).map (·.1)
def belC (n : Nat) (a : ByteArray) (S : List NC) (k : Nat) : List Int := (selA n a (S.take k)).map (·.2)
theorem selfP_zero (n : Nat) (a : ByteArray) (S : List NC) : selfP n a S 0 = 0 := rfl
theorem totP_zero (n : Nat) (a : ByteArray) (S : List NC) : totP n a S 0 = 0 := rfl
theorem belN_zero (n : Nat) (a : ByteArray) (S : List NC) : belN n a S 0 = [] := rfl
theorem belC_zero (n : Nat) (a : ByteArray) (S : List NC) : belC n a S 0 = [] := rfl
theorem pK_skip {n : Nat} {a : ByteArray} {S : List NC} {k : Nat} (h : k < S.length) (hs : S[k].1[n]? ≠ some a) :
    selfP n a S (k + 1) = selfP n a S k ∧ totP n a S (k + 1) = totP n a S k ∧ belN n a S (k + 1) = belN n a S k ∧ belC n a S (k + 1) = belC n a S k := by
  unfold selfP totP belN belC
  rw [selA_take_skip h hs]
  exact ⟨rfl, rfl, rfl, rfl⟩
theorem pK_take {n : Nat} {a : ByteArray} {S : List NC} {k : Nat} (h : k < S.length) (hs : S[k].1[n]? = some a) :
    selfP n a S (k + 1) = selfP n a S k + (if S[k].1.length = n + 1 then S[k].2 else 0) ∧ totP n a S (k + 1) = totP n a S k + S[k].2 ∧ belN n a S (k + 1) = belN n a S k ++ [S[k].1] ∧ belC n a S (k + 1) = belC n a S k ++ [S[k].2] := by
  unfold selfP totP belN belC
  rw [selA_take h hs, sumC_app, endC_app, sumC_app, List.map_append, List.map_append]
  refine ⟨?_, by simp [sumC], rfl, rfl⟩
  congr 1
  unfold endC
  rw [List.filter_cons]
  by_cases he : S[k].1.length = n + 1
  · rw [if_pos (by simpa using he), if_pos he]; simp [sumC]
  · rw [if_neg (by simpa using he), if_neg he]; rfl
theorem node_allP (p : Int) (n : Nat) (a : ByteArray) (S : List NC) : (⟨p, a, selfP n a S S.length, totP n a S S.length⟩ : TreeNode) = nodeAt p n a S := by
  unfold nodeAt selfP totP
  rw [List.take_length]
theorem bel_zip (n : Nat) (a : ByteArray) (S : List NC) : (belN n a S S.length).zip (belC n a S S.length) = selA n a S := by
  unfold belN belC
  rw [List.take_length]
  generalize selA n a S = T
  induction T with
  | nil => rfl
  | cons x T ih => rw [List.map_cons, List.map_cons, List.zip_cons_cons, ih]
theorem selA_len (n : Nat) (a : ByteArray) (S : List NC) (k : Nat) : (selA n a (S.take k)).length ≤ S.length := by
  have h1 : (selA n a (S.take k)).length ≤ (S.take k).length := List.length_filter_le _ _
  have h2 := List.length_take_le' k S
  omega
theorem bel_len (n : Nat) (a : ByteArray) (S : List NC) (k : Nat) : (belN n a S k).length ≤ S.length ∧ (belC n a S k).length = (belN n a S k).length := by
  have := selA_len n a S k
  unfold belN belC
  rw [List.length_map, List.length_map]
  exact ⟨this, rfl⟩
theorem totP_bound {n : Nat} {a : ByteArray} {S : List NC} (h : ∀ x ∈ S, 0 ≤ x.2) (k : Nat) : 0 ≤ selfP n a S k ∧ selfP n a S k ≤ totP n a S k ∧ totP n a S k ≤ sumC S := by
  have h1 : ∀ x ∈ S.take k, 0 ≤ x.2 := fun x hx => h x (List.mem_of_mem_take hx)
  have h2 : ∀ x ∈ selA n a (S.take k), 0 ≤ x.2 := fun x hx => h1 x (List.mem_filter.1 hx).1
  have h3 := sumC_nn (S := endC (n + 1) (selA n a (S.take k))) fun x hx => h2 x (List.mem_filter.1 hx).1
  have h4 := sumC_filter (fun x => decide (x.1.length = n + 1)) h2
  have h5 := sumC_filter (fun x => decide (x.1[n]? = some a)) h1
  have h6 := sumC_app (S.take k) (S.drop k)
  rw [List.take_append_drop] at h6
  have h7 := sumC_nn (S := S.drop k) fun x hx => h x (List.mem_of_mem_drop hx)
  unfold selfP totP
  unfold endC at h3 ⊢
  unfold selA at h3 h4 ⊢
  omega
end Go.Proofs.YtahcfcimfcjhhaaGreatDoor

/-
  DERIVED. Plain lists: a list of byte strings, sorted and compacted by the library, is the ascending list of what is in it.
-/
namespace Go.Proofs.YtahcfcimfcjhhaaGreatDoor
set_option linter.unusedVariables false
set_option linter.unusedSimpArgs false
open Go.Pl Go.Vc
theorem bl_lt : ∀ x y : List UInt8, Op.bytesLess x y = true ↔ x < y
  | [], [] => by simp [Op.bytesLess]
  | [], _ :: _ => by simp [Op.bytesLess]
  | _ :: _, [] => by simp [Op.bytesLess]
  | a :: x, b :: y => by
    have ih := bl_lt x y
    simp only [Op.bytesLess, Bool.or_eq_true, decide_eq_true_eq, Bool.and_eq_true, beq_iff_eq, List.cons_lt_cons_iff, ih]
theorem bl_le (x y : List UInt8) : x ≤ y ↔ Op.bytesLess y x = false := by
  rw [← Bool.not_eq_true, bl_lt]; exact Iff.rfl
abbrev srt (L : List (List UInt8)) : List (List UInt8) := L.mergeSort fun x y => decide (x ≤ y)
theorem srt_asc (L : List (List UInt8)) : (srt L).Pairwise fun x y => Op.bytesLess y x = false := by
  have h := List.pairwise_mergeSort (le := fun x y : List UInt8 => decide (x ≤ y)) (fun a b c h1 h2 => by
    rw [decide_eq_true_eq, bl_le] at h1 h2 ⊢
    cases h : Op.bytesLess c a with
    | false => rfl
    | true =>
      exfalso
      by_cases e : a = b
      · subst e; rw [h2] at h; cases h
      · have h3 : Op.bytesLess a b = true := by
          cases h3 : Op.bytesLess a b with
          | true => rfl
          | false => exact absurd (bl_tri h3 h1) e
        have := bl_trans h h3
        rw [h2] at this; cases this) (fun a b => by
    simp only [Bool.or_eq_true, decide_eq_true_eq, bl_le]
    cases h : Op.bytesLess b a with
    | false => exact .inl rfl
    | true =>
      right
      cases h2 : Op.bytesLess a b with
      | false => rfl
      | true => have := bl_trans h h2; rw [bl_irrefl] at this; cases this) L
  exact h.imp fun h => (bl_le _ _).1 (of_decide_eq_true h)
theorem srt_mem {L : List (List UInt8)} {x : List UInt8} : x ∈ srt L ↔ x ∈ L := List.mem_mergeSort
/-- the first m places, compacted: what is in them, ascending -/
theorem comp_asc {d : Array (List UInt8)} (hd : ∀ i j, i < j → j < d.size → Op.bytesLess d[j]! d[i]! = false) : ∀ m, m ≤ d.size →
    (Lib.compactUpTo d m).Pairwise (fun x y => Op.bytesLess x y = true) ∧ ∀ x, x ∈ Lib.compactUpTo d m ↔ ∃ j, j < m ∧ d[j]! = x
  | 0, _ => ⟨.nil, fun x => by simp [Lib.compactUpTo]⟩
  | m + 1, hm => by
    obtain ⟨h1, h2⟩ := comp_asc hd m (by omega)
    rw [Lib.compactUpTo_succ]
    by_cases hk : Lib.keeps d m = true
    · rw [if_pos hk]
      refine ⟨List.pairwise_append.2 ⟨h1, by simp, fun x hx y hy => ?_⟩, fun x => ?_⟩
      · rw [List.mem_singleton] at hy; subst hy
        obtain ⟨j, hj, rfl⟩ := (h2 x).1 hx
        have e1 := hd j m hj (by omega)
        cases e2 : Op.bytesLess d[j]! d[m]! with
        | true => rfl
        | false =>
          exfalso
          have e3 := bl_tri e2 e1
          have hm0 : m ≠ 0 := by omega
          simp only [Lib.keeps, hm0, false_or, decide_eq_true_eq] at hk
          rcases Nat.lt_or_ge j (m - 1) with hj1 | hj1
          · have e4 := hd j (m - 1) hj1 (by omega)
            have e5 := hd (m - 1) m (by omega) (by omega)
            rw [← e3] at e5
            exact hk (e3.symm.trans (bl_tri e5 e4))
          · have : j = m - 1 := by omega
            subst this; exact hk e3.symm
      · rw [List.mem_append, h2, List.mem_singleton]
        constructor
        · rintro (⟨j, hj, rfl⟩ | rfl)
          · exact ⟨j, by omega, rfl⟩
          · exact ⟨m, by omega, rfl⟩
        · rintro ⟨j, hj, rfl⟩
          by_cases e : j = m
          · subst e; exact .inr rfl
          · exact .inl ⟨j, by omega, rfl⟩
    · rw [if_neg hk, List.append_nil]
      refine ⟨h1, fun x => ?_⟩
      rw [h2]
      constructor
      · rintro ⟨j, hj, rfl⟩; exact ⟨j, by omega, rfl⟩
      · rintro ⟨j, hj, rfl⟩
        by_cases e : j = m
        · subst e
          simp only [Lib.keeps, decide_eq_true_eq, not_or, Decidable.not_not] at hk
          exact ⟨j - 1, by omega, hk.2.symm⟩
        · exact ⟨j, by omega, rfl⟩
def byts (L : List ByteArray) : List (List UInt8) := L.map (·.data.toList)
theorem comp_all (L : List ByteArray) : (Lib.compact (srt (byts L))).map bts = allU L := by
  have hs := srt_asc (byts L)
  obtain ⟨h1, h2⟩ := comp_asc (d := (srt (byts L)).toArray) (fun i j hij hj => by
    have hj' : j < (srt (byts L)).length := by simpa using hj
    have := List.pairwise_iff_getElem.1 hs i j (by omega) hj' hij
    rw [getElem!_pos _ j hj, getElem!_pos _ i (by omega)]
    simpa using this) (srt (byts L)).toArray.size (Nat.le_refl _)
  have h3 : Lib.compact (srt (byts L)) = Lib.compactUpTo (srt (byts L)).toArray (srt (byts L)).toArray.size := by unfold Lib.compact; simp
  rw [← h3] at h1 h2
  refine asc_same ?_ (allU_asc L) fun t => ?_
  · unfold Asc
    rw [List.pairwise_map]
    refine h1.imp fun {a b} h => ?_
    show Op.bytesLess (bts a).toList (bts b).toList = true
    rw [ByteArray.toList_eq, ByteArray.toList_eq]
    simpa [bts] using h
  · rw [allU_mem, List.mem_map]
    constructor
    · rintro ⟨x, hx, rfl⟩
      obtain ⟨j, hj, rfl⟩ := (h2 x).1 hx
      have hm : (srt (byts L)).toArray[j]! ∈ srt (byts L) := by
        rw [getElem!_pos _ j hj]
        simp
      rw [srt_mem] at hm
      obtain ⟨s, hs', e⟩ := List.mem_map.1 hm
      rw [← e, bts_list]; exact hs'
    · intro ht
      refine ⟨t.data.toList, (h2 _).2 ?_, bts_list t⟩
      have hm : t.data.toList ∈ srt (byts L) := srt_mem.2 (List.mem_map.2 ⟨t, ht, rfl⟩)
      obtain ⟨j, hj, e⟩ := List.mem_iff_getElem.1 hm
      have hj' : j < (srt (byts L)).toArray.size := by simpa using hj
      exact ⟨j, hj', by rw [getElem!_pos _ j hj']; simpa using e⟩
end Go.Proofs.YtahcfcimfcjhhaaGreatDoor

/-
  DERIVED. The library's contracts, laid at this program: tables of numbers. Printed by the kit's tools (lay.py).
-/
namespace Go.Proofs
open Go.Shelf
def Tryz.l190_ren : Go.Shelf.Ren := ⟨fun | 190 => 80 | 125 => 96 | 258 => 103 | 128 => 123 | 129 => 124 | 302 => 132 | 303 => 133 | 304 => 134 | 305 => 135 | 306 => 136 | 307 => 137 | 308 => 138 | 309 => 139 | 310 => 140 | 333 => 160 | 329 => 149 | 330 => 150 | 334 => 161 | 335 => 162 | 336 => 163 | 344 => 171 | n => n, fun | 31 => 50 | 9 => 9 | 3 => 3 | 46 => 128 | 0 => 0 | 51 => 162 | 53 => 164 | 4 => 4 | 183 => 156 | 182 => 155 | 131 => 117 | 5 => 5 | 218 => 177 | 222 => 181 | 228 => 193 | 229 => 194 | n => n, fun | n => n⟩
theorem Tryz.l190 : Go.Proofs.Lays.n190 Tryz.prog Tryz.l190_ren := {
  mixed := by kernel_rfl
  f125 := Tryz.func96.trans (congrArg some (by kernel_rfl))
  f128 := Tryz.func123.trans (congrArg some (by kernel_rfl))
  f129 := Tryz.func124.trans (congrArg some (by kernel_rfl))
  f190 := Tryz.func80.trans (congrArg some (by kernel_rfl))
  f258 := Tryz.func103.trans (congrArg some (by kernel_rfl))
  f302 := Tryz.func132.trans (congrArg some (by kernel_rfl))
  f303 := Tryz.func133.trans (congrArg some (by kernel_rfl))
  f304 := Tryz.func134.trans (congrArg some (by kernel_rfl))
  f305 := Tryz.func135.trans (congrArg some (by kernel_rfl))
  f306 := Tryz.func136.trans (congrArg some (by kernel_rfl))
  f307 := Tryz.func137.trans (congrArg some (by kernel_rfl))
  f308 := Tryz.func138.trans (congrArg some (by kernel_rfl))
  f309 := Tryz.func139.trans (congrArg some (by kernel_rfl))
  f310 := Tryz.func140.trans (congrArg some (by kernel_rfl))
  f329 := Tryz.func149.trans (congrArg some (by kernel_rfl))
  f330 := Tryz.func150.trans (congrArg some (by kernel_rfl))
  f333 := Tryz.func160.trans (congrArg some (by kernel_rfl))
  f334 := Tryz.func161.trans (congrArg some (by kernel_rfl))
  f335 := Tryz.func162.trans (congrArg some (by kernel_rfl))
  f336 := Tryz.func163.trans (congrArg some (by kernel_rfl))
  f344 := Tryz.func171.trans (congrArg some (by kernel_rfl))
  t0 := Tryz.underlying0
  a0 := Tryz.isAgg0
  z0 := Tryz.sizeOf0
  v0 := Tryz.zeroValue0
  t3 := Tryz.underlying3
  a3 := Tryz.isAgg3
  z3 := Tryz.sizeOf3
  v3 := Tryz.zeroValue3
  t4 := Tryz.underlying4
  a4 := Tryz.isAgg4
  z4 := Tryz.sizeOf4
  v4 := Tryz.zeroValue4
  t5 := Tryz.underlying5
  a5 := Tryz.isAgg5
  z5 := Tryz.sizeOf5
  v5 := Tryz.zeroValue5
  t9 := Tryz.underlying9
  a9 := Tryz.isAgg9
  z9 := Tryz.sizeOf9
  v9 := Tryz.zeroValue9
  t31 := Tryz.underlying50
  a31 := Tryz.isAgg50
  z31 := Tryz.sizeOf50
  v31 := Tryz.zeroValue50
  t46 := Tryz.underlying128
  a46 := Tryz.isAgg128
  z46 := Tryz.sizeOf128
  v46 := Tryz.zeroValue128
  t51 := Tryz.underlying162
  a51 := Tryz.isAgg162
  z51 := Tryz.sizeOf162
  v51 := Tryz.zeroValue162
  t53 := Tryz.underlying164
  a53 := Tryz.isAgg164
  z53 := Tryz.sizeOf164
  v53 := Tryz.zeroValue164
  t131 := Tryz.underlying117
  a131 := Tryz.isAgg117
  z131 := Tryz.sizeOf117
  v131 := Tryz.zeroValue117
  t182 := Tryz.underlying155
  a182 := Tryz.isAgg155
  z182 := Tryz.sizeOf155
  v182 := Tryz.zeroValue155
  t183 := Tryz.underlying156
  a183 := Tryz.isAgg156
  z183 := Tryz.sizeOf156
  v183 := Tryz.zeroValue156
  t218 := Tryz.underlying177
  a218 := Tryz.isAgg177
  z218 := Tryz.sizeOf177
  v218 := Tryz.zeroValue177
  t222 := Tryz.underlying181
  a222 := Tryz.isAgg181
  z222 := Tryz.sizeOf181
  v222 := Tryz.zeroValue181
  t228 := Tryz.underlying193
  a228 := Tryz.isAgg193
  z228 := Tryz.sizeOf193
  v228 := Tryz.zeroValue193
  t229 := Tryz.underlying194
  a229 := Tryz.isAgg194
  z229 := Tryz.sizeOf194
  v229 := Tryz.zeroValue194 }
def Tryz.l194_ren : Go.Shelf.Ren := ⟨fun | 194 => 81 | n => n, fun | 31 => 50 | 9 => 9 | 3 => 3 | 4 => 4 | 0 => 0 | n => n, fun | n => n⟩
theorem Tryz.l194 : Go.Proofs.Lays.n194 Tryz.prog Tryz.l194_ren := {
  mixed := by kernel_rfl
  f194 := Tryz.func81.trans (congrArg some (by kernel_rfl))
  t0 := Tryz.underlying0
  a0 := Tryz.isAgg0
  z0 := Tryz.sizeOf0
  v0 := Tryz.zeroValue0
  t3 := Tryz.underlying3
  a3 := Tryz.isAgg3
  z3 := Tryz.sizeOf3
  v3 := Tryz.zeroValue3
  t4 := Tryz.underlying4
  a4 := Tryz.isAgg4
  z4 := Tryz.sizeOf4
  v4 := Tryz.zeroValue4
  t9 := Tryz.underlying9
  a9 := Tryz.isAgg9
  z9 := Tryz.sizeOf9
  v9 := Tryz.zeroValue9
  t31 := Tryz.underlying50
  a31 := Tryz.isAgg50
  z31 := Tryz.sizeOf50
  v31 := Tryz.zeroValue50 }
end Go.Proofs

/-
  DERIVED. slices.Sort and slices.Compact at []string, as contracts of a list that is lent, or given away.
-/
namespace Go.Vc
set_option linter.unusedVariables false
variable {P : Program} {f : FuncId}
/-- a call that is given one list and hands it back, cut -/
theorem HoldsL.cutBack {e s d : Nat} {rows rows' : List (List Value)} (hd : d < 900000) (hlr : rows'.length ≤ rows.length) (hl1 : ∀ r ∈ rows', r.length = s)
    (hone : ∀ r ∈ rows', ∀ u ∈ r, u.oneCell' = true)
    (hnil : rows = [] → ∀ (w : World), Calls P f ((Value.slice none 0 0 :: []).toArray) w fun en w' => en = .returned (.slice none 0 0) ∧ Go.RowKit.Below w.heap.size w w')
    (h : ∀ (w : World) (b cap : Nat) (cur : Array Value), Grd P w → w.heap[b]? = some (.cells cur e (0, 0)) → rows.length ≤ cap → cap ≤ maxLen → cur.size = cap * s →
      (∀ (i k : Nat) (r : List Value) (u : Value), rows[i]? = some r → r[k]? = some u → cur[i * s + k]? = some u ∧ u.oneCell' = true) →
      Calls P f ((Value.slice (some ⟨b, 0, none⟩) rows.length cap :: []).toArray) w fun en w' => en = .returned (.slice (some ⟨b, 0, none⟩) rows'.length cap) ∧ ∃ cur', Upd w w' b e cur cur' ∧
        ∀ (i k : Nat) (r : List Value) (u : Value), rows'[i]? = some r → r[k]? = some u → cur'[i * s + k]? = some u) :
    HoldsL P f [.own 900000] [(900000, .sl e s (vrows rows))] (.own d) [(d, .sl e s (vrows rows'))] [] := by
  intro w X β vs hG hβ hX hl ha hobs hlent
  match vs, hl, ha with
  | [v0], hl, ha =>
    have hv0 := (ha 0 _ v0 rfl rfl).own_inv
    subst hv0
    have hO := hobs.1 900000 (.sl e s (vrows rows)) (by simp [lk])
    have hnoblk : ∀ {id ob}, lk id ([(d, Ob.sl e s (vrows rows'))] ++ []) = some ob → id = d ∧ ob = .sl e s (vrows rows') := fun {id ob} hi => by
      simp only [List.append_nil, lk] at hi
      split at hi
      · rename_i he; cases hi; exact ⟨he, rfl⟩
      · cases hi
    have inj : ∀ (β' : Nat → Value) (i j : Nat) (oi oj : Ob) (b : Nat), lk i ([(d, Ob.sl e s (vrows rows'))] ++ []) = some oi → lk j ([(d, Ob.sl e s (vrows rows'))] ++ []) = some oj → blk (β' i) = some b → blk (β' j) = some b → i = j :=
      fun β' i j oi oj b hi hj _ _ => (hnoblk hi).1.trans (hnoblk hj).1.symm
    have hnone : ∀ i ob, 1000000 ≤ i → lk i [(900000, Ob.sl e s (vrows rows))] = some ob → False := fun i ob h1 hi => by
      simp only [lk] at hi
      rw [if_neg (by omega)] at hi; cases hi
    rcases hO.sl_form with ⟨h0, hrows⟩ | ⟨b, cap, cur, us0, hv, hh, h1, h2, h3, h4, h5⟩
    · have hr : rows = [] := by simpa [vrows] using hrows
      rw [h0]
      refine (hnil hr w).mono fun en w' ⟨he, hb⟩ => ?_
      have hr' : rows' = [] := List.eq_nil_of_length_eq_zero (by rw [hr] at hlr; simpa using hlr)
      refine ⟨_, fun i => if i = d then .slice none 0 0 else β i, he, hb.os, hb.tape, hb.output, hb.size, fun b hlt _ => hb.block b hlt, fun i => ?_, fun i ob h1 hi => (hnone i ob h1 hi).elim, ?_, ⟨fun id ob hi => ?_, inj _⟩, fun id ob b hi hbb => ?_⟩
      · by_cases hi : i = d
        · simp [hi, Value.oneCell']
        · simp only [hi, if_false]; exact hβ i
      · have := R.own (w := w') (X := XX X (fun i => if i = d then .slice none 0 0 else β i) ([(d, Ob.sl e s (vrows rows'))] ++ [])) (β := fun i => if i = d then .slice none 0 0 else β i) d
        simpa using this
      · obtain ⟨rfl, rfl⟩ := hnoblk hi
        rw [hr']
        exact .nil e s (by simp)
      · obtain ⟨rfl, rfl⟩ := hnoblk (by simpa using hi)
        simp [blk] at hbb
    · have hbv' : β 900000 = .slice (some ⟨b, 0, none⟩) rows.length cap := by rw [hv]; simp [vrows]
      have hcell : ∀ (i k : Nat) (r : List Value) (u : Value), rows[i]? = some r → r[k]? = some u → cur[i * s + k]? = some u ∧ u.oneCell' = true := fun i k r u hr hu => by
        have e1 : (vrows rows)[i]? = some (r.map SV.v) := by unfold vrows; rw [List.getElem?_map, hr]; rfl
        have e2 : (r.map SV.v)[k]? = some (.v u) := by rw [List.getElem?_map, hu]; rfl
        obtain ⟨e5, e4, e3⟩ := h5 i k _ _ e1 e2
        generalize us0 i k = y at e3 e4 e5
        cases e3
        exact ⟨e5, e4⟩
      have hrl : rows.length ≤ cap := by simpa [vrows] using h1
      rw [hbv']
      refine (h w b cap cur hG hh hrl h2 h3 hcell).mono fun en w' ⟨he, cur', hU, hc'⟩ => ?_
      have hblk : blk (β 900000) = some b := by rw [hbv']; rfl
      refine ⟨_, fun i => if i = d then .slice (some ⟨b, 0, none⟩) rows'.length cap else β i, he, hU.os, hU.tape, hU.output, hU.size, fun k hk hn => hU.other k hk fun hkb => hn ⟨900000, .sl e s (vrows rows), by simp [lk], by rw [hkb]; exact hblk⟩, fun i => ?_, fun i ob h1 hi => (hnone i ob h1 hi).elim, ?_, ⟨fun id ob hi => ?_, inj _⟩, fun id ob b' hi hbb => ?_⟩
      · by_cases hi : i = d
        · simp [hi, Value.oneCell']
        · simp only [hi, if_false]; exact hβ i
      · have := R.own (w := w') (X := XX X (fun i => if i = d then .slice (some ⟨b, 0, none⟩) rows'.length cap else β i) ([(d, Ob.sl e s (vrows rows'))] ++ [])) (β := fun i => if i = d then .slice (some ⟨b, 0, none⟩) rows'.length cap else β i) d
        simpa using this
      · obtain ⟨rfl, rfl⟩ := hnoblk hi
        refine .sl b cap cur' (fun i k => (cur'[i * s + k]?).getD undef) (by simp [vrows]) hU.cells (by simp [vrows]; omega) h2 (by rw [hU.len]; exact h3) (fun i row hr => vrows_len hr hl1) (fun i k row c hr hc => ?_) (fun i k row c hr hc => ?_) (fun i k row c hr hc => ?_)
        · obtain ⟨r, u, g1, g2, rfl⟩ := vrows_get hr hc
          rw [hc' i k r u g1 g2]; rfl
        · obtain ⟨r, u, g1, g2, rfl⟩ := vrows_get hr hc
          rw [hc' i k r u g1 g2]; exact hone r (List.mem_of_getElem? g1) u (List.mem_of_getElem? g2)
        · obtain ⟨r, u, g1, g2, rfl⟩ := vrows_get hr hc
          rw [hc' i k r u g1 g2]; exact .v u
      · obtain ⟨rfl, rfl⟩ := hnoblk (by simpa using hi)
        simp only [if_true, blk, Option.some.injEq] at hbb
        subst hbb
        exact .inr ⟨900000, .sl e s (vrows rows), by simp [lk], by omega, hblk⟩
end Go.Vc
namespace Go.Proofs.YtahcfcimfcjhhaaGreatDoor
open Go.Vc
set_option linter.unusedVariables false
theorem vrowsC (L : List ByteArray) : vrows (L.map fun b => [Value.string b]) = L.map encS := by
  unfold vrows
  rw [List.map_map]; rfl
def sortS (x : List ByteArray) : List ByteArray := (srt (byts x)).map bts
def compS (x : List ByteArray) : List ByteArray := (Lib.compact (byts x)).map bts
theorem byts_bts (l : List (List UInt8)) : byts (l.map bts) = l := by
  unfold byts
  rw [List.map_map]
  conv => rhs; rw [← List.map_id l]
  apply List.map_congr_left
  intro a _
  simp [bts]
theorem sortS_len (x : List ByteArray) : (sortS x).length = x.length := by simp [sortS, byts]
theorem comp_sort (x : List ByteArray) : compS (sortS x) = allU x := by unfold compS sortS; rw [byts_bts]; exact comp_all x
theorem compS_len (x : List ByteArray) : (compS x).length ≤ x.length := by
  have := Lib.compact_length_le (byts x)
  simpa [compS, byts] using this
theorem encBts (l : List UInt8) : Go.Proofs.encStr l = .string (bts l) := rfl
def kSortS : Ctr := len [0] [] (fun args obs => decS (oR obs 1000000)) (fun x => [.own 1000000]) (fun x => [(1000000, .sl 9 1 (x.map encS))]) (fun x => x.length ≤ 2097152)
  (fun _ x => .tup []) (fun _ _ => []) (fun x => [(1000000, .sl 9 1 ((sortS x).map encS))])
theorem cSortS : Cn Tryz.prog 80 kSortS := by
  refine Cn.len Tryz.func80 (by kernel_rfl) rfl fun d x hd hx => ?_
  have h := HoldsL.cells (P := Tryz.prog) (f := 80) (e := 9) (s := 1) (rows := x.map fun b => [Value.string b]) (rows' := (sortS x).map fun b => [Value.string b]) (rest := [])
    (fun r hr => by obtain ⟨b, _, rfl⟩ := List.mem_map.1 hr; rfl) (by simp [sortS_len]) (fun r hr => by obtain ⟨b, _, rfl⟩ := List.mem_map.1 hr; rfl)
    (fun r hr u hu => by obtain ⟨b, _, rfl⟩ := List.mem_map.1 hr; simp only [List.mem_cons, List.not_mem_nil, or_false] at hu; subst hu; rfl)
    (fun hn w us hl ha => by
      have : us = [] := List.eq_nil_of_length_eq_zero (by simpa using hl)
      subst this
      exact (Any.slices_Sort_string_none Tryz.l190 none 0 w).mono fun en w' ⟨he, hw⟩ => ⟨he, by rw [hw]; exact Go.RowKit.Below.refl _ _⟩)
    (fun c hc => by simp at hc)
    (fun w b cap cur us hG hh hrc hcm hsz hcell hl ha => by
      have : us = [] := List.eq_nil_of_length_eq_zero (by simpa using hl)
      subst this
      have hrc1 : x.length ≤ cap := by simpa using hrc
      have hH : Go.Sort.Holds Go.Proofs.encStr w b 0 (byts x).toArray := holds_cells hh (fun j hj => by
        have hj1 : j < x.length := by simpa [byts] using hj
        have h2 := (hcell j 0 [Value.string x[j]] (.string x[j]) (by rw [List.getElem?_map, List.getElem?_eq_getElem hj1]; rfl) rfl).1
        have e : (byts x).toArray[j]! = x[j].data.toList := by
          rw [getElem!_pos (byts x).toArray j hj]; simp [byts]
        rw [e, encBts, bts_list]
        simpa using h2)
      have hs := Any.slices_Sort_string Tryz.l190 b 0 cap (byts x) w hH (lt_of_heap hh) (by simp [byts]; omega)
      rw [show (byts x).length = x.length by simp [byts]] at hs
      rw [List.length_map]
      refine hs.mono fun en w' ⟨he, n, os, hw⟩ => ⟨he, ?_⟩
      have hup := upd_putRow (w := w) (b := b) (e := 9) (cur := cur) Go.Proofs.encStr n (srt (byts x)).toArray os hh (by simp [byts]; omega)
      rw [← hw] at hup
      refine ⟨_, hup.1, fun i k r u hr hu => ?_⟩
      rw [List.getElem?_map] at hr
      cases hx : (sortS x)[i]? with
      | none => rw [hx] at hr; cases hr
      | some y =>
        rw [hx] at hr
        simp only [Option.map_some, Option.some.injEq] at hr
        subst hr
        have hi : i < (sortS x).length := (List.getElem?_eq_some_iff.1 hx).1
        have hy : (sortS x)[i] = y := (List.getElem?_eq_some_iff.1 hx).2
        match k, hu with
        | 0, hu =>
          simp only [List.getElem?_cons_zero, Option.some.injEq] at hu
          subst hu
          have hi2 : i < (srt (byts x)).toArray.size := by simpa [sortS] using hi
          have h3 := hup.2 i hi2
          have e : bts (srt (byts x)).toArray[i]! = y := by
            rw [getElem!_pos (srt (byts x)).toArray i hi2, ← hy]
            simp [sortS]
          rw [Nat.mul_one, Nat.add_zero, h3, encBts, e]
        | k + 1, hu => simp at hu)
  rw [vrowsC, vrowsC] at h
  exact h
def kCompS : Ctr := len [] [0] (fun args obs => decS (oR obs 900000)) (fun x => [.own 900000]) (fun x => [(900000, .sl 9 1 (x.map encS))]) (fun x => x.length ≤ 2097152)
  (fun d _ => .own d) (fun d x => [(d, .sl 9 1 ((compS x).map encS))]) (fun _ => [])
theorem cCompS : Cn Tryz.prog 81 kCompS := by
  refine Cn.len Tryz.func81 (by kernel_rfl) rfl fun d x hd hx => ?_
  have h := HoldsL.cutBack (P := Tryz.prog) (f := 81) (e := 9) (s := 1) (d := d) (rows := x.map fun b => [Value.string b]) (rows' := (compS x).map fun b => [Value.string b]) hd
    (by simp [compS_len]) (fun r hr => by obtain ⟨b, _, rfl⟩ := List.mem_map.1 hr; rfl)
    (fun r hr u hu => by obtain ⟨b, _, rfl⟩ := List.mem_map.1 hr; simp only [List.mem_cons, List.not_mem_nil, or_false] at hu; subst hu; rfl)
    (fun hn w => (Any.slices_Compact_string_empty Tryz.l194 none 0 w).mono fun en w' ⟨he, hw⟩ => ⟨he, by rw [hw]; exact Go.RowKit.Below.refl _ _⟩)
    (fun w b cap cur hG hh hrc hcm hsz hcell => by
      have hrc1 : x.length ≤ cap := by simpa using hrc
      have hH : Go.Sort.Holds Go.Proofs.encStr w b 0 (byts x).toArray := holds_cells hh (fun j hj => by
        have hj1 : j < x.length := by simpa [byts] using hj
        have h2 := (hcell j 0 [Value.string x[j]] (.string x[j]) (by rw [List.getElem?_map, List.getElem?_eq_getElem hj1]; rfl) rfl).1
        have e : (byts x).toArray[j]! = x[j].data.toList := by
          rw [getElem!_pos (byts x).toArray j hj]; simp [byts]
        rw [e, encBts, bts_list]
        simpa using h2)
      have hbl : (byts x).length = x.length := by simp [byts]
      have hs := Any.slices_Compact_string Tryz.l194 b 0 cap (byts x) w hH (by omega) (by omega)
      have hcl := compS_len x
      have hcl2 : (Lib.compact (byts x)).length = (compS x).length := by simp [compS]
      rw [hbl, hcl2] at hs
      rw [List.length_map, List.length_map]
      refine hs.mono fun en w' ⟨he, n, hw⟩ => ⟨he, ?_⟩
      have hup := upd_putRow (w := w) (b := b) (e := 9) (cur := cur) Go.Proofs.encStr n (Lib.compact (byts x) ++ List.replicate (x.length - (compS x).length) []).toArray #[] hh (by simp; omega)
      have hgn : ∀ w : World, Go.Sort.grow w #[] = w := fun w => by unfold Go.Sort.grow; simp
      rw [hgn, ← hw] at hup
      refine ⟨_, hup.1, fun i k r u hr hu => ?_⟩
      rw [List.getElem?_map] at hr
      cases hx : (compS x)[i]? with
      | none => rw [hx] at hr; cases hr
      | some y =>
        rw [hx] at hr
        simp only [Option.map_some, Option.some.injEq] at hr
        subst hr
        have hi : i < (compS x).length := (List.getElem?_eq_some_iff.1 hx).1
        have hy : (compS x)[i] = y := (List.getElem?_eq_some_iff.1 hx).2
        match k, hu with
        | 0, hu =>
          simp only [List.getElem?_cons_zero, Option.some.injEq] at hu
          subst hu
          have hi2 : i < (Lib.compact (byts x) ++ List.replicate (x.length - (compS x).length) []).toArray.size := by simp; omega
          have h3 := hup.2 i hi2
          have e : bts (Lib.compact (byts x) ++ List.replicate (x.length - (compS x).length) []).toArray[i]! = y := by
            rw [getElem!_pos _ i hi2, ← hy]
            have hi3 : i < (Lib.compact (byts x)).length := by omega
            simp [compS, List.getElem_append_left hi3]
          rw [Nat.mul_one, Nat.add_zero, h3, encBts, e]
        | k + 1, hu => simp at hu)
  rw [vrowsC, vrowsC] at h
  exact h
end Go.Proofs.YtahcfcimfcjhhaaGreatDoor

namespace Go.Proofs.YtahcfcimfcjhhaaGreatDoor
open Go.Vc
attribute [local go_sem] St.runR St.runW St.stepV offV St.step St.stepU St.stepG mkCond guardB St.prK St.pr St.prLen St.eff St.callE St.callD St.callF St.callL aI aB aS aR aC St.isM St.argL Ctr.pure Ctr.lend Ctr.move Ctr.isL Ctr.wri pur len lentBy St.lentV St.lent1 nthS argsR restOf obsR pairs swapL unObs backL St.resL erL SV.ren1 SV.up SV.up2 Ob.up St.fzL cellIds partIds St.intoRow SV.ownId St.fz SV.fz1 St.prep St.mvL St.mv SV.re1 rnOk St.prEq vals eqCells scEq Value.kd St.prStr St.prCut cutR St.bnd St.prMin St.bld isShift outL retL outJ oR oC St.ev St.get St.put St.new St.kill SV.kill SV.kill1 Ob.kill St.app St.wrt St.rowsOf St.res St.killL lk er argsL SV.strip SV.need SV.share SV.share1 SV.owns SV.owns1 SV.owns2 SV.good SV.good1 SV.rok SV.rok1 SV.rok2 SV.isV SV.isV2 nodupN SV.cells SV.one SV.pur Ob.pb partsIn rowsIn splice cellsAt dstOk scal2 scal1 thenK blockK retK outK outs okC okL okA okT nilC nilL nilA nilT keepC keepL keepA keepT St.runG St.dltK St.least St.clean St.final St.hide offK badS badO SV.refs SV.leaf SV.leaf2 Ob.refs dlOk fpAt Go.Vc.cover tups SV.ofAgg St.out outC subL St.has rng wr Value.oneCell' Option.isSome_some Option.isSome_none List.nil_append Bool.false_eq_true List.map_cons List.map_nil List.all_cons List.all_nil List.length_cons List.length_nil List.drop_zero List.drop_succ_cons List.take_succ_cons List.take_zero List.drop_nil List.take_nil List.getElem?_cons_zero List.getElem?_cons_succ List.getElem?_nil List.cons_append List.nil_append List.append_nil List.append_assoc List.flatMap_cons List.flatMap_nil List.contains_cons List.contains_nil List.set_cons_zero List.set_cons_succ List.getElem?_toArray Option.getD_some Option.getD_none Option.map_some Option.map_none Option.bind_some Option.some.injEq Prod.mk.injEq if_true if_false true_and and_true and_self and_false false_and Bool.and_false Bool.false_and Bool.or_true Bool.true_or Bool.or_false Bool.false_or ne_eq not_true_eq_false not_false_eq_true decide_true decide_false List.mem_cons List.not_mem_nil List.filter_cons List.filter_nil List.any_cons List.any_nil List.isEmpty_nil List.isEmpty_cons Option.getD_none or_false false_or true_or or_true forall_eq_or_imp forall_eq reduceCtorEq exists_eq exists_eq' exists_eq_left' exists_eq_left exists_eq_right exists_eq_right' imp_self implies_true Bool.and_true Bool.true_and Bool.and_self beq_self_eq_true List.replicate_succ List.replicate_zero forall_const false_implies pickB_or pickB_and beqT beqF Int.toNat_natCast List.length_map List.length_replicate ge_iff_le gt_iff_lt decide_eq_true_eq decide_eq_false_iff_not Bool.and_eq_true Bool.or_eq_true Bool.not_eq_true' Bool.not_eq_false' condG List.toList_toArray Bool.or_eq_false_iff Bool.and_eq_false_iff Int.not_lt Int.not_le beq_iff_eq beq_eq_false_iff_ne bne_iff_ne bne_eq_false_iff_eq ne_eq Bool.not_true Bool.not_false exists_and_left
section
open Go.Vc
set_option linter.unusedSimpArgs false
set_option linter.unusedVariables false
set_option maxHeartbeats 1000000
set_option maxRecDepth 10000
attribute [local irreducible] Go.Vc.WP
attribute [local go_sem] cx0_t cx0_c
open Go.Pl
attribute [local go_sem] isV_S isV_TreeNode decS_enc decI_enc aU decTreeNode_enc decSS_enc St.fzS addL behind St.runO St.stepO St.clrK St.cutK
abbrev GrX := List TreeNode × Int × List (List ByteArray) × List Int × Nat
def preGr (f : Nat) (x : GrX) : Prop :=
  (x.2.2.1.length = x.2.2.2.1.length ∧ x.2.2.1.length ≤ 1048576 ∧ x.2.2.2.2 ≤ 1048576 ∧ x.1.length + wtN x.2.2.2.2 (x.2.2.1.zip x.2.2.2.1) ≤ 1099511627776) ∧
  (∀ l ∈ x.2.2.1, l.length ≤ x.2.2.2.2 + f ∧ l.length ≤ 1048576) ∧ (∀ c ∈ x.2.2.2.1, 0 ≤ c) ∧ x.2.2.2.1.sum ≤ 1000000000000
def grO (f : Nat) (x : GrX) : List TreeNode := growP f x.1 x.2.1 x.2.2.2.2 (x.2.2.1.zip x.2.2.2.1)
def kGr (f : Nat) : Ctr := len [] [0] (fun args obs => ((decTreeNode (oR obs 900000), aI args 1, decSS (aR args 2), decI (aR args 3), (aI args 4).toNat) : GrX))
  (fun x => [.own 900000, .v (.int .i64 x.2.1), .sl 1 (x.2.2.1.map encSS), .sl 1 (x.2.2.2.1.map encI), .v (.int .i64 x.2.2.2.2)]) (fun x => [(900000, .sl 49 4 (x.1.map encTreeNode))]) (preGr f)
  (fun d _ => .own d) (fun d x => [(d, .sl 49 4 ((grO f x).map encTreeNode))]) (fun _ => [])
noncomputable def cxGr (f : Nat) (h : Cn Tryz.prog 43 (kGr f)) : Cx := { P := Tryz.prog, tys := tys, C := [(80, kSortS), (81, kCompS), (43, kGr f)], hty := tysOk, hC := COk.cons (cSortS) (COk.cons (cCompS) (COk.cons (h) (COk.nil _))) }
theorem cxGr_t (f : Nat) (h : Cn Tryz.prog 43 (kGr f)) : (cxGr f h).tys = tys := rfl
theorem cxGr_c (f : Nat) (h : Cn Tryz.prog 43 (kGr f)) : (cxGr f h).C = [(80, kSortS), (81, kCompS), (43, kGr f)] := rfl
attribute [local go_sem] cxGr_t cxGr_c kSortS kCompS kGr
set_option maxHeartbeats 4000000 in
theorem grStep (f : Nat) (ih : Cn Tryz.prog 43 (kGr f)) : Cn Tryz.prog 43 (kGr (f + 1)) := by
  refine Cn.len Tryz.func43 (by kernel_rfl) rfl fun d x hd hx => ?_
  obtain ⟨out, p, Ss, Cs, n⟩ := x
  obtain ⟨⟨h1, h2, h3, h4⟩, h5, h6, h7⟩ := hx
  simp only at h1 h2 h3 h4 h5 h6 h7 ⊢
  obtain ⟨Z, hZ⟩ : ∃ Z, Z = Ss.zip Cs := ⟨_, rfl⟩
  have hzl : Z.length = Ss.length := by rw [hZ, List.length_zip, ← h1, Nat.min_self]
  have hZc : ∀ x ∈ Z, 0 ≤ x.2 := fun x hx => by
    subst hZ
    exact h6 _ (List.of_mem_zip hx).2
  have hZs : sumC Z = Cs.sum := by subst hZ; exact sumC_zip h1
  have hZ1 : ∀ i (hi : i < Ss.length) (hj : i < Z.length), Z[i].1 = Ss[i] := by subst hZ; exact fun i hi hj => by rw [List.getElem_zip]
  have hZ2 : ∀ i (hi : i < Cs.length) (hj : i < Z.length), Z[i].2 = Cs[i] := by subst hZ; exact fun i hi hj => by rw [List.getElem_zip]
  have hvis : grO (f + 1) (out, p, Ss, Cs, n) = growP (f + 1) out p n Z := by unfold grO; rw [hZ]
  rw [← hZ] at h4
  have hgl := fun i (hi : i < (nextS n Z).length) => growK_len f p n Z out hi
  have hgs := fun i (hi : i < (nextS n Z).length) => growK_succ (f := f) (p := p) hi out
  have hga := growK_all f p n Z out
  have hgz := growK_zero f p n Z out
  have hnl : (nextS n Z).length ≤ 1048576 := by
    have e1 := nextS_len n Z
    omega
  have hcs : compS (sortS (namesAt n Z)) = nextS n Z := comp_sort _
  have hnal := namesAt_len n Z
  generalize hNX : nextS n Z = NX at *
  refine HoldsL.go (c := (cxGr f ih)) Tryz.func43 rfl Tryz.results43 Tryz.ntmps43 (by omega) (by simp) rfl (by simp <;> omega) (by simp [SV.owns2, SV.owns, SV.owns1]) (by simp) rfl rfl (by simp) ?_
  intro X0 M w0
  (repeat' (first | refine WP.seq ?_ | refine WP.block ?_ | ((first | refine WP.region ?_ | refine WP.condW ?_ | refine WP.ret ?_ | refine WP.exit ?_ | refine WP.skip ?_); simp only [go_sem, tyAll, Nat.reduceAdd, Nat.reduceLT, Nat.reduceLeDiff, Nat.reduceEqDiff, Nat.reduceMul, Nat.reduceSub, Nat.reduceGT, reduceIte, Int.reduceNeg, Int.reduceToNat]) | ((first | refine WP.drawW 7 (by decide +kernel) (by kernel_rfl) ?_); simp only [go_sem, tyAll, Nat.reduceAdd, Nat.reduceLT, Nat.reduceLeDiff, Nat.reduceEqDiff, Nat.reduceMul, Nat.reduceSub, Nat.reduceGT, reduceIte, Int.reduceNeg, Int.reduceToNat]) |  refine And.intro ?_ ?_ | intro _))
  all_goals first | omega | skip
  refine WP.loop (fun k : Nat => ⟨[(0, .own 900000), (1, .v (.int .i64 p)), (2, .sl 1 (Ss.map encSS)), (3, .sl 1 (Cs.map encI)), (4, .v (.int .i64 n)), (11, .own 21), (22, .sl 1 (Ss.map encSS)), (23, .v (.int .i64 Ss.length)), (24, .v (.int .i64 k))],
      [(900000, .sl 49 4 (out.map encTreeNode)), (21, .sl 9 1 ((namesAt n (Z.take k)).map encS))]⟩) (fun k => k ≤ Ss.length) (fun k => Ss.length - k) 0 (by simp) ?_ ?_
  · have h0 : namesAt n (Z.take 0) = [] := rfl
    (simp only [go_sem, h0, tyAll, Nat.reduceAdd, Nat.reduceLT, Nat.reduceLeDiff, Nat.reduceEqDiff, Nat.reduceMul, Nat.reduceSub, Nat.reduceGT, reduceIte, Int.reduceNeg, Int.reduceToNat] <;> (first | rfl | exact ⟨rfl, rfl⟩ | exact ⟨rfl, rfl, rfl⟩ | exact ⟨rfl, rfl, rfl, rfl⟩ | exact ⟨rfl, rfl, rfl, rfl, rfl⟩ | exact ⟨⟨rfl, rfl⟩, rfl⟩ | simp))
  intro k hk
  by_cases hlt : k < Ss.length
  rotate_left
  · have hge : ¬ (k : Int) < Ss.length := by omega
    obtain rfl : k = Ss.length := by omega
    rw [← hzl, List.take_length]
    generalize namesAt n Z = NA at *
    (repeat' (first | refine WP.seq ?_ | refine WP.block ?_ | ((first | refine WP.region ?_ | refine WP.condW ?_ | refine WP.ret ?_ | refine WP.exit ?_ | refine WP.skip ?_); simp only [go_sem, hge, hcs, tyAll, Nat.reduceAdd, Nat.reduceLT, Nat.reduceLeDiff, Nat.reduceEqDiff, Nat.reduceMul, Nat.reduceSub, Nat.reduceGT, reduceIte, Int.reduceNeg, Int.reduceToNat]) | ((first | refine WP.drawW 7 (by decide +kernel) (by kernel_rfl) ?_); simp only [go_sem, hge, hcs, tyAll, Nat.reduceAdd, Nat.reduceLT, Nat.reduceLeDiff, Nat.reduceEqDiff, Nat.reduceMul, Nat.reduceSub, Nat.reduceGT, reduceIte, Int.reduceNeg, Int.reduceToNat]) |  refine And.intro ?_ ?_ | intro _))
    all_goals first | omega | (rw [sortS_len]; omega) | skip
    refine WP.prep [43] [(900000, 60)] rfl ?_
    refine WP.loopP [] [(118, 60)] rfl (fun i : Nat => ⟨[(0, .own 60), (1, .v (.int .i64 p)), (2, .sl 1 (Ss.map encSS)), (3, .sl 1 (Cs.map encI)), (4, .v (.int .i64 n)), (43, .sl 1 (NX.map encS)), (44, .v (.int .i64 NX.length)), (45, .v (.int .i64 i))],
        [(60, .sl 49 4 ((growK f p n Z i out).map encTreeNode))]⟩) (fun i => i ≤ NX.length) (fun i => NX.length - i) 0 (by simp) ?_ ?_
    · (simp only [go_sem, hgz, tyAll, Nat.reduceAdd, Nat.reduceLT, Nat.reduceLeDiff, Nat.reduceEqDiff, Nat.reduceMul, Nat.reduceSub, Nat.reduceGT, reduceIte, Int.reduceNeg, Int.reduceToNat] <;> (first | rfl | exact ⟨rfl, rfl⟩ | exact ⟨rfl, rfl, rfl⟩ | exact ⟨rfl, rfl, rfl, rfl⟩ | exact ⟨rfl, rfl, rfl, rfl, rfl⟩ | exact ⟨⟨rfl, rfl⟩, rfl⟩ | simp))
    intro i hi
    by_cases hin : i < NX.length
    rotate_left
    · have hige : ¬ (i : Int) < NX.length := by omega
      obtain rfl : i = NX.length := by omega
      (repeat' (first | refine WP.seq ?_ | refine WP.block ?_ | ((first | refine WP.region ?_ | refine WP.condW ?_ | refine WP.ret ?_ | refine WP.exit ?_ | refine WP.skip ?_); simp only [go_sem, hige, tyAll, Nat.reduceAdd, Nat.reduceLT, Nat.reduceLeDiff, Nat.reduceEqDiff, Nat.reduceMul, Nat.reduceSub, Nat.reduceGT, reduceIte, Int.reduceNeg, Int.reduceToNat]) | ((first | refine WP.drawW 7 (by decide +kernel) (by kernel_rfl) ?_); simp only [go_sem, hige, tyAll, Nat.reduceAdd, Nat.reduceLT, Nat.reduceLeDiff, Nat.reduceEqDiff, Nat.reduceMul, Nat.reduceSub, Nat.reduceGT, reduceIte, Int.reduceNeg, Int.reduceToNat]) |  refine And.intro ?_ ?_ | intro _))
      all_goals first | omega | skip
      rw [hvis, ← hga]
    have hini : (i : Int) < NX.length := by omega
    have hr := rowAt_map encS NX i hin
    have hgl1 := hgl i hin
    have hgs1 := hgs i hin
    have hmemN : NX[i] ∈ nextS n Z := by rw [hNX]; exact List.getElem_mem hin
    have hlenP : n + 1 ≤ 1048576 := by
      obtain ⟨x, hx, hxa⟩ := nextS_mem.1 hmemN
      rw [hZ] at hx
      have e2 := (h5 _ (List.of_mem_zip hx).1).2
      have e3 := (List.getElem?_eq_some_iff.1 hxa).1
      omega
    generalize growK f p n Z i out = G at *
    generalize NX[i] = a at *
    have hnode := node_allP p n a Z
    have hfold : G.map encTreeNode ++ [[.v (.int .i64 p), .v (.string a), .v (.int .i64 (selfP n a Z Z.length)), .v (.int .i64 (totP n a Z Z.length))]] = (G ++ [nodeAt p n a Z]).map encTreeNode := by
      rw [← hnode, List.map_append]; rfl
    have hbz := bel_zip n a Z
    have hbl := bel_len n a Z Z.length
    have hv : grO f (G ++ [nodeAt p n a Z], (G.length : Int), belN n a Z Z.length, belC n a Z Z.length, n + 1) = growK f p n Z (i + 1) out := by
      rw [hgs1]; unfold grO; simp only [hbz]
    have hpre : preGr f (G ++ [nodeAt p n a Z], (G.length : Int), belN n a Z Z.length, belC n a Z Z.length, n + 1) := by
      refine ⟨⟨by simp only; omega, by simp only; omega, hlenP, ?_⟩, fun l hl => ?_, fun c hc => ?_, ?_⟩
      · simp only [hbz, List.length_append, List.length_singleton]
        omega
      · simp only [belN, List.take_length] at hl ⊢
        obtain ⟨y, hy, rfl⟩ := List.mem_map.1 hl
        have g1 := selA_sub y hy
        rw [hZ] at g1
        have := h5 _ (List.of_mem_zip g1).1
        omega
      · simp only [belC, List.take_length] at hc
        obtain ⟨y, hy, rfl⟩ := List.mem_map.1 hc
        exact hZc y (selA_sub y hy)
      · have g1 := (totP_bound (n := n) (a := a) hZc Z.length).2.2
        have g2 : totP n a Z Z.length = (belC n a Z Z.length).sum := rfl
        simp only
        omega
    (repeat' (first | refine WP.seq ?_ | refine WP.block ?_ | ((first | refine WP.region ?_ | refine WP.condW ?_ | refine WP.ret ?_ | refine WP.exit ?_ | refine WP.skip ?_); simp only [go_sem, hini, hr, encS, tyAll, Nat.reduceAdd, Nat.reduceLT, Nat.reduceLeDiff, Nat.reduceEqDiff, Nat.reduceMul, Nat.reduceSub, Nat.reduceGT, reduceIte, Int.reduceNeg, Int.reduceToNat]) | ((first | refine WP.drawW 7 (by decide +kernel) (by kernel_rfl) ?_); simp only [go_sem, hini, hr, encS, tyAll, Nat.reduceAdd, Nat.reduceLT, Nat.reduceLeDiff, Nat.reduceEqDiff, Nat.reduceMul, Nat.reduceSub, Nat.reduceGT, reduceIte, Int.reduceNeg, Int.reduceToNat]) |  refine And.intro ?_ ?_ | intro _))
    all_goals first | omega | exact rlS1 ‹_› | skip
    refine WP.loop (fun j : Nat => ⟨[(0, .own 60), (1, .v (.int .i64 p)), (2, .sl 1 (Ss.map encSS)), (3, .sl 1 (Cs.map encI)), (4, .v (.int .i64 n)), (15, .v (.string a)), (16, .ptr 16 0 0 0), (17, .own 52), (18, .own 53), (43, .sl 1 (NX.map encS)), (44, .v (.int .i64 NX.length)), (45, .v (.int .i64 i)), (54, .sl 1 (Ss.map encSS)), (55, .v (.int .i64 Ss.length)), (56, .v (.int .i64 j))],
        [(60, .sl 49 4 (G.map encTreeNode)), (16, .box 49 [.v (.int .i64 p), .v (.string a), .v (.int .i64 (selfP n a Z j)), .v (.int .i64 (totP n a Z j))]), (52, .sl 50 1 ((belN n a Z j).map encSS)), (53, .sl 3 1 ((belC n a Z j).map encI))]⟩) (fun j => j ≤ Ss.length) (fun j => Ss.length - j) 0 (by simp) ?_ ?_
    · (simp only [go_sem, selfP_zero, totP_zero, belN_zero, belC_zero, tyAll, Nat.reduceAdd, Nat.reduceLT, Nat.reduceLeDiff, Nat.reduceEqDiff, Nat.reduceMul, Nat.reduceSub, Nat.reduceGT, reduceIte, Int.reduceNeg, Int.reduceToNat] <;> (first | rfl | exact ⟨rfl, rfl⟩ | exact ⟨rfl, rfl, rfl⟩ | exact ⟨rfl, rfl, rfl, rfl⟩ | exact ⟨rfl, rfl, rfl, rfl, rfl⟩ | exact ⟨⟨rfl, rfl⟩, rfl⟩ | simp))
    intro j hj
    have bd := totP_bound (n := n) (a := a) hZc j
    have blj := bel_len n a Z j
    by_cases hjl : j < Ss.length
    rotate_left
    · have hjn : ¬ (j : Int) < Ss.length := by omega
      obtain rfl : j = Ss.length := by omega
      rw [← hzl]
      refine WP.prep [52, 53] [] rfl ?_
      have hGl : ((G ++ [nodeAt p n a Z]).length : Int) - 1 = (G.length : Int) := by simp
      have hGn : (G ++ [nodeAt p n a Z]).length = G.length + 1 := by simp
      have hn1 : ((n : Int) + 1).toNat = n + 1 := by omega
      rw [← hzl] at hjn
      (repeat' (first | refine WP.seq ?_ | refine WP.block ?_ | ((first | refine WP.region ?_ | refine WP.condW ?_ | refine WP.ret ?_ | refine WP.exit ?_ | refine WP.skip ?_); simp only [go_sem, hjn, hfold, hGl, hn1, tyAll, Nat.reduceAdd, Nat.reduceLT, Nat.reduceLeDiff, Nat.reduceEqDiff, Nat.reduceMul, Nat.reduceSub, Nat.reduceGT, reduceIte, Int.reduceNeg, Int.reduceToNat]) | ((first | refine WP.drawW 7 (by decide +kernel) (by kernel_rfl) ?_); simp only [go_sem, hjn, hfold, hGl, hn1, tyAll, Nat.reduceAdd, Nat.reduceLT, Nat.reduceLeDiff, Nat.reduceEqDiff, Nat.reduceMul, Nat.reduceSub, Nat.reduceGT, reduceIte, Int.reduceNeg, Int.reduceToNat]) |  refine And.intro ?_ ?_ | intro _))
      all_goals first | omega | exact hpre.1.1 | exact hpre.1.2.1 | exact hpre.1.2.2.1 | exact hpre.1.2.2.2 | exact (hpre.2.1 _ ‹_›).1 | exact (hpre.2.1 _ ‹_›).2 | exact hpre.2.2.1 _ ‹_› | exact hpre.2.2.2 | rfl | skip
      all_goals first | exact ⟨i + 1, by omega, by omega, by rw [← hv]; (first | rfl | exact ⟨rfl, rfl⟩ | exact ⟨rfl, rfl, rfl⟩ | exact ⟨rfl, rfl, rfl, rfl⟩ | exact ⟨rfl, rfl, rfl, rfl, rfl⟩ | exact ⟨⟨rfl, rfl⟩, rfl⟩ | simp)⟩ | trace_state
    have hji : (j : Int) < Ss.length := by omega
    have hrj := rowAt_map encSS Ss j hjl
    have hjc : j < Cs.length := by omega
    have hrc := rowAt_map encI Cs j hjc
    have bd2 := totP_bound (n := n) (a := a) hZc (j + 1)
    have e1 := hZ1 j hjl (by omega)
    have e2 := hZ2 j hjc (by omega)
    by_cases hgt : n < Ss[j].length
    rotate_left
    · have hgti : (Ss[j].length : Int) ≤ n := by omega
      obtain ⟨e3, e4, e5, e6⟩ := pK_skip (n := n) (a := a) (S := Z) (k := j) (by omega) (by rw [e1, List.getElem?_eq_none (by omega)]; simp)
      have lk0 : lk 0 tys = none := rfl
      (repeat' (first | (refine WP.regionO (id := 17) ?_; simp only [go_sem, hji, hrj, encSS, hgti, lk0, tyAll, Nat.reduceAdd, Nat.reduceLT, Nat.reduceLeDiff, Nat.reduceEqDiff, Nat.reduceMul, Nat.reduceSub, Nat.reduceGT, reduceIte, Int.reduceNeg, Int.reduceToNat]) | refine WP.seq ?_ | refine WP.block ?_ | ((first | refine WP.region ?_ | refine WP.condW ?_ | refine WP.ret ?_ | refine WP.exit ?_ | refine WP.skip ?_); simp only [go_sem, hji, hrj, encSS, hgti, lk0, tyAll, Nat.reduceAdd, Nat.reduceLT, Nat.reduceLeDiff, Nat.reduceEqDiff, Nat.reduceMul, Nat.reduceSub, Nat.reduceGT, reduceIte, Int.reduceNeg, Int.reduceToNat]) | ((first | refine WP.drawW 7 (by decide +kernel) (by kernel_rfl) ?_); simp only [go_sem, hji, hrj, encSS, hgti, lk0, tyAll, Nat.reduceAdd, Nat.reduceLT, Nat.reduceLeDiff, Nat.reduceEqDiff, Nat.reduceMul, Nat.reduceSub, Nat.reduceGT, reduceIte, Int.reduceNeg, Int.reduceToNat]) |  refine And.intro ?_ ?_ | intro _))
      all_goals first | omega | skip
      all_goals first | exact ⟨j + 1, by omega, by omega, by simp only [e3, e4, e5, e6]; (first | rfl | exact ⟨rfl, rfl⟩ | exact ⟨rfl, rfl, rfl⟩ | exact ⟨rfl, rfl, rfl, rfl⟩ | exact ⟨rfl, rfl, rfl, rfl, rfl⟩ | exact ⟨⟨rfl, rfl⟩, rfl⟩ | simp)⟩ | trace_state
    have hgti : ¬ (Ss[j].length : Int) ≤ n := by omega
    have hgti2 : (n : Int) < Ss[j].length := by omega
    have hra := rowAt_map encS Ss[j] n hgt
    by_cases hb : Ss[j][n] = a
    rotate_left
    · have hbF : (Ss[j][n] = a) = False := eq_false hb
      obtain ⟨e3, e4, e5, e6⟩ := pK_skip (n := n) (a := a) (S := Z) (k := j) (by omega) (by rw [e1, List.getElem?_eq_getElem hgt]; simpa using hb)
      (repeat' (first | refine WP.seq ?_ | refine WP.block ?_ | ((first | refine WP.region ?_ | refine WP.condW ?_ | refine WP.ret ?_ | refine WP.exit ?_ | refine WP.skip ?_); simp only [go_sem, hji, hrj, encSS, hgti, hgti2, hra, encS, hbF, tyAll, Nat.reduceAdd, Nat.reduceLT, Nat.reduceLeDiff, Nat.reduceEqDiff, Nat.reduceMul, Nat.reduceSub, Nat.reduceGT, reduceIte, Int.reduceNeg, Int.reduceToNat]) | ((first | refine WP.drawW 7 (by decide +kernel) (by kernel_rfl) ?_); simp only [go_sem, hji, hrj, encSS, hgti, hgti2, hra, encS, hbF, tyAll, Nat.reduceAdd, Nat.reduceLT, Nat.reduceLeDiff, Nat.reduceEqDiff, Nat.reduceMul, Nat.reduceSub, Nat.reduceGT, reduceIte, Int.reduceNeg, Int.reduceToNat]) |  refine And.intro ?_ ?_ | intro _))
      all_goals first | omega | skip
      all_goals first | exact ⟨j + 1, by omega, by omega, by simp only [e3, e4, e5, e6]; (first | rfl | exact ⟨rfl, rfl⟩ | exact ⟨rfl, rfl, rfl⟩ | exact ⟨rfl, rfl, rfl, rfl⟩ | exact ⟨rfl, rfl, rfl, rfl, rfl⟩ | exact ⟨⟨rfl, rfl⟩, rfl⟩ | simp)⟩ | trace_state
    obtain ⟨e3, e4, e5, e6⟩ := pK_take (n := n) (a := a) (S := Z) (k := j) (by omega) (by rw [e1, List.getElem?_eq_getElem hgt, hb])
    rw [e1, e2] at e3
    rw [e2] at e4 e6
    rw [e1] at e5
    by_cases hle : Ss[j].length = n + 1
    · have hlei : (Ss[j].length : Int) = n + 1 := by omega
      rw [if_pos hle] at e3
      (repeat' (first | refine WP.seq ?_ | refine WP.block ?_ | ((first | refine WP.region ?_ | refine WP.condW ?_ | refine WP.ret ?_ | refine WP.exit ?_ | refine WP.skip ?_); simp only [go_sem, hji, hrj, encSS, hgti, hgti2, hra, encS, hb, hrc, encI, hlei, tyAll, Nat.reduceAdd, Nat.reduceLT, Nat.reduceLeDiff, Nat.reduceEqDiff, Nat.reduceMul, Nat.reduceSub, Nat.reduceGT, reduceIte, Int.reduceNeg, Int.reduceToNat]) | ((first | refine WP.drawW 7 (by decide +kernel) (by kernel_rfl) ?_); simp only [go_sem, hji, hrj, encSS, hgti, hgti2, hra, encS, hb, hrc, encI, hlei, tyAll, Nat.reduceAdd, Nat.reduceLT, Nat.reduceLeDiff, Nat.reduceEqDiff, Nat.reduceMul, Nat.reduceSub, Nat.reduceGT, reduceIte, Int.reduceNeg, Int.reduceToNat]) |  refine And.intro ?_ ?_ | intro _))
      all_goals first | omega | skip
      all_goals first | exact ⟨j + 1, by omega, by omega, by simp only [e3, e4, e5, e6, List.map_append]; simp [encSS, encI]⟩ | trace_state
    · have hlei : ¬ (Ss[j].length : Int) = n + 1 := by omega
      rw [if_neg hle, Int.add_zero] at e3
      (repeat' (first | refine WP.seq ?_ | refine WP.block ?_ | ((first | refine WP.region ?_ | refine WP.condW ?_ | refine WP.ret ?_ | refine WP.exit ?_ | refine WP.skip ?_); simp only [go_sem, hji, hrj, encSS, hgti, hgti2, hra, encS, hb, hrc, encI, hlei, tyAll, Nat.reduceAdd, Nat.reduceLT, Nat.reduceLeDiff, Nat.reduceEqDiff, Nat.reduceMul, Nat.reduceSub, Nat.reduceGT, reduceIte, Int.reduceNeg, Int.reduceToNat]) | ((first | refine WP.drawW 7 (by decide +kernel) (by kernel_rfl) ?_); simp only [go_sem, hji, hrj, encSS, hgti, hgti2, hra, encS, hb, hrc, encI, hlei, tyAll, Nat.reduceAdd, Nat.reduceLT, Nat.reduceLeDiff, Nat.reduceEqDiff, Nat.reduceMul, Nat.reduceSub, Nat.reduceGT, reduceIte, Int.reduceNeg, Int.reduceToNat]) |  refine And.intro ?_ ?_ | intro _))
      all_goals first | omega | skip
      all_goals first | exact ⟨j + 1, by omega, by omega, by simp only [e3, e4, e5, e6, List.map_append]; simp [encSS, encI]⟩ | trace_state
  have hli : (k : Int) < Ss.length := by omega
  have hr := rowAt_map encSS Ss k hlt
  have hna := namesAt_succ (n := n) (S := Z) (k := k) (by omega)
  have hkl := namesAt_len n (Z.take k)
  rw [List.length_take] at hkl
  have e1 := hZ1 k hlt (by omega)
  simp only [e1] at hna
  by_cases hg : n < Ss[k].length
  · have hgi : (n : Int) < Ss[k].length := by omega
    have hr2 := rowAt_map encS Ss[k] n hg
    rw [dif_pos hg] at hna
    (repeat' (first | refine WP.seq ?_ | refine WP.block ?_ | ((first | refine WP.region ?_ | refine WP.condW ?_ | refine WP.ret ?_ | refine WP.exit ?_ | refine WP.skip ?_); simp only [go_sem, hli, hr, encSS, hgi, hr2, encS, tyAll, Nat.reduceAdd, Nat.reduceLT, Nat.reduceLeDiff, Nat.reduceEqDiff, Nat.reduceMul, Nat.reduceSub, Nat.reduceGT, reduceIte, Int.reduceNeg, Int.reduceToNat]) | ((first | refine WP.drawW 7 (by decide +kernel) (by kernel_rfl) ?_); simp only [go_sem, hli, hr, encSS, hgi, hr2, encS, tyAll, Nat.reduceAdd, Nat.reduceLT, Nat.reduceLeDiff, Nat.reduceEqDiff, Nat.reduceMul, Nat.reduceSub, Nat.reduceGT, reduceIte, Int.reduceNeg, Int.reduceToNat]) |  refine And.intro ?_ ?_ | intro _))
    all_goals first | omega | skip
    all_goals first | exact ⟨k + 1, by omega, by omega, by rw [hna, List.map_append]; (first | rfl | exact ⟨rfl, rfl⟩ | exact ⟨rfl, rfl, rfl⟩ | exact ⟨rfl, rfl, rfl, rfl⟩ | exact ⟨rfl, rfl, rfl, rfl, rfl⟩ | exact ⟨⟨rfl, rfl⟩, rfl⟩ | simp)⟩ | trace_state
  · have hgi : ¬ (n : Int) < Ss[k].length := by omega
    rw [dif_neg hg, List.append_nil] at hna
    (repeat' (first | refine WP.seq ?_ | refine WP.block ?_ | ((first | refine WP.region ?_ | refine WP.condW ?_ | refine WP.ret ?_ | refine WP.exit ?_ | refine WP.skip ?_); simp only [go_sem, hli, hr, encSS, hgi, tyAll, Nat.reduceAdd, Nat.reduceLT, Nat.reduceLeDiff, Nat.reduceEqDiff, Nat.reduceMul, Nat.reduceSub, Nat.reduceGT, reduceIte, Int.reduceNeg, Int.reduceToNat]) | ((first | refine WP.drawW 7 (by decide +kernel) (by kernel_rfl) ?_); simp only [go_sem, hli, hr, encSS, hgi, tyAll, Nat.reduceAdd, Nat.reduceLT, Nat.reduceLeDiff, Nat.reduceEqDiff, Nat.reduceMul, Nat.reduceSub, Nat.reduceGT, reduceIte, Int.reduceNeg, Int.reduceToNat]) |  refine And.intro ?_ ?_ | intro _))
    all_goals first | omega | skip
    all_goals first | exact ⟨k + 1, by omega, by omega, by rw [hna]; (first | rfl | exact ⟨rfl, rfl⟩ | exact ⟨rfl, rfl, rfl⟩ | exact ⟨rfl, rfl, rfl, rfl⟩ | exact ⟨rfl, rfl, rfl, rfl, rfl⟩ | exact ⟨⟨rfl, rfl⟩, rfl⟩ | simp)⟩ | trace_state
noncomputable def cxGr0 : Cx := { P := Tryz.prog, tys := tys, C := [(80, kSortS), (81, kCompS)], hty := tysOk, hC := COk.cons (cSortS) (COk.cons (cCompS) (COk.nil _)) }
theorem cxGr0_t : cxGr0.tys = tys := rfl
theorem cxGr0_c : cxGr0.C = [(80, kSortS), (81, kCompS)] := rfl
attribute [local go_sem] cxGr0_t cxGr0_c
theorem compS_nil : compS (sortS []) = [] := by rw [comp_sort]; rfl
theorem grBase : Cn Tryz.prog 43 (kGr 0) := by
  refine Cn.len Tryz.func43 (by kernel_rfl) rfl fun d x hd hx => ?_
  obtain ⟨out, p, Ss, Cs, n⟩ := x
  obtain ⟨⟨h1, h2, h3, h4⟩, h5, h6, h7⟩ := hx
  simp only at h1 h2 h3 h4 h5 h6 h7 ⊢
  have hvis : grO 0 (out, p, Ss, Cs, n) = out := rfl
  have hd0 : decS [] = [] := rfl
  have hc0 := compS_nil
  have hm0 : List.map encS [] = [] := rfl
  refine HoldsL.go (c := cxGr0) Tryz.func43 rfl Tryz.results43 Tryz.ntmps43 (by omega) (by simp) rfl (by simp <;> omega) (by simp [SV.owns2, SV.owns, SV.owns1]) (by simp) rfl rfl (by simp) ?_
  intro X0 M w0
  (repeat' (first | refine WP.seq ?_ | refine WP.block ?_ | ((first | refine WP.region ?_ | refine WP.condW ?_ | refine WP.ret ?_ | refine WP.exit ?_ | refine WP.skip ?_); simp only [go_sem, tyAll, Nat.reduceAdd, Nat.reduceLT, Nat.reduceLeDiff, Nat.reduceEqDiff, Nat.reduceMul, Nat.reduceSub, Nat.reduceGT, reduceIte, Int.reduceNeg, Int.reduceToNat]) | ((first | refine WP.drawW 7 (by decide +kernel) (by kernel_rfl) ?_); simp only [go_sem, tyAll, Nat.reduceAdd, Nat.reduceLT, Nat.reduceLeDiff, Nat.reduceEqDiff, Nat.reduceMul, Nat.reduceSub, Nat.reduceGT, reduceIte, Int.reduceNeg, Int.reduceToNat]) |  refine And.intro ?_ ?_ | intro _))
  all_goals first | omega | skip
  refine WP.loop (fun k : Nat => ⟨[(0, .own 900000), (1, .v (.int .i64 p)), (2, .sl 1 (Ss.map encSS)), (3, .sl 1 (Cs.map encI)), (4, .v (.int .i64 n)), (11, .own 21), (22, .sl 1 (Ss.map encSS)), (23, .v (.int .i64 Ss.length)), (24, .v (.int .i64 k))],
      [(900000, .sl 49 4 (out.map encTreeNode)), (21, .sl 9 1 (([] : List ByteArray).map encS))]⟩) (fun k => k ≤ Ss.length) (fun k => Ss.length - k) 0 (by simp) ?_ ?_
  · (simp only [go_sem, tyAll, Nat.reduceAdd, Nat.reduceLT, Nat.reduceLeDiff, Nat.reduceEqDiff, Nat.reduceMul, Nat.reduceSub, Nat.reduceGT, reduceIte, Int.reduceNeg, Int.reduceToNat] <;> (first | rfl | exact ⟨rfl, rfl⟩ | exact ⟨rfl, rfl, rfl⟩ | exact ⟨rfl, rfl, rfl, rfl⟩ | exact ⟨rfl, rfl, rfl, rfl, rfl⟩ | exact ⟨⟨rfl, rfl⟩, rfl⟩ | simp))
  intro k hk
  by_cases hlt : k < Ss.length
  rotate_left
  · have hge : ¬ (k : Int) < Ss.length := by omega
    have hsl : (sortS []).length = 0 := sortS_len []
    generalize hE : ([] : List ByteArray) = E0 at *
    (repeat' (first | refine WP.seq ?_ | refine WP.block ?_ | ((first | refine WP.region ?_ | refine WP.condW ?_ | refine WP.ret ?_ | refine WP.exit ?_ | refine WP.skip ?_); simp only [go_sem, hge, hc0, tyAll, Nat.reduceAdd, Nat.reduceLT, Nat.reduceLeDiff, Nat.reduceEqDiff, Nat.reduceMul, Nat.reduceSub, Nat.reduceGT, reduceIte, Int.reduceNeg, Int.reduceToNat]) | ((first | refine WP.drawW 7 (by decide +kernel) (by kernel_rfl) ?_); simp only [go_sem, hge, hc0, tyAll, Nat.reduceAdd, Nat.reduceLT, Nat.reduceLeDiff, Nat.reduceEqDiff, Nat.reduceMul, Nat.reduceSub, Nat.reduceGT, reduceIte, Int.reduceNeg, Int.reduceToNat]) |  refine And.intro ?_ ?_ | intro _))
    all_goals first | omega | (rw [← hE]; simp; done) | (rw [sortS_len, ← hE]; simp; done) | skip
    refine WP.prep [43] [(900000, 60)] rfl ?_
    subst hE
    refine WP.loop (fun _ : Nat => ⟨[(0, .own 60), (1, .v (.int .i64 p)), (2, .sl 1 (Ss.map encSS)), (3, .sl 1 (Cs.map encI)), (4, .v (.int .i64 n)), (43, .sl 1 []), (44, .v (.int .i64 0)), (45, .v (.int .i64 0))],
        [(60, .sl 49 4 (out.map encTreeNode))]⟩) (fun _ => True) (fun i => i) 0 (by simp) ?_ ?_
    · (simp only [go_sem, tyAll, Nat.reduceAdd, Nat.reduceLT, Nat.reduceLeDiff, Nat.reduceEqDiff, Nat.reduceMul, Nat.reduceSub, Nat.reduceGT, reduceIte, Int.reduceNeg, Int.reduceToNat] <;> (first | rfl | exact ⟨rfl, rfl⟩ | exact ⟨rfl, rfl, rfl⟩ | exact ⟨rfl, rfl, rfl, rfl⟩ | exact ⟨rfl, rfl, rfl, rfl, rfl⟩ | exact ⟨⟨rfl, rfl⟩, rfl⟩ | simp))
    intro i _
    have hz : ¬ (0 : Int) < 0 := by omega
    (repeat' (first | refine WP.seq ?_ | refine WP.block ?_ | ((first | refine WP.region ?_ | refine WP.condW ?_ | refine WP.ret ?_ | refine WP.exit ?_ | refine WP.skip ?_); simp only [go_sem, hz, tyAll, Nat.reduceAdd, Nat.reduceLT, Nat.reduceLeDiff, Nat.reduceEqDiff, Nat.reduceMul, Nat.reduceSub, Nat.reduceGT, reduceIte, Int.reduceNeg, Int.reduceToNat]) | ((first | refine WP.drawW 7 (by decide +kernel) (by kernel_rfl) ?_); simp only [go_sem, hz, tyAll, Nat.reduceAdd, Nat.reduceLT, Nat.reduceLeDiff, Nat.reduceEqDiff, Nat.reduceMul, Nat.reduceSub, Nat.reduceGT, reduceIte, Int.reduceNeg, Int.reduceToNat]) |  refine And.intro ?_ ?_ | intro _))
    all_goals first | omega | skip
    all_goals rw [hvis]
  have hli : (k : Int) < Ss.length := by omega
  have hr := rowAt_map encSS Ss k hlt
  have hg := (h5 _ (List.getElem_mem hlt)).1
  have hgi : ¬ (n : Int) < Ss[k].length := by omega
  (repeat' (first | refine WP.seq ?_ | refine WP.block ?_ | ((first | refine WP.region ?_ | refine WP.condW ?_ | refine WP.ret ?_ | refine WP.exit ?_ | refine WP.skip ?_); simp only [go_sem, hli, hr, encSS, hgi, tyAll, Nat.reduceAdd, Nat.reduceLT, Nat.reduceLeDiff, Nat.reduceEqDiff, Nat.reduceMul, Nat.reduceSub, Nat.reduceGT, reduceIte, Int.reduceNeg, Int.reduceToNat]) | ((first | refine WP.drawW 7 (by decide +kernel) (by kernel_rfl) ?_); simp only [go_sem, hli, hr, encSS, hgi, tyAll, Nat.reduceAdd, Nat.reduceLT, Nat.reduceLeDiff, Nat.reduceEqDiff, Nat.reduceMul, Nat.reduceSub, Nat.reduceGT, reduceIte, Int.reduceNeg, Int.reduceToNat]) |  refine And.intro ?_ ?_ | intro _))
  all_goals first | omega | skip
  all_goals first | exact ⟨k + 1, by omega, by omega, by (first | rfl | exact ⟨rfl, rfl⟩ | exact ⟨rfl, rfl, rfl⟩ | exact ⟨rfl, rfl, rfl, rfl⟩ | exact ⟨rfl, rfl, rfl, rfl, rfl⟩ | exact ⟨⟨rfl, rfl⟩, rfl⟩ | simp)⟩ | trace_state
theorem cGr : ∀ f, Cn Tryz.prog 43 (kGr f)
  | 0 => grBase
  | f + 1 => grStep f (cGr f)
end
section
open Go.Vc
set_option linter.unusedSimpArgs false
set_option linter.unusedVariables false
set_option maxHeartbeats 1000000
set_option maxRecDepth 10000
attribute [local irreducible] Go.Vc.WP
attribute [local go_sem] cx0_t cx0_c
open Go.Pl
attribute [local go_sem] isV_Node isV_It isV_Entry isV_S isV_TreeNode decNode_enc decFrame_enc oneFrame_enc stkA oneFrame_ab oneNode_abc decI_enc decS_enc aU prA decEntry_enc decTreeNode_enc decSS_enc St.fzS addL behind
noncomputable def cxTrI (f : Nat) : Cx := { P := Tryz.prog, tys := tys, C := [(41, kPrOk), (36, kEntZ), (42, kNamesZ), (43, kGr f)], hty := tysOk, hC := COk.cons (cPrOkI) (COk.cons (cEntZI) (COk.cons (cNamesI) (COk.cons (cGr f) (COk.nil _)))) }
theorem cxTrI_t (f : Nat) : (cxTrI f).tys = tys := rfl
theorem cxTrI_c (f : Nat) : (cxTrI f).C = [(41, kPrOk), (36, kEntZ), (42, kNamesZ), (43, kGr f)] := rfl
attribute [local go_sem] cxTrI_t cxTrI_c kPrOk kEntZ kNamesZ kGr
theorem cTreeI : Cn Tryz.prog 15 kTree := by
  refine Cn.pur Tryz.func15 (by kernel_rfl) rfl fun d x hx => ?_
  obtain ⟨N, C⟩ := x
  obtain ⟨⟨hN, hs⟩, hC⟩ := hx
  simp only at hN hs hC ⊢
  have hlen := entriesOf_len N C
  refine Holds.go (c := (cxTrI N.length)) Tryz.func15 rfl Tryz.results15 Tryz.ntmps15 (by omega) (by simp) rfl ?_
  intro X0 w0
  cases hp : profileOk N C with
  | false =>
    have he : entriesOf N C = [] := if_neg (by rw [hp]; simp)
    have ht : treeOf N C = [] := by
      unfold treeOf ncP
      rw [he]
      exact growP_zero (fun x hx => by cases hx) _
    (repeat' (first | refine WP.seq ?_ | refine WP.block ?_ | ((first | refine WP.region ?_ | refine WP.condW ?_ | refine WP.ret ?_ | refine WP.exit ?_ | refine WP.skip ?_); simp only [go_sem, hp, ht, tyAll, Nat.reduceAdd, Nat.reduceLT, Nat.reduceLeDiff, Nat.reduceEqDiff, Nat.reduceMul, Nat.reduceSub, Nat.reduceGT, reduceIte, Int.reduceNeg, Int.reduceToNat]) |  refine And.intro ?_ ?_ | intro _))
    all_goals first | omega | (simp only; omega) | exact Nat.le_trans (hs _ ‹_›) (by omega) | exact ⟨_, _, rfl⟩ | skip
    all_goals trace_state
  | true =>
  (repeat' (first | refine WP.seq ?_ | refine WP.block ?_ | ((first | refine WP.region ?_ | refine WP.condW ?_ | refine WP.ret ?_ | refine WP.exit ?_ | refine WP.skip ?_); simp only [go_sem, hp, tyAll, Nat.reduceAdd, Nat.reduceLT, Nat.reduceLeDiff, Nat.reduceEqDiff, Nat.reduceMul, Nat.reduceSub, Nat.reduceGT, reduceIte, Int.reduceNeg, Int.reduceToNat]) |  refine And.intro ?_ ?_ | intro _))
  all_goals first | omega | (simp only; omega) | exact Nat.le_trans (hs _ ‹_›) (by omega) | exact ⟨_, _, _, rfl⟩ | skip
  have hE1 : ∀ e ∈ entriesOf N C, (namesE e).length ≤ N.length ∧ e.stack.size ≤ 2147483648 := fun e he => by
    have g1 : (namesE e).length ≤ N.length := by
      obtain ⟨_, _, _, g, _⟩ := ent_frs he
      unfold namesE; rw [List.length_map]; exact g
    have g2 := entriesOf_size he
    omega
  have hE2 : ∀ e ∈ entriesOf N C, 0 ≤ e.count := fun e he => by
    have := (entriesOf_mem he).2
    obtain ⟨_, _, _, _, g, _⟩ := this
    omega
  have hE3 : ((entriesOf N C).map (·.count)).sum ≤ 1000000000000 := by
    have g1 := sumE_entries N C
    have g2 := totalOf_bound N C
    unfold sumE at g1
    omega
  have htr : treeOf N C = growP N.length [] (-1) 0 (ncP N C) := rfl
  unfold ncP at htr
  rw [← ncP_zip] at htr
  generalize entriesOf N C = E at *
  refine WP.loop (fun k : Nat => ⟨[(3, .own 10), (4, .own 11), (13, .sl 2 (E.map encEntry)), (14, .v (.int .i64 E.length)), (15, .v (.int .i64 k))],
      [(10, .sl 50 1 (((E.map namesE).take k).map encSS)), (11, .sl 3 1 (((E.map (·.count)).take k).map encI))]⟩) (fun k => k ≤ E.length) (fun k => E.length - k) 0 (by simp) ?_ ?_
  · (simp only [go_sem, tyAll, Nat.reduceAdd, Nat.reduceLT, Nat.reduceLeDiff, Nat.reduceEqDiff, Nat.reduceMul, Nat.reduceSub, Nat.reduceGT, reduceIte, Int.reduceNeg, Int.reduceToNat] <;> (first | rfl | exact ⟨rfl, rfl⟩ | exact ⟨rfl, rfl, rfl⟩ | exact ⟨rfl, rfl, rfl, rfl⟩ | exact ⟨rfl, rfl, rfl, rfl, rfl⟩ | exact ⟨⟨rfl, rfl⟩, rfl⟩ | simp))
  intro k hk
  by_cases hlt : k < E.length
  · have hli : (k : Int) < E.length := by omega
    have hr := rowAt_map encEntry E k hlt
    have hz := hE1 _ (List.getElem_mem hlt)
    have hnm : (frsS E[k].stack).map (·.name) = namesE E[k] := rfl
    have t1 : ((E.map namesE).take (k + 1)).map encSS = ((E.map namesE).take k).map encSS ++ [[.sl 1 ((namesE E[k]).map encS)]] := by
      rw [List.take_succ_eq_append_getElem (by rw [List.length_map]; exact hlt), List.map_append, List.getElem_map]; rfl
    have t2 : ((E.map (·.count)).take (k + 1)).map encI = ((E.map (·.count)).take k).map encI ++ [[.v (.int .i64 E[k].count)]] := by
      rw [List.take_succ_eq_append_getElem (by rw [List.length_map]; exact hlt), List.map_append, List.getElem_map]; rfl
    (repeat' (first | refine WP.seq ?_ | refine WP.block ?_ | ((first | refine WP.region ?_ | refine WP.condW ?_ | refine WP.ret ?_ | refine WP.exit ?_ | refine WP.skip ?_); simp only [go_sem, hli, hr, encEntry, hnm, tyAll, Nat.reduceAdd, Nat.reduceLT, Nat.reduceLeDiff, Nat.reduceEqDiff, Nat.reduceMul, Nat.reduceSub, Nat.reduceGT, reduceIte, Int.reduceNeg, Int.reduceToNat]) |  refine And.intro ?_ ?_ | intro _))
    all_goals first | omega | exact hz.2 | exact ⟨_, _, _, rfl⟩ | (rw [List.length_take, List.length_map]; omega) | skip
    all_goals first | exact ⟨k + 1, by omega, by omega, by simp only [t1, t2]; (first | rfl | exact ⟨rfl, rfl⟩ | exact ⟨rfl, rfl, rfl⟩ | exact ⟨rfl, rfl, rfl, rfl⟩ | exact ⟨rfl, rfl, rfl, rfl, rfl⟩ | exact ⟨⟨rfl, rfl⟩, rfl⟩ | simp)⟩ | trace_state
  · have hge : ¬ (k : Int) < E.length := by omega
    obtain rfl : k = E.length := by omega
    rw [show (E.map namesE).take E.length = E.map namesE by rw [← List.length_map (f := namesE), List.take_length], show (E.map (·.count)).take E.length = E.map (·.count) by rw [← List.length_map (f := fun e : Entry => e.count), List.take_length]]
    refine WP.prep [10, 11] [] rfl ?_
    have hv : grO N.length ([], -1, E.map namesE, E.map (·.count), 0) = treeOf N C := by
      rw [htr]; unfold grO; rfl
    have hpre : preGr N.length ([], -1, E.map namesE, E.map (·.count), 0) := by
      refine ⟨⟨by simp, by rw [List.length_map]; omega, by simp, ?_⟩, fun l hl => ?_, fun c hc => ?_, hE3⟩
      · simp only [List.length_nil, Nat.zero_add]
        rw [ncP_zip]
        unfold wtN
        rw [List.map_map]
        have := sum_le_mul (A := E.map ((fun x : NC => x.1.length - 0) ∘ fun e => (namesE e, e.count))) (m := 1048576) (fun x hx => by
          obtain ⟨e, he, rfl⟩ := List.mem_map.1 hx
          exact Nat.le_trans (hE1 e he).1 hN)
        rw [List.length_map] at this
        have : 1048576 * E.length ≤ 1048576 * 1048576 := Nat.mul_le_mul_left _ (by omega)
        omega
      · obtain ⟨e, he, rfl⟩ := List.mem_map.1 hl
        have := (hE1 e he).1
        exact ⟨by simp only; omega, by omega⟩
      · obtain ⟨e, he, rfl⟩ := List.mem_map.1 hc
        exact hE2 e he
    have hd1 : decTreeNode [] = [] := rfl
    have hd2 : ((0 : Int)).toNat = 0 := rfl
    (repeat' (first | refine WP.seq ?_ | refine WP.block ?_ | ((first | refine WP.region ?_ | refine WP.condW ?_ | refine WP.ret ?_ | refine WP.exit ?_ | refine WP.skip ?_); simp only [go_sem, hge, hd1, hd2, tyAll, Nat.reduceAdd, Nat.reduceLT, Nat.reduceLeDiff, Nat.reduceEqDiff, Nat.reduceMul, Nat.reduceSub, Nat.reduceGT, reduceIte, Int.reduceNeg, Int.reduceToNat]) |  refine And.intro ?_ ?_ | intro _))
    all_goals first | omega | exact hpre.1.1 | exact hpre.1.2.1 | exact hpre.1.2.2.1 | exact hpre.1.2.2.2 | exact (hpre.2.1 _ ‹_›).1 | exact (hpre.2.1 _ ‹_›).2 | exact hpre.2.2.1 _ ‹_› | exact hpre.2.2.2 | (rw [hv]) | rfl | skip
    all_goals trace_state
end
end Go.Proofs.YtahcfcimfcjhhaaGreatDoor
