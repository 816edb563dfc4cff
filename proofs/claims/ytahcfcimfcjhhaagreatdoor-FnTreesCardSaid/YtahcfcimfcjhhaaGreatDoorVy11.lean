/-
  DERIVED. Several texts of ours in one: VtHeavy, VgBox, VtFlameP, VsLayR, VtRev, VtPath, VpTrees, VtTot, VtTreesL, VtPrL, VcY, VtPrR.
-/
import Derived.Test.YtahcfcimfcjhhaaGreatDoorVx0
import Derived.Test.YtahcfcimfcjhhaaGreatDoorVx1
import Derived.Test.YtahcfcimfcjhhaaGreatDoorVx2
import Derived.Test.YtahcfcimfcjhhaaGreatDoorVx3
import Derived.Test.YtahcfcimfcjhhaaGreatDoorVx4
import Derived.Test.YtahcfcimfcjhhaaGreatDoorVx5
import Derived.Test.YtahcfcimfcjhhaaGreatDoorVx6
import Derived.Test.YtahcfcimfcjhhaaGreatDoorVx7
import Derived.Test.YtahcfcimfcjhhaaGreatDoorVx8
import Derived.Test.YtahcfcimfcjhhaaGreatDoorVy9
import Derived.Test.YtahcfcimfcjhhaaGreatDoorVy10
import Derived.Shelf.Slices.ReverseS
import Derived.Test.YtahcfcimfcjhhaaGreatDoorProg
import Derived.Deep.Strs
import Derived.Lib.SmallJoins
set_option linter.unusedSimpArgs false
set_option linter.unusedVariables false
namespace Go.Proofs.YtahcfcimfcjhhaaGreatDoor
open Go.Vc
attribute [local go_sem] St.runR St.runW St.stepV offV St.step St.stepU St.stepG mkCond guardB St.prK St.pr St.prLen St.eff St.callE St.callD St.callF St.callL aI aB aS aR aC St.isM St.argL Ctr.pure Ctr.lend Ctr.move Ctr.isL Ctr.wri pur len lentBy St.lentV St.lent1 nthS argsR restOf obsR pairs swapL unObs backL St.resL erL SV.ren1 SV.up SV.up2 Ob.up St.fzL cellIds partIds St.intoRow SV.ownId St.fz SV.fz1 St.prep St.mvL St.mv SV.re1 rnOk St.prEq vals eqCells scEq Value.kd St.prStr St.prCut cutR St.bnd St.prMin St.bld isShift outL retL outJ oR oC St.ev St.get St.put St.new St.kill SV.kill SV.kill1 Ob.kill St.app St.wrt St.rowsOf St.res St.killL lk er argsL SV.strip SV.need SV.share SV.share1 SV.owns SV.owns1 SV.owns2 SV.good SV.good1 SV.rok SV.rok1 SV.rok2 SV.isV SV.isV2 nodupN SV.cells SV.one SV.pur Ob.pb partsIn rowsIn splice cellsAt dstOk scal2 scal1 thenK blockK retK outK outs okC okL okA okT nilC nilL nilA nilT keepC keepL keepA keepT St.runG St.dltK St.least St.clean St.final St.hide offK badS badO SV.refs SV.leaf SV.leaf2 Ob.refs dlOk fpAt Go.Vc.cover tups SV.ofAgg St.out outC subL St.has rng wr Value.oneCell' Option.isSome_some Option.isSome_none List.nil_append Bool.false_eq_true List.map_cons List.map_nil List.all_cons List.all_nil List.length_cons List.length_nil List.drop_zero List.drop_succ_cons List.take_succ_cons List.take_zero List.drop_nil List.take_nil List.getElem?_cons_zero List.getElem?_cons_succ List.getElem?_nil List.cons_append List.nil_append List.append_nil List.append_assoc List.flatMap_cons List.flatMap_nil List.contains_cons List.contains_nil List.set_cons_zero List.set_cons_succ List.getElem?_toArray Option.getD_some Option.getD_none Option.map_some Option.map_none Option.bind_some Option.some.injEq Prod.mk.injEq if_true if_false true_and and_true and_self and_false false_and Bool.and_false Bool.false_and Bool.or_true Bool.true_or Bool.or_false Bool.false_or ne_eq not_true_eq_false not_false_eq_true decide_true decide_false List.mem_cons List.not_mem_nil List.filter_cons List.filter_nil List.any_cons List.any_nil List.isEmpty_nil List.isEmpty_cons Option.getD_none or_false false_or true_or or_true forall_eq_or_imp forall_eq reduceCtorEq exists_eq exists_eq' exists_eq_left' exists_eq_left exists_eq_right exists_eq_right' imp_self implies_true Bool.and_true Bool.true_and Bool.and_self beq_self_eq_true List.replicate_succ List.replicate_zero forall_const false_implies pickB_or pickB_and beqT beqF Int.toNat_natCast List.length_map List.length_replicate ge_iff_le gt_iff_lt decide_eq_true_eq decide_eq_false_iff_not Bool.and_eq_true Bool.or_eq_true Bool.not_eq_true' Bool.not_eq_false' condG List.toList_toArray Bool.or_eq_false_iff Bool.and_eq_false_iff Int.not_lt Int.not_le beq_iff_eq beq_eq_false_iff_ne bne_iff_ne bne_eq_false_iff_eq ne_eq Bool.not_true Bool.not_false exists_and_left
section
open Go.Vc
set_option linter.unusedSimpArgs false
set_option linter.unusedVariables false
set_option maxHeartbeats 1000000
set_option maxRecDepth 10000
attribute [local irreducible] Go.Vc.WP
attribute [local go_sem] cx0_t cx0_c
noncomputable def cxHv : Cx := { P := Tryz.prog, tys := tys, C := [(18, kTreeOk)], hty := tysOk, hC := COk.cons cTreeOkI (COk.nil _) }
theorem cxHv_t : cxHv.tys = tys := rfl
theorem cxHv_c : cxHv.C = [(18, kTreeOk)] := rfl
attribute [local go_sem] cxHv_t cxHv_c kTreeOk
/-- the heaviest of the first k nodes below node a; -1 if there is none -/
def bestAt (L : List TreeNode) (a : Int) : Nat → Int
  | 0 => -1
  | k + 1 => match L[k]? with
    | some x => if x.parent = a ∧ (bestAt L a k < 0 ∨ x.total > (L[(bestAt L a k).toNat]?.map (·.total)).getD 0) then k else bestAt L a k
    | none => bestAt L a k
def hvGo (L : List TreeNode) : Nat → Int → List Int
  | 0, _ => []
  | f + 1, a => if bestAt L a L.length < 0 then [] else bestAt L a L.length :: hvGo L f (bestAt L a L.length)
def heavy (L : List TreeNode) : List Int := if treeOk L = true then hvGo L (L.length + 1) (-1) else []
theorem bestAt_bound (L : List TreeNode) (a : Int) : ∀ k, k ≤ L.length → -1 ≤ bestAt L a k ∧ bestAt L a k < k
  | 0, _ => by simp [bestAt]
  | k + 1, h => by
    have ih := bestAt_bound L a k (by omega)
    rw [bestAt, List.getElem?_eq_getElem (by omega : k < L.length)]
    simp only
    split <;> omega
theorem bestAt_par {L : List TreeNode} (hok : treeOk L = true) (a : Int) : ∀ k, k ≤ L.length → 0 ≤ bestAt L a k → a + 1 ≤ bestAt L a k
  | 0, _, h => by simp [bestAt] at h
  | k + 1, hk, h => by
    have ih := bestAt_par hok a k (by omega)
    have hn := nodeOk_iff.1 (treeOk_nodes hok k (by omega))
    rw [bestAt, List.getElem?_eq_getElem (by omega : k < L.length)] at h ⊢
    simp only at h ⊢
    split
    · rename_i hc; omega
    · rename_i hc; rw [if_neg hc] at h; exact ih h
theorem bestAt_succ (L : List TreeNode) (a : Int) (k : Nat) (h : k < L.length) (q : Nat) (hq : q < L.length) (hqb : q = (bestAt L a k).toNat) :
    bestAt L a (k + 1) = if L[k].parent = a ∧ (bestAt L a k < 0 ∨ L[k].total > L[q].total) then (k : Int) else bestAt L a k := by
  rw [bestAt, List.getElem?_eq_getElem h]
  subst hqb
  rw [List.getElem?_eq_getElem hq]
  rfl
theorem hvGo_len (L : List TreeNode) : ∀ f a, (hvGo L f a).length ≤ f
  | 0, _ => by simp [hvGo]
  | f + 1, a => by
    rw [hvGo]
    split
    · simp
    · simp only [List.length_cons]; have := hvGo_len L f (bestAt L a L.length); omega
theorem hvGo_step {L : List TreeNode} (hok : treeOk L = true) {f : Nat} {a : Int} (h0 : -1 ≤ a) (ha : a < L.length) (hf : (f : Int) + a ≥ L.length) :
    (bestAt L a L.length < 0 → hvGo L f a = []) ∧ (0 ≤ bestAt L a L.length → hvGo L f a = bestAt L a L.length :: hvGo L (f - 1) (bestAt L a L.length) ∧ ((f - 1 : Nat) : Int) + bestAt L a L.length ≥ L.length) := by
  obtain ⟨f, rfl⟩ : ∃ g, f = g + 1 := ⟨f - 1, by omega⟩
  constructor
  · intro hb; rw [hvGo, if_pos hb]
  · intro hb
    have := bestAt_par hok a L.length (Nat.le_refl _) hb
    rw [hvGo, if_neg (by omega)]
    exact ⟨by simp, by simp only [Nat.add_sub_cancel]; omega⟩

def kHeavy : Ctr := pur (fun args => decTreeNode (aR args 0)) (fun L => [.sl 4 (L.map encTreeNode)]) (fun L => L.length ≤ 1048576 ∧ ∀ x ∈ L, x.name.size ≤ 1048576) (fun d _ => .own d) (fun d L => [(d, .sl 3 1 ((heavy L).map encI))])
theorem cHeavyI : Cn Tryz.prog 17 kHeavy := by
  refine Cn.pur Tryz.func17 (by kernel_rfl) rfl fun d x hx => ?_
  obtain ⟨hL, hs⟩ := hx
  refine Holds.go (c := cxHv) Tryz.func17 rfl Tryz.results17 Tryz.ntmps17 (by omega) (by simp) rfl ?_
  intro X0 w0
  (repeat' (first | refine WP.seq ?_ | refine WP.block ?_ | ((first | refine WP.region ?_ | refine WP.condW ?_ | refine WP.ret ?_ | refine WP.exit ?_ | refine WP.skip ?_); simp only [go_sem, decTreeNode_enc, tyAll, Nat.reduceAdd, Nat.reduceLT, Nat.reduceLeDiff, Nat.reduceEqDiff, Nat.reduceMul, Nat.reduceSub, Nat.reduceGT, reduceIte, Int.reduceNeg, Int.reduceToNat]) | ((first | refine WP.drawW 18 (by decide +kernel) (by kernel_rfl) ?_); simp only [go_sem, decTreeNode_enc, tyAll, Nat.reduceAdd, Nat.reduceLT, Nat.reduceLeDiff, Nat.reduceEqDiff, Nat.reduceMul, Nat.reduceSub, Nat.reduceGT, reduceIte, Int.reduceNeg, Int.reduceToNat]) |  refine And.intro ?_ ?_ | intro _))
  all_goals first | omega | exact hs _ ‹_› | skip
  · rename_i h
    have hh : heavy x = [] := by
      rcases h with h | h
      · simp [heavy, h]
      · have : x = [] := List.eq_nil_of_length_eq_zero (by omega)
        subst this
        simp [heavy, hvGo, bestAt]
    exact ⟨_, _, by rw [hh]; rfl⟩
  rename_i hok'
  obtain ⟨hok, hne⟩ := hok'
  have hh : heavy x = hvGo x (x.length + 1) (-1) := by simp [heavy, hok]
  refine WP.loop (fun s : List Int × Int × Nat => ⟨[(0, .sl 4 (x.map encTreeNode)), (3, .own 16), (4, .v (.int .i64 s.2.1))], [(16, .sl 3 1 (s.1.map encI))]⟩)
    (fun s => -1 ≤ s.2.1 ∧ s.2.1 < x.length ∧ (s.2.2 : Int) + s.2.1 ≥ x.length ∧ s.1 ++ hvGo x s.2.2 s.2.1 = heavy x ∧ s.2.2 + s.1.length ≤ x.length + 1) (fun s => s.2.2) ([], -1, x.length + 1)
    ⟨by simp, by simp only; omega, by simp only; omega, by rw [hh]; rfl, by simp⟩ ?_ ?_
  · (simp only [go_sem, tyAll, Nat.reduceAdd, Nat.reduceLT, Nat.reduceLeDiff, Nat.reduceEqDiff, Nat.reduceMul, Nat.reduceSub, Nat.reduceGT, reduceIte, Int.reduceNeg, Int.reduceToNat] <;> (first | rfl | exact ⟨rfl, rfl⟩ | exact ⟨rfl, rfl, rfl⟩ | exact ⟨rfl, rfl, rfl, rfl⟩ | exact ⟨rfl, rfl, rfl, rfl, rfl⟩ | exact ⟨⟨rfl, rfl⟩, rfl⟩ | simp))
  rintro ⟨out, a, f⟩ ⟨ha0, ha1, hfu, hout, hlen⟩
  simp only at ha0 ha1 hfu hout hlen ⊢
  obtain ⟨hstop, hgo⟩ := hvGo_step hok ha0 ha1 hfu
  (repeat' (first | refine WP.seq ?_ | refine WP.block ?_ | ((first | refine WP.region ?_ | refine WP.condW ?_ | refine WP.ret ?_ | refine WP.exit ?_ | refine WP.skip ?_); simp only [go_sem, tyAll, Nat.reduceAdd, Nat.reduceLT, Nat.reduceLeDiff, Nat.reduceEqDiff, Nat.reduceMul, Nat.reduceSub, Nat.reduceGT, reduceIte, Int.reduceNeg, Int.reduceToNat]) | ((first | refine WP.drawW 18 (by decide +kernel) (by kernel_rfl) ?_); simp only [go_sem, tyAll, Nat.reduceAdd, Nat.reduceLT, Nat.reduceLeDiff, Nat.reduceEqDiff, Nat.reduceMul, Nat.reduceSub, Nat.reduceGT, reduceIte, Int.reduceNeg, Int.reduceToNat]) |  refine And.intro ?_ ?_ | intro _))
  all_goals first | omega | skip
  refine WP.loop (fun k : Nat => ⟨[(0, .sl 4 (x.map encTreeNode)), (3, .own 16), (4, .v (.int .i64 a)), (5, .v (.int .i64 (bestAt x a k))), (17, .sl 4 (x.map encTreeNode)), (18, .v (.int .i64 x.length)), (19, .v (.int .i64 k))], [(16, .sl 3 1 (out.map encI))]⟩) (fun k => k ≤ x.length) (fun k => x.length - k) 0 (by simp) ?_ ?_
  · (simp only [go_sem, bestAt, tyAll, Nat.reduceAdd, Nat.reduceLT, Nat.reduceLeDiff, Nat.reduceEqDiff, Nat.reduceMul, Nat.reduceSub, Nat.reduceGT, reduceIte, Int.reduceNeg, Int.reduceToNat] <;> (first | rfl | exact ⟨rfl, rfl⟩ | exact ⟨rfl, rfl, rfl⟩ | exact ⟨rfl, rfl, rfl, rfl⟩ | exact ⟨rfl, rfl, rfl, rfl, rfl⟩ | exact ⟨⟨rfl, rfl⟩, rfl⟩ | simp))
  intro k hk
  have hbb := bestAt_bound x a k hk
  by_cases hlt : k < x.length
  · have h1 := rowAt_map encTreeNode x k hlt
    have hq : (bestAt x a k).toNat < x.length := by omega
    have h2 := rowAt_map encTreeNode x _ hq
    have h3 := bestAt_succ x a k hlt _ hq rfl
    (repeat' (first | refine WP.seq ?_ | refine WP.block ?_ | ((first | refine WP.region ?_ | refine WP.condW ?_ | refine WP.ret ?_ | refine WP.exit ?_ | refine WP.skip ?_); simp only [go_sem, h1, h2, encTreeNode, tyAll, Nat.reduceAdd, Nat.reduceLT, Nat.reduceLeDiff, Nat.reduceEqDiff, Nat.reduceMul, Nat.reduceSub, Nat.reduceGT, reduceIte, Int.reduceNeg, Int.reduceToNat]) | ((first | refine WP.drawW 18 (by decide +kernel) (by kernel_rfl) ?_); simp only [go_sem, h1, h2, encTreeNode, tyAll, Nat.reduceAdd, Nat.reduceLT, Nat.reduceLeDiff, Nat.reduceEqDiff, Nat.reduceMul, Nat.reduceSub, Nat.reduceGT, reduceIte, Int.reduceNeg, Int.reduceToNat]) |  refine And.intro ?_ ?_ | intro _))
    all_goals first | omega | skip
    · rename_i hc
      rw [if_pos (by omega)] at h3
      exact ⟨k + 1, by omega, by omega, by rw [h3]; (first | rfl | exact ⟨rfl, rfl⟩ | exact ⟨rfl, rfl, rfl⟩ | exact ⟨rfl, rfl, rfl, rfl⟩ | exact ⟨rfl, rfl, rfl, rfl, rfl⟩ | exact ⟨⟨rfl, rfl⟩, rfl⟩ | simp)⟩
    · rename_i hc
      rw [if_neg (by omega)] at h3
      exact ⟨k + 1, by omega, by omega, by rw [h3]; (first | rfl | exact ⟨rfl, rfl⟩ | exact ⟨rfl, rfl, rfl⟩ | exact ⟨rfl, rfl, rfl, rfl⟩ | exact ⟨rfl, rfl, rfl, rfl, rfl⟩ | exact ⟨⟨rfl, rfl⟩, rfl⟩ | simp)⟩
  · have hke : k = x.length := by omega
    subst hke
    (repeat' (first | refine WP.seq ?_ | refine WP.block ?_ | ((first | refine WP.region ?_ | refine WP.condW ?_ | refine WP.ret ?_ | refine WP.exit ?_ | refine WP.skip ?_); simp only [go_sem, encI, tyAll, Nat.reduceAdd, Nat.reduceLT, Nat.reduceLeDiff, Nat.reduceEqDiff, Nat.reduceMul, Nat.reduceSub, Nat.reduceGT, reduceIte, Int.reduceNeg, Int.reduceToNat]) | ((first | refine WP.drawW 18 (by decide +kernel) (by kernel_rfl) ?_); simp only [go_sem, encI, tyAll, Nat.reduceAdd, Nat.reduceLT, Nat.reduceLeDiff, Nat.reduceEqDiff, Nat.reduceMul, Nat.reduceSub, Nat.reduceGT, reduceIte, Int.reduceNeg, Int.reduceToNat]) |  refine And.intro ?_ ?_ | intro _))
    all_goals first | omega | skip
    · rename_i hb
      rw [hstop hb, List.append_nil] at hout
      rw [hout]
    · rename_i hb
      obtain ⟨g1, g2⟩ := hgo (by omega)
      refine ⟨(out ++ [bestAt x a x.length], bestAt x a x.length, f - 1), ⟨by simp only; omega, by simp only; omega, g2, by simp only; rw [← hout, g1]; exact List.append_assoc _ _ _, by simp <;> omega⟩, by simp only; omega, by simp [encI]⟩
theorem heavy_len (L : List TreeNode) : (heavy L).length ≤ L.length + 1 := by
  unfold heavy
  split
  · exact hvGo_len _ _ _
  · simp

noncomputable def cxHvl : Cx := { P := Tryz.prog, tys := tys, C := [(23, keqTreeNodeS), (26, kmarkTreeNodeS), (56, k17), (58, k18), (17, kHeavy)], hty := tysOk, hC := COk.cons ceqTreeNodeS (COk.cons cmarkTreeNodeS (COk.cons c17 (COk.cons c18 (COk.cons cHeavyI (COk.nil _))))) }
theorem cxHvl_t : cxHvl.tys = tys := rfl
theorem cxHvl_c : cxHvl.C = [(23, keqTreeNodeS), (26, kmarkTreeNodeS), (56, k17), (58, k18), (17, kHeavy)] := rfl
attribute [local go_sem] cxHvl_t cxHvl_c keqTreeNodeS kmarkTreeNodeS k17 k18 kHeavy
attribute [local go_sem] isV_TreeNode isV_It decTreeNode_enc decI_enc
end
section
open Go.Vc
set_option linter.unusedSimpArgs false
set_option linter.unusedVariables false
set_option maxHeartbeats 1000000
attribute [local irreducible] Go.Vc.WP
attribute [local go_sem] cx0_t cx0_c

structure Box where
  node : Int
  depth : Int
  x : Int
  w : Int
deriving DecidableEq
def encBox (x : Box) : List SV := [.v (.int .i64 x.node), .v (.int .i64 x.depth), .v (.int .i64 x.x), .v (.int .i64 x.w)]
def oneBox : List SV → Box
  | [.v (.int _ node), .v (.int _ depth), .v (.int _ x), .v (.int _ w)] => ⟨node, depth, x, w⟩
  | _ => ⟨0, 0, 0, 0⟩
def decBox (rows : List (List SV)) : List Box := rows.map oneBox
theorem oneBox_enc (x : Box) : oneBox (encBox x) = x := rfl
theorem decBox_enc (L : List Box) : decBox (L.map encBox) = L := by
  unfold decBox
  rw [List.map_map]
  exact List.map_id'' oneBox_enc L
theorem isV_Box {e s : Nat} (L : List Box) : (Ob.sl e s (L.map encBox)).isV ↔ True := iff_true_intro (by
  intro row hr c hc
  obtain ⟨n, _, rfl⟩ := List.mem_map.1 hr
  simp only [encBox, List.mem_cons, List.not_mem_nil, or_false] at hc
  rcases hc with rfl | rfl | rfl | rfl <;> exact ⟨_, rfl⟩)
def zerBox : List SV := [.v (.int .i64 0), .v (.int .i64 0), .v (.int .i64 0), .v (.int .i64 0)]

def ktoBox : Ctr := pur (fun args => oneBox (aC args 0)) (fun x => [.agg (encBox x)]) (fun _ => True) (fun _ x => .agg (encBox x)) (fun _ _ => [])
section
attribute [local go_sem] ktoBox oneBox
end

def keqBox : Ctr := pur (fun args => (oneBox (aC args 0), oneBox (aC args 1))) (fun x => [.agg (encBox x.1), .agg (encBox x.2)]) (fun _ => True) (fun _ x => .v (.bool (decide (x.1 = x.2)))) (fun _ _ => [])
def keqBoxS : Ctr := pur (fun args => (decBox (aR args 0), decBox (aR args 1))) (fun x => [.sl 4 (x.1.map encBox), .sl 4 (x.2.map encBox)]) (fun x => x.1.length ≤ 4398046511104) (fun _ x => .v (.bool (decide (x.1 = x.2)))) (fun _ _ => [])
section
attribute [local go_sem] keqBox oneBox
end

theorem extBox {a b : Box} (h0 : a.node = b.node) (h1 : a.depth = b.depth) (h2 : a.x = b.x) (h3 : a.w = b.w) : a = b := by cases a; cases b; simp_all
def mrkBox (v : Int) : Box := ⟨v, v + 1, v + 1 + 1, v + 1 + 1 + 1⟩
def marksBox (k : Int) (n : Nat) : List Box := (List.range n).map fun i : Nat => mrkBox (k + 4 * (i : Int))
theorem marksBox_len (k : Int) (n : Nat) : (marksBox k n).length = n := by simp [marksBox]
def halfBox (L : List Box) (k0 : Int) (k : Nat) : List Box := marksBox k0 k ++ L.drop k
theorem halfBox_len (L : List Box) (k0 : Int) (k : Nat) (h : k ≤ L.length) : (halfBox L k0 k).length = L.length := by simp [halfBox, marksBox_len]; omega
theorem halfBox_set (L : List Box) (k0 : Int) (k : Nat) (h : k < L.length) : ((halfBox L k0 k).map encBox).set k (encBox (mrkBox (k0 + 4 * (k : Int)))) = (halfBox L k0 (k + 1)).map encBox := by
  rw [← List.map_set]
  congr 1
  unfold halfBox
  rw [List.set_append, if_neg (by simp [marksBox_len]), marksBox_len, Nat.sub_self, List.drop_eq_getElem_cons h, List.set_cons_zero]
  simp [marksBox, List.range_succ]
noncomputable def cxMkBox : Cx := { P := Tryz.prog, tys := tys, C := [(59, kmarkT)], hty := tysOk, hC := COk.cons cmarkT (COk.nil _) }
theorem cxMkBox_t : cxMkBox.tys = tys := rfl
theorem cxMkBox_c : cxMkBox.C = [(59, kmarkT)] := rfl
attribute [local go_sem] cxMkBox_t cxMkBox_c kmarkT

def kheldBoxS : Ctr := pur (fun args => (decBox (aR args 0), aI args 1)) (fun x => [.sl 4 (x.1.map encBox), .v (.int .i64 x.2)]) (fun x => x.1.length ≤ 4398046511104 ∧ 0 ≤ x.2 ∧ x.2 ≤ 500000000000000)
  (fun _ x => .v (.int .i64 (if x.1 = marksBox x.2 x.1.length then x.2 + 4 * x.1.length else -1))) (fun _ _ => [])
section
open Go.RowKit Go.WideShapes Go.ChangeShapes Go.Deep
end
end
end Go.Proofs.YtahcfcimfcjhhaaGreatDoor
/-
  DERIVED. The flame of a tree in plain Lean.
-/
namespace Go.Proofs.YtahcfcimfcjhhaaGreatDoor
set_option linter.unusedVariables false
/-- n of total, of a width -/
def scl (w t n : Int) : Int := if t = 0 then 0 else (n * w).tdiv t
def boxAt (w t : Int) (k : Nat) (d a n : Int) : Box := ⟨k, d, scl w t a, scl w t (a + n) - scl w t a⟩
/-- where the next root begins; where the next node below each node begins; the boxes: when k nodes are behind -/
def flSt (L : List TreeNode) (w t : Int) : Nat → Int × List Int × List Box
  | 0 => (0, List.replicate L.length 0, [])
  | k + 1 => match L[k]? with
    | some x => if x.parent < 0 then ((flSt L w t k).1 + x.total, (flSt L w t k).2.1.set k (flSt L w t k).1, (flSt L w t k).2.2 ++ [boxAt w t k 0 (flSt L w t k).1 x.total])
      else ((flSt L w t k).1, ((flSt L w t k).2.1.set x.parent.toNat ((flSt L w t k).2.1.getD x.parent.toNat 0 + x.total)).set k ((flSt L w t k).2.1.getD x.parent.toNat 0),
        (flSt L w t k).2.2 ++ [boxAt w t k (((flSt L w t k).2.2.getD x.parent.toNat ⟨0, 0, 0, 0⟩).depth + 1) ((flSt L w t k).2.1.getD x.parent.toNat 0) x.total])
    | none => flSt L w t k
def flameOf (L : List TreeNode) (w : Int) : List Box := if treeOk L = true ∧ 1 ≤ w ∧ w ≤ 10000 then (flSt L w (treeTotal L) L.length).2.2 else []
theorem flSt_root (L : List TreeNode) (w t : Int) (k : Nat) (h : k < L.length) (hp : L[k].parent < 0) :
    flSt L w t (k + 1) = ((flSt L w t k).1 + L[k].total, (flSt L w t k).2.1.set k (flSt L w t k).1, (flSt L w t k).2.2 ++ [boxAt w t k 0 (flSt L w t k).1 L[k].total]) := by
  rw [flSt, List.getElem?_eq_getElem h]
  simp only [if_pos hp]
theorem flSt_child (L : List TreeNode) (w t : Int) (k q : Nat) (h : k < L.length) (hp : L[k].parent = q) :
    flSt L w t (k + 1) = ((flSt L w t k).1, ((flSt L w t k).2.1.set q ((flSt L w t k).2.1.getD q 0 + L[k].total)).set k ((flSt L w t k).2.1.getD q 0),
        (flSt L w t k).2.2 ++ [boxAt w t k (((flSt L w t k).2.2.getD q ⟨0, 0, 0, 0⟩).depth + 1) ((flSt L w t k).2.1.getD q 0) L[k].total]) := by
  rw [flSt, List.getElem?_eq_getElem h]
  simp only [if_neg (show ¬ L[k].parent < 0 by omega)]
  have e : L[k].parent.toNat = q := by omega
  rw [e]
structure FlInv (L : List TreeNode) (w t : Int) (k : Nat) : Prop where
  len1 : (flSt L w t k).2.1.length = L.length
  len2 : (flSt L w t k).2.2.length = k
  top : (flSt L w t k).1 = below L (-1) k
  pos : ∃ A : Nat → Int, ∀ j (hj : j < L.length), j < k → 0 ≤ A j ∧ A j + L[j].total ≤ below L (-1) L.length ∧ (flSt L w t k).2.1.getD j 0 = A j + below L j k
  dep : ∀ j, j < k → 0 ≤ ((flSt L w t k).2.2.getD j ⟨0, 0, 0, 0⟩).depth ∧ ((flSt L w t k).2.2.getD j ⟨0, 0, 0, 0⟩).depth ≤ j
theorem below_mono {L : List TreeNode} (hok : treeOk L = true) (p : Int) : ∀ i k, k + i ≤ L.length → below L p k ≤ below L p (k + i)
  | 0, k, _ => Int.le_refl _
  | i + 1, k, h => by
    have ih := below_mono hok p i k (by omega)
    have hn := nodeOk_iff.1 (treeOk_nodes hok (k + i) (by omega))
    rw [← Nat.add_assoc, below_succ L p (k + i) (by omega)]
    split <;> omega
theorem below_le {L : List TreeNode} (hok : treeOk L = true) (p : Int) (k : Nat) (h : k ≤ L.length) : below L p k ≤ below L p L.length := by
  have := below_mono hok p (L.length - k) k (by omega)
  rwa [show k + (L.length - k) = L.length by omega] at this
theorem getD_set_ne {α : Type} (l : List α) (i j : Nat) (a d : α) (h : i ≠ j) : (l.set i a).getD j d = l.getD j d := by
  rw [List.getD_eq_getElem?_getD, List.getD_eq_getElem?_getD, List.getElem?_set_ne h]
theorem getD_set_eq {α : Type} (l : List α) (i : Nat) (a d : α) (h : i < l.length) : (l.set i a).getD i d = a := by
  rw [List.getD_eq_getElem?_getD, List.getElem?_set_self h]; rfl
theorem treeOk_sums {L : List TreeNode} (h : treeOk L = true) (k : Nat) (hk : k < L.length) : L[k].self + below L k L.length = L[k].total := by
  unfold treeOk at h
  rw [Bool.and_eq_true, decide_eq_true_eq, decide_eq_true_eq] at h
  exact h.2 k hk
theorem below_self {L : List TreeNode} (hok : treeOk L = true) (k : Nat) (h : k < L.length) : below L k (k + 1) = 0 :=
  below_early k (k + 1) (by omega) (Nat.le_refl _) (fun j hj _ => treeOk_nodes hok j hj)
theorem flInv {L : List TreeNode} (hok : treeOk L = true) (w t : Int) : ∀ k, k ≤ L.length → FlInv L w t k
  | 0, _ => ⟨by simp [flSt], by simp [flSt], by simp [flSt, below_zero], ⟨fun _ => 0, fun j hj h => by omega⟩, fun j h => by omega⟩
  | k + 1, hk => by
    have ih := flInv hok w t k (by omega)
    have hlt : k < L.length := by omega
    have hn := nodeOk_iff.1 (treeOk_nodes hok k hlt)
    obtain ⟨A, hA⟩ := ih.pos
    have hbk := below_self hok k hlt
    rcases Int.lt_or_le L[k].parent 0 with hp | hp
    · have e := flSt_root L w t k hlt hp
      have hb := below_succ L (-1) k hlt
      rw [if_pos (by omega)] at hb
      have hle := below_le hok (-1) (k + 1) (by omega)
      have hge := (below_bound (L := L) (-1) k (by omega) (fun j hj _ => treeOk_nodes hok j hj)).1
      refine ⟨by rw [e]; simp [ih.len1], by rw [e]; simp [ih.len2], by rw [e, hb, ← ih.top], ⟨fun j => if j = k then below L (-1) k else A j, fun j hj hjk => ?_⟩, fun j hjk => ?_⟩
      · by_cases hje : j = k
        · subst hje
          simp only [if_true, e]
          rw [getD_set_eq _ _ _ _ (by rw [ih.len1]; exact hj), ih.top, hbk]
          omega
        · simp only [if_neg hje, e]
          rw [getD_set_ne _ _ _ _ _ (Ne.symm hje), below_succ L j k hlt, if_neg (by omega)]
          have := hA j hj (by omega)
          omega
      · rw [e]
        simp only
        by_cases hje : j = k
        · subst hje
          rw [List.getD_eq_getElem?_getD, List.getElem?_append_right (by rw [ih.len2]; exact Nat.le_refl _), ih.len2, Nat.sub_self]
          simp [boxAt]
        · rw [List.getD_eq_getElem?_getD, List.getElem?_append_left (by rw [ih.len2]; omega), ← List.getD_eq_getElem?_getD]
          exact ih.dep j (by omega)
    · obtain ⟨q, hq⟩ := Int.eq_ofNat_of_zero_le hp
      have hqk : q < k := by omega
      have e := flSt_child L w t k q hlt hq
      have hqA := hA q (by omega) hqk
      have hb := below_succ L (-1) k hlt
      rw [if_neg (by omega), Int.add_zero] at hb
      have hbq := below_succ L q k hlt
      rw [if_pos hq] at hbq
      have hle := below_le hok q (k + 1) (by omega)
      have hsq := treeOk_sums hok q (by omega)
      have hnq := nodeOk_iff.1 (treeOk_nodes hok q (by omega))
      have hge := (below_bound (L := L) q k (by omega) (fun j hj _ => treeOk_nodes hok j hj)).1
      refine ⟨by rw [e]; simp [ih.len1], by rw [e]; simp [ih.len2], by rw [e, hb, ← ih.top], ⟨fun j => if j = k then A q + below L q k else A j, fun j hj hjk => ?_⟩, fun j hjk => ?_⟩
      · by_cases hje : j = k
        · subst hje
          simp only [if_true, e]
          rw [getD_set_eq _ _ _ _ (by rw [List.length_set, ih.len1]; exact hj), hqA.2.2, hbk]
          omega
        · simp only [if_neg hje, e]
          rw [getD_set_ne _ _ _ _ _ (Ne.symm hje)]
          by_cases hjq : j = q
          · subst hjq
            rw [getD_set_eq _ _ _ _ (by rw [ih.len1]; exact hj), hqA.2.2, hbq]
            omega
          · rw [getD_set_ne _ _ _ _ _ (Ne.symm hjq), below_succ L j k hlt, if_neg (by omega)]
            have := hA j hj (by omega)
            omega
      · rw [e]
        simp only
        by_cases hje : j = k
        · subst hje
          rw [List.getD_eq_getElem?_getD, List.getElem?_append_right (by rw [ih.len2]; exact Nat.le_refl _), ih.len2, Nat.sub_self]
          have := ih.dep q hqk
          simp only [List.getElem?_cons_zero, Option.getD_some, boxAt]
          omega
        · rw [List.getD_eq_getElem?_getD, List.getElem?_append_left (by rw [ih.len2]; omega), ← List.getD_eq_getElem?_getD]
          exact ih.dep j (by omega)
/-- what the walk needs to know of a node's place -/
theorem flPlace {L : List TreeNode} (hok : treeOk L = true) (w t : Int) (k : Nat) (hk : k ≤ L.length) (q : Nat) (hq : q < k) :
    0 ≤ (flSt L w t k).2.1.getD q 0 ∧ (flSt L w t k).2.1.getD q 0 ≤ below L (-1) L.length := by
  obtain ⟨A, hA⟩ := (flInv hok w t k hk).pos
  have h1 := hA q (by omega) hq
  have h2 := below_le hok q k hk
  have h3 := treeOk_sums hok q (by omega)
  have h4 := nodeOk_iff.1 (treeOk_nodes hok q (by omega))
  have h5 := (below_bound (L := L) q k hk (fun j hj _ => treeOk_nodes hok j hj)).1
  omega
theorem flPlace2 {L : List TreeNode} (hok : treeOk L = true) (w t : Int) (k : Nat) (hk : k < L.length) (q : Nat) (hq : q < k) (hp : L[k].parent = q) :
    (flSt L w t k).2.1.getD q 0 + L[k].total ≤ below L (-1) L.length := by
  obtain ⟨A, hA⟩ := (flInv hok w t k (by omega)).pos
  have h1 := hA q (by omega) hq
  have h2 := below_le hok q (k + 1) (by omega)
  rw [below_succ L q k hk, if_pos hp] at h2
  have h3 := treeOk_sums hok q (by omega)
  have h4 := nodeOk_iff.1 (treeOk_nodes hok q (by omega))
  omega
theorem treeTotal_nonneg {L : List TreeNode} (hok : treeOk L = true) : 0 ≤ treeTotal L ∧ treeTotal L ≤ 1000000000000 ∧ (treeTotal L = 0 ∨ treeTotal L = below L (-1) L.length) := by
  have h := (below_bound (L := L) (-1) L.length (Nat.le_refl _) (fun j hj _ => treeOk_nodes hok j hj)).1
  unfold treeTotal
  rw [if_pos hok]
  split <;> omega
end Go.Proofs.YtahcfcimfcjhhaaGreatDoor

/-
  DERIVED. The library's contracts, laid at this program: tables of numbers. Printed by the kit's tools (lay.py).
-/
namespace Go.Proofs
open Go.Shelf
def Tryz.l217_ren : Go.Shelf.Ren := ⟨fun | 17 => 45 | n => n, fun | 24 => 50 | 9 => 9 | 3 => 3 | 4 => 4 | 0 => 0 | n => n, fun | n => n⟩
theorem Tryz.l217 : Go.Proofs.Lays2.n17 Tryz.prog Tryz.l217_ren := {
  mixed := by kernel_rfl
  f17 := Tryz.func45.trans (congrArg some (by kernel_rfl))
  t0 := Tryz.underlying0
  a0 := Tryz.isAgg0
  z0 := Tryz.sizeOf0
  v0 := Tryz.zeroValue0
  t3 := Tryz.underlying3
  a3 := Tryz.isAgg3
  z3 := Tryz.sizeOf3
  v3 := Tryz.zeroValue3
  t4 := Tryz.underlying4
  a4 := Tryz.isAgg4
  z4 := Tryz.sizeOf4
  v4 := Tryz.zeroValue4
  t9 := Tryz.underlying9
  a9 := Tryz.isAgg9
  z9 := Tryz.sizeOf9
  v9 := Tryz.zeroValue9
  t24 := Tryz.underlying50
  a24 := Tryz.isAgg50
  z24 := Tryz.sizeOf50
  v24 := Tryz.zeroValue50 }
end Go.Proofs

/-
  DERIVED. slices.Reverse at []string, as a contract of a list that is lent.
-/
namespace Go.Proofs.YtahcfcimfcjhhaaGreatDoor
open Go.Vc
set_option linter.unusedVariables false
def krevS : Ctr := len [0] [] (fun args obs => decS (oR obs 1000000)) (fun x => [.own 1000000]) (fun x => [(1000000, .sl 9 1 (x.map encS))]) (fun x => x.length ≤ 2097152)
  (fun _ x => .tup []) (fun _ _ => []) (fun x => [(1000000, .sl 9 1 (x.reverse.map encS))])
theorem vrowsS (L : List ByteArray) : vrows (L.map fun b => [Value.string b]) = L.map encS := by
  unfold vrows
  rw [List.map_map]; rfl
theorem grow_none (w : World) : Go.Sort.grow w #[] = w := by
  unfold Go.Sort.grow
  simp
theorem crevS : Cn Tryz.prog 45 krevS := by
  refine Cn.len Tryz.func45 (by kernel_rfl) rfl fun d x hd hx => ?_
  have hb : ∀ b : ByteArray, Go.Proofs.encStr b.data.toList = .string b := fun b => by simp [Go.Proofs.encStr]
  have h := HoldsL.cells (P := Tryz.prog) (f := 45) (e := 9) (s := 1) (rows := x.map fun b => [Value.string b]) (rows' := x.reverse.map fun b => [Value.string b]) (rest := [])
    (fun r hr => by obtain ⟨b, _, rfl⟩ := List.mem_map.1 hr; rfl) (by simp) (fun r hr => by obtain ⟨b, _, rfl⟩ := List.mem_map.1 hr; rfl)
    (fun r hr u hu => by obtain ⟨b, _, rfl⟩ := List.mem_map.1 hr; simp only [List.mem_cons, List.not_mem_nil, or_false] at hu; subst hu; rfl)
    (fun hn w us hl ha => by
      have : us = [] := List.eq_nil_of_length_eq_zero (by simpa using hl)
      subst this
      exact (Any.slices_Reverse_string_empty Tryz.l217 none 0 w).mono fun en w' ⟨he, hw⟩ => ⟨he, by rw [hw]; exact Go.RowKit.Below.refl _ _⟩)
    (fun c hc => by simp at hc)
    (fun w b cap cur us hG hh hrc hcm hsz hcell hl ha => by
      have : us = [] := List.eq_nil_of_length_eq_zero (by simpa using hl)
      subst this
      have hsz1 : cur.size = cap := by omega
      have hrc1 : x.length ≤ cap := by simpa using hrc
      have hH : Go.Sort.Holds Go.Proofs.encStr w b 0 (x.map fun b => b.data.toList).toArray := holds_cells hh (fun j hj => by
        have hj1 : j < x.length := by simpa using hj
        have h2 := (hcell j 0 [Value.string x[j]] (.string x[j]) (by rw [List.getElem?_map, List.getElem?_eq_getElem hj1]; rfl) rfl).1
        have e : (List.map (fun b : ByteArray => b.data.toList) x).toArray[j]! = x[j].data.toList := by
          rw [getElem!_pos (List.map (fun b : ByteArray => b.data.toList) x).toArray j hj]; simp
        rw [e, hb]
        simpa using h2)
      have hs := Any.slices_Reverse_string Tryz.l217 b 0 cap (x.map fun b => b.data.toList) w hH (by rw [List.length_map]; omega)
      rw [List.length_map] at hs
      rw [List.length_map]
      refine hs.mono fun en w' ⟨he, n, hw⟩ => ⟨he, ?_⟩
      have hup := upd_putRow (w := w) (b := b) (e := 9) (cur := cur) Go.Proofs.encStr n (x.map fun b => b.data.toList).reverse.toArray #[] hh (by simp; omega)
      rw [grow_none, ← hw] at hup
      refine ⟨_, hup.1, fun i k r u hr hu => ?_⟩
      rw [List.getElem?_map] at hr
      cases hx : x.reverse[i]? with
      | none => rw [hx] at hr; cases hr
      | some y =>
        rw [hx] at hr
        simp only [Option.map_some, Option.some.injEq] at hr
        subst hr
        have hi : i < x.reverse.length := (List.getElem?_eq_some_iff.1 hx).1
        have hy : x.reverse[i] = y := (List.getElem?_eq_some_iff.1 hx).2
        match k, hu with
        | 0, hu =>
          simp only [List.getElem?_cons_zero, Option.some.injEq] at hu
          subst hu
          have hi2 : i < (List.map (fun b : ByteArray => b.data.toList) x).reverse.toArray.size := by simpa using hi
          have h3 := hup.2 i hi2
          have e : (List.map (fun b : ByteArray => b.data.toList) x).reverse.toArray[i]! = y.data.toList := by
            rw [getElem!_pos (List.map (fun b : ByteArray => b.data.toList) x).reverse.toArray i hi2, ← hy]
            simp
          rw [Nat.mul_one, Nat.add_zero, h3, e, hb]
        | k + 1, hu => simp at hu)
  rw [vrowsS, vrowsS] at h
  exact h
end Go.Proofs.YtahcfcimfcjhhaaGreatDoor

namespace Go.Proofs.YtahcfcimfcjhhaaGreatDoor
open Go.Vc
attribute [local go_sem] St.runR St.runW St.stepV offV St.step St.stepU St.stepG mkCond guardB St.prK St.pr St.prLen St.eff St.callE St.callD St.callF St.callL aI aB aS aR aC St.isM St.argL Ctr.pure Ctr.lend Ctr.move Ctr.isL Ctr.wri pur len lentBy St.lentV St.lent1 nthS argsR restOf obsR pairs swapL unObs backL St.resL erL SV.ren1 SV.up SV.up2 Ob.up St.fzL cellIds partIds St.intoRow SV.ownId St.fz SV.fz1 St.prep St.mvL St.mv SV.re1 rnOk St.prEq vals eqCells scEq Value.kd St.prStr St.prCut cutR St.bnd St.prMin St.bld isShift outL retL outJ oR oC St.ev St.get St.put St.new St.kill SV.kill SV.kill1 Ob.kill St.app St.wrt St.rowsOf St.res St.killL lk er argsL SV.strip SV.need SV.share SV.share1 SV.owns SV.owns1 SV.owns2 SV.good SV.good1 SV.rok SV.rok1 SV.rok2 SV.isV SV.isV2 nodupN SV.cells SV.one SV.pur Ob.pb partsIn rowsIn splice cellsAt dstOk scal2 scal1 thenK blockK retK outK outs okC okL okA okT nilC nilL nilA nilT keepC keepL keepA keepT St.runG St.dltK St.least St.clean St.final St.hide offK badS badO SV.refs SV.leaf SV.leaf2 Ob.refs dlOk fpAt Go.Vc.cover tups SV.ofAgg St.out outC subL St.has rng wr Value.oneCell' Option.isSome_some Option.isSome_none List.nil_append Bool.false_eq_true List.map_cons List.map_nil List.all_cons List.all_nil List.length_cons List.length_nil List.drop_zero List.drop_succ_cons List.take_succ_cons List.take_zero List.drop_nil List.take_nil List.getElem?_cons_zero List.getElem?_cons_succ List.getElem?_nil List.cons_append List.nil_append List.append_nil List.append_assoc List.flatMap_cons List.flatMap_nil List.contains_cons List.contains_nil List.set_cons_zero List.set_cons_succ List.getElem?_toArray Option.getD_some Option.getD_none Option.map_some Option.map_none Option.bind_some Option.some.injEq Prod.mk.injEq if_true if_false true_and and_true and_self and_false false_and Bool.and_false Bool.false_and Bool.or_true Bool.true_or Bool.or_false Bool.false_or ne_eq not_true_eq_false not_false_eq_true decide_true decide_false List.mem_cons List.not_mem_nil List.filter_cons List.filter_nil List.any_cons List.any_nil List.isEmpty_nil List.isEmpty_cons Option.getD_none or_false false_or true_or or_true forall_eq_or_imp forall_eq reduceCtorEq exists_eq exists_eq' exists_eq_left' exists_eq_left exists_eq_right exists_eq_right' imp_self implies_true Bool.and_true Bool.true_and Bool.and_self beq_self_eq_true List.replicate_succ List.replicate_zero forall_const false_implies pickB_or pickB_and beqT beqF Int.toNat_natCast List.length_map List.length_replicate ge_iff_le gt_iff_lt decide_eq_true_eq decide_eq_false_iff_not Bool.and_eq_true Bool.or_eq_true Bool.not_eq_true' Bool.not_eq_false' condG List.toList_toArray Bool.or_eq_false_iff Bool.and_eq_false_iff Int.not_lt Int.not_le beq_iff_eq beq_eq_false_iff_ne bne_iff_ne bne_eq_false_iff_eq ne_eq Bool.not_true Bool.not_false exists_and_left
section
open Go.Vc
set_option linter.unusedSimpArgs false
set_option linter.unusedVariables false
set_option maxHeartbeats 1000000
set_option maxRecDepth 10000
attribute [local irreducible] Go.Vc.WP
attribute [local go_sem] cx0_t cx0_c
/-- the names from node k up to a root -/
def pathUp (L : List TreeNode) : Nat → Int → List ByteArray
  | 0, _ => []
  | f + 1, k => if k < 0 then [] else match L[k.toNat]? with
    | some x => x.name :: pathUp L f x.parent
    | none => []
def pathOf (L : List TreeNode) (k : Int) : List ByteArray := if treeOk L = true ∧ 0 ≤ k ∧ k < L.length then (pathUp L (k.toNat + 1) k).reverse else []
theorem pathUp_len (L : List TreeNode) : ∀ f k, (pathUp L f k).length ≤ f
  | 0, _ => by simp [pathUp]
  | f + 1, k => by
    rw [pathUp]
    split
    · simp
    · split
      · rename_i x _
        have := pathUp_len L f x.parent
        simp only [List.length_cons]; omega
      · simp
theorem pathUp_neg (L : List TreeNode) (f : Nat) (k : Int) (h : k < 0) : pathUp L f k = [] := by
  cases f with
  | zero => rfl
  | succ f => rw [pathUp, if_pos h]
theorem pathUp_pos (L : List TreeNode) (f q : Nat) (h : q < L.length) (hf : q < f) : pathUp L f q = L[q].name :: pathUp L (f - 1) L[q].parent := by
  obtain ⟨f, rfl⟩ : ∃ g, f = g + 1 := ⟨f - 1, by omega⟩
  rw [pathUp, if_neg (by omega), Int.toNat_natCast, List.getElem?_eq_getElem h]
  rfl
theorem pathOf_len (L : List TreeNode) (k : Int) : (pathOf L k).length ≤ L.length := by
  unfold pathOf
  split
  · rw [List.length_reverse]; have := pathUp_len L (k.toNat + 1) k; omega
  · simp
noncomputable def cxPa : Cx := { P := Tryz.prog, tys := tys, C := [(18, kTreeOk), (44, k60), (45, krevS)], hty := tysOk, hC := COk.cons cTreeOkI (COk.cons c60 (COk.cons crevS (COk.nil _))) }
theorem cxPa_t : cxPa.tys = tys := rfl
theorem cxPa_c : cxPa.C = [(18, kTreeOk), (44, k60), (45, krevS)] := rfl
attribute [local go_sem] cxPa_t cxPa_c kTreeOk k60 krevS
def kPathOf : Ctr := pur (fun args => (decTreeNode (aR args 0), aI args 1)) (fun x => [.sl 4 (x.1.map encTreeNode), .v (.int .i64 x.2)]) (fun x => x.1.length ≤ 1048576 ∧ ∀ r ∈ x.1, r.name.size ≤ 1048576) (fun d _ => .own d) (fun d x => [(d, .sl 9 1 ((pathOf x.1 x.2).map encS))])
theorem cPathOfI : Cn Tryz.prog 16 kPathOf := by
  refine Cn.pur Tryz.func16 (by kernel_rfl) rfl fun d x hx => ?_
  obtain ⟨L, k⟩ := x
  obtain ⟨hL, hs⟩ := hx
  simp only at hL hs ⊢
  refine Holds.go (c := cxPa) Tryz.func16 rfl Tryz.results16 Tryz.ntmps16 (by omega) (by simp) rfl ?_
  intro X0 w0
  (repeat' (first | refine WP.seq ?_ | refine WP.block ?_ | ((first | refine WP.region ?_ | refine WP.condW ?_ | refine WP.ret ?_ | refine WP.exit ?_ | refine WP.skip ?_); simp only [go_sem, decTreeNode_enc, tyAll, Nat.reduceAdd, Nat.reduceLT, Nat.reduceLeDiff, Nat.reduceEqDiff, Nat.reduceMul, Nat.reduceSub, Nat.reduceGT, reduceIte, Int.reduceNeg, Int.reduceToNat]) |  refine And.intro ?_ ?_ | intro _))
  all_goals first | omega | exact hs _ ‹_› | skip
  · rename_i h
    exact ⟨_, _, by rw [show pathOf L k = [] from if_neg (fun hc => by rcases h with h | h; · rw [hc.1] at h; cases h
                                                                       · omega)]; rfl⟩
  rename_i hok'
  obtain ⟨hok, hk0, hk1⟩ := hok'
  have hp : pathOf L k = (pathUp L (k.toNat + 1) k).reverse := if_pos ⟨hok, hk0, by omega⟩
  refine WP.loop (fun s : Int × Nat × List ByteArray => ⟨[(0, .sl 4 (L.map encTreeNode)), (1, .v (.int .i64 s.1)), (5, .own 17)], [(17, .sl 9 1 (s.2.2.map encS))]⟩)
    (fun s => -1 ≤ s.1 ∧ s.1 < L.length ∧ s.1 < s.2.1 ∧ s.2.2 ++ pathUp L s.2.1 s.1 = pathUp L (k.toNat + 1) k ∧ s.2.2.length + s.2.1 ≤ L.length) (fun s => (s.1 + 1).toNat) (k, k.toNat + 1, []) ⟨by simp only; omega, by simp only; omega, by simp only; omega, by simp, by simp only [List.length_nil]; omega⟩ ?_ ?_
  · (simp only [go_sem, tyAll, Nat.reduceAdd, Nat.reduceLT, Nat.reduceLeDiff, Nat.reduceEqDiff, Nat.reduceMul, Nat.reduceSub, Nat.reduceGT, reduceIte, Int.reduceNeg, Int.reduceToNat] <;> (first | rfl | exact ⟨rfl, rfl⟩ | exact ⟨rfl, rfl, rfl⟩ | exact ⟨rfl, rfl, rfl, rfl⟩ | exact ⟨rfl, rfl, rfl, rfl, rfl⟩ | exact ⟨⟨rfl, rfl⟩, rfl⟩ | simp))
  rintro ⟨q, f, out⟩ ⟨h0, h1, h2, h3, h4⟩
  simp only at h0 h1 h2 h3 h4 ⊢
  rcases Int.lt_or_le q 0 with hneg | hpos
  · rw [pathUp_neg L f q hneg, List.append_nil] at h3
    have hd := decS_enc out
    (repeat' (first | refine WP.seq ?_ | refine WP.block ?_ | ((first | refine WP.region ?_ | refine WP.condW ?_ | refine WP.ret ?_ | refine WP.exit ?_ | refine WP.skip ?_); simp only [go_sem, hd, tyAll, Nat.reduceAdd, Nat.reduceLT, Nat.reduceLeDiff, Nat.reduceEqDiff, Nat.reduceMul, Nat.reduceSub, Nat.reduceGT, reduceIte, Int.reduceNeg, Int.reduceToNat]) |  refine And.intro ?_ ?_ | intro _))
    all_goals first | omega | skip
    rw [hp, h3]
  · obtain ⟨q, rfl⟩ := Int.eq_ofNat_of_zero_le hpos
    have hq : q < L.length := by omega
    have h5 := rowAt_map encTreeNode L q hq
    have h6 := nodeOk_iff.1 (treeOk_nodes hok q hq)
    rw [pathUp_pos L f q hq (by omega)] at h3
    (repeat' (first | refine WP.seq ?_ | refine WP.block ?_ | ((first | refine WP.region ?_ | refine WP.condW ?_ | refine WP.ret ?_ | refine WP.exit ?_ | refine WP.skip ?_); simp only [go_sem, h5, encTreeNode, tyAll, Nat.reduceAdd, Nat.reduceLT, Nat.reduceLeDiff, Nat.reduceEqDiff, Nat.reduceMul, Nat.reduceSub, Nat.reduceGT, reduceIte, Int.reduceNeg, Int.reduceToNat]) |  refine And.intro ?_ ?_ | intro _))
    all_goals first | omega | skip
    exact ⟨(L[q].parent, f - 1, out ++ [L[q].name]), ⟨by simp only; omega, by simp only; omega, by simp only; omega, by simp only; rw [← h3]; simp, by simp only [List.length_append, List.length_cons, List.length_nil]; omega⟩, by simp only; omega, by simp only [List.map_append, List.map_cons, List.map_nil]; first | exact ⟨rfl, rfl⟩ | exact ⟨trivial, rfl⟩⟩
end
end Go.Proofs.YtahcfcimfcjhhaaGreatDoor
/-
  DERIVED. Plain lists: own counts of a tree add up to the totals at the top; the heaviest way down; paths.
-/
namespace Go.Proofs.YtahcfcimfcjhhaaGreatDoor
set_option linter.unusedVariables false
set_option linter.unusedSimpArgs false
open Go.Pl Go.Vc
def selfS (L : List TreeNode) (k : Nat) : Int := ((L.take k).map (·.self)).sum
theorem selfS_succ {L : List TreeNode} {k : Nat} (h : k < L.length) : selfS L (k + 1) = selfS L k + L[k].self := by
  unfold selfS
  rw [List.take_succ_eq_append_getElem h, List.map_append, List.sum_append]
  simp
/-- the totals below the first n nodes -/
def chS (L : List TreeNode) : Nat → Int
  | 0 => 0
  | n + 1 => chS L n + totB L n
theorem chS_cons (x : TreeNode) (L : List TreeNode) : ∀ n : Nat, chS (x :: L) n = chS L n + (if 0 ≤ x.parent ∧ x.parent < n then x.total else 0)
  | 0 => by simp [chS]; omega
  | n + 1 => by
    rw [chS, chS, chS_cons x L n, totB_cons]
    by_cases h1 : x.parent = n
    · rw [if_pos h1, if_neg (by omega), if_pos (by omega)]; omega
    · rw [if_neg h1]
      by_cases h2 : 0 ≤ x.parent ∧ x.parent < n
      · rw [if_pos h2, if_pos (by omega)]; omega
      · rw [if_neg h2, if_neg (by omega)]; omega
def totS (L : List TreeNode) : Int := (L.map (·.total)).sum
theorem ch_tot : ∀ (L : List TreeNode) (n : Nat), (∀ x ∈ L, -1 ≤ x.parent ∧ x.parent < n) → chS L n + totB L (-1) = totS L
  | [], n, _ => by
    have key : ∀ m, chS [] m = 0 := by
      intro m
      induction m with
      | zero => rfl
      | succ m ih => rw [chS, ih]; rfl
    rw [key]; rfl
  | x :: L, n, h => by
    have ih := ch_tot L n fun y hy => h y (List.mem_cons_of_mem _ hy)
    have h1 := h x List.mem_cons_self
    rw [chS_cons, totB_cons]
    have : totS (x :: L) = x.total + totS L := by unfold totS; rw [List.map_cons, List.sum_cons]
    rw [this]
    by_cases h2 : x.parent = -1
    · rw [if_pos h2, if_neg (by omega)]; omega
    · rw [if_neg h2, if_pos (by omega)]; omega
theorem self_ch {L : List TreeNode} (hok : treeOk L = true) : ∀ n, n ≤ L.length → selfS L n + chS L n = ((L.take n).map (·.total)).sum
  | 0, _ => by simp [selfS, chS]
  | n + 1, h => by
    have ih := self_ch hok n (by omega)
    have h1 := treeOk_sums hok n (by omega)
    rw [below_all] at h1
    rw [selfS_succ (by omega), chS, List.take_succ_eq_append_getElem (show n < L.length by omega), List.map_append, List.sum_append]
    simp only [List.map_cons, List.map_nil, List.sum_cons, List.sum_nil]
    omega
theorem self_sum {L : List TreeNode} (hok : treeOk L = true) : selfS L L.length = totB L (-1) := by
  have h1 := self_ch hok L.length (Nat.le_refl _)
  have h2 := ch_tot L L.length fun x hx => by
    obtain ⟨i, hi, rfl⟩ := List.mem_iff_getElem.1 hx
    have := nodeOk_iff.1 (treeOk_nodes hok i hi)
    omega
  rw [List.take_length] at h1
  unfold totS at h2
  omega
theorem selfS_bd {L : List TreeNode} (hok : treeOk L = true) (k : Nat) (hk : k ≤ L.length) : 0 ≤ selfS L k ∧ selfS L k ≤ selfS L L.length := by
  have nn : ∀ x ∈ L, 0 ≤ x.self := fun x hx => by
    obtain ⟨i, hi, rfl⟩ := List.mem_iff_getElem.1 hx
    have := nodeOk_iff.1 (treeOk_nodes hok i hi)
    omega
  have s0 : ∀ Q : List TreeNode, (∀ x ∈ Q, 0 ≤ x.self) → 0 ≤ (Q.map (·.self)).sum := by
    intro Q
    induction Q with
    | nil => intro _; exact Int.le_refl _
    | cons x Q ih =>
      intro h
      have h1 := h x List.mem_cons_self
      have h2 := ih fun y hy => h y (List.mem_cons_of_mem _ hy)
      rw [List.map_cons, List.sum_cons]; omega
  have h1 := s0 (L.take k) fun x hx => nn x (List.mem_of_mem_take hx)
  have h2 := s0 (L.drop k) fun x hx => nn x (List.mem_of_mem_drop hx)
  have h3 : selfS L L.length = selfS L k + ((L.drop k).map (·.self)).sum := by
    unfold selfS
    rw [List.take_length]
    conv => lhs; rw [← List.take_append_drop k L]
    rw [List.map_append, List.sum_append]
  unfold selfS at h3 ⊢
  omega
/-! ## the heaviest -/
theorem best_parent (L : List TreeNode) (a : Int) : ∀ k, k ≤ L.length → 0 ≤ bestAt L a k → ∃ q : Nat, ∃ h : q < L.length, bestAt L a k = q ∧ L[q].parent = a
  | 0, _, h => by simp [bestAt] at h
  | k + 1, hk, h => by
    rw [bestAt, List.getElem?_eq_getElem (by omega : k < L.length)] at h ⊢
    simp only at h ⊢
    split
    · rename_i hc; exact ⟨k, by omega, rfl, hc.1⟩
    · rename_i hc; rw [if_neg hc] at h; exact best_parent L a k (by omega) h
theorem best_some (L : List TreeNode) (a : Int) : ∀ k, k ≤ L.length → (∃ q, ∃ h : q < L.length, q < k ∧ L[q].parent = a) → 0 ≤ bestAt L a k
  | 0, _, h => by obtain ⟨q, _, hq, _⟩ := h; omega
  | k + 1, hk, h => by
    rw [bestAt, List.getElem?_eq_getElem (by omega : k < L.length)]
    simp only
    split
    · omega
    · rename_i hc
      obtain ⟨q, hq, hqk, hp⟩ := h
      by_cases e : q = k
      · subst e
        have hb : ¬ bestAt L a q < 0 := fun hb => hc ⟨hp, .inl hb⟩
        omega
      · exact best_some L a k (by omega) ⟨q, hq, by omega, hp⟩
def HvC (L : List TreeNode) (a : Int) (H : List Int) : Prop := (∀ x : Int, H[0]? = some x → ∃ q : Nat, ∃ hq : q < L.length, x = q ∧ L[q].parent = a) ∧
    ∀ (i : Nat) (x y : Int), H[i + 1]? = some x → H[i]? = some y → ∃ q p : Nat, ∃ (hq : q < L.length) (hp : p < L.length), x = q ∧ y = p ∧ L[q].parent = p
theorem hv_chain {L : List TreeNode} : ∀ (f : Nat) (a : Int), HvC L a (hvGo L f a)
  | 0, a => ⟨fun x h => by simp [hvGo] at h, fun i x y h => by simp [hvGo] at h⟩
  | f + 1, a => by
    by_cases hb : bestAt L a L.length < 0
    · have e : hvGo L (f + 1) a = [] := by rw [hvGo, if_pos hb]
      rw [e]
      exact ⟨fun x h => by simp at h, fun i x y h => by simp at h⟩
    · have e : hvGo L (f + 1) a = bestAt L a L.length :: hvGo L f (bestAt L a L.length) := by rw [hvGo, if_neg hb]
      obtain ⟨q, hq, e1, e2⟩ := best_parent L a L.length (Nat.le_refl _) (by omega)
      have ih := hv_chain (L := L) f (bestAt L a L.length)
      rw [e]
      refine ⟨fun x hx => ⟨q, hq, by simp at hx; omega, e2⟩, fun i x y hx hy => ?_⟩
      cases i with
      | zero =>
        simp only [List.getElem?_cons_zero, Option.some.injEq, List.getElem?_cons_succ, Nat.zero_add] at hx hy
        obtain ⟨q2, hq2, g1, g2⟩ := ih.1 x hx
        exact ⟨q2, q, hq2, hq, g1, by omega, by rw [g2, e1]⟩
      | succ i =>
        simp only [List.getElem?_cons_succ] at hx hy
        exact ih.2 i x y hx hy
theorem child_total {L : List TreeNode} (hok : treeOk L = true) {q p : Nat} (hq : q < L.length) (hp : p < L.length) (h : L[q].parent = p) : L[q].total ≤ L[p].total := by
  have h1 := (below_bound (L := L) p q (by omega) (fun j hj _ => treeOk_nodes hok j hj)).1
  have h2 := below_le hok p (q + 1) (by omega)
  rw [below_succ L p q hq, if_pos h] at h2
  have h3 := treeOk_sums hok p hp
  have h4 := nodeOk_iff.1 (treeOk_nodes hok p hp)
  omega
theorem heavy_chain {L : List TreeNode} (hok : treeOk L = true) (i : Nat) (h : i + 1 < (heavy L).length) : ∃ q p : Nat, ∃ (hq : q < L.length) (hp : p < L.length), (heavy L)[i + 1] = q ∧ (heavy L)[i]'(by omega) = p ∧ L[q].parent = p ∧ L[q].total ≤ L[p].total := by
  have e : heavy L = hvGo L (L.length + 1) (-1) := if_pos hok
  have hc := (hv_chain (L := L) (L.length + 1) (-1)).2 i (heavy L)[i + 1] ((heavy L)[i]'(by omega))
  rw [← e] at hc
  obtain ⟨q, p, hq, hp, g1, g2, g3⟩ := hc (List.getElem?_eq_getElem h) (List.getElem?_eq_getElem (by omega))
  exact ⟨q, p, hq, hp, g1, g2, g3, child_total hok hq hp g3⟩
theorem heavy_nil {L : List TreeNode} (hok : treeOk L = true) : (heavy L).length = 0 ↔ L.length = 0 := by
  have e : heavy L = hvGo L (L.length + 1) (-1) := if_pos hok
  rw [e, hvGo]
  constructor
  · intro h
    by_cases h0 : L.length = 0
    · exact h0
    · exfalso
      have g := nodeOk_iff.1 (treeOk_nodes hok 0 (by omega))
      have := best_some L (-1) L.length (Nat.le_refl _) ⟨0, by omega, by omega, by omega⟩
      rw [if_neg (by omega)] at h
      simp at h
  · intro h
    have : L = [] := List.eq_nil_of_length_eq_zero h
    subst this
    simp [bestAt]
theorem path_last {L : List TreeNode} (hok : treeOk L = true) {k : Nat} (hk : k < L.length) : ∃ Q, pathOf L k = Q ++ [L[k].name] := by
  have e : pathOf L k = (pathUp L (k + 1) k).reverse := by
    unfold pathOf
    rw [if_pos ⟨hok, by omega, by omega⟩]; rfl
  rw [e, pathUp_pos L (k + 1) k hk (by omega), List.reverse_cons]
  exact ⟨_, rfl⟩
end Go.Proofs.YtahcfcimfcjhhaaGreatDoor

namespace Go.Proofs.YtahcfcimfcjhhaaGreatDoor
open Go.Vc
attribute [local go_sem] St.runR St.runW St.stepV offV St.step St.stepU St.stepG mkCond guardB St.prK St.pr St.prLen St.eff St.callE St.callD St.callF St.callL aI aB aS aR aC St.isM St.argL Ctr.pure Ctr.lend Ctr.move Ctr.isL Ctr.wri pur len lentBy St.lentV St.lent1 nthS argsR restOf obsR pairs swapL unObs backL St.resL erL SV.ren1 SV.up SV.up2 Ob.up St.fzL cellIds partIds St.intoRow SV.ownId St.fz SV.fz1 St.prep St.mvL St.mv SV.re1 rnOk St.prEq vals eqCells scEq Value.kd St.prStr St.prCut cutR St.bnd St.prMin St.bld isShift outL retL outJ oR oC St.ev St.get St.put St.new St.kill SV.kill SV.kill1 Ob.kill St.app St.wrt St.rowsOf St.res St.killL lk er argsL SV.strip SV.need SV.share SV.share1 SV.owns SV.owns1 SV.owns2 SV.good SV.good1 SV.rok SV.rok1 SV.rok2 SV.isV SV.isV2 nodupN SV.cells SV.one SV.pur Ob.pb partsIn rowsIn splice cellsAt dstOk scal2 scal1 thenK blockK retK outK outs okC okL okA okT nilC nilL nilA nilT keepC keepL keepA keepT St.runG St.dltK St.least St.clean St.final St.hide offK badS badO SV.refs SV.leaf SV.leaf2 Ob.refs dlOk fpAt Go.Vc.cover tups SV.ofAgg St.out outC subL St.has rng wr Value.oneCell' Option.isSome_some Option.isSome_none List.nil_append Bool.false_eq_true List.map_cons List.map_nil List.all_cons List.all_nil List.length_cons List.length_nil List.drop_zero List.drop_succ_cons List.take_succ_cons List.take_zero List.drop_nil List.take_nil List.getElem?_cons_zero List.getElem?_cons_succ List.getElem?_nil List.cons_append List.nil_append List.append_nil List.append_assoc List.flatMap_cons List.flatMap_nil List.contains_cons List.contains_nil List.set_cons_zero List.set_cons_succ List.getElem?_toArray Option.getD_some Option.getD_none Option.map_some Option.map_none Option.bind_some Option.some.injEq Prod.mk.injEq if_true if_false true_and and_true and_self and_false false_and Bool.and_false Bool.false_and Bool.or_true Bool.true_or Bool.or_false Bool.false_or ne_eq not_true_eq_false not_false_eq_true decide_true decide_false List.mem_cons List.not_mem_nil List.filter_cons List.filter_nil List.any_cons List.any_nil List.isEmpty_nil List.isEmpty_cons Option.getD_none or_false false_or true_or or_true forall_eq_or_imp forall_eq reduceCtorEq exists_eq exists_eq' exists_eq_left' exists_eq_left exists_eq_right exists_eq_right' imp_self implies_true Bool.and_true Bool.true_and Bool.and_self beq_self_eq_true List.replicate_succ List.replicate_zero forall_const false_implies pickB_or pickB_and beqT beqF Int.toNat_natCast List.length_map List.length_replicate ge_iff_le gt_iff_lt decide_eq_true_eq decide_eq_false_iff_not Bool.and_eq_true Bool.or_eq_true Bool.not_eq_true' Bool.not_eq_false' condG List.toList_toArray Bool.or_eq_false_iff Bool.and_eq_false_iff Int.not_lt Int.not_le beq_iff_eq beq_eq_false_iff_ne bne_iff_ne bne_eq_false_iff_eq ne_eq Bool.not_true Bool.not_false exists_and_left
section
open Go.Vc
set_option linter.unusedSimpArgs false
set_option linter.unusedVariables false
set_option maxHeartbeats 1000000
set_option maxRecDepth 10000
attribute [local irreducible] Go.Vc.WP
attribute [local go_sem] cx0_t cx0_c
attribute [local go_sem] decNode_enc decFrame_enc oneFrame_enc stkA oneFrame_ab oneNode_abc decI_enc prA
def kTotal : Ctr := pur (fun args => prA args 0) (fun x => [.agg [.sl 3 (x.1.map encNode), .sl 1 (x.2.map encI)]]) wfP (fun _ x => .v (.int .i64 (totalOf x.1 x.2))) (fun _ _ => [])
section
noncomputable def cxToI : Cx := { P := Tryz.prog, tys := tys, C := [(41, kPrOk)], hty := tysOk, hC := COk.cons cPrOkI (COk.nil _) }
theorem cxToI_t : cxToI.tys = tys := rfl
theorem cxToI_c : cxToI.C = [(41, kPrOk)] := rfl
attribute [local go_sem] cxToI_t cxToI_c kPrOk
theorem cTotalI : Cn Tryz.prog 35 kTotal := by
  refine Cn.pur Tryz.func35 (by kernel_rfl) rfl fun d x hx => ?_
  obtain ⟨N, C⟩ := x
  obtain ⟨⟨hN, hs⟩, hC⟩ := hx
  simp only at hN hs hC ⊢
  refine Holds.go (c := cxToI) Tryz.func35 rfl Tryz.results35 Tryz.ntmps35 (by omega) (by simp) rfl ?_
  intro X0 w0
  (repeat' (first | refine WP.seq ?_ | refine WP.block ?_ | ((first | refine WP.region ?_ | refine WP.condW ?_ | refine WP.ret ?_ | refine WP.exit ?_ | refine WP.skip ?_); simp only [go_sem, tyAll, Nat.reduceAdd, Nat.reduceLT, Nat.reduceLeDiff, Nat.reduceEqDiff, Nat.reduceMul, Nat.reduceSub, Nat.reduceGT, reduceIte, Int.reduceNeg, Int.reduceToNat]) |  refine And.intro ?_ ?_ | intro _))
  all_goals first | omega | (simp only; omega) | exact hs _ ‹_› | skip
  · rename_i h; rw [show totalOf N C = 0 from if_neg (by rw [h]; simp)]
  rename_i hp
  have ht : totalOf N C = C.sum := if_pos hp
  refine WP.loop (fun k : Nat => ⟨[(3, .v (.int .i64 (C.take k).sum)), (10, .sl 1 (C.map encI)), (11, .v (.int .i64 C.length)), (12, .v (.int .i64 k))], []⟩)
    (fun k => k ≤ C.length) (fun k => C.length - k) 0 (by simp) ?_ ?_
  · (simp only [go_sem, tyAll, Nat.reduceAdd, Nat.reduceLT, Nat.reduceLeDiff, Nat.reduceEqDiff, Nat.reduceMul, Nat.reduceSub, Nat.reduceGT, reduceIte, Int.reduceNeg, Int.reduceToNat] <;> (first | rfl | exact ⟨rfl, rfl⟩ | exact ⟨rfl, rfl, rfl⟩ | exact ⟨rfl, rfl, rfl, rfl⟩ | exact ⟨rfl, rfl, rfl, rfl, rfl⟩ | exact ⟨⟨rfl, rfl⟩, rfl⟩ | simp))
  intro k hk
  have hsum := profileOk_sum hp k hk
  by_cases hlt : k < C.length
  · have h1 := rowAt_map encI C k hlt
    have h2 := take_sum C k hlt
    have h3 := cntOk_at (profileOk_iff.1 hp).2.2 k hlt
    (repeat' (first | refine WP.seq ?_ | refine WP.block ?_ | ((first | refine WP.region ?_ | refine WP.condW ?_ | refine WP.ret ?_ | refine WP.exit ?_ | refine WP.skip ?_); simp only [go_sem, h1, encI, tyAll, Nat.reduceAdd, Nat.reduceLT, Nat.reduceLeDiff, Nat.reduceEqDiff, Nat.reduceMul, Nat.reduceSub, Nat.reduceGT, reduceIte, Int.reduceNeg, Int.reduceToNat]) |  refine And.intro ?_ ?_ | intro _))
    all_goals first | omega | skip
    exact ⟨k + 1, by omega, by omega, by rw [h2]; (first | rfl | exact ⟨rfl, rfl⟩ | exact ⟨rfl, rfl, rfl⟩ | exact ⟨rfl, rfl, rfl, rfl⟩ | exact ⟨rfl, rfl, rfl, rfl, rfl⟩ | exact ⟨⟨rfl, rfl⟩, rfl⟩ | simp)⟩
  · rw [show k = C.length by omega, List.take_length]
    (repeat' (first | refine WP.seq ?_ | refine WP.block ?_ | ((first | refine WP.region ?_ | refine WP.condW ?_ | refine WP.ret ?_ | refine WP.exit ?_ | refine WP.skip ?_); simp only [go_sem, tyAll, Nat.reduceAdd, Nat.reduceLT, Nat.reduceLeDiff, Nat.reduceEqDiff, Nat.reduceMul, Nat.reduceSub, Nat.reduceGT, reduceIte, Int.reduceNeg, Int.reduceToNat]) |  refine And.intro ?_ ?_ | intro _))
    all_goals first | omega | skip
    rw [ht]
end
section
noncomputable def cxToS : Cx := { P := Tryz.prog, tys := tys, C := [(39, kPrOk)], hty := tysOk, hC := COk.cons cPrOkS (COk.nil _) }
theorem cxToS_t : cxToS.tys = tys := rfl
theorem cxToS_c : cxToS.C = [(39, kPrOk)] := rfl
attribute [local go_sem] cxToS_t cxToS_c kPrOk
theorem cTotalS : Cn Tryz.prog 13 kTotal := by
  refine Cn.pur Tryz.func13 (by kernel_rfl) rfl fun d x hx => ?_
  obtain ⟨N, C⟩ := x
  obtain ⟨⟨hN, hs⟩, hC⟩ := hx
  simp only at hN hs hC ⊢
  refine Holds.go (c := cxToS) Tryz.func13 rfl Tryz.results13 Tryz.ntmps13 (by omega) (by simp) rfl ?_
  intro X0 w0
  (repeat' (first | refine WP.seq ?_ | refine WP.block ?_ | ((first | refine WP.region ?_ | refine WP.condW ?_ | refine WP.ret ?_ | refine WP.exit ?_ | refine WP.skip ?_); simp only [go_sem, tyAll, Nat.reduceAdd, Nat.reduceLT, Nat.reduceLeDiff, Nat.reduceEqDiff, Nat.reduceMul, Nat.reduceSub, Nat.reduceGT, reduceIte, Int.reduceNeg, Int.reduceToNat]) |  refine And.intro ?_ ?_ | intro _))
  all_goals first | omega | (simp only; omega) | exact hs _ ‹_› | skip
  refine WP.loop (fun k : Nat => ⟨[(1, .ptr 1 0 0 0), (3, .v (.int .i64 (C.take k).sum)), (4, .v (.bool (profileOk N C))), (5, .v (.int .i64 k))], [(1, .box 39 [.sl 3 (N.map encNode), .sl 1 (C.map encI)])]⟩)
    (fun k => k ≤ C.length ∧ (profileOk N C = false → k = 0)) (fun k => C.length - k) 0 (by simp) ?_ ?_
  · (simp only [go_sem, tyAll, Nat.reduceAdd, Nat.reduceLT, Nat.reduceLeDiff, Nat.reduceEqDiff, Nat.reduceMul, Nat.reduceSub, Nat.reduceGT, reduceIte, Int.reduceNeg, Int.reduceToNat] <;> (first | rfl | exact ⟨rfl, rfl⟩ | exact ⟨rfl, rfl, rfl⟩ | exact ⟨rfl, rfl, rfl, rfl⟩ | exact ⟨rfl, rfl, rfl, rfl, rfl⟩ | exact ⟨⟨rfl, rfl⟩, rfl⟩ | simp))
  intro k ⟨hk, hk0⟩
  cases hp : profileOk N C with
  | true =>
    have ht : totalOf N C = C.sum := if_pos hp
    have hsum := profileOk_sum hp k hk
    by_cases hlt : k < C.length
    · have h1 := rowAt_map encI C k hlt
      have h2 := take_sum C k hlt
      have h3 := cntOk_at (profileOk_iff.1 hp).2.2 k hlt
      (repeat' (first | refine WP.seq ?_ | refine WP.block ?_ | ((first | refine WP.region ?_ | refine WP.condW ?_ | refine WP.ret ?_ | refine WP.exit ?_ | refine WP.skip ?_); simp only [go_sem, h1, encI, tyAll, Nat.reduceAdd, Nat.reduceLT, Nat.reduceLeDiff, Nat.reduceEqDiff, Nat.reduceMul, Nat.reduceSub, Nat.reduceGT, reduceIte, Int.reduceNeg, Int.reduceToNat]) |  refine And.intro ?_ ?_ | intro _))
      all_goals first | omega | skip
      exact ⟨k + 1, by omega, by omega, by rw [h2]; (first | rfl | exact ⟨rfl, rfl⟩ | exact ⟨rfl, rfl, rfl⟩ | exact ⟨rfl, rfl, rfl, rfl⟩ | exact ⟨rfl, rfl, rfl, rfl, rfl⟩ | exact ⟨⟨rfl, rfl⟩, rfl⟩ | simp)⟩
    · rw [show k = C.length by omega, List.take_length]
      (repeat' (first | refine WP.seq ?_ | refine WP.block ?_ | ((first | refine WP.region ?_ | refine WP.condW ?_ | refine WP.ret ?_ | refine WP.exit ?_ | refine WP.skip ?_); simp only [go_sem, tyAll, Nat.reduceAdd, Nat.reduceLT, Nat.reduceLeDiff, Nat.reduceEqDiff, Nat.reduceMul, Nat.reduceSub, Nat.reduceGT, reduceIte, Int.reduceNeg, Int.reduceToNat]) |  refine And.intro ?_ ?_ | intro _))
      all_goals first | omega | skip
      rw [ht]
  | false =>
    have ht : totalOf N C = 0 := if_neg (by rw [hp]; simp)
    rw [hk0 hp]
    (repeat' (first | refine WP.seq ?_ | refine WP.block ?_ | ((first | refine WP.region ?_ | refine WP.condW ?_ | refine WP.ret ?_ | refine WP.exit ?_ | refine WP.skip ?_); simp only [go_sem, ht, tyAll, Nat.reduceAdd, Nat.reduceLT, Nat.reduceLeDiff, Nat.reduceEqDiff, Nat.reduceMul, Nat.reduceSub, Nat.reduceGT, reduceIte, Int.reduceNeg, Int.reduceToNat]) |  refine And.intro ?_ ?_ | intro _))
    all_goals first | omega | skip
    all_goals simp
end
end
section
open Go.Vc
set_option linter.unusedSimpArgs false
set_option linter.unusedVariables false
set_option maxHeartbeats 1000000
set_option maxRecDepth 10000
attribute [local irreducible] Go.Vc.WP
attribute [local go_sem] cx0_t cx0_c
open Go.Pl
attribute [local go_sem] isV_Node isV_It isV_Entry isV_S decS_enc decNode_enc decFrame_enc oneFrame_enc stkA oneFrame_ab oneNode_abc decI_enc prA encI_inj decU_enc isV_TreeNode decTreeNode_enc St.runO St.stepO
theorem cTreeZI : Cn Tryz.prog 15 kTreeZ := Cn.frozen (fun x => allV_TreeNode _) cTreeI
def kPathZ : Ctr := pur (fun args => (decTreeNode (aR args 0), aI args 1)) (fun x => [.sl 4 (x.1.map encTreeNode), .v (.int .i64 x.2)]) (fun x => x.1.length ≤ 1048576 ∧ ∀ r ∈ x.1, r.name.size ≤ 1048576) (fun _ x => .sl 1 ((pathOf x.1 x.2).map encS)) (fun _ _ => [])
theorem cPathZ : Cn Tryz.prog 16 kPathZ := Cn.frozen (fun x => allV_S _) cPathOfI
def kHeavyZ : Ctr := pur (fun args => decTreeNode (aR args 0)) (fun L => [.sl 4 (L.map encTreeNode)]) (fun L => L.length ≤ 1048576 ∧ ∀ x ∈ L, x.name.size ≤ 1048576) (fun _ L => .sl 1 ((heavy L).map encI)) (fun _ _ => [])
theorem cHeavyZ : Cn Tryz.prog 17 kHeavyZ := Cn.frozen (fun x => allV_I _) cHeavyI
section
noncomputable def cxLTrees : Cx := { P := Tryz.prog, tys := tys, C := [(6, kBig), (14, kDrawZ), (15, kTreeZ), (16, kPathZ), (17, kHeavyZ), (18, kTreeOk), (19, kTreeTotal), (13, kTotal)], hty := tysOk, hC := COk.cons cBig (COk.cons cDrawZ (COk.cons cTreeZI (COk.cons cPathZ (COk.cons cHeavyZ (COk.cons cTreeOkI (COk.cons cTreeTotalI (COk.cons cTotalS (COk.nil _)))))))) }
theorem cxLTrees_t : cxLTrees.tys = tys := rfl
theorem cxLTrees_c : cxLTrees.C = [(6, kBig), (14, kDrawZ), (15, kTreeZ), (16, kPathZ), (17, kHeavyZ), (18, kTreeOk), (19, kTreeTotal), (13, kTotal)] := rfl
attribute [local go_sem] cxLTrees_t cxLTrees_c kBig kDrawZ kTreeZ kPathZ kHeavyZ kTreeOk kTreeTotal kTotal
set_option maxHeartbeats 3000000 in
theorem lawTrees (b : List Int) (hb : b.length ≤ maxLen) (hz : ∀ z ∈ b, IntKind.u8.min ≤ z ∧ z ≤ IntKind.u8.max) : Holds Tryz.prog 4 [.sl 1 (b.map encU)] (.v (.bool true)) [] := by
  have hm : maxLen = 9223372036854775807 := rfl
  have hz' : ∀ z ∈ b, 0 ≤ z ∧ z ≤ 255 := fun z h => hz z h
  refine Holds.go (c := cxLTrees) Tryz.func4 rfl Tryz.results4 Tryz.ntmps4 (by omega) (by simp) rfl ?_
  intro X0 w0
  by_cases hbig : 1048576 < (b.length : Int)
  · (repeat' (first | refine WP.seq ?_ | refine WP.block ?_ | ((first | refine WP.region ?_ | refine WP.condW ?_ | refine WP.ret ?_ | refine WP.exit ?_ | refine WP.skip ?_); simp only [go_sem, hbig, tyAll, Nat.reduceAdd, Nat.reduceLT, Nat.reduceLeDiff, Nat.reduceEqDiff, Nat.reduceMul, Nat.reduceSub, Nat.reduceGT, reduceIte, Int.reduceNeg, Int.reduceToNat]) | ((first | refine WP.drawW 25 (by decide +kernel) (by kernel_rfl) ?_ | refine WP.drawW 24 (by decide +kernel) (by kernel_rfl) ?_ | refine WP.drawW 34 (by decide +kernel) (by kernel_rfl) ?_); simp only [go_sem, hbig, tyAll, Nat.reduceAdd, Nat.reduceLT, Nat.reduceLeDiff, Nat.reduceEqDiff, Nat.reduceMul, Nat.reduceSub, Nat.reduceGT, reduceIte, Int.reduceNeg, Int.reduceToNat]) |  refine And.intro ?_ ?_ | intro _))
    all_goals first | omega | skip
    all_goals trace_state
  have hb1 : b.length ≤ 1048576 := by omega
  have hdr := drA_ok hb1 hz'
  have hnm := drp_names hdr
  obtain ⟨hl1, hl2⟩ := drp_lens hdr
  have hw1 : (drA b).1.length ≤ 1048576 := by omega
  have hw2 : (drA b).2.length ≤ 1048576 := by omega
  have hnm' : ∀ n ∈ (drA b).1, n.name.size ≤ 1048576 := fun n hn => Nat.le_trans (hnm n hn) (by omega)
  have hT := drp_tree hdr
  have hS := drp_sum hdr
  have hO := drp_ord hdr
  have hTb := totalOf_bound (drA b).1 (drA b).2
  clear hdr hnm
  obtain ⟨L, hL⟩ : ∃ L, treeOf (drA b).1 (drA b).2 = L := ⟨_, rfl⟩
  rw [hL] at hT hS
  simp only [hL] at hO
  obtain ⟨T, hTT⟩ : ∃ T, totalOf (drA b).1 (drA b).2 = T := ⟨_, rfl⟩
  rw [hTT] at hS hTb
  have hok := hT.ok
  have hll := hT.len
  have hTn := hT.nms
  have hss := self_sum hok
  have hsb := selfS_bd hok
  have htt : treeTotal L = T := by
    unfold treeTotal
    rw [if_pos hok, below_all, hS, if_neg (by omega)]
  (repeat' (first | refine WP.seq ?_ | refine WP.block ?_ | ((first | refine WP.region ?_ | refine WP.condW ?_ | refine WP.ret ?_ | refine WP.exit ?_ | refine WP.skip ?_); simp only [go_sem, hbig, hL, tyAll, Nat.reduceAdd, Nat.reduceLT, Nat.reduceLeDiff, Nat.reduceEqDiff, Nat.reduceMul, Nat.reduceSub, Nat.reduceGT, reduceIte, Int.reduceNeg, Int.reduceToNat]) | ((first | refine WP.drawW 25 (by decide +kernel) (by kernel_rfl) ?_ | refine WP.drawW 24 (by decide +kernel) (by kernel_rfl) ?_ | refine WP.drawW 34 (by decide +kernel) (by kernel_rfl) ?_); simp only [go_sem, hbig, hL, tyAll, Nat.reduceAdd, Nat.reduceLT, Nat.reduceLeDiff, Nat.reduceEqDiff, Nat.reduceMul, Nat.reduceSub, Nat.reduceGT, reduceIte, Int.reduceNeg, Int.reduceToNat]) |  refine And.intro ?_ ?_ | intro _))
  all_goals first | omega | exact (hz' _ ‹_›).1 | exact (hz' _ ‹_›).2 | exact hnm' _ ‹_› | skip
  refine WP.loop (fun k : Nat => ⟨[(3, .ptr 3 0 0 0), (5, .sl 4 (L.map encTreeNode)), (6, .v (.int .i64 (selfS L k))), (7, .v (.int .i64 k))], [(3, .box 39 [.sl 3 ((drA b).1.map encNode), .sl 1 ((drA b).2.map encI)])]⟩)
    (fun k => k ≤ L.length) (fun k => L.length - k) 0 (by simp) ?_ ?_
  · have h0 : selfS L 0 = 0 := rfl
    (simp only [go_sem, h0, tyAll, Nat.reduceAdd, Nat.reduceLT, Nat.reduceLeDiff, Nat.reduceEqDiff, Nat.reduceMul, Nat.reduceSub, Nat.reduceGT, reduceIte, Int.reduceNeg, Int.reduceToNat] <;> (first | rfl | exact ⟨rfl, rfl⟩ | exact ⟨rfl, rfl, rfl⟩ | exact ⟨rfl, rfl, rfl, rfl⟩ | exact ⟨rfl, rfl, rfl, rfl, rfl⟩ | exact ⟨⟨rfl, rfl⟩, rfl⟩ | simp))
  intro k hk
  have gk := hsb k hk
  by_cases hlt : k < L.length
  · have hli : (k : Int) < L.length := by omega
    have h1 := rowAt_map encTreeNode L k hlt
    have hsu := selfS_succ hlt
    have gk1 := hsb (k + 1) (by omega)
    obtain ⟨Q, hQ⟩ := path_last hok hlt
    have hpos : ¬ L[k].total < 1 := by have := hT.pos _ (List.getElem_mem hlt); omega
    have hOk := fun i (hi : i < L.length) (hik : i < k) => hO i k hi hlt hik
    have hQl : Q.length + 1 ≤ L.length := by have := pathOf_len L k; rw [hQ, List.length_append, List.length_singleton] at this; exact this
    have hQn : ((Q ++ [L[k].name]).length : Int) - 1 = Q.length := by simp
    have hQ0 : ¬ ((Q ++ [L[k].name]).length : Int) = 0 := by simp; omega
    have hQ1 : (Q.length : Int) < (Q ++ [L[k].name]).length := by rw [List.length_append, List.length_singleton]; omega
    have hQr : Go.Vc.rowAt ((Q ++ [L[k].name]).map encS) Q.length = encS L[k].name := by
      rw [rowAt_map encS _ _ (by simp)]; simp
    (repeat' (first | refine WP.seq ?_ | refine WP.block ?_ | ((first | refine WP.region ?_ | refine WP.condW ?_ | refine WP.ret ?_ | refine WP.exit ?_ | refine WP.skip ?_); simp only [go_sem, hli, h1, encTreeNode, hQ, hpos, hQn, hQ0, hQ1, hQr, encS, tyAll, Nat.reduceAdd, Nat.reduceLT, Nat.reduceLeDiff, Nat.reduceEqDiff, Nat.reduceMul, Nat.reduceSub, Nat.reduceGT, reduceIte, Int.reduceNeg, Int.reduceToNat]) | ((first | refine WP.drawW 25 (by decide +kernel) (by kernel_rfl) ?_ | refine WP.drawW 24 (by decide +kernel) (by kernel_rfl) ?_ | refine WP.drawW 34 (by decide +kernel) (by kernel_rfl) ?_); simp only [go_sem, hli, h1, encTreeNode, hQ, hpos, hQn, hQ0, hQ1, hQr, encS, tyAll, Nat.reduceAdd, Nat.reduceLT, Nat.reduceLeDiff, Nat.reduceEqDiff, Nat.reduceMul, Nat.reduceSub, Nat.reduceGT, reduceIte, Int.reduceNeg, Int.reduceToNat]) |  refine And.intro ?_ ?_ | intro _))
    all_goals first | omega | exact hTn _ ‹_› | skip
    refine WP.loop (fun i : Nat => ⟨[(3, .ptr 3 0 0 0), (5, .sl 4 (L.map encTreeNode)), (6, .v (.int .i64 (selfS L (k + 1)))), (7, .v (.int .i64 k)), (9, .v (.int .i64 i))], [(3, .box 39 [.sl 3 ((drA b).1.map encNode), .sl 1 ((drA b).2.map encI)])]⟩)
      (fun i => i ≤ k) (fun i => k - i) 0 (by simp) ?_ ?_
    · (simp only [go_sem, hsu, tyAll, Nat.reduceAdd, Nat.reduceLT, Nat.reduceLeDiff, Nat.reduceEqDiff, Nat.reduceMul, Nat.reduceSub, Nat.reduceGT, reduceIte, Int.reduceNeg, Int.reduceToNat] <;> (first | rfl | exact ⟨rfl, rfl⟩ | exact ⟨rfl, rfl, rfl⟩ | exact ⟨rfl, rfl, rfl, rfl⟩ | exact ⟨rfl, rfl, rfl, rfl, rfl⟩ | exact ⟨⟨rfl, rfl⟩, rfl⟩ | simp))
    intro i hi
    by_cases hik : i < k
    · have hiki : (i : Int) < k := by omega
      have hil : i < L.length := by omega
      have hili : (i : Int) < L.length := by omega
      have h2 := rowAt_map encTreeNode L i hil
      by_cases hp : L[i].parent = L[k].parent
      · have ho := hOk i hil hik hp
        (repeat' (first | refine WP.seq ?_ | refine WP.block ?_ | ((first | refine WP.region ?_ | refine WP.condW ?_ | refine WP.ret ?_ | refine WP.exit ?_ | refine WP.skip ?_); simp only [go_sem, hiki, hili, hli, h1, h2, encTreeNode, hp, ltS_def, ho, tyAll, Nat.reduceAdd, Nat.reduceLT, Nat.reduceLeDiff, Nat.reduceEqDiff, Nat.reduceMul, Nat.reduceSub, Nat.reduceGT, reduceIte, Int.reduceNeg, Int.reduceToNat]) | ((first | refine WP.drawW 25 (by decide +kernel) (by kernel_rfl) ?_ | refine WP.drawW 24 (by decide +kernel) (by kernel_rfl) ?_ | refine WP.drawW 34 (by decide +kernel) (by kernel_rfl) ?_); simp only [go_sem, hiki, hili, hli, h1, h2, encTreeNode, hp, ltS_def, ho, tyAll, Nat.reduceAdd, Nat.reduceLT, Nat.reduceLeDiff, Nat.reduceEqDiff, Nat.reduceMul, Nat.reduceSub, Nat.reduceGT, reduceIte, Int.reduceNeg, Int.reduceToNat]) |  refine And.intro ?_ ?_ | intro _))
        all_goals first | omega | exact ⟨i + 1, by omega, by omega, by (first | rfl | exact ⟨rfl, rfl⟩ | exact ⟨rfl, rfl, rfl⟩ | exact ⟨rfl, rfl, rfl, rfl⟩ | exact ⟨rfl, rfl, rfl, rfl, rfl⟩ | exact ⟨⟨rfl, rfl⟩, rfl⟩ | simp)⟩ | skip
        all_goals trace_state
      · (repeat' (first | refine WP.seq ?_ | refine WP.block ?_ | ((first | refine WP.region ?_ | refine WP.condW ?_ | refine WP.ret ?_ | refine WP.exit ?_ | refine WP.skip ?_); simp only [go_sem, hiki, hili, hli, h1, h2, encTreeNode, hp, tyAll, Nat.reduceAdd, Nat.reduceLT, Nat.reduceLeDiff, Nat.reduceEqDiff, Nat.reduceMul, Nat.reduceSub, Nat.reduceGT, reduceIte, Int.reduceNeg, Int.reduceToNat]) | ((first | refine WP.drawW 25 (by decide +kernel) (by kernel_rfl) ?_ | refine WP.drawW 24 (by decide +kernel) (by kernel_rfl) ?_ | refine WP.drawW 34 (by decide +kernel) (by kernel_rfl) ?_); simp only [go_sem, hiki, hili, hli, h1, h2, encTreeNode, hp, tyAll, Nat.reduceAdd, Nat.reduceLT, Nat.reduceLeDiff, Nat.reduceEqDiff, Nat.reduceMul, Nat.reduceSub, Nat.reduceGT, reduceIte, Int.reduceNeg, Int.reduceToNat]) |  refine And.intro ?_ ?_ | intro _))
        all_goals first | omega | exact ⟨i + 1, by omega, by omega, by (first | rfl | exact ⟨rfl, rfl⟩ | exact ⟨rfl, rfl, rfl⟩ | exact ⟨rfl, rfl, rfl, rfl⟩ | exact ⟨rfl, rfl, rfl, rfl, rfl⟩ | exact ⟨⟨rfl, rfl⟩, rfl⟩ | simp)⟩ | skip
        all_goals trace_state
    · have hike : ¬ (i : Int) < k := by omega
      (repeat' (first | refine WP.seq ?_ | refine WP.block ?_ | ((first | refine WP.region ?_ | refine WP.condW ?_ | refine WP.ret ?_ | refine WP.exit ?_ | refine WP.skip ?_); simp only [go_sem, hike, tyAll, Nat.reduceAdd, Nat.reduceLT, Nat.reduceLeDiff, Nat.reduceEqDiff, Nat.reduceMul, Nat.reduceSub, Nat.reduceGT, reduceIte, Int.reduceNeg, Int.reduceToNat]) | ((first | refine WP.drawW 25 (by decide +kernel) (by kernel_rfl) ?_ | refine WP.drawW 24 (by decide +kernel) (by kernel_rfl) ?_ | refine WP.drawW 34 (by decide +kernel) (by kernel_rfl) ?_); simp only [go_sem, hike, tyAll, Nat.reduceAdd, Nat.reduceLT, Nat.reduceLeDiff, Nat.reduceEqDiff, Nat.reduceMul, Nat.reduceSub, Nat.reduceGT, reduceIte, Int.reduceNeg, Int.reduceToNat]) |  refine And.intro ?_ ?_ | intro _))
      all_goals first | omega | exact ⟨k + 1, by omega, by omega, by (first | rfl | exact ⟨rfl, rfl⟩ | exact ⟨rfl, rfl, rfl⟩ | exact ⟨rfl, rfl, rfl, rfl⟩ | exact ⟨rfl, rfl, rfl, rfl, rfl⟩ | exact ⟨⟨rfl, rfl⟩, rfl⟩ | simp)⟩ | skip
      all_goals trace_state
  · have hge : ¬ (k : Int) < L.length := by omega
    obtain rfl : k = L.length := by omega
    rw [hss, hS]
    have hhc := fun i h => heavy_chain hok i h
    have hhn := heavy_nil hok
    have hhl := heavy_len L
    (repeat' (first | refine WP.seq ?_ | refine WP.block ?_ | ((first | refine WP.region ?_ | refine WP.condW ?_ | refine WP.ret ?_ | refine WP.exit ?_ | refine WP.skip ?_); simp only [go_sem, hge, tyAll, Nat.reduceAdd, Nat.reduceLT, Nat.reduceLeDiff, Nat.reduceEqDiff, Nat.reduceMul, Nat.reduceSub, Nat.reduceGT, reduceIte, Int.reduceNeg, Int.reduceToNat]) | ((first | refine WP.drawW 25 (by decide +kernel) (by kernel_rfl) ?_ | refine WP.drawW 24 (by decide +kernel) (by kernel_rfl) ?_ | refine WP.drawW 34 (by decide +kernel) (by kernel_rfl) ?_); simp only [go_sem, hge, tyAll, Nat.reduceAdd, Nat.reduceLT, Nat.reduceLeDiff, Nat.reduceEqDiff, Nat.reduceMul, Nat.reduceSub, Nat.reduceGT, reduceIte, Int.reduceNeg, Int.reduceToNat]) |  refine And.intro ?_ ?_ | intro _))
    all_goals first | omega | exact hTn _ ‹_› | skip
    refine WP.loop (fun j : Nat => ⟨[(3, .ptr 3 0 0 0), (5, .sl 4 (L.map encTreeNode)), (6, .v (.int .i64 T)), (10, .sl 1 ((heavy L).map encI)), (11, .v (.int .i64 ((j : Int) + 1)))], [(3, .box 39 [.sl 3 ((drA b).1.map encNode), .sl 1 ((drA b).2.map encI)])]⟩)
      (fun j => j ≤ (heavy L).length) (fun j => (heavy L).length - j) 0 (by simp) ?_ ?_
    · (simp only [go_sem, tyAll, Nat.reduceAdd, Nat.reduceLT, Nat.reduceLeDiff, Nat.reduceEqDiff, Nat.reduceMul, Nat.reduceSub, Nat.reduceGT, reduceIte, Int.reduceNeg, Int.reduceToNat] <;> (first | rfl | exact ⟨rfl, rfl⟩ | exact ⟨rfl, rfl, rfl⟩ | exact ⟨rfl, rfl, rfl, rfl⟩ | exact ⟨rfl, rfl, rfl, rfl, rfl⟩ | exact ⟨⟨rfl, rfl⟩, rfl⟩ | simp))
    intro j hj
    by_cases hjl : j + 1 < (heavy L).length
    · have hjli : (j : Int) + 1 < (heavy L).length := by omega
      obtain ⟨q, p, hq, hp, g1, g2, g3, g4⟩ := hhc j hjl
      have hj1 : ((j : Int) + 1).toNat = j + 1 := by omega
      have hj2 : (j : Int) + 1 - 1 = j := by omega
      have hjl0 : (j : Int) < (heavy L).length := by omega
      have r1 := rowAt_map encI (heavy L) (j + 1) hjl
      have r2 := rowAt_map encI (heavy L) j (by omega)
      rw [g1] at r1
      rw [g2] at r2
      have r3 := rowAt_map encTreeNode L q hq
      have r4 := rowAt_map encTreeNode L p hp
      have hqi : (q : Int) < L.length := by omega
      have hpi : (p : Int) < L.length := by omega
      have g5 : ¬ L[p].total < L[q].total := by omega
      (repeat' (first | refine WP.seq ?_ | refine WP.block ?_ | ((first | refine WP.region ?_ | refine WP.condW ?_ | refine WP.ret ?_ | refine WP.exit ?_ | refine WP.skip ?_); simp only [go_sem, hjli, hj1, hj2, hjl0, r1, r2, encI, r3, r4, encTreeNode, hqi, hpi, g3, g5, tyAll, Nat.reduceAdd, Nat.reduceLT, Nat.reduceLeDiff, Nat.reduceEqDiff, Nat.reduceMul, Nat.reduceSub, Nat.reduceGT, reduceIte, Int.reduceNeg, Int.reduceToNat]) | ((first | refine WP.drawW 25 (by decide +kernel) (by kernel_rfl) ?_ | refine WP.drawW 24 (by decide +kernel) (by kernel_rfl) ?_ | refine WP.drawW 34 (by decide +kernel) (by kernel_rfl) ?_); simp only [go_sem, hjli, hj1, hj2, hjl0, r1, r2, encI, r3, r4, encTreeNode, hqi, hpi, g3, g5, tyAll, Nat.reduceAdd, Nat.reduceLT, Nat.reduceLeDiff, Nat.reduceEqDiff, Nat.reduceMul, Nat.reduceSub, Nat.reduceGT, reduceIte, Int.reduceNeg, Int.reduceToNat]) |  refine And.intro ?_ ?_ | intro _))
      all_goals first | omega | exact ⟨j + 1, by omega, by omega, by (first | rfl | exact ⟨rfl, rfl⟩ | exact ⟨rfl, rfl, rfl⟩ | exact ⟨rfl, rfl, rfl, rfl⟩ | exact ⟨rfl, rfl, rfl, rfl, rfl⟩ | exact ⟨⟨rfl, rfl⟩, rfl⟩ | simp)⟩ | skip
      all_goals trace_state
    · have hjli : ¬ (j : Int) + 1 < (heavy L).length := by omega
      by_cases he : L.length = 0
      · have he1 : (L.length : Int) = 0 := by omega
        have he2 : ((heavy L).length : Int) = 0 := by have := hhn.2 he; omega
        (repeat' (first | refine WP.seq ?_ | refine WP.block ?_ | ((first | refine WP.region ?_ | refine WP.condW ?_ | refine WP.ret ?_ | refine WP.exit ?_ | refine WP.skip ?_); simp only [go_sem, hjli, hok, htt, hTT, he1, he2, tyAll, Nat.reduceAdd, Nat.reduceLT, Nat.reduceLeDiff, Nat.reduceEqDiff, Nat.reduceMul, Nat.reduceSub, Nat.reduceGT, reduceIte, Int.reduceNeg, Int.reduceToNat]) | ((first | refine WP.drawW 25 (by decide +kernel) (by kernel_rfl) ?_ | refine WP.drawW 24 (by decide +kernel) (by kernel_rfl) ?_ | refine WP.drawW 34 (by decide +kernel) (by kernel_rfl) ?_); simp only [go_sem, hjli, hok, htt, hTT, he1, he2, tyAll, Nat.reduceAdd, Nat.reduceLT, Nat.reduceLeDiff, Nat.reduceEqDiff, Nat.reduceMul, Nat.reduceSub, Nat.reduceGT, reduceIte, Int.reduceNeg, Int.reduceToNat]) |  refine And.intro ?_ ?_ | intro _))
        all_goals first | omega | exact hTn _ ‹_› | exact Nat.le_trans (hnm' _ ‹_›) (by omega) | exact Nat.le_trans hw1 (by omega) | exact Nat.le_trans hw2 (by omega) | rfl | (simp; done) | skip
        all_goals trace_state
      · have he1 : ¬ (L.length : Int) = 0 := by omega
        have he2 : ¬ ((heavy L).length : Int) = 0 := by
          intro h
          exact he (hhn.1 (by omega))
        have he3 : ((L.length : Int) == 0) = false := beq_eq_false_iff_ne.2 he1
        have he4 : (((heavy L).length : Int) == 0) = false := beq_eq_false_iff_ne.2 he2
        (repeat' (first | refine WP.seq ?_ | refine WP.block ?_ | ((first | refine WP.region ?_ | refine WP.condW ?_ | refine WP.ret ?_ | refine WP.exit ?_ | refine WP.skip ?_); simp only [go_sem, hjli, hok, htt, hTT, he1, he2, he3, he4, tyAll, Nat.reduceAdd, Nat.reduceLT, Nat.reduceLeDiff, Nat.reduceEqDiff, Nat.reduceMul, Nat.reduceSub, Nat.reduceGT, reduceIte, Int.reduceNeg, Int.reduceToNat]) | ((first | refine WP.drawW 25 (by decide +kernel) (by kernel_rfl) ?_ | refine WP.drawW 24 (by decide +kernel) (by kernel_rfl) ?_ | refine WP.drawW 34 (by decide +kernel) (by kernel_rfl) ?_); simp only [go_sem, hjli, hok, htt, hTT, he1, he2, he3, he4, tyAll, Nat.reduceAdd, Nat.reduceLT, Nat.reduceLeDiff, Nat.reduceEqDiff, Nat.reduceMul, Nat.reduceSub, Nat.reduceGT, reduceIte, Int.reduceNeg, Int.reduceToNat]) |  refine And.intro ?_ ?_ | intro _))
        all_goals first | omega | exact hTn _ ‹_› | exact Nat.le_trans (hnm' _ ‹_›) (by omega) | exact Nat.le_trans hw1 (by omega) | exact Nat.le_trans hw2 (by omega) | rfl | (simp; done) | skip
        all_goals trace_state
end
end
section
open Go.Vc
set_option linter.unusedSimpArgs false
set_option linter.unusedVariables false
set_option maxHeartbeats 1000000
set_option maxRecDepth 10000
attribute [local irreducible] Go.Vc.WP
attribute [local go_sem] cx0_t cx0_c
attribute [local go_sem] decNode_enc decFrame_enc oneFrame_enc stkA oneFrame_ab oneNode_abc decI_enc prA encI_inj
theorem szGo_neg : ∀ (l : List Nat) (r : Int), 0 ≤ r → szGo l r < 0 → szGo l r = -1
  | [], r, h, h2 => by unfold szGo at h2 ⊢; omega
  | n :: l, r, h, h2 => by
    unfold szGo at h2 ⊢
    split
    · rfl
    · rename_i h3
      rw [if_neg h3] at h2
      exact szGo_neg l _ (by omega) h2
theorem szGo_le1 : ∀ (l : List Nat) (r : Int), -1 ≤ r → szGo l r ≤ r
  | [], r, h => Int.le_refl _
  | n :: l, r, h => by
    unfold szGo
    split
    · omega
    · have := szGo_le1 l (r - n) (by omega)
      omega
theorem szvNode_neg {N : List Node} {l : Int} (h0 : 0 ≤ l) (h : szvNode N l < 0) : szvNode N l = -1 := by
  unfold szvNode at h ⊢
  split
  · rfl
  · rename_i h2
    rw [if_neg h2] at h
    exact szGo_neg _ _ (by omega) h
theorem szvNode_le {N : List Node} {l : Int} (h0 : 0 ≤ l) : szvNode N l ≤ l := by
  unfold szvNode
  split
  · omega
  · have := szGo_le1 (sizesNode N) (l - N.length) (by omega)
    omega
theorem szvNode_ok' {N : List Node} {l : Int} (hl : l ≤ 1048576) (h : ¬ szvNode N l < 0) : N.length ≤ 1048576 ∧ ∀ x ∈ N, x.name.size ≤ 1048576 := by
  unfold szvNode at h
  split at h
  · omega
  · rename_i h2
    refine ⟨by omega, fun x hx => ?_⟩
    have := szGo_ok (sizesNode N) _ (by omega) (Int.not_lt.1 h) x.name.size (List.mem_map.2 ⟨x, hx, rfl⟩)
    omega
def kszI : Ctr := pur (fun args => (decI (aR args 0), aI args 1)) (fun x => [.sl 1 (x.1.map encI), .v (.int .i64 x.2)]) (fun x => x.1.length ≤ maxLen ∧ 0 ≤ x.2 ∧ x.2 ≤ 1048576)
  (fun _ x => .v (.int .i64 (if x.2 - x.1.length < 0 then -1 else x.2 - x.1.length))) (fun _ _ => [])
section
noncomputable def cxSzI : Cx := { P := Tryz.prog, tys := tys, C := [], hty := tysOk, hC := COk.nil _ }
theorem cxSzI_t : cxSzI.tys = tys := rfl
theorem cxSzI_c : cxSzI.C = [] := rfl
attribute [local go_sem] cxSzI_t cxSzI_c 
theorem cszI : Cn Tryz.prog 48 kszI := by
  refine Cn.pur Tryz.func48 (by kernel_rfl) rfl fun d x hx => ?_
  obtain ⟨L, left⟩ := x
  obtain ⟨hL, h0, h1⟩ := hx
  simp only at hL h0 h1 ⊢
  have hm : maxLen = 9223372036854775807 := rfl
  refine Holds.go (c := cxSzI) Tryz.func48 rfl Tryz.results48 Tryz.ntmps48 (by omega) (by simp) rfl ?_
  intro X0 w0
  (repeat' (first | refine WP.seq ?_ | refine WP.block ?_ | ((first | refine WP.region ?_ | refine WP.condW ?_ | refine WP.ret ?_ | refine WP.exit ?_ | refine WP.skip ?_); simp only [go_sem, tyAll, Nat.reduceAdd, Nat.reduceLT, Nat.reduceLeDiff, Nat.reduceEqDiff, Nat.reduceMul, Nat.reduceSub, Nat.reduceGT, reduceIte, Int.reduceNeg, Int.reduceToNat]) |  refine And.intro ?_ ?_ | intro _))
  all_goals first | omega | skip
  · rename_i h; rw [if_pos h]
  · rename_i h; rw [if_neg (by omega)]
end
def kszStk : Ctr := pur (fun args => (stkA args 0, aI args 1)) (fun x => [.agg [.sl 3 (x.1.map encNode)], .v (.int .i64 x.2)]) (fun x => x.1.length ≤ maxLen ∧ (∀ r ∈ x.1, r.name.size ≤ maxLen) ∧ 0 ≤ x.2 ∧ x.2 ≤ 1048576)
  (fun _ x => .v (.int .i64 (szvNode x.1 x.2))) (fun _ _ => [])
section
noncomputable def cxSzStk : Cx := { P := Tryz.prog, tys := tys, C := [(82, kszNodeS)], hty := tysOk, hC := COk.cons cszNodeS (COk.nil _) }
theorem cxSzStk_t : cxSzStk.tys = tys := rfl
theorem cxSzStk_c : cxSzStk.C = [(82, kszNodeS)] := rfl
attribute [local go_sem] cxSzStk_t cxSzStk_c kszNodeS
theorem cszStk : Cn Tryz.prog 47 kszStk := by
  refine Cn.pur Tryz.func47 (by kernel_rfl) rfl fun d x hx => ?_
  obtain ⟨N, left⟩ := x
  obtain ⟨hN, hs, h0, h1⟩ := hx
  simp only at hN hs h0 h1 ⊢
  refine Holds.go (c := cxSzStk) Tryz.func47 rfl Tryz.results47 Tryz.ntmps47 (by omega) (by simp) rfl ?_
  intro X0 w0
  (repeat' (first | refine WP.seq ?_ | refine WP.block ?_ | ((first | refine WP.region ?_ | refine WP.condW ?_ | refine WP.ret ?_ | refine WP.exit ?_ | refine WP.skip ?_); simp only [go_sem, tyAll, Nat.reduceAdd, Nat.reduceLT, Nat.reduceLeDiff, Nat.reduceEqDiff, Nat.reduceMul, Nat.reduceSub, Nat.reduceGT, reduceIte, Int.reduceNeg, Int.reduceToNat]) |  refine And.intro ?_ ?_ | intro _))
  all_goals first | omega | exact hs _ ‹_› | skip
  · rename_i h; rw [szvNode_neg h0 h]
end
def szvPr (x : List Node × List Int) (l : Int) : Int := if szvNode x.1 l < 0 then -1 else if szvNode x.1 l - x.2.length < 0 then -1 else szvNode x.1 l - x.2.length
theorem szvPr_le {x : List Node × List Int} {l : Int} (h0 : 0 ≤ l) : szvPr x l ≤ l := by
  have := szvNode_le (N := x.1) h0
  unfold szvPr
  split
  · omega
  · split <;> omega
theorem szvPr_neg {x : List Node × List Int} {l : Int} (h : szvPr x l < 0) : szvPr x l = -1 := by
  unfold szvPr at h ⊢
  split
  · rfl
  · split
    · rfl
    · rename_i h1 h2; rw [if_neg h1, if_neg h2] at h; omega
theorem szvPr_ok {x : List Node × List Int} {l : Int} (hl : l ≤ 1048576) (h : ¬ szvPr x l < 0) : (x.1.length ≤ 1048576 ∧ ∀ n ∈ x.1, n.name.size ≤ 1048576) ∧ x.2.length ≤ 1048576 := by
  unfold szvPr at h
  split at h
  · omega
  · rename_i h1
    refine ⟨szvNode_ok' hl h1, ?_⟩
    split at h
    · omega
    · by_cases h0 : 0 ≤ l
      · have := szvNode_le (N := x.1) h0
        omega
      · exfalso
        apply h1
        unfold szvNode
        rw [if_pos (by omega)]; omega
def wfM (x : List Node × List Int) : Prop := x.1.length ≤ maxLen ∧ (∀ r ∈ x.1, r.name.size ≤ maxLen) ∧ x.2.length ≤ maxLen
def kszPr : Ctr := pur (fun args => (prA args 0, aI args 1)) (fun x => [.agg [.sl 3 (x.1.1.map encNode), .sl 1 (x.1.2.map encI)], .v (.int .i64 x.2)]) (fun x => wfM x.1 ∧ 0 ≤ x.2 ∧ x.2 ≤ 1048576)
  (fun _ x => .v (.int .i64 (szvPr x.1 x.2))) (fun _ _ => [])
section
noncomputable def cxSzPr : Cx := { P := Tryz.prog, tys := tys, C := [(47, kszStk), (48, kszI)], hty := tysOk, hC := COk.cons cszStk (COk.cons cszI (COk.nil _)) }
theorem cxSzPr_t : cxSzPr.tys = tys := rfl
theorem cxSzPr_c : cxSzPr.C = [(47, kszStk), (48, kszI)] := rfl
attribute [local go_sem] cxSzPr_t cxSzPr_c kszStk kszI
theorem cszPr : Cn Tryz.prog 20 kszPr := by
  refine Cn.pur Tryz.func20 (by kernel_rfl) rfl fun d x hx => ?_
  obtain ⟨⟨N, C⟩, left⟩ := x
  obtain ⟨⟨hN, hs, hC⟩, h0, h1⟩ := hx
  simp only at hN hs hC h0 h1 ⊢
  have hle := szvNode_le (N := N) h0
  refine Holds.go (c := cxSzPr) Tryz.func20 rfl Tryz.results20 Tryz.ntmps20 (by omega) (by simp) rfl ?_
  intro X0 w0
  (repeat' (first | refine WP.seq ?_ | refine WP.block ?_ | ((first | refine WP.region ?_ | refine WP.condW ?_ | refine WP.ret ?_ | refine WP.exit ?_ | refine WP.skip ?_); simp only [go_sem, tyAll, Nat.reduceAdd, Nat.reduceLT, Nat.reduceLeDiff, Nat.reduceEqDiff, Nat.reduceMul, Nat.reduceSub, Nat.reduceGT, reduceIte, Int.reduceNeg, Int.reduceToNat]) |  refine And.intro ?_ ?_ | intro _))
  all_goals first | omega | exact hs _ ‹_› | skip
  · rename_i h; rw [szvPr, if_pos h]
  · rename_i h g
    rw [szvPr, if_neg (Int.not_lt.2 h)]
    split
    · rfl
    · rename_i h5
      have h6 : ¬ (szvNode N left - (C.length : Int) < 0) := h5
      rw [if_neg h6] at g
      exact absurd g h6
  · rename_i h g
    rw [szvPr, if_neg (Int.not_lt.2 h)]
end
def ktoStk : Ctr := pur (fun args => stkA args 0) (fun N => [.agg [.sl 3 (N.map encNode)]]) (fun N => N.length ≤ 2097152) (fun d _ => .agg [.own d]) (fun d N => [(d, .sl 132 3 (N.map encNode))])
section
noncomputable def cxToStk : Cx := { P := Tryz.prog, tys := tys, C := [(87, ktoNodeS)], hty := tysOk, hC := COk.cons ctoNodeS (COk.nil _) }
theorem cxToStk_t : cxToStk.tys = tys := rfl
theorem cxToStk_c : cxToStk.C = [(87, ktoNodeS)] := rfl
attribute [local go_sem] cxToStk_t cxToStk_c ktoNodeS
theorem ctoStk : Cn Tryz.prog 52 ktoStk := by
  refine Cn.pur Tryz.func52 (by kernel_rfl) rfl fun d x hx => ?_
  refine Holds.go (c := cxToStk) Tryz.func52 rfl Tryz.results52 Tryz.ntmps52 (by omega) (by simp) rfl ?_
  intro X0 w0
  (repeat' (first | refine WP.seq ?_ | refine WP.block ?_ | ((first | refine WP.region ?_ | refine WP.condW ?_ | refine WP.ret ?_ | refine WP.exit ?_ | refine WP.skip ?_); simp only [go_sem, tyAll, Nat.reduceAdd, Nat.reduceLT, Nat.reduceLeDiff, Nat.reduceEqDiff, Nat.reduceMul, Nat.reduceSub, Nat.reduceGT, reduceIte, Int.reduceNeg, Int.reduceToNat]) |  refine And.intro ?_ ?_ | intro _))
  all_goals first | omega | exact ⟨_, _, _, rfl⟩ | exact ⟨_, _, rfl, _, _, rfl, rfl⟩ | skip
end
def ktoPr : Ctr := pur (fun args => prA args 0) (fun x => [.agg [.sl 3 (x.1.map encNode), .sl 1 (x.2.map encI)]]) (fun x => x.1.length ≤ 2097152 ∧ x.2.length ≤ 2097152) (fun d _ => .agg [.own d, .own (d + 1000)]) (fun d x => [(d, .sl 132 3 (x.1.map encNode)), (d + 1000, .sl 3 1 (x.2.map encI))])
section
noncomputable def cxToPr : Cx := { P := Tryz.prog, tys := tys, C := [(52, ktoStk), (53, k15)], hty := tysOk, hC := COk.cons ctoStk (COk.cons c15 (COk.nil _)) }
theorem cxToPr_t : cxToPr.tys = tys := rfl
theorem cxToPr_c : cxToPr.C = [(52, ktoStk), (53, k15)] := rfl
attribute [local go_sem] cxToPr_t cxToPr_c ktoStk k15
theorem ctoPr : Cn Tryz.prog 22 ktoPr := by
  refine Cn.pur Tryz.func22 (by kernel_rfl) rfl fun d x hx => ?_
  obtain ⟨N, C⟩ := x
  obtain ⟨hN, hC⟩ := hx
  simp only at hN hC ⊢
  refine Holds.go (c := cxToPr) Tryz.func22 rfl Tryz.results22 Tryz.ntmps22 (by omega) (by simp) rfl ?_
  intro X0 w0
  (repeat' (first | refine WP.seq ?_ | refine WP.block ?_ | ((first | refine WP.region ?_ | refine WP.condW ?_ | refine WP.ret ?_ | refine WP.exit ?_ | refine WP.skip ?_); simp only [go_sem, tyAll, Nat.reduceAdd, Nat.reduceLT, Nat.reduceLeDiff, Nat.reduceEqDiff, Nat.reduceMul, Nat.reduceSub, Nat.reduceGT, reduceIte, Int.reduceNeg, Int.reduceToNat]) |  refine And.intro ?_ ?_ | intro _))
  all_goals first | omega | exact ⟨_, _, _, rfl⟩ | exact ⟨_, _, rfl, _, _, rfl, rfl⟩ | (rw [if_neg (by omega)]) | skip
end
def keqStk : Ctr := pur (fun args => (stkA args 0, stkA args 1)) (fun x => [.agg [.sl 3 (x.1.map encNode)], .agg [.sl 3 (x.2.map encNode)]]) (fun x => x.1.length ≤ 4398046511104) (fun _ x => .v (.bool (decide (x.1 = x.2)))) (fun _ _ => [])
section
noncomputable def cxEqStk : Cx := { P := Tryz.prog, tys := tys, C := [(88, keqNodeS)], hty := tysOk, hC := COk.cons ceqNodeS (COk.nil _) }
theorem cxEqStk_t : cxEqStk.tys = tys := rfl
theorem cxEqStk_c : cxEqStk.C = [(88, keqNodeS)] := rfl
attribute [local go_sem] cxEqStk_t cxEqStk_c keqNodeS
theorem ceqStk : Cn Tryz.prog 55 keqStk := by
  refine Cn.pur Tryz.func55 (by kernel_rfl) rfl fun d x hx => ?_
  obtain ⟨N, M⟩ := x
  simp only at hx ⊢
  refine Holds.go (c := cxEqStk) Tryz.func55 rfl Tryz.results55 Tryz.ntmps55 (by omega) (by simp) rfl ?_
  intro X0 w0
  (repeat' (first | refine WP.seq ?_ | refine WP.block ?_ | ((first | refine WP.region ?_ | refine WP.condW ?_ | refine WP.ret ?_ | refine WP.exit ?_ | refine WP.skip ?_); simp only [go_sem, tyAll, Nat.reduceAdd, Nat.reduceLT, Nat.reduceLeDiff, Nat.reduceEqDiff, Nat.reduceMul, Nat.reduceSub, Nat.reduceGT, reduceIte, Int.reduceNeg, Int.reduceToNat]) |  refine And.intro ?_ ?_ | intro _))
  all_goals first | omega | simp_all | skip
end
def keqPr : Ctr := pur (fun args => (prA args 0, prA args 1)) (fun x => [.agg [.sl 3 (x.1.1.map encNode), .sl 1 (x.1.2.map encI)], .agg [.sl 3 (x.2.1.map encNode), .sl 1 (x.2.2.map encI)]]) (fun x => x.1.1.length ≤ 4398046511104 ∧ x.1.2.length ≤ 4398046511104)
  (fun _ x => .v (.bool (decide (x.1 = x.2)))) (fun _ _ => [])
section
noncomputable def cxEqPr : Cx := { P := Tryz.prog, tys := tys, C := [(55, keqStk), (56, k17)], hty := tysOk, hC := COk.cons ceqStk (COk.cons c17 (COk.nil _)) }
theorem cxEqPr_t : cxEqPr.tys = tys := rfl
theorem cxEqPr_c : cxEqPr.C = [(55, keqStk), (56, k17)] := rfl
attribute [local go_sem] cxEqPr_t cxEqPr_c keqStk k17
theorem ceqPr : Cn Tryz.prog 24 keqPr := by
  refine Cn.pur Tryz.func24 (by kernel_rfl) rfl fun d x hx => ?_
  obtain ⟨⟨N, C⟩, ⟨M, D⟩⟩ := x
  simp only at hx ⊢
  refine Holds.go (c := cxEqPr) Tryz.func24 rfl Tryz.results24 Tryz.ntmps24 (by omega) (by simp) rfl ?_
  intro X0 w0
  (repeat' (first | refine WP.seq ?_ | refine WP.block ?_ | ((first | refine WP.region ?_ | refine WP.condW ?_ | refine WP.ret ?_ | refine WP.exit ?_ | refine WP.skip ?_); simp only [go_sem, tyAll, Nat.reduceAdd, Nat.reduceLT, Nat.reduceLeDiff, Nat.reduceEqDiff, Nat.reduceMul, Nat.reduceSub, Nat.reduceGT, reduceIte, Int.reduceNeg, Int.reduceToNat]) |  refine And.intro ?_ ?_ | intro _))
  all_goals first | omega | simp_all | skip
end
end
end Go.Proofs.YtahcfcimfcjhhaaGreatDoor
/-
  DERIVED. What is read of a struct, field by field, stands for what its fields stand for.
-/
namespace Go.Vc
open Go.RowKit Go.WideShapes Go.ChangeShapes Go.Deep
set_option linter.unusedVariables false
section
variable {H : Type} {enc : TypeId × Value → H} {P : Program} {w : World}
theorem Cells.append {r1 r2 : List SV} {c1 c2 : List Value} (h1 : Cells w r1 c1) (h2 : Cells w r2 c2) : Cells w (r1 ++ r2) (c1 ++ c2) := by
  refine ⟨by rw [List.length_append, List.length_append, h1.1, h2.1], fun k c u hc hu => ?_⟩
  rw [List.getElem?_append] at hc hu
  by_cases hk : k < r1.length
  · rw [if_pos hk] at hc
    rw [if_pos (by rw [← h1.1]; exact hk)] at hu
    exact h1.2 k c u hc hu
  · rw [if_neg hk] at hc
    rw [if_neg (by rw [← h1.1]; exact hk), ← h1.1] at hu
    exact h2.2 _ c u hc hu
theorem Dec.map {t : TypeId} {α β : Type} {e : α → List SV} {wf : α → Prop} {e' : β → List SV} {wf' : β → Prop} (hd : Dec H enc P w t e wf) (g : α → β) (he : ∀ a, e' (g a) = e a) (hw : ∀ a, wf a → wf' (g a)) : Dec H enc P w t e' wf' := by
  intro base sp held n cs y h
  obtain ⟨a, ha, hc⟩ := hd _ _ _ _ _ _ h
  exact ⟨g a, hw a ha, by rw [he]; exact hc⟩
theorem Dec.struct1 {t : TypeId} {f0 : Field} {k0 : Nat} {α : Type} {e : α → List SV} {wf : α → Prop} (ht : P.underlying t = some (.struct #[f0])) (o0 : f0.offset = 0) (h0 : P.cellsOf f0.type = k0) (hC : P.cellsOf t = k0) (hd : Dec H enc P w f0.type e wf) : Dec H enc P w t e wf := by
  intro base sp held n cs y h
  obtain ⟨y0, m, _, hl, g0⟩ := trod_struct1 ht h
  obtain ⟨a, ha, hc⟩ := hd _ _ _ _ _ _ g0
  rw [o0, h0, List.drop_zero, List.take_of_length_le (by omega)] at hc
  exact ⟨a, ha, hc⟩
theorem Dec.struct2 {t : TypeId} {f0 f1 : Field} {k0 k1 : Nat} {α β : Type} {e0 : α → List SV} {w0 : α → Prop} {e1 : β → List SV} {w1 : β → Prop} (ht : P.underlying t = some (.struct #[f0, f1])) (o0 : f0.offset = 0) (h0 : P.cellsOf f0.type = k0) (o1 : f1.offset = k0) (h1 : P.cellsOf f1.type = k1) (hC : P.cellsOf t = k0 + k1)
    (d0 : Dec H enc P w f0.type e0 w0) (d1 : Dec H enc P w f1.type e1 w1) : Dec H enc P w t (fun x : α × β => e0 x.1 ++ e1 x.2) (fun x => w0 x.1 ∧ w1 x.2) := by
  intro base sp held n cs y h
  obtain ⟨y0, y1, m, _, hl, g0, g1⟩ := trod_struct2 ht h
  obtain ⟨a, ha, hc⟩ := d0 _ _ _ _ _ _ g0
  obtain ⟨b, hb, hd⟩ := d1 _ _ _ _ _ _ g1
  rw [o0, h0, List.drop_zero] at hc
  rw [o1, h1, List.take_of_length_le (by rw [List.length_drop]; omega)] at hd
  refine ⟨(a, b), ⟨ha, hb⟩, ?_⟩
  have := hc.append hd
  rwa [List.take_append_drop] at this
theorem Dec.struct3 {t : TypeId} {f0 f1 f2 : Field} {k0 k1 k2 : Nat} {α β γ : Type} {e0 : α → List SV} {w0 : α → Prop} {e1 : β → List SV} {w1 : β → Prop} {e2 : γ → List SV} {w2 : γ → Prop} (ht : P.underlying t = some (.struct #[f0, f1, f2])) (o0 : f0.offset = 0) (h0 : P.cellsOf f0.type = k0) (o1 : f1.offset = k0) (h1 : P.cellsOf f1.type = k1) (o2 : f2.offset = k0 + k1) (h2 : P.cellsOf f2.type = k2) (hC : P.cellsOf t = k0 + k1 + k2)
    (d0 : Dec H enc P w f0.type e0 w0) (d1 : Dec H enc P w f1.type e1 w1) (d2 : Dec H enc P w f2.type e2 w2) : Dec H enc P w t (fun x : α × β × γ => e0 x.1 ++ (e1 x.2.1 ++ e2 x.2.2)) (fun x => w0 x.1 ∧ w1 x.2.1 ∧ w2 x.2.2) := by
  intro base sp held n cs y h
  obtain ⟨y0, y1, y2, m, _, hl, g0, g1, g2⟩ := trod_struct3 ht h
  obtain ⟨a, ha, hc⟩ := d0 _ _ _ _ _ _ g0
  obtain ⟨b, hb, hd⟩ := d1 _ _ _ _ _ _ g1
  obtain ⟨c, hc', he⟩ := d2 _ _ _ _ _ _ g2
  rw [o0, h0, List.drop_zero] at hc
  rw [o1, h1] at hd
  rw [o2, h2, List.take_of_length_le (by rw [List.length_drop]; omega), ← List.drop_drop] at he
  refine ⟨(a, b, c), ⟨ha, hb, hc'⟩, ?_⟩
  have := hc.append (hd.append he)
  rwa [List.take_append_drop, List.take_append_drop] at this
end
end Go.Vc

/-
  DERIVED. What is read of stacks and of a profile.
-/
namespace Go.Proofs.YtahcfcimfcjhhaaGreatDoor
open Go.Vc Go.RowKit Go.WideShapes Go.ChangeShapes Go.Deep
section
variable {H : Type} {enc : TypeId × Value → H} {w : World}
def okN (L : List Node) : Prop := L.length ≤ maxLen ∧ ∀ x ∈ L, x.name.size ≤ maxLen
theorem rowNode' : Dec H enc Tryz.prog w 141 encNode (fun x => x.name.size ≤ maxLen) :=
  (Dec.struct2 (k0 := 1) (k1 := 2) Tryz.underlying141 rfl (by kernel_rfl) rfl (by kernel_rfl) (by kernel_rfl) (Dec.int Tryz.underlying3) rowFrame).map (fun x : Int × Frame => (⟨x.1, x.2.name, x.2.line⟩ : Node)) (fun _ => rfl) (fun _ h => h.2.1)
theorem rowStk : Dec H enc Tryz.prog w 57 (fun N : List Node => [.sl 3 (N.map encNode)]) okN :=
  Dec.struct1 (k0 := 1) Tryz.underlying57 rfl (by kernel_rfl) (by kernel_rfl) (Dec.slice (s := 3) Tryz.underlying55 (by kernel_rfl) (by omega) rowNode' (fun _ => rfl))
theorem rowPr : Dec H enc Tryz.prog w 59 (fun x : List Node × List Int => [.sl 3 (x.1.map encNode), .sl 1 (x.2.map encI)]) wfM :=
  (Dec.struct2 (k0 := 1) (k1 := 1) Tryz.underlying59 rfl (by kernel_rfl) rfl (by kernel_rfl) (by kernel_rfl) rowStk
    (Dec.slice (s := 1) Tryz.underlying27 (by kernel_rfl) (by omega) (Dec.int Tryz.underlying3) (fun _ => rfl))).map (fun x : List Node × List Int => x) (fun _ => rfl) (fun _ h => ⟨h.1.1, h.1.2, h.2.1⟩)
end
end Go.Proofs.YtahcfcimfcjhhaaGreatDoor

