/-
  DERIVED. Heaviest, of the reference and of the program, and its law's function.
-/
import Derived.Test.YtkikcjomjofhmaaVtTotal
namespace Go.Proofs.Ytkikcjomjofhmaa
open Go.Vc
set_option linter.unusedSimpArgs false
set_option linter.unusedVariables false
set_option maxHeartbeats 1000000
set_option maxRecDepth 10000
attribute [local go_sem] St.runR St.runW St.stepV St.step St.stepU St.stepG mkCond guardB St.prK St.pr St.prLen St.eff St.callE St.callD St.callF St.callL aI aB aS aR aC St.isM St.argL Ctr.pure Ctr.lend Ctr.move Ctr.isL Ctr.wri pur len lentBy St.lentV St.lent1 nthS argsR restOf obsR pairs swapL unObs backL St.resL erL SV.ren1 SV.up SV.up2 Ob.up St.fzL cellIds partIds St.intoRow SV.ownId St.fz SV.fz1 St.prep St.mvL St.mv SV.re1 rnOk St.prEq vals eqCells scEq Value.kd St.prStr St.prCut cutR St.bnd St.prMin St.bld isShift outL retL outJ oR oC St.ev St.get St.put St.new St.kill SV.kill SV.kill1 Ob.kill St.app St.wrt St.rowsOf St.res St.killL lk er argsL SV.strip SV.need SV.share SV.share1 SV.owns SV.owns1 SV.owns2 SV.good SV.good1 SV.rok SV.rok1 SV.rok2 SV.isV SV.isV2 nodupN SV.cells SV.one SV.pur partsIn rowsIn splice cellsAt dstOk scal2 scal1 thenK blockK retK outK outs okC okL okA okT nilC nilL nilA nilT keepC keepL keepA keepT St.runG St.dltK St.least St.clean St.final St.hide offK badS badO SV.refs SV.leaf SV.leaf2 Ob.refs dlOk fpAt Go.Vc.cover tups SV.ofAgg St.out outC subL St.has rng wr Value.oneCell' Option.isSome_some Option.isSome_none List.nil_append Bool.false_eq_true List.map_cons List.map_nil List.all_cons List.all_nil List.length_cons List.length_nil List.drop_zero List.drop_succ_cons List.take_succ_cons List.take_zero List.drop_nil List.take_nil List.getElem?_cons_zero List.getElem?_cons_succ List.getElem?_nil List.cons_append List.nil_append List.append_nil List.append_assoc List.flatMap_cons List.flatMap_nil List.contains_cons List.contains_nil List.set_cons_zero List.set_cons_succ List.getElem?_toArray Option.getD_some Option.getD_none Option.map_some Option.map_none Option.bind_some Option.some.injEq Prod.mk.injEq if_true if_false true_and and_true and_self and_false false_and Bool.and_false Bool.false_and Bool.or_true Bool.true_or Bool.or_false Bool.false_or ne_eq not_true_eq_false not_false_eq_true decide_true decide_false List.mem_cons List.not_mem_nil List.filter_cons List.filter_nil List.any_cons List.any_nil List.isEmpty_nil List.isEmpty_cons Option.getD_none or_false false_or true_or or_true forall_eq_or_imp forall_eq reduceCtorEq exists_eq exists_eq' exists_eq_left' exists_eq_left exists_eq_right exists_eq_right' imp_self implies_true Bool.and_true Bool.true_and Bool.and_self beq_self_eq_true List.replicate_succ List.replicate_zero forall_const false_implies pickB_or pickB_and beqT beqF Int.toNat_natCast List.length_map List.length_replicate ge_iff_le gt_iff_lt decide_eq_true_eq decide_eq_false_iff_not Bool.and_eq_true Bool.or_eq_true Bool.not_eq_true' Bool.not_eq_false' condG List.toList_toArray Bool.or_eq_false_iff Bool.and_eq_false_iff Int.not_lt Int.not_le beq_iff_eq beq_eq_false_iff_ne bne_iff_ne bne_eq_false_iff_eq ne_eq Bool.not_true Bool.not_false exists_and_left
attribute [local irreducible] Go.Vc.WP
attribute [local go_sem] cx0_t cx0_c
noncomputable def cxHv : Cx := { P := Try.prog, tys := tys, C := [(34, kTreeOk), (36, kTreeOk)], hty := tysOk, hC := COk.cons cTreeOkS (COk.cons cTreeOkI (COk.nil _)) }
theorem cxHv_t : cxHv.tys = tys := rfl
theorem cxHv_c : cxHv.C = [(34, kTreeOk), (36, kTreeOk)] := rfl
attribute [local go_sem] cxHv_t cxHv_c kTreeOk
/-- the heaviest of the first k nodes below node a; -1 if there is none -/
def bestAt (L : List TreeNode) (a : Int) : Nat → Int
  | 0 => -1
  | k + 1 => match L[k]? with
    | some x => if x.parent = a ∧ (bestAt L a k < 0 ∨ x.total > (L[(bestAt L a k).toNat]?.map (·.total)).getD 0) then k else bestAt L a k
    | none => bestAt L a k
def hvGo (L : List TreeNode) : Nat → Int → List Int
  | 0, _ => []
  | f + 1, a => if bestAt L a L.length < 0 then [] else bestAt L a L.length :: hvGo L f (bestAt L a L.length)
def heavy (L : List TreeNode) : List Int := if treeOk L = true then hvGo L (L.length + 1) (-1) else []
theorem bestAt_bound (L : List TreeNode) (a : Int) : ∀ k, k ≤ L.length → -1 ≤ bestAt L a k ∧ bestAt L a k < k
  | 0, _ => by simp [bestAt]
  | k + 1, h => by
    have ih := bestAt_bound L a k (by omega)
    rw [bestAt, List.getElem?_eq_getElem (by omega : k < L.length)]
    simp only
    split <;> omega
theorem bestAt_par {L : List TreeNode} (hok : treeOk L = true) (a : Int) : ∀ k, k ≤ L.length → 0 ≤ bestAt L a k → a + 1 ≤ bestAt L a k
  | 0, _, h => by simp [bestAt] at h
  | k + 1, hk, h => by
    have ih := bestAt_par hok a k (by omega)
    have hn := nodeOk_iff.1 (treeOk_nodes hok k (by omega))
    rw [bestAt, List.getElem?_eq_getElem (by omega : k < L.length)] at h ⊢
    simp only at h ⊢
    split
    · rename_i hc; omega
    · rename_i hc; rw [if_neg hc] at h; exact ih h
theorem bestAt_succ (L : List TreeNode) (a : Int) (k : Nat) (h : k < L.length) (q : Nat) (hq : q < L.length) (hqb : q = (bestAt L a k).toNat) :
    bestAt L a (k + 1) = if L[k].parent = a ∧ (bestAt L a k < 0 ∨ L[k].total > L[q].total) then (k : Int) else bestAt L a k := by
  rw [bestAt, List.getElem?_eq_getElem h]
  subst hqb
  rw [List.getElem?_eq_getElem hq]
  rfl
theorem hvGo_len (L : List TreeNode) : ∀ f a, (hvGo L f a).length ≤ f
  | 0, _ => by simp [hvGo]
  | f + 1, a => by
    rw [hvGo]
    split
    · simp
    · simp only [List.length_cons]; have := hvGo_len L f (bestAt L a L.length); omega
theorem hvGo_step {L : List TreeNode} (hok : treeOk L = true) {f : Nat} {a : Int} (h0 : -1 ≤ a) (ha : a < L.length) (hf : (f : Int) + a ≥ L.length) :
    (bestAt L a L.length < 0 → hvGo L f a = []) ∧ (0 ≤ bestAt L a L.length → hvGo L f a = bestAt L a L.length :: hvGo L (f - 1) (bestAt L a L.length) ∧ ((f - 1 : Nat) : Int) + bestAt L a L.length ≥ L.length) := by
  obtain ⟨f, rfl⟩ : ∃ g, f = g + 1 := ⟨f - 1, by omega⟩
  constructor
  · intro hb; rw [hvGo, if_pos hb]
  · intro hb
    have := bestAt_par hok a L.length (Nat.le_refl _) hb
    rw [hvGo, if_neg (by omega)]
    exact ⟨by simp, by simp only [Nat.add_sub_cancel]; omega⟩

def kHeavy : Ctr := pur (fun args => decTreeNode (aR args 0)) (fun L => [.sl 4 (L.map encTreeNode)]) (fun L => L.length ≤ 1048576 ∧ ∀ x ∈ L, x.name.size ≤ 1048576) (fun d _ => .own d) (fun d L => [(d, .sl 3 1 ((heavy L).map encI))])
theorem cHeavyS : Cn Try.prog 46 kHeavy := by
  refine Cn.pur Try.func46 (by kernel_rfl) rfl fun d x hx => ?_
  obtain ⟨hL, hs⟩ := hx
  refine Holds.go (c := cxHv) Try.func46 rfl Try.results46 Try.ntmps46 (by omega) (by simp) rfl ?_
  intro X0 w0
  (repeat' (first | refine WP.seq ?_ | (refine WP.region ?_; simp only [go_sem, decTreeNode_enc, tyAll, Nat.reduceAdd, Nat.reduceLT, Nat.reduceLeDiff, Nat.reduceEqDiff, Nat.reduceMul, Nat.reduceSub, Nat.reduceGT, reduceIte, Int.reduceNeg, Int.reduceToNat]) | refine WP.block ?_ | (refine WP.condW ?_; simp only [go_sem, decTreeNode_enc, tyAll, Nat.reduceAdd, Nat.reduceLT, Nat.reduceLeDiff, Nat.reduceEqDiff, Nat.reduceMul, Nat.reduceSub, Nat.reduceGT, reduceIte, Int.reduceNeg, Int.reduceToNat]) | (refine WP.ret ?_; simp only [go_sem, decTreeNode_enc, tyAll, Nat.reduceAdd, Nat.reduceLT, Nat.reduceLeDiff, Nat.reduceEqDiff, Nat.reduceMul, Nat.reduceSub, Nat.reduceGT, reduceIte, Int.reduceNeg, Int.reduceToNat]) | (refine WP.exit ?_; simp only [go_sem, decTreeNode_enc, tyAll, Nat.reduceAdd, Nat.reduceLT, Nat.reduceLeDiff, Nat.reduceEqDiff, Nat.reduceMul, Nat.reduceSub, Nat.reduceGT, reduceIte, Int.reduceNeg, Int.reduceToNat]) | (refine WP.skip ?_; simp only [go_sem, decTreeNode_enc, tyAll, Nat.reduceAdd, Nat.reduceLT, Nat.reduceLeDiff, Nat.reduceEqDiff, Nat.reduceMul, Nat.reduceSub, Nat.reduceGT, reduceIte, Int.reduceNeg, Int.reduceToNat]) | (refine WP.drawW 24 (by kernel_rfl) (by kernel_rfl) ?_; simp only [go_sem, decTreeNode_enc, tyAll, Nat.reduceAdd, Nat.reduceLT, Nat.reduceLeDiff, Nat.reduceEqDiff, Nat.reduceMul, Nat.reduceSub, Nat.reduceGT, reduceIte, Int.reduceNeg, Int.reduceToNat]) |  refine And.intro ?_ ?_ | intro _))
  all_goals first | omega | exact hs _ ‹_› | skip
  cases hok : treeOk x with
  | false =>
    refine WP.loop (fun k : Nat => ⟨[(3, .own 8), (4, .v (.bool false))], [(8, .sl 3 1 [])]⟩) (fun k => True) (fun k => 0) 0 trivial ?_ ?_
    · (simp only [go_sem, tyAll, Nat.reduceAdd, Nat.reduceLT, Nat.reduceLeDiff, Nat.reduceEqDiff, Nat.reduceMul, Nat.reduceSub, Nat.reduceGT, reduceIte, Int.reduceNeg, Int.reduceToNat] <;> (first | rfl | exact ⟨rfl, rfl⟩ | exact ⟨rfl, rfl, rfl⟩ | exact ⟨rfl, rfl, rfl, rfl⟩ | exact ⟨rfl, rfl, rfl, rfl, rfl⟩ | exact ⟨⟨rfl, rfl⟩, rfl⟩ | simp))
    intro k _
    have hh : heavy x = [] := by simp [heavy, hok]
    (repeat' (first | refine WP.seq ?_ | (refine WP.region ?_; simp only [go_sem, hh, tyAll, Nat.reduceAdd, Nat.reduceLT, Nat.reduceLeDiff, Nat.reduceEqDiff, Nat.reduceMul, Nat.reduceSub, Nat.reduceGT, reduceIte, Int.reduceNeg, Int.reduceToNat]) | refine WP.block ?_ | (refine WP.condW ?_; simp only [go_sem, hh, tyAll, Nat.reduceAdd, Nat.reduceLT, Nat.reduceLeDiff, Nat.reduceEqDiff, Nat.reduceMul, Nat.reduceSub, Nat.reduceGT, reduceIte, Int.reduceNeg, Int.reduceToNat]) | (refine WP.ret ?_; simp only [go_sem, hh, tyAll, Nat.reduceAdd, Nat.reduceLT, Nat.reduceLeDiff, Nat.reduceEqDiff, Nat.reduceMul, Nat.reduceSub, Nat.reduceGT, reduceIte, Int.reduceNeg, Int.reduceToNat]) | (refine WP.exit ?_; simp only [go_sem, hh, tyAll, Nat.reduceAdd, Nat.reduceLT, Nat.reduceLeDiff, Nat.reduceEqDiff, Nat.reduceMul, Nat.reduceSub, Nat.reduceGT, reduceIte, Int.reduceNeg, Int.reduceToNat]) | (refine WP.skip ?_; simp only [go_sem, hh, tyAll, Nat.reduceAdd, Nat.reduceLT, Nat.reduceLeDiff, Nat.reduceEqDiff, Nat.reduceMul, Nat.reduceSub, Nat.reduceGT, reduceIte, Int.reduceNeg, Int.reduceToNat]) | (refine WP.drawW 24 (by kernel_rfl) (by kernel_rfl) ?_; simp only [go_sem, hh, tyAll, Nat.reduceAdd, Nat.reduceLT, Nat.reduceLeDiff, Nat.reduceEqDiff, Nat.reduceMul, Nat.reduceSub, Nat.reduceGT, reduceIte, Int.reduceNeg, Int.reduceToNat]) |  refine And.intro ?_ ?_ | intro _))
    all_goals first | omega | simp | skip
  | true =>
    have hh : heavy x = hvGo x (x.length + 1) (-1) := by simp [heavy, hok]
    refine WP.loop (fun s : List Int × Int × Nat => ⟨[(0, .sl 4 (x.map encTreeNode)), (3, .own 8), (4, .v (.bool true)), (5, .v (.int .i64 s.2.1))], [(8, .sl 3 1 (s.1.map encI))]⟩)
      (fun s => -1 ≤ s.2.1 ∧ s.2.1 < x.length ∧ (s.2.2 : Int) + s.2.1 ≥ x.length ∧ s.1 ++ hvGo x s.2.2 s.2.1 = heavy x ∧ s.2.2 + s.1.length ≤ x.length + 1) (fun s => s.2.2) ([], -1, x.length + 1)
      ⟨by simp, by simp only; omega, by simp only; omega, by rw [hh]; rfl, by simp⟩ ?_ ?_
    · (simp only [go_sem, tyAll, Nat.reduceAdd, Nat.reduceLT, Nat.reduceLeDiff, Nat.reduceEqDiff, Nat.reduceMul, Nat.reduceSub, Nat.reduceGT, reduceIte, Int.reduceNeg, Int.reduceToNat] <;> (first | rfl | exact ⟨rfl, rfl⟩ | exact ⟨rfl, rfl, rfl⟩ | exact ⟨rfl, rfl, rfl, rfl⟩ | exact ⟨rfl, rfl, rfl, rfl, rfl⟩ | exact ⟨⟨rfl, rfl⟩, rfl⟩ | simp))
    rintro ⟨out, a, f⟩ ⟨ha0, ha1, hfu, hout, hlen⟩
    simp only at ha0 ha1 hfu hout hlen ⊢
    obtain ⟨hstop, hgo⟩ := hvGo_step hok ha0 ha1 hfu
    (repeat' (first | refine WP.seq ?_ | (refine WP.region ?_; simp only [go_sem, tyAll, Nat.reduceAdd, Nat.reduceLT, Nat.reduceLeDiff, Nat.reduceEqDiff, Nat.reduceMul, Nat.reduceSub, Nat.reduceGT, reduceIte, Int.reduceNeg, Int.reduceToNat]) | refine WP.block ?_ | (refine WP.condW ?_; simp only [go_sem, tyAll, Nat.reduceAdd, Nat.reduceLT, Nat.reduceLeDiff, Nat.reduceEqDiff, Nat.reduceMul, Nat.reduceSub, Nat.reduceGT, reduceIte, Int.reduceNeg, Int.reduceToNat]) | (refine WP.ret ?_; simp only [go_sem, tyAll, Nat.reduceAdd, Nat.reduceLT, Nat.reduceLeDiff, Nat.reduceEqDiff, Nat.reduceMul, Nat.reduceSub, Nat.reduceGT, reduceIte, Int.reduceNeg, Int.reduceToNat]) | (refine WP.exit ?_; simp only [go_sem, tyAll, Nat.reduceAdd, Nat.reduceLT, Nat.reduceLeDiff, Nat.reduceEqDiff, Nat.reduceMul, Nat.reduceSub, Nat.reduceGT, reduceIte, Int.reduceNeg, Int.reduceToNat]) | (refine WP.skip ?_; simp only [go_sem, tyAll, Nat.reduceAdd, Nat.reduceLT, Nat.reduceLeDiff, Nat.reduceEqDiff, Nat.reduceMul, Nat.reduceSub, Nat.reduceGT, reduceIte, Int.reduceNeg, Int.reduceToNat]) | (refine WP.drawW 24 (by kernel_rfl) (by kernel_rfl) ?_; simp only [go_sem, tyAll, Nat.reduceAdd, Nat.reduceLT, Nat.reduceLeDiff, Nat.reduceEqDiff, Nat.reduceMul, Nat.reduceSub, Nat.reduceGT, reduceIte, Int.reduceNeg, Int.reduceToNat]) |  refine And.intro ?_ ?_ | intro _))
    all_goals first | omega | skip
    refine WP.loop (fun k : Nat => ⟨[(0, .sl 4 (x.map encTreeNode)), (3, .own 8), (4, .v (.bool true)), (5, .v (.int .i64 a)), (6, .v (.int .i64 (bestAt x a k))), (7, .v (.int .i64 k))], [(8, .sl 3 1 (out.map encI))]⟩) (fun k => k ≤ x.length) (fun k => x.length - k) 0 (by simp) ?_ ?_
    · (simp only [go_sem, bestAt, tyAll, Nat.reduceAdd, Nat.reduceLT, Nat.reduceLeDiff, Nat.reduceEqDiff, Nat.reduceMul, Nat.reduceSub, Nat.reduceGT, reduceIte, Int.reduceNeg, Int.reduceToNat] <;> (first | rfl | exact ⟨rfl, rfl⟩ | exact ⟨rfl, rfl, rfl⟩ | exact ⟨rfl, rfl, rfl, rfl⟩ | exact ⟨rfl, rfl, rfl, rfl, rfl⟩ | exact ⟨⟨rfl, rfl⟩, rfl⟩ | simp))
    intro k hk
    have hbb := bestAt_bound x a k hk
    by_cases hlt : k < x.length
    · have h1 := rowAt_map encTreeNode x k hlt
      have hq : (bestAt x a k).toNat < x.length := by omega
      have h2 := rowAt_map encTreeNode x _ hq
      have h3 := bestAt_succ x a k hlt _ hq rfl
      (repeat' (first | refine WP.seq ?_ | (refine WP.region ?_; simp only [go_sem, h1, h2, encTreeNode, tyAll, Nat.reduceAdd, Nat.reduceLT, Nat.reduceLeDiff, Nat.reduceEqDiff, Nat.reduceMul, Nat.reduceSub, Nat.reduceGT, reduceIte, Int.reduceNeg, Int.reduceToNat]) | refine WP.block ?_ | (refine WP.condW ?_; simp only [go_sem, h1, h2, encTreeNode, tyAll, Nat.reduceAdd, Nat.reduceLT, Nat.reduceLeDiff, Nat.reduceEqDiff, Nat.reduceMul, Nat.reduceSub, Nat.reduceGT, reduceIte, Int.reduceNeg, Int.reduceToNat]) | (refine WP.ret ?_; simp only [go_sem, h1, h2, encTreeNode, tyAll, Nat.reduceAdd, Nat.reduceLT, Nat.reduceLeDiff, Nat.reduceEqDiff, Nat.reduceMul, Nat.reduceSub, Nat.reduceGT, reduceIte, Int.reduceNeg, Int.reduceToNat]) | (refine WP.exit ?_; simp only [go_sem, h1, h2, encTreeNode, tyAll, Nat.reduceAdd, Nat.reduceLT, Nat.reduceLeDiff, Nat.reduceEqDiff, Nat.reduceMul, Nat.reduceSub, Nat.reduceGT, reduceIte, Int.reduceNeg, Int.reduceToNat]) | (refine WP.skip ?_; simp only [go_sem, h1, h2, encTreeNode, tyAll, Nat.reduceAdd, Nat.reduceLT, Nat.reduceLeDiff, Nat.reduceEqDiff, Nat.reduceMul, Nat.reduceSub, Nat.reduceGT, reduceIte, Int.reduceNeg, Int.reduceToNat]) | (refine WP.drawW 24 (by kernel_rfl) (by kernel_rfl) ?_; simp only [go_sem, h1, h2, encTreeNode, tyAll, Nat.reduceAdd, Nat.reduceLT, Nat.reduceLeDiff, Nat.reduceEqDiff, Nat.reduceMul, Nat.reduceSub, Nat.reduceGT, reduceIte, Int.reduceNeg, Int.reduceToNat]) |  refine And.intro ?_ ?_ | intro _))
      all_goals first | omega | skip
      · rename_i hc
        rw [if_pos (by omega)] at h3
        exact ⟨k + 1, by omega, by omega, by rw [h3]; (first | rfl | exact ⟨rfl, rfl⟩ | exact ⟨rfl, rfl, rfl⟩ | exact ⟨rfl, rfl, rfl, rfl⟩ | exact ⟨rfl, rfl, rfl, rfl, rfl⟩ | exact ⟨⟨rfl, rfl⟩, rfl⟩ | simp)⟩
      · rename_i hc
        rw [if_neg (by omega)] at h3
        exact ⟨k + 1, by omega, by omega, by rw [h3]; (first | rfl | exact ⟨rfl, rfl⟩ | exact ⟨rfl, rfl, rfl⟩ | exact ⟨rfl, rfl, rfl, rfl⟩ | exact ⟨rfl, rfl, rfl, rfl, rfl⟩ | exact ⟨⟨rfl, rfl⟩, rfl⟩ | simp)⟩
    · have hke : k = x.length := by omega
      subst hke
      (repeat' (first | refine WP.seq ?_ | (refine WP.region ?_; simp only [go_sem, encI, tyAll, Nat.reduceAdd, Nat.reduceLT, Nat.reduceLeDiff, Nat.reduceEqDiff, Nat.reduceMul, Nat.reduceSub, Nat.reduceGT, reduceIte, Int.reduceNeg, Int.reduceToNat]) | refine WP.block ?_ | (refine WP.condW ?_; simp only [go_sem, encI, tyAll, Nat.reduceAdd, Nat.reduceLT, Nat.reduceLeDiff, Nat.reduceEqDiff, Nat.reduceMul, Nat.reduceSub, Nat.reduceGT, reduceIte, Int.reduceNeg, Int.reduceToNat]) | (refine WP.ret ?_; simp only [go_sem, encI, tyAll, Nat.reduceAdd, Nat.reduceLT, Nat.reduceLeDiff, Nat.reduceEqDiff, Nat.reduceMul, Nat.reduceSub, Nat.reduceGT, reduceIte, Int.reduceNeg, Int.reduceToNat]) | (refine WP.exit ?_; simp only [go_sem, encI, tyAll, Nat.reduceAdd, Nat.reduceLT, Nat.reduceLeDiff, Nat.reduceEqDiff, Nat.reduceMul, Nat.reduceSub, Nat.reduceGT, reduceIte, Int.reduceNeg, Int.reduceToNat]) | (refine WP.skip ?_; simp only [go_sem, encI, tyAll, Nat.reduceAdd, Nat.reduceLT, Nat.reduceLeDiff, Nat.reduceEqDiff, Nat.reduceMul, Nat.reduceSub, Nat.reduceGT, reduceIte, Int.reduceNeg, Int.reduceToNat]) | (refine WP.drawW 24 (by kernel_rfl) (by kernel_rfl) ?_; simp only [go_sem, encI, tyAll, Nat.reduceAdd, Nat.reduceLT, Nat.reduceLeDiff, Nat.reduceEqDiff, Nat.reduceMul, Nat.reduceSub, Nat.reduceGT, reduceIte, Int.reduceNeg, Int.reduceToNat]) |  refine And.intro ?_ ?_ | intro _))
      all_goals first | omega | skip
      · rename_i hb
        rw [hstop hb, List.append_nil] at hout
        rw [hout]
      · rename_i hb
        obtain ⟨g1, g2⟩ := hgo (by omega)
        refine ⟨(out ++ [bestAt x a x.length], bestAt x a x.length, f - 1), ⟨by simp only; omega, by simp only; omega, g2, by simp only; rw [← hout, g1]; exact List.append_assoc _ _ _, by simp <;> omega⟩, by simp only; omega, by simp [encI]⟩
theorem cHeavyI : Cn Try.prog 47 kHeavy := by
  refine Cn.pur Try.func47 (by kernel_rfl) rfl fun d x hx => ?_
  obtain ⟨hL, hs⟩ := hx
  refine Holds.go (c := cxHv) Try.func47 rfl Try.results47 Try.ntmps47 (by omega) (by simp) rfl ?_
  intro X0 w0
  (repeat' (first | refine WP.seq ?_ | (refine WP.region ?_; simp only [go_sem, decTreeNode_enc, tyAll, Nat.reduceAdd, Nat.reduceLT, Nat.reduceLeDiff, Nat.reduceEqDiff, Nat.reduceMul, Nat.reduceSub, Nat.reduceGT, reduceIte, Int.reduceNeg, Int.reduceToNat]) | refine WP.block ?_ | (refine WP.condW ?_; simp only [go_sem, decTreeNode_enc, tyAll, Nat.reduceAdd, Nat.reduceLT, Nat.reduceLeDiff, Nat.reduceEqDiff, Nat.reduceMul, Nat.reduceSub, Nat.reduceGT, reduceIte, Int.reduceNeg, Int.reduceToNat]) | (refine WP.ret ?_; simp only [go_sem, decTreeNode_enc, tyAll, Nat.reduceAdd, Nat.reduceLT, Nat.reduceLeDiff, Nat.reduceEqDiff, Nat.reduceMul, Nat.reduceSub, Nat.reduceGT, reduceIte, Int.reduceNeg, Int.reduceToNat]) | (refine WP.exit ?_; simp only [go_sem, decTreeNode_enc, tyAll, Nat.reduceAdd, Nat.reduceLT, Nat.reduceLeDiff, Nat.reduceEqDiff, Nat.reduceMul, Nat.reduceSub, Nat.reduceGT, reduceIte, Int.reduceNeg, Int.reduceToNat]) | (refine WP.skip ?_; simp only [go_sem, decTreeNode_enc, tyAll, Nat.reduceAdd, Nat.reduceLT, Nat.reduceLeDiff, Nat.reduceEqDiff, Nat.reduceMul, Nat.reduceSub, Nat.reduceGT, reduceIte, Int.reduceNeg, Int.reduceToNat]) | (refine WP.drawW 18 (by kernel_rfl) (by kernel_rfl) ?_; simp only [go_sem, decTreeNode_enc, tyAll, Nat.reduceAdd, Nat.reduceLT, Nat.reduceLeDiff, Nat.reduceEqDiff, Nat.reduceMul, Nat.reduceSub, Nat.reduceGT, reduceIte, Int.reduceNeg, Int.reduceToNat]) |  refine And.intro ?_ ?_ | intro _))
  all_goals first | omega | exact hs _ ‹_› | skip
  · rename_i h
    have hh : heavy x = [] := by
      rcases h with h | h
      · simp [heavy, h]
      · have : x = [] := List.eq_nil_of_length_eq_zero (by omega)
        subst this
        simp [heavy, hvGo, bestAt]
    exact ⟨_, _, by rw [hh]; rfl⟩
  rename_i hok'
  obtain ⟨hok, hne⟩ := hok'
  have hh : heavy x = hvGo x (x.length + 1) (-1) := by simp [heavy, hok]
  refine WP.loop (fun s : List Int × Int × Nat => ⟨[(0, .sl 4 (x.map encTreeNode)), (3, .own 16), (4, .v (.int .i64 s.2.1))], [(16, .sl 3 1 (s.1.map encI))]⟩)
    (fun s => -1 ≤ s.2.1 ∧ s.2.1 < x.length ∧ (s.2.2 : Int) + s.2.1 ≥ x.length ∧ s.1 ++ hvGo x s.2.2 s.2.1 = heavy x ∧ s.2.2 + s.1.length ≤ x.length + 1) (fun s => s.2.2) ([], -1, x.length + 1)
    ⟨by simp, by simp only; omega, by simp only; omega, by rw [hh]; rfl, by simp⟩ ?_ ?_
  · (simp only [go_sem, tyAll, Nat.reduceAdd, Nat.reduceLT, Nat.reduceLeDiff, Nat.reduceEqDiff, Nat.reduceMul, Nat.reduceSub, Nat.reduceGT, reduceIte, Int.reduceNeg, Int.reduceToNat] <;> (first | rfl | exact ⟨rfl, rfl⟩ | exact ⟨rfl, rfl, rfl⟩ | exact ⟨rfl, rfl, rfl, rfl⟩ | exact ⟨rfl, rfl, rfl, rfl, rfl⟩ | exact ⟨⟨rfl, rfl⟩, rfl⟩ | simp))
  rintro ⟨out, a, f⟩ ⟨ha0, ha1, hfu, hout, hlen⟩
  simp only at ha0 ha1 hfu hout hlen ⊢
  obtain ⟨hstop, hgo⟩ := hvGo_step hok ha0 ha1 hfu
  (repeat' (first | refine WP.seq ?_ | (refine WP.region ?_; simp only [go_sem, tyAll, Nat.reduceAdd, Nat.reduceLT, Nat.reduceLeDiff, Nat.reduceEqDiff, Nat.reduceMul, Nat.reduceSub, Nat.reduceGT, reduceIte, Int.reduceNeg, Int.reduceToNat]) | refine WP.block ?_ | (refine WP.condW ?_; simp only [go_sem, tyAll, Nat.reduceAdd, Nat.reduceLT, Nat.reduceLeDiff, Nat.reduceEqDiff, Nat.reduceMul, Nat.reduceSub, Nat.reduceGT, reduceIte, Int.reduceNeg, Int.reduceToNat]) | (refine WP.ret ?_; simp only [go_sem, tyAll, Nat.reduceAdd, Nat.reduceLT, Nat.reduceLeDiff, Nat.reduceEqDiff, Nat.reduceMul, Nat.reduceSub, Nat.reduceGT, reduceIte, Int.reduceNeg, Int.reduceToNat]) | (refine WP.exit ?_; simp only [go_sem, tyAll, Nat.reduceAdd, Nat.reduceLT, Nat.reduceLeDiff, Nat.reduceEqDiff, Nat.reduceMul, Nat.reduceSub, Nat.reduceGT, reduceIte, Int.reduceNeg, Int.reduceToNat]) | (refine WP.skip ?_; simp only [go_sem, tyAll, Nat.reduceAdd, Nat.reduceLT, Nat.reduceLeDiff, Nat.reduceEqDiff, Nat.reduceMul, Nat.reduceSub, Nat.reduceGT, reduceIte, Int.reduceNeg, Int.reduceToNat]) | (refine WP.drawW 18 (by kernel_rfl) (by kernel_rfl) ?_; simp only [go_sem, tyAll, Nat.reduceAdd, Nat.reduceLT, Nat.reduceLeDiff, Nat.reduceEqDiff, Nat.reduceMul, Nat.reduceSub, Nat.reduceGT, reduceIte, Int.reduceNeg, Int.reduceToNat]) |  refine And.intro ?_ ?_ | intro _))
  all_goals first | omega | skip
  refine WP.loop (fun k : Nat => ⟨[(0, .sl 4 (x.map encTreeNode)), (3, .own 16), (4, .v (.int .i64 a)), (5, .v (.int .i64 (bestAt x a k))), (17, .sl 4 (x.map encTreeNode)), (18, .v (.int .i64 x.length)), (19, .v (.int .i64 k))], [(16, .sl 3 1 (out.map encI))]⟩) (fun k => k ≤ x.length) (fun k => x.length - k) 0 (by simp) ?_ ?_
  · (simp only [go_sem, bestAt, tyAll, Nat.reduceAdd, Nat.reduceLT, Nat.reduceLeDiff, Nat.reduceEqDiff, Nat.reduceMul, Nat.reduceSub, Nat.reduceGT, reduceIte, Int.reduceNeg, Int.reduceToNat] <;> (first | rfl | exact ⟨rfl, rfl⟩ | exact ⟨rfl, rfl, rfl⟩ | exact ⟨rfl, rfl, rfl, rfl⟩ | exact ⟨rfl, rfl, rfl, rfl, rfl⟩ | exact ⟨⟨rfl, rfl⟩, rfl⟩ | simp))
  intro k hk
  have hbb := bestAt_bound x a k hk
  by_cases hlt : k < x.length
  · have h1 := rowAt_map encTreeNode x k hlt
    have hq : (bestAt x a k).toNat < x.length := by omega
    have h2 := rowAt_map encTreeNode x _ hq
    have h3 := bestAt_succ x a k hlt _ hq rfl
    (repeat' (first | refine WP.seq ?_ | (refine WP.region ?_; simp only [go_sem, h1, h2, encTreeNode, tyAll, Nat.reduceAdd, Nat.reduceLT, Nat.reduceLeDiff, Nat.reduceEqDiff, Nat.reduceMul, Nat.reduceSub, Nat.reduceGT, reduceIte, Int.reduceNeg, Int.reduceToNat]) | refine WP.block ?_ | (refine WP.condW ?_; simp only [go_sem, h1, h2, encTreeNode, tyAll, Nat.reduceAdd, Nat.reduceLT, Nat.reduceLeDiff, Nat.reduceEqDiff, Nat.reduceMul, Nat.reduceSub, Nat.reduceGT, reduceIte, Int.reduceNeg, Int.reduceToNat]) | (refine WP.ret ?_; simp only [go_sem, h1, h2, encTreeNode, tyAll, Nat.reduceAdd, Nat.reduceLT, Nat.reduceLeDiff, Nat.reduceEqDiff, Nat.reduceMul, Nat.reduceSub, Nat.reduceGT, reduceIte, Int.reduceNeg, Int.reduceToNat]) | (refine WP.exit ?_; simp only [go_sem, h1, h2, encTreeNode, tyAll, Nat.reduceAdd, Nat.reduceLT, Nat.reduceLeDiff, Nat.reduceEqDiff, Nat.reduceMul, Nat.reduceSub, Nat.reduceGT, reduceIte, Int.reduceNeg, Int.reduceToNat]) | (refine WP.skip ?_; simp only [go_sem, h1, h2, encTreeNode, tyAll, Nat.reduceAdd, Nat.reduceLT, Nat.reduceLeDiff, Nat.reduceEqDiff, Nat.reduceMul, Nat.reduceSub, Nat.reduceGT, reduceIte, Int.reduceNeg, Int.reduceToNat]) | (refine WP.drawW 18 (by kernel_rfl) (by kernel_rfl) ?_; simp only [go_sem, h1, h2, encTreeNode, tyAll, Nat.reduceAdd, Nat.reduceLT, Nat.reduceLeDiff, Nat.reduceEqDiff, Nat.reduceMul, Nat.reduceSub, Nat.reduceGT, reduceIte, Int.reduceNeg, Int.reduceToNat]) |  refine And.intro ?_ ?_ | intro _))
    all_goals first | omega | skip
    · rename_i hc
      rw [if_pos (by omega)] at h3
      exact ⟨k + 1, by omega, by omega, by rw [h3]; (first | rfl | exact ⟨rfl, rfl⟩ | exact ⟨rfl, rfl, rfl⟩ | exact ⟨rfl, rfl, rfl, rfl⟩ | exact ⟨rfl, rfl, rfl, rfl, rfl⟩ | exact ⟨⟨rfl, rfl⟩, rfl⟩ | simp)⟩
    · rename_i hc
      rw [if_neg (by omega)] at h3
      exact ⟨k + 1, by omega, by omega, by rw [h3]; (first | rfl | exact ⟨rfl, rfl⟩ | exact ⟨rfl, rfl, rfl⟩ | exact ⟨rfl, rfl, rfl, rfl⟩ | exact ⟨rfl, rfl, rfl, rfl, rfl⟩ | exact ⟨⟨rfl, rfl⟩, rfl⟩ | simp)⟩
  · have hke : k = x.length := by omega
    subst hke
    (repeat' (first | refine WP.seq ?_ | (refine WP.region ?_; simp only [go_sem, encI, tyAll, Nat.reduceAdd, Nat.reduceLT, Nat.reduceLeDiff, Nat.reduceEqDiff, Nat.reduceMul, Nat.reduceSub, Nat.reduceGT, reduceIte, Int.reduceNeg, Int.reduceToNat]) | refine WP.block ?_ | (refine WP.condW ?_; simp only [go_sem, encI, tyAll, Nat.reduceAdd, Nat.reduceLT, Nat.reduceLeDiff, Nat.reduceEqDiff, Nat.reduceMul, Nat.reduceSub, Nat.reduceGT, reduceIte, Int.reduceNeg, Int.reduceToNat]) | (refine WP.ret ?_; simp only [go_sem, encI, tyAll, Nat.reduceAdd, Nat.reduceLT, Nat.reduceLeDiff, Nat.reduceEqDiff, Nat.reduceMul, Nat.reduceSub, Nat.reduceGT, reduceIte, Int.reduceNeg, Int.reduceToNat]) | (refine WP.exit ?_; simp only [go_sem, encI, tyAll, Nat.reduceAdd, Nat.reduceLT, Nat.reduceLeDiff, Nat.reduceEqDiff, Nat.reduceMul, Nat.reduceSub, Nat.reduceGT, reduceIte, Int.reduceNeg, Int.reduceToNat]) | (refine WP.skip ?_; simp only [go_sem, encI, tyAll, Nat.reduceAdd, Nat.reduceLT, Nat.reduceLeDiff, Nat.reduceEqDiff, Nat.reduceMul, Nat.reduceSub, Nat.reduceGT, reduceIte, Int.reduceNeg, Int.reduceToNat]) | (refine WP.drawW 18 (by kernel_rfl) (by kernel_rfl) ?_; simp only [go_sem, encI, tyAll, Nat.reduceAdd, Nat.reduceLT, Nat.reduceLeDiff, Nat.reduceEqDiff, Nat.reduceMul, Nat.reduceSub, Nat.reduceGT, reduceIte, Int.reduceNeg, Int.reduceToNat]) |  refine And.intro ?_ ?_ | intro _))
    all_goals first | omega | skip
    · rename_i hb
      rw [hstop hb, List.append_nil] at hout
      rw [hout]
    · rename_i hb
      obtain ⟨g1, g2⟩ := hgo (by omega)
      refine ⟨(out ++ [bestAt x a x.length], bestAt x a x.length, f - 1), ⟨by simp only; omega, by simp only; omega, g2, by simp only; rw [← hout, g1]; exact List.append_assoc _ _ _, by simp <;> omega⟩, by simp only; omega, by simp [encI]⟩
theorem heavy_len (L : List TreeNode) : (heavy L).length ≤ L.length + 1 := by
  unfold heavy
  split
  · exact hvGo_len _ _ _
  · simp

noncomputable def cxHvl : Cx := { P := Try.prog, tys := tys, C := [(33, kszTreeNodeS), (35, ktoTreeNodeS), (37, keqTreeNodeS), (43, kmarkTreeNodeS), (17, k17), (18, k18), (19, k19), (46, kHeavy), (47, kHeavy)], hty := tysOk, hC := COk.cons cszTreeNodeS (COk.cons ctoTreeNodeS (COk.cons ceqTreeNodeS (COk.cons cmarkTreeNodeS (COk.cons c17 (COk.cons c18 (COk.cons c19 (COk.cons cHeavyS (COk.cons cHeavyI (COk.nil _))))))))) }
theorem cxHvl_t : cxHvl.tys = tys := rfl
theorem cxHvl_c : cxHvl.C = [(33, kszTreeNodeS), (35, ktoTreeNodeS), (37, keqTreeNodeS), (43, kmarkTreeNodeS), (17, k17), (18, k18), (19, k19), (46, kHeavy), (47, kHeavy)] := rfl
attribute [local go_sem] cxHvl_t cxHvl_c kszTreeNodeS ktoTreeNodeS keqTreeNodeS kmarkTreeNodeS k17 k18 k19 kHeavy
attribute [local go_sem] isV_TreeNode isV_It decTreeNode_enc decI_enc
theorem lawHeaviest (L : List TreeNode) (hL : L.length ≤ maxLen ∧ ∀ r ∈ L, r.name.size ≤ maxLen) : Holds Try.prog 10 [.sl 4 (L.map encTreeNode)] (.v (.bool true)) [] := by
  refine Holds.go (c := cxHvl) Try.func10 rfl Try.results10 Try.ntmps10 (by omega) (by simp) rfl ?_
  intro X0 w0
  have hm : maxLen = 9223372036854775807 := rfl
  obtain ⟨hL, hs⟩ := hL
  have key : 0 ≤ szvTreeNode L 1048576 → L.length ≤ 1048576 := fun h => (szvTreeNode_ok (by omega)).1
  have key2 : 0 ≤ szvTreeNode L 1048576 → ∀ x ∈ L, x.name.size ≤ 1048576 := fun h => (szvTreeNode_ok (by omega)).2
  have hvl := heavy_len L
  have hml := marksI_len 1 (heavy L).length
  (repeat' (first | refine WP.seq ?_ | (refine WP.region ?_; simp only [go_sem, hml, tyAll, Nat.reduceAdd, Nat.reduceLT, Nat.reduceLeDiff, Nat.reduceEqDiff, Nat.reduceMul, Nat.reduceSub, Nat.reduceGT, reduceIte, Int.reduceNeg, Int.reduceToNat]) | refine WP.block ?_ | (refine WP.condW ?_; simp only [go_sem, hml, tyAll, Nat.reduceAdd, Nat.reduceLT, Nat.reduceLeDiff, Nat.reduceEqDiff, Nat.reduceMul, Nat.reduceSub, Nat.reduceGT, reduceIte, Int.reduceNeg, Int.reduceToNat]) | (refine WP.ret ?_; simp only [go_sem, hml, tyAll, Nat.reduceAdd, Nat.reduceLT, Nat.reduceLeDiff, Nat.reduceEqDiff, Nat.reduceMul, Nat.reduceSub, Nat.reduceGT, reduceIte, Int.reduceNeg, Int.reduceToNat]) | (refine WP.exit ?_; simp only [go_sem, hml, tyAll, Nat.reduceAdd, Nat.reduceLT, Nat.reduceLeDiff, Nat.reduceEqDiff, Nat.reduceMul, Nat.reduceSub, Nat.reduceGT, reduceIte, Int.reduceNeg, Int.reduceToNat]) | (refine WP.skip ?_; simp only [go_sem, hml, tyAll, Nat.reduceAdd, Nat.reduceLT, Nat.reduceLeDiff, Nat.reduceEqDiff, Nat.reduceMul, Nat.reduceSub, Nat.reduceGT, reduceIte, Int.reduceNeg, Int.reduceToNat]) |  refine And.intro ?_ ?_ | intro _))
  all_goals first | omega | exact ⟨_, _, _, rfl⟩ | exact hs _ ‹_› | exact key2 ‹_› _ ‹_› | skip
end Go.Proofs.Ytkikcjomjofhmaa
