/-
  DERIVED. Several texts of ours in one: VgNode, VpOrd, VpFmt, VpProf, VgEntry, VpEnt, VtStk, VtPrf, VtStk3.
-/
import Derived.Test.YtdbjioanlkilkaaVb0
import Derived.Test.YtdbjioanlkilkaaVb1
import Derived.Test.YtdbjioanlkilkaaVb2
import Derived.Test.YtdbjioanlkilkaaVb3
import Derived.Test.YtdbjioanlkilkaaVb4
import Derived.Laws.Strings
set_option linter.unusedSimpArgs false
set_option linter.unusedVariables false
namespace Go.Proofs.Ytdbjioanlkilkaa
open Go.Vc
attribute [local go_sem] St.runR St.runW St.stepV offV St.step St.stepU St.stepG mkCond guardB St.prK St.pr St.prLen St.eff St.callE St.callD St.callF St.callL aI aB aS aR aC St.isM St.argL Ctr.pure Ctr.lend Ctr.move Ctr.isL Ctr.wri pur len lentBy St.lentV St.lent1 nthS argsR restOf obsR pairs swapL unObs backL St.resL erL SV.ren1 SV.up SV.up2 Ob.up St.fzL cellIds partIds St.intoRow SV.ownId St.fz SV.fz1 St.prep St.mvL St.mv SV.re1 rnOk St.prEq vals eqCells scEq Value.kd St.prStr St.prCut cutR St.bnd St.prMin St.bld isShift outL retL outJ oR oC oE oD SV.upq SV.isSl SV.shut St.ev St.get St.put St.new St.kill SV.kill SV.kill1 Ob.kill St.app St.wrt St.rowsOf St.res St.killL lk er argsL SV.strip SV.need SV.share SV.share1 SV.owns SV.owns1 SV.owns2 SV.good SV.good1 SV.rok SV.rok1 SV.rok2 SV.isV SV.isV2 nodupN SV.cells SV.one SV.pur Ob.pb partsIn rowsIn splice cellsAt dstOk scal2 scal1 thenK blockK retK outK outs okC okL okA okT nilC nilL nilA nilT keepC keepL keepA keepT St.runG St.dltK St.least St.clean St.final St.hide offK badS badO SV.refs SV.leaf SV.leaf2 Ob.refs dlOk fpAt Go.Vc.cover tups SV.ofAgg St.out outC subL St.has rng wr Value.oneCell' Option.isSome_some Option.isSome_none List.nil_append Bool.false_eq_true List.map_cons List.map_nil List.all_cons List.all_nil List.length_cons List.length_nil List.drop_zero List.drop_succ_cons List.take_succ_cons List.take_zero List.drop_nil List.take_nil List.getElem?_cons_zero List.getElem?_cons_succ List.getElem?_nil List.cons_append List.nil_append List.append_nil List.append_assoc List.flatMap_cons List.flatMap_nil List.contains_cons List.contains_nil List.set_cons_zero List.set_cons_succ List.getElem?_toArray Option.getD_some Option.getD_none Option.map_some Option.map_none Option.bind_some Option.some.injEq Prod.mk.injEq if_true if_false true_and and_true and_self and_false false_and Bool.and_false Bool.false_and Bool.or_true Bool.true_or Bool.or_false Bool.false_or ne_eq not_true_eq_false not_false_eq_true decide_true decide_false List.mem_cons List.not_mem_nil List.filter_cons List.filter_nil List.any_cons List.any_nil List.isEmpty_nil List.isEmpty_cons Option.getD_none or_false false_or true_or or_true forall_eq_or_imp forall_eq reduceCtorEq exists_eq exists_eq' exists_eq_left' exists_eq_left exists_eq_right exists_eq_right' imp_self implies_true Bool.and_true Bool.true_and Bool.and_self beq_self_eq_true List.replicate_succ List.replicate_zero forall_const false_implies pickB_or pickB_and beqT beqF Int.toNat_natCast List.length_map List.length_replicate ge_iff_le gt_iff_lt decide_eq_true_eq decide_eq_false_iff_not Bool.and_eq_true Bool.or_eq_true Bool.not_eq_true' Bool.not_eq_false' condG List.toList_toArray Bool.or_eq_false_iff Bool.and_eq_false_iff Int.not_lt Int.not_le beq_iff_eq beq_eq_false_iff_ne bne_iff_ne bne_eq_false_iff_eq ne_eq Bool.not_true Bool.not_false exists_and_left
section
open Go.Vc
set_option linter.unusedSimpArgs false
set_option linter.unusedVariables false
set_option maxHeartbeats 1000000
attribute [local irreducible] Go.Vc.WP
attribute [local go_sem] cx0_t cx0_c

structure Node where
  parent : Int
  name : ByteArray
  line : Int
deriving DecidableEq
def encNode (x : Node) : List SV := [.v (.int .i64 x.parent), .v (.string x.name), .v (.int .i64 x.line)]
def oneNode : List SV → Node
  | [.v (.int _ parent), .v (.string name), .v (.int _ line)] => ⟨parent, name, line⟩
  | _ => ⟨0, ⟨#[]⟩, 0⟩
def decNode (rows : List (List SV)) : List Node := rows.map oneNode
theorem oneNode_enc (x : Node) : oneNode (encNode x) = x := rfl
theorem decNode_enc (L : List Node) : decNode (L.map encNode) = L := by
  unfold decNode
  rw [List.map_map]
  exact List.map_id'' oneNode_enc L
theorem isV_Node {e s : Nat} (L : List Node) : (Ob.sl e s (L.map encNode)).isV ↔ True := iff_true_intro (by
  intro row hr c hc
  obtain ⟨n, _, rfl⟩ := List.mem_map.1 hr
  simp only [encNode, List.mem_cons, List.not_mem_nil, or_false] at hc
  rcases hc with rfl | rfl | rfl <;> exact ⟨_, rfl⟩)
def zerNode : List SV := [.v (.int .i64 0), .v (.string ⟨#[]⟩), .v (.int .i64 0)]

noncomputable def cxinNode : Cx := { P := Try.prog, tys := tys, C := [(100, ktoFrame), (44, keqFrame), (97, kszFrame)], hty := tysOk, hC := COk.cons ctoFrame (COk.cons ceqFrame (COk.cons cszFrame (COk.nil _))) }
theorem cxinNode_t : cxinNode.tys = tys := rfl
theorem cxinNode_c : cxinNode.C = [(100, ktoFrame), (44, keqFrame), (97, kszFrame)] := rfl
attribute [local go_sem] cxinNode_t cxinNode_c ktoFrame keqFrame kszFrame
attribute [local go_sem] oneFrame encFrame

def ktoNode : Ctr := pur (fun args => oneNode (aC args 0)) (fun x => [.agg (encNode x)]) (fun _ => True) (fun _ x => .agg (encNode x)) (fun _ _ => [])
def ktoNodeS : Ctr := pur (fun args => decNode (aR args 0)) (fun L => [.sl 3 (L.map encNode)]) (fun L => L.length ≤ 2097152) (fun d _ => .own d) (fun d L => [(d, .sl 187 3 (L.map encNode))])
section
attribute [local go_sem] ktoNode oneNode
end

def keqNode : Ctr := pur (fun args => (oneNode (aC args 0), oneNode (aC args 1))) (fun x => [.agg (encNode x.1), .agg (encNode x.2)]) (fun _ => True) (fun _ x => .v (.bool (decide (x.1 = x.2)))) (fun _ _ => [])
theorem ceqNode : Cn Try.prog 135 keqNode := by
  refine Cn.pur Try.func135 (by kernel_rfl) rfl fun d x _ => ?_
  obtain ⟨⟨a0, a1, a2⟩, ⟨b0, b1, b2⟩⟩ := x
  refine Holds.go (c := cxinNode) Try.func135 rfl Try.results135 Try.ntmps135 (by omega) (by simp) rfl ?_
  intro X0 w0
  simp only [encNode]
  (repeat' (first | refine WP.seq ?_ | refine WP.block ?_ | ((first | refine WP.region ?_ | refine WP.condW ?_ | refine WP.ret ?_ | refine WP.exit ?_ | refine WP.skip ?_); simp only [go_sem, tyAll, Nat.reduceAdd, Nat.reduceLT, Nat.reduceLeDiff, Nat.reduceEqDiff, Nat.reduceMul, Nat.reduceSub, Nat.reduceGT, reduceIte, Int.reduceNeg, Int.reduceToNat]) |  refine And.intro ?_ ?_ | intro _))
  all_goals simp_all

noncomputable def cxeqNode : Cx := { P := Try.prog, tys := tys, C := [(135, keqNode)], hty := tysOk, hC := COk.cons ceqNode (COk.nil _) }
theorem cxeqNode_t : cxeqNode.tys = tys := rfl
theorem cxeqNode_c : cxeqNode.C = [(135, keqNode)] := rfl
def keqNodeS : Ctr := pur (fun args => (decNode (aR args 0), decNode (aR args 1))) (fun x => [.sl 3 (x.1.map encNode), .sl 3 (x.2.map encNode)]) (fun x => x.1.length ≤ 4398046511104) (fun _ x => .v (.bool (decide (x.1 = x.2)))) (fun _ _ => [])
section
attribute [local go_sem] cxeqNode_t cxeqNode_c keqNode oneNode
theorem ceqNodeS : Cn Try.prog 104 keqNodeS := by
  refine Cn.pur Try.func104 (by kernel_rfl) rfl fun d x hL => ?_
  obtain ⟨L, M⟩ := x
  simp only at hL ⊢
  refine Holds.go (c := cxeqNode) Try.func104 rfl Try.results104 Try.ntmps104 (by omega) (by simp) rfl ?_
  intro X0 w0
  (repeat' (first | refine WP.seq ?_ | refine WP.block ?_ | ((first | refine WP.region ?_ | refine WP.condW ?_ | refine WP.ret ?_ | refine WP.exit ?_ | refine WP.skip ?_); simp only [go_sem, tyAll, Nat.reduceAdd, Nat.reduceLT, Nat.reduceLeDiff, Nat.reduceEqDiff, Nat.reduceMul, Nat.reduceSub, Nat.reduceGT, reduceIte, Int.reduceNeg, Int.reduceToNat]) |  refine And.intro ?_ ?_ | intro _))
  · simp; intro h; subst h; simp_all
  have hlen : L.length = M.length := by omega
  refine WP.loop (fun k : Nat => ⟨[(0, .sl 3 (L.map encNode)), (1, .sl 3 (M.map encNode)), (5, .v (.int .i64 k))], []⟩) (fun k => k ≤ L.length ∧ L.take k = M.take k) (fun k => L.length - k) 0 (by simp) ?_ ?_
  · simp only [go_sem, tyAll, Nat.reduceAdd, Nat.reduceLT, Nat.reduceLeDiff, Nat.reduceEqDiff, Nat.reduceMul, Nat.reduceSub, Nat.reduceGT, reduceIte, Int.reduceNeg, Int.reduceToNat]; rfl
  intro k ⟨hk, ht⟩
  by_cases hlt : k < L.length
  · have h1 := rowAt_map encNode L k hlt
    have h2 := rowAt_map encNode M k (by omega)
    (repeat' (first | refine WP.seq ?_ | refine WP.block ?_ | ((first | refine WP.region ?_ | refine WP.condW ?_ | refine WP.ret ?_ | refine WP.exit ?_ | refine WP.skip ?_); simp only [go_sem, h1, h2, encNode, tyAll, Nat.reduceAdd, Nat.reduceLT, Nat.reduceLeDiff, Nat.reduceEqDiff, Nat.reduceMul, Nat.reduceSub, Nat.reduceGT, reduceIte, Int.reduceNeg, Int.reduceToNat]) | (refine WP.drawW 10 (by kernel_rfl) (by kernel_rfl) ?_; simp only [go_sem, h1, h2, encNode, tyAll, Nat.reduceAdd, Nat.reduceLT, Nat.reduceLeDiff, Nat.reduceEqDiff, Nat.reduceMul, Nat.reduceSub, Nat.reduceGT, reduceIte, Int.reduceNeg, Int.reduceToNat]) |  refine And.intro ?_ ?_ | intro _))
    all_goals first | omega | skip
    · rename_i hne
      rw [show decide (L = M) = false from decide_eq_false fun e => by subst e; exact hne rfl]
    · rename_i he
      refine ⟨k + 1, ⟨by omega, ?_⟩, by omega, rfl⟩
      have he' : L[k] = M[k] := he
      rw [List.take_succ_eq_append_getElem hlt, List.take_succ_eq_append_getElem (by omega : k < M.length), ht, he']
  · (repeat' (first | refine WP.seq ?_ | refine WP.block ?_ | ((first | refine WP.region ?_ | refine WP.condW ?_ | refine WP.ret ?_ | refine WP.exit ?_ | refine WP.skip ?_); simp only [go_sem, tyAll, Nat.reduceAdd, Nat.reduceLT, Nat.reduceLeDiff, Nat.reduceEqDiff, Nat.reduceMul, Nat.reduceSub, Nat.reduceGT, reduceIte, Int.reduceNeg, Int.reduceToNat]) |  refine And.intro ?_ ?_ | intro _))
    all_goals first | omega | skip
    rw [show decide (L = M) = true from decide_eq_true ?_]
    rw [show k = L.length by omega, List.take_length, hlen, List.take_length] at ht
    exact ht
end

def kszNode : Ctr := pur (fun args => (oneNode (aC args 0), aI args 1)) (fun x => [.agg (encNode x.1), .v (.int .i64 x.2)]) (fun x => x.1.name.size ≤ maxLen ∧ 0 ≤ x.2 ∧ x.2 ≤ 1048576)
  (fun _ x => .v (.int .i64 (if x.2 - x.1.name.size < 0 then -1 else x.2 - x.1.name.size))) (fun _ _ => [])
def sizesNode (L : List Node) : List Nat := L.map fun x => x.name.size
def szvNode (L : List Node) (left : Int) : Int := if left - L.length < 0 then -1 else szGo (sizesNode L) (left - L.length)
def kszNodeS : Ctr := pur (fun args => (decNode (aR args 0), aI args 1)) (fun x => [.sl 3 (x.1.map encNode), .v (.int .i64 x.2)]) (fun x => x.1.length ≤ maxLen ∧ (∀ r ∈ x.1, r.name.size ≤ maxLen) ∧ 0 ≤ x.2 ∧ x.2 ≤ 1048576)
  (fun _ x => .v (.int .i64 (szvNode x.1 x.2))) (fun _ _ => [])
section
attribute [local go_sem] kszNode oneNode
end
theorem szvNode_ok {L : List Node} (h : ¬ szvNode L 1048576 < 0) : L.length ≤ 1048576 ∧ ∀ x ∈ L, x.name.size ≤ 1048576 := by
  unfold szvNode at h
  split at h
  · omega
  · rename_i h2
    refine ⟨by omega, fun x hx => ?_⟩
    have := szGo_ok (sizesNode L) _ (by omega) (Int.not_lt.1 h) x.name.size (List.mem_map.2 ⟨x, hx, rfl⟩)
    omega

theorem extNode {a b : Node} (h0 : a.parent = b.parent) (h1 : a.name = b.name) (h2 : a.line = b.line) : a = b := by cases a; cases b; simp_all
def mrkNode (v : Int) : Node := ⟨v, markT (v + 1), v + 1 + 1⟩
def marksNode (k : Int) (n : Nat) : List Node := (List.range n).map fun i : Nat => mrkNode (k + 3 * (i : Int))
theorem marksNode_len (k : Int) (n : Nat) : (marksNode k n).length = n := by simp [marksNode]
def halfNode (L : List Node) (k0 : Int) (k : Nat) : List Node := marksNode k0 k ++ L.drop k
theorem halfNode_len (L : List Node) (k0 : Int) (k : Nat) (h : k ≤ L.length) : (halfNode L k0 k).length = L.length := by simp [halfNode, marksNode_len]; omega
theorem halfNode_set (L : List Node) (k0 : Int) (k : Nat) (h : k < L.length) : ((halfNode L k0 k).map encNode).set k (encNode (mrkNode (k0 + 3 * (k : Int)))) = (halfNode L k0 (k + 1)).map encNode := by
  rw [← List.map_set]
  congr 1
  unfold halfNode
  rw [List.set_append, if_neg (by simp [marksNode_len]), marksNode_len, Nat.sub_self, List.drop_eq_getElem_cons h, List.set_cons_zero]
  simp [marksNode, List.range_succ]
noncomputable def cxMkNode : Cx := { P := Try.prog, tys := tys, C := [(46, kmarkT)], hty := tysOk, hC := COk.cons cmarkT (COk.nil _) }
theorem cxMkNode_t : cxMkNode.tys = tys := rfl
theorem cxMkNode_c : cxMkNode.C = [(46, kmarkT)] := rfl
attribute [local go_sem] cxMkNode_t cxMkNode_c kmarkT

def kmarkNodeS : Ctr := len [0] [] (fun args obs => (decNode (oR obs 1000000), aI args 1)) (fun x => [.own 1000000, .v (.int .i64 x.2)]) (fun x => [(1000000, .sl 187 3 (x.1.map encNode))]) (fun x => x.1.length ≤ 4398046511104 ∧ 0 ≤ x.2 ∧ x.2 ≤ 500000000000000)
  (fun _ x => .v (.int .i64 (x.2 + 3 * x.1.length))) (fun _ _ => []) (fun x => [(1000000, .sl 187 3 ((marksNode x.2 x.1.length).map encNode))])
theorem cmarkNodeS : Cn Try.prog 105 kmarkNodeS := by
  refine Cn.len Try.func105 (by kernel_rfl) rfl fun d x hd hx => ?_
  obtain ⟨L, k0⟩ := x
  obtain ⟨hL, h0, h1⟩ := hx
  simp only at hL h0 h1 ⊢
  refine HoldsL.go (c := cxMkNode) Try.func105 rfl Try.results105 Try.ntmps105 (by omega) (by simp) rfl (by simp <;> omega) (by simp [SV.owns2, SV.owns, SV.owns1]) (by simp) rfl rfl (by simp) ?_
  intro X0 M w0
  (repeat' (first | refine WP.seq ?_ | refine WP.block ?_ | ((first | refine WP.region ?_ | refine WP.condW ?_ | refine WP.ret ?_ | refine WP.exit ?_ | refine WP.skip ?_); simp only [go_sem, tyAll, Nat.reduceAdd, Nat.reduceLT, Nat.reduceLeDiff, Nat.reduceEqDiff, Nat.reduceMul, Nat.reduceSub, Nat.reduceGT, reduceIte, Int.reduceNeg, Int.reduceToNat]) |  refine And.intro ?_ ?_ | intro _))
  refine WP.loop (fun k : Nat => ⟨[(0, .own 1000000), (1, .v (.int .i64 (k0 + 3 * (k : Int)))), (5, .v (.int .i64 k))], [(1000000, .sl 187 3 ((halfNode L k0 k).map encNode))]⟩) (fun k => k ≤ L.length) (fun k => L.length - k) 0 (by omega) ?_ ?_
  · have e : halfNode L k0 0 = L := by simp [halfNode, marksNode]
    rw [e]; (simp only [go_sem, tyAll, Nat.reduceAdd, Nat.reduceLT, Nat.reduceLeDiff, Nat.reduceEqDiff, Nat.reduceMul, Nat.reduceSub, Nat.reduceGT, reduceIte, Int.reduceNeg, Int.reduceToNat] <;> (first | rfl | exact ⟨rfl, rfl⟩ | exact ⟨rfl, rfl, rfl⟩ | exact ⟨rfl, rfl, rfl, rfl⟩ | exact ⟨rfl, rfl, rfl, rfl, rfl⟩ | exact ⟨⟨rfl, rfl⟩, rfl⟩ | simp))
  intro k hk
  have h2 := halfNode_len L k0 k hk
  by_cases hlt : k < L.length
  · have h3 := halfNode_set L k0 k hlt
    rw [encNode, mrkNode] at h3
    simp only at h3
    have h4 := rowAt_map encNode (halfNode L k0 k) k (by omega)
    have h5 : ∀ r : List SV, Go.Vc.rowAt (((halfNode L k0 k).map encNode).set k r) k = r := fun r => rowAt_set _ _ _ (by rw [List.length_map]; omega)
    (repeat' (first | refine WP.seq ?_ | refine WP.block ?_ | ((first | refine WP.region ?_ | refine WP.condW ?_ | refine WP.ret ?_ | refine WP.exit ?_ | refine WP.skip ?_); simp only [go_sem, h2, h3, h4, h5, encNode, List.set_set, List.length_set, tyAll, Nat.reduceAdd, Nat.reduceLT, Nat.reduceLeDiff, Nat.reduceEqDiff, Nat.reduceMul, Nat.reduceSub, Nat.reduceGT, reduceIte, Int.reduceNeg, Int.reduceToNat]) |  refine And.intro ?_ ?_ | intro _))
    all_goals first | omega | skip
    refine ⟨k + 1, by omega, by omega, ⟨?_, rfl⟩, rfl⟩
    rw [show k0 + 3 * (k : Int) + 1 + 1 + 1 = k0 + 3 * ((k + 1 : Nat) : Int) by omega]
  · have h5 : halfNode L k0 k = marksNode k0 L.length := by rw [show k = L.length by omega]; simp [halfNode]
    have h6 := marksNode_len k0 L.length
    (repeat' (first | refine WP.seq ?_ | refine WP.block ?_ | ((first | refine WP.region ?_ | refine WP.condW ?_ | refine WP.ret ?_ | refine WP.exit ?_ | refine WP.skip ?_); simp only [go_sem, h2, h5, h6, tyAll, Nat.reduceAdd, Nat.reduceLT, Nat.reduceLeDiff, Nat.reduceEqDiff, Nat.reduceMul, Nat.reduceSub, Nat.reduceGT, reduceIte, Int.reduceNeg, Int.reduceToNat]) |  refine And.intro ?_ ?_ | intro _))
    all_goals first | omega | skip
    all_goals rw [show k = L.length by omega]

def kheldNodeS : Ctr := pur (fun args => (decNode (aR args 0), aI args 1)) (fun x => [.sl 3 (x.1.map encNode), .v (.int .i64 x.2)]) (fun x => x.1.length ≤ 4398046511104 ∧ 0 ≤ x.2 ∧ x.2 ≤ 500000000000000)
  (fun _ x => .v (.int .i64 (if x.1 = marksNode x.2 x.1.length then x.2 + 3 * x.1.length else -1))) (fun _ _ => [])
theorem cheldNodeS : Cn Try.prog 106 kheldNodeS := by
  refine Cn.pur Try.func106 (by kernel_rfl) rfl fun d x hx => ?_
  obtain ⟨L, k0⟩ := x
  obtain ⟨hL, h0, h1⟩ := hx
  simp only at hL h0 h1 ⊢
  refine Holds.go (c := cxMkNode) Try.func106 rfl Try.results106 Try.ntmps106 (by omega) (by simp) rfl ?_
  intro X0 w0
  (repeat' (first | refine WP.seq ?_ | refine WP.block ?_ | ((first | refine WP.region ?_ | refine WP.condW ?_ | refine WP.ret ?_ | refine WP.exit ?_ | refine WP.skip ?_); simp only [go_sem, tyAll, Nat.reduceAdd, Nat.reduceLT, Nat.reduceLeDiff, Nat.reduceEqDiff, Nat.reduceMul, Nat.reduceSub, Nat.reduceGT, reduceIte, Int.reduceNeg, Int.reduceToNat]) | ((first | refine WP.drawW 9 (by decide +kernel) (by kernel_rfl) ?_); simp only [go_sem, tyAll, Nat.reduceAdd, Nat.reduceLT, Nat.reduceLeDiff, Nat.reduceEqDiff, Nat.reduceMul, Nat.reduceSub, Nat.reduceGT, reduceIte, Int.reduceNeg, Int.reduceToNat]) |  refine And.intro ?_ ?_ | intro _))
  refine WP.loop (fun k : Nat => ⟨[(0, .sl 3 (L.map encNode)), (1, .v (.int .i64 (k0 + 3 * (k : Int)))), (5, .v (.int .i64 k))], []⟩) (fun k => k ≤ L.length ∧ L.take k = marksNode k0 k) (fun k => L.length - k) 0 (by simp [marksNode]) ?_ ?_
  · (simp only [go_sem, tyAll, Nat.reduceAdd, Nat.reduceLT, Nat.reduceLeDiff, Nat.reduceEqDiff, Nat.reduceMul, Nat.reduceSub, Nat.reduceGT, reduceIte, Int.reduceNeg, Int.reduceToNat] <;> (first | rfl | exact ⟨rfl, rfl⟩ | exact ⟨rfl, rfl, rfl⟩ | exact ⟨rfl, rfl, rfl, rfl⟩ | exact ⟨rfl, rfl, rfl, rfl, rfl⟩ | exact ⟨⟨rfl, rfl⟩, rfl⟩ | simp))
  intro k ⟨hk, ht⟩
  by_cases hlt : k < L.length
  · have h3 := rowAt_map encNode L k hlt
    (repeat' (first | refine WP.seq ?_ | refine WP.block ?_ | ((first | refine WP.region ?_ | refine WP.condW ?_ | refine WP.ret ?_ | refine WP.exit ?_ | refine WP.skip ?_); simp only [go_sem, h3, encNode, tyAll, Nat.reduceAdd, Nat.reduceLT, Nat.reduceLeDiff, Nat.reduceEqDiff, Nat.reduceMul, Nat.reduceSub, Nat.reduceGT, reduceIte, Int.reduceNeg, Int.reduceToNat]) | ((first | refine WP.drawW 9 (by decide +kernel) (by kernel_rfl) ?_); simp only [go_sem, h3, encNode, tyAll, Nat.reduceAdd, Nat.reduceLT, Nat.reduceLeDiff, Nat.reduceEqDiff, Nat.reduceMul, Nat.reduceSub, Nat.reduceGT, reduceIte, Int.reduceNeg, Int.reduceToNat]) |  refine And.intro ?_ ?_ | intro _))
    all_goals first | omega | skip
    · rename_i hne
      rw [if_neg]
      intro e
      have e2 : L[k] = (marksNode k0 L.length)[k]'(by rw [marksNode_len]; exact hlt) := by congr 1
      exact hne (by rw [e2]; simp [marksNode, mrkNode])
    · rename_i hne
      rw [if_neg]
      intro e
      have e2 : L[k] = (marksNode k0 L.length)[k]'(by rw [marksNode_len]; exact hlt) := by congr 1
      exact hne (by rw [e2]; simp [marksNode, mrkNode])
    · rename_i hne
      rw [if_neg]
      intro e
      have e2 : L[k] = (marksNode k0 L.length)[k]'(by rw [marksNode_len]; exact hlt) := by congr 1
      exact hne (by rw [e2]; simp [marksNode, mrkNode])
    · rename_i g0 g1 g2
      refine ⟨k + 1, ⟨by omega, ?_⟩, by omega, ?_, rfl⟩
      · have he : L[k] = mrkNode (k0 + 3 * (k : Int)) := extNode g0 g1 g2
        rw [List.take_succ_eq_append_getElem hlt, ht, he]; simp [marksNode, List.range_succ]
      · rw [show k0 + 3 * (k : Int) + 1 + 1 + 1 = k0 + 3 * ((k + 1 : Nat) : Int) by omega]
  · (repeat' (first | refine WP.seq ?_ | refine WP.block ?_ | ((first | refine WP.region ?_ | refine WP.condW ?_ | refine WP.ret ?_ | refine WP.exit ?_ | refine WP.skip ?_); simp only [go_sem, tyAll, Nat.reduceAdd, Nat.reduceLT, Nat.reduceLeDiff, Nat.reduceEqDiff, Nat.reduceMul, Nat.reduceSub, Nat.reduceGT, reduceIte, Int.reduceNeg, Int.reduceToNat]) | ((first | refine WP.drawW 9 (by decide +kernel) (by kernel_rfl) ?_); simp only [go_sem, tyAll, Nat.reduceAdd, Nat.reduceLT, Nat.reduceLeDiff, Nat.reduceEqDiff, Nat.reduceMul, Nat.reduceSub, Nat.reduceGT, reduceIte, Int.reduceNeg, Int.reduceToNat]) |  refine And.intro ?_ ?_ | intro _))
    all_goals first | omega | skip
    rw [show k = L.length by omega, List.take_length] at ht
    rw [if_pos ht, show k = L.length by omega]
end
end Go.Proofs.Ytdbjioanlkilkaa
/-
  DERIVED. Plain lists: the order of byte strings; lists that are sorted by a key; insertion.
-/
namespace Go.Pl
set_option linter.unusedVariables false
open Go

theorem bl_irrefl : ∀ l : List UInt8, Op.bytesLess l l = false
  | [] => rfl
  | a :: l => by simp [Op.bytesLess, bl_irrefl l]
theorem bl_tri : ∀ {x y : List UInt8}, Op.bytesLess x y = false → Op.bytesLess y x = false → x = y
  | [], [], _, _ => rfl
  | [], _ :: _, h, _ => by simp [Op.bytesLess] at h
  | _ :: _, [], _, h => by simp [Op.bytesLess] at h
  | a :: x, b :: y, h1, h2 => by
    simp only [Op.bytesLess, Bool.or_eq_false_iff, decide_eq_false_iff_not, Bool.and_eq_false_iff, beq_eq_false_iff_ne] at h1 h2
    have hab : a = b := UInt8.le_antisymm (UInt8.not_lt.1 h2.1) (UInt8.not_lt.1 h1.1)
    subst hab
    have e1 : Op.bytesLess x y = false := h1.2.resolve_left fun h => h rfl
    have e2 : Op.bytesLess y x = false := h2.2.resolve_left fun h => h rfl
    rw [bl_tri e1 e2]
theorem bl_trans : ∀ {x y z : List UInt8}, Op.bytesLess x y = true → Op.bytesLess y z = true → Op.bytesLess x z = true
  | _, [], _, h, _ => by simp [Op.bytesLess] at h
  | _, _ :: _, [], _, h => by simp [Op.bytesLess] at h
  | [], _ :: _, _ :: _, _, _ => rfl
  | a :: x, b :: y, c :: z, h1, h2 => by
    simp only [Op.bytesLess, Bool.or_eq_true, decide_eq_true_eq, Bool.and_eq_true, beq_iff_eq] at h1 h2 ⊢
    rcases h1 with h1 | ⟨rfl, h1⟩
    · rcases h2 with h2 | ⟨rfl, h2⟩
      · exact .inl (UInt8.lt_trans h1 h2)
      · exact .inl h1
    · rcases h2 with h2 | ⟨rfl, h2⟩
      · exact .inl h2
      · exact .inr ⟨rfl, bl_trans h1 h2⟩

def ltS (a b : ByteArray) : Bool := Op.bytesLess a.toList b.toList
theorem ltS_def (a b : ByteArray) : Op.bytesLess a.toList b.toList = ltS a b := rfl
theorem ba_toList_inj {a b : ByteArray} (h : a.toList = b.toList) : a = b := by
  rw [ByteArray.toList_eq, ByteArray.toList_eq] at h
  exact ByteArray.ext (Array.toList_inj.1 h)
theorem ltS_irrefl (a : ByteArray) : ltS a a = false := bl_irrefl _
theorem ltS_trans {a b c : ByteArray} (h1 : ltS a b = true) (h2 : ltS b c = true) : ltS a c = true := bl_trans h1 h2
theorem ltS_tri {a b : ByteArray} (h1 : ltS a b = false) (h2 : ltS b a = false) : a = b := ba_toList_inj (bl_tri h1 h2)
theorem ltS_asymm {a b : ByteArray} (h : ltS a b = true) : ltS b a = false := by
  cases h2 : ltS b a with
  | false => rfl
  | true => have := ltS_trans h h2; rw [ltS_irrefl] at this; cases this
theorem ltS_ne {a b : ByteArray} (h : ltS a b = true) : a ≠ b := fun e => by subst e; rw [ltS_irrefl] at h; cases h
/-- not less and not the same: greater -/
theorem ltS_gt {a b : ByteArray} (h1 : ltS a b = false) (h2 : a ≠ b) : ltS b a = true := by
  cases h : ltS b a with
  | true => rfl
  | false => exact absurd (ltS_tri h1 h) h2
theorem ltS_ntrans {a b c : ByteArray} (h1 : ltS a b = false) (h2 : ltS b c = false) : ltS a c = false := by
  cases h : ltS a c with
  | false => rfl
  | true =>
    by_cases hab : a = b
    · subst hab; rw [h2] at h; cases h
    · have := ltS_trans (ltS_gt h1 hab) h; rw [h2] at this; cases this

/-! ## sorted lists -/
section
variable {α : Type} (lt : α → α → Bool)

/-- strictly ascending -/
def Asc (L : List α) : Prop := L.Pairwise fun a b => lt a b = true
structure Strict : Prop where
  irrefl : ∀ a, lt a a = false
  trans : ∀ a b c, lt a b = true → lt b c = true → lt a c = true
variable {lt}
theorem Strict.asymm (h : Strict lt) {a b : α} (hab : lt a b = true) : lt b a = false := by
  cases h2 : lt b a with
  | false => rfl
  | true => have := h.trans _ _ _ hab h2; rw [h.irrefl] at this; cases this

/-- one ascending list of the same elements -/
theorem Asc.unique (h : Strict lt) : ∀ {L M : List α}, Asc lt L → Asc lt M → L.Perm M → L = M
  | [], M, _, _, hp => (List.Perm.nil_eq hp)
  | a :: L, [], _, _, hp => (by have := hp.length_eq; simp at this)
  | a :: L, b :: M, hL, hM, hp => by
    have hL' := List.pairwise_cons.1 hL
    have hM' := List.pairwise_cons.1 hM
    have hab : a = b := by
      have h1 : a ∈ b :: M := hp.subset List.mem_cons_self
      have h2 : b ∈ a :: L := hp.symm.subset List.mem_cons_self
      rcases List.mem_cons.1 h1 with e | e
      · exact e
      · rcases List.mem_cons.1 h2 with e2 | e2
        · exact e2.symm
        · have := h.asymm (hM'.1 a e); rw [hL'.1 b e2] at this; cases this
    subst hab
    rw [Asc.unique h hL'.2 hM'.2 (List.Perm.cons_inv hp)]

/-- x behind all that are less -/
def ins (lt : α → α → Bool) (x : α) (L : List α) : List α := L.takeWhile (fun y => lt y x) ++ x :: L.dropWhile (fun y => lt y x)
theorem ins_perm (x : α) (L : List α) : (ins lt x L).Perm (x :: L) := by
  unfold ins
  refine List.perm_middle.trans ?_
  rw [List.takeWhile_append_dropWhile]
theorem ins_mem {x y : α} {L : List α} : y ∈ ins lt x L ↔ y = x ∨ y ∈ L := by
  rw [(ins_perm (lt := lt) x L).mem_iff]; simp
theorem ins_len (x : α) (L : List α) : (ins lt x L).length = L.length + 1 := by
  rw [(ins_perm (lt := lt) x L).length_eq]; rfl
theorem mem_takeWhile' {p : α → Bool} : ∀ {L : List α} {a : α}, a ∈ L.takeWhile p → p a = true ∧ a ∈ L
  | b :: L, a, h => by
    rw [List.takeWhile_cons] at h
    split at h
    · rename_i hb
      rcases List.mem_cons.1 h with rfl | h
      · exact ⟨hb, List.mem_cons_self⟩
      · exact ⟨(mem_takeWhile' h).1, List.mem_cons_of_mem _ (mem_takeWhile' h).2⟩
    · cases h
  | [], a, h => by cases h
theorem asc_drop (h : Strict lt) {x : α} : ∀ {L : List α}, Asc lt L → (∀ y ∈ L, lt y x = true ∨ lt x y = true) → ∀ y ∈ L.dropWhile (fun y => lt y x), lt x y = true
  | [], _, _, y, hy => by cases hy
  | a :: L, hL, hx, y, hy => by
    have hL' := List.pairwise_cons.1 hL
    rw [List.dropWhile_cons] at hy
    split at hy
    · exact asc_drop h hL'.2 (fun y hy => hx y (List.mem_cons_of_mem _ hy)) y hy
    · rename_i ha
      have hxa : lt x a = true := (hx a List.mem_cons_self).resolve_left ha
      rcases List.mem_cons.1 hy with rfl | hy
      · exact hxa
      · exact h.trans _ _ _ hxa (hL'.1 y hy)
theorem ins_asc (h : Strict lt) {x : α} {L : List α} (hL : Asc lt L) (hx : ∀ y ∈ L, lt y x = true ∨ lt x y = true) : Asc lt (ins lt x L) := by
  have hd := asc_drop h hL hx
  unfold ins Asc
  have hs : (L.takeWhile (fun y => lt y x) ++ L.dropWhile (fun y => lt y x)).Pairwise fun a b => lt a b = true := by rw [List.takeWhile_append_dropWhile]; exact hL
  rw [List.pairwise_append] at hs ⊢
  refine ⟨hs.1, List.pairwise_cons.2 ⟨hd, hs.2.1⟩, fun a ha b hb => ?_⟩
  rcases List.mem_cons.1 hb with rfl | hb
  · exact (mem_takeWhile' ha).1
  · exact hs.2.2 a ha b hb

/-- the elements put in one after the other -/
def insAll (lt : α → α → Bool) (L : List α) : List α := L.foldl (fun acc x => ins lt x acc) []
theorem insAll_snoc (L : List α) (x : α) : insAll lt (L ++ [x]) = ins lt x (insAll lt L) := by simp [insAll]
theorem foldl_ins_perm : ∀ (L acc : List α), (L.foldl (fun acc x => ins lt x acc) acc).Perm (L ++ acc)
  | [], acc => List.Perm.refl _
  | x :: L, acc => by
    refine (foldl_ins_perm L _).trans ?_
    refine ((ins_perm (lt := lt) x acc).append_left L).trans ?_
    exact List.perm_middle
theorem insAll_perm (L : List α) : (insAll lt L).Perm L := by have := foldl_ins_perm (lt := lt) L []; rwa [List.append_nil] at this
theorem insAll_len (L : List α) : (insAll lt L).length = L.length := (insAll_perm L).length_eq
theorem insAll_mem {L : List α} {y : α} : y ∈ insAll lt L ↔ y ∈ L := (insAll_perm L).mem_iff
theorem insAll_asc_aux (h : Strict lt) : ∀ (L acc : List α), Asc lt acc → (L ++ acc).Pairwise (fun a b => lt a b = true ∨ lt b a = true) → Asc lt (L.foldl (fun acc x => ins lt x acc) acc)
  | [], acc, ha, _ => ha
  | x :: L, acc, ha, hp => by
    have hp' := List.pairwise_cons.1 hp
    refine insAll_asc_aux h L _ (ins_asc h ha fun y hy => (hp'.1 y (List.mem_append_right _ hy)).symm) ?_
    have hp2 := List.pairwise_append.1 hp'.2
    refine List.pairwise_append.2 ⟨hp2.1, ?_, fun a hA b hb => ?_⟩
    · have : (x :: acc).Pairwise (fun a b => lt a b = true ∨ lt b a = true) := List.pairwise_cons.2 ⟨fun y hy => hp'.1 y (List.mem_append_right _ hy), hp2.2.1⟩
      exact ((ins_perm (lt := lt) x acc).pairwise_iff (fun h => h.symm)).2 this
    · rcases ins_mem.1 hb with rfl | hb
      · exact (hp'.1 a (List.mem_append_left _ hA)).symm
      · exact hp2.2.2 a hA b hb
theorem insAll_asc (h : Strict lt) {L : List α} (hp : L.Pairwise fun a b => lt a b = true ∨ lt b a = true) : Asc lt (insAll lt L) :=
  insAll_asc_aux h L [] List.Pairwise.nil (by rwa [List.append_nil])
/-- whatever is sorted of the same elements is this -/
theorem insAll_unique (h : Strict lt) {L M : List α} (hp : L.Pairwise fun a b => lt a b = true ∨ lt b a = true) (hM : M.Perm L) (hs : M.Pairwise fun a b => lt b a = false) : M = insAll lt L := by
  have hMp : M.Pairwise fun a b => lt a b = true ∨ lt b a = true := (hM.pairwise_iff (fun h => h.symm)).2 hp
  have hMA : Asc lt M := by
    unfold Asc
    refine (hs.and hMp).imp ?_
    rintro a b ⟨h1, h2⟩
    exact h2.resolve_right (by rw [h1]; simp)
  exact Asc.unique h hMA (insAll_asc h hp) (hM.trans (insAll_perm L).symm)
end
end Go.Pl

/-
  DERIVED. Plain lists: frames and their text.
-/
namespace Go.Proofs.Ytdbjioanlkilkaa
set_option linter.unusedVariables false

/-! ## texts joined and cut at a sign -/
def joinL (c : UInt8) : List (List UInt8) → List UInt8
  | [] => []
  | [x] => x
  | x :: y :: l => x ++ c :: joinL c (y :: l)
def cutL (c : UInt8) : List UInt8 → List (List UInt8)
  | [] => [[]]
  | b :: l => if b = c then [] :: cutL c l else match cutL c l with
    | [] => [[b]]
    | x :: xs => (b :: x) :: xs
theorem cutL_ne (c : UInt8) : ∀ l, cutL c l ≠ []
  | [] => by simp [cutL]
  | b :: l => by
    unfold cutL
    split
    · simp
    · split <;> simp
theorem cutL_plain (c : UInt8) : ∀ {l : List UInt8}, c ∉ l → cutL c l = [l]
  | [], _ => rfl
  | b :: l, h => by
    simp only [List.mem_cons, not_or] at h
    unfold cutL
    rw [if_neg (fun e => h.1 e.symm), cutL_plain c h.2]
theorem cutL_app (c : UInt8) : ∀ {x : List UInt8} (l : List UInt8), c ∉ x → cutL c (x ++ c :: l) = x :: cutL c l
  | [], l, _ => by rw [List.nil_append, cutL, if_pos rfl]
  | b :: x, l, h => by
    simp only [List.mem_cons, not_or] at h
    rw [List.cons_append, cutL, if_neg (fun e => h.1 e.symm), cutL_app c l h.2]
theorem cutL_join (c : UInt8) : ∀ {L : List (List UInt8)}, L ≠ [] → (∀ x ∈ L, c ∉ x) → cutL c (joinL c L) = L
  | [x], _, h => by rw [joinL]; exact cutL_plain c (h x (by simp))
  | x :: y :: l, _, h => by
    rw [joinL, cutL_app c _ (h x (by simp)), cutL_join c (by simp) (fun z hz => h z (List.mem_cons_of_mem _ hz))]
theorem joinL_snoc (c : UInt8) : ∀ (L : List (List UInt8)) (x : List UInt8), joinL c (L ++ [x]) = if L = [] then x else joinL c L ++ c :: x
  | [], x => rfl
  | [y], x => by simp [joinL]
  | y :: z :: l, x => by
    have ih := joinL_snoc c (z :: l) x
    rw [if_neg (by simp)] at ih ⊢
    show joinL c (y :: z :: (l ++ [x])) = _
    rw [joinL, show z :: (l ++ [x]) = (z :: l) ++ [x] from rfl, ih, joinL]
    simp

/-! ## frames -/
def frOk (f : Frame) : Bool := nameOk f.name && decide (0 ≤ f.line) && decide (f.line ≤ 59)
theorem frOk_iff {f : Frame} : frOk f = true ↔ nameOk f.name = true ∧ 0 ≤ f.line ∧ f.line ≤ 59 := by simp [frOk, and_assoc]
def frTxt (f : Frame) : List UInt8 := f.name.data.toList ++ 58 :: fmtL f.line.toNat
def fmtF (L : List Frame) : ByteArray := if L.all frOk = true then bts (joinL 59 (L.map frTxt)) else ⟨#[]⟩
def partF (p : List UInt8) : Option Frame := match cutL 58 p with
  | [n, d] => Option.map (fun (v : Nat) => (⟨bts n, (v : Int)⟩ : Frame)) (parseU (bts d))
  | _ => none
def parseF (s : ByteArray) : Option (List Frame) := match (cutL 59 s.data.toList).mapM partF with
  | some L => if s.size ≠ 0 ∧ fmtF L = s then some L else none
  | none => none

theorem nameOk_letters {s : ByteArray} (h : nameOk s = true) : (∀ c ∈ s.data.toList, 97 ≤ c.toNat ∧ c.toNat ≤ 122) ∧ 1 ≤ s.size ∧ s.size ≤ 8 := by
  simp only [nameOk, Bool.and_eq_true, decide_eq_true_eq, List.all_eq_true] at h
  exact ⟨fun c hc => by have := h.1.1 c hc; simpa [letter] using this, h.1.2, h.2⟩
theorem decB_dig : ∀ (n k : Nat), k ≤ n → ∀ c ∈ decB k, 48 ≤ c.toNat ∧ c.toNat ≤ 57
  | 0, k, hk, c, hc => by
    have : k = 0 := by omega
    subst this; simp [decB] at hc
  | n + 1, k, hk, c, hc => by
    rcases Nat.eq_zero_or_pos k with h0 | h0
    · subst h0; simp [decB] at hc
    · rw [decB_pos k h0, List.mem_append] at hc
      rcases hc with hc | hc
      · exact decB_dig n (k / 10) (by omega) c hc
      · simp only [List.mem_cons, List.not_mem_nil, or_false] at hc
        subst hc
        have : (UInt8.ofNat (48 + k % 10)).toNat = 48 + k % 10 := by simp [UInt8.toNat_ofNat']; omega
        omega
theorem fmtL_dig (k : Nat) : ∀ c ∈ fmtL k, 48 ≤ c.toNat ∧ c.toNat ≤ 57 := by
  intro c hc
  unfold fmtL at hc
  split at hc
  · simp only [List.mem_cons, List.not_mem_nil, or_false] at hc; subst hc; decide
  · exact decB_dig k k (Nat.le_refl _) c hc
theorem fmtL_ne (k : Nat) : fmtL k ≠ [] := by
  unfold fmtL
  split
  · simp
  · rename_i h; rw [decB_pos k (by omega)]; simp
theorem decB_valL_id : ∀ (n k : Nat), k ≤ n → valL (decB k) = k
  | 0, k, hk => by
    have : k = 0 := by omega
    subst this; simp [decB, valL]
  | n + 1, k, hk => by
    rcases Nat.eq_zero_or_pos k with h0 | h0
    · subst h0; simp [decB, valL]
    · rw [decB_pos k h0, valL_snoc, decB_valL_id n (k / 10) (by omega)]
      have : (UInt8.ofNat (48 + k % 10)).toNat = 48 + k % 10 := by simp [UInt8.toNat_ofNat']; omega
      omega
theorem valL_fmtL (k : Nat) : valL (fmtL k) = k := by
  unfold fmtL
  split
  · rename_i h; subst h; simp [valL]
  · exact decB_valL_id k k (Nat.le_refl _)
theorem fmtL_len (n k : Nat) (h : k < 10 ^ n) (hn : 0 < n) : (fmtL k).length ≤ n := by
  unfold fmtL
  split
  · simp only [List.length_cons, List.length_nil]; omega
  · exact decB_len n k h
/-- a number's text is read as that number -/
theorem parseU_fmtL (k : Nat) (h : k ≤ 1000000000) : parseU (bts (fmtL k)) = some k := by
  have hd : (fmtL k).all dig = true := by
    rw [List.all_eq_true]
    intro c hc
    exact dig_iff.2 (fmtL_dig k c hc)
  have hl : (bts (fmtL k)).data.toList = fmtL k := by simp [bts]
  have hv : valN (bts (fmtL k)) (bts (fmtL k)).size = k := by rw [valN_all, hl, valL_fmtL]
  have hsz := bts_size (fmtL k)
  have hlen := fmtL_len 10 k (by omega) (by omega)
  have hne := fmtL_ne k
  have h1 := fmtL_valL (fmtL k) hd
  rw [valL_fmtL] at h1
  have h2 := h1.1 rfl
  unfold parseU
  rw [if_pos, hv]
  refine ⟨fun e => hne (List.eq_nil_of_length_eq_zero (by omega)), by omega, fun ⟨a, b⟩ => h2.2 ⟨by omega, ?_⟩, by rw [hl]; exact hd, by rw [hv]; exact h⟩
  have := head_get (bts (fmtL k)) (by omega)
  rw [hl, b] at this
  exact this
theorem frTxt_no59 {f : Frame} (h : frOk f = true) : (59 : UInt8) ∉ frTxt f := by
  intro hc
  obtain ⟨h1, _⟩ := frOk_iff.1 h
  unfold frTxt at hc
  rcases List.mem_append.1 hc with hc | hc
  · have := (nameOk_letters h1).1 _ hc
    have e : (59 : UInt8).toNat = 59 := rfl
    omega
  · rcases List.mem_cons.1 hc with hc | hc
    · exact absurd hc (by decide)
    · have := fmtL_dig _ _ hc
      have e : (59 : UInt8).toNat = 59 := rfl
      omega
theorem partF_txt {f : Frame} (h : frOk f = true) : partF (frTxt f) = some f := by
  obtain ⟨h1, h2, h3⟩ := frOk_iff.1 h
  have hn : (58 : UInt8) ∉ f.name.data.toList := fun hc => by
    have := (nameOk_letters h1).1 _ hc
    have e : (58 : UInt8).toNat = 58 := rfl
    omega
  have hd : (58 : UInt8) ∉ fmtL f.line.toNat := fun hc => by
    have := fmtL_dig _ _ hc
    have e : (58 : UInt8).toNat = 58 := rfl
    omega
  unfold partF frTxt
  rw [cutL_app 58 _ hn, cutL_plain 58 hd]
  simp only
  rw [parseU_fmtL _ (by omega), bts_list]
  obtain ⟨name, line⟩ := f
  simp only at h2 ⊢
  rw [Option.map_some]
  congr 2
  omega
theorem mapM_partF : ∀ {L : List Frame}, L.all frOk = true → (L.map frTxt).mapM partF = some L
  | [], _ => rfl
  | f :: L, h => by
    simp only [List.all_cons, Bool.and_eq_true] at h
    simp [partF_txt h.1, mapM_partF h.2]
theorem frTxt_len {f : Frame} (h : frOk f = true) : 3 ≤ (frTxt f).length ∧ (frTxt f).length ≤ 11 := by
  obtain ⟨h1, h2, h3⟩ := frOk_iff.1 h
  have hn := nameOk_letters h1
  have hl := fmtL_len 2 f.line.toNat (by omega) (by omega)
  have hp := List.length_pos_iff.2 (fmtL_ne f.line.toNat)
  unfold frTxt
  have : f.name.data.toList.length = f.name.size := by simp
  simp only [List.length_append, List.length_cons]
  omega
theorem joinL_len : ∀ (L : List (List UInt8)) (n : Nat), (∀ x ∈ L, x.length ≤ n) → (joinL 59 L).length ≤ (n + 1) * L.length
  | [], n, _ => by simp [joinL]
  | [x], n, h => by have := h x (by simp); simp only [joinL, List.length_cons, List.length_nil]; omega
  | x :: y :: l, n, h => by
    have ih := joinL_len (y :: l) n fun z hz => h z (List.mem_cons_of_mem _ hz)
    have := h x (by simp)
    simp only [joinL, List.length_append, List.length_cons] at ih ⊢
    have e : (n + 1) * (l.length + 1 + 1) = (n + 1) * (l.length + 1) + (n + 1) := by rw [Nat.mul_add]; omega
    omega
theorem fmtF_size (L : List Frame) : (fmtF L).size ≤ 12 * L.length := by
  unfold fmtF
  split
  · rename_i h
    rw [bts_size]
    have := joinL_len (L.map frTxt) 11 (fun x hx => by
      obtain ⟨f, hf, rfl⟩ := List.mem_map.1 hx
      exact (frTxt_len (List.all_eq_true.1 h f hf)).2)
    simpa using this
  · simp [ByteArray.size]
theorem fmtF_ne {L : List Frame} (h : L.all frOk = true) (hne : L ≠ []) : (fmtF L).size ≠ 0 := by
  unfold fmtF
  rw [if_pos h, bts_size]
  match L, hne with
  | [f], _ =>
    have := (frTxt_len (f := f) (by simpa using h)).1
    simp only [List.map_cons, List.map_nil, joinL]; omega
  | f :: g :: l, _ => simp [joinL]
/-- what is written is read -/
theorem parseF_fmtF {L : List Frame} (h : L.all frOk = true) (hne : L ≠ []) : parseF (fmtF L) = some L := by
  have e : fmtF L = bts (joinL 59 (L.map frTxt)) := by unfold fmtF; rw [if_pos h]
  have hl : (fmtF L).data.toList = joinL 59 (L.map frTxt) := by rw [e]; simp [bts]
  unfold parseF
  rw [hl, cutL_join 59 (by simpa using hne) (fun x hx => by
    obtain ⟨f, hf, rfl⟩ := List.mem_map.1 hx
    exact frTxt_no59 (List.all_eq_true.1 h f hf)), mapM_partF h]
  simp only
  rw [if_pos ⟨fmtF_ne h hne, by first | rfl | trivial⟩]
/-- what is read is frames' text -/
theorem parseF_some {s : ByteArray} {L : List Frame} (h : parseF s = some L) : fmtF L = s ∧ L ≠ [] ∧ L.all frOk = true := by
  unfold parseF at h
  split at h
  · rename_i M hM
    split at h
    · rename_i h2
      cases h
      refine ⟨h2.2, fun e => ?_, ?_⟩
      · subst e
        have := h2.2
        simp only [fmtF, List.all_nil, List.map_nil, joinL, if_true] at this
        exact h2.1 (by rw [← this]; rfl)
      · by_cases ha : L.all frOk = true
        · exact ha
        · have := h2.2
          unfold fmtF at this
          rw [if_neg ha] at this
          exact absurd (by rw [← this]; rfl) h2.1
    · cases h
  · cases h
theorem fmtF_inj {L M : List Frame} (hL : L.all frOk = true) (hM : M.all frOk = true) (hl : L ≠ []) (hm : M ≠ []) (h : fmtF L = fmtF M) : L = M := by
  have h1 := parseF_fmtF hL hl
  rw [h, parseF_fmtF hM hm] at h1
  exact (Option.some.inj h1).symm
end Go.Proofs.Ytdbjioanlkilkaa

/-
  DERIVED. Plain lists: interned stacks and profiles.
-/
namespace Go.Proofs.Ytdbjioanlkilkaa
set_option linter.unusedVariables false
open Go.Pl

def nodeFr (x : Node) : Frame := ⟨x.name, x.line⟩
def mkNode (p : Int) (f : Frame) : Node := ⟨p, f.name, f.line⟩

def stNode (N : List Node) (k : Nat) (x : Node) : Bool := decide (-1 ≤ x.parent) && decide (x.parent ≤ (k : Int) - 1) && frOk (nodeFr x) && (N.take k).all fun y => decide (y ≠ x)
theorem stNode_iff {N : List Node} {k : Nat} {x : Node} : stNode N k x = true ↔ -1 ≤ x.parent ∧ x.parent ≤ (k : Int) - 1 ∧ frOk (nodeFr x) = true ∧ ∀ y ∈ N.take k, y ≠ x := by
  simp [stNode, and_assoc]
def stacksOk (N : List Node) : Bool := decide (∀ k (h : k < N.length), stNode N k N[k] = true)
theorem stacksOk_at {N : List Node} (h : stacksOk N = true) (k : Nat) (hk : k < N.length) : stNode N k N[k] = true := by
  unfold stacksOk at h
  exact of_decide_eq_true h k hk
theorem stacksOk_bad {N : List Node} {k : Nat} (hk : k < N.length) (h : stNode N k N[k] = false) : stacksOk N = false := by
  cases hs : stacksOk N with
  | false => rfl
  | true => rw [stacksOk_at hs k hk] at h; cases h
theorem stacksOk_all {N : List Node} (h : ∀ k (h : k < N.length), stNode N k N[k] = true) : stacksOk N = true := by
  unfold stacksOk
  exact decide_eq_true h
theorem stNode_dup {N : List Node} {k i : Nat} (hk : k < N.length) (hi : i < k) (h : N[i]'(by omega) = N[k]) : stNode N k N[k] = false := by
  cases hs : stNode N k N[k] with
  | false => rfl
  | true => exact absurd h ((stNode_iff.1 hs).2.2.2 _ (by
      rw [List.mem_take_iff_getElem]
      exact ⟨i, by omega, rfl⟩))
theorem stNode_ok {N : List Node} {k : Nat} {x : Node} (h1 : -1 ≤ x.parent) (h2 : x.parent ≤ (k : Int) - 1) (h3 : frOk (nodeFr x) = true) (h4 : ∀ i (hi : i < N.length), i < k → N[i] ≠ x) : stNode N k x = true := by
  refine stNode_iff.2 ⟨h1, h2, h3, fun y hy => ?_⟩
  rw [List.mem_take_iff_getElem] at hy
  obtain ⟨i, hi, rfl⟩ := hy
  exact h4 i (by omega) (by omega)

/-! ## child, stack -/
def hitNode (p : Int) (f : Frame) (x : Node) : Bool := decide (x.parent = p) && decide (nodeFr x = f)
def child (N : List Node) (p : Int) (f : Frame) : Int := firstIdx (hitNode p f) N
theorem firstIdx_bound {α : Type} (p : α → Bool) (L : List α) : -1 ≤ firstIdx p L ∧ firstIdx p L < L.length ∨ firstIdx p L = -1 := by
  unfold firstIdx
  split
  · rename_i i h
    have := (List.findIdx?_eq_some_iff_getElem.1 h).1
    left; omega
  · right; rfl
theorem child_bound (N : List Node) (p : Int) (f : Frame) : -1 ≤ child N p f ∧ child N p f < N.length := by
  have := firstIdx_bound (hitNode p f) N
  unfold child
  omega
def upF (N : List Node) : Nat → Int → List Frame
  | 0, _ => []
  | n + 1, k => if k < 0 then [] else match N[k.toNat]? with
    | some x => nodeFr x :: upF N n x.parent
    | none => []
def stackAt (N : List Node) (k : Int) : List Frame := if stacksOk N = true ∧ 0 ≤ k ∧ k < N.length then (upF N (k.toNat + 1) k).reverse else []
theorem upF_len (N : List Node) : ∀ f k, (upF N f k).length ≤ f
  | 0, _ => by simp [upF]
  | f + 1, k => by
    rw [upF]
    split
    · simp
    · split
      · rename_i x _
        have := upF_len N f x.parent
        simp only [List.length_cons]; omega
      · simp
theorem upF_neg (N : List Node) (f : Nat) (k : Int) (h : k < 0) : upF N f k = [] := by
  cases f with
  | zero => rfl
  | succ f => rw [upF, if_pos h]
theorem upF_pos (N : List Node) (f q : Nat) (h : q < N.length) (hf : q < f) : upF N f q = nodeFr N[q] :: upF N (f - 1) N[q].parent := by
  obtain ⟨f, rfl⟩ : ∃ g, f = g + 1 := ⟨f - 1, by omega⟩
  rw [upF, if_neg (by omega), Int.toNat_natCast, List.getElem?_eq_getElem h]
  rfl
theorem stackAt_len (N : List Node) (k : Int) : (stackAt N k).length ≤ N.length := by
  unfold stackAt
  split
  · rw [List.length_reverse]; have := upF_len N (k.toNat + 1) k; omega
  · simp
/-- enough fuel is enough -/
theorem upF_fuel {N : List Node} (hok : stacksOk N = true) : ∀ (n f g q : Nat), q < n → q < N.length → q < f → q < g → upF N f q = upF N g q
  | 0, f, g, q, h, _, _, _ => by omega
  | n + 1, f, g, q, h, hq, hf, hg => by
    rw [upF_pos N f q hq hf, upF_pos N g q hq hg]
    congr 1
    have hn := stNode_iff.1 (stacksOk_at hok q hq)
    rcases Int.lt_or_le N[q].parent 0 with h0 | h0
    · rw [upF_neg _ _ _ h0, upF_neg _ _ _ h0]
    · obtain ⟨r, hr⟩ := Int.eq_ofNat_of_zero_le h0
      rw [hr] at hn ⊢
      exact upF_fuel hok n (f - 1) (g - 1) r (by omega) (by omega) (by omega) (by omega)
theorem upF_ok {N : List Node} (hok : stacksOk N = true) : ∀ (f : Nat) (k : Int), k < N.length → (upF N f k).all frOk = true
  | 0, _, _ => rfl
  | f + 1, k, hk => by
    rcases Int.lt_or_le k 0 with h0 | h0
    · rw [upF_neg _ _ _ h0]; rfl
    · obtain ⟨q, rfl⟩ := Int.eq_ofNat_of_zero_le h0
      have hq : q < N.length := by omega
      have hn := stNode_iff.1 (stacksOk_at hok q hq)
      rw [upF, if_neg (by omega), Int.toNat_natCast, List.getElem?_eq_getElem hq]
      simp only [List.all_cons, Bool.and_eq_true]
      exact ⟨hn.2.2.1, upF_ok hok f _ (by omega)⟩
theorem stackAt_ok (N : List Node) (k : Int) : (stackAt N k).all frOk = true := by
  unfold stackAt
  split
  · rename_i h; rw [List.all_reverse]; exact upF_ok h.1 _ _ h.2.2
  · rfl
theorem stackAt_ne {N : List Node} (hok : stacksOk N = true) (q : Nat) (hq : q < N.length) : stackAt N q ≠ [] := by
  unfold stackAt
  rw [if_pos ⟨hok, by omega, by omega⟩, Int.toNat_natCast, upF_pos N (q + 1) q hq (by omega)]
  simp
/-- two nodes of one stack are one node -/
theorem upF_inj {N : List Node} (hok : stacksOk N = true) : ∀ (n j k f g : Nat), j < n → j < N.length → k < N.length → j < f → k < g → upF N f j = upF N g k → j = k
  | 0, j, k, f, g, h, _, _, _, _, _ => by omega
  | n + 1, j, k, f, g, h, hj, hk, hf, hg, he => by
    rw [upF_pos N f j hj hf, upF_pos N g k hk hg] at he
    have h1 := (List.cons.inj he).1
    have h2 := (List.cons.inj he).2
    have nj := stNode_iff.1 (stacksOk_at hok j hj)
    have nk := stNode_iff.1 (stacksOk_at hok k hk)
    have hp : N[j].parent = N[k].parent := by
      rcases Int.lt_or_le N[j].parent 0 with a | a <;> rcases Int.lt_or_le N[k].parent 0 with b | b
      · omega
      · obtain ⟨r, hr⟩ := Int.eq_ofNat_of_zero_le b
        rw [upF_neg _ _ _ a, hr, upF_pos N (g - 1) r (by omega) (by omega)] at h2
        cases h2
      · obtain ⟨r, hr⟩ := Int.eq_ofNat_of_zero_le a
        rw [upF_neg _ _ _ b, hr, upF_pos N (f - 1) r (by omega) (by omega)] at h2
        cases h2
      · obtain ⟨r, hr⟩ := Int.eq_ofNat_of_zero_le a
        obtain ⟨s, hs⟩ := Int.eq_ofNat_of_zero_le b
        rw [hr, hs] at h2
        have := upF_inj hok n r s (f - 1) (g - 1) (by omega) (by omega) (by omega) (by omega) (by omega) h2
        omega
    have hxy : N[j] = N[k] := by
      have : ∀ x y : Node, nodeFr x = nodeFr y → x.parent = y.parent → x = y := by
        rintro ⟨a, b, c⟩ ⟨d, e, g⟩ h1 h2
        simp only [nodeFr, Frame.mk.injEq] at h1 h2
        obtain ⟨rfl, rfl⟩ := h1
        have h2 : a = d := h2
        rw [h2]
      exact this _ _ h1 hp
    rcases Nat.lt_trichotomy j k with hlt | heq | hgt
    · have := stNode_dup hk hlt hxy; rw [stacksOk_at hok k hk] at this; cases this
    · exact heq
    · have := stNode_dup hj hgt hxy.symm; rw [stacksOk_at hok j hj] at this; cases this
theorem stackAt_inj {N : List Node} (hok : stacksOk N = true) {j k : Nat} (hj : j < N.length) (hk : k < N.length) (h : stackAt N j = stackAt N k) : j = k := by
  unfold stackAt at h
  rw [if_pos ⟨hok, by omega, by omega⟩, if_pos ⟨hok, by omega, by omega⟩, Int.toNat_natCast, Int.toNat_natCast] at h
  exact upF_inj hok (j + 1) j k _ _ (by omega) hj hk (by omega) (by omega) (List.reverse_inj.1 h)

/-! ## interning -/
def intGo : List Frame → List Node × Int → List Node × Int
  | [], s => s
  | f :: L, s => intGo L (if child s.1 s.2 f < 0 then (s.1 ++ [mkNode s.2 f], (s.1.length : Int)) else (s.1, child s.1 s.2 f))
def intern (N : List Node) (L : List Frame) : List Node × Int := if stacksOk N = true ∧ L ≠ [] ∧ L.all frOk = true then intGo L (N, -1) else (N, -1)
theorem intGo_len : ∀ (L : List Frame) (s : List Node × Int), s.1.length ≤ (intGo L s).1.length ∧ (intGo L s).1.length ≤ s.1.length + L.length
  | [], s => by simp [intGo]
  | f :: L, s => by
    have := intGo_len L (if child s.1 s.2 f < 0 then (s.1 ++ [mkNode s.2 f], (s.1.length : Int)) else (s.1, child s.1 s.2 f))
    rw [intGo]
    simp only [List.length_cons]
    split at this
    · rename_i h; rw [if_pos h]; simp only [List.length_append, List.length_cons, List.length_nil] at this; omega
    · rename_i h; rw [if_neg h]; simp only at this; omega
theorem intGo_at : ∀ (L : List Frame) (s : List Node × Int), (L = [] → 0 ≤ s.2 ∧ s.2 < s.1.length) → 0 ≤ (intGo L s).2 ∧ (intGo L s).2 < (intGo L s).1.length
  | [], s, h => h rfl
  | f :: L, s, h => by
    rw [intGo]
    refine intGo_at L _ fun _ => ?_
    have := child_bound s.1 s.2 f
    split
    · simp only [List.length_append, List.length_cons, List.length_nil]; omega
    · simp only; omega
theorem intern_len (N : List Node) (L : List Frame) : N.length ≤ (intern N L).1.length ∧ (intern N L).1.length ≤ N.length + L.length := by
  unfold intern
  split
  · have := intGo_len L (N, -1); simpa using this
  · simp only; omega
theorem intern_at (N : List Node) (L : List Frame) : (intern N L).2 = -1 ∨ (0 ≤ (intern N L).2 ∧ (intern N L).2 < (intern N L).1.length) := by
  unfold intern
  split
  · rename_i h
    right
    exact intGo_at L (N, -1) fun e => absurd e h.2.1
  · left; rfl
theorem intGo_names {B : Nat} : ∀ (L : List Frame) (s : List Node × Int), (∀ x ∈ s.1, x.name.size ≤ B) → (∀ f ∈ L, f.name.size ≤ B) → ∀ x ∈ (intGo L s).1, x.name.size ≤ B
  | [], s, h, _ => h
  | f :: L, s, h, hL => by
    rw [intGo]
    refine intGo_names L _ ?_ fun g hg => hL g (List.mem_cons_of_mem _ hg)
    split
    · intro x hx
      rcases List.mem_append.1 hx with hx | hx
      · exact h x hx
      · simp only [List.mem_cons, List.not_mem_nil, or_false] at hx
        subst hx
        exact hL f List.mem_cons_self
    · exact h
theorem intern_names {B : Nat} {N : List Node} {L : List Frame} (h : ∀ x ∈ N, x.name.size ≤ B) (hL : ∀ f ∈ L, f.name.size ≤ B) : ∀ x ∈ (intern N L).1, x.name.size ≤ B := by
  unfold intern
  split
  · exact intGo_names L _ h hL
  · exact h

/-! ## profiles -/
def MaxC : Int := 1000000000000
def cntOk (C : List Int) : Bool := decide (∀ k (h : k < C.length), 0 ≤ C[k] ∧ C[k] ≤ 1000000000000 - (C.take k).sum)
def profileOk (N : List Node) (C : List Int) : Bool := stacksOk N && decide (C.length = N.length) && cntOk C
theorem cntOk_at {C : List Int} (h : cntOk C = true) (k : Nat) (hk : k < C.length) : 0 ≤ C[k] ∧ C[k] ≤ 1000000000000 - (C.take k).sum := by
  unfold cntOk at h
  exact of_decide_eq_true h k hk
theorem take_sum (C : List Int) (k : Nat) (hk : k < C.length) : (C.take (k + 1)).sum = (C.take k).sum + C[k] := by
  rw [List.take_succ_eq_append_getElem hk, List.sum_append]; simp
theorem cntOk_sum {C : List Int} (h : ∀ j (hj : j < C.length), 0 ≤ C[j] ∧ C[j] ≤ 1000000000000 - (C.take j).sum) : ∀ k, k ≤ C.length → 0 ≤ (C.take k).sum ∧ (C.take k).sum ≤ 1000000000000
  | 0, _ => by simp
  | k + 1, hk => by
    have ih := cntOk_sum h k (by omega)
    have := h k (by omega)
    rw [take_sum C k (by omega)]; omega
theorem profileOk_iff {N : List Node} {C : List Int} : profileOk N C = true ↔ stacksOk N = true ∧ C.length = N.length ∧ cntOk C = true := by
  simp [profileOk, and_assoc]
def totalOf (N : List Node) (C : List Int) : Int := if profileOk N C = true then C.sum else 0
theorem profileOk_sum {N : List Node} {C : List Int} (h : profileOk N C = true) (k : Nat) (hk : k ≤ C.length) : 0 ≤ (C.take k).sum ∧ (C.take k).sum ≤ 1000000000000 :=
  cntOk_sum (fun j hj => cntOk_at (profileOk_iff.1 h).2.2 j hj) k hk
def addC (C : List Int) (m : Nat) (k : Nat) (n : Int) : List Int := (C ++ List.replicate (m - C.length) 0).set k ((C ++ List.replicate (m - C.length) 0).getD k 0 + n)
def addStack (N : List Node) (C : List Int) (L : List Frame) (n : Int) : (List Node × List Int) × Bool :=
  if profileOk N C = true ∧ 0 ≤ n ∧ n ≤ 1000000000000 ∧ 0 ≤ (intern N L).2 ∧ profileOk (intern N L).1 (addC C (intern N L).1.length (intern N L).2.toNat n) = true
  then (((intern N L).1, addC C (intern N L).1.length (intern N L).2.toNat n), true) else ((N, C), false)

end Go.Proofs.Ytdbjioanlkilkaa

namespace Go.Proofs.Ytdbjioanlkilkaa
open Go.Vc
attribute [local go_sem] St.runR St.runW St.stepV offV St.step St.stepU St.stepG mkCond guardB St.prK St.pr St.prLen St.eff St.callE St.callD St.callF St.callL aI aB aS aR aC St.isM St.argL Ctr.pure Ctr.lend Ctr.move Ctr.isL Ctr.wri pur len lentBy St.lentV St.lent1 nthS argsR restOf obsR pairs swapL unObs backL St.resL erL SV.ren1 SV.up SV.up2 Ob.up St.fzL cellIds partIds St.intoRow SV.ownId St.fz SV.fz1 St.prep St.mvL St.mv SV.re1 rnOk St.prEq vals eqCells scEq Value.kd St.prStr St.prCut cutR St.bnd St.prMin St.bld isShift outL retL outJ oR oC oE oD SV.upq SV.isSl SV.shut St.ev St.get St.put St.new St.kill SV.kill SV.kill1 Ob.kill St.app St.wrt St.rowsOf St.res St.killL lk er argsL SV.strip SV.need SV.share SV.share1 SV.owns SV.owns1 SV.owns2 SV.good SV.good1 SV.rok SV.rok1 SV.rok2 SV.isV SV.isV2 nodupN SV.cells SV.one SV.pur Ob.pb partsIn rowsIn splice cellsAt dstOk scal2 scal1 thenK blockK retK outK outs okC okL okA okT nilC nilL nilA nilT keepC keepL keepA keepT St.runG St.dltK St.least St.clean St.final St.hide offK badS badO SV.refs SV.leaf SV.leaf2 Ob.refs dlOk fpAt Go.Vc.cover tups SV.ofAgg St.out outC subL St.has rng wr Value.oneCell' Option.isSome_some Option.isSome_none List.nil_append Bool.false_eq_true List.map_cons List.map_nil List.all_cons List.all_nil List.length_cons List.length_nil List.drop_zero List.drop_succ_cons List.take_succ_cons List.take_zero List.drop_nil List.take_nil List.getElem?_cons_zero List.getElem?_cons_succ List.getElem?_nil List.cons_append List.nil_append List.append_nil List.append_assoc List.flatMap_cons List.flatMap_nil List.contains_cons List.contains_nil List.set_cons_zero List.set_cons_succ List.getElem?_toArray Option.getD_some Option.getD_none Option.map_some Option.map_none Option.bind_some Option.some.injEq Prod.mk.injEq if_true if_false true_and and_true and_self and_false false_and Bool.and_false Bool.false_and Bool.or_true Bool.true_or Bool.or_false Bool.false_or ne_eq not_true_eq_false not_false_eq_true decide_true decide_false List.mem_cons List.not_mem_nil List.filter_cons List.filter_nil List.any_cons List.any_nil List.isEmpty_nil List.isEmpty_cons Option.getD_none or_false false_or true_or or_true forall_eq_or_imp forall_eq reduceCtorEq exists_eq exists_eq' exists_eq_left' exists_eq_left exists_eq_right exists_eq_right' imp_self implies_true Bool.and_true Bool.true_and Bool.and_self beq_self_eq_true List.replicate_succ List.replicate_zero forall_const false_implies pickB_or pickB_and beqT beqF Int.toNat_natCast List.length_map List.length_replicate ge_iff_le gt_iff_lt decide_eq_true_eq decide_eq_false_iff_not Bool.and_eq_true Bool.or_eq_true Bool.not_eq_true' Bool.not_eq_false' condG List.toList_toArray Bool.or_eq_false_iff Bool.and_eq_false_iff Int.not_lt Int.not_le beq_iff_eq beq_eq_false_iff_ne bne_iff_ne bne_eq_false_iff_eq ne_eq Bool.not_true Bool.not_false exists_and_left
section
open Go.Vc
set_option linter.unusedSimpArgs false
set_option linter.unusedVariables false
set_option maxHeartbeats 1000000
attribute [local irreducible] Go.Vc.WP
attribute [local go_sem] cx0_t cx0_c

structure Entry where
  stack : ByteArray
  count : Int
deriving DecidableEq
def encEntry (x : Entry) : List SV := [.v (.string x.stack), .v (.int .i64 x.count)]
def oneEntry : List SV → Entry
  | [.v (.string stack), .v (.int _ count)] => ⟨stack, count⟩
  | _ => ⟨⟨#[]⟩, 0⟩
def decEntry (rows : List (List SV)) : List Entry := rows.map oneEntry
theorem oneEntry_enc (x : Entry) : oneEntry (encEntry x) = x := rfl
theorem decEntry_enc (L : List Entry) : decEntry (L.map encEntry) = L := by
  unfold decEntry
  rw [List.map_map]
  exact List.map_id'' oneEntry_enc L
theorem isV_Entry {e s : Nat} (L : List Entry) : (Ob.sl e s (L.map encEntry)).isV ↔ True := iff_true_intro (by
  intro row hr c hc
  obtain ⟨n, _, rfl⟩ := List.mem_map.1 hr
  simp only [encEntry, List.mem_cons, List.not_mem_nil, or_false] at hc
  rcases hc with rfl | rfl <;> exact ⟨_, rfl⟩)
def zerEntry : List SV := [.v (.string ⟨#[]⟩), .v (.int .i64 0)]

def keqEntry : Ctr := pur (fun args => (oneEntry (aC args 0), oneEntry (aC args 1))) (fun x => [.agg (encEntry x.1), .agg (encEntry x.2)]) (fun _ => True) (fun _ x => .v (.bool (decide (x.1 = x.2)))) (fun _ _ => [])
end
end Go.Proofs.Ytdbjioanlkilkaa
/-
  DERIVED. Plain lists: a profile's entries, and a profile of entries.
-/
namespace Go.Proofs.Ytdbjioanlkilkaa
set_option linter.unusedVariables false
open Go.Pl

def ltE (a b : Entry) : Bool := ltS a.stack b.stack
theorem ltE_strict : Strict ltE := ⟨fun a => ltS_irrefl _, fun a b c h1 h2 => ltS_trans h1 h2⟩
theorem ltE_ne {a b : Entry} (h : a.stack ≠ b.stack) : ltE a b = true ∨ ltE b a = true := by
  cases h1 : ltE a b with
  | true => exact .inl rfl
  | false => exact .inr (ltS_gt h1 h)
/-- entry k, if it counts -/
def entAt (N : List Node) (C : List Int) (k : Nat) : Option Entry := if C.getD k 0 = 0 then none else some ⟨fmtF (stackAt N k), C.getD k 0⟩
def rawE (N : List Node) (C : List Int) (n : Nat) : List Entry := (List.range n).filterMap (entAt N C)
theorem rawE_zero (N : List Node) (C : List Int) : rawE N C 0 = [] := rfl
theorem rawE_succ (N : List Node) (C : List Int) (n : Nat) : rawE N C (n + 1) = rawE N C n ++ (entAt N C n).toList := by
  unfold rawE
  rw [List.range_succ, List.filterMap_append, List.filterMap_cons, List.filterMap_nil]
  cases entAt N C n <;> rfl
theorem rawE_len (N : List Node) (C : List Int) (n : Nat) : (rawE N C n).length ≤ n := by
  have := List.length_filterMap_le (entAt N C) (List.range n)
  simpa [rawE] using this
theorem rawE_mem {N : List Node} {C : List Int} {n : Nat} {x : Entry} (h : x ∈ rawE N C n) : ∃ k, k < n ∧ C.getD k 0 ≠ 0 ∧ x = ⟨fmtF (stackAt N k), C.getD k 0⟩ := by
  unfold rawE at h
  obtain ⟨k, hk, he⟩ := List.mem_filterMap.1 h
  unfold entAt at he
  split at he
  · cases he
  · rename_i h0
    exact ⟨k, by simpa using hk, h0, (Option.some.inj he).symm⟩
/-- no two entries have one stack -/
theorem rawE_apart {N : List Node} (hok : stacksOk N = true) (C : List Int) : ∀ n, n ≤ N.length → (rawE N C n).Pairwise fun a b => a.stack ≠ b.stack
  | 0, _ => List.Pairwise.nil
  | n + 1, hn => by
    rw [rawE_succ, List.pairwise_append]
    refine ⟨rawE_apart hok C n (by omega), ?_, fun a ha b hb => ?_⟩
    · cases entAt N C n <;> simp
    · obtain ⟨k, hk, _, rfl⟩ := rawE_mem ha
      have : b = ⟨fmtF (stackAt N n), C.getD n 0⟩ := by
        unfold entAt at hb
        split at hb
        · simp at hb
        · simpa using hb
      subst this
      intro e
      have h1 := fmtF_inj (stackAt_ok N k) (stackAt_ok N n) (stackAt_ne hok k (by omega)) (stackAt_ne hok n (by omega)) e
      have := stackAt_inj hok (by omega) (by omega) h1
      omega
theorem rawE_pair {N : List Node} (hok : stacksOk N = true) (C : List Int) (n : Nat) (hn : n ≤ N.length) : (rawE N C n).Pairwise fun a b => ltE a b = true ∨ ltE b a = true :=
  (rawE_apart hok C n hn).imp fun h => ltE_ne h
def entriesOf (N : List Node) (C : List Int) : List Entry := if profileOk N C = true then insAll ltE (rawE N C C.length) else []
theorem entriesOf_len (N : List Node) (C : List Int) : (entriesOf N C).length ≤ C.length := by
  unfold entriesOf
  split
  · rw [insAll_len]; exact rawE_len N C C.length
  · simp
/-- what an entry of a profile is -/
theorem entriesOf_mem {N : List Node} {C : List Int} {x : Entry} (h : x ∈ entriesOf N C) : profileOk N C = true ∧ ∃ k : Nat, k < N.length ∧ x.stack = fmtF (stackAt N k) ∧ C[k]? = some x.count ∧ 0 < x.count ∧ x.count ≤ 1000000000000 := by
  unfold entriesOf at h
  split at h
  · rename_i hp
    have hp' := profileOk_iff.1 hp
    obtain ⟨k, hk, h0, rfl⟩ := rawE_mem (insAll_mem.1 h)
    have hg : C.getD k 0 = C[k] := by rw [List.getD_eq_getElem?_getD, List.getElem?_eq_getElem hk]; rfl
    have hc := cntOk_at hp'.2.2 k hk
    have hs := profileOk_sum hp k (by omega)
    simp only [hg] at h0 ⊢
    exact ⟨hp, k, by omega, rfl, List.getElem?_eq_getElem hk, by omega, by omega⟩
  · cases h
theorem entriesOf_size {N : List Node} {C : List Int} {x : Entry} (h : x ∈ entriesOf N C) : x.stack.size ≤ 12 * N.length := by
  obtain ⟨_, k, _, hs, _⟩ := entriesOf_mem h
  have h1 := fmtF_size (stackAt N k)
  have h2 := stackAt_len N k
  rw [hs]
  have := Nat.mul_le_mul_left 12 h2
  omega
/-- .. is read again -/
theorem entriesOf_parse {N : List Node} {C : List Int} {x : Entry} (h : x ∈ entriesOf N C) : ∃ k : Nat, k < N.length ∧ x.stack = fmtF (stackAt N k) ∧ parseF x.stack = some (stackAt N k) ∧ stackAt N k ≠ [] := by
  obtain ⟨hp, k, hk, hs, _⟩ := entriesOf_mem h
  have hok := (profileOk_iff.1 hp).1
  refine ⟨k, hk, hs, ?_, stackAt_ne hok k hk⟩
  rw [hs]
  exact parseF_fmtF (stackAt_ok N k) (stackAt_ne hok k hk)

def profGo : List Entry → List Node × List Int → Option (List Node × List Int)
  | [], s => some s
  | e :: l, s => match parseF e.stack with
    | some f => if (addStack s.1 s.2 f e.count).2 = true then profGo l (addStack s.1 s.2 f e.count).1 else none
    | none => none
def profileOf (L : List Entry) : Option (List Node × List Int) := profGo L ([], [])
theorem profGo_no {e : Entry} {l : List Entry} {s : List Node × List Int} (h : parseF e.stack = none) : profGo (e :: l) s = none := by rw [profGo, h]
theorem profGo_bad {e : Entry} {l : List Entry} {s : List Node × List Int} {f : List Frame} (h : parseF e.stack = some f) (hb : (addStack s.1 s.2 f e.count).2 = false) : profGo (e :: l) s = none := by
  rw [profGo, h]; simp only; rw [hb]; rfl
theorem profGo_ok {e : Entry} {l : List Entry} {s : List Node × List Int} {f : List Frame} (h : parseF e.stack = some f) (hb : (addStack s.1 s.2 f e.count).2 = true) : profGo (e :: l) s = profGo l (addStack s.1 s.2 f e.count).1 := by
  rw [profGo, h]; simp only; rw [if_pos hb]
theorem addStack_ok {N : List Node} {C : List Int} {L : List Frame} {n : Int} (h : (addStack N C L n).2 = true) : profileOk (addStack N C L n).1.1 (addStack N C L n).1.2 = true := by
  unfold addStack at h ⊢
  split
  · rename_i hh; exact hh.2.2.2.2
  · rename_i hh; rw [if_neg hh] at h; cases h
theorem addStack_no {N : List Node} {C : List Int} {L : List Frame} {n : Int} (h : (addStack N C L n).2 = false) : (addStack N C L n).1 = (N, C) := by
  unfold addStack at h ⊢
  split
  · rename_i hh; rw [if_pos hh] at h; cases h
  · rfl
theorem addC_len (C : List Int) (m k : Nat) (n : Int) : (addC C m k n).length = max C.length m := by
  simp [addC]; omega
theorem addStack_len (N : List Node) (C : List Int) (L : List Frame) (n : Int) : (addStack N C L n).1.1.length ≤ N.length + L.length ∧ (addStack N C L n).1.2.length ≤ max C.length (N.length + L.length) := by
  have := intern_len N L
  unfold addStack
  split
  · simp only [addC_len]; omega
  · simp only; omega
theorem addStack_names {B : Nat} {N : List Node} {C : List Int} {L : List Frame} {n : Int} (h : ∀ x ∈ N, x.name.size ≤ B) (hL : ∀ f ∈ L, f.name.size ≤ B) : ∀ x ∈ (addStack N C L n).1.1, x.name.size ≤ B := by
  unfold addStack
  split
  · exact intern_names h hL
  · exact h
end Go.Proofs.Ytdbjioanlkilkaa

namespace Go.Proofs.Ytdbjioanlkilkaa
open Go.Vc
attribute [local go_sem] St.runR St.runW St.stepV offV St.step St.stepU St.stepG mkCond guardB St.prK St.pr St.prLen St.eff St.callE St.callD St.callF St.callL aI aB aS aR aC St.isM St.argL Ctr.pure Ctr.lend Ctr.move Ctr.isL Ctr.wri pur len lentBy St.lentV St.lent1 nthS argsR restOf obsR pairs swapL unObs backL St.resL erL SV.ren1 SV.up SV.up2 Ob.up St.fzL cellIds partIds St.intoRow SV.ownId St.fz SV.fz1 St.prep St.mvL St.mv SV.re1 rnOk St.prEq vals eqCells scEq Value.kd St.prStr St.prCut cutR St.bnd St.prMin St.bld isShift outL retL outJ oR oC oE oD SV.upq SV.isSl SV.shut St.ev St.get St.put St.new St.kill SV.kill SV.kill1 Ob.kill St.app St.wrt St.rowsOf St.res St.killL lk er argsL SV.strip SV.need SV.share SV.share1 SV.owns SV.owns1 SV.owns2 SV.good SV.good1 SV.rok SV.rok1 SV.rok2 SV.isV SV.isV2 nodupN SV.cells SV.one SV.pur Ob.pb partsIn rowsIn splice cellsAt dstOk scal2 scal1 thenK blockK retK outK outs okC okL okA okT nilC nilL nilA nilT keepC keepL keepA keepT St.runG St.dltK St.least St.clean St.final St.hide offK badS badO SV.refs SV.leaf SV.leaf2 Ob.refs dlOk fpAt Go.Vc.cover tups SV.ofAgg St.out outC subL St.has rng wr Value.oneCell' Option.isSome_some Option.isSome_none List.nil_append Bool.false_eq_true List.map_cons List.map_nil List.all_cons List.all_nil List.length_cons List.length_nil List.drop_zero List.drop_succ_cons List.take_succ_cons List.take_zero List.drop_nil List.take_nil List.getElem?_cons_zero List.getElem?_cons_succ List.getElem?_nil List.cons_append List.nil_append List.append_nil List.append_assoc List.flatMap_cons List.flatMap_nil List.contains_cons List.contains_nil List.set_cons_zero List.set_cons_succ List.getElem?_toArray Option.getD_some Option.getD_none Option.map_some Option.map_none Option.bind_some Option.some.injEq Prod.mk.injEq if_true if_false true_and and_true and_self and_false false_and Bool.and_false Bool.false_and Bool.or_true Bool.true_or Bool.or_false Bool.false_or ne_eq not_true_eq_false not_false_eq_true decide_true decide_false List.mem_cons List.not_mem_nil List.filter_cons List.filter_nil List.any_cons List.any_nil List.isEmpty_nil List.isEmpty_cons Option.getD_none or_false false_or true_or or_true forall_eq_or_imp forall_eq reduceCtorEq exists_eq exists_eq' exists_eq_left' exists_eq_left exists_eq_right exists_eq_right' imp_self implies_true Bool.and_true Bool.true_and Bool.and_self beq_self_eq_true List.replicate_succ List.replicate_zero forall_const false_implies pickB_or pickB_and beqT beqF Int.toNat_natCast List.length_map List.length_replicate ge_iff_le gt_iff_lt decide_eq_true_eq decide_eq_false_iff_not Bool.and_eq_true Bool.or_eq_true Bool.not_eq_true' Bool.not_eq_false' condG List.toList_toArray Bool.or_eq_false_iff Bool.and_eq_false_iff Int.not_lt Int.not_le beq_iff_eq beq_eq_false_iff_ne bne_iff_ne bne_eq_false_iff_eq ne_eq Bool.not_true Bool.not_false exists_and_left
section
open Go.Vc
set_option linter.unusedSimpArgs false
set_option linter.unusedVariables false
set_option maxHeartbeats 1000000
set_option maxRecDepth 10000
attribute [local irreducible] Go.Vc.WP
attribute [local go_sem] cx0_t cx0_c
attribute [local go_sem] decNode_enc oneFrame_enc
/-- a struct of one list of nodes -/
def stkA (args : List SV) (i : Nat) : List Node := match args[i]? with
  | some (.agg [.sl _ rows]) => decNode rows
  | _ => []
theorem stNode_frOk {N : List Node} {k : Nat} {x : Node} (h : frOk (nodeFr x) = false) : stNode N k x = false := by
  cases hs : stNode N k x with
  | false => rfl
  | true => rw [(stNode_iff.1 hs).2.2.1] at h; cases h
theorem stNode_par {N : List Node} {k : Nat} {x : Node} (h : x.parent < -1 ∨ (k : Int) - 1 < x.parent) : stNode N k x = false := by
  cases hs : stNode N k x with
  | false => rfl
  | true => have := stNode_iff.1 hs; omega
def kFrOk : Ctr := pur (fun args => oneFrame (aC args 0)) (fun f => [.agg (encFrame f)]) (fun f => f.name.size ≤ 1099511627776) (fun _ f => .v (.bool (frOk f))) (fun _ _ => [])
section
noncomputable def cxFrI : Cx := { P := Try.prog, tys := tys, C := [(96, kNameOk), (55, k60)], hty := tysOk, hC := COk.cons cNameOkI (COk.cons c60 (COk.nil _)) }
theorem cxFrI_t : cxFrI.tys = tys := rfl
theorem cxFrI_c : cxFrI.C = [(96, kNameOk), (55, k60)] := rfl
attribute [local go_sem] cxFrI_t cxFrI_c kNameOk k60
theorem cFrOkI : Cn Try.prog 133 kFrOk := by
  refine Cn.pur Try.func133 (by kernel_rfl) rfl fun d x hx => ?_
  refine Holds.go (c := cxFrI) Try.func133 rfl Try.results133 Try.ntmps133 (by omega) (by simp) rfl ?_
  intro X0 w0
  (repeat' (first | refine WP.seq ?_ | refine WP.block ?_ | ((first | refine WP.region ?_ | refine WP.condW ?_ | refine WP.ret ?_ | refine WP.exit ?_ | refine WP.skip ?_); simp only [go_sem, encFrame, tyAll, Nat.reduceAdd, Nat.reduceLT, Nat.reduceLeDiff, Nat.reduceEqDiff, Nat.reduceMul, Nat.reduceSub, Nat.reduceGT, reduceIte, Int.reduceNeg, Int.reduceToNat]) |  refine And.intro ?_ ?_ | intro _))
  all_goals first | omega | skip
  rw [frOk, Bool.and_assoc]
end
section
noncomputable def cxFrS : Cx := { P := Try.prog, tys := tys, C := [(124, kNameOk), (71, k60)], hty := tysOk, hC := COk.cons cNameOkS (COk.cons c58 (COk.nil _)) }
theorem cxFrS_t : cxFrS.tys = tys := rfl
theorem cxFrS_c : cxFrS.C = [(124, kNameOk), (71, k60)] := rfl
attribute [local go_sem] cxFrS_t cxFrS_c kNameOk k60
theorem cFrOkS : Cn Try.prog 129 kFrOk := by
  refine Cn.pur Try.func129 (by kernel_rfl) rfl fun d x hx => ?_
  refine Holds.go (c := cxFrS) Try.func129 rfl Try.results129 Try.ntmps129 (by omega) (by simp) rfl ?_
  intro X0 w0
  (repeat' (first | refine WP.seq ?_ | refine WP.block ?_ | ((first | refine WP.region ?_ | refine WP.condW ?_ | refine WP.ret ?_ | refine WP.exit ?_ | refine WP.skip ?_); simp only [go_sem, encFrame, tyAll, Nat.reduceAdd, Nat.reduceLT, Nat.reduceLeDiff, Nat.reduceEqDiff, Nat.reduceMul, Nat.reduceSub, Nat.reduceGT, reduceIte, Int.reduceNeg, Int.reduceToNat]) |  refine And.intro ?_ ?_ | intro _))
  all_goals first | omega | skip
  rw [frOk, Bool.and_assoc]
end
theorem oneFrame_ab (a : ByteArray) (b : Int) : oneFrame [.v (.string a), .v (.int .i64 b)] = ⟨a, b⟩ := rfl
theorem oneNode_abc (p : Int) (a : ByteArray) (b : Int) : oneNode [.v (.int .i64 p), .v (.string a), .v (.int .i64 b)] = ⟨p, a, b⟩ := rfl
def wfN (N : List Node) : Prop := N.length ≤ 4398046511104 ∧ ∀ x ∈ N, x.name.size ≤ 1099511627776
theorem wfN.nm {N : List Node} (h : wfN N) {k : Nat} (hk : k < N.length) : N[k].name.size ≤ 1099511627776 := h.2 _ (List.getElem_mem hk)
def kStOk : Ctr := pur (fun args => stkA args 0) (fun N => [.agg [.sl 3 (N.map encNode)]]) wfN (fun _ N => .v (.bool (stacksOk N))) (fun _ _ => [])
attribute [local go_sem] stkA oneFrame_ab oneNode_abc
theorem noFr {N : List Node} {k : Nat} (hk : k < N.length) (h : (N[k].parent < -1 ∨ (k : Int) - 1 < N[k].parent) ∨ frOk ⟨N[k].name, N[k].line⟩ = false) : stacksOk N = false := by
  refine stacksOk_bad hk ?_
  rcases h with h | h
  · exact stNode_par h
  · exact stNode_frOk h
theorem node_eq {a b : Node} (h : a.parent = b.parent ∧ a.name = b.name ∧ a.line = b.line) : a = b := by
  obtain ⟨p, n, l⟩ := a
  obtain ⟨p', n', l'⟩ := b
  simp only at h
  obtain ⟨rfl, rfl, rfl⟩ := h
  rfl
theorem node_ne {a b : Node} (h : ¬ a.parent = b.parent ∨ ¬ a.name = b.name ∨ ¬ a.line = b.line) : a ≠ b := fun e => by
  subst e
  rcases h with h | h | h <;> exact h rfl
theorem rowAt_take (rows : List (List SV)) {k i : Nat} (h : i < k) : Go.Vc.rowAt (rows.take k) i = Go.Vc.rowAt rows i := by
  unfold Go.Vc.rowAt
  rw [List.getElem?_take_of_lt h]
section
noncomputable def cxSoS : Cx := { P := Try.prog, tys := tys, C := [(129, kFrOk), (71, k60)], hty := tysOk, hC := COk.cons cFrOkS (COk.cons c58 (COk.nil _)) }
theorem cxSoS_t : cxSoS.tys = tys := rfl
theorem cxSoS_c : cxSoS.C = [(129, kFrOk), (71, k60)] := rfl
attribute [local go_sem] cxSoS_t cxSoS_c kFrOk k60
theorem cStOkS : Cn Try.prog 123 kStOk := by
  refine Cn.pur Try.func123 (by kernel_rfl) rfl fun d x hx => ?_
  rename List Node => N
  have hN := hx.1
  refine Holds.go (c := cxSoS) Try.func123 rfl Try.results123 Try.ntmps123 (by omega) (by simp) rfl ?_
  intro X0 w0
  (repeat' (first | refine WP.seq ?_ | refine WP.block ?_ | ((first | refine WP.region ?_ | refine WP.condW ?_ | refine WP.ret ?_ | refine WP.exit ?_ | refine WP.skip ?_); simp only [go_sem, tyAll, Nat.reduceAdd, Nat.reduceLT, Nat.reduceLeDiff, Nat.reduceEqDiff, Nat.reduceMul, Nat.reduceSub, Nat.reduceGT, reduceIte, Int.reduceNeg, Int.reduceToNat]) | ((first | refine WP.drawW 11 (by decide +kernel) (by kernel_rfl) ?_); simp only [go_sem, tyAll, Nat.reduceAdd, Nat.reduceLT, Nat.reduceLeDiff, Nat.reduceEqDiff, Nat.reduceMul, Nat.reduceSub, Nat.reduceGT, reduceIte, Int.reduceNeg, Int.reduceToNat]) |  refine And.intro ?_ ?_ | intro _))
  refine WP.loop (fun k : Nat => ⟨[(1, .ptr 1 0 0 0), (3, .v (.int .i64 k))], [(1, .box 41 [.sl 3 (N.map encNode)])]⟩) (fun k => k ≤ N.length ∧ ∀ j (hj : j < N.length), j < k → stNode N j N[j] = true) (fun k => N.length - k) 0 (by simp) ?_ ?_
  · (simp only [go_sem, tyAll, Nat.reduceAdd, Nat.reduceLT, Nat.reduceLeDiff, Nat.reduceEqDiff, Nat.reduceMul, Nat.reduceSub, Nat.reduceGT, reduceIte, Int.reduceNeg, Int.reduceToNat] <;> (first | rfl | exact ⟨rfl, rfl⟩ | exact ⟨rfl, rfl, rfl⟩ | exact ⟨rfl, rfl, rfl, rfl⟩ | exact ⟨rfl, rfl, rfl, rfl, rfl⟩ | exact ⟨⟨rfl, rfl⟩, rfl⟩ | simp))
  intro k ⟨hk, hf⟩
  by_cases hlt : k < N.length
  · have h1 := rowAt_map encNode N k hlt
    have hnm := hx.nm hlt
    (repeat' (first | refine WP.seq ?_ | refine WP.block ?_ | ((first | refine WP.region ?_ | refine WP.condW ?_ | refine WP.ret ?_ | refine WP.exit ?_ | refine WP.skip ?_); simp only [go_sem, h1, encNode, encFrame, tyAll, Nat.reduceAdd, Nat.reduceLT, Nat.reduceLeDiff, Nat.reduceEqDiff, Nat.reduceMul, Nat.reduceSub, Nat.reduceGT, reduceIte, Int.reduceNeg, Int.reduceToNat]) | ((first | refine WP.drawW 11 (by decide +kernel) (by kernel_rfl) ?_); simp only [go_sem, h1, encNode, encFrame, tyAll, Nat.reduceAdd, Nat.reduceLT, Nat.reduceLeDiff, Nat.reduceEqDiff, Nat.reduceMul, Nat.reduceSub, Nat.reduceGT, reduceIte, Int.reduceNeg, Int.reduceToNat]) |  refine And.intro ?_ ?_ | intro _))
    all_goals first | omega | skip
    · rename_i h
      rw [noFr hlt h]
    rename_i h
    refine WP.loop (fun i : Nat => ⟨[(1, .ptr 1 0 0 0), (3, .v (.int .i64 k)), (4, .v (.int .i64 i))], [(1, .box 41 [.sl 3 (N.map encNode)])]⟩) (fun i => i ≤ k ∧ ∀ j (hj : j < N.length), j < i → N[j] ≠ N[k]) (fun i => k - i) 0 (by simp) ?_ ?_
    · (simp only [go_sem, tyAll, Nat.reduceAdd, Nat.reduceLT, Nat.reduceLeDiff, Nat.reduceEqDiff, Nat.reduceMul, Nat.reduceSub, Nat.reduceGT, reduceIte, Int.reduceNeg, Int.reduceToNat] <;> (first | rfl | exact ⟨rfl, rfl⟩ | exact ⟨rfl, rfl, rfl⟩ | exact ⟨rfl, rfl, rfl, rfl⟩ | exact ⟨rfl, rfl, rfl, rfl, rfl⟩ | exact ⟨⟨rfl, rfl⟩, rfl⟩ | simp))
    intro i ⟨hi, hg⟩
    by_cases hlt2 : i < k
    · have h2 := rowAt_map encNode N i (by omega)
      (repeat' (first | refine WP.seq ?_ | refine WP.block ?_ | ((first | refine WP.region ?_ | refine WP.condW ?_ | refine WP.ret ?_ | refine WP.exit ?_ | refine WP.skip ?_); simp only [go_sem, h1, h2, encNode, tyAll, Nat.reduceAdd, Nat.reduceLT, Nat.reduceLeDiff, Nat.reduceEqDiff, Nat.reduceMul, Nat.reduceSub, Nat.reduceGT, reduceIte, Int.reduceNeg, Int.reduceToNat]) | ((first | refine WP.drawW 11 (by decide +kernel) (by kernel_rfl) ?_); simp only [go_sem, h1, h2, encNode, tyAll, Nat.reduceAdd, Nat.reduceLT, Nat.reduceLeDiff, Nat.reduceEqDiff, Nat.reduceMul, Nat.reduceSub, Nat.reduceGT, reduceIte, Int.reduceNeg, Int.reduceToNat]) |  refine And.intro ?_ ?_ | intro _))
      all_goals first | omega | skip
      · rename_i he
        rw [stacksOk_bad hlt (stNode_dup hlt hlt2 (node_eq he))]
      · rename_i he
        refine ⟨i + 1, ⟨by omega, fun j hj hji => ?_⟩, by omega, by (first | rfl | exact ⟨rfl, rfl⟩ | exact ⟨rfl, rfl, rfl⟩ | exact ⟨rfl, rfl, rfl, rfl⟩ | exact ⟨rfl, rfl, rfl, rfl, rfl⟩ | exact ⟨⟨rfl, rfl⟩, rfl⟩ | simp)⟩
        rcases Nat.lt_or_ge j i with hh | hh
        · exact hg j hj hh
        · have : j = i := by omega
          subst this
          exact node_ne he
    · (repeat' (first | refine WP.seq ?_ | refine WP.block ?_ | ((first | refine WP.region ?_ | refine WP.condW ?_ | refine WP.ret ?_ | refine WP.exit ?_ | refine WP.skip ?_); simp only [go_sem, tyAll, Nat.reduceAdd, Nat.reduceLT, Nat.reduceLeDiff, Nat.reduceEqDiff, Nat.reduceMul, Nat.reduceSub, Nat.reduceGT, reduceIte, Int.reduceNeg, Int.reduceToNat]) | ((first | refine WP.drawW 11 (by decide +kernel) (by kernel_rfl) ?_); simp only [go_sem, tyAll, Nat.reduceAdd, Nat.reduceLT, Nat.reduceLeDiff, Nat.reduceEqDiff, Nat.reduceMul, Nat.reduceSub, Nat.reduceGT, reduceIte, Int.reduceNeg, Int.reduceToNat]) |  refine And.intro ?_ ?_ | intro _))
      all_goals first | omega | skip
      refine ⟨k + 1, ⟨by omega, fun j hj hjk => ?_⟩, by omega, by (first | rfl | exact ⟨rfl, rfl⟩ | exact ⟨rfl, rfl, rfl⟩ | exact ⟨rfl, rfl, rfl, rfl⟩ | exact ⟨rfl, rfl, rfl, rfl, rfl⟩ | exact ⟨⟨rfl, rfl⟩, rfl⟩ | simp)⟩
      rcases Nat.lt_or_ge j k with hh | hh
      · exact hf j hj hh
      · have : j = k := by omega
        subst this
        exact stNode_ok h.1.1 h.1.2 h.2 fun i hi hij => hg i hi (by omega)
  · (repeat' (first | refine WP.seq ?_ | refine WP.block ?_ | ((first | refine WP.region ?_ | refine WP.condW ?_ | refine WP.ret ?_ | refine WP.exit ?_ | refine WP.skip ?_); simp only [go_sem, tyAll, Nat.reduceAdd, Nat.reduceLT, Nat.reduceLeDiff, Nat.reduceEqDiff, Nat.reduceMul, Nat.reduceSub, Nat.reduceGT, reduceIte, Int.reduceNeg, Int.reduceToNat]) | ((first | refine WP.drawW 11 (by decide +kernel) (by kernel_rfl) ?_); simp only [go_sem, tyAll, Nat.reduceAdd, Nat.reduceLT, Nat.reduceLeDiff, Nat.reduceEqDiff, Nat.reduceMul, Nat.reduceSub, Nat.reduceGT, reduceIte, Int.reduceNeg, Int.reduceToNat]) |  refine And.intro ?_ ?_ | intro _))
    all_goals first | omega | skip
    rw [stacksOk_all fun j hj => hf j hj (by omega)]
end
section
noncomputable def cxSoI : Cx := { P := Try.prog, tys := tys, C := [(133, kFrOk), (55, k60)], hty := tysOk, hC := COk.cons cFrOkI (COk.cons c60 (COk.nil _)) }
theorem cxSoI_t : cxSoI.tys = tys := rfl
theorem cxSoI_c : cxSoI.C = [(133, kFrOk), (55, k60)] := rfl
attribute [local go_sem] cxSoI_t cxSoI_c kFrOk k60
theorem cStOkI : Cn Try.prog 131 kStOk := by
  refine Cn.pur Try.func131 (by kernel_rfl) rfl fun d x hx => ?_
  rename List Node => N
  have hN := hx.1
  refine Holds.go (c := cxSoI) Try.func131 rfl Try.results131 Try.ntmps131 (by omega) (by simp) rfl ?_
  intro X0 w0
  (repeat' (first | refine WP.seq ?_ | refine WP.block ?_ | ((first | refine WP.region ?_ | refine WP.condW ?_ | refine WP.ret ?_ | refine WP.exit ?_ | refine WP.skip ?_); simp only [go_sem, tyAll, Nat.reduceAdd, Nat.reduceLT, Nat.reduceLeDiff, Nat.reduceEqDiff, Nat.reduceMul, Nat.reduceSub, Nat.reduceGT, reduceIte, Int.reduceNeg, Int.reduceToNat]) |  refine And.intro ?_ ?_ | intro _))
  all_goals first | omega | skip
  refine WP.loop (fun k : Nat => ⟨[(1, .ptr 1 0 0 0), (8, .sl 3 (N.map encNode)), (9, .v (.int .i64 N.length)), (10, .v (.int .i64 k))], [(1, .box 41 [.sl 3 (N.map encNode)])]⟩) (fun k => k ≤ N.length ∧ ∀ j (hj : j < N.length), j < k → stNode N j N[j] = true) (fun k => N.length - k) 0 (by simp) ?_ ?_
  · (simp only [go_sem, tyAll, Nat.reduceAdd, Nat.reduceLT, Nat.reduceLeDiff, Nat.reduceEqDiff, Nat.reduceMul, Nat.reduceSub, Nat.reduceGT, reduceIte, Int.reduceNeg, Int.reduceToNat] <;> (first | rfl | exact ⟨rfl, rfl⟩ | exact ⟨rfl, rfl, rfl⟩ | exact ⟨rfl, rfl, rfl, rfl⟩ | exact ⟨rfl, rfl, rfl, rfl, rfl⟩ | exact ⟨⟨rfl, rfl⟩, rfl⟩ | simp))
  intro k ⟨hk, hf⟩
  by_cases hlt : k < N.length
  · have h1 := rowAt_map encNode N k hlt
    have hnm := hx.nm hlt
    (repeat' (first | refine WP.seq ?_ | refine WP.block ?_ | ((first | refine WP.region ?_ | refine WP.condW ?_ | refine WP.ret ?_ | refine WP.exit ?_ | refine WP.skip ?_); simp only [go_sem, h1, encNode, encFrame, tyAll, Nat.reduceAdd, Nat.reduceLT, Nat.reduceLeDiff, Nat.reduceEqDiff, Nat.reduceMul, Nat.reduceSub, Nat.reduceGT, reduceIte, Int.reduceNeg, Int.reduceToNat]) |  refine And.intro ?_ ?_ | intro _))
    all_goals first | omega | skip
    · rename_i h
      rw [noFr hlt h]
    rename_i h
    have hl : ((N.map encNode).take k).length = k := by rw [List.length_take, List.length_map]; omega
    refine WP.loop (fun i : Nat => ⟨[(1, .ptr 1 0 0 0), (4, .ptr 4 0 0 0), (8, .sl 3 (N.map encNode)), (9, .v (.int .i64 N.length)), (10, .v (.int .i64 k)), (30, .sl 3 ((N.map encNode).take k)), (31, .v (.int .i64 k)), (32, .v (.int .i64 i))], [(1, .box 41 [.sl 3 (N.map encNode)]), (4, .box 187 (encNode N[k]))]⟩) (fun i => i ≤ k ∧ ∀ j (hj : j < N.length), j < i → N[j] ≠ N[k]) (fun i => k - i) 0 (by simp) ?_ ?_
    · (simp only [go_sem, hl, encNode, tyAll, Nat.reduceAdd, Nat.reduceLT, Nat.reduceLeDiff, Nat.reduceEqDiff, Nat.reduceMul, Nat.reduceSub, Nat.reduceGT, reduceIte, Int.reduceNeg, Int.reduceToNat] <;> (first | rfl | exact ⟨rfl, rfl⟩ | exact ⟨rfl, rfl, rfl⟩ | exact ⟨rfl, rfl, rfl, rfl⟩ | exact ⟨rfl, rfl, rfl, rfl, rfl⟩ | exact ⟨⟨rfl, rfl⟩, rfl⟩ | simp))
    intro i ⟨hi, hg⟩
    by_cases hlt2 : i < k
    · have h2 := rowAt_map encNode N i (by omega)
      have h3 := rowAt_take (N.map encNode) hlt2
      rw [h2] at h3
      (repeat' (first | refine WP.seq ?_ | refine WP.block ?_ | ((first | refine WP.region ?_ | refine WP.condW ?_ | refine WP.ret ?_ | refine WP.exit ?_ | refine WP.skip ?_); simp only [go_sem, h1, h3, hl, encNode, tyAll, Nat.reduceAdd, Nat.reduceLT, Nat.reduceLeDiff, Nat.reduceEqDiff, Nat.reduceMul, Nat.reduceSub, Nat.reduceGT, reduceIte, Int.reduceNeg, Int.reduceToNat]) |  refine And.intro ?_ ?_ | intro _))
      all_goals first | omega | skip
      · rename_i he
        rw [stacksOk_bad hlt (stNode_dup hlt hlt2 (node_eq ⟨he.1.symm, he.2.1.symm, he.2.2.symm⟩))]
      · rename_i he
        refine ⟨i + 1, ⟨by omega, fun j hj hji => ?_⟩, by omega, by (first | rfl | exact ⟨rfl, rfl⟩ | exact ⟨rfl, rfl, rfl⟩ | exact ⟨rfl, rfl, rfl, rfl⟩ | exact ⟨rfl, rfl, rfl, rfl, rfl⟩ | exact ⟨⟨rfl, rfl⟩, rfl⟩ | simp)⟩
        rcases Nat.lt_or_ge j i with hh | hh
        · exact hg j hj hh
        · have : j = i := by omega
          subst this
          exact Ne.symm (node_ne he)
    · (repeat' (first | refine WP.seq ?_ | refine WP.block ?_ | ((first | refine WP.region ?_ | refine WP.condW ?_ | refine WP.ret ?_ | refine WP.exit ?_ | refine WP.skip ?_); simp only [go_sem, tyAll, Nat.reduceAdd, Nat.reduceLT, Nat.reduceLeDiff, Nat.reduceEqDiff, Nat.reduceMul, Nat.reduceSub, Nat.reduceGT, reduceIte, Int.reduceNeg, Int.reduceToNat]) |  refine And.intro ?_ ?_ | intro _))
      all_goals first | omega | skip
      refine ⟨k + 1, ⟨by omega, fun j hj hjk => ?_⟩, by omega, by (first | rfl | exact ⟨rfl, rfl⟩ | exact ⟨rfl, rfl, rfl⟩ | exact ⟨rfl, rfl, rfl, rfl⟩ | exact ⟨rfl, rfl, rfl, rfl, rfl⟩ | exact ⟨⟨rfl, rfl⟩, rfl⟩ | simp)⟩
      rcases Nat.lt_or_ge j k with hh | hh
      · exact hf j hj hh
      · have : j = k := by omega
        subst this
        exact stNode_ok h.1.1 h.1.2 h.2 fun i hi hij => hg i hi (by omega)
  · (repeat' (first | refine WP.seq ?_ | refine WP.block ?_ | ((first | refine WP.region ?_ | refine WP.condW ?_ | refine WP.ret ?_ | refine WP.exit ?_ | refine WP.skip ?_); simp only [go_sem, tyAll, Nat.reduceAdd, Nat.reduceLT, Nat.reduceLeDiff, Nat.reduceEqDiff, Nat.reduceMul, Nat.reduceSub, Nat.reduceGT, reduceIte, Int.reduceNeg, Int.reduceToNat]) |  refine And.intro ?_ ?_ | intro _))
    all_goals first | omega | skip
    rw [stacksOk_all fun j hj => hf j hj (by omega)]
end
def kChild : Ctr := pur (fun args => (stkA args 0, aI args 1, oneFrame (aC args 2))) (fun x => [.agg [.sl 3 (x.1.map encNode)], .v (.int .i64 x.2.1), .agg (encFrame x.2.2)]) (fun x => x.1.length ≤ 4398046511104) (fun _ x => .v (.int .i64 (child x.1 x.2.1 x.2.2))) (fun _ _ => [])
theorem hit_yes {N : List Node} {p : Int} {f : Frame} {k : Nat} (hk : k < N.length) (hf : ∀ j (hj : j < N.length), j < k → hitNode p f N[j] = false) (h : N[k].parent = p ∧ N[k].name = f.name ∧ N[k].line = f.line) : child N p f = k :=
  firstIdx_hit hk hf (by
    obtain ⟨a, b⟩ := f
    simp only at h
    simp [hitNode, nodeFr, h])
theorem hit_no {p : Int} {f : Frame} {x : Node} (h : ¬ x.parent = p ∨ ¬ x.name = f.name ∨ ¬ x.line = f.line) : hitNode p f x = false := by
  obtain ⟨a, b⟩ := f
  simp only at h
  simp only [hitNode, nodeFr, Bool.and_eq_false_iff, decide_eq_false_iff_not, Frame.mk.injEq, not_and]
  rcases h with h | h | h
  · exact .inl h
  · exact .inr fun e => absurd e h
  · exact .inr fun _ => h
theorem cChildS : Cn Try.prog 130 kChild := by
  refine Cn.pur Try.func130 (by kernel_rfl) rfl fun d x hx => ?_
  obtain ⟨N, p, f⟩ := x
  simp only at hx ⊢
  refine Holds.go (c := cx0) Try.func130 rfl Try.results130 Try.ntmps130 (by omega) (by simp) rfl ?_
  intro X0 w0
  (repeat' (first | refine WP.seq ?_ | refine WP.block ?_ | ((first | refine WP.region ?_ | refine WP.condW ?_ | refine WP.ret ?_ | refine WP.exit ?_ | refine WP.skip ?_); simp only [go_sem, encFrame, tyAll, Nat.reduceAdd, Nat.reduceLT, Nat.reduceLeDiff, Nat.reduceEqDiff, Nat.reduceMul, Nat.reduceSub, Nat.reduceGT, reduceIte, Int.reduceNeg, Int.reduceToNat]) | ((first | refine WP.drawW 18 (by decide +kernel) (by kernel_rfl) ?_); simp only [go_sem, encFrame, tyAll, Nat.reduceAdd, Nat.reduceLT, Nat.reduceLeDiff, Nat.reduceEqDiff, Nat.reduceMul, Nat.reduceSub, Nat.reduceGT, reduceIte, Int.reduceNeg, Int.reduceToNat]) |  refine And.intro ?_ ?_ | intro _))
  all_goals first | omega | skip
  refine WP.loop (fun k : Nat => ⟨[(1, .v (.int .i64 p)), (3, .ptr 3 0 0 0), (5, .ptr 5 0 0 0), (7, .v (.int .i64 k))], [(3, .box 41 [.sl 3 (N.map encNode)]), (5, .box 100 (encFrame f))]⟩) (fun k => k ≤ N.length ∧ ∀ j (hj : j < N.length), j < k → hitNode p f N[j] = false) (fun k => N.length - k) 0 (by simp) ?_ ?_
  · (simp only [go_sem, encFrame, tyAll, Nat.reduceAdd, Nat.reduceLT, Nat.reduceLeDiff, Nat.reduceEqDiff, Nat.reduceMul, Nat.reduceSub, Nat.reduceGT, reduceIte, Int.reduceNeg, Int.reduceToNat] <;> (first | rfl | exact ⟨rfl, rfl⟩ | exact ⟨rfl, rfl, rfl⟩ | exact ⟨rfl, rfl, rfl, rfl⟩ | exact ⟨rfl, rfl, rfl, rfl, rfl⟩ | exact ⟨⟨rfl, rfl⟩, rfl⟩ | simp))
  intro k ⟨hk, hf⟩
  by_cases hlt : k < N.length
  · have h1 := rowAt_map encNode N k hlt
    (repeat' (first | refine WP.seq ?_ | refine WP.block ?_ | ((first | refine WP.region ?_ | refine WP.condW ?_ | refine WP.ret ?_ | refine WP.exit ?_ | refine WP.skip ?_); simp only [go_sem, h1, encNode, encFrame, tyAll, Nat.reduceAdd, Nat.reduceLT, Nat.reduceLeDiff, Nat.reduceEqDiff, Nat.reduceMul, Nat.reduceSub, Nat.reduceGT, reduceIte, Int.reduceNeg, Int.reduceToNat]) | ((first | refine WP.drawW 18 (by decide +kernel) (by kernel_rfl) ?_); simp only [go_sem, h1, encNode, encFrame, tyAll, Nat.reduceAdd, Nat.reduceLT, Nat.reduceLeDiff, Nat.reduceEqDiff, Nat.reduceMul, Nat.reduceSub, Nat.reduceGT, reduceIte, Int.reduceNeg, Int.reduceToNat]) |  refine And.intro ?_ ?_ | intro _))
    all_goals first | omega | skip
    · rename_i he
      rw [hit_yes hlt hf he]
    · rename_i he
      refine ⟨k + 1, ⟨by omega, fun j hj hji => ?_⟩, by omega, by (first | rfl | exact ⟨rfl, rfl⟩ | exact ⟨rfl, rfl, rfl⟩ | exact ⟨rfl, rfl, rfl, rfl⟩ | exact ⟨rfl, rfl, rfl, rfl, rfl⟩ | exact ⟨⟨rfl, rfl⟩, rfl⟩ | simp)⟩
      rcases Nat.lt_or_ge j k with hh | hh
      · exact hf j hj hh
      · have : j = k := by omega
        subst this
        exact hit_no he
  · (repeat' (first | refine WP.seq ?_ | refine WP.block ?_ | ((first | refine WP.region ?_ | refine WP.condW ?_ | refine WP.ret ?_ | refine WP.exit ?_ | refine WP.skip ?_); simp only [go_sem, tyAll, Nat.reduceAdd, Nat.reduceLT, Nat.reduceLeDiff, Nat.reduceEqDiff, Nat.reduceMul, Nat.reduceSub, Nat.reduceGT, reduceIte, Int.reduceNeg, Int.reduceToNat]) | ((first | refine WP.drawW 18 (by decide +kernel) (by kernel_rfl) ?_); simp only [go_sem, tyAll, Nat.reduceAdd, Nat.reduceLT, Nat.reduceLeDiff, Nat.reduceEqDiff, Nat.reduceMul, Nat.reduceSub, Nat.reduceGT, reduceIte, Int.reduceNeg, Int.reduceToNat]) |  refine And.intro ?_ ?_ | intro _))
    all_goals first | omega | skip
    rw [show child N p f = -1 from firstIdx_none fun i hi => hf i hi (by omega)]
theorem cChildI : Cn Try.prog 134 kChild := by
  refine Cn.pur Try.func134 (by kernel_rfl) rfl fun d x hx => ?_
  obtain ⟨N, p, f⟩ := x
  simp only at hx ⊢
  refine Holds.go (c := cx0) Try.func134 rfl Try.results134 Try.ntmps134 (by omega) (by simp) rfl ?_
  intro X0 w0
  (repeat' (first | refine WP.seq ?_ | refine WP.block ?_ | ((first | refine WP.region ?_ | refine WP.condW ?_ | refine WP.ret ?_ | refine WP.exit ?_ | refine WP.skip ?_); simp only [go_sem, encFrame, tyAll, Nat.reduceAdd, Nat.reduceLT, Nat.reduceLeDiff, Nat.reduceEqDiff, Nat.reduceMul, Nat.reduceSub, Nat.reduceGT, reduceIte, Int.reduceNeg, Int.reduceToNat]) |  refine And.intro ?_ ?_ | intro _))
  all_goals first | omega | skip
  refine WP.loop (fun k : Nat => ⟨[(1, .v (.int .i64 p)), (5, .ptr 5 0 0 0), (10, .sl 3 (N.map encNode)), (11, .v (.int .i64 N.length)), (12, .v (.int .i64 k))], [(5, .box 100 (encFrame f))]⟩) (fun k => k ≤ N.length ∧ ∀ j (hj : j < N.length), j < k → hitNode p f N[j] = false) (fun k => N.length - k) 0 (by simp) ?_ ?_
  · (simp only [go_sem, encFrame, tyAll, Nat.reduceAdd, Nat.reduceLT, Nat.reduceLeDiff, Nat.reduceEqDiff, Nat.reduceMul, Nat.reduceSub, Nat.reduceGT, reduceIte, Int.reduceNeg, Int.reduceToNat] <;> (first | rfl | exact ⟨rfl, rfl⟩ | exact ⟨rfl, rfl, rfl⟩ | exact ⟨rfl, rfl, rfl, rfl⟩ | exact ⟨rfl, rfl, rfl, rfl, rfl⟩ | exact ⟨⟨rfl, rfl⟩, rfl⟩ | simp))
  intro k ⟨hk, hf⟩
  by_cases hlt : k < N.length
  · have h1 := rowAt_map encNode N k hlt
    (repeat' (first | refine WP.seq ?_ | refine WP.block ?_ | ((first | refine WP.region ?_ | refine WP.condW ?_ | refine WP.ret ?_ | refine WP.exit ?_ | refine WP.skip ?_); simp only [go_sem, h1, encNode, encFrame, tyAll, Nat.reduceAdd, Nat.reduceLT, Nat.reduceLeDiff, Nat.reduceEqDiff, Nat.reduceMul, Nat.reduceSub, Nat.reduceGT, reduceIte, Int.reduceNeg, Int.reduceToNat]) |  refine And.intro ?_ ?_ | intro _))
    all_goals first | omega | skip
    · rename_i he
      rw [hit_yes hlt hf he]
    · rename_i he
      refine ⟨k + 1, ⟨by omega, fun j hj hji => ?_⟩, by omega, by (first | rfl | exact ⟨rfl, rfl⟩ | exact ⟨rfl, rfl, rfl⟩ | exact ⟨rfl, rfl, rfl, rfl⟩ | exact ⟨rfl, rfl, rfl, rfl, rfl⟩ | exact ⟨⟨rfl, rfl⟩, rfl⟩ | simp)⟩
      rcases Nat.lt_or_ge j k with hh | hh
      · exact hf j hj hh
      · have : j = k := by omega
        subst this
        exact hit_no he
  · (repeat' (first | refine WP.seq ?_ | refine WP.block ?_ | ((first | refine WP.region ?_ | refine WP.condW ?_ | refine WP.ret ?_ | refine WP.exit ?_ | refine WP.skip ?_); simp only [go_sem, tyAll, Nat.reduceAdd, Nat.reduceLT, Nat.reduceLeDiff, Nat.reduceEqDiff, Nat.reduceMul, Nat.reduceSub, Nat.reduceGT, reduceIte, Int.reduceNeg, Int.reduceToNat]) |  refine And.intro ?_ ?_ | intro _))
    all_goals first | omega | skip
    rw [show child N p f = -1 from firstIdx_none fun i hi => hf i hi (by omega)]
theorem rlNode {N : List Node} {row : List SV} (h : row ∈ N.map encNode) : row.length = 3 := by
  obtain ⟨x, _, rfl⟩ := List.mem_map.1 h; rfl
theorem rlFrame {N : List Frame} {row : List SV} (h : row ∈ N.map encFrame) : row.length = 2 := by
  obtain ⟨x, _, rfl⟩ := List.mem_map.1 h; rfl
theorem rlI {N : List Int} {row : List SV} (h : row ∈ N.map encI) : row.length = 1 := by
  obtain ⟨x, _, rfl⟩ := List.mem_map.1 h; rfl
theorem rlEntry {N : List Entry} {row : List SV} (h : row ∈ N.map encEntry) : row.length = 2 := by
  obtain ⟨x, _, rfl⟩ := List.mem_map.1 h; rfl
def kCopyStk : Ctr := pur (fun args => stkA args 0) (fun N => [.agg [.sl 3 (N.map encNode)]]) (fun N => N.length ≤ 4398046511104) (fun d _ => .agg [.own d]) (fun d N => [(d, .sl 187 3 (N.map encNode))])
theorem cCopyStkS : Cn Try.prog 128 kCopyStk := by
  refine Cn.pur Try.func128 (by kernel_rfl) rfl fun d x hx => ?_
  rename List Node => N
  refine Holds.go (c := cx0) Try.func128 rfl Try.results128 Try.ntmps128 (by omega) (by simp) rfl ?_
  intro X0 w0
  (repeat' (first | refine WP.seq ?_ | refine WP.block ?_ | ((first | refine WP.region ?_ | refine WP.condW ?_ | refine WP.ret ?_ | refine WP.exit ?_ | refine WP.skip ?_); simp only [go_sem, tyAll, Nat.reduceAdd, Nat.reduceLT, Nat.reduceLeDiff, Nat.reduceEqDiff, Nat.reduceMul, Nat.reduceSub, Nat.reduceGT, reduceIte, Int.reduceNeg, Int.reduceToNat]) |  refine And.intro ?_ ?_ | intro _))
  all_goals first | omega | exact rlNode ‹_› | exact ⟨_, _, rfl, _, _, rfl, rfl⟩ | skip
theorem cCopyStkI : Cn Try.prog 132 kCopyStk := by
  refine Cn.pur Try.func132 (by kernel_rfl) rfl fun d x hx => ?_
  rename List Node => N
  refine Holds.go (c := cx0) Try.func132 rfl Try.results132 Try.ntmps132 (by omega) (by simp) rfl ?_
  intro X0 w0
  (repeat' (first | refine WP.seq ?_ | refine WP.block ?_ | ((first | refine WP.region ?_ | refine WP.condW ?_ | refine WP.ret ?_ | refine WP.exit ?_ | refine WP.skip ?_); simp only [go_sem, tyAll, Nat.reduceAdd, Nat.reduceLT, Nat.reduceLeDiff, Nat.reduceEqDiff, Nat.reduceMul, Nat.reduceSub, Nat.reduceGT, reduceIte, Int.reduceNeg, Int.reduceToNat]) |  refine And.intro ?_ ?_ | intro _))
  all_goals first | omega | exact rlNode ‹_› | exact ⟨_, _, rfl, _, _, rfl, rfl⟩ | skip
end
section
open Go.Vc
set_option linter.unusedSimpArgs false
set_option linter.unusedVariables false
set_option maxHeartbeats 1000000
set_option maxRecDepth 10000
attribute [local irreducible] Go.Vc.WP
attribute [local go_sem] cx0_t cx0_c
def fl9d07e2ccfb : List Go.Vc.Fp := [⟨[1], [], [], [5, 6], [], []⟩, ⟨[3], [0], [], [5, 6], [], []⟩, ⟨[4], [0, 1], [], [6], [], [5]⟩, ⟨[], [], [], [5], [], [6]⟩, ⟨[1], [], [], [5, 6], [], []⟩, ⟨[7], [4], [], [5, 6], [], []⟩, ⟨[], [0, 1, 2, 3, 4, 5], [], [], [], []⟩, ⟨[], [0, 1, 2, 3, 4, 5, 6], [], [], [], []⟩, ⟨[], [0, 1, 2, 3, 4, 5, 6, 7], [], [], [], []⟩]
attribute [local go_sem] fl9d07e2ccfb
attribute [local go_sem] decNode_enc decFrame_enc oneFrame_enc stkA oneFrame_ab oneNode_abc decI_enc
/-- a profile: its nodes and its counts -/
def prA (args : List SV) (i : Nat) : List Node × List Int := match args[i]? with
  | some (.agg [.sl _ r, .sl _ q]) => (decNode r, decI q)
  | _ => ([], [])
attribute [local go_sem] prA
def encPr (x : List Node × List Int) : SV := .agg [.sl 3 (x.1.map encNode), .sl 1 (x.2.map encI)]
def wfP (x : List Node × List Int) : Prop := (x.1.length ≤ 4398046511104 ∧ ∀ n ∈ x.1, n.name.size ≤ 1099511627776) ∧ x.2.length ≤ 4398046511104
theorem cntOk_bad {C : List Int} {k : Nat} (hk : k < C.length) (h : C[k] < 0 ∨ 1000000000000 - (C.take k).sum < C[k]) : cntOk C = false := by
  cases hs : cntOk C with
  | false => rfl
  | true => have := cntOk_at hs k hk; omega
theorem profNo {N : List Node} {C : List Int} (h : stacksOk N = false ∨ ¬ (C.length : Int) = N.length ∨ cntOk C = false) : profileOk N C = false := by
  cases hs : profileOk N C with
  | false => rfl
  | true =>
    obtain ⟨h1, h2, h3⟩ := profileOk_iff.1 hs
    rcases h with h | h | h
    · rw [h1] at h; cases h
    · omega
    · rw [h3] at h; cases h
theorem cntOk_all {C : List Int} (h : ∀ j (hj : j < C.length), 0 ≤ C[j] ∧ C[j] ≤ 1000000000000 - (C.take j).sum) : cntOk C = true := by
  unfold cntOk
  exact decide_eq_true h
def kPrOk : Ctr := pur (fun args => prA args 0) (fun x => [.agg [.sl 3 (x.1.map encNode), .sl 1 (x.2.map encI)]]) wfP (fun _ x => .v (.bool (profileOk x.1 x.2))) (fun _ _ => [])
section
noncomputable def cxPoS : Cx := { P := Try.prog, tys := tys, C := [(123, kStOk), (71, k60)], hty := tysOk, hC := COk.cons cStOkS (COk.cons c58 (COk.nil _)) }
theorem cxPoS_t : cxPoS.tys = tys := rfl
theorem cxPoS_c : cxPoS.C = [(123, kStOk), (71, k60)] := rfl
attribute [local go_sem] cxPoS_t cxPoS_c kStOk k60
theorem cPrOkS : Cn Try.prog 91 kPrOk := by
  refine Cn.pur Try.func91 (by kernel_rfl) rfl fun d x hx => ?_
  obtain ⟨N, C⟩ := x
  obtain ⟨⟨hN, hs⟩, hC⟩ := hx
  simp only at hN hs hC ⊢
  refine Holds.go (c := cxPoS) Try.func91 rfl Try.results91 Try.ntmps91 (by omega) (by simp) rfl ?_
  intro X0 w0
  (repeat' (first | refine WP.seq ?_ | refine WP.block ?_ | ((first | refine WP.region ?_ | refine WP.condW ?_ | refine WP.ret ?_ | refine WP.exit ?_ | refine WP.skip ?_); simp only [go_sem, tyAll, Nat.reduceAdd, Nat.reduceLT, Nat.reduceLeDiff, Nat.reduceEqDiff, Nat.reduceMul, Nat.reduceSub, Nat.reduceGT, reduceIte, Int.reduceNeg, Int.reduceToNat]) |  refine And.intro ?_ ?_ | intro _))
  all_goals first | omega | exact hs _ ‹_› | skip
  · rename_i h; rw [profNo (h.imp_right .inl)]
  rename_i h
  refine WP.loop (fun k : Nat => ⟨[(1, .ptr 1 0 0 0), (3, .v (.int .i64 (C.take k).sum)), (4, .v (.int .i64 k))], [(1, .box 43 [.sl 3 (N.map encNode), .sl 1 (C.map encI)])]⟩)
    (fun k => k ≤ C.length ∧ ∀ j (hj : j < C.length), j < k → 0 ≤ C[j] ∧ C[j] ≤ 1000000000000 - (C.take j).sum) (fun k => C.length - k) 0 (by simp) ?_ ?_
  · (simp only [go_sem, tyAll, Nat.reduceAdd, Nat.reduceLT, Nat.reduceLeDiff, Nat.reduceEqDiff, Nat.reduceMul, Nat.reduceSub, Nat.reduceGT, reduceIte, Int.reduceNeg, Int.reduceToNat] <;> (first | rfl | exact ⟨rfl, rfl⟩ | exact ⟨rfl, rfl, rfl⟩ | exact ⟨rfl, rfl, rfl, rfl⟩ | exact ⟨rfl, rfl, rfl, rfl, rfl⟩ | exact ⟨⟨rfl, rfl⟩, rfl⟩ | simp))
  intro k ⟨hk, hf⟩
  have hsum : 0 ≤ (C.take k).sum ∧ (C.take k).sum ≤ 1000000000000 := by
    have := cntOk_sum (C := C.take k) (fun j hj => by
      rw [List.length_take] at hj
      have := hf j (by omega) (by omega)
      rw [List.getElem_take, List.take_take, Nat.min_eq_left (by omega)]
      exact this) k (by rw [List.length_take]; omega)
    rwa [List.take_take, Nat.min_self] at this
  by_cases hlt : k < C.length
  · have h1 := rowAt_map encI C k hlt
    have h2 := take_sum C k hlt
    (repeat' (first | refine WP.seq ?_ | refine WP.block ?_ | ((first | refine WP.region ?_ | refine WP.condW ?_ | refine WP.ret ?_ | refine WP.exit ?_ | refine WP.skip ?_); simp only [go_sem, h1, encI, tyAll, Nat.reduceAdd, Nat.reduceLT, Nat.reduceLeDiff, Nat.reduceEqDiff, Nat.reduceMul, Nat.reduceSub, Nat.reduceGT, reduceIte, Int.reduceNeg, Int.reduceToNat]) |  refine And.intro ?_ ?_ | intro _))
    all_goals first | omega | skip
    · rename_i hb; rw [profNo (.inr (.inr (cntOk_bad hlt (by omega))))]
    · rename_i hb
      refine ⟨k + 1, ⟨by omega, fun j hj hjk => ?_⟩, by omega, by rw [h2]; (first | rfl | exact ⟨rfl, rfl⟩ | exact ⟨rfl, rfl, rfl⟩ | exact ⟨rfl, rfl, rfl, rfl⟩ | exact ⟨rfl, rfl, rfl, rfl, rfl⟩ | exact ⟨⟨rfl, rfl⟩, rfl⟩ | simp)⟩
      rcases Nat.lt_or_ge j k with hh | hh
      · exact hf j hj hh
      · have : j = k := by omega
        subst this; omega
  · (repeat' (first | refine WP.seq ?_ | refine WP.block ?_ | ((first | refine WP.region ?_ | refine WP.condW ?_ | refine WP.ret ?_ | refine WP.exit ?_ | refine WP.skip ?_); simp only [go_sem, tyAll, Nat.reduceAdd, Nat.reduceLT, Nat.reduceLeDiff, Nat.reduceEqDiff, Nat.reduceMul, Nat.reduceSub, Nat.reduceGT, reduceIte, Int.reduceNeg, Int.reduceToNat]) |  refine And.intro ?_ ?_ | intro _))
    all_goals first | omega | skip
    rw [profileOk_iff.2 ⟨h.1, by omega, cntOk_all fun j hj => hf j hj (by omega)⟩]
end
section
noncomputable def cxPoI : Cx := { P := Try.prog, tys := tys, C := [(131, kStOk), (55, k60)], hty := tysOk, hC := COk.cons cStOkI (COk.cons c60 (COk.nil _)) }
theorem cxPoI_t : cxPoI.tys = tys := rfl
theorem cxPoI_c : cxPoI.C = [(131, kStOk), (55, k60)] := rfl
attribute [local go_sem] cxPoI_t cxPoI_c kStOk k60
theorem cPrOkI : Cn Try.prog 101 kPrOk := by
  refine Cn.pur Try.func101 (by kernel_rfl) rfl fun d x hx => ?_
  obtain ⟨N, C⟩ := x
  obtain ⟨⟨hN, hs⟩, hC⟩ := hx
  simp only at hN hs hC ⊢
  refine Holds.go (c := cxPoI) Try.func101 rfl Try.results101 Try.ntmps101 (by omega) (by simp) rfl ?_
  intro X0 w0
  (repeat' (first | refine WP.seq ?_ | refine WP.block ?_ | ((first | refine WP.region ?_ | refine WP.condW ?_ | refine WP.ret ?_ | refine WP.exit ?_ | refine WP.skip ?_); simp only [go_sem, tyAll, Nat.reduceAdd, Nat.reduceLT, Nat.reduceLeDiff, Nat.reduceEqDiff, Nat.reduceMul, Nat.reduceSub, Nat.reduceGT, reduceIte, Int.reduceNeg, Int.reduceToNat]) |  refine And.intro ?_ ?_ | intro _))
  all_goals first | omega | exact hs _ ‹_› | skip
  · rename_i h; rw [profNo (h.imp_right .inl)]
  rename_i h
  refine WP.loop (fun k : Nat => ⟨[(3, .v (.int .i64 (1000000000000 - (C.take k).sum))), (21, .sl 1 (C.map encI)), (22, .v (.int .i64 C.length)), (23, .v (.int .i64 k))], []⟩)
    (fun k => k ≤ C.length ∧ ∀ j (hj : j < C.length), j < k → 0 ≤ C[j] ∧ C[j] ≤ 1000000000000 - (C.take j).sum) (fun k => C.length - k) 0 (by simp) ?_ ?_
  · (simp only [go_sem, tyAll, Nat.reduceAdd, Nat.reduceLT, Nat.reduceLeDiff, Nat.reduceEqDiff, Nat.reduceMul, Nat.reduceSub, Nat.reduceGT, reduceIte, Int.reduceNeg, Int.reduceToNat] <;> (first | rfl | exact ⟨rfl, rfl⟩ | exact ⟨rfl, rfl, rfl⟩ | exact ⟨rfl, rfl, rfl, rfl⟩ | exact ⟨rfl, rfl, rfl, rfl, rfl⟩ | exact ⟨⟨rfl, rfl⟩, rfl⟩ | simp))
  intro k ⟨hk, hf⟩
  have hsum : 0 ≤ (C.take k).sum ∧ (C.take k).sum ≤ 1000000000000 := by
    have := cntOk_sum (C := C.take k) (fun j hj => by
      rw [List.length_take] at hj
      have := hf j (by omega) (by omega)
      rw [List.getElem_take, List.take_take, Nat.min_eq_left (by omega)]
      exact this) k (by rw [List.length_take]; omega)
    rwa [List.take_take, Nat.min_self] at this
  by_cases hlt : k < C.length
  · have h1 := rowAt_map encI C k hlt
    have h2 := take_sum C k hlt
    (repeat' (first | refine WP.seq ?_ | refine WP.block ?_ | ((first | refine WP.region ?_ | refine WP.condW ?_ | refine WP.ret ?_ | refine WP.exit ?_ | refine WP.skip ?_); simp only [go_sem, h1, encI, tyAll, Nat.reduceAdd, Nat.reduceLT, Nat.reduceLeDiff, Nat.reduceEqDiff, Nat.reduceMul, Nat.reduceSub, Nat.reduceGT, reduceIte, Int.reduceNeg, Int.reduceToNat]) |  refine And.intro ?_ ?_ | intro _))
    all_goals first | omega | skip
    · rename_i hb; rw [profNo (.inr (.inr (cntOk_bad hlt (by omega))))]
    · rename_i hb
      refine ⟨k + 1, ⟨by omega, fun j hj hjk => ?_⟩, by omega, by rw [h2, ← Int.sub_sub]; (first | rfl | exact ⟨rfl, rfl⟩ | exact ⟨rfl, rfl, rfl⟩ | exact ⟨rfl, rfl, rfl, rfl⟩ | exact ⟨rfl, rfl, rfl, rfl, rfl⟩ | exact ⟨⟨rfl, rfl⟩, rfl⟩ | simp)⟩
      rcases Nat.lt_or_ge j k with hh | hh
      · exact hf j hj hh
      · have : j = k := by omega
        subst this; omega
  · (repeat' (first | refine WP.seq ?_ | refine WP.block ?_ | ((first | refine WP.region ?_ | refine WP.condW ?_ | refine WP.ret ?_ | refine WP.exit ?_ | refine WP.skip ?_); simp only [go_sem, tyAll, Nat.reduceAdd, Nat.reduceLT, Nat.reduceLeDiff, Nat.reduceEqDiff, Nat.reduceMul, Nat.reduceSub, Nat.reduceGT, reduceIte, Int.reduceNeg, Int.reduceToNat]) |  refine And.intro ?_ ?_ | intro _))
    all_goals first | omega | skip
    rw [profileOk_iff.2 ⟨h.1, by omega, cntOk_all fun j hj => hf j hj (by omega)⟩]
end
def kCopyPr : Ctr := pur (fun args => prA args 0) (fun x => [.agg [.sl 3 (x.1.map encNode), .sl 1 (x.2.map encI)]]) (fun x => x.1.length ≤ 4398046511104 ∧ x.2.length ≤ 4398046511104) (fun d _ => .agg [.own d, .own (d + 1000)]) (fun d x => [(d, .sl 187 3 (x.1.map encNode)), (d + 1000, .sl 3 1 (x.2.map encI))])
section
noncomputable def cxCpS : Cx := { P := Try.prog, tys := tys, C := [(128, kCopyStk)], hty := tysOk, hC := COk.cons cCopyStkS (COk.nil _) }
theorem cxCpS_t : cxCpS.tys = tys := rfl
theorem cxCpS_c : cxCpS.C = [(128, kCopyStk)] := rfl
attribute [local go_sem] cxCpS_t cxCpS_c kCopyStk
theorem cCopyPrS : Cn Try.prog 98 kCopyPr := by
  refine Cn.pur Try.func98 (by kernel_rfl) rfl fun d x hx => ?_
  obtain ⟨N, C⟩ := x
  obtain ⟨hN, hC⟩ := hx
  simp only at hN hC ⊢
  refine Holds.go (c := cxCpS) Try.func98 rfl Try.results98 Try.ntmps98 (by omega) (by simp) rfl ?_
  intro X0 w0
  (repeat' (first | refine WP.seq ?_ | refine WP.block ?_ | ((first | refine WP.region ?_ | refine WP.condW ?_ | refine WP.ret ?_ | refine WP.exit ?_ | refine WP.skip ?_); simp only [go_sem, tyAll, Nat.reduceAdd, Nat.reduceLT, Nat.reduceLeDiff, Nat.reduceEqDiff, Nat.reduceMul, Nat.reduceSub, Nat.reduceGT, reduceIte, Int.reduceNeg, Int.reduceToNat]) | ((first | refine WP.flowW 6 fl9d07e2ccfb [3, 4, 5, 6, 7, 8] [5, 6] [] (by decide +kernel) (by kernel_rfl) (by kernel_rfl) (by kernel_rfl) ?_); simp only [go_sem, tyAll, Nat.reduceAdd, Nat.reduceLT, Nat.reduceLeDiff, Nat.reduceEqDiff, Nat.reduceMul, Nat.reduceSub, Nat.reduceGT, reduceIte, Int.reduceNeg, Int.reduceToNat]) |  refine And.intro ?_ ?_ | intro _))
  all_goals first | omega | exact rlNode ‹_› | exact rlI ‹_› | exact ⟨_, _, _, rfl⟩ | exact ⟨_, _, rfl, _, _, rfl, rfl⟩ | exact if_neg (by omega) | skip
end
section
noncomputable def cxCpI : Cx := { P := Try.prog, tys := tys, C := [(132, kCopyStk)], hty := tysOk, hC := COk.cons cCopyStkI (COk.nil _) }
theorem cxCpI_t : cxCpI.tys = tys := rfl
theorem cxCpI_c : cxCpI.C = [(132, kCopyStk)] := rfl
attribute [local go_sem] cxCpI_t cxCpI_c kCopyStk
theorem cCopyPrI : Cn Try.prog 102 kCopyPr := by
  refine Cn.pur Try.func102 (by kernel_rfl) rfl fun d x hx => ?_
  obtain ⟨N, C⟩ := x
  obtain ⟨hN, hC⟩ := hx
  simp only at hN hC ⊢
  refine Holds.go (c := cxCpI) Try.func102 rfl Try.results102 Try.ntmps102 (by omega) (by simp) rfl ?_
  intro X0 w0
  (repeat' (first | refine WP.seq ?_ | refine WP.block ?_ | ((first | refine WP.region ?_ | refine WP.condW ?_ | refine WP.ret ?_ | refine WP.exit ?_ | refine WP.skip ?_); simp only [go_sem, tyAll, Nat.reduceAdd, Nat.reduceLT, Nat.reduceLeDiff, Nat.reduceEqDiff, Nat.reduceMul, Nat.reduceSub, Nat.reduceGT, reduceIte, Int.reduceNeg, Int.reduceToNat]) | ((first | refine WP.flowW 6 fl9d07e2ccfb [3, 4, 5, 6, 7, 8] [5, 6] [] (by decide +kernel) (by kernel_rfl) (by kernel_rfl) (by kernel_rfl) ?_); simp only [go_sem, tyAll, Nat.reduceAdd, Nat.reduceLT, Nat.reduceLeDiff, Nat.reduceEqDiff, Nat.reduceMul, Nat.reduceSub, Nat.reduceGT, reduceIte, Int.reduceNeg, Int.reduceToNat]) |  refine And.intro ?_ ?_ | intro _))
  all_goals first | omega | exact rlNode ‹_› | exact rlI ‹_› | exact ⟨_, _, _, rfl⟩ | exact ⟨_, _, rfl, _, _, rfl, rfl⟩ | exact if_neg (by omega) | skip
end
end
section
open Go.Vc
set_option linter.unusedSimpArgs false
set_option linter.unusedVariables false
set_option maxHeartbeats 1000000
set_option maxRecDepth 10000
attribute [local irreducible] Go.Vc.WP
attribute [local go_sem] cx0_t cx0_c
def flc3c988df08 : List Go.Vc.Fp := [⟨[6], [], [], [55], [], []⟩, ⟨[47], [0], [], [55], [], []⟩, ⟨[7], [], [], [55], [], []⟩, ⟨[1], [], [], [55], [], []⟩, ⟨[8], [], [], [55], [], []⟩, ⟨[50, 51], [3, 4], [], [55], [], []⟩, ⟨[52], [3, 4, 5], [], [55], [], []⟩, ⟨[49, 53], [2, 3, 4, 5, 6], [], [55], [], []⟩, ⟨[54], [2, 3, 4, 5, 6, 7], [], [], [], [55]⟩, ⟨[], [0, 1, 2, 3, 4, 5, 6, 7, 8], [], [], [], []⟩, ⟨[], [0, 1, 2, 3, 4, 5, 6, 7, 8, 9], [], [], [], []⟩, ⟨[], [0, 1, 2, 3, 4, 5, 6, 7, 8, 9, 10], [], [], [], []⟩]
attribute [local go_sem] flc3c988df08
attribute [local go_sem] decNode_enc decFrame_enc oneFrame_enc stkA oneFrame_ab oneNode_abc
theorem intGo_step {L : List Frame} {k : Nat} (hk : k < L.length) (s : List Node × Int) : intGo (L.drop k) s = intGo (L.drop (k + 1)) (if child s.1 s.2 L[k] < 0 then (s.1 ++ [mkNode s.2 L[k]], (s.1.length : Int)) else (s.1, child s.1 s.2 L[k])) := by
  rw [List.drop_eq_getElem_cons hk, intGo]
theorem intern_no {N : List Node} {L : List Frame} (h : stacksOk N = false ∨ L.length = 0) : intern N L = (N, -1) := by
  unfold intern
  rw [if_neg]
  rintro ⟨h1, h2, _⟩
  rcases h with h | h
  · rw [h1] at h; cases h
  · exact h2 (List.eq_nil_of_length_eq_zero h)
theorem intern_bad {N : List Node} {L : List Frame} {k : Nat} (hk : k < L.length) (h : frOk L[k] = false) : intern N L = (N, -1) := by
  unfold intern
  rw [if_neg]
  rintro ⟨_, _, h3⟩
  rw [List.all_eq_true] at h3
  rw [h3 _ (List.getElem_mem hk)] at h; cases h
def wfF (L : List Frame) : Prop := L.length ≤ 1099511627776 ∧ ∀ f ∈ L, f.name.size ≤ 1099511627776
def kIntern : Ctr := pur (fun args => (stkA args 0, decFrame (aR args 1))) (fun x => [.agg [.sl 3 (x.1.map encNode)], .sl 2 (x.2.map encFrame)]) (fun x => (x.1.length + x.2.length ≤ 4398046511104 ∧ ∀ n ∈ x.1, n.name.size ≤ 1099511627776) ∧ ∀ f ∈ x.2, f.name.size ≤ 1099511627776)
  (fun d x => .tup [.agg [.own d], .v (.int .i64 (intern x.1 x.2).2)]) (fun d x => [(d, .sl 187 3 ((intern x.1 x.2).1.map encNode))])
theorem bndN {N M : List Node} {L : List Frame} {k : Nat} (h1 : M.length ≤ N.length + k) (h2 : k ≤ L.length) (h3 : N.length + L.length ≤ 4398046511104) : M.length ≤ 4398046511104 := by omega
section
noncomputable def cxInS : Cx := { P := Try.prog, tys := tys, C := [(123, kStOk), (128, kCopyStk), (129, kFrOk), (130, kChild)], hty := tysOk, hC := COk.cons cStOkS (COk.cons cCopyStkS (COk.cons cFrOkS (COk.cons cChildS (COk.nil _)))) }
theorem cxInS_t : cxInS.tys = tys := rfl
theorem cxInS_c : cxInS.C = [(123, kStOk), (128, kCopyStk), (129, kFrOk), (130, kChild)] := rfl
attribute [local go_sem] cxInS_t cxInS_c kStOk kCopyStk kFrOk kChild
theorem cInternS : Cn Try.prog 99 kIntern := by
  refine Cn.pur Try.func99 (by kernel_rfl) rfl fun d x hx => ?_
  obtain ⟨N, L⟩ := x
  obtain ⟨⟨hN, hs⟩, hL⟩ := hx
  simp only at hN hs hL ⊢
  refine Holds.go (c := cxInS) Try.func99 rfl Try.results99 Try.ntmps99 (by omega) (by simp) rfl ?_
  intro X0 w0
  (repeat' (first | refine WP.seq ?_ | refine WP.block ?_ | ((first | refine WP.region ?_ | refine WP.condW ?_ | refine WP.ret ?_ | refine WP.exit ?_ | refine WP.skip ?_); simp only [go_sem, tyAll, Nat.reduceAdd, Nat.reduceLT, Nat.reduceLeDiff, Nat.reduceEqDiff, Nat.reduceMul, Nat.reduceSub, Nat.reduceGT, reduceIte, Int.reduceNeg, Int.reduceToNat]) | ((first | refine WP.flowW 9 flc3c988df08 [47, 48, 49, 50, 51, 52, 53, 54, 55] [55] [] (by decide +kernel) (by kernel_rfl) (by kernel_rfl) (by kernel_rfl) ?_ | refine WP.drawW 7 (by decide +kernel) (by kernel_rfl) ?_); simp only [go_sem, tyAll, Nat.reduceAdd, Nat.reduceLT, Nat.reduceLeDiff, Nat.reduceEqDiff, Nat.reduceMul, Nat.reduceSub, Nat.reduceGT, reduceIte, Int.reduceNeg, Int.reduceToNat]) |  refine And.intro ?_ ?_ | intro _))
  all_goals first | omega | exact hs _ ‹_› | exact ⟨_, _, _, rfl⟩ | exact ⟨_, _, rfl, _, _, rfl, rfl⟩ | skip
  · rename_i h; rw [intern_no (h.imp_right fun e => by omega)]
  · rename_i h; rw [intern_no (h.imp_right fun e => by omega)]
  rename_i h
  have hi : intern N L = if L.all frOk = true then intGo L (N, -1) else (N, -1) := by
    unfold intern
    by_cases ha : L.all frOk = true
    · rw [if_pos ha, if_pos ⟨h.1, fun e => by subst e; simp at h, ha⟩]
    · rw [if_neg ha, if_neg fun hc => ha hc.2.2]
  refine WP.loop (fun s : Nat × List Node × Int => ⟨[(1, .sl 2 (L.map encFrame)), (2, .ptr 2 0 0 0), (4, .ptr 4 0 0 0), (6, .ptr 6 0 0 0), (7, .v (.int .i64 s.2.2)), (8, .v (.int .i64 s.1))],
    [(2, .box 41 [.sl 3 (N.map encNode)]), (4, .box 41 [.v (.slice none 0 0)]), (6, .box 41 [.own 11]), (11, .sl 187 3 (s.2.1.map encNode))]⟩)
    (fun s => s.1 ≤ L.length ∧ (∀ j (hj : j < L.length), j < s.1 → frOk L[j] = true) ∧ intGo L (N, -1) = intGo (L.drop s.1) s.2 ∧ s.2.1.length ≤ N.length + s.1 ∧ -1 ≤ s.2.2 ∧ s.2.2 < s.2.1.length) (fun s => L.length - s.1) (0, N, -1) ⟨by simp, by simp, by simp, by simp, by simp only; omega, by simp only; omega⟩ ?_ ?_
  · (simp only [go_sem, tyAll, Nat.reduceAdd, Nat.reduceLT, Nat.reduceLeDiff, Nat.reduceEqDiff, Nat.reduceMul, Nat.reduceSub, Nat.reduceGT, reduceIte, Int.reduceNeg, Int.reduceToNat] <;> (first | rfl | exact ⟨rfl, rfl⟩ | exact ⟨rfl, rfl, rfl⟩ | exact ⟨rfl, rfl, rfl, rfl⟩ | exact ⟨rfl, rfl, rfl, rfl, rfl⟩ | exact ⟨⟨rfl, rfl⟩, rfl⟩ | simp))
  rintro ⟨k, M, at'⟩ ⟨hk, hf, hg, hm, ha0, ha1⟩
  simp only at hk hf hg hm ha0 ha1 ⊢
  by_cases hlt : k < L.length
  · have h1 := rowAt_map encFrame L k hlt
    have hnm := hL _ (List.getElem_mem hlt)
    have hst := intGo_step hlt (M, at')
    have hcb := child_bound M at' L[k]
    rw [← hg] at hst
    simp only at hst hcb
    (repeat' (first | refine WP.seq ?_ | refine WP.block ?_ | ((first | refine WP.region ?_ | refine WP.condW ?_ | refine WP.ret ?_ | refine WP.exit ?_ | refine WP.skip ?_); simp only [go_sem, h1, encFrame, tyAll, Nat.reduceAdd, Nat.reduceLT, Nat.reduceLeDiff, Nat.reduceEqDiff, Nat.reduceMul, Nat.reduceSub, Nat.reduceGT, reduceIte, Int.reduceNeg, Int.reduceToNat]) | ((first | refine WP.flowW 9 flc3c988df08 [47, 48, 49, 50, 51, 52, 53, 54, 55] [55] [] (by decide +kernel) (by kernel_rfl) (by kernel_rfl) (by kernel_rfl) ?_ | refine WP.drawW 7 (by decide +kernel) (by kernel_rfl) ?_); simp only [go_sem, h1, encFrame, tyAll, Nat.reduceAdd, Nat.reduceLT, Nat.reduceLeDiff, Nat.reduceEqDiff, Nat.reduceMul, Nat.reduceSub, Nat.reduceGT, reduceIte, Int.reduceNeg, Int.reduceToNat]) |  refine And.intro ?_ ?_ | intro _))
    all_goals first | omega | exact rlNode ‹_› | exact ⟨_, _, _, rfl⟩ | exact ⟨_, _, rfl, _, _, rfl, rfl⟩ | skip
    · rename_i hb; rw [intern_bad hlt hb]
    · rename_i hb; rw [intern_bad hlt hb]
    · rename_i hfr hc
      have hc' : child M at' L[k] < 0 := hc
      rw [if_pos hc'] at hst
      refine ⟨(k + 1, M ++ [mkNode at' L[k]], (M.length : Int)), ⟨by simp only; omega, fun j hj hjk => ?_, hst, by simp only [List.length_append, List.length_cons, List.length_nil]; omega, by simp only; omega, by simp only [List.length_append, List.length_cons, List.length_nil]; omega⟩, by simp only; omega, by (first | rfl | exact ⟨rfl, rfl⟩ | exact ⟨rfl, rfl, rfl⟩ | exact ⟨rfl, rfl, rfl, rfl⟩ | exact ⟨rfl, rfl, rfl, rfl, rfl⟩ | exact ⟨⟨rfl, rfl⟩, rfl⟩ | simp), by simp only [List.map_append, List.map_cons, List.map_nil]; rfl⟩
      rcases Nat.lt_or_ge j k with hh | hh
      · exact hf j hj hh
      · have : j = k := by omega
        subst this; exact hfr
    · rename_i hfr hc
      have hc' : ¬ child M at' L[k] < 0 := by show ¬ child M at' ⟨L[k].name, L[k].line⟩ < 0; omega
      rw [if_neg hc'] at hst
      refine ⟨(k + 1, M, child M at' L[k]), ⟨by simp only; omega, fun j hj hjk => ?_, hst, by simp only; omega, by simp only; omega, by simp only; omega⟩, by simp only; omega, by (first | rfl | exact ⟨rfl, rfl⟩ | exact ⟨rfl, rfl, rfl⟩ | exact ⟨rfl, rfl, rfl, rfl⟩ | exact ⟨rfl, rfl, rfl, rfl, rfl⟩ | exact ⟨⟨rfl, rfl⟩, rfl⟩ | simp)⟩
      rcases Nat.lt_or_ge j k with hh | hh
      · exact hf j hj hh
      · have : j = k := by omega
        subst this; exact hfr
  · have hall : L.all frOk = true := by
      rw [List.all_eq_true]
      intro f hfm
      obtain ⟨j, hj, rfl⟩ := List.mem_iff_getElem.1 hfm
      exact hf j hj (by omega)
    rw [if_pos hall, hg, show k = L.length by omega, List.drop_length, intGo] at hi
    (repeat' (first | refine WP.seq ?_ | refine WP.block ?_ | ((first | refine WP.region ?_ | refine WP.condW ?_ | refine WP.ret ?_ | refine WP.exit ?_ | refine WP.skip ?_); simp only [go_sem, tyAll, Nat.reduceAdd, Nat.reduceLT, Nat.reduceLeDiff, Nat.reduceEqDiff, Nat.reduceMul, Nat.reduceSub, Nat.reduceGT, reduceIte, Int.reduceNeg, Int.reduceToNat]) | ((first | refine WP.flowW 9 flc3c988df08 [47, 48, 49, 50, 51, 52, 53, 54, 55] [55] [] (by decide +kernel) (by kernel_rfl) (by kernel_rfl) (by kernel_rfl) ?_ | refine WP.drawW 7 (by decide +kernel) (by kernel_rfl) ?_); simp only [go_sem, tyAll, Nat.reduceAdd, Nat.reduceLT, Nat.reduceLeDiff, Nat.reduceEqDiff, Nat.reduceMul, Nat.reduceSub, Nat.reduceGT, reduceIte, Int.reduceNeg, Int.reduceToNat]) |  refine And.intro ?_ ?_ | intro _))
    all_goals first | omega | exact rlNode ‹_› | exact ⟨_, _, _, rfl⟩ | exact ⟨_, _, rfl, _, _, rfl, rfl⟩ | skip
    · rw [hi]
    · rw [hi]
end
section
noncomputable def cxInI : Cx := { P := Try.prog, tys := tys, C := [(131, kStOk), (132, kCopyStk), (133, kFrOk), (134, kChild)], hty := tysOk, hC := COk.cons cStOkI (COk.cons cCopyStkI (COk.cons cFrOkI (COk.cons cChildI (COk.nil _)))) }
theorem cxInI_t : cxInI.tys = tys := rfl
theorem cxInI_c : cxInI.C = [(131, kStOk), (132, kCopyStk), (133, kFrOk), (134, kChild)] := rfl
attribute [local go_sem] cxInI_t cxInI_c kStOk kCopyStk kFrOk kChild
theorem cInternI : Cn Try.prog 103 kIntern := by
  refine Cn.pur Try.func103 (by kernel_rfl) rfl fun d x hx => ?_
  obtain ⟨N, L⟩ := x
  obtain ⟨⟨hN, hs⟩, hL⟩ := hx
  simp only at hN hs hL ⊢
  refine Holds.go (c := cxInI) Try.func103 rfl Try.results103 Try.ntmps103 (by omega) (by simp) rfl ?_
  intro X0 w0
  (repeat' (first | refine WP.seq ?_ | refine WP.block ?_ | ((first | refine WP.region ?_ | refine WP.condW ?_ | refine WP.ret ?_ | refine WP.exit ?_ | refine WP.skip ?_); simp only [go_sem, tyAll, Nat.reduceAdd, Nat.reduceLT, Nat.reduceLeDiff, Nat.reduceEqDiff, Nat.reduceMul, Nat.reduceSub, Nat.reduceGT, reduceIte, Int.reduceNeg, Int.reduceToNat]) |  refine And.intro ?_ ?_ | intro _))
  all_goals first | omega | exact hs _ ‹_› | exact ⟨_, _, _, rfl⟩ | exact ⟨_, _, rfl, _, _, rfl, rfl⟩ | skip
  · rename_i h; rw [intern_no (h.imp_right fun e => by omega)]
  · rename_i h; rw [intern_no (h.imp_right fun e => by omega)]
  rename_i h
  have hi : intern N L = if L.all frOk = true then intGo L (N, -1) else (N, -1) := by
    unfold intern
    by_cases ha : L.all frOk = true
    · rw [if_pos ha, if_pos ⟨h.1, fun e => by subst e; simp at h, ha⟩]
    · rw [if_neg ha, if_neg fun hc => ha hc.2.2]
  refine WP.loop (fun k : Nat => ⟨[(1, .sl 2 (L.map encFrame)), (4, .ptr 4 0 0 0), (6, .ptr 6 0 0 0), (24, .sl 2 (L.map encFrame)), (25, .v (.int .i64 L.length)), (26, .v (.int .i64 k))],
    [(4, .box 41 [.v (.slice none 0 0)]), (6, .box 41 [.own 14]), (14, .sl 187 3 (N.map encNode))]⟩)
    (fun k => k ≤ L.length ∧ (∀ j (hj : j < L.length), j < k → frOk L[j] = true)) (fun k => L.length - k) 0 ⟨by simp, by simp⟩ ?_ ?_
  · (simp only [go_sem, tyAll, Nat.reduceAdd, Nat.reduceLT, Nat.reduceLeDiff, Nat.reduceEqDiff, Nat.reduceMul, Nat.reduceSub, Nat.reduceGT, reduceIte, Int.reduceNeg, Int.reduceToNat] <;> (first | rfl | exact ⟨rfl, rfl⟩ | exact ⟨rfl, rfl, rfl⟩ | exact ⟨rfl, rfl, rfl, rfl⟩ | exact ⟨rfl, rfl, rfl, rfl, rfl⟩ | exact ⟨⟨rfl, rfl⟩, rfl⟩ | simp))
  intro k ⟨hk, hf⟩
  by_cases hlt : k < L.length
  · have h1 := rowAt_map encFrame L k hlt
    have hnm := hL _ (List.getElem_mem hlt)
    (repeat' (first | refine WP.seq ?_ | refine WP.block ?_ | ((first | refine WP.region ?_ | refine WP.condW ?_ | refine WP.ret ?_ | refine WP.exit ?_ | refine WP.skip ?_); simp only [go_sem, h1, encFrame, tyAll, Nat.reduceAdd, Nat.reduceLT, Nat.reduceLeDiff, Nat.reduceEqDiff, Nat.reduceMul, Nat.reduceSub, Nat.reduceGT, reduceIte, Int.reduceNeg, Int.reduceToNat]) |  refine And.intro ?_ ?_ | intro _))
    all_goals first | omega | exact rlNode ‹_› | exact ⟨_, _, _, rfl⟩ | exact ⟨_, _, rfl, _, _, rfl, rfl⟩ | skip
    · rename_i hb; rw [intern_bad hlt hb]
    · rename_i hb; rw [intern_bad hlt hb]
    · rename_i hfr
      refine ⟨k + 1, ⟨by omega, fun j hj hjk => ?_⟩, by omega, by (first | rfl | exact ⟨rfl, rfl⟩ | exact ⟨rfl, rfl, rfl⟩ | exact ⟨rfl, rfl, rfl, rfl⟩ | exact ⟨rfl, rfl, rfl, rfl, rfl⟩ | exact ⟨⟨rfl, rfl⟩, rfl⟩ | simp)⟩
      rcases Nat.lt_or_ge j k with hh | hh
      · exact hf j hj hh
      · have : j = k := by omega
        subst this; exact hfr
  have hall : L.all frOk = true := by
    rw [List.all_eq_true]
    intro f hfm
    obtain ⟨j, hj, rfl⟩ := List.mem_iff_getElem.1 hfm
    exact hf j hj (by omega)
  rw [if_pos hall] at hi
  (repeat' (first | refine WP.seq ?_ | refine WP.block ?_ | ((first | refine WP.region ?_ | refine WP.condW ?_ | refine WP.ret ?_ | refine WP.exit ?_ | refine WP.skip ?_); simp only [go_sem, tyAll, Nat.reduceAdd, Nat.reduceLT, Nat.reduceLeDiff, Nat.reduceEqDiff, Nat.reduceMul, Nat.reduceSub, Nat.reduceGT, reduceIte, Int.reduceNeg, Int.reduceToNat]) |  refine And.intro ?_ ?_ | intro _))
  all_goals first | omega | skip
  refine WP.loop (fun s : Nat × List Node × Int => ⟨[(4, .ptr 4 0 0 0), (6, .ptr 6 0 0 0), (9, .v (.int .i64 s.2.2)), (35, .sl 2 (L.map encFrame)), (36, .v (.int .i64 L.length)), (37, .v (.int .i64 s.1))],
    [(4, .box 41 [.v (.slice none 0 0)]), (6, .box 41 [.own 14]), (14, .sl 187 3 (s.2.1.map encNode))]⟩)
    (fun s => s.1 ≤ L.length ∧ intGo L (N, -1) = intGo (L.drop s.1) s.2 ∧ s.2.1.length ≤ N.length + s.1 ∧ -1 ≤ s.2.2 ∧ s.2.2 < s.2.1.length) (fun s => L.length - s.1) (0, N, -1) ⟨by simp, by simp, by simp, by simp only; omega, by simp only; omega⟩ ?_ ?_
  · (simp only [go_sem, tyAll, Nat.reduceAdd, Nat.reduceLT, Nat.reduceLeDiff, Nat.reduceEqDiff, Nat.reduceMul, Nat.reduceSub, Nat.reduceGT, reduceIte, Int.reduceNeg, Int.reduceToNat] <;> (first | rfl | exact ⟨rfl, rfl⟩ | exact ⟨rfl, rfl, rfl⟩ | exact ⟨rfl, rfl, rfl, rfl⟩ | exact ⟨rfl, rfl, rfl, rfl, rfl⟩ | exact ⟨⟨rfl, rfl⟩, rfl⟩ | simp))
  rintro ⟨k, M, at'⟩ ⟨hk, hg, hm, ha0, ha1⟩
  simp only at hk hg hm ha0 ha1 ⊢
  by_cases hlt : k < L.length
  · have h1 := rowAt_map encFrame L k hlt
    have hnm := hL _ (List.getElem_mem hlt)
    have hst := intGo_step hlt (M, at')
    have hcb := child_bound M at' L[k]
    rw [← hg] at hst
    simp only at hst hcb
    (repeat' (first | refine WP.seq ?_ | refine WP.block ?_ | ((first | refine WP.region ?_ | refine WP.condW ?_ | refine WP.ret ?_ | refine WP.exit ?_ | refine WP.skip ?_); simp only [go_sem, h1, encFrame, tyAll, Nat.reduceAdd, Nat.reduceLT, Nat.reduceLeDiff, Nat.reduceEqDiff, Nat.reduceMul, Nat.reduceSub, Nat.reduceGT, reduceIte, Int.reduceNeg, Int.reduceToNat]) |  refine And.intro ?_ ?_ | intro _))
    all_goals first | omega | exact rlNode ‹_› | exact ⟨_, _, _, rfl⟩ | exact ⟨_, _, rfl, _, _, rfl, rfl⟩ | skip
    · rename_i hc
      have hc' : child M at' L[k] < 0 := hc
      rw [if_pos hc'] at hst
      refine ⟨(k + 1, M ++ [mkNode at' L[k]], (M.length : Int)), ⟨by simp only; omega, hst, by simp only [List.length_append, List.length_cons, List.length_nil]; omega, by simp only; omega, by simp only [List.length_append, List.length_cons, List.length_nil]; omega⟩, by simp only; omega, by (first | rfl | exact ⟨rfl, rfl⟩ | exact ⟨rfl, rfl, rfl⟩ | exact ⟨rfl, rfl, rfl, rfl⟩ | exact ⟨rfl, rfl, rfl, rfl, rfl⟩ | exact ⟨⟨rfl, rfl⟩, rfl⟩ | simp), by simp only [List.map_append, List.map_cons, List.map_nil]; rfl⟩
    · rename_i hc
      have hc' : ¬ child M at' L[k] < 0 := by show ¬ child M at' ⟨L[k].name, L[k].line⟩ < 0; omega
      rw [if_neg hc'] at hst
      refine ⟨(k + 1, M, child M at' L[k]), ⟨by simp only; omega, hst, by simp only; omega, by simp only; omega, by simp only; omega⟩, by simp only; omega, by (first | rfl | exact ⟨rfl, rfl⟩ | exact ⟨rfl, rfl, rfl⟩ | exact ⟨rfl, rfl, rfl, rfl⟩ | exact ⟨rfl, rfl, rfl, rfl, rfl⟩ | exact ⟨⟨rfl, rfl⟩, rfl⟩ | simp)⟩
  · rw [hg, show k = L.length by omega, List.drop_length, intGo] at hi
    (repeat' (first | refine WP.seq ?_ | refine WP.block ?_ | ((first | refine WP.region ?_ | refine WP.condW ?_ | refine WP.ret ?_ | refine WP.exit ?_ | refine WP.skip ?_); simp only [go_sem, tyAll, Nat.reduceAdd, Nat.reduceLT, Nat.reduceLeDiff, Nat.reduceEqDiff, Nat.reduceMul, Nat.reduceSub, Nat.reduceGT, reduceIte, Int.reduceNeg, Int.reduceToNat]) |  refine And.intro ?_ ?_ | intro _))
    all_goals first | omega | exact rlNode ‹_› | exact ⟨_, _, _, rfl⟩ | exact ⟨_, _, rfl, _, _, rfl, rfl⟩ | skip
    · rw [hi]
    · rw [hi]
end
end
end Go.Proofs.Ytdbjioanlkilkaa
