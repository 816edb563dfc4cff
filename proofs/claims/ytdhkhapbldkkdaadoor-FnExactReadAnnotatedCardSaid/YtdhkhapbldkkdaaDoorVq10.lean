/-
  DERIVED. Several texts of ours in one: VgLineCount, VtNum31, VtPL, VpNest, VtLine2, VtRdI.
-/
import Derived.Test.YtdhkhapbldkkdaaDoorVq0
import Derived.Test.YtdhkhapbldkkdaaDoorVq1
import Derived.Test.YtdhkhapbldkkdaaDoorVq2
import Derived.Test.YtdhkhapbldkkdaaDoorVq3
import Derived.Test.YtdhkhapbldkkdaaDoorVq4
import Derived.Test.YtdhkhapbldkkdaaDoorVq5
import Derived.Test.YtdhkhapbldkkdaaDoorVq6
import Derived.Test.YtdhkhapbldkkdaaDoorVq7
import Derived.Test.YtdhkhapbldkkdaaDoorVq8
import Derived.Test.YtdhkhapbldkkdaaDoorVq9
set_option linter.unusedSimpArgs false
set_option linter.unusedVariables false
namespace Go.Proofs.YtdhkhapbldkkdaaDoor
open Go.Vc
attribute [local go_sem] St.runR St.runW St.stepV offV St.step St.stepU St.stepG mkCond guardB St.prK St.pr St.prLen St.eff St.callE St.callD St.callF St.callL aI aB aS aR aC St.isM St.argL Ctr.pure Ctr.lend Ctr.move Ctr.isL Ctr.wri pur len lentBy St.lentV St.lent1 nthS argsR restOf obsR pairs swapL unObs backL St.resL erL SV.ren1 SV.up SV.up2 Ob.up St.fzL cellIds partIds St.intoRow SV.ownId St.fz SV.fz1 St.prep St.mvL St.mv SV.re1 rnOk St.prEq vals eqCells scEq Value.kd St.prStr St.prCut cutR St.bnd St.prMin St.bld isShift outL retL outJ oR oC oE oD SV.upq SV.isSl SV.shut St.deepK St.dpArg St.deepQ absC Ob.pl St.ev St.get St.put St.new St.kill SV.kill SV.kill1 Ob.kill St.app St.wrt St.rowsOf St.res St.killL lk er argsL SV.strip SV.need SV.share SV.share1 SV.owns SV.owns1 SV.owns2 SV.good SV.good1 SV.rok SV.rok1 SV.rok2 SV.isV SV.isV2 nodupN SV.cells SV.one SV.pur Ob.pb partsIn rowsIn splice cellsAt dstOk scal2 scal1 thenK blockK retK outK outs okC okL okA okT nilC nilL nilA nilT keepC keepL keepA keepT St.runG St.dltK St.least St.clean St.final St.hide offK badS badO SV.refs SV.leaf SV.leaf2 Ob.refs dlOk fpAt Go.Vc.cover tups SV.ofAgg St.out outC subL St.has rng wr Value.oneCell' Option.isSome_some Option.isSome_none List.nil_append Bool.false_eq_true List.map_cons List.map_nil List.all_cons List.all_nil List.length_cons List.length_nil List.drop_zero List.drop_succ_cons List.take_succ_cons List.take_zero List.drop_nil List.take_nil List.getElem?_cons_zero List.getElem?_cons_succ List.getElem?_nil List.cons_append List.nil_append List.append_nil List.append_assoc List.flatMap_cons List.flatMap_nil List.contains_cons List.contains_nil List.set_cons_zero List.set_cons_succ List.getElem?_toArray Option.getD_some Option.getD_none Option.map_some Option.map_none Option.bind_some Option.some.injEq Prod.mk.injEq if_true if_false true_and and_true and_self and_false false_and Bool.and_false Bool.false_and Bool.or_true Bool.true_or Bool.or_false Bool.false_or ne_eq not_true_eq_false not_false_eq_true decide_true decide_false List.mem_cons List.not_mem_nil List.filter_cons List.filter_nil List.any_cons List.any_nil List.isEmpty_nil List.isEmpty_cons Option.getD_none or_false false_or true_or or_true forall_eq_or_imp forall_eq reduceCtorEq exists_eq exists_eq' exists_eq_left' exists_eq_left exists_eq_right exists_eq_right' imp_self implies_true Bool.and_true Bool.true_and Bool.and_self beq_self_eq_true List.replicate_succ List.replicate_zero forall_const false_implies pickB_or pickB_and beqT beqF Int.toNat_natCast List.length_map List.length_replicate ge_iff_le gt_iff_lt decide_eq_true_eq decide_eq_false_iff_not Bool.and_eq_true Bool.or_eq_true Bool.not_eq_true' Bool.not_eq_false' condG List.toList_toArray Bool.or_eq_false_iff Bool.and_eq_false_iff Int.not_lt Int.not_le beq_iff_eq beq_eq_false_iff_ne bne_iff_ne bne_eq_false_iff_eq ne_eq Bool.not_true Bool.not_false exists_and_left
section
open Go.Vc
set_option linter.unusedSimpArgs false
set_option linter.unusedVariables false
set_option maxHeartbeats 1000000
attribute [local irreducible] Go.Vc.WP
attribute [local go_sem] cx0_t cx0_c

structure LineCount where
  self : Int
  total : Int
deriving DecidableEq
def encLineCount (x : LineCount) : List SV := [.v (.int .i64 x.self), .v (.int .i64 x.total)]
def oneLineCount : List SV → LineCount
  | [.v (.int _ self), .v (.int _ total)] => ⟨self, total⟩
  | _ => ⟨0, 0⟩
def decLineCount (rows : List (List SV)) : List LineCount := rows.map oneLineCount
theorem oneLineCount_enc (x : LineCount) : oneLineCount (encLineCount x) = x := rfl
theorem decLineCount_enc (L : List LineCount) : decLineCount (L.map encLineCount) = L := by
  unfold decLineCount
  rw [List.map_map]
  exact List.map_id'' oneLineCount_enc L
theorem isV_LineCount {e s : Nat} (L : List LineCount) : (Ob.sl e s (L.map encLineCount)).isV ↔ True := iff_true_intro (by
  intro row hr c hc
  obtain ⟨n, _, rfl⟩ := List.mem_map.1 hr
  simp only [encLineCount, List.mem_cons, List.not_mem_nil, or_false] at hc
  rcases hc with rfl | rfl <;> exact ⟨_, rfl⟩)
def zerLineCount : List SV := [.v (.int .i64 0), .v (.int .i64 0)]

def keqLineCount : Ctr := pur (fun args => (oneLineCount (aC args 0), oneLineCount (aC args 1))) (fun x => [.agg (encLineCount x.1), .agg (encLineCount x.2)]) (fun _ => True) (fun _ x => .v (.bool (decide (x.1 = x.2)))) (fun _ _ => [])
theorem ceqLineCount : Cn Tryd.prog 17 keqLineCount := by
  refine Cn.pur Tryd.func17 (by kernel_rfl) rfl fun d x _ => ?_
  obtain ⟨⟨a0, a1⟩, ⟨b0, b1⟩⟩ := x
  refine Holds.go (c := cx0) Tryd.func17 rfl Tryd.results17 Tryd.ntmps17 (by omega) (by simp) rfl ?_
  intro X0 w0
  simp only [encLineCount]
  (repeat' (first | refine WP.seq ?_ | refine WP.block ?_ | ((first | refine WP.region ?_ | refine WP.condW ?_ | refine WP.ret ?_ | refine WP.exit ?_ | refine WP.skip ?_); simp only [go_sem, tyAll, Nat.reduceAdd, Nat.reduceLT, Nat.reduceLeDiff, Nat.reduceEqDiff, Nat.reduceMul, Nat.reduceSub, Nat.reduceGT, reduceIte, Int.reduceNeg, Int.reduceToNat]) |  refine And.intro ?_ ?_ | intro _))
  all_goals simp_all

noncomputable def cxeqLineCount : Cx := { P := Tryd.prog, tys := tys, C := [(17, keqLineCount)], hty := tysOk, hC := COk.cons ceqLineCount (COk.nil _) }
theorem cxeqLineCount_t : cxeqLineCount.tys = tys := rfl
theorem cxeqLineCount_c : cxeqLineCount.C = [(17, keqLineCount)] := rfl
def keqLineCountS : Ctr := pur (fun args => (decLineCount (aR args 0), decLineCount (aR args 1))) (fun x => [.sl 2 (x.1.map encLineCount), .sl 2 (x.2.map encLineCount)]) (fun x => x.1.length ≤ 4398046511104) (fun _ x => .v (.bool (decide (x.1 = x.2)))) (fun _ _ => [])
section
attribute [local go_sem] cxeqLineCount_t cxeqLineCount_c keqLineCount oneLineCount
theorem ceqLineCountS : Cn Tryd.prog 6 keqLineCountS := by
  refine Cn.pur Tryd.func6 (by kernel_rfl) rfl fun d x hL => ?_
  obtain ⟨L, M⟩ := x
  simp only at hL ⊢
  refine Holds.go (c := cxeqLineCount) Tryd.func6 rfl Tryd.results6 Tryd.ntmps6 (by omega) (by simp) rfl ?_
  intro X0 w0
  (repeat' (first | refine WP.seq ?_ | refine WP.block ?_ | ((first | refine WP.region ?_ | refine WP.condW ?_ | refine WP.ret ?_ | refine WP.exit ?_ | refine WP.skip ?_); simp only [go_sem, tyAll, Nat.reduceAdd, Nat.reduceLT, Nat.reduceLeDiff, Nat.reduceEqDiff, Nat.reduceMul, Nat.reduceSub, Nat.reduceGT, reduceIte, Int.reduceNeg, Int.reduceToNat]) |  refine And.intro ?_ ?_ | intro _))
  · simp; intro h; subst h; simp_all
  have hlen : L.length = M.length := by omega
  refine WP.loop (fun k : Nat => ⟨[(0, .sl 2 (L.map encLineCount)), (1, .sl 2 (M.map encLineCount)), (5, .v (.int .i64 k))], []⟩) (fun k => k ≤ L.length ∧ L.take k = M.take k) (fun k => L.length - k) 0 (by simp) ?_ ?_
  · simp only [go_sem, tyAll, Nat.reduceAdd, Nat.reduceLT, Nat.reduceLeDiff, Nat.reduceEqDiff, Nat.reduceMul, Nat.reduceSub, Nat.reduceGT, reduceIte, Int.reduceNeg, Int.reduceToNat]; rfl
  intro k ⟨hk, ht⟩
  by_cases hlt : k < L.length
  · have h1 := rowAt_map encLineCount L k hlt
    have h2 := rowAt_map encLineCount M k (by omega)
    (repeat' (first | refine WP.seq ?_ | refine WP.block ?_ | ((first | refine WP.region ?_ | refine WP.condW ?_ | refine WP.ret ?_ | refine WP.exit ?_ | refine WP.skip ?_); simp only [go_sem, h1, h2, encLineCount, tyAll, Nat.reduceAdd, Nat.reduceLT, Nat.reduceLeDiff, Nat.reduceEqDiff, Nat.reduceMul, Nat.reduceSub, Nat.reduceGT, reduceIte, Int.reduceNeg, Int.reduceToNat]) | (refine WP.drawW 10 (by kernel_rfl) (by kernel_rfl) ?_; simp only [go_sem, h1, h2, encLineCount, tyAll, Nat.reduceAdd, Nat.reduceLT, Nat.reduceLeDiff, Nat.reduceEqDiff, Nat.reduceMul, Nat.reduceSub, Nat.reduceGT, reduceIte, Int.reduceNeg, Int.reduceToNat]) |  refine And.intro ?_ ?_ | intro _))
    all_goals first | omega | skip
    · rename_i hne
      rw [show decide (L = M) = false from decide_eq_false fun e => by subst e; exact hne rfl]
    · rename_i he
      refine ⟨k + 1, ⟨by omega, ?_⟩, by omega, rfl⟩
      have he' : L[k] = M[k] := he
      rw [List.take_succ_eq_append_getElem hlt, List.take_succ_eq_append_getElem (by omega : k < M.length), ht, he']
  · (repeat' (first | refine WP.seq ?_ | refine WP.block ?_ | ((first | refine WP.region ?_ | refine WP.condW ?_ | refine WP.ret ?_ | refine WP.exit ?_ | refine WP.skip ?_); simp only [go_sem, tyAll, Nat.reduceAdd, Nat.reduceLT, Nat.reduceLeDiff, Nat.reduceEqDiff, Nat.reduceMul, Nat.reduceSub, Nat.reduceGT, reduceIte, Int.reduceNeg, Int.reduceToNat]) |  refine And.intro ?_ ?_ | intro _))
    all_goals first | omega | skip
    rw [show decide (L = M) = true from decide_eq_true ?_]
    rw [show k = L.length by omega, List.take_length, hlen, List.take_length] at ht
    exact ht
end

theorem extLineCount {a b : LineCount} (h0 : a.self = b.self) (h1 : a.total = b.total) : a = b := by cases a; cases b; simp_all
def mrkLineCount (v : Int) : LineCount := ⟨v, v + 1⟩
def marksLineCount (k : Int) (n : Nat) : List LineCount := (List.range n).map fun i : Nat => mrkLineCount (k + 2 * (i : Int))
theorem marksLineCount_len (k : Int) (n : Nat) : (marksLineCount k n).length = n := by simp [marksLineCount]
def halfLineCount (L : List LineCount) (k0 : Int) (k : Nat) : List LineCount := marksLineCount k0 k ++ L.drop k
theorem halfLineCount_len (L : List LineCount) (k0 : Int) (k : Nat) (h : k ≤ L.length) : (halfLineCount L k0 k).length = L.length := by simp [halfLineCount, marksLineCount_len]; omega
theorem halfLineCount_set (L : List LineCount) (k0 : Int) (k : Nat) (h : k < L.length) : ((halfLineCount L k0 k).map encLineCount).set k (encLineCount (mrkLineCount (k0 + 2 * (k : Int)))) = (halfLineCount L k0 (k + 1)).map encLineCount := by
  rw [← List.map_set]
  congr 1
  unfold halfLineCount
  rw [List.set_append, if_neg (by simp [marksLineCount_len]), marksLineCount_len, Nat.sub_self, List.drop_eq_getElem_cons h, List.set_cons_zero]
  simp [marksLineCount, List.range_succ]
noncomputable def cxMkLineCount : Cx := { P := Tryd.prog, tys := tys, C := [(19, kmarkT)], hty := tysOk, hC := COk.cons cmarkT (COk.nil _) }
theorem cxMkLineCount_t : cxMkLineCount.tys = tys := rfl
theorem cxMkLineCount_c : cxMkLineCount.C = [(19, kmarkT)] := rfl
attribute [local go_sem] cxMkLineCount_t cxMkLineCount_c kmarkT

def kmarkLineCountS : Ctr := len [0] [] (fun args obs => (decLineCount (oR obs 1000000), aI args 1)) (fun x => [.own 1000000, .v (.int .i64 x.2)]) (fun x => [(1000000, .sl 40 2 (x.1.map encLineCount))]) (fun x => x.1.length ≤ 4398046511104 ∧ 0 ≤ x.2 ∧ x.2 ≤ 500000000000000)
  (fun _ x => .v (.int .i64 (x.2 + 2 * x.1.length))) (fun _ _ => []) (fun x => [(1000000, .sl 40 2 ((marksLineCount x.2 x.1.length).map encLineCount))])
theorem cmarkLineCountS : Cn Tryd.prog 8 kmarkLineCountS := by
  refine Cn.len Tryd.func8 (by kernel_rfl) rfl fun d x hd hx => ?_
  obtain ⟨L, k0⟩ := x
  obtain ⟨hL, h0, h1⟩ := hx
  simp only at hL h0 h1 ⊢
  refine HoldsL.go (c := cxMkLineCount) Tryd.func8 rfl Tryd.results8 Tryd.ntmps8 (by omega) (by simp) rfl (by simp <;> omega) (by simp [SV.owns2, SV.owns, SV.owns1]) (by simp) rfl rfl (by simp) ?_
  intro X0 M w0
  (repeat' (first | refine WP.seq ?_ | refine WP.block ?_ | ((first | refine WP.region ?_ | refine WP.condW ?_ | refine WP.ret ?_ | refine WP.exit ?_ | refine WP.skip ?_); simp only [go_sem, tyAll, Nat.reduceAdd, Nat.reduceLT, Nat.reduceLeDiff, Nat.reduceEqDiff, Nat.reduceMul, Nat.reduceSub, Nat.reduceGT, reduceIte, Int.reduceNeg, Int.reduceToNat]) |  refine And.intro ?_ ?_ | intro _))
  refine WP.loop (fun k : Nat => ⟨[(0, .own 1000000), (1, .v (.int .i64 (k0 + 2 * (k : Int)))), (5, .v (.int .i64 k))], [(1000000, .sl 40 2 ((halfLineCount L k0 k).map encLineCount))]⟩) (fun k => k ≤ L.length) (fun k => L.length - k) 0 (by omega) ?_ ?_
  · have e : halfLineCount L k0 0 = L := by simp [halfLineCount, marksLineCount]
    rw [e]; (simp only [go_sem, tyAll, Nat.reduceAdd, Nat.reduceLT, Nat.reduceLeDiff, Nat.reduceEqDiff, Nat.reduceMul, Nat.reduceSub, Nat.reduceGT, reduceIte, Int.reduceNeg, Int.reduceToNat] <;> (first | rfl | exact ⟨rfl, rfl⟩ | exact ⟨rfl, rfl, rfl⟩ | exact ⟨rfl, rfl, rfl, rfl⟩ | exact ⟨rfl, rfl, rfl, rfl, rfl⟩ | exact ⟨⟨rfl, rfl⟩, rfl⟩ | simp))
  intro k hk
  have h2 := halfLineCount_len L k0 k hk
  by_cases hlt : k < L.length
  · have h3 := halfLineCount_set L k0 k hlt
    rw [encLineCount, mrkLineCount] at h3
    simp only at h3
    have h4 := rowAt_map encLineCount (halfLineCount L k0 k) k (by omega)
    have h5 : ∀ r : List SV, Go.Vc.rowAt (((halfLineCount L k0 k).map encLineCount).set k r) k = r := fun r => rowAt_set _ _ _ (by rw [List.length_map]; omega)
    (repeat' (first | refine WP.seq ?_ | refine WP.block ?_ | ((first | refine WP.region ?_ | refine WP.condW ?_ | refine WP.ret ?_ | refine WP.exit ?_ | refine WP.skip ?_); simp only [go_sem, h2, h3, h4, h5, encLineCount, List.set_set, List.length_set, tyAll, Nat.reduceAdd, Nat.reduceLT, Nat.reduceLeDiff, Nat.reduceEqDiff, Nat.reduceMul, Nat.reduceSub, Nat.reduceGT, reduceIte, Int.reduceNeg, Int.reduceToNat]) |  refine And.intro ?_ ?_ | intro _))
    all_goals first | omega | skip
    refine ⟨k + 1, by omega, by omega, ⟨?_, rfl⟩, rfl⟩
    rw [show k0 + 2 * (k : Int) + 1 + 1 = k0 + 2 * ((k + 1 : Nat) : Int) by omega]
  · have h5 : halfLineCount L k0 k = marksLineCount k0 L.length := by rw [show k = L.length by omega]; simp [halfLineCount]
    have h6 := marksLineCount_len k0 L.length
    (repeat' (first | refine WP.seq ?_ | refine WP.block ?_ | ((first | refine WP.region ?_ | refine WP.condW ?_ | refine WP.ret ?_ | refine WP.exit ?_ | refine WP.skip ?_); simp only [go_sem, h2, h5, h6, tyAll, Nat.reduceAdd, Nat.reduceLT, Nat.reduceLeDiff, Nat.reduceEqDiff, Nat.reduceMul, Nat.reduceSub, Nat.reduceGT, reduceIte, Int.reduceNeg, Int.reduceToNat]) |  refine And.intro ?_ ?_ | intro _))
    all_goals first | omega | skip
    all_goals rw [show k = L.length by omega]

def kheldLineCountS : Ctr := pur (fun args => (decLineCount (aR args 0), aI args 1)) (fun x => [.sl 2 (x.1.map encLineCount), .v (.int .i64 x.2)]) (fun x => x.1.length ≤ 4398046511104 ∧ 0 ≤ x.2 ∧ x.2 ≤ 500000000000000)
  (fun _ x => .v (.int .i64 (if x.1 = marksLineCount x.2 x.1.length then x.2 + 2 * x.1.length else -1))) (fun _ _ => [])
theorem cheldLineCountS : Cn Tryd.prog 10 kheldLineCountS := by
  refine Cn.pur Tryd.func10 (by kernel_rfl) rfl fun d x hx => ?_
  obtain ⟨L, k0⟩ := x
  obtain ⟨hL, h0, h1⟩ := hx
  simp only at hL h0 h1 ⊢
  refine Holds.go (c := cxMkLineCount) Tryd.func10 rfl Tryd.results10 Tryd.ntmps10 (by omega) (by simp) rfl ?_
  intro X0 w0
  (repeat' (first | refine WP.seq ?_ | refine WP.block ?_ | ((first | refine WP.region ?_ | refine WP.condW ?_ | refine WP.ret ?_ | refine WP.exit ?_ | refine WP.skip ?_); simp only [go_sem, tyAll, Nat.reduceAdd, Nat.reduceLT, Nat.reduceLeDiff, Nat.reduceEqDiff, Nat.reduceMul, Nat.reduceSub, Nat.reduceGT, reduceIte, Int.reduceNeg, Int.reduceToNat]) |  refine And.intro ?_ ?_ | intro _))
  refine WP.loop (fun k : Nat => ⟨[(0, .sl 2 (L.map encLineCount)), (1, .v (.int .i64 (k0 + 2 * (k : Int)))), (5, .v (.int .i64 k))], []⟩) (fun k => k ≤ L.length ∧ L.take k = marksLineCount k0 k) (fun k => L.length - k) 0 (by simp [marksLineCount]) ?_ ?_
  · (simp only [go_sem, tyAll, Nat.reduceAdd, Nat.reduceLT, Nat.reduceLeDiff, Nat.reduceEqDiff, Nat.reduceMul, Nat.reduceSub, Nat.reduceGT, reduceIte, Int.reduceNeg, Int.reduceToNat] <;> (first | rfl | exact ⟨rfl, rfl⟩ | exact ⟨rfl, rfl, rfl⟩ | exact ⟨rfl, rfl, rfl, rfl⟩ | exact ⟨rfl, rfl, rfl, rfl, rfl⟩ | exact ⟨⟨rfl, rfl⟩, rfl⟩ | simp))
  intro k ⟨hk, ht⟩
  by_cases hlt : k < L.length
  · have h3 := rowAt_map encLineCount L k hlt
    (repeat' (first | refine WP.seq ?_ | refine WP.block ?_ | ((first | refine WP.region ?_ | refine WP.condW ?_ | refine WP.ret ?_ | refine WP.exit ?_ | refine WP.skip ?_); simp only [go_sem, h3, encLineCount, tyAll, Nat.reduceAdd, Nat.reduceLT, Nat.reduceLeDiff, Nat.reduceEqDiff, Nat.reduceMul, Nat.reduceSub, Nat.reduceGT, reduceIte, Int.reduceNeg, Int.reduceToNat]) |  refine And.intro ?_ ?_ | intro _))
    all_goals first | omega | skip
    · rename_i hne
      rw [if_neg]
      intro e
      have e2 : L[k] = (marksLineCount k0 L.length)[k]'(by rw [marksLineCount_len]; exact hlt) := by congr 1
      exact hne (by rw [e2]; simp [marksLineCount, mrkLineCount])
    · rename_i hne
      rw [if_neg]
      intro e
      have e2 : L[k] = (marksLineCount k0 L.length)[k]'(by rw [marksLineCount_len]; exact hlt) := by congr 1
      exact hne (by rw [e2]; simp [marksLineCount, mrkLineCount])
    · rename_i g0 g1
      refine ⟨k + 1, ⟨by omega, ?_⟩, by omega, ?_, rfl⟩
      · have he : L[k] = mrkLineCount (k0 + 2 * (k : Int)) := extLineCount g0 g1
        rw [List.take_succ_eq_append_getElem hlt, ht, he]; simp [marksLineCount, List.range_succ]
      · rw [show k0 + 2 * (k : Int) + 1 + 1 = k0 + 2 * ((k + 1 : Nat) : Int) by omega]
  · (repeat' (first | refine WP.seq ?_ | refine WP.block ?_ | ((first | refine WP.region ?_ | refine WP.condW ?_ | refine WP.ret ?_ | refine WP.exit ?_ | refine WP.skip ?_); simp only [go_sem, tyAll, Nat.reduceAdd, Nat.reduceLT, Nat.reduceLeDiff, Nat.reduceEqDiff, Nat.reduceMul, Nat.reduceSub, Nat.reduceGT, reduceIte, Int.reduceNeg, Int.reduceToNat]) |  refine And.intro ?_ ?_ | intro _))
    all_goals first | omega | skip
    rw [show k = L.length by omega, List.take_length] at ht
    rw [if_pos ht, show k = L.length by omega]
end
section
open Go.Vc
set_option linter.unusedSimpArgs false
set_option linter.unusedVariables false
set_option maxHeartbeats 1000000
set_option maxRecDepth 10000
attribute [local irreducible] Go.Vc.WP
attribute [local go_sem] cx0_t cx0_c
attribute [local go_sem] St.fzS addL behind St.runO St.stepO
/-- the parts ahead of and behind the first space -/
def num31 (l : List UInt8) : Option Nat := if (Lib.cut l [32]).2.2 = true then parseU (bts (Lib.cut l [32]).1) else none
def rest31 (l : List UInt8) : List UInt8 := if (Lib.cut l [32]).2.2 = true then (Lib.cut l [32]).2.1 else []
def kN31 : Ctr := pur (fun args => aS args 0) (fun s => [.v (.string s)]) (fun s => s.size ≤ 1048576)
  (fun _ s => .tup [.v (.int .i64 (((num31 s.data.toList).getD 0 : Nat) : Int)), .v (.string (bts (rest31 s.data.toList))), .v (.bool (num31 s.data.toList).isSome)]) (fun _ _ => [])
theorem seg_first {l : List UInt8} {k : Nat} (hk : k < l.length) (hc : l[k] = 32) (h : ∀ i (hi : i < l.length), i < k → l[i] ≠ 32) : Lib.cut l [32] = (seg l 0 k, seg l (k + 1) l.length, true) := by
  have e : l = seg l 0 k ++ 32 :: seg l (k + 1) l.length := by
    unfold seg
    rw [List.take_of_length_le (l := l.drop (k + 1)) (by rw [List.length_drop]; omega), ← hc, ← List.drop_eq_getElem_cons hk]
    simp
  have hn : (32 : UInt8) ∉ seg l 0 k := seg_no (by omega) fun i hi _ h2 => h i hi h2
  conv => lhs; rw [e]
  exact libcut_at 32 _ hn
section
noncomputable def cxN31 : Cx := { P := Tryd.prog, tys := tys, C := [(24, kParseU)], hty := tysOk, hC := COk.cons cParseUS (COk.nil _) }
theorem cxN31_t : cxN31.tys = tys := rfl
theorem cxN31_c : cxN31.C = [(24, kParseU)] := rfl
attribute [local go_sem] cxN31_t cxN31_c kParseU
theorem cN31 : Cn Tryd.prog 12 kN31 := by
  refine Cn.pur Tryd.func12 (by kernel_rfl) rfl fun d x hx => ?_
  rename ByteArray => s
  refine Holds.go (c := cxN31) Tryd.func12 rfl Tryd.results12 Tryd.ntmps12 (by omega) (by simp) rfl ?_
  intro X0 w0
  have hln : s.data.toList.length = s.size := by simp
  (repeat' (first | refine WP.seq ?_ | refine WP.block ?_ | ((first | refine WP.region ?_ | refine WP.condW ?_ | refine WP.ret ?_ | refine WP.exit ?_ | refine WP.skip ?_); simp only [go_sem, tyAll, Nat.reduceAdd, Nat.reduceLT, Nat.reduceLeDiff, Nat.reduceEqDiff, Nat.reduceMul, Nat.reduceSub, Nat.reduceGT, reduceIte, Int.reduceNeg, Int.reduceToNat]) | ((first | refine WP.drawW 8 (by decide +kernel) (by kernel_rfl) ?_); simp only [go_sem, tyAll, Nat.reduceAdd, Nat.reduceLT, Nat.reduceLeDiff, Nat.reduceEqDiff, Nat.reduceMul, Nat.reduceSub, Nat.reduceGT, reduceIte, Int.reduceNeg, Int.reduceToNat]) |  refine And.intro ?_ ?_ | intro _))
  all_goals first | omega | skip
  refine WP.loop (fun k : Nat => ⟨[(0, .v (.string s)), (5, .v (.int .i64 k))], []⟩) (fun k => k ≤ s.size ∧ ∀ i (hi : i < s.data.toList.length), i < k → s.data.toList[i] ≠ 32) (fun k => s.size - k) 0 (by simp) ?_ ?_
  · (simp only [go_sem, tyAll, Nat.reduceAdd, Nat.reduceLT, Nat.reduceLeDiff, Nat.reduceEqDiff, Nat.reduceMul, Nat.reduceSub, Nat.reduceGT, reduceIte, Int.reduceNeg, Int.reduceToNat] <;> (first | rfl | exact ⟨rfl, rfl⟩ | exact ⟨rfl, rfl, rfl⟩ | exact ⟨rfl, rfl, rfl, rfl⟩ | exact ⟨rfl, rfl, rfl, rfl, rfl⟩ | exact ⟨⟨rfl, rfl⟩, rfl⟩ | simp))
  rintro k ⟨hk, hf⟩
  by_cases hlt : k < s.size
  · have hli : (k : Int) < s.size := by omega
    have hg := ba_get s k hlt
    by_cases hc : s[k]! = 32
    · have hcc : (s[k]!.toNat : Int) = 32 := by rw [hc]; rfl
      have hcut := seg_first (l := s.data.toList) (k := k) (by omega) (by rw [← hg]; exact hc) hf
      have h1 := seg_ext s 0 k (by omega)
      have h2 := seg_ext s (k + 1) s.size (by omega)
      rw [hln] at hcut
      have e1 : num31 s.data.toList = parseU (bts (seg s.data.toList 0 k)) := by unfold num31; rw [hcut]; rfl
      have e2 : rest31 s.data.toList = seg s.data.toList (k + 1) s.size := by unfold rest31; rw [hcut]; rfl
      rw [e1, e2]
      have hz : (bts (seg s.data.toList 0 k)).size ≤ s.size := by rw [← h1]; simp; omega
      (repeat' (first | refine WP.seq ?_ | refine WP.block ?_ | ((first | refine WP.region ?_ | refine WP.condW ?_ | refine WP.ret ?_ | refine WP.exit ?_ | refine WP.skip ?_); simp only [go_sem, hli, hcc, h1, h2, tyAll, Nat.reduceAdd, Nat.reduceLT, Nat.reduceLeDiff, Nat.reduceEqDiff, Nat.reduceMul, Nat.reduceSub, Nat.reduceGT, reduceIte, Int.reduceNeg, Int.reduceToNat]) | ((first | refine WP.drawW 8 (by decide +kernel) (by kernel_rfl) ?_); simp only [go_sem, hli, hcc, h1, h2, tyAll, Nat.reduceAdd, Nat.reduceLT, Nat.reduceLeDiff, Nat.reduceEqDiff, Nat.reduceMul, Nat.reduceSub, Nat.reduceGT, reduceIte, Int.reduceNeg, Int.reduceToNat]) |  refine And.intro ?_ ?_ | intro _))
      all_goals first | omega | rfl | (rw [show ((k : Int) + 1).toNat = k + 1 by omega, h2]) | skip
      all_goals trace_state
    · have hcc : ¬ (s[k]!.toNat : Int) = 32 := fun e => hc (UInt8.toNat_inj.1 (by show _ = 32; omega))
      have hnx : ∀ i (hi : i < s.data.toList.length), i < k + 1 → s.data.toList[i] ≠ 32 := fun i hi h => by
        rcases Nat.lt_or_ge i k with q | q
        · exact hf i hi q
        · have : i = k := by omega
          subst this
          rw [← hg]; exact hc
      (repeat' (first | refine WP.seq ?_ | refine WP.block ?_ | ((first | refine WP.region ?_ | refine WP.condW ?_ | refine WP.ret ?_ | refine WP.exit ?_ | refine WP.skip ?_); simp only [go_sem, hli, hcc, tyAll, Nat.reduceAdd, Nat.reduceLT, Nat.reduceLeDiff, Nat.reduceEqDiff, Nat.reduceMul, Nat.reduceSub, Nat.reduceGT, reduceIte, Int.reduceNeg, Int.reduceToNat]) | ((first | refine WP.drawW 8 (by decide +kernel) (by kernel_rfl) ?_); simp only [go_sem, hli, hcc, tyAll, Nat.reduceAdd, Nat.reduceLT, Nat.reduceLeDiff, Nat.reduceEqDiff, Nat.reduceMul, Nat.reduceSub, Nat.reduceGT, reduceIte, Int.reduceNeg, Int.reduceToNat]) |  refine And.intro ?_ ?_ | intro _))
      all_goals first | omega | exact ⟨k + 1, ⟨by omega, hnx⟩, by omega, by (first | rfl | exact ⟨rfl, rfl⟩ | exact ⟨rfl, rfl, rfl⟩ | exact ⟨rfl, rfl, rfl, rfl⟩ | exact ⟨rfl, rfl, rfl, rfl, rfl⟩ | exact ⟨⟨rfl, rfl⟩, rfl⟩ | simp)⟩ | skip
      all_goals trace_state
  · have hge : ¬ (k : Int) < s.size := by omega
    have hno : (32 : UInt8) ∉ s.data.toList := fun hm => by
      obtain ⟨i, hi, he⟩ := List.mem_iff_getElem.1 hm
      exact hf i hi (by omega) he
    have hcut := libcut_no 32 hno
    have e1 : num31 s.data.toList = none := by unfold num31; rw [hcut]; rfl
    have e2 : rest31 s.data.toList = [] := by unfold rest31; rw [hcut]; rfl
    rw [e1, e2]
    (repeat' (first | refine WP.seq ?_ | refine WP.block ?_ | ((first | refine WP.region ?_ | refine WP.condW ?_ | refine WP.ret ?_ | refine WP.exit ?_ | refine WP.skip ?_); simp only [go_sem, hge, tyAll, Nat.reduceAdd, Nat.reduceLT, Nat.reduceLeDiff, Nat.reduceEqDiff, Nat.reduceMul, Nat.reduceSub, Nat.reduceGT, reduceIte, Int.reduceNeg, Int.reduceToNat]) | ((first | refine WP.drawW 8 (by decide +kernel) (by kernel_rfl) ?_); simp only [go_sem, hge, tyAll, Nat.reduceAdd, Nat.reduceLT, Nat.reduceLeDiff, Nat.reduceEqDiff, Nat.reduceMul, Nat.reduceSub, Nat.reduceGT, reduceIte, Int.reduceNeg, Int.reduceToNat]) |  refine And.intro ?_ ?_ | intro _))
    all_goals first | omega | rfl | skip
    all_goals trace_state
end
/-! ## lines with counts -/
def readOne (p : List UInt8) : Option (LineCount × Line) :=
  match num31 p, num31 (rest31 p), lineOf (bts (rest31 (rest31 p))) with
  | some a, some b, some x => some (⟨(a : Int), (b : Int)⟩, x)
  | _, _, _ => none
def rdGo : List (List UInt8) → Option (List (LineCount × Line))
  | [] => none
  | [p] => if p = [] then some [] else none
  | p :: q :: r => (readOne p).bind fun e => (rdGo (q :: r)).map (e :: ·)
def readAll (s : ByteArray) : Option (List (LineCount × Line)) := rdGo (cutL 10 s.data.toList)
theorem rdGo_cons {p : List UInt8} {T : List (List UInt8)} (h : T ≠ []) : rdGo (p :: T) = (readOne p).bind fun e => (rdGo T).map (e :: ·) := by
  cases T with
  | nil => exact absurd rfl h
  | cons q r => rfl
theorem readOne_line {p : List UInt8} {e : LineCount × Line} (h : readOne p = some e) : LineP e.2 := by
  unfold readOne at h
  split at h
  · rename_i a b x _ _ hx
    cases h
    exact (lineOf_some hx).1
  · cases h
def rInv (s : ByteArray) (F : List (LineCount × Line)) (l : List UInt8) : Prop := readAll s = (rdGo (cutL 10 l)).map (F ++ ·) ∧ F.length + l.length ≤ s.size ∧ ∀ e ∈ F, LineP e.2
theorem rInv_zero (s : ByteArray) : rInv s [] s.data.toList := ⟨by simp [readAll], by simp, by simp⟩
theorem rInv_ok {s : ByteArray} {F : List (LineCount × Line)} {l p r : List UInt8} {e : LineCount × Line} (h : rInv s F l) (hc : cutL 10 l = p :: cutL 10 r) (hl : l.length = p.length + 1 + r.length) (hp : readOne p = some e) : rInv s (F ++ [e]) r := by
  obtain ⟨h1, h2, h3⟩ := h
  refine ⟨?_, by simp only [List.length_append, List.length_cons, List.length_nil]; omega, fun x hx => ?_⟩
  · rw [h1, hc, rdGo_cons (cutL_ne 10 r), hp]
    cases rdGo (cutL 10 r) <;> simp
  · rcases List.mem_append.1 hx with hx | hx
    · exact h3 x hx
    · simp only [List.mem_cons, List.not_mem_nil, or_false] at hx
      subst hx; exact readOne_line hp
theorem rInv_bad {s : ByteArray} {F : List (LineCount × Line)} {l p r : List UInt8} (h : rInv s F l) (hc : cutL 10 l = p :: cutL 10 r) (hp : readOne p = none) : readAll s = none := by
  rw [h.1, hc, rdGo_cons (cutL_ne 10 r), hp]; rfl
theorem rInv_end {s : ByteArray} {F : List (LineCount × Line)} (h : rInv s F []) : readAll s = some F := by
  have : rdGo (cutL 10 []) = some [] := rfl
  rw [h.1, this]; simp
theorem rInv_rest {s : ByteArray} {F : List (LineCount × Line)} {l : List UInt8} (h : rInv s F l) (hc : cutL 10 l = [l]) (hne : l ≠ []) : readAll s = none := by
  rw [h.1, hc, rdGo, if_neg hne]; rfl
theorem readOne_some {p : List UInt8} {a b : Nat} {x : Line} (h1 : num31 p = some a) (h2 : num31 (rest31 p) = some b) (h3 : lineOf (bts (rest31 (rest31 p))) = some x) : readOne p = some (⟨(a : Int), (b : Int)⟩, x) := by
  unfold readOne; rw [h1, h2, h3]
theorem readOne_none1 {p : List UInt8} (h : num31 p = none) : readOne p = none := by unfold readOne; rw [h]
theorem readOne_none2 {p : List UInt8} (h : num31 (rest31 p) = none) : readOne p = none := by unfold readOne; rw [h]; split <;> simp_all
theorem readOne_none3 {p : List UInt8} (h : lineOf (bts (rest31 (rest31 p))) = none) : readOne p = none := by unfold readOne; rw [h]; split <;> simp_all
theorem rest31_len (l : List UInt8) : (rest31 l).length ≤ l.length := by
  unfold rest31 Lib.cut
  split
  · split
    · first | (simp; done) | (simp; omega)
    · simp
  · simp
end
section
open Go.Vc
set_option linter.unusedSimpArgs false
set_option linter.unusedVariables false
set_option maxHeartbeats 1000000
set_option maxRecDepth 10000
attribute [local irreducible] Go.Vc.WP
attribute [local go_sem] cx0_t cx0_c
def flbfb039598e : List Go.Vc.Fp := [⟨[], [], [], [5], [], []⟩, ⟨[4], [], [], [5], [], []⟩, ⟨[9], [1], [], [5], [], []⟩, ⟨[10], [1, 2], [], [5], [], []⟩, ⟨[8, 11], [0, 1, 2, 3], [], [5], [], []⟩, ⟨[12], [0, 1, 2, 3, 4], [], [5], [], []⟩, ⟨[], [], [], [], [], [5]⟩, ⟨[], [0, 1, 2, 3, 4, 5, 6], [], [], [], []⟩]
attribute [local go_sem] flbfb039598e
attribute [local go_sem] decTok_enc oneTok_f decS_enc oneLine_f line_eta St.fzS addL behind St.runO St.stepO St.ado St.adoptB St.adoptS rp isNil
attribute [local go_sem] oneLine_00 oneLine_0E oneLine_A0
attribute [local go_sem] adoPL
section
attribute [local irreducible] smLine smToks wfW
noncomputable def cxPlI : Cx := { P := Tryd.prog, tys := tys, C := [(31, kSplitZ), (33, kWords), (32, kIdxS), (34, kPE), (35, kFmtL)], hty := tysOk, hC := COk.cons cSplitZ (COk.cons cWordsI (COk.cons cIdxSI (COk.cons cPEI (COk.cons cFmtLI (COk.nil _))))) }
theorem cxPlI_t : cxPlI.tys = tys := rfl
theorem cxPlI_c : cxPlI.C = [(31, kSplitZ), (33, kWords), (32, kIdxS), (34, kPE), (35, kFmtL)] := rfl
attribute [local go_sem] cxPlI_t cxPlI_c kSplitZ kWords kIdxS kPE kFmtL
set_option maxHeartbeats 16000000
theorem cPLI : Cn Tryd.prog 16 kPL := by
  refine Cn.pur Tryd.func16 (by kernel_rfl) rfl fun d x hx => ?_
  rename ByteArray => s
  refine Holds.go (c := cxPlI) Tryd.func16 rfl Tryd.results16 Tryd.ntmps16 (by omega) (by simp) rfl ?_
  intro X0 w0
  have e32 : (⟨#[32]⟩ : ByteArray)[0]! = 32 := rfl
  have z32 : ByteArray.size ⟨#[32]⟩ = 1 := rfl
  obtain ⟨w0, R, hW, hWs, hWl⟩ := cutW_form s
  have hcut : (cutL 32 s.data.toList).map bts = w0 :: R := hW
  have hno := @lineOf_no s
  have hyes := @lineOf_yes s
  rw [hW] at hno hyes
  have hrow0 : Go.Vc.rowAt ([SV.v (.string w0)] :: R.map encS) 0 = [SV.v (.string w0)] := rfl
  have hrow00 : Go.Vc.rowAt [[SV.v (.string w0)]] 0 = [SV.v (.string w0)] := rfl
  have hw0s := hWs w0 (by simp)
  have hRs : ∀ w ∈ R, w.size ≤ 1048576 := fun w hw => by have := hWs w (List.mem_cons_of_mem _ hw); omega
  simp only [List.length_cons] at hWl
  have hRw : wfW R := wfW_mk (by omega) hRs
  have hn0 : wfW [] := wfW_mk (by simp) (by simp)
  have ht0 : smToks [] := smToks_ok (by simp) (by simp)
  have hs0 : ByteArray.size ⟨#[]⟩ = 0 := rfl
  have hki := kwS_idx w0
  have hkb := kwIx_bound w0
  have hcl : candL (w0 :: R) = candK (kwIx w0) R := rfl
  rw [hcl] at hno hyes
  generalize kwIx w0 = k at *
  by_cases h0 : k = 0
  · subst h0
    cases R with
    | nil =>
      have hc : candK 0 [] = ⟨0, ⟨#[]⟩, [], []⟩ := rfl
      have hsm : smLine ⟨0, ⟨#[]⟩, [], []⟩ := smLine_mk (by rw [hs0]; omega) hn0 ht0
      rw [hc] at hno hyes
      by_cases hz : s = ⟨#[]⟩
      · have hn := hno (.inl hz)
        have hzT : (s = ⟨#[]⟩) = True := eq_true hz
        rw [hn, lnD_no hn]
        (repeat' (first | (refine WP.adoSeq (id := 3) adoPL ?_; simp only [go_sem, e32, z32, hcut, encS, hrow0, hrow00, hki, hzT, tyAll, Nat.reduceAdd, Nat.reduceLT, Nat.reduceLeDiff, Nat.reduceEqDiff, Nat.reduceMul, Nat.reduceSub, Nat.reduceGT, reduceIte, Int.reduceNeg, Int.reduceToNat]) | (refine WP.regionO (id := 11) ?_; simp only [go_sem, e32, z32, hcut, encS, hrow0, hrow00, hki, hzT, tyAll, Nat.reduceAdd, Nat.reduceLT, Nat.reduceLeDiff, Nat.reduceEqDiff, Nat.reduceMul, Nat.reduceSub, Nat.reduceGT, reduceIte, Int.reduceNeg, Int.reduceToNat]) | refine WP.seq ?_ | refine WP.block ?_ | ((first | refine WP.region ?_ | refine WP.condW ?_ | refine WP.ret ?_ | refine WP.exit ?_ | refine WP.skip ?_); simp only [go_sem, e32, z32, hcut, encS, hrow0, hrow00, hki, hzT, tyAll, Nat.reduceAdd, Nat.reduceLT, Nat.reduceLeDiff, Nat.reduceEqDiff, Nat.reduceMul, Nat.reduceSub, Nat.reduceGT, reduceIte, Int.reduceNeg, Int.reduceToNat]) | ((first | refine WP.flowW 7 flbfb039598e [5, 8, 9, 10, 11, 12, 13] [5] [] (by decide +kernel) (by kernel_rfl) (by kernel_rfl) (by kernel_rfl) ?_); simp only [go_sem, e32, z32, hcut, encS, hrow0, hrow00, hki, hzT, tyAll, Nat.reduceAdd, Nat.reduceLT, Nat.reduceLeDiff, Nat.reduceEqDiff, Nat.reduceMul, Nat.reduceSub, Nat.reduceGT, reduceIte, Int.reduceNeg, Int.reduceToNat]) |  refine And.intro ?_ ?_ | intro _))
        all_goals first | omega | exact hsm | assumption | rfl | exact ⟨_, _, rfl⟩ | exact ⟨_, _, _, _, rfl⟩ | exact ⟨_, _, rfl, _, _, rfl, rfl⟩ | exact kwS_small | exact rowS_len ‹_› | exact ⟨_, _, if_neg (by omega)⟩ | exact if_neg (by omega) | skip
        all_goals trace_state
      · by_cases hq : fmtLine ⟨0, ⟨#[]⟩, [], []⟩ = s
        · have hy := hyes hz hq
          rw [hy, lnD_yes hy]
          (repeat' (first | (refine WP.adoSeq (id := 3) adoPL ?_; simp only [go_sem, e32, z32, hcut, encS, hrow0, hrow00, hki, hz, hq, tyAll, Nat.reduceAdd, Nat.reduceLT, Nat.reduceLeDiff, Nat.reduceEqDiff, Nat.reduceMul, Nat.reduceSub, Nat.reduceGT, reduceIte, Int.reduceNeg, Int.reduceToNat]) | refine WP.seq ?_ | refine WP.block ?_ | ((first | refine WP.region ?_ | refine WP.condW ?_ | refine WP.ret ?_ | refine WP.exit ?_ | refine WP.skip ?_); simp only [go_sem, e32, z32, hcut, encS, hrow0, hrow00, hki, hz, hq, tyAll, Nat.reduceAdd, Nat.reduceLT, Nat.reduceLeDiff, Nat.reduceEqDiff, Nat.reduceMul, Nat.reduceSub, Nat.reduceGT, reduceIte, Int.reduceNeg, Int.reduceToNat]) | ((first | refine WP.flowW 7 flbfb039598e [5, 8, 9, 10, 11, 12, 13] [5] [] (by decide +kernel) (by kernel_rfl) (by kernel_rfl) (by kernel_rfl) ?_); simp only [go_sem, e32, z32, hcut, encS, hrow0, hrow00, hki, hz, hq, tyAll, Nat.reduceAdd, Nat.reduceLT, Nat.reduceLeDiff, Nat.reduceEqDiff, Nat.reduceMul, Nat.reduceSub, Nat.reduceGT, reduceIte, Int.reduceNeg, Int.reduceToNat]) |  refine And.intro ?_ ?_ | intro _))
          all_goals first | omega | exact hsm | assumption | rfl | exact ⟨_, _, rfl⟩ | exact ⟨_, _, _, _, rfl⟩ | exact ⟨_, _, rfl, _, _, rfl, rfl⟩ | exact kwS_small | exact rowS_len ‹_› | exact ⟨_, _, if_neg (by omega)⟩ | exact if_neg (by omega) | skip
          all_goals trace_state
        · have hn := hno (.inr hq)
          rw [hn, lnD_no hn]
          (repeat' (first | (refine WP.adoSeq (id := 3) adoPL ?_; simp only [go_sem, e32, z32, hcut, encS, hrow0, hrow00, hki, hz, hq, tyAll, Nat.reduceAdd, Nat.reduceLT, Nat.reduceLeDiff, Nat.reduceEqDiff, Nat.reduceMul, Nat.reduceSub, Nat.reduceGT, reduceIte, Int.reduceNeg, Int.reduceToNat]) | refine WP.seq ?_ | refine WP.block ?_ | ((first | refine WP.region ?_ | refine WP.condW ?_ | refine WP.ret ?_ | refine WP.exit ?_ | refine WP.skip ?_); simp only [go_sem, e32, z32, hcut, encS, hrow0, hrow00, hki, hz, hq, tyAll, Nat.reduceAdd, Nat.reduceLT, Nat.reduceLeDiff, Nat.reduceEqDiff, Nat.reduceMul, Nat.reduceSub, Nat.reduceGT, reduceIte, Int.reduceNeg, Int.reduceToNat]) | ((first | refine WP.flowW 7 flbfb039598e [5, 8, 9, 10, 11, 12, 13] [5] [] (by decide +kernel) (by kernel_rfl) (by kernel_rfl) (by kernel_rfl) ?_); simp only [go_sem, e32, z32, hcut, encS, hrow0, hrow00, hki, hz, hq, tyAll, Nat.reduceAdd, Nat.reduceLT, Nat.reduceLeDiff, Nat.reduceEqDiff, Nat.reduceMul, Nat.reduceSub, Nat.reduceGT, reduceIte, Int.reduceNeg, Int.reduceToNat]) |  refine And.intro ?_ ?_ | intro _))
          all_goals first | omega | exact hsm | assumption | rfl | exact ⟨_, _, rfl⟩ | exact ⟨_, _, _, _, rfl⟩ | exact ⟨_, _, rfl, _, _, rfl, rfl⟩ | exact kwS_small | exact rowS_len ‹_› | exact ⟨_, _, if_neg (by omega)⟩ | exact if_neg (by omega) | skip
          all_goals trace_state
    | cons r1 R2 =>
      have hr1 := hRs r1 (by simp)
      have hR2 : wfW R2 := wfW_mk (by simp only [List.length_cons] at hWl; omega) fun w hw => hRs w (List.mem_cons_of_mem _ hw)
      simp only [List.length_cons] at hWl
      have hrow0 : Go.Vc.rowAt ([SV.v (.string w0)] :: [SV.v (.string r1)] :: R2.map encS) 0 = [SV.v (.string w0)] := rfl
      have hrow1 : Go.Vc.rowAt ([SV.v (.string r1)] :: R2.map encS) 0 = [SV.v (.string r1)] := rfl
      have hc : candK 0 (r1 :: R2) = ⟨0, r1, R2, []⟩ := rfl
      have hsm : smLine ⟨0, r1, R2, []⟩ := smLine_mk hr1 hR2 ht0
      rw [hc] at hno hyes
      by_cases hz : s = ⟨#[]⟩
      · have hn := hno (.inl hz)
        have hzT : (s = ⟨#[]⟩) = True := eq_true hz
        rw [hn, lnD_no hn]
        (repeat' (first | (refine WP.adoSeq (id := 3) adoPL ?_; simp only [go_sem, e32, z32, hcut, encS, hrow0, hrow00, hki, hrow1, hzT, tyAll, Nat.reduceAdd, Nat.reduceLT, Nat.reduceLeDiff, Nat.reduceEqDiff, Nat.reduceMul, Nat.reduceSub, Nat.reduceGT, reduceIte, Int.reduceNeg, Int.reduceToNat]) | (refine WP.regionO (id := 11) ?_; simp only [go_sem, e32, z32, hcut, encS, hrow0, hrow00, hki, hrow1, hzT, tyAll, Nat.reduceAdd, Nat.reduceLT, Nat.reduceLeDiff, Nat.reduceEqDiff, Nat.reduceMul, Nat.reduceSub, Nat.reduceGT, reduceIte, Int.reduceNeg, Int.reduceToNat]) | refine WP.seq ?_ | refine WP.block ?_ | ((first | refine WP.region ?_ | refine WP.condW ?_ | refine WP.ret ?_ | refine WP.exit ?_ | refine WP.skip ?_); simp only [go_sem, e32, z32, hcut, encS, hrow0, hrow00, hki, hrow1, hzT, tyAll, Nat.reduceAdd, Nat.reduceLT, Nat.reduceLeDiff, Nat.reduceEqDiff, Nat.reduceMul, Nat.reduceSub, Nat.reduceGT, reduceIte, Int.reduceNeg, Int.reduceToNat]) | ((first | refine WP.flowW 7 flbfb039598e [5, 8, 9, 10, 11, 12, 13] [5] [] (by decide +kernel) (by kernel_rfl) (by kernel_rfl) (by kernel_rfl) ?_); simp only [go_sem, e32, z32, hcut, encS, hrow0, hrow00, hki, hrow1, hzT, tyAll, Nat.reduceAdd, Nat.reduceLT, Nat.reduceLeDiff, Nat.reduceEqDiff, Nat.reduceMul, Nat.reduceSub, Nat.reduceGT, reduceIte, Int.reduceNeg, Int.reduceToNat]) |  refine And.intro ?_ ?_ | intro _))
        all_goals first | omega | exact hsm | assumption | rfl | exact ⟨_, _, rfl⟩ | exact ⟨_, _, _, _, rfl⟩ | exact ⟨_, _, rfl, _, _, rfl, rfl⟩ | exact kwS_small | exact rowS_len ‹_› | exact ⟨_, _, if_neg (by omega)⟩ | exact if_neg (by omega) | skip
        all_goals trace_state
      · by_cases hq : fmtLine ⟨0, r1, R2, []⟩ = s
        · have hy := hyes hz hq
          rw [hy, lnD_yes hy]
          (repeat' (first | (refine WP.adoSeq (id := 3) adoPL ?_; simp only [go_sem, e32, z32, hcut, encS, hrow0, hrow00, hki, hrow1, hz, hq, tyAll, Nat.reduceAdd, Nat.reduceLT, Nat.reduceLeDiff, Nat.reduceEqDiff, Nat.reduceMul, Nat.reduceSub, Nat.reduceGT, reduceIte, Int.reduceNeg, Int.reduceToNat]) | refine WP.seq ?_ | refine WP.block ?_ | ((first | refine WP.region ?_ | refine WP.condW ?_ | refine WP.ret ?_ | refine WP.exit ?_ | refine WP.skip ?_); simp only [go_sem, e32, z32, hcut, encS, hrow0, hrow00, hki, hrow1, hz, hq, tyAll, Nat.reduceAdd, Nat.reduceLT, Nat.reduceLeDiff, Nat.reduceEqDiff, Nat.reduceMul, Nat.reduceSub, Nat.reduceGT, reduceIte, Int.reduceNeg, Int.reduceToNat]) | ((first | refine WP.flowW 7 flbfb039598e [5, 8, 9, 10, 11, 12, 13] [5] [] (by decide +kernel) (by kernel_rfl) (by kernel_rfl) (by kernel_rfl) ?_); simp only [go_sem, e32, z32, hcut, encS, hrow0, hrow00, hki, hrow1, hz, hq, tyAll, Nat.reduceAdd, Nat.reduceLT, Nat.reduceLeDiff, Nat.reduceEqDiff, Nat.reduceMul, Nat.reduceSub, Nat.reduceGT, reduceIte, Int.reduceNeg, Int.reduceToNat]) |  refine And.intro ?_ ?_ | intro _))
          all_goals first | omega | exact hsm | assumption | rfl | exact ⟨_, _, rfl⟩ | exact ⟨_, _, _, _, rfl⟩ | exact ⟨_, _, rfl, _, _, rfl, rfl⟩ | exact kwS_small | exact rowS_len ‹_› | exact ⟨_, _, if_neg (by omega)⟩ | exact if_neg (by omega) | skip
          all_goals trace_state
        · have hn := hno (.inr hq)
          rw [hn, lnD_no hn]
          (repeat' (first | (refine WP.adoSeq (id := 3) adoPL ?_; simp only [go_sem, e32, z32, hcut, encS, hrow0, hrow00, hki, hrow1, hz, hq, tyAll, Nat.reduceAdd, Nat.reduceLT, Nat.reduceLeDiff, Nat.reduceEqDiff, Nat.reduceMul, Nat.reduceSub, Nat.reduceGT, reduceIte, Int.reduceNeg, Int.reduceToNat]) | refine WP.seq ?_ | refine WP.block ?_ | ((first | refine WP.region ?_ | refine WP.condW ?_ | refine WP.ret ?_ | refine WP.exit ?_ | refine WP.skip ?_); simp only [go_sem, e32, z32, hcut, encS, hrow0, hrow00, hki, hrow1, hz, hq, tyAll, Nat.reduceAdd, Nat.reduceLT, Nat.reduceLeDiff, Nat.reduceEqDiff, Nat.reduceMul, Nat.reduceSub, Nat.reduceGT, reduceIte, Int.reduceNeg, Int.reduceToNat]) | ((first | refine WP.flowW 7 flbfb039598e [5, 8, 9, 10, 11, 12, 13] [5] [] (by decide +kernel) (by kernel_rfl) (by kernel_rfl) (by kernel_rfl) ?_); simp only [go_sem, e32, z32, hcut, encS, hrow0, hrow00, hki, hrow1, hz, hq, tyAll, Nat.reduceAdd, Nat.reduceLT, Nat.reduceLeDiff, Nat.reduceEqDiff, Nat.reduceMul, Nat.reduceSub, Nat.reduceGT, reduceIte, Int.reduceNeg, Int.reduceToNat]) |  refine And.intro ?_ ?_ | intro _))
          all_goals first | omega | exact hsm | assumption | rfl | exact ⟨_, _, rfl⟩ | exact ⟨_, _, _, _, rfl⟩ | exact ⟨_, _, rfl, _, _, rfl, rfl⟩ | exact kwS_small | exact rowS_len ‹_› | exact ⟨_, _, if_neg (by omega)⟩ | exact if_neg (by omega) | skip
          all_goals trace_state
  · by_cases h1 : k = 1
    · subst h1
      cases R with
      | nil =>
        have hc : candK 1 [] = ⟨1, ⟨#[]⟩, [], []⟩ := by simp [candK, candN, candR, hasNm, exprOf_nil]
        have hsm : smLine ⟨1, ⟨#[]⟩, [], []⟩ := smLine_mk (by rw [hs0]; omega) hn0 ht0
        rw [hc] at hno hyes
        by_cases hz : s = ⟨#[]⟩
        · have hn := hno (.inl hz)
          have hzT : (s = ⟨#[]⟩) = True := eq_true hz
          rw [hn, lnD_no hn]
          (repeat' (first | (refine WP.adoSeq (id := 3) adoPL ?_; simp only [go_sem, e32, z32, hcut, encS, hrow0, hrow00, hki, hzT, tyAll, Nat.reduceAdd, Nat.reduceLT, Nat.reduceLeDiff, Nat.reduceEqDiff, Nat.reduceMul, Nat.reduceSub, Nat.reduceGT, reduceIte, Int.reduceNeg, Int.reduceToNat]) | (refine WP.regionO (id := 11) ?_; simp only [go_sem, e32, z32, hcut, encS, hrow0, hrow00, hki, hzT, tyAll, Nat.reduceAdd, Nat.reduceLT, Nat.reduceLeDiff, Nat.reduceEqDiff, Nat.reduceMul, Nat.reduceSub, Nat.reduceGT, reduceIte, Int.reduceNeg, Int.reduceToNat]) | refine WP.seq ?_ | refine WP.block ?_ | ((first | refine WP.region ?_ | refine WP.condW ?_ | refine WP.ret ?_ | refine WP.exit ?_ | refine WP.skip ?_); simp only [go_sem, e32, z32, hcut, encS, hrow0, hrow00, hki, hzT, tyAll, Nat.reduceAdd, Nat.reduceLT, Nat.reduceLeDiff, Nat.reduceEqDiff, Nat.reduceMul, Nat.reduceSub, Nat.reduceGT, reduceIte, Int.reduceNeg, Int.reduceToNat]) | ((first | refine WP.flowW 7 flbfb039598e [5, 8, 9, 10, 11, 12, 13] [5] [] (by decide +kernel) (by kernel_rfl) (by kernel_rfl) (by kernel_rfl) ?_); simp only [go_sem, e32, z32, hcut, encS, hrow0, hrow00, hki, hzT, tyAll, Nat.reduceAdd, Nat.reduceLT, Nat.reduceLeDiff, Nat.reduceEqDiff, Nat.reduceMul, Nat.reduceSub, Nat.reduceGT, reduceIte, Int.reduceNeg, Int.reduceToNat]) |  refine And.intro ?_ ?_ | intro _))
          all_goals first | omega | exact hsm | assumption | rfl | exact ⟨_, _, rfl⟩ | exact ⟨_, _, _, _, rfl⟩ | exact ⟨_, _, rfl, _, _, rfl, rfl⟩ | exact kwS_small | exact rowS_len ‹_› | exact ⟨_, _, if_neg (by omega)⟩ | exact if_neg (by omega) | skip
          all_goals trace_state
        · by_cases hq : fmtLine ⟨1, ⟨#[]⟩, [], []⟩ = s
          · have hy := hyes hz hq
            rw [hy, lnD_yes hy]
            (repeat' (first | (refine WP.adoSeq (id := 3) adoPL ?_; simp only [go_sem, e32, z32, hcut, encS, hrow0, hrow00, hki, hz, hq, tyAll, Nat.reduceAdd, Nat.reduceLT, Nat.reduceLeDiff, Nat.reduceEqDiff, Nat.reduceMul, Nat.reduceSub, Nat.reduceGT, reduceIte, Int.reduceNeg, Int.reduceToNat]) | refine WP.seq ?_ | refine WP.block ?_ | ((first | refine WP.region ?_ | refine WP.condW ?_ | refine WP.ret ?_ | refine WP.exit ?_ | refine WP.skip ?_); simp only [go_sem, e32, z32, hcut, encS, hrow0, hrow00, hki, hz, hq, tyAll, Nat.reduceAdd, Nat.reduceLT, Nat.reduceLeDiff, Nat.reduceEqDiff, Nat.reduceMul, Nat.reduceSub, Nat.reduceGT, reduceIte, Int.reduceNeg, Int.reduceToNat]) | ((first | refine WP.flowW 7 flbfb039598e [5, 8, 9, 10, 11, 12, 13] [5] [] (by decide +kernel) (by kernel_rfl) (by kernel_rfl) (by kernel_rfl) ?_); simp only [go_sem, e32, z32, hcut, encS, hrow0, hrow00, hki, hz, hq, tyAll, Nat.reduceAdd, Nat.reduceLT, Nat.reduceLeDiff, Nat.reduceEqDiff, Nat.reduceMul, Nat.reduceSub, Nat.reduceGT, reduceIte, Int.reduceNeg, Int.reduceToNat]) |  refine And.intro ?_ ?_ | intro _))
            all_goals first | omega | exact hsm | assumption | rfl | exact ⟨_, _, rfl⟩ | exact ⟨_, _, _, _, rfl⟩ | exact ⟨_, _, rfl, _, _, rfl, rfl⟩ | exact kwS_small | exact rowS_len ‹_› | exact ⟨_, _, if_neg (by omega)⟩ | exact if_neg (by omega) | skip
            all_goals trace_state
          · have hn := hno (.inr hq)
            rw [hn, lnD_no hn]
            (repeat' (first | (refine WP.adoSeq (id := 3) adoPL ?_; simp only [go_sem, e32, z32, hcut, encS, hrow0, hrow00, hki, hz, hq, tyAll, Nat.reduceAdd, Nat.reduceLT, Nat.reduceLeDiff, Nat.reduceEqDiff, Nat.reduceMul, Nat.reduceSub, Nat.reduceGT, reduceIte, Int.reduceNeg, Int.reduceToNat]) | refine WP.seq ?_ | refine WP.block ?_ | ((first | refine WP.region ?_ | refine WP.condW ?_ | refine WP.ret ?_ | refine WP.exit ?_ | refine WP.skip ?_); simp only [go_sem, e32, z32, hcut, encS, hrow0, hrow00, hki, hz, hq, tyAll, Nat.reduceAdd, Nat.reduceLT, Nat.reduceLeDiff, Nat.reduceEqDiff, Nat.reduceMul, Nat.reduceSub, Nat.reduceGT, reduceIte, Int.reduceNeg, Int.reduceToNat]) | ((first | refine WP.flowW 7 flbfb039598e [5, 8, 9, 10, 11, 12, 13] [5] [] (by decide +kernel) (by kernel_rfl) (by kernel_rfl) (by kernel_rfl) ?_); simp only [go_sem, e32, z32, hcut, encS, hrow0, hrow00, hki, hz, hq, tyAll, Nat.reduceAdd, Nat.reduceLT, Nat.reduceLeDiff, Nat.reduceEqDiff, Nat.reduceMul, Nat.reduceSub, Nat.reduceGT, reduceIte, Int.reduceNeg, Int.reduceToNat]) |  refine And.intro ?_ ?_ | intro _))
            all_goals first | omega | exact hsm | assumption | rfl | exact ⟨_, _, rfl⟩ | exact ⟨_, _, _, _, rfl⟩ | exact ⟨_, _, rfl, _, _, rfl, rfl⟩ | exact kwS_small | exact rowS_len ‹_› | exact ⟨_, _, if_neg (by omega)⟩ | exact if_neg (by omega) | skip
            all_goals trace_state
      | cons r1 R2 =>
        have hr1 := hRs r1 (by simp)
        have hR2 : wfW R2 := wfW_mk (by simp only [List.length_cons] at hWl; omega) fun w hw => hRs w (List.mem_cons_of_mem _ hw)
        simp only [List.length_cons] at hWl
        have hrow1 : Go.Vc.rowAt ([SV.v (.string r1)] :: R2.map encS) 0 = [SV.v (.string r1)] := rfl
        cases R2 with
        | nil =>
          have hrow0 : Go.Vc.rowAt [[SV.v (.string w0)], [SV.v (.string r1)]] 0 = [SV.v (.string w0)] := rfl
          have hrow1' : Go.Vc.rowAt [[SV.v (.string r1)]] 0 = [SV.v (.string r1)] := rfl
          have hc : candK 1 [r1] = ⟨1, r1, [], []⟩ := by simp [candK, candN, candR, hasNm, exprOf_nil]
          have hsm : smLine ⟨1, r1, [], []⟩ := smLine_mk hr1 hn0 ht0
          rw [hc] at hno hyes
          by_cases hz : s = ⟨#[]⟩
          · have hn := hno (.inl hz)
            have hzT : (s = ⟨#[]⟩) = True := eq_true hz
            rw [hn, lnD_no hn]
            (repeat' (first | (refine WP.adoSeq (id := 3) adoPL ?_; simp only [go_sem, e32, z32, hcut, encS, hrow0, hrow00, hki, hrow1, hrow1', hzT, tyAll, Nat.reduceAdd, Nat.reduceLT, Nat.reduceLeDiff, Nat.reduceEqDiff, Nat.reduceMul, Nat.reduceSub, Nat.reduceGT, reduceIte, Int.reduceNeg, Int.reduceToNat]) | (refine WP.regionO (id := 11) ?_; simp only [go_sem, e32, z32, hcut, encS, hrow0, hrow00, hki, hrow1, hrow1', hzT, tyAll, Nat.reduceAdd, Nat.reduceLT, Nat.reduceLeDiff, Nat.reduceEqDiff, Nat.reduceMul, Nat.reduceSub, Nat.reduceGT, reduceIte, Int.reduceNeg, Int.reduceToNat]) | refine WP.seq ?_ | refine WP.block ?_ | ((first | refine WP.region ?_ | refine WP.condW ?_ | refine WP.ret ?_ | refine WP.exit ?_ | refine WP.skip ?_); simp only [go_sem, e32, z32, hcut, encS, hrow0, hrow00, hki, hrow1, hrow1', hzT, tyAll, Nat.reduceAdd, Nat.reduceLT, Nat.reduceLeDiff, Nat.reduceEqDiff, Nat.reduceMul, Nat.reduceSub, Nat.reduceGT, reduceIte, Int.reduceNeg, Int.reduceToNat]) | ((first | refine WP.flowW 7 flbfb039598e [5, 8, 9, 10, 11, 12, 13] [5] [] (by decide +kernel) (by kernel_rfl) (by kernel_rfl) (by kernel_rfl) ?_); simp only [go_sem, e32, z32, hcut, encS, hrow0, hrow00, hki, hrow1, hrow1', hzT, tyAll, Nat.reduceAdd, Nat.reduceLT, Nat.reduceLeDiff, Nat.reduceEqDiff, Nat.reduceMul, Nat.reduceSub, Nat.reduceGT, reduceIte, Int.reduceNeg, Int.reduceToNat]) |  refine And.intro ?_ ?_ | intro _))
            all_goals first | omega | exact hsm | assumption | rfl | exact ⟨_, _, rfl⟩ | exact ⟨_, _, _, _, rfl⟩ | exact ⟨_, _, rfl, _, _, rfl, rfl⟩ | exact kwS_small | exact rowS_len ‹_› | exact ⟨_, _, if_neg (by omega)⟩ | exact if_neg (by omega) | skip
            all_goals trace_state
          · by_cases hq : fmtLine ⟨1, r1, [], []⟩ = s
            · have hy := hyes hz hq
              rw [hy, lnD_yes hy]
              (repeat' (first | (refine WP.adoSeq (id := 3) adoPL ?_; simp only [go_sem, e32, z32, hcut, encS, hrow0, hrow00, hki, hrow1, hrow1', hz, hq, tyAll, Nat.reduceAdd, Nat.reduceLT, Nat.reduceLeDiff, Nat.reduceEqDiff, Nat.reduceMul, Nat.reduceSub, Nat.reduceGT, reduceIte, Int.reduceNeg, Int.reduceToNat]) | refine WP.seq ?_ | refine WP.block ?_ | ((first | refine WP.region ?_ | refine WP.condW ?_ | refine WP.ret ?_ | refine WP.exit ?_ | refine WP.skip ?_); simp only [go_sem, e32, z32, hcut, encS, hrow0, hrow00, hki, hrow1, hrow1', hz, hq, tyAll, Nat.reduceAdd, Nat.reduceLT, Nat.reduceLeDiff, Nat.reduceEqDiff, Nat.reduceMul, Nat.reduceSub, Nat.reduceGT, reduceIte, Int.reduceNeg, Int.reduceToNat]) | ((first | refine WP.flowW 7 flbfb039598e [5, 8, 9, 10, 11, 12, 13] [5] [] (by decide +kernel) (by kernel_rfl) (by kernel_rfl) (by kernel_rfl) ?_); simp only [go_sem, e32, z32, hcut, encS, hrow0, hrow00, hki, hrow1, hrow1', hz, hq, tyAll, Nat.reduceAdd, Nat.reduceLT, Nat.reduceLeDiff, Nat.reduceEqDiff, Nat.reduceMul, Nat.reduceSub, Nat.reduceGT, reduceIte, Int.reduceNeg, Int.reduceToNat]) |  refine And.intro ?_ ?_ | intro _))
              all_goals first | omega | exact hsm | assumption | rfl | exact ⟨_, _, rfl⟩ | exact ⟨_, _, _, _, rfl⟩ | exact ⟨_, _, rfl, _, _, rfl, rfl⟩ | exact kwS_small | exact rowS_len ‹_› | exact ⟨_, _, if_neg (by omega)⟩ | exact if_neg (by omega) | skip
              all_goals trace_state
            · have hn := hno (.inr hq)
              rw [hn, lnD_no hn]
              (repeat' (first | (refine WP.adoSeq (id := 3) adoPL ?_; simp only [go_sem, e32, z32, hcut, encS, hrow0, hrow00, hki, hrow1, hrow1', hz, hq, tyAll, Nat.reduceAdd, Nat.reduceLT, Nat.reduceLeDiff, Nat.reduceEqDiff, Nat.reduceMul, Nat.reduceSub, Nat.reduceGT, reduceIte, Int.reduceNeg, Int.reduceToNat]) | refine WP.seq ?_ | refine WP.block ?_ | ((first | refine WP.region ?_ | refine WP.condW ?_ | refine WP.ret ?_ | refine WP.exit ?_ | refine WP.skip ?_); simp only [go_sem, e32, z32, hcut, encS, hrow0, hrow00, hki, hrow1, hrow1', hz, hq, tyAll, Nat.reduceAdd, Nat.reduceLT, Nat.reduceLeDiff, Nat.reduceEqDiff, Nat.reduceMul, Nat.reduceSub, Nat.reduceGT, reduceIte, Int.reduceNeg, Int.reduceToNat]) | ((first | refine WP.flowW 7 flbfb039598e [5, 8, 9, 10, 11, 12, 13] [5] [] (by decide +kernel) (by kernel_rfl) (by kernel_rfl) (by kernel_rfl) ?_); simp only [go_sem, e32, z32, hcut, encS, hrow0, hrow00, hki, hrow1, hrow1', hz, hq, tyAll, Nat.reduceAdd, Nat.reduceLT, Nat.reduceLeDiff, Nat.reduceEqDiff, Nat.reduceMul, Nat.reduceSub, Nat.reduceGT, reduceIte, Int.reduceNeg, Int.reduceToNat]) |  refine And.intro ?_ ?_ | intro _))
              all_goals first | omega | exact hsm | assumption | rfl | exact ⟨_, _, rfl⟩ | exact ⟨_, _, _, _, rfl⟩ | exact ⟨_, _, rfl, _, _, rfl, rfl⟩ | exact kwS_small | exact rowS_len ‹_› | exact ⟨_, _, if_neg (by omega)⟩ | exact if_neg (by omega) | skip
              all_goals trace_state
        | cons r2 R3 =>
          have hc : candK 1 (r1 :: r2 :: R3) = ⟨1, r1, [], (exprOf (r2 :: R3)).getD []⟩ := by simp [candK, candN, candR, hasNm]
          have hE := exprD_sm (r2 :: R3)
          have hl3 : (0 : Int) < ((r2 :: R3).length : Nat) := by rw [List.length_cons]; omega
          have hrow0 : Go.Vc.rowAt ([SV.v (.string w0)] :: [SV.v (.string r1)] :: (r2 :: R3).map encS) 0 = [SV.v (.string w0)] := rfl
          generalize r2 :: R3 = R4 at *
          have hsm : smLine ⟨1, r1, [], (exprOf R4).getD []⟩ := smLine_mk hr1 hn0 hE
          rw [hc] at hno hyes
          by_cases hz : s = ⟨#[]⟩
          · have hn := hno (.inl hz)
            have hzT : (s = ⟨#[]⟩) = True := eq_true hz
            rw [hn, lnD_no hn]
            (repeat' (first | (refine WP.adoSeq (id := 3) adoPL ?_; simp only [go_sem, e32, z32, hcut, encS, hrow0, hrow00, hki, hrow1, hl3, hzT, tyAll, Nat.reduceAdd, Nat.reduceLT, Nat.reduceLeDiff, Nat.reduceEqDiff, Nat.reduceMul, Nat.reduceSub, Nat.reduceGT, reduceIte, Int.reduceNeg, Int.reduceToNat]) | (refine WP.regionO (id := 11) ?_; simp only [go_sem, e32, z32, hcut, encS, hrow0, hrow00, hki, hrow1, hl3, hzT, tyAll, Nat.reduceAdd, Nat.reduceLT, Nat.reduceLeDiff, Nat.reduceEqDiff, Nat.reduceMul, Nat.reduceSub, Nat.reduceGT, reduceIte, Int.reduceNeg, Int.reduceToNat]) | refine WP.seq ?_ | refine WP.block ?_ | ((first | refine WP.region ?_ | refine WP.condW ?_ | refine WP.ret ?_ | refine WP.exit ?_ | refine WP.skip ?_); simp only [go_sem, e32, z32, hcut, encS, hrow0, hrow00, hki, hrow1, hl3, hzT, tyAll, Nat.reduceAdd, Nat.reduceLT, Nat.reduceLeDiff, Nat.reduceEqDiff, Nat.reduceMul, Nat.reduceSub, Nat.reduceGT, reduceIte, Int.reduceNeg, Int.reduceToNat]) | ((first | refine WP.flowW 7 flbfb039598e [5, 8, 9, 10, 11, 12, 13] [5] [] (by decide +kernel) (by kernel_rfl) (by kernel_rfl) (by kernel_rfl) ?_); simp only [go_sem, e32, z32, hcut, encS, hrow0, hrow00, hki, hrow1, hl3, hzT, tyAll, Nat.reduceAdd, Nat.reduceLT, Nat.reduceLeDiff, Nat.reduceEqDiff, Nat.reduceMul, Nat.reduceSub, Nat.reduceGT, reduceIte, Int.reduceNeg, Int.reduceToNat]) |  refine And.intro ?_ ?_ | intro _))
            all_goals first | omega | exact hsm | assumption | rfl | exact ⟨_, _, rfl⟩ | exact ⟨_, _, _, _, rfl⟩ | exact ⟨_, _, rfl, _, _, rfl, rfl⟩ | exact kwS_small | exact rowS_len ‹_› | exact ⟨_, _, if_neg (by omega)⟩ | exact if_neg (by omega) | skip
            all_goals trace_state
          · by_cases hq : fmtLine ⟨1, r1, [], (exprOf R4).getD []⟩ = s
            · have hy := hyes hz hq
              rw [hy, lnD_yes hy]
              (repeat' (first | (refine WP.adoSeq (id := 3) adoPL ?_; simp only [go_sem, e32, z32, hcut, encS, hrow0, hrow00, hki, hrow1, hl3, hz, hq, tyAll, Nat.reduceAdd, Nat.reduceLT, Nat.reduceLeDiff, Nat.reduceEqDiff, Nat.reduceMul, Nat.reduceSub, Nat.reduceGT, reduceIte, Int.reduceNeg, Int.reduceToNat]) | refine WP.seq ?_ | refine WP.block ?_ | ((first | refine WP.region ?_ | refine WP.condW ?_ | refine WP.ret ?_ | refine WP.exit ?_ | refine WP.skip ?_); simp only [go_sem, e32, z32, hcut, encS, hrow0, hrow00, hki, hrow1, hl3, hz, hq, tyAll, Nat.reduceAdd, Nat.reduceLT, Nat.reduceLeDiff, Nat.reduceEqDiff, Nat.reduceMul, Nat.reduceSub, Nat.reduceGT, reduceIte, Int.reduceNeg, Int.reduceToNat]) | ((first | refine WP.flowW 7 flbfb039598e [5, 8, 9, 10, 11, 12, 13] [5] [] (by decide +kernel) (by kernel_rfl) (by kernel_rfl) (by kernel_rfl) ?_); simp only [go_sem, e32, z32, hcut, encS, hrow0, hrow00, hki, hrow1, hl3, hz, hq, tyAll, Nat.reduceAdd, Nat.reduceLT, Nat.reduceLeDiff, Nat.reduceEqDiff, Nat.reduceMul, Nat.reduceSub, Nat.reduceGT, reduceIte, Int.reduceNeg, Int.reduceToNat]) |  refine And.intro ?_ ?_ | intro _))
              all_goals first | omega | exact hsm | assumption | rfl | exact ⟨_, _, rfl⟩ | exact ⟨_, _, _, _, rfl⟩ | exact ⟨_, _, rfl, _, _, rfl, rfl⟩ | exact kwS_small | exact rowS_len ‹_› | exact ⟨_, _, if_neg (by omega)⟩ | exact if_neg (by omega) | skip
              all_goals trace_state
            · have hn := hno (.inr hq)
              rw [hn, lnD_no hn]
              (repeat' (first | (refine WP.adoSeq (id := 3) adoPL ?_; simp only [go_sem, e32, z32, hcut, encS, hrow0, hrow00, hki, hrow1, hl3, hz, hq, tyAll, Nat.reduceAdd, Nat.reduceLT, Nat.reduceLeDiff, Nat.reduceEqDiff, Nat.reduceMul, Nat.reduceSub, Nat.reduceGT, reduceIte, Int.reduceNeg, Int.reduceToNat]) | refine WP.seq ?_ | refine WP.block ?_ | ((first | refine WP.region ?_ | refine WP.condW ?_ | refine WP.ret ?_ | refine WP.exit ?_ | refine WP.skip ?_); simp only [go_sem, e32, z32, hcut, encS, hrow0, hrow00, hki, hrow1, hl3, hz, hq, tyAll, Nat.reduceAdd, Nat.reduceLT, Nat.reduceLeDiff, Nat.reduceEqDiff, Nat.reduceMul, Nat.reduceSub, Nat.reduceGT, reduceIte, Int.reduceNeg, Int.reduceToNat]) | ((first | refine WP.flowW 7 flbfb039598e [5, 8, 9, 10, 11, 12, 13] [5] [] (by decide +kernel) (by kernel_rfl) (by kernel_rfl) (by kernel_rfl) ?_); simp only [go_sem, e32, z32, hcut, encS, hrow0, hrow00, hki, hrow1, hl3, hz, hq, tyAll, Nat.reduceAdd, Nat.reduceLT, Nat.reduceLeDiff, Nat.reduceEqDiff, Nat.reduceMul, Nat.reduceSub, Nat.reduceGT, reduceIte, Int.reduceNeg, Int.reduceToNat]) |  refine And.intro ?_ ?_ | intro _))
              all_goals first | omega | exact hsm | assumption | rfl | exact ⟨_, _, rfl⟩ | exact ⟨_, _, _, _, rfl⟩ | exact ⟨_, _, rfl, _, _, rfl, rfl⟩ | exact kwS_small | exact rowS_len ‹_› | exact ⟨_, _, if_neg (by omega)⟩ | exact if_neg (by omega) | skip
              all_goals trace_state
    · cases R with
      | nil =>
        have hc : candK k [] = ⟨k, ⟨#[]⟩, [], []⟩ := by simp [candK, candN, candR, hasNm, exprOf_nil]
        have hsm : smLine ⟨k, ⟨#[]⟩, [], []⟩ := smLine_mk (by rw [hs0]; omega) hn0 ht0
        rw [hc] at hno hyes
        by_cases hz : s = ⟨#[]⟩
        · have hn := hno (.inl hz)
          have hzT : (s = ⟨#[]⟩) = True := eq_true hz
          rw [hn, lnD_no hn]
          (repeat' (first | (refine WP.adoSeq (id := 3) adoPL ?_; simp only [go_sem, e32, z32, hcut, encS, hrow0, hrow00, hki, h0, h1, hzT, tyAll, Nat.reduceAdd, Nat.reduceLT, Nat.reduceLeDiff, Nat.reduceEqDiff, Nat.reduceMul, Nat.reduceSub, Nat.reduceGT, reduceIte, Int.reduceNeg, Int.reduceToNat]) | (refine WP.regionO (id := 11) ?_; simp only [go_sem, e32, z32, hcut, encS, hrow0, hrow00, hki, h0, h1, hzT, tyAll, Nat.reduceAdd, Nat.reduceLT, Nat.reduceLeDiff, Nat.reduceEqDiff, Nat.reduceMul, Nat.reduceSub, Nat.reduceGT, reduceIte, Int.reduceNeg, Int.reduceToNat]) | refine WP.seq ?_ | refine WP.block ?_ | ((first | refine WP.region ?_ | refine WP.condW ?_ | refine WP.ret ?_ | refine WP.exit ?_ | refine WP.skip ?_); simp only [go_sem, e32, z32, hcut, encS, hrow0, hrow00, hki, h0, h1, hzT, tyAll, Nat.reduceAdd, Nat.reduceLT, Nat.reduceLeDiff, Nat.reduceEqDiff, Nat.reduceMul, Nat.reduceSub, Nat.reduceGT, reduceIte, Int.reduceNeg, Int.reduceToNat]) | ((first | refine WP.flowW 7 flbfb039598e [5, 8, 9, 10, 11, 12, 13] [5] [] (by decide +kernel) (by kernel_rfl) (by kernel_rfl) (by kernel_rfl) ?_); simp only [go_sem, e32, z32, hcut, encS, hrow0, hrow00, hki, h0, h1, hzT, tyAll, Nat.reduceAdd, Nat.reduceLT, Nat.reduceLeDiff, Nat.reduceEqDiff, Nat.reduceMul, Nat.reduceSub, Nat.reduceGT, reduceIte, Int.reduceNeg, Int.reduceToNat]) |  refine And.intro ?_ ?_ | intro _))
          all_goals first | omega | exact hsm | assumption | rfl | exact ⟨_, _, rfl⟩ | exact ⟨_, _, _, _, rfl⟩ | exact ⟨_, _, rfl, _, _, rfl, rfl⟩ | exact kwS_small | exact rowS_len ‹_› | exact ⟨_, _, if_neg (by omega)⟩ | exact if_neg (by omega) | skip
          all_goals trace_state
        · by_cases hq : fmtLine ⟨k, ⟨#[]⟩, [], []⟩ = s
          · have hy := hyes hz hq
            rw [hy, lnD_yes hy]
            (repeat' (first | (refine WP.adoSeq (id := 3) adoPL ?_; simp only [go_sem, e32, z32, hcut, encS, hrow0, hrow00, hki, h0, h1, hz, hq, tyAll, Nat.reduceAdd, Nat.reduceLT, Nat.reduceLeDiff, Nat.reduceEqDiff, Nat.reduceMul, Nat.reduceSub, Nat.reduceGT, reduceIte, Int.reduceNeg, Int.reduceToNat]) | refine WP.seq ?_ | refine WP.block ?_ | ((first | refine WP.region ?_ | refine WP.condW ?_ | refine WP.ret ?_ | refine WP.exit ?_ | refine WP.skip ?_); simp only [go_sem, e32, z32, hcut, encS, hrow0, hrow00, hki, h0, h1, hz, hq, tyAll, Nat.reduceAdd, Nat.reduceLT, Nat.reduceLeDiff, Nat.reduceEqDiff, Nat.reduceMul, Nat.reduceSub, Nat.reduceGT, reduceIte, Int.reduceNeg, Int.reduceToNat]) | ((first | refine WP.flowW 7 flbfb039598e [5, 8, 9, 10, 11, 12, 13] [5] [] (by decide +kernel) (by kernel_rfl) (by kernel_rfl) (by kernel_rfl) ?_); simp only [go_sem, e32, z32, hcut, encS, hrow0, hrow00, hki, h0, h1, hz, hq, tyAll, Nat.reduceAdd, Nat.reduceLT, Nat.reduceLeDiff, Nat.reduceEqDiff, Nat.reduceMul, Nat.reduceSub, Nat.reduceGT, reduceIte, Int.reduceNeg, Int.reduceToNat]) |  refine And.intro ?_ ?_ | intro _))
            all_goals first | omega | exact hsm | assumption | rfl | exact ⟨_, _, rfl⟩ | exact ⟨_, _, _, _, rfl⟩ | exact ⟨_, _, rfl, _, _, rfl, rfl⟩ | exact kwS_small | exact rowS_len ‹_› | exact ⟨_, _, if_neg (by omega)⟩ | exact if_neg (by omega) | skip
            all_goals trace_state
          · have hn := hno (.inr hq)
            rw [hn, lnD_no hn]
            (repeat' (first | (refine WP.adoSeq (id := 3) adoPL ?_; simp only [go_sem, e32, z32, hcut, encS, hrow0, hrow00, hki, h0, h1, hz, hq, tyAll, Nat.reduceAdd, Nat.reduceLT, Nat.reduceLeDiff, Nat.reduceEqDiff, Nat.reduceMul, Nat.reduceSub, Nat.reduceGT, reduceIte, Int.reduceNeg, Int.reduceToNat]) | refine WP.seq ?_ | refine WP.block ?_ | ((first | refine WP.region ?_ | refine WP.condW ?_ | refine WP.ret ?_ | refine WP.exit ?_ | refine WP.skip ?_); simp only [go_sem, e32, z32, hcut, encS, hrow0, hrow00, hki, h0, h1, hz, hq, tyAll, Nat.reduceAdd, Nat.reduceLT, Nat.reduceLeDiff, Nat.reduceEqDiff, Nat.reduceMul, Nat.reduceSub, Nat.reduceGT, reduceIte, Int.reduceNeg, Int.reduceToNat]) | ((first | refine WP.flowW 7 flbfb039598e [5, 8, 9, 10, 11, 12, 13] [5] [] (by decide +kernel) (by kernel_rfl) (by kernel_rfl) (by kernel_rfl) ?_); simp only [go_sem, e32, z32, hcut, encS, hrow0, hrow00, hki, h0, h1, hz, hq, tyAll, Nat.reduceAdd, Nat.reduceLT, Nat.reduceLeDiff, Nat.reduceEqDiff, Nat.reduceMul, Nat.reduceSub, Nat.reduceGT, reduceIte, Int.reduceNeg, Int.reduceToNat]) |  refine And.intro ?_ ?_ | intro _))
            all_goals first | omega | exact hsm | assumption | rfl | exact ⟨_, _, rfl⟩ | exact ⟨_, _, _, _, rfl⟩ | exact ⟨_, _, rfl, _, _, rfl, rfl⟩ | exact kwS_small | exact rowS_len ‹_› | exact ⟨_, _, if_neg (by omega)⟩ | exact if_neg (by omega) | skip
            all_goals trace_state
      | cons r1 R2 =>
        have hc : candK k (r1 :: R2) = ⟨k, ⟨#[]⟩, [], (exprOf (r1 :: R2)).getD []⟩ := by simp [candK, candN, candR, hasNm, h0, h1]
        have hE := exprD_sm (r1 :: R2)
        have hl3 : (0 : Int) < ((r1 :: R2).length : Nat) := by rw [List.length_cons]; omega
        generalize r1 :: R2 = R4 at *
        have hsm : smLine ⟨k, ⟨#[]⟩, [], (exprOf R4).getD []⟩ := smLine_mk (by rw [hs0]; omega) hn0 hE
        rw [hc] at hno hyes
        by_cases hz : s = ⟨#[]⟩
        · have hn := hno (.inl hz)
          have hzT : (s = ⟨#[]⟩) = True := eq_true hz
          rw [hn, lnD_no hn]
          (repeat' (first | (refine WP.adoSeq (id := 3) adoPL ?_; simp only [go_sem, e32, z32, hcut, encS, hrow0, hrow00, hki, h0, h1, hl3, hzT, tyAll, Nat.reduceAdd, Nat.reduceLT, Nat.reduceLeDiff, Nat.reduceEqDiff, Nat.reduceMul, Nat.reduceSub, Nat.reduceGT, reduceIte, Int.reduceNeg, Int.reduceToNat]) | (refine WP.regionO (id := 11) ?_; simp only [go_sem, e32, z32, hcut, encS, hrow0, hrow00, hki, h0, h1, hl3, hzT, tyAll, Nat.reduceAdd, Nat.reduceLT, Nat.reduceLeDiff, Nat.reduceEqDiff, Nat.reduceMul, Nat.reduceSub, Nat.reduceGT, reduceIte, Int.reduceNeg, Int.reduceToNat]) | refine WP.seq ?_ | refine WP.block ?_ | ((first | refine WP.region ?_ | refine WP.condW ?_ | refine WP.ret ?_ | refine WP.exit ?_ | refine WP.skip ?_); simp only [go_sem, e32, z32, hcut, encS, hrow0, hrow00, hki, h0, h1, hl3, hzT, tyAll, Nat.reduceAdd, Nat.reduceLT, Nat.reduceLeDiff, Nat.reduceEqDiff, Nat.reduceMul, Nat.reduceSub, Nat.reduceGT, reduceIte, Int.reduceNeg, Int.reduceToNat]) | ((first | refine WP.flowW 7 flbfb039598e [5, 8, 9, 10, 11, 12, 13] [5] [] (by decide +kernel) (by kernel_rfl) (by kernel_rfl) (by kernel_rfl) ?_); simp only [go_sem, e32, z32, hcut, encS, hrow0, hrow00, hki, h0, h1, hl3, hzT, tyAll, Nat.reduceAdd, Nat.reduceLT, Nat.reduceLeDiff, Nat.reduceEqDiff, Nat.reduceMul, Nat.reduceSub, Nat.reduceGT, reduceIte, Int.reduceNeg, Int.reduceToNat]) |  refine And.intro ?_ ?_ | intro _))
          all_goals first | omega | exact hsm | assumption | rfl | exact ⟨_, _, rfl⟩ | exact ⟨_, _, _, _, rfl⟩ | exact ⟨_, _, rfl, _, _, rfl, rfl⟩ | exact kwS_small | exact rowS_len ‹_› | exact ⟨_, _, if_neg (by omega)⟩ | exact if_neg (by omega) | skip
          all_goals trace_state
        · by_cases hq : fmtLine ⟨k, ⟨#[]⟩, [], (exprOf R4).getD []⟩ = s
          · have hy := hyes hz hq
            rw [hy, lnD_yes hy]
            (repeat' (first | (refine WP.adoSeq (id := 3) adoPL ?_; simp only [go_sem, e32, z32, hcut, encS, hrow0, hrow00, hki, h0, h1, hl3, hz, hq, tyAll, Nat.reduceAdd, Nat.reduceLT, Nat.reduceLeDiff, Nat.reduceEqDiff, Nat.reduceMul, Nat.reduceSub, Nat.reduceGT, reduceIte, Int.reduceNeg, Int.reduceToNat]) | refine WP.seq ?_ | refine WP.block ?_ | ((first | refine WP.region ?_ | refine WP.condW ?_ | refine WP.ret ?_ | refine WP.exit ?_ | refine WP.skip ?_); simp only [go_sem, e32, z32, hcut, encS, hrow0, hrow00, hki, h0, h1, hl3, hz, hq, tyAll, Nat.reduceAdd, Nat.reduceLT, Nat.reduceLeDiff, Nat.reduceEqDiff, Nat.reduceMul, Nat.reduceSub, Nat.reduceGT, reduceIte, Int.reduceNeg, Int.reduceToNat]) | ((first | refine WP.flowW 7 flbfb039598e [5, 8, 9, 10, 11, 12, 13] [5] [] (by decide +kernel) (by kernel_rfl) (by kernel_rfl) (by kernel_rfl) ?_); simp only [go_sem, e32, z32, hcut, encS, hrow0, hrow00, hki, h0, h1, hl3, hz, hq, tyAll, Nat.reduceAdd, Nat.reduceLT, Nat.reduceLeDiff, Nat.reduceEqDiff, Nat.reduceMul, Nat.reduceSub, Nat.reduceGT, reduceIte, Int.reduceNeg, Int.reduceToNat]) |  refine And.intro ?_ ?_ | intro _))
            all_goals first | omega | exact hsm | assumption | rfl | exact ⟨_, _, rfl⟩ | exact ⟨_, _, _, _, rfl⟩ | exact ⟨_, _, rfl, _, _, rfl, rfl⟩ | exact kwS_small | exact rowS_len ‹_› | exact ⟨_, _, if_neg (by omega)⟩ | exact if_neg (by omega) | skip
            all_goals trace_state
          · have hn := hno (.inr hq)
            rw [hn, lnD_no hn]
            (repeat' (first | (refine WP.adoSeq (id := 3) adoPL ?_; simp only [go_sem, e32, z32, hcut, encS, hrow0, hrow00, hki, h0, h1, hl3, hz, hq, tyAll, Nat.reduceAdd, Nat.reduceLT, Nat.reduceLeDiff, Nat.reduceEqDiff, Nat.reduceMul, Nat.reduceSub, Nat.reduceGT, reduceIte, Int.reduceNeg, Int.reduceToNat]) | refine WP.seq ?_ | refine WP.block ?_ | ((first | refine WP.region ?_ | refine WP.condW ?_ | refine WP.ret ?_ | refine WP.exit ?_ | refine WP.skip ?_); simp only [go_sem, e32, z32, hcut, encS, hrow0, hrow00, hki, h0, h1, hl3, hz, hq, tyAll, Nat.reduceAdd, Nat.reduceLT, Nat.reduceLeDiff, Nat.reduceEqDiff, Nat.reduceMul, Nat.reduceSub, Nat.reduceGT, reduceIte, Int.reduceNeg, Int.reduceToNat]) | ((first | refine WP.flowW 7 flbfb039598e [5, 8, 9, 10, 11, 12, 13] [5] [] (by decide +kernel) (by kernel_rfl) (by kernel_rfl) (by kernel_rfl) ?_); simp only [go_sem, e32, z32, hcut, encS, hrow0, hrow00, hki, h0, h1, hl3, hz, hq, tyAll, Nat.reduceAdd, Nat.reduceLT, Nat.reduceLeDiff, Nat.reduceEqDiff, Nat.reduceMul, Nat.reduceSub, Nat.reduceGT, reduceIte, Int.reduceNeg, Int.reduceToNat]) |  refine And.intro ?_ ?_ | intro _))
            all_goals first | omega | exact hsm | assumption | rfl | exact ⟨_, _, rfl⟩ | exact ⟨_, _, _, _, rfl⟩ | exact ⟨_, _, rfl, _, _, rfl, rfl⟩ | exact kwS_small | exact rowS_len ‹_› | exact ⟨_, _, if_neg (by omega)⟩ | exact if_neg (by omega) | skip
            all_goals trace_state
end
end
end Go.Proofs.YtdhkhapbldkkdaaDoor
/-
  DERIVED. Marks of lists whose elements take several numbers each.
-/
namespace Go.Proofs.YtdhkhapbldkkdaaDoor
open Go.Vc
section
variable {α : Type} (cnt : α → Nat) (mrk : Int → α → α)
def cntA (L : List α) : Nat := (L.map cnt).sum
def mkA : Int → List α → List α
  | _, [] => []
  | k, x :: L => mrk k x :: mkA (k + (cnt x : Int)) L
def hfA (k : Int) (L : List α) (i : Nat) : List α := mkA cnt mrk k (L.take i) ++ L.drop i
variable {cnt mrk}
theorem mkA_len : ∀ (L : List α) (k : Int), (mkA cnt mrk k L).length = L.length
  | [], _ => rfl
  | x :: L, k => by simp [mkA, mkA_len L]
theorem mkA_app : ∀ (L M : List α) (k : Int), mkA cnt mrk k (L ++ M) = mkA cnt mrk k L ++ mkA cnt mrk (k + (cntA cnt L : Int)) M
  | [], M, k => by simp [mkA, cntA]
  | x :: L, M, k => by
    rw [List.cons_append, mkA, mkA, mkA_app L M, List.cons_append]
    congr 2
    simp only [cntA, List.map_cons, List.sum_cons]
    congr 1
    omega
theorem cntA_take (L : List α) (i : Nat) (h : i < L.length) : cntA cnt (L.take (i + 1)) = cntA cnt (L.take i) + cnt L[i] := by
  unfold cntA
  rw [List.take_succ_eq_append_getElem h, List.map_append, List.sum_append]
  simp
theorem cntA_le (L : List α) (m : Nat) (h : ∀ x ∈ L, cnt x ≤ m) : cntA cnt L ≤ L.length * m := by
  induction L with
  | nil => simp [cntA]
  | cons x L ih =>
    have h1 := h x List.mem_cons_self
    have h2 := ih fun y hy => h y (List.mem_cons_of_mem _ hy)
    simp only [cntA, List.map_cons, List.sum_cons, List.length_cons, Nat.add_mul] at h2 ⊢
    omega
theorem cntA_take_le (L : List α) (i : Nat) : cntA cnt (L.take i) ≤ cntA cnt L := by
  have := List.take_append_drop i L
  have h2 : cntA cnt L = cntA cnt (L.take i) + cntA cnt (L.drop i) := by
    unfold cntA
    rw [← List.sum_append, ← List.map_append, this]
  omega
theorem hfA_zero (L : List α) (k : Int) : hfA cnt mrk k L 0 = L := by simp [hfA, mkA]
theorem hfA_len (L : List α) (k : Int) (i : Nat) (h : i ≤ L.length) : (hfA cnt mrk k L i).length = L.length := by simp [hfA, mkA_len]; omega
theorem hfA_get (L : List α) (k : Int) (i : Nat) (h : i < L.length) : (hfA cnt mrk k L i)[i]? = some L[i] := by
  unfold hfA
  rw [List.getElem?_append_right (by simp [mkA_len]; omega)]
  simp [mkA_len, Nat.min_eq_left (Nat.le_of_lt h)]
theorem hfA_row {en : α → List SV} (L : List α) (k : Int) (i : Nat) (h : i < L.length) : Go.Vc.rowAt ((hfA cnt mrk k L i).map en) i = en L[i] := by
  unfold Go.Vc.rowAt
  rw [List.getElem?_map, hfA_get L k i h]; rfl
theorem hfA_set {en : α → List SV} (L : List α) (k : Int) (i : Nat) (h : i < L.length) : ((hfA cnt mrk k L i).map en).set i (en (mrk (k + (cntA cnt (L.take i) : Int)) L[i])) = (hfA cnt mrk k L (i + 1)).map en := by
  rw [← List.map_set]
  congr 1
  unfold hfA
  have hl : (mkA cnt mrk k (L.take i)).length = i := by rw [mkA_len, List.length_take]; omega
  rw [List.set_append, if_neg (by omega), hl, Nat.sub_self, List.drop_eq_getElem_cons h, List.set_cons_zero, List.take_succ_eq_append_getElem h, mkA_app, List.append_assoc]
  rfl
theorem hfA_all (L : List α) (k : Int) : hfA cnt mrk k L L.length = mkA cnt mrk k L := by simp [hfA]
theorem mkA_get : ∀ (L : List α) (k : Int) (i : Nat) (h : i < L.length), (mkA cnt mrk k L)[i]'(by rw [mkA_len]; exact h) = mrk (k + (cntA cnt (L.take i) : Int)) L[i]
  | x :: L, k, 0, _ => by simp [mkA, cntA]
  | x :: L, k, i + 1, h => by
    simp only [mkA, List.getElem_cons_succ, List.take_succ_cons]
    rw [mkA_get L _ i (by simpa using h)]
    congr 1
    simp only [cntA, List.map_cons, List.sum_cons]
    omega
end
end Go.Proofs.YtdhkhapbldkkdaaDoor

namespace Go.Proofs.YtdhkhapbldkkdaaDoor
open Go.Vc
attribute [local go_sem] St.runR St.runW St.stepV offV St.step St.stepU St.stepG mkCond guardB St.prK St.pr St.prLen St.eff St.callE St.callD St.callF St.callL aI aB aS aR aC St.isM St.argL Ctr.pure Ctr.lend Ctr.move Ctr.isL Ctr.wri pur len lentBy St.lentV St.lent1 nthS argsR restOf obsR pairs swapL unObs backL St.resL erL SV.ren1 SV.up SV.up2 Ob.up St.fzL cellIds partIds St.intoRow SV.ownId St.fz SV.fz1 St.prep St.mvL St.mv SV.re1 rnOk St.prEq vals eqCells scEq Value.kd St.prStr St.prCut cutR St.bnd St.prMin St.bld isShift outL retL outJ oR oC oE oD SV.upq SV.isSl SV.shut St.deepK St.dpArg St.deepQ absC Ob.pl St.ev St.get St.put St.new St.kill SV.kill SV.kill1 Ob.kill St.app St.wrt St.rowsOf St.res St.killL lk er argsL SV.strip SV.need SV.share SV.share1 SV.owns SV.owns1 SV.owns2 SV.good SV.good1 SV.rok SV.rok1 SV.rok2 SV.isV SV.isV2 nodupN SV.cells SV.one SV.pur Ob.pb partsIn rowsIn splice cellsAt dstOk scal2 scal1 thenK blockK retK outK outs okC okL okA okT nilC nilL nilA nilT keepC keepL keepA keepT St.runG St.dltK St.least St.clean St.final St.hide offK badS badO SV.refs SV.leaf SV.leaf2 Ob.refs dlOk fpAt Go.Vc.cover tups SV.ofAgg St.out outC subL St.has rng wr Value.oneCell' Option.isSome_some Option.isSome_none List.nil_append Bool.false_eq_true List.map_cons List.map_nil List.all_cons List.all_nil List.length_cons List.length_nil List.drop_zero List.drop_succ_cons List.take_succ_cons List.take_zero List.drop_nil List.take_nil List.getElem?_cons_zero List.getElem?_cons_succ List.getElem?_nil List.cons_append List.nil_append List.append_nil List.append_assoc List.flatMap_cons List.flatMap_nil List.contains_cons List.contains_nil List.set_cons_zero List.set_cons_succ List.getElem?_toArray Option.getD_some Option.getD_none Option.map_some Option.map_none Option.bind_some Option.some.injEq Prod.mk.injEq if_true if_false true_and and_true and_self and_false false_and Bool.and_false Bool.false_and Bool.or_true Bool.true_or Bool.or_false Bool.false_or ne_eq not_true_eq_false not_false_eq_true decide_true decide_false List.mem_cons List.not_mem_nil List.filter_cons List.filter_nil List.any_cons List.any_nil List.isEmpty_nil List.isEmpty_cons Option.getD_none or_false false_or true_or or_true forall_eq_or_imp forall_eq reduceCtorEq exists_eq exists_eq' exists_eq_left' exists_eq_left exists_eq_right exists_eq_right' imp_self implies_true Bool.and_true Bool.true_and Bool.and_self beq_self_eq_true List.replicate_succ List.replicate_zero forall_const false_implies pickB_or pickB_and beqT beqF Int.toNat_natCast List.length_map List.length_replicate ge_iff_le gt_iff_lt decide_eq_true_eq decide_eq_false_iff_not Bool.and_eq_true Bool.or_eq_true Bool.not_eq_true' Bool.not_eq_false' condG List.toList_toArray Bool.or_eq_false_iff Bool.and_eq_false_iff Int.not_lt Int.not_le beq_iff_eq beq_eq_false_iff_ne bne_iff_ne bne_eq_false_iff_eq ne_eq Bool.not_true Bool.not_false exists_and_left
section
open Go.Vc
set_option linter.unusedSimpArgs false
set_option linter.unusedVariables false
set_option maxHeartbeats 1000000
set_option maxRecDepth 10000
attribute [local irreducible] Go.Vc.WP
attribute [local go_sem] cx0_t cx0_c
attribute [local go_sem] decS_enc decTok_enc decLine_enc oneLine_f line_eta ghoK St.gho St.gh SV.flat
theorem allVs_map {α : Type} {en : α → List SV} (h : ∀ x, ∀ c ∈ en x, ∃ v, c = SV.v v) (L : List α) : allVs (L.map en) ↔ True := iff_true_intro (by
  intro row hr c hc
  obtain ⟨n, _, rfl⟩ := List.mem_map.1 hr
  exact h n c hc)
theorem allVs_S (L : List ByteArray) : allVs (L.map encS) ↔ True := allVs_map (fun x c hc => by simp only [encS, List.mem_cons, List.not_mem_nil, or_false] at hc; exact ⟨_, hc⟩) L
theorem allVs_Tok (L : List Tok) : allVs (L.map encTok) ↔ True := allVs_map (fun x c hc => by simp only [encTok, List.mem_cons, List.not_mem_nil, or_false] at hc; rcases hc with rfl | rfl | rfl <;> exact ⟨_, rfl⟩) L
theorem allVs_rep {n : Nat} {z : List SV} (h : ∀ c ∈ z, ∃ v, c = SV.v v) : allVs (List.replicate n z) := fun row hr c hc => by
  rw [List.eq_of_mem_replicate hr] at hc
  exact h c hc
attribute [local go_sem] allVs_S allVs_Tok
def ktoLineO : Ctr := pur (fun args => decLine (aR args 0)) (fun L => [.sl 4 (L.map encLine)]) (fun L => L.length ≤ 1048576 ∧ ∀ x ∈ L, shLine x) (fun d _ => .own d) (fun d L => [(d, .dp 36 4 (L.map encLine))])
section
noncomputable def cxTls : Cx := { P := Tryd.prog, tys := tys, C := [], hty := tysOk, hC := COk.nil _ }
theorem cxTls_t : cxTls.tys = tys := rfl
theorem cxTls_c : cxTls.C = [] := rfl
attribute [local go_sem] cxTls_t cxTls_c 
end

def ktoLineZ : Ctr := pur (fun args => decLine (aR args 0)) (fun L => [.sl 4 (L.map encLine)]) (fun L => L.length ≤ 1048576 ∧ ∀ x ∈ L, shLine x) (fun _ L => .sl 4 (L.map encLine)) (fun _ _ => [])
/-! ## the same? (of two that are) -/
def kqLine : Ctr := pur (fun args => oneLine (aC args 0)) (fun x => [.agg [.v (.int .i64 x.kind), .v (.string x.name), .sl 1 (x.args.map encS), .sl 3 (x.expr.map encTok)], .agg [.v (.int .i64 x.kind), .v (.string x.name), .sl 1 (x.args.map encS), .sl 3 (x.expr.map encTok)]]) shLine (fun _ _ => .v (.bool true)) (fun _ _ => [])
section
noncomputable def cxQln : Cx := { P := Tryd.prog, tys := tys, C := [(36, keqS), (37, keqTokS)], hty := tysOk, hC := COk.cons ceqS (COk.cons ceqTokS (COk.nil _)) }
theorem cxQln_t : cxQln.tys = tys := rfl
theorem cxQln_c : cxQln.C = [(36, keqS), (37, keqTokS)] := rfl
attribute [local go_sem] cxQln_t cxQln_c keqS keqTokS
theorem cqLine : Cn Tryd.prog 18 kqLine := by
  refine Cn.pur Tryd.func18 (by kernel_rfl) rfl fun d x hx => ?_
  obtain ⟨k, n, A, E⟩ := x
  unfold shLine at hx
  obtain ⟨hA, hE⟩ := hx
  simp only at hA hE ⊢
  refine Holds.go (c := cxQln) Tryd.func18 rfl Tryd.results18 Tryd.ntmps18 (by omega) (by simp) rfl ?_
  intro X0 w0
  (repeat' (first | refine WP.seq ?_ | refine WP.block ?_ | ((first | refine WP.region ?_ | refine WP.condW ?_ | refine WP.ret ?_ | refine WP.exit ?_ | refine WP.skip ?_); simp only [go_sem, tyAll, Nat.reduceAdd, Nat.reduceLT, Nat.reduceLeDiff, Nat.reduceEqDiff, Nat.reduceMul, Nat.reduceSub, Nat.reduceGT, reduceIte, Int.reduceNeg, Int.reduceToNat]) |  refine And.intro ?_ ?_ | intro _))
  all_goals first | omega | skip
  all_goals trace_state
end
def kqLineS : Ctr := pur (fun args => decLine (aR args 0)) (fun L => [.sl 4 (L.map encLine), .sl 4 (L.map encLine)]) (fun L => L.length ≤ 1048576 ∧ ∀ x ∈ L, shLine x) (fun _ _ => .v (.bool true)) (fun _ _ => [])
section
attribute [local irreducible] shLine
noncomputable def cxQls : Cx := { P := Tryd.prog, tys := tys, C := [(18, kqLine)], hty := tysOk, hC := COk.cons cqLine (COk.nil _) }
theorem cxQls_t : cxQls.tys = tys := rfl
theorem cxQls_c : cxQls.C = [(18, kqLine)] := rfl
attribute [local go_sem] cxQls_t cxQls_c kqLine
theorem cqLineS : Cn Tryd.prog 7 kqLineS := by
  refine Cn.pur Tryd.func7 (by kernel_rfl) rfl fun d x hx => ?_
  rename List Line => L
  obtain ⟨hL, hY⟩ := hx
  refine Holds.go (c := cxQls) Tryd.func7 rfl Tryd.results7 Tryd.ntmps7 (by omega) (by simp) rfl ?_
  intro X0 w0
  (repeat' (first | refine WP.seq ?_ | refine WP.block ?_ | ((first | refine WP.region ?_ | refine WP.condW ?_ | refine WP.ret ?_ | refine WP.exit ?_ | refine WP.skip ?_); simp only [go_sem, tyAll, Nat.reduceAdd, Nat.reduceLT, Nat.reduceLeDiff, Nat.reduceEqDiff, Nat.reduceMul, Nat.reduceSub, Nat.reduceGT, reduceIte, Int.reduceNeg, Int.reduceToNat]) | ((first | refine WP.drawW 10 (by decide +kernel) (by kernel_rfl) ?_); simp only [go_sem, tyAll, Nat.reduceAdd, Nat.reduceLT, Nat.reduceLeDiff, Nat.reduceEqDiff, Nat.reduceMul, Nat.reduceSub, Nat.reduceGT, reduceIte, Int.reduceNeg, Int.reduceToNat]) |  refine And.intro ?_ ?_ | intro _))
  all_goals first | omega | skip
  refine WP.loop (fun k : Nat => ⟨[(0, .sl 4 (L.map encLine)), (1, .sl 4 (L.map encLine)), (5, .v (.int .i64 k))], []⟩) (fun k => k ≤ L.length) (fun k => L.length - k) 0 (by simp) ?_ ?_
  · simp only [go_sem, tyAll, Nat.reduceAdd, Nat.reduceLT, Nat.reduceLeDiff, Nat.reduceEqDiff, Nat.reduceMul, Nat.reduceSub, Nat.reduceGT, reduceIte, Int.reduceNeg, Int.reduceToNat]; first | exact ⟨rfl, rfl⟩ | rfl
  intro k hk
  by_cases hlt : k < L.length
  · have h1 := rowAt_map encLine L k hlt
    have h0 := hY _ (List.getElem_mem hlt)
    (repeat' (first | refine WP.seq ?_ | refine WP.block ?_ | ((first | refine WP.region ?_ | refine WP.condW ?_ | refine WP.ret ?_ | refine WP.exit ?_ | refine WP.skip ?_); simp only [go_sem, h1, encLine, tyAll, Nat.reduceAdd, Nat.reduceLT, Nat.reduceLeDiff, Nat.reduceEqDiff, Nat.reduceMul, Nat.reduceSub, Nat.reduceGT, reduceIte, Int.reduceNeg, Int.reduceToNat]) | ((first | refine WP.drawW 10 (by decide +kernel) (by kernel_rfl) ?_); simp only [go_sem, h1, encLine, tyAll, Nat.reduceAdd, Nat.reduceLT, Nat.reduceLeDiff, Nat.reduceEqDiff, Nat.reduceMul, Nat.reduceSub, Nat.reduceGT, reduceIte, Int.reduceNeg, Int.reduceToNat]) |  refine And.intro ?_ ?_ | intro _))
    all_goals first | omega | exact h0 | exact ⟨k + 1, by omega, by omega, rfl⟩ | exact ⟨k + 1, by omega, by omega, rfl, rfl⟩ | skip
    all_goals trace_state
  · (repeat' (first | refine WP.seq ?_ | refine WP.block ?_ | ((first | refine WP.region ?_ | refine WP.condW ?_ | refine WP.ret ?_ | refine WP.exit ?_ | refine WP.skip ?_); simp only [go_sem, tyAll, Nat.reduceAdd, Nat.reduceLT, Nat.reduceLeDiff, Nat.reduceEqDiff, Nat.reduceMul, Nat.reduceSub, Nat.reduceGT, reduceIte, Int.reduceNeg, Int.reduceToNat]) | ((first | refine WP.drawW 10 (by decide +kernel) (by kernel_rfl) ?_); simp only [go_sem, tyAll, Nat.reduceAdd, Nat.reduceLT, Nat.reduceLeDiff, Nat.reduceEqDiff, Nat.reduceMul, Nat.reduceSub, Nat.reduceGT, reduceIte, Int.reduceNeg, Int.reduceToNat]) |  refine And.intro ?_ ?_ | intro _))
    all_goals first | omega | skip
    all_goals trace_state
end

/-! ## marks -/
def cntLine (x : Line) : Nat := 2 + x.args.length + 3 * x.expr.length
def mrkLine (k : Int) (x : Line) : Line := ⟨k, markT (k + 1), marksS (k + 1 + 1) x.args.length, marksTok (k + 1 + 1 + (x.args.length : Int)) x.expr.length⟩
theorem cntLine_le {x : Line} (h : shLine x) : cntLine x ≤ 8388608 := by unfold cntLine; have := h.1; have := h.2; omega
def kmarkLineS : Ctr := len [0] [] (fun args obs => (decLine (oD obs 1000000), aI args 1, oE obs 1000000)) (fun x => [.own 1000000, .v (.int .i64 x.2.1)]) (fun x => [(1000000, .dp x.2.2 4 (x.1.map encLine))]) (fun x => x.1.length ≤ 1048576 ∧ (∀ y ∈ x.1, shLine y) ∧ 0 ≤ x.2.1 ∧ x.2.1 ≤ 100000000000000)
  (fun _ x => .v (.int .i64 (x.2.1 + (cntA cntLine x.1 : Int)))) (fun _ _ => []) (fun x => [(1000000, .dp x.2.2 4 ((mkA cntLine mrkLine x.2.1 x.1).map encLine))])
section
noncomputable def cxMln : Cx := { P := Tryd.prog, tys := tys, C := [(19, kmarkT), (20, kmarkSE), (21, kmarkTokE)], hty := tysOk, hC := COk.cons cmarkT (COk.cons cmarkSE (COk.cons cmarkTokE (COk.nil _))) }
theorem cxMln_t : cxMln.tys = tys := rfl
theorem cxMln_c : cxMln.C = [(19, kmarkT), (20, kmarkSE), (21, kmarkTokE)] := rfl
attribute [local go_sem] cxMln_t cxMln_c kmarkT kmarkSE kmarkTokE
theorem cmarkLineS : Cn Tryd.prog 9 kmarkLineS := by
  refine Cn.len Tryd.func9 (by kernel_rfl) rfl fun d x hd hx => ?_
  obtain ⟨L, k0, ee⟩ := x
  obtain ⟨hL, hY, h0, h1⟩ := hx
  simp only at hL hY h0 h1 ⊢
  have hcnt : cntA cntLine L ≤ 8796093022208 := Nat.le_trans (cntA_le L 8388608 fun x hx => cntLine_le (hY x hx)) (Nat.le_trans (Nat.mul_le_mul_right _ hL) (by decide))
  refine HoldsL.go (c := cxMln) Tryd.func9 rfl Tryd.results9 Tryd.ntmps9 (by omega) (by simp) rfl (by simp <;> omega) (by simp [SV.owns2, SV.owns, SV.owns1]) (by simp) rfl rfl (by simp) ?_
  intro X0 M w0
  (repeat' (first | refine WP.seq ?_ | refine WP.block ?_ | ((first | refine WP.region ?_ | refine WP.condW ?_ | refine WP.ret ?_ | refine WP.exit ?_ | refine WP.skip ?_); simp only [go_sem, tyAll, Nat.reduceAdd, Nat.reduceLT, Nat.reduceLeDiff, Nat.reduceEqDiff, Nat.reduceMul, Nat.reduceSub, Nat.reduceGT, reduceIte, Int.reduceNeg, Int.reduceToNat]) |  refine And.intro ?_ ?_ | intro _))
  refine WP.loop (fun k : Nat => ⟨[(0, .own 1000000), (1, .v (.int .i64 (k0 + (cntA cntLine (L.take k) : Int)))), (5, .v (.int .i64 k))], [(1000000, .dp ee 4 ((hfA cntLine mrkLine k0 L k).map encLine))]⟩) (fun k => k ≤ L.length) (fun k => L.length - k) 0 (by omega) ?_ ?_
  · have e2 : cntA cntLine (L.take 0) = 0 := rfl
    rw [hfA_zero, e2]; (simp only [go_sem, tyAll, Nat.reduceAdd, Nat.reduceLT, Nat.reduceLeDiff, Nat.reduceEqDiff, Nat.reduceMul, Nat.reduceSub, Nat.reduceGT, reduceIte, Int.reduceNeg, Int.reduceToNat] <;> (first | rfl | exact ⟨rfl, rfl⟩ | exact ⟨rfl, rfl, rfl⟩ | exact ⟨rfl, rfl, rfl, rfl⟩ | exact ⟨rfl, rfl, rfl, rfl, rfl⟩ | exact ⟨⟨rfl, rfl⟩, rfl⟩ | simp))
  intro k hk
  have h2 := hfA_len (cnt := cntLine) (mrk := mrkLine) L k0 k hk
  have hc2 := cntA_take_le (cnt := cntLine) L k
  by_cases hlt : k < L.length
  · have h3 := hfA_set (cnt := cntLine) (mrk := mrkLine) (en := encLine) L k0 k hlt
    have h4 := hfA_row (cnt := cntLine) (mrk := mrkLine) (en := encLine) L k0 k hlt
    have hsh := hY _ (List.getElem_mem hlt)
    have hc3 := cntA_take (cnt := cntLine) L k hlt
    have hc4 := cntA_take_le (cnt := cntLine) L (k + 1)
    generalize L[k] = y at h3 h4 hsh hc3
    obtain ⟨yk, yn, yA, yE⟩ := y
    obtain ⟨hA, hE⟩ := hsh
    generalize hkk : k0 + (cntA cntLine (L.take k) : Int) = kk at h3
    rw [encLine, mrkLine] at h3
    rw [encLine] at h4
    simp only at h3 h4 hA hE
    rw [show cntLine ⟨yk, yn, yA, yE⟩ = 2 + yA.length + 3 * yE.length from rfl] at hc3
    refine WP.post [.abs 1000000 2, .abs 1000000 3, .fld 1000000] ?_
    refine WP.gho [.opn 1000000 k, .borV 1000000 2 500, .borV 1000000 3 501] ?_
    simp only [go_sem, h2, h4, tyAll, Nat.reduceAdd, Nat.reduceLT, Nat.reduceLeDiff, Nat.reduceEqDiff, Nat.reduceMul, Nat.reduceSub, Nat.reduceGT, reduceIte, Int.reduceNeg, Int.reduceToNat]
    refine ⟨hlt, fun e1 e2 => ?_⟩
    (repeat' (first | refine WP.seq ?_ | refine WP.block ?_ | ((first | refine WP.region ?_ | refine WP.condW ?_ | refine WP.ret ?_ | refine WP.exit ?_ | refine WP.skip ?_); simp only [go_sem, h2, h3, h4, tyAll, Nat.reduceAdd, Nat.reduceLT, Nat.reduceLeDiff, Nat.reduceEqDiff, Nat.reduceMul, Nat.reduceSub, Nat.reduceGT, reduceIte, Int.reduceNeg, Int.reduceToNat]) |  refine And.intro ?_ ?_ | intro _))
    all_goals first | omega | skip
    refine ⟨k + 1, by omega, by omega, ⟨?_, rfl⟩, rfl⟩
    rw [show kk + 1 + 1 + (yA.length : Int) + 3 * (yE.length : Int) = k0 + (cntA cntLine (List.take (k + 1) L) : Int) by omega]
  · have h5 : hfA cntLine mrkLine k0 L k = mkA cntLine mrkLine k0 L := by rw [show k = L.length by omega]; exact hfA_all _ _
    have h6 := mkA_len (cnt := cntLine) (mrk := mrkLine) L k0
    (repeat' (first | refine WP.seq ?_ | refine WP.block ?_ | ((first | refine WP.region ?_ | refine WP.condW ?_ | refine WP.ret ?_ | refine WP.exit ?_ | refine WP.skip ?_); simp only [go_sem, h2, h5, h6, tyAll, Nat.reduceAdd, Nat.reduceLT, Nat.reduceLeDiff, Nat.reduceEqDiff, Nat.reduceMul, Nat.reduceSub, Nat.reduceGT, reduceIte, Int.reduceNeg, Int.reduceToNat]) |  refine And.intro ?_ ?_ | intro _))
    all_goals first | omega | skip
    all_goals rw [show k = L.length by omega, List.take_length]
end
end
section
open Go.Vc
set_option linter.unusedSimpArgs false
set_option linter.unusedVariables false
set_option maxHeartbeats 1000000
set_option maxRecDepth 10000
attribute [local irreducible] Go.Vc.WP
attribute [local go_sem] cx0_t cx0_c
attribute [local go_sem] decTok_enc oneTok_f decS_enc oneLine_f line_eta St.fzS addL behind St.runO St.stepO ghoK St.gho St.gh SV.flat allVs_S allVs_Tok isV_LineCount
def rdOb (d : Nat) : Option (List (LineCount × Line)) → List (Nat × Ob)
  | some F => [(d, .sl 40 2 ((F.map Prod.fst).map encLineCount)), (d + 1000, .dp 36 4 ((F.map Prod.snd).map encLine))]
  | none => [(d, .sl 40 2 []), (d + 1000, .sl 36 4 [])]
def kRd0 : Ctr := pur (fun args => aS args 0) (fun s => [.v (.string s)]) (fun s => s.size ≤ 1048576)
  (fun d s => .tup [.own d, .own (d + 1000), .v (.bool (readAll s).isSome)]) (fun d s => rdOb d (readAll s))
theorem cut32 (l : List UInt8) : ∃ a m b, Lib.cut l [32] = (a, m, b) ∧ (b = false → m = []) ∧ a.length ≤ l.length ∧ m.length ≤ l.length ∧ num31 l = (if b = true then parseU (bts a) else none) ∧ rest31 l = m := by
  rcases cut_first 32 l with h | ⟨x, r, h, h2⟩
  · have e := libcut_no 32 h
    refine ⟨_, _, _, e, fun _ => rfl, by simp, by simp, ?_, ?_⟩
    · unfold num31; rw [e]
    · unfold rest31; rw [e]; rfl
  · have e := libcut_at 32 r h2
    rw [← h] at e
    refine ⟨_, _, _, e, by simp, by rw [h]; simp, by rw [h]; simp; omega, ?_, ?_⟩
    · unfold num31; rw [e]
    · unfold rest31; rw [e]; rfl
theorem rdOb_pb (d : Nat) (o : Option (List (LineCount × Line))) : ((rdOb d o).all fun p => p.2.pb) = true := by cases o <;> rfl
theorem kdLen {α : Type} (F : List α) (n : Nat) (h : F.length + n ≤ 1048576) : F.length ≤ 1048576 := by omega
attribute [local go_sem] rdOb
section
attribute [local irreducible] readAll
noncomputable def cxRdI : Cx := { P := Tryd.prog, tys := tys, C := [(14, kCut), (15, kParseU), (16, kPL)], hty := tysOk, hC := COk.cons cCut (COk.cons cParseUI (COk.cons cPLI (COk.nil _))) }
theorem cxRdI_t : cxRdI.tys = tys := rfl
theorem cxRdI_c : cxRdI.C = [(14, kCut), (15, kParseU), (16, kPL)] := rfl
attribute [local go_sem] cxRdI_t cxRdI_c kCut kParseU kPL
set_option maxHeartbeats 16000000
theorem cRdI0 : Cn Tryd.prog 5 kRd0 := by
  refine Cn.pur Tryd.func5 (by kernel_rfl) rfl fun d x hx => ?_
  rename ByteArray => s
  refine Holds.go (c := cxRdI) Tryd.func5 rfl Tryd.results5 Tryd.ntmps5 (by omega) (by simp) (rdOb_pb _ _) ?_
  intro X0 w0
  (repeat' (first | refine WP.seq ?_ | refine WP.block ?_ | ((first | refine WP.region ?_ | refine WP.condW ?_ | refine WP.ret ?_ | refine WP.exit ?_ | refine WP.skip ?_); simp only [go_sem, tyAll, Nat.reduceAdd, Nat.reduceLT, Nat.reduceLeDiff, Nat.reduceEqDiff, Nat.reduceMul, Nat.reduceSub, Nat.reduceGT, reduceIte, Int.reduceNeg, Int.reduceToNat]) |  refine And.intro ?_ ?_ | intro _))
  all_goals first | omega | skip
  refine WP.gho [.dp 23] ?_
  simp only [go_sem, tyAll, Nat.reduceAdd, Nat.reduceLT, Nat.reduceLeDiff, Nat.reduceEqDiff, Nat.reduceMul, Nat.reduceSub, Nat.reduceGT, reduceIte, Int.reduceNeg, Int.reduceToNat]
  refine ⟨(fun r hr => by cases hr), ?_⟩
  refine WP.mark ?_
  refine WP.loopP [] [(90, 23)] rfl (fun q : List (LineCount × Line) × List UInt8 => ⟨[(0, .v (.string (bts q.2))), (5, .own 22), (6, .own 23), (999999, .junk)], [(22, .sl 40 2 ((q.1.map Prod.fst).map encLineCount)), (23, .dp 36 4 ((q.1.map Prod.snd).map encLine))]⟩)
    (fun q => rInv s q.1 q.2) (fun q => q.2.length) ([], s.data.toList) (rInv_zero s) ?_ ?_
  · have e : bts s.data.toList = s := bts_list s
    simp only [e]
    (simp only [go_sem, St.mkd, tyAll, Nat.reduceAdd, Nat.reduceLT, Nat.reduceLeDiff, Nat.reduceEqDiff, Nat.reduceMul, Nat.reduceSub, Nat.reduceGT, reduceIte, Int.reduceNeg, Int.reduceToNat] <;> (first | rfl | exact ⟨rfl, rfl⟩ | exact ⟨rfl, rfl, rfl⟩ | exact ⟨rfl, rfl, rfl, rfl⟩ | exact ⟨rfl, rfl, rfl, rfl, rfl⟩ | exact ⟨⟨rfl, rfl⟩, rfl⟩ | simp))
  rintro ⟨F, l⟩ hI
  simp only at hI ⊢
  have hll := hI.2.1
  have hFl := kdLen F l.length (by omega)
  have hbd := bts_toL
  have hbz : (bts l).size = l.length := bts_size l
  have h10 : (⟨#[10]⟩ : ByteArray).data.toList = [10] := rfl
  have h32 : (⟨#[32]⟩ : ByteArray).data.toList = [32] := rfl
  by_cases h0 : l = []
  · subst h0
    have hnil : bts [] = ⟨#[]⟩ := rfl
    have hend := rInv_end hI
    (repeat' (first | refine WP.seq ?_ | refine WP.block ?_ | ((first | refine WP.region ?_ | refine WP.condW ?_ | refine WP.ret ?_ | refine WP.exit ?_ | refine WP.skip ?_); simp only [go_sem, hnil, hend, tyAll, Nat.reduceAdd, Nat.reduceLT, Nat.reduceLeDiff, Nat.reduceEqDiff, Nat.reduceMul, Nat.reduceSub, Nat.reduceGT, reduceIte, Int.reduceNeg, Int.reduceToNat]) |  refine And.intro ?_ ?_ | intro _))
    all_goals first | omega | exact ⟨_, _, _, rfl⟩ | exact ⟨_, _, rfl, _, _, rfl, rfl⟩ | exact if_neg (by omega) | exact ⟨_, _, if_neg (by omega)⟩ | exact ⟨_, _, rfl⟩ | exact ⟨⟨_, _, rfl⟩, _, _, if_neg (by omega)⟩ | skip
    all_goals trace_state
  have hne := bts_empty h0
  have hneT : (bts l = ⟨#[]⟩) = False := eq_false hne
  rcases cut_first 10 l with hc | ⟨x, r, hlx, hc⟩
  · have hcut := libcut_no 10 hc
    have hbad := rInv_rest hI (cutL_plain 10 hc) h0
    obtain ⟨a, m, b1, e1, _, la, lm, n1, r1⟩ := cut32 l
    obtain ⟨a2, m2, b2, e2, _, la2, lm2, n2, r2⟩ := cut32 m
    have z1 := bts_size a
    have z2 := bts_size a2
    have z3 := bts_size m
    have z4 := bts_size m2
    (repeat' (first | refine WP.seq ?_ | refine WP.block ?_ | ((first | refine WP.region ?_ | refine WP.condW ?_ | refine WP.ret ?_ | refine WP.exit ?_ | refine WP.skip ?_); simp only [go_sem, hneT, hbd, h10, h32, hcut, e1, e2, hbad, tyAll, Nat.reduceAdd, Nat.reduceLT, Nat.reduceLeDiff, Nat.reduceEqDiff, Nat.reduceMul, Nat.reduceSub, Nat.reduceGT, reduceIte, Int.reduceNeg, Int.reduceToNat]) |  refine And.intro ?_ ?_ | intro _))
    all_goals first | omega | exact ⟨_, _, _, rfl⟩ | exact ⟨_, _, rfl, _, _, rfl, rfl⟩ | exact if_neg (by omega) | exact ⟨_, _, if_neg (by omega)⟩ | exact ⟨_, _, rfl⟩ | exact ⟨⟨_, _, rfl⟩, _, _, if_neg (by omega)⟩ | skip
    all_goals trace_state
  · have hcut := libcut_at 10 r hc
    rw [← hlx] at hcut
    have hcl : cutL 10 l = x :: cutL 10 r := by rw [hlx]; exact cutL_app 10 r hc
    have hlen : l.length = x.length + 1 + r.length := by rw [hlx]; simp; omega
    have hxz : (bts x).size = x.length := bts_size x
    obtain ⟨a, m, b1, e1, hb1, la, lm, n1, r1⟩ := cut32 x
    obtain ⟨a2, m2, b2, e2, hb2, la2, lm2, n2, r2⟩ := cut32 m
    have z1 := bts_size a
    have z2 := bts_size a2
    have z3 := bts_size m
    have z4 := bts_size m2
    rw [← r1] at n2 r2
    cases b1 with
    | false =>
      have hbad := rInv_bad hI hcl (readOne_none1 n1)
      (repeat' (first | refine WP.seq ?_ | refine WP.block ?_ | ((first | refine WP.region ?_ | refine WP.condW ?_ | refine WP.ret ?_ | refine WP.exit ?_ | refine WP.skip ?_); simp only [go_sem, hneT, hbd, h10, h32, hcut, e1, e2, hbad, tyAll, Nat.reduceAdd, Nat.reduceLT, Nat.reduceLeDiff, Nat.reduceEqDiff, Nat.reduceMul, Nat.reduceSub, Nat.reduceGT, reduceIte, Int.reduceNeg, Int.reduceToNat]) |  refine And.intro ?_ ?_ | intro _))
      all_goals first | omega | exact ⟨_, _, _, rfl⟩ | exact ⟨_, _, rfl, _, _, rfl, rfl⟩ | exact if_neg (by omega) | exact ⟨_, _, if_neg (by omega)⟩ | exact ⟨_, _, rfl⟩ | exact ⟨⟨_, _, rfl⟩, _, _, if_neg (by omega)⟩ | skip
      all_goals trace_state
    | true =>
      rw [if_pos rfl] at n1
      cases b2 with
      | false =>
        have hbad := rInv_bad hI hcl (readOne_none2 n2)
        (repeat' (first | refine WP.seq ?_ | refine WP.block ?_ | ((first | refine WP.region ?_ | refine WP.condW ?_ | refine WP.ret ?_ | refine WP.exit ?_ | refine WP.skip ?_); simp only [go_sem, hneT, hbd, h10, h32, hcut, e1, e2, hbad, tyAll, Nat.reduceAdd, Nat.reduceLT, Nat.reduceLeDiff, Nat.reduceEqDiff, Nat.reduceMul, Nat.reduceSub, Nat.reduceGT, reduceIte, Int.reduceNeg, Int.reduceToNat]) |  refine And.intro ?_ ?_ | intro _))
        all_goals first | omega | exact ⟨_, _, _, rfl⟩ | exact ⟨_, _, rfl, _, _, rfl, rfl⟩ | exact if_neg (by omega) | exact ⟨_, _, if_neg (by omega)⟩ | exact ⟨_, _, rfl⟩ | exact ⟨⟨_, _, rfl⟩, _, _, if_neg (by omega)⟩ | skip
        all_goals trace_state
      | true =>
        rw [if_pos rfl] at n2
        cases p1 : parseU (bts a) with
        | none =>
          have hbad := rInv_bad hI hcl (readOne_none1 (n1.trans p1))
          (repeat' (first | refine WP.seq ?_ | refine WP.block ?_ | ((first | refine WP.region ?_ | refine WP.condW ?_ | refine WP.ret ?_ | refine WP.exit ?_ | refine WP.skip ?_); simp only [go_sem, hneT, hbd, h10, h32, hcut, e1, e2, p1, hbad, tyAll, Nat.reduceAdd, Nat.reduceLT, Nat.reduceLeDiff, Nat.reduceEqDiff, Nat.reduceMul, Nat.reduceSub, Nat.reduceGT, reduceIte, Int.reduceNeg, Int.reduceToNat]) |  refine And.intro ?_ ?_ | intro _))
          all_goals first | omega | exact ⟨_, _, _, rfl⟩ | exact ⟨_, _, rfl, _, _, rfl, rfl⟩ | exact if_neg (by omega) | exact ⟨_, _, if_neg (by omega)⟩ | exact ⟨_, _, rfl⟩ | exact ⟨⟨_, _, rfl⟩, _, _, if_neg (by omega)⟩ | skip
          all_goals trace_state
        | some v1 =>
          cases p2 : parseU (bts a2) with
          | none =>
            have hbad := rInv_bad hI hcl (readOne_none2 (n2.trans p2))
            (repeat' (first | refine WP.seq ?_ | refine WP.block ?_ | ((first | refine WP.region ?_ | refine WP.condW ?_ | refine WP.ret ?_ | refine WP.exit ?_ | refine WP.skip ?_); simp only [go_sem, hneT, hbd, h10, h32, hcut, e1, e2, p1, p2, hbad, tyAll, Nat.reduceAdd, Nat.reduceLT, Nat.reduceLeDiff, Nat.reduceEqDiff, Nat.reduceMul, Nat.reduceSub, Nat.reduceGT, reduceIte, Int.reduceNeg, Int.reduceToNat]) |  refine And.intro ?_ ?_ | intro _))
            all_goals first | omega | exact ⟨_, _, _, rfl⟩ | exact ⟨_, _, rfl, _, _, rfl, rfl⟩ | exact if_neg (by omega) | exact ⟨_, _, if_neg (by omega)⟩ | exact ⟨_, _, rfl⟩ | exact ⟨⟨_, _, rfl⟩, _, _, if_neg (by omega)⟩ | skip
            all_goals trace_state
          | some v2 =>
            cases hy : lineOf (bts m2) with
            | none =>
              have hbad := rInv_bad hI hcl (readOne_none3 (by rw [r2]; exact hy))
              (repeat' (first | refine WP.seq ?_ | refine WP.block ?_ | ((first | refine WP.region ?_ | refine WP.condW ?_ | refine WP.ret ?_ | refine WP.exit ?_ | refine WP.skip ?_); simp only [go_sem, hneT, hbd, h10, h32, hcut, e1, e2, p1, p2, hy, hbad, tyAll, Nat.reduceAdd, Nat.reduceLT, Nat.reduceLeDiff, Nat.reduceEqDiff, Nat.reduceMul, Nat.reduceSub, Nat.reduceGT, reduceIte, Int.reduceNeg, Int.reduceToNat]) |  refine And.intro ?_ ?_ | intro _))
              all_goals first | omega | exact ⟨_, _, _, rfl⟩ | exact ⟨_, _, rfl, _, _, rfl, rfl⟩ | exact if_neg (by omega) | exact ⟨_, _, if_neg (by omega)⟩ | exact ⟨_, _, rfl⟩ | exact ⟨⟨_, _, rfl⟩, _, _, if_neg (by omega)⟩ | skip
              all_goals trace_state
            | some y =>
              have hok := rInv_ok hI hcl hlen (readOne_some (n1.trans p1) (n2.trans p2) (by rw [r2]; exact hy))
              have hyl := lnD_yes hy
              (repeat' (first | refine WP.seq ?_ | refine WP.block ?_ | ((first | refine WP.region ?_ | refine WP.condW ?_ | refine WP.ret ?_ | refine WP.exit ?_ | refine WP.skip ?_); simp only [go_sem, hneT, hbd, h10, h32, hcut, e1, e2, p1, p2, hy, hyl, tyAll, Nat.reduceAdd, Nat.reduceLT, Nat.reduceLeDiff, Nat.reduceEqDiff, Nat.reduceMul, Nat.reduceSub, Nat.reduceGT, reduceIte, Int.reduceNeg, Int.reduceToNat]) |  refine And.intro ?_ ?_ | intro _))
              all_goals first | omega | exact ⟨_, _, _, rfl⟩ | exact ⟨_, _, rfl, _, _, rfl, rfl⟩ | exact if_neg (by omega) | exact ⟨_, _, if_neg (by omega)⟩ | exact ⟨_, _, rfl⟩ | exact ⟨⟨_, _, rfl⟩, _, _, if_neg (by omega)⟩ | skip
              all_goals first | exact ⟨(F ++ [(⟨(v1 : Int), (v2 : Int)⟩, y)], r), hok, by simp only; omega, by simp only [List.map_append, List.map_cons, List.map_nil, encLineCount, encLine]; (first | rfl | exact ⟨rfl, rfl⟩ | exact ⟨rfl, rfl, rfl⟩ | exact ⟨rfl, rfl, rfl, rfl⟩ | exact ⟨rfl, rfl, rfl, rfl, rfl⟩ | exact ⟨⟨rfl, rfl⟩, rfl⟩ | simp)⟩ | trace_state
end
end
end Go.Proofs.YtdhkhapbldkkdaaDoor
