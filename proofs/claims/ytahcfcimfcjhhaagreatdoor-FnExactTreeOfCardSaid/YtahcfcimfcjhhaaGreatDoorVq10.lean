/-
  DERIVED. Several texts of ours in one: VtTreeI.
-/
import Derived.Test.YtahcfcimfcjhhaaGreatDoorVq0
import Derived.Test.YtahcfcimfcjhhaaGreatDoorVq1
import Derived.Test.YtahcfcimfcjhhaaGreatDoorVq2
import Derived.Test.YtahcfcimfcjhhaaGreatDoorVq3
import Derived.Test.YtahcfcimfcjhhaaGreatDoorVq4
import Derived.Test.YtahcfcimfcjhhaaGreatDoorVq5
import Derived.Test.YtahcfcimfcjhhaaGreatDoorVq6
import Derived.Test.YtahcfcimfcjhhaaGreatDoorVq7
import Derived.Test.YtahcfcimfcjhhaaGreatDoorVq8
import Derived.Test.YtahcfcimfcjhhaaGreatDoorVq9
set_option linter.unusedSimpArgs false
set_option linter.unusedVariables false
namespace Go.Proofs.YtahcfcimfcjhhaaGreatDoor
open Go.Vc
attribute [local go_sem] St.runR St.runW St.stepV offV St.step St.stepU St.stepG mkCond guardB St.prK St.pr St.prLen St.eff St.callE St.callD St.callF St.callL aI aB aS aR aC St.isM St.argL Ctr.pure Ctr.lend Ctr.move Ctr.isL Ctr.wri pur len lentBy St.lentV St.lent1 nthS argsR restOf obsR pairs swapL unObs backL St.resL erL SV.ren1 SV.up SV.up2 Ob.up St.fzL cellIds partIds St.intoRow SV.ownId St.fz SV.fz1 St.prep St.mvL St.mv SV.re1 rnOk St.prEq vals eqCells scEq Value.kd St.prStr St.prCut cutR St.bnd St.prMin St.bld isShift outL retL outJ oR oC St.ev St.get St.put St.new St.kill SV.kill SV.kill1 Ob.kill St.app St.wrt St.rowsOf St.res St.killL lk er argsL SV.strip SV.need SV.share SV.share1 SV.owns SV.owns1 SV.owns2 SV.good SV.good1 SV.rok SV.rok1 SV.rok2 SV.isV SV.isV2 nodupN SV.cells SV.one SV.pur Ob.pb partsIn rowsIn splice cellsAt dstOk scal2 scal1 thenK blockK retK outK outs okC okL okA okT nilC nilL nilA nilT keepC keepL keepA keepT St.runG St.dltK St.least St.clean St.final St.hide offK badS badO SV.refs SV.leaf SV.leaf2 Ob.refs dlOk fpAt Go.Vc.cover tups SV.ofAgg St.out outC subL St.has rng wr Value.oneCell' Option.isSome_some Option.isSome_none List.nil_append Bool.false_eq_true List.map_cons List.map_nil List.all_cons List.all_nil List.length_cons List.length_nil List.drop_zero List.drop_succ_cons List.take_succ_cons List.take_zero List.drop_nil List.take_nil List.getElem?_cons_zero List.getElem?_cons_succ List.getElem?_nil List.cons_append List.nil_append List.append_nil List.append_assoc List.flatMap_cons List.flatMap_nil List.contains_cons List.contains_nil List.set_cons_zero List.set_cons_succ List.getElem?_toArray Option.getD_some Option.getD_none Option.map_some Option.map_none Option.bind_some Option.some.injEq Prod.mk.injEq if_true if_false true_and and_true and_self and_false false_and Bool.and_false Bool.false_and Bool.or_true Bool.true_or Bool.or_false Bool.false_or ne_eq not_true_eq_false not_false_eq_true decide_true decide_false List.mem_cons List.not_mem_nil List.filter_cons List.filter_nil List.any_cons List.any_nil List.isEmpty_nil List.isEmpty_cons Option.getD_none or_false false_or true_or or_true forall_eq_or_imp forall_eq reduceCtorEq exists_eq exists_eq' exists_eq_left' exists_eq_left exists_eq_right exists_eq_right' imp_self implies_true Bool.and_true Bool.true_and Bool.and_self beq_self_eq_true List.replicate_succ List.replicate_zero forall_const false_implies pickB_or pickB_and beqT beqF Int.toNat_natCast List.length_map List.length_replicate ge_iff_le gt_iff_lt decide_eq_true_eq decide_eq_false_iff_not Bool.and_eq_true Bool.or_eq_true Bool.not_eq_true' Bool.not_eq_false' condG List.toList_toArray Bool.or_eq_false_iff Bool.and_eq_false_iff Int.not_lt Int.not_le beq_iff_eq beq_eq_false_iff_ne bne_iff_ne bne_eq_false_iff_eq ne_eq Bool.not_true Bool.not_false exists_and_left
section
open Go.Vc
set_option linter.unusedSimpArgs false
set_option linter.unusedVariables false
set_option maxHeartbeats 1000000
set_option maxRecDepth 10000
attribute [local irreducible] Go.Vc.WP
attribute [local go_sem] cx0_t cx0_c
open Go.Pl
attribute [local go_sem] isV_Node isV_It isV_Entry isV_S isV_TreeNode decNode_enc decFrame_enc oneFrame_enc stkA oneFrame_ab oneNode_abc decI_enc decS_enc aU prA decEntry_enc decTreeNode_enc decSS_enc St.fzS addL behind
noncomputable def cxTrI (f : Nat) : Cx := { P := Tryz.prog, tys := tys, C := [(41, kPrOk), (36, kEntZ), (42, kNamesZ), (43, kGr f)], hty := tysOk, hC := COk.cons (cPrOkI) (COk.cons (cEntZI) (COk.cons (cNamesI) (COk.cons (cGr f) (COk.nil _)))) }
theorem cxTrI_t (f : Nat) : (cxTrI f).tys = tys := rfl
theorem cxTrI_c (f : Nat) : (cxTrI f).C = [(41, kPrOk), (36, kEntZ), (42, kNamesZ), (43, kGr f)] := rfl
attribute [local go_sem] cxTrI_t cxTrI_c kPrOk kEntZ kNamesZ kGr
theorem cTreeI : Cn Tryz.prog 15 kTree := by
  refine Cn.pur Tryz.func15 (by kernel_rfl) rfl fun d x hx => ?_
  obtain ⟨N, C⟩ := x
  obtain ⟨⟨hN, hs⟩, hC⟩ := hx
  simp only at hN hs hC ⊢
  have hlen := entriesOf_len N C
  refine Holds.go (c := (cxTrI N.length)) Tryz.func15 rfl Tryz.results15 Tryz.ntmps15 (by omega) (by simp) rfl ?_
  intro X0 w0
  cases hp : profileOk N C with
  | false =>
    have he : entriesOf N C = [] := if_neg (by rw [hp]; simp)
    have ht : treeOf N C = [] := by
      unfold treeOf ncP
      rw [he]
      exact growP_zero (fun x hx => by cases hx) _
    (repeat' (first | refine WP.seq ?_ | refine WP.block ?_ | ((first | refine WP.region ?_ | refine WP.condW ?_ | refine WP.ret ?_ | refine WP.exit ?_ | refine WP.skip ?_); simp only [go_sem, hp, ht, tyAll, Nat.reduceAdd, Nat.reduceLT, Nat.reduceLeDiff, Nat.reduceEqDiff, Nat.reduceMul, Nat.reduceSub, Nat.reduceGT, reduceIte, Int.reduceNeg, Int.reduceToNat]) |  refine And.intro ?_ ?_ | intro _))
    all_goals first | omega | (simp only; omega) | exact Nat.le_trans (hs _ ‹_›) (by omega) | exact ⟨_, _, rfl⟩ | skip
    all_goals trace_state
  | true =>
  (repeat' (first | refine WP.seq ?_ | refine WP.block ?_ | ((first | refine WP.region ?_ | refine WP.condW ?_ | refine WP.ret ?_ | refine WP.exit ?_ | refine WP.skip ?_); simp only [go_sem, hp, tyAll, Nat.reduceAdd, Nat.reduceLT, Nat.reduceLeDiff, Nat.reduceEqDiff, Nat.reduceMul, Nat.reduceSub, Nat.reduceGT, reduceIte, Int.reduceNeg, Int.reduceToNat]) |  refine And.intro ?_ ?_ | intro _))
  all_goals first | omega | (simp only; omega) | exact Nat.le_trans (hs _ ‹_›) (by omega) | exact ⟨_, _, _, rfl⟩ | skip
  have hE1 : ∀ e ∈ entriesOf N C, (namesE e).length ≤ N.length ∧ e.stack.size ≤ 2147483648 := fun e he => by
    have g1 : (namesE e).length ≤ N.length := by
      obtain ⟨_, _, _, g, _⟩ := ent_frs he
      unfold namesE; rw [List.length_map]; exact g
    have g2 := entriesOf_size he
    omega
  have hE2 : ∀ e ∈ entriesOf N C, 0 ≤ e.count := fun e he => by
    have := (entriesOf_mem he).2
    obtain ⟨_, _, _, _, g, _⟩ := this
    omega
  have hE3 : ((entriesOf N C).map (·.count)).sum ≤ 1000000000000 := by
    have g1 := sumE_entries N C
    have g2 := totalOf_bound N C
    unfold sumE at g1
    omega
  have htr : treeOf N C = growP N.length [] (-1) 0 (ncP N C) := rfl
  unfold ncP at htr
  rw [← ncP_zip] at htr
  generalize entriesOf N C = E at *
  refine WP.loop (fun k : Nat => ⟨[(3, .own 10), (4, .own 11), (13, .sl 2 (E.map encEntry)), (14, .v (.int .i64 E.length)), (15, .v (.int .i64 k))],
      [(10, .sl 50 1 (((E.map namesE).take k).map encSS)), (11, .sl 3 1 (((E.map (·.count)).take k).map encI))]⟩) (fun k => k ≤ E.length) (fun k => E.length - k) 0 (by simp) ?_ ?_
  · (simp only [go_sem, tyAll, Nat.reduceAdd, Nat.reduceLT, Nat.reduceLeDiff, Nat.reduceEqDiff, Nat.reduceMul, Nat.reduceSub, Nat.reduceGT, reduceIte, Int.reduceNeg, Int.reduceToNat] <;> (first | rfl | exact ⟨rfl, rfl⟩ | exact ⟨rfl, rfl, rfl⟩ | exact ⟨rfl, rfl, rfl, rfl⟩ | exact ⟨rfl, rfl, rfl, rfl, rfl⟩ | exact ⟨⟨rfl, rfl⟩, rfl⟩ | simp))
  intro k hk
  by_cases hlt : k < E.length
  · have hli : (k : Int) < E.length := by omega
    have hr := rowAt_map encEntry E k hlt
    have hz := hE1 _ (List.getElem_mem hlt)
    have hnm : (frsS E[k].stack).map (·.name) = namesE E[k] := rfl
    have t1 : ((E.map namesE).take (k + 1)).map encSS = ((E.map namesE).take k).map encSS ++ [[.sl 1 ((namesE E[k]).map encS)]] := by
      rw [List.take_succ_eq_append_getElem (by rw [List.length_map]; exact hlt), List.map_append, List.getElem_map]; rfl
    have t2 : ((E.map (·.count)).take (k + 1)).map encI = ((E.map (·.count)).take k).map encI ++ [[.v (.int .i64 E[k].count)]] := by
      rw [List.take_succ_eq_append_getElem (by rw [List.length_map]; exact hlt), List.map_append, List.getElem_map]; rfl
    (repeat' (first | refine WP.seq ?_ | refine WP.block ?_ | ((first | refine WP.region ?_ | refine WP.condW ?_ | refine WP.ret ?_ | refine WP.exit ?_ | refine WP.skip ?_); simp only [go_sem, hli, hr, encEntry, hnm, tyAll, Nat.reduceAdd, Nat.reduceLT, Nat.reduceLeDiff, Nat.reduceEqDiff, Nat.reduceMul, Nat.reduceSub, Nat.reduceGT, reduceIte, Int.reduceNeg, Int.reduceToNat]) |  refine And.intro ?_ ?_ | intro _))
    all_goals first | omega | exact hz.2 | exact ⟨_, _, _, rfl⟩ | (rw [List.length_take, List.length_map]; omega) | skip
    all_goals first | exact ⟨k + 1, by omega, by omega, by simp only [t1, t2]; (first | rfl | exact ⟨rfl, rfl⟩ | exact ⟨rfl, rfl, rfl⟩ | exact ⟨rfl, rfl, rfl, rfl⟩ | exact ⟨rfl, rfl, rfl, rfl, rfl⟩ | exact ⟨⟨rfl, rfl⟩, rfl⟩ | simp)⟩ | trace_state
  · have hge : ¬ (k : Int) < E.length := by omega
    obtain rfl : k = E.length := by omega
    rw [show (E.map namesE).take E.length = E.map namesE by rw [← List.length_map (f := namesE), List.take_length], show (E.map (·.count)).take E.length = E.map (·.count) by rw [← List.length_map (f := fun e : Entry => e.count), List.take_length]]
    refine WP.prep [10, 11] [] rfl ?_
    have hv : grO N.length ([], -1, E.map namesE, E.map (·.count), 0) = treeOf N C := by
      rw [htr]; unfold grO; rfl
    have hpre : preGr N.length ([], -1, E.map namesE, E.map (·.count), 0) := by
      refine ⟨⟨by simp, by rw [List.length_map]; omega, by simp, ?_⟩, fun l hl => ?_, fun c hc => ?_, hE3⟩
      · simp only [List.length_nil, Nat.zero_add]
        rw [ncP_zip]
        unfold wtN
        rw [List.map_map]
        have := sum_le_mul (A := E.map ((fun x : NC => x.1.length - 0) ∘ fun e => (namesE e, e.count))) (m := 1048576) (fun x hx => by
          obtain ⟨e, he, rfl⟩ := List.mem_map.1 hx
          exact Nat.le_trans (hE1 e he).1 hN)
        rw [List.length_map] at this
        have : 1048576 * E.length ≤ 1048576 * 1048576 := Nat.mul_le_mul_left _ (by omega)
        omega
      · obtain ⟨e, he, rfl⟩ := List.mem_map.1 hl
        have := (hE1 e he).1
        exact ⟨by simp only; omega, by omega⟩
      · obtain ⟨e, he, rfl⟩ := List.mem_map.1 hc
        exact hE2 e he
    have hd1 : decTreeNode [] = [] := rfl
    have hd2 : ((0 : Int)).toNat = 0 := rfl
    (repeat' (first | refine WP.seq ?_ | refine WP.block ?_ | ((first | refine WP.region ?_ | refine WP.condW ?_ | refine WP.ret ?_ | refine WP.exit ?_ | refine WP.skip ?_); simp only [go_sem, hge, hd1, hd2, tyAll, Nat.reduceAdd, Nat.reduceLT, Nat.reduceLeDiff, Nat.reduceEqDiff, Nat.reduceMul, Nat.reduceSub, Nat.reduceGT, reduceIte, Int.reduceNeg, Int.reduceToNat]) |  refine And.intro ?_ ?_ | intro _))
    all_goals first | omega | exact hpre.1.1 | exact hpre.1.2.1 | exact hpre.1.2.2.1 | exact hpre.1.2.2.2 | exact (hpre.2.1 _ ‹_›).1 | exact (hpre.2.1 _ ‹_›).2 | exact hpre.2.2.1 _ ‹_› | exact hpre.2.2.2 | (rw [hv]) | rfl | skip
    all_goals trace_state
end
end Go.Proofs.YtahcfcimfcjhhaaGreatDoor
