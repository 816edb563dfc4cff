/-
  DERIVED. Several texts of ours in one: VtOp, VtDis, VcR, VgSymbol, VtName, VtImg.
-/
import Derived.Test.YtoomncljmgcidaaVz0
import Derived.Test.YtoomncljmgcidaaVz1
import Derived.Test.YtoomncljmgcidaaVz2
import Derived.Test.YtoomncljmgcidaaVz3
import Derived.Test.YtoomncljmgcidaaVz4
import Derived.ProofKit
import Derived.OpenShut
import Derived.Below
import Derived.ChangeSame
import Derived.Carry
import Derived.Deep.Slices
import Derived.Deep.Fields
set_option linter.unusedSimpArgs false
set_option linter.unusedVariables false
namespace Go.Proofs.Ytoomncljmgcidaa
open Go.Vc
attribute [local go_sem] St.runR St.runW St.stepV offV St.step St.stepU St.stepG mkCond guardB St.prK St.pr St.prLen St.eff St.callE St.callD St.callF St.callL aI aB aS aR aC St.isM St.argL Ctr.pure Ctr.lend Ctr.move Ctr.isL Ctr.wri pur len lentBy St.lentV St.lent1 nthS argsR restOf obsR pairs swapL unObs backL St.resL erL SV.ren1 SV.up SV.up2 Ob.up St.fzL cellIds partIds St.intoRow SV.ownId St.fz SV.fz1 St.prep St.mvL St.mv SV.re1 rnOk St.prEq vals eqCells scEq Value.kd St.prStr St.prCut cutR St.bnd St.prMin St.bld isShift outL retL outJ oR oC oE oD SV.upq SV.isSl SV.shut St.deepK St.dpArg St.deepQ absC Ob.pl St.ev St.get St.put St.new St.kill SV.kill SV.kill1 Ob.kill St.app St.wrt St.rowsOf St.res St.killL lk er argsL SV.strip SV.need SV.share SV.share1 SV.owns SV.owns1 SV.owns2 SV.good SV.good1 SV.rok SV.rok1 SV.rok2 SV.isV SV.isV2 nodupN SV.cells SV.one SV.pur Ob.pb partsIn rowsIn splice cellsAt dstOk scal2 scal1 thenK blockK retK outK outs okC okL okA okT nilC nilL nilA nilT keepC keepL keepA keepT St.runG St.dltK St.least St.clean St.final St.hide offK badS badO SV.refs SV.leaf SV.leaf2 Ob.refs dlOk fpAt Go.Vc.cover tups SV.ofAgg St.out outC subL St.has rng wr Value.oneCell' Option.isSome_some Option.isSome_none List.nil_append Bool.false_eq_true List.map_cons List.map_nil List.all_cons List.all_nil List.length_cons List.length_nil List.drop_zero List.drop_succ_cons List.take_succ_cons List.take_zero List.drop_nil List.take_nil List.getElem?_cons_zero List.getElem?_cons_succ List.getElem?_nil List.cons_append List.nil_append List.append_nil List.append_assoc List.flatMap_cons List.flatMap_nil List.contains_cons List.contains_nil List.set_cons_zero List.set_cons_succ List.getElem?_toArray Option.getD_some Option.getD_none Option.map_some Option.map_none Option.bind_some Option.some.injEq Prod.mk.injEq if_true if_false true_and and_true and_self and_false false_and Bool.and_false Bool.false_and Bool.or_true Bool.true_or Bool.or_false Bool.false_or ne_eq not_true_eq_false not_false_eq_true decide_true decide_false List.mem_cons List.not_mem_nil List.filter_cons List.filter_nil List.any_cons List.any_nil List.isEmpty_nil List.isEmpty_cons Option.getD_none or_false false_or true_or or_true forall_eq_or_imp forall_eq reduceCtorEq exists_eq exists_eq' exists_eq_left' exists_eq_left exists_eq_right exists_eq_right' imp_self implies_true Bool.and_true Bool.true_and Bool.and_self beq_self_eq_true List.replicate_succ List.replicate_zero forall_const false_implies pickB_or pickB_and beqT beqF Int.toNat_natCast List.length_map List.length_replicate ge_iff_le gt_iff_lt decide_eq_true_eq decide_eq_false_iff_not Bool.and_eq_true Bool.or_eq_true Bool.not_eq_true' Bool.not_eq_false' condG List.toList_toArray Bool.or_eq_false_iff Bool.and_eq_false_iff Int.not_lt Int.not_le beq_iff_eq beq_eq_false_iff_ne bne_iff_ne bne_eq_false_iff_eq ne_eq Bool.not_true Bool.not_false exists_and_left
section
open Go.Vc
set_option linter.unusedSimpArgs false
set_option linter.unusedVariables false
set_option maxHeartbeats 1000000
set_option maxRecDepth 10000
attribute [local irreducible] Go.Vc.WP
attribute [local go_sem] cx0_t cx0_c
open Go.Pl
def kArgW : Ctr := pur (fun args => aI args 0) (fun c => [.v (.int .i64 c)]) (fun _ => True) (fun _ c => .tup [.v (.int .i64 (argW c).1), .v (.bool (argW c).2)]) (fun _ _ => [])
section
noncomputable def cxAwI : Cx := { P := Try.prog, tys := tys, C := [], hty := tysOk, hC := COk.nil _ }
theorem cxAwI_t : cxAwI.tys = tys := rfl
theorem cxAwI_c : cxAwI.C = [] := rfl
attribute [local go_sem] cxAwI_t cxAwI_c 
theorem cArgWI : Cn Try.prog 95 kArgW := by
  refine Cn.pur Try.func95 (by kernel_rfl) rfl fun d x hx => ?_
  rename Int => c
  refine Holds.go (c := cxAwI) Try.func95 rfl Try.results95 Try.ntmps95 (by omega) (by simp) rfl ?_
  intro X0 w0
  (repeat' (first | refine WP.seq ?_ | refine WP.block ?_ | ((first | refine WP.region ?_ | refine WP.condW ?_ | refine WP.ret ?_ | refine WP.exit ?_ | refine WP.skip ?_); simp only [go_sem, tyAll, Nat.reduceAdd, Nat.reduceLT, Nat.reduceLeDiff, Nat.reduceEqDiff, Nat.reduceMul, Nat.reduceSub, Nat.reduceGT, reduceIte, Int.reduceNeg, Int.reduceToNat]) |  refine And.intro ?_ ?_ | intro _))
  all_goals first | (unfold argW; simp_all; done) | skip
  all_goals trace_state
end
section
noncomputable def cxAwS : Cx := { P := Try.prog, tys := tys, C := [], hty := tysOk, hC := COk.nil _ }
theorem cxAwS_t : cxAwS.tys = tys := rfl
theorem cxAwS_c : cxAwS.C = [] := rfl
attribute [local go_sem] cxAwS_t cxAwS_c 
theorem cArgWS : Cn Try.prog 92 kArgW := by
  refine Cn.pur Try.func92 (by kernel_rfl) rfl fun d x hx => ?_
  rename Int => c
  refine Holds.go (c := cxAwS) Try.func92 rfl Try.results92 Try.ntmps92 (by omega) (by simp) rfl ?_
  intro X0 w0
  (repeat' (first | refine WP.seq ?_ | refine WP.block ?_ | ((first | refine WP.region ?_ | refine WP.condW ?_ | refine WP.ret ?_ | refine WP.exit ?_ | refine WP.skip ?_); simp only [go_sem, tyAll, Nat.reduceAdd, Nat.reduceLT, Nat.reduceLeDiff, Nat.reduceEqDiff, Nat.reduceMul, Nat.reduceSub, Nat.reduceGT, reduceIte, Int.reduceNeg, Int.reduceToNat]) |  refine And.intro ?_ ?_ | intro _))
  all_goals first | (unfold argW; simp_all; done) | skip
  all_goals trace_state
end
def kOpSize : Ctr := pur (fun args => aI args 0) (fun c => [.v (.int .i64 c)]) (fun _ => True) (fun _ c => .v (.int .i64 (opSize c))) (fun _ _ => [])
section
noncomputable def cxOsI : Cx := { P := Try.prog, tys := tys, C := [(48, k60), (95, kArgW)], hty := tysOk, hC := COk.cons c60 (COk.cons cArgWI (COk.nil _)) }
theorem cxOsI_t : cxOsI.tys = tys := rfl
theorem cxOsI_c : cxOsI.C = [(48, k60), (95, kArgW)] := rfl
attribute [local go_sem] cxOsI_t cxOsI_c k60 kArgW
theorem cOpSizeI : Cn Try.prog 94 kOpSize := by
  refine Cn.pur Try.func94 (by kernel_rfl) rfl fun d x hx => ?_
  rename Int => c
  have hw := argW_bd c
  refine Holds.go (c := cxOsI) Try.func94 rfl Try.results94 Try.ntmps94 (by omega) (by simp) rfl ?_
  intro X0 w0
  by_cases h : 0 ≤ c ∧ c ≤ 17
  · have e : opSize c = (argW c).1 + 1 := if_pos h
    rw [e]
    (repeat' (first | refine WP.seq ?_ | refine WP.block ?_ | ((first | refine WP.region ?_ | refine WP.condW ?_ | refine WP.ret ?_ | refine WP.exit ?_ | refine WP.skip ?_); simp only [go_sem, h, tyAll, Nat.reduceAdd, Nat.reduceLT, Nat.reduceLeDiff, Nat.reduceEqDiff, Nat.reduceMul, Nat.reduceSub, Nat.reduceGT, reduceIte, Int.reduceNeg, Int.reduceToNat]) |  refine And.intro ?_ ?_ | intro _))
    all_goals first | omega | skip
    all_goals trace_state
  · have e : opSize c = 0 := if_neg h
    rw [e]
    (repeat' (first | refine WP.seq ?_ | refine WP.block ?_ | ((first | refine WP.region ?_ | refine WP.condW ?_ | refine WP.ret ?_ | refine WP.exit ?_ | refine WP.skip ?_); simp only [go_sem, h, tyAll, Nat.reduceAdd, Nat.reduceLT, Nat.reduceLeDiff, Nat.reduceEqDiff, Nat.reduceMul, Nat.reduceSub, Nat.reduceGT, reduceIte, Int.reduceNeg, Int.reduceToNat]) |  refine And.intro ?_ ?_ | intro _))
    all_goals first | omega | skip
    all_goals trace_state
end
section
noncomputable def cxOsS : Cx := { P := Try.prog, tys := tys, C := [(39, k60), (92, kArgW)], hty := tysOk, hC := COk.cons c58 (COk.cons cArgWS (COk.nil _)) }
theorem cxOsS_t : cxOsS.tys = tys := rfl
theorem cxOsS_c : cxOsS.C = [(39, k60), (92, kArgW)] := rfl
attribute [local go_sem] cxOsS_t cxOsS_c k60 kArgW
theorem cOpSizeS : Cn Try.prog 93 kOpSize := by
  refine Cn.pur Try.func93 (by kernel_rfl) rfl fun d x hx => ?_
  rename Int => c
  have hw := argW_bd c
  refine Holds.go (c := cxOsS) Try.func93 rfl Try.results93 Try.ntmps93 (by omega) (by simp) rfl ?_
  intro X0 w0
  by_cases h : 0 ≤ c ∧ c ≤ 17
  · have e : opSize c = 1 + (argW c).1 := by rw [show opSize c = (argW c).1 + 1 from if_pos h]; omega
    rw [e]
    (repeat' (first | refine WP.seq ?_ | refine WP.block ?_ | ((first | refine WP.region ?_ | refine WP.condW ?_ | refine WP.ret ?_ | refine WP.exit ?_ | refine WP.skip ?_); simp only [go_sem, h, tyAll, Nat.reduceAdd, Nat.reduceLT, Nat.reduceLeDiff, Nat.reduceEqDiff, Nat.reduceMul, Nat.reduceSub, Nat.reduceGT, reduceIte, Int.reduceNeg, Int.reduceToNat]) |  refine And.intro ?_ ?_ | intro _))
    all_goals first | omega | skip
    all_goals trace_state
  · have e : opSize c = 0 := if_neg h
    rw [e]
    (repeat' (first | refine WP.seq ?_ | refine WP.block ?_ | ((first | refine WP.region ?_ | refine WP.condW ?_ | refine WP.ret ?_ | refine WP.exit ?_ | refine WP.skip ?_); simp only [go_sem, h, tyAll, Nat.reduceAdd, Nat.reduceLT, Nat.reduceLeDiff, Nat.reduceEqDiff, Nat.reduceMul, Nat.reduceSub, Nat.reduceGT, reduceIte, Int.reduceNeg, Int.reduceToNat]) |  refine And.intro ?_ ?_ | intro _))
    all_goals first | omega | skip
    all_goals trace_state
end
def encOp (x : Op) : List SV := [.v (.int .i64 x.code), .v (.int .i64 x.arg)]
def zOp : Op := ⟨0, 0⟩
def kDecOp : Ctr := pur (fun args => (aS args 0, aI args 1)) (fun x => [.v (.string x.1), .v (.int .i64 x.2)]) (fun x => x.1.size ≤ 4398046511104)
  (fun _ x => .tup [.agg [.v (.int .i64 (((decOp x.1 x.2).map (·.1)).getD zOp).code), .v (.int .i64 (((decOp x.1 x.2).map (·.1)).getD zOp).arg)], .v (.int .i64 (((decOp x.1 x.2).map (·.2)).getD 0)), .v (.bool (decOp x.1 x.2).isSome)]) (fun _ _ => [])
theorem pow8 {n : Nat} (h : n ≤ 4) : (2 : Int) ^ (8 * n) ≤ 4294967296 ∧ 0 < (2 : Int) ^ (8 * n) := by
  match n, h with
  | 0, _ => decide
  | 1, _ => decide
  | 2, _ => decide
  | 3, _ => decide
  | 4, _ => decide
theorem shl1 {m : Nat} (h : m ≤ 32) : shL .i64 1 (m : Int) = 2 ^ m := by
  unfold shL
  have e : min (m : Int).toNat IntKind.i64.bits = m := by
    show min (m : Int).toNat 64 = m
    omega
  rw [e, Int.one_mul]
  have : (2 : Int) ^ m ≤ 2 ^ 32 := by
    have := Nat.pow_le_pow_right (n := 2) (by omega) h
    exact_mod_cast this
  have h0 : (0 : Int) < 2 ^ m := Int.pow_pos (by omega)
  exact IntWalk.i64_in _ ⟨by omega, by omega⟩
section
noncomputable def cxDoS : Cx := { P := Try.prog, tys := tys, C := [(92, kArgW), (93, kOpSize)], hty := tysOk, hC := COk.cons cArgWS (COk.cons cOpSizeS (COk.nil _)) }
theorem cxDoS_t : cxDoS.tys = tys := rfl
theorem cxDoS_c : cxDoS.C = [(92, kArgW), (93, kOpSize)] := rfl
attribute [local go_sem] cxDoS_t cxDoS_c kArgW kOpSize
theorem cDecOpS : Cn Try.prog 90 kDecOp := by
  refine Cn.pur Try.func90 (by kernel_rfl) rfl fun d x hx => ?_
  obtain ⟨s, k⟩ := x
  simp only at hx ⊢
  refine Holds.go (c := cxDoS) Try.func90 rfl Try.results90 Try.ntmps90 (by omega) (by simp) rfl ?_
  intro X0 w0
  by_cases hk : 0 ≤ k ∧ k < s.size
  rotate_left
  · have e : decOp s k = none := if_neg hk
    rw [e]
    by_cases h0 : k < 0
    · (repeat' (first | refine WP.seq ?_ | refine WP.block ?_ | ((first | refine WP.region ?_ | refine WP.condW ?_ | refine WP.ret ?_ | refine WP.exit ?_ | refine WP.skip ?_); simp only [go_sem, h0, tyAll, Nat.reduceAdd, Nat.reduceLT, Nat.reduceLeDiff, Nat.reduceEqDiff, Nat.reduceMul, Nat.reduceSub, Nat.reduceGT, reduceIte, Int.reduceNeg, Int.reduceToNat]) | ((first | refine WP.drawW 13 (by decide +kernel) (by kernel_rfl) ?_ | refine WP.drawW 10 (by decide +kernel) (by kernel_rfl) ?_ | refine WP.drawW 6 (by decide +kernel) (by kernel_rfl) ?_); simp only [go_sem, h0, tyAll, Nat.reduceAdd, Nat.reduceLT, Nat.reduceLeDiff, Nat.reduceEqDiff, Nat.reduceMul, Nat.reduceSub, Nat.reduceGT, reduceIte, Int.reduceNeg, Int.reduceToNat]) |  refine And.intro ?_ ?_ | intro _))
      all_goals first | omega | exact ⟨_, _, rfl, _, _, rfl, rfl⟩ | rfl | skip
      all_goals trace_state
    · have h1 : ¬ k < (s.size : Int) := by omega
      (repeat' (first | refine WP.seq ?_ | refine WP.block ?_ | ((first | refine WP.region ?_ | refine WP.condW ?_ | refine WP.ret ?_ | refine WP.exit ?_ | refine WP.skip ?_); simp only [go_sem, h0, h1, tyAll, Nat.reduceAdd, Nat.reduceLT, Nat.reduceLeDiff, Nat.reduceEqDiff, Nat.reduceMul, Nat.reduceSub, Nat.reduceGT, reduceIte, Int.reduceNeg, Int.reduceToNat]) | ((first | refine WP.drawW 13 (by decide +kernel) (by kernel_rfl) ?_ | refine WP.drawW 10 (by decide +kernel) (by kernel_rfl) ?_ | refine WP.drawW 6 (by decide +kernel) (by kernel_rfl) ?_); simp only [go_sem, h0, h1, tyAll, Nat.reduceAdd, Nat.reduceLT, Nat.reduceLeDiff, Nat.reduceEqDiff, Nat.reduceMul, Nat.reduceSub, Nat.reduceGT, reduceIte, Int.reduceNeg, Int.reduceToNat]) |  refine And.intro ?_ ?_ | intro _))
      all_goals first | omega | exact ⟨_, _, rfl, _, _, rfl, rfl⟩ | rfl | skip
      all_goals trace_state
  obtain ⟨p, rfl⟩ : ∃ p : Nat, k = p := ⟨k.toNat, by omega⟩
  have h0 : ¬ (p : Int) < 0 := by omega
  have h1 : (p : Int) < s.size := by omega
  have hb : ((s[p]!).toNat : Int) = byt s p := rfl
  have hw := argW_bd (byt s p)
  have hbb := byt_bd s p
  have ho := opSize_bd (byt s p)
  obtain ⟨n, hn⟩ : ∃ n : Nat, (argW (byt s p)).1 = n := ⟨_, (Int.toNat_of_nonneg hw.1).symm⟩
  by_cases hs : opSize (byt s p) ≠ 0 ∧ (p : Int) + opSize (byt s p) ≤ s.size
  rotate_left
  · have e : decOp s p = none := by
      unfold decOp
      rw [if_pos hk, Int.toNat_natCast, if_neg hs]
    rw [e]
    by_cases hz : opSize (byt s p) = 0
    · (repeat' (first | refine WP.seq ?_ | refine WP.block ?_ | ((first | refine WP.region ?_ | refine WP.condW ?_ | refine WP.ret ?_ | refine WP.exit ?_ | refine WP.skip ?_); simp only [go_sem, h0, h1, hb, hn, hz, tyAll, Nat.reduceAdd, Nat.reduceLT, Nat.reduceLeDiff, Nat.reduceEqDiff, Nat.reduceMul, Nat.reduceSub, Nat.reduceGT, reduceIte, Int.reduceNeg, Int.reduceToNat]) | ((first | refine WP.drawW 13 (by decide +kernel) (by kernel_rfl) ?_ | refine WP.drawW 10 (by decide +kernel) (by kernel_rfl) ?_ | refine WP.drawW 6 (by decide +kernel) (by kernel_rfl) ?_); simp only [go_sem, h0, h1, hb, hn, hz, tyAll, Nat.reduceAdd, Nat.reduceLT, Nat.reduceLeDiff, Nat.reduceEqDiff, Nat.reduceMul, Nat.reduceSub, Nat.reduceGT, reduceIte, Int.reduceNeg, Int.reduceToNat]) |  refine And.intro ?_ ?_ | intro _))
      all_goals first | omega | exact ⟨_, _, rfl, _, _, rfl, rfl⟩ | rfl | skip
      all_goals trace_state
    · have hz2 : ¬ (p : Int) + opSize (byt s p) ≤ s.size := fun h => hs ⟨hz, h⟩
      have hoz : opSize (byt s p) = (argW (byt s p)).1 + 1 := by unfold opSize at hz ⊢; split at hz <;> simp_all
      have hz3 : (s.size : Int) < (p : Int) + 1 + n := by omega
      (repeat' (first | refine WP.seq ?_ | refine WP.block ?_ | ((first | refine WP.region ?_ | refine WP.condW ?_ | refine WP.ret ?_ | refine WP.exit ?_ | refine WP.skip ?_); simp only [go_sem, h0, h1, hb, hn, hz, hz3, tyAll, Nat.reduceAdd, Nat.reduceLT, Nat.reduceLeDiff, Nat.reduceEqDiff, Nat.reduceMul, Nat.reduceSub, Nat.reduceGT, reduceIte, Int.reduceNeg, Int.reduceToNat]) | ((first | refine WP.drawW 13 (by decide +kernel) (by kernel_rfl) ?_ | refine WP.drawW 10 (by decide +kernel) (by kernel_rfl) ?_ | refine WP.drawW 6 (by decide +kernel) (by kernel_rfl) ?_); simp only [go_sem, h0, h1, hb, hn, hz, hz3, tyAll, Nat.reduceAdd, Nat.reduceLT, Nat.reduceLeDiff, Nat.reduceEqDiff, Nat.reduceMul, Nat.reduceSub, Nat.reduceGT, reduceIte, Int.reduceNeg, Int.reduceToNat]) |  refine And.intro ?_ ?_ | intro _))
      all_goals first | omega | exact ⟨_, _, rfl, _, _, rfl, rfl⟩ | rfl | skip
      all_goals trace_state
  obtain ⟨hs1, hs2⟩ := hs
  have hoz : opSize (byt s p) = (argW (byt s p)).1 + 1 := by unfold opSize at hs1 ⊢; split at hs1 <;> simp_all
  have hz3 : ¬ (s.size : Int) < (p : Int) + 1 + n := by omega
  have e : decOp s p = some (⟨byt s p, argV s p n (argW (byt s p)).2⟩, 1 + (n : Int)) := by
    unfold decOp
    rw [if_pos hk, Int.toNat_natCast, if_pos ⟨hs1, hs2⟩, hn, Int.toNat_natCast, hoz, hn, Int.add_comm]
  rw [e]
  have hn4 : n ≤ 4 := by omega
  (repeat' (first | refine WP.seq ?_ | refine WP.block ?_ | ((first | refine WP.region ?_ | refine WP.condW ?_ | refine WP.ret ?_ | refine WP.exit ?_ | refine WP.skip ?_); simp only [go_sem, h0, h1, hb, hn, hs1, hz3, tyAll, Nat.reduceAdd, Nat.reduceLT, Nat.reduceLeDiff, Nat.reduceEqDiff, Nat.reduceMul, Nat.reduceSub, Nat.reduceGT, reduceIte, Int.reduceNeg, Int.reduceToNat]) | ((first | refine WP.drawW 13 (by decide +kernel) (by kernel_rfl) ?_ | refine WP.drawW 10 (by decide +kernel) (by kernel_rfl) ?_ | refine WP.drawW 6 (by decide +kernel) (by kernel_rfl) ?_); simp only [go_sem, h0, h1, hb, hn, hs1, hz3, tyAll, Nat.reduceAdd, Nat.reduceLT, Nat.reduceLeDiff, Nat.reduceEqDiff, Nat.reduceMul, Nat.reduceSub, Nat.reduceGT, reduceIte, Int.reduceNeg, Int.reduceToNat]) |  refine And.intro ?_ ?_ | intro _))
  all_goals first | omega | skip
  refine WP.loop (fun j : Nat => ⟨[(0, .v (.string s)), (1, .v (.int .i64 p)), (4, .ptr 4 0 0 0), (7, .ptr 7 0 0 0), (8, .v (.int .i64 n)), (9, .v (.bool (argW (byt s p)).2)), (10, .v (.int .i64 j))],
    [(4, .box 122 [.v (.int .i64 0), .v (.int .i64 0)]), (7, .box 122 [.v (.int .i64 (byt s p)), .v (.int .i64 (leI s p j))])]⟩) (fun j => j ≤ n) (fun j => n - j) 0 (by simp) ?_ ?_
  · have hl0 : leI s p 0 = 0 := rfl
    (simp only [go_sem, hl0, tyAll, Nat.reduceAdd, Nat.reduceLT, Nat.reduceLeDiff, Nat.reduceEqDiff, Nat.reduceMul, Nat.reduceSub, Nat.reduceGT, reduceIte, Int.reduceNeg, Int.reduceToNat] <;> (first | rfl | exact ⟨rfl, rfl⟩ | exact ⟨rfl, rfl, rfl⟩ | exact ⟨rfl, rfl, rfl, rfl⟩ | exact ⟨rfl, rfl, rfl, rfl, rfl⟩ | exact ⟨⟨rfl, rfl⟩, rfl⟩ | simp))
  intro j hj
  have hp := pow8 (n := j) (by omega)
  have hl := leI_bd s p j
  by_cases hlt : j < n
  · have hli : (j : Int) < n := by omega
    have hq : ((p : Int) + 1 + j).toNat = p + 1 + j := by omega
    have hb2 : ((s[p + 1 + j]!).toNat : Int) = byt s (p + 1 + j) := rfl
    have hbb2 := byt_bd s (p + 1 + j)
    have hsh := shL8 hbb2.1 hbb2.2 (k := j) (by omega)
    have hnx : leI s p (j + 1) = leI s p j + byt s (p + 1 + j) * 2 ^ (8 * j) := rfl
    have hl2 := leI_bd s p (j + 1)
    have hp2 := pow8 (n := j + 1) (by omega)
    have hqs : (p : Int) + 1 + j < s.size := by omega
    (repeat' (first | refine WP.seq ?_ | refine WP.block ?_ | ((first | refine WP.region ?_ | refine WP.condW ?_ | refine WP.ret ?_ | refine WP.exit ?_ | refine WP.skip ?_); simp only [go_sem, hli, hq, hb2, hsh, hqs, tyAll, Nat.reduceAdd, Nat.reduceLT, Nat.reduceLeDiff, Nat.reduceEqDiff, Nat.reduceMul, Nat.reduceSub, Nat.reduceGT, reduceIte, Int.reduceNeg, Int.reduceToNat]) | ((first | refine WP.drawW 13 (by decide +kernel) (by kernel_rfl) ?_ | refine WP.drawW 10 (by decide +kernel) (by kernel_rfl) ?_ | refine WP.drawW 6 (by decide +kernel) (by kernel_rfl) ?_); simp only [go_sem, hli, hq, hb2, hsh, hqs, tyAll, Nat.reduceAdd, Nat.reduceLT, Nat.reduceLeDiff, Nat.reduceEqDiff, Nat.reduceMul, Nat.reduceSub, Nat.reduceGT, reduceIte, Int.reduceNeg, Int.reduceToNat]) |  refine And.intro ?_ ?_ | intro _))
    all_goals first | omega | skip
    all_goals first | exact ⟨j + 1, by omega, by omega, by rw [hnx]; (first | rfl | exact ⟨rfl, rfl⟩ | exact ⟨rfl, rfl, rfl⟩ | exact ⟨rfl, rfl, rfl, rfl⟩ | exact ⟨rfl, rfl, rfl, rfl, rfl⟩ | exact ⟨⟨rfl, rfl⟩, rfl⟩ | simp)⟩ | trace_state
  · have hge : ¬ (j : Int) < n := by omega
    obtain rfl : j = n := by omega
    cases hsg : (argW (byt s p)).2 with
    | false =>
      have ea : argV s p j false = leI s p j := by unfold argV; rw [if_neg (by simp)]
      rw [ea]
      (repeat' (first | refine WP.seq ?_ | refine WP.block ?_ | ((first | refine WP.region ?_ | refine WP.condW ?_ | refine WP.ret ?_ | refine WP.exit ?_ | refine WP.skip ?_); simp only [go_sem, hge, tyAll, Nat.reduceAdd, Nat.reduceLT, Nat.reduceLeDiff, Nat.reduceEqDiff, Nat.reduceMul, Nat.reduceSub, Nat.reduceGT, reduceIte, Int.reduceNeg, Int.reduceToNat]) | ((first | refine WP.drawW 13 (by decide +kernel) (by kernel_rfl) ?_ | refine WP.drawW 10 (by decide +kernel) (by kernel_rfl) ?_ | refine WP.drawW 6 (by decide +kernel) (by kernel_rfl) ?_); simp only [go_sem, hge, tyAll, Nat.reduceAdd, Nat.reduceLT, Nat.reduceLeDiff, Nat.reduceEqDiff, Nat.reduceMul, Nat.reduceSub, Nat.reduceGT, reduceIte, Int.reduceNeg, Int.reduceToNat]) |  refine And.intro ?_ ?_ | intro _))
      all_goals first | omega | exact ⟨_, _, rfl, _, _, rfl, rfl⟩ | rfl | skip
      all_goals trace_state
    | true =>
      have hj2 : 2 ≤ j := by have := hw.2.2.2 hsg; omega
      have h8 : ((8 * j : Nat) : Int) - 1 = ((8 * j - 1 : Nat) : Int) := by omega
      have h8b : (8 : Int) * j = ((8 * j : Nat) : Int) := by omega
      have s1 := shl1 (m := 8 * j - 1) (by omega)
      have s2 := shl1 (m := 8 * j) (by omega)
      by_cases hc : (2 : Int) ^ (8 * j - 1) ≤ leI s p j
      · have ea : argV s p j true = leI s p j - 2 ^ (8 * j) := by unfold argV; rw [if_pos ⟨rfl, hc⟩]
        rw [ea]
        (repeat' (first | refine WP.seq ?_ | refine WP.block ?_ | ((first | refine WP.region ?_ | refine WP.condW ?_ | refine WP.ret ?_ | refine WP.exit ?_ | refine WP.skip ?_); simp only [go_sem, hge, h8, h8b, s1, s2, hc, tyAll, Nat.reduceAdd, Nat.reduceLT, Nat.reduceLeDiff, Nat.reduceEqDiff, Nat.reduceMul, Nat.reduceSub, Nat.reduceGT, reduceIte, Int.reduceNeg, Int.reduceToNat]) | ((first | refine WP.drawW 13 (by decide +kernel) (by kernel_rfl) ?_ | refine WP.drawW 10 (by decide +kernel) (by kernel_rfl) ?_ | refine WP.drawW 6 (by decide +kernel) (by kernel_rfl) ?_); simp only [go_sem, hge, h8, h8b, s1, s2, hc, tyAll, Nat.reduceAdd, Nat.reduceLT, Nat.reduceLeDiff, Nat.reduceEqDiff, Nat.reduceMul, Nat.reduceSub, Nat.reduceGT, reduceIte, Int.reduceNeg, Int.reduceToNat]) |  refine And.intro ?_ ?_ | intro _))
        all_goals first | omega | exact ⟨_, _, rfl, _, _, rfl, rfl⟩ | rfl | skip
        all_goals trace_state
      · have ea : argV s p j true = leI s p j := by unfold argV; rw [if_neg fun h => hc h.2]
        rw [ea]
        (repeat' (first | refine WP.seq ?_ | refine WP.block ?_ | ((first | refine WP.region ?_ | refine WP.condW ?_ | refine WP.ret ?_ | refine WP.exit ?_ | refine WP.skip ?_); simp only [go_sem, hge, h8, h8b, s1, s2, hc, tyAll, Nat.reduceAdd, Nat.reduceLT, Nat.reduceLeDiff, Nat.reduceEqDiff, Nat.reduceMul, Nat.reduceSub, Nat.reduceGT, reduceIte, Int.reduceNeg, Int.reduceToNat]) | ((first | refine WP.drawW 13 (by decide +kernel) (by kernel_rfl) ?_ | refine WP.drawW 10 (by decide +kernel) (by kernel_rfl) ?_ | refine WP.drawW 6 (by decide +kernel) (by kernel_rfl) ?_); simp only [go_sem, hge, h8, h8b, s1, s2, hc, tyAll, Nat.reduceAdd, Nat.reduceLT, Nat.reduceLeDiff, Nat.reduceEqDiff, Nat.reduceMul, Nat.reduceSub, Nat.reduceGT, reduceIte, Int.reduceNeg, Int.reduceToNat]) |  refine And.intro ?_ ?_ | intro _))
        all_goals first | omega | exact ⟨_, _, rfl, _, _, rfl, rfl⟩ | rfl | skip
        all_goals trace_state
end
section
noncomputable def cxDoI : Cx := { P := Try.prog, tys := tys, C := [(48, k60), (95, kArgW), (94, kOpSize)], hty := tysOk, hC := COk.cons c60 (COk.cons cArgWI (COk.cons cOpSizeI (COk.nil _))) }
theorem cxDoI_t : cxDoI.tys = tys := rfl
theorem cxDoI_c : cxDoI.C = [(48, k60), (95, kArgW), (94, kOpSize)] := rfl
attribute [local go_sem] cxDoI_t cxDoI_c k60 kArgW kOpSize
theorem cDecOpI : Cn Try.prog 91 kDecOp := by
  refine Cn.pur Try.func91 (by kernel_rfl) rfl fun d x hx => ?_
  obtain ⟨s, k⟩ := x
  simp only at hx ⊢
  refine Holds.go (c := cxDoI) Try.func91 rfl Try.results91 Try.ntmps91 (by omega) (by simp) rfl ?_
  intro X0 w0
  by_cases hk : 0 ≤ k ∧ k < s.size
  rotate_left
  · have e : decOp s k = none := if_neg hk
    rw [e]
    have hk' : ¬ (0 ≤ k ∧ k ≤ (s.size : Int) - 1) := fun h => hk (by omega)
    have hkd : (decide (0 ≤ k) && decide (k ≤ (s.size : Int) - 1)) = false := by
      rw [← Bool.decide_and]; exact decide_eq_false hk'
    (repeat' (first | refine WP.seq ?_ | refine WP.block ?_ | ((first | refine WP.region ?_ | refine WP.condW ?_ | refine WP.ret ?_ | refine WP.exit ?_ | refine WP.skip ?_); simp only [go_sem, hkd, tyAll, Nat.reduceAdd, Nat.reduceLT, Nat.reduceLeDiff, Nat.reduceEqDiff, Nat.reduceMul, Nat.reduceSub, Nat.reduceGT, reduceIte, Int.reduceNeg, Int.reduceToNat]) | ((first | refine WP.drawW 13 (by decide +kernel) (by kernel_rfl) ?_ | refine WP.drawW 10 (by decide +kernel) (by kernel_rfl) ?_ | refine WP.drawW 6 (by decide +kernel) (by kernel_rfl) ?_); simp only [go_sem, hkd, tyAll, Nat.reduceAdd, Nat.reduceLT, Nat.reduceLeDiff, Nat.reduceEqDiff, Nat.reduceMul, Nat.reduceSub, Nat.reduceGT, reduceIte, Int.reduceNeg, Int.reduceToNat]) |  refine And.intro ?_ ?_ | intro _))
    all_goals first | omega | exact ⟨_, _, rfl, _, _, rfl, rfl⟩ | rfl | skip
    all_goals trace_state
  obtain ⟨p, rfl⟩ : ∃ p : Nat, k = p := ⟨k.toNat, by omega⟩
  have h0 : ¬ (p : Int) < 0 := by omega
  have h1 : (p : Int) < s.size := by omega
  have h1b : (p : Int) ≤ (s.size : Int) - 1 := by omega
  have h0b : (0 : Int) ≤ p := by omega
  have hb : ((s[p]!).toNat : Int) = byt s p := rfl
  have hw := argW_bd (byt s p)
  have hbb := byt_bd s p
  have ho := opSize_bd (byt s p)
  obtain ⟨n, hn⟩ : ∃ n : Nat, (argW (byt s p)).1 = n := ⟨_, (Int.toNat_of_nonneg hw.1).symm⟩
  by_cases hs : opSize (byt s p) ≠ 0 ∧ (p : Int) + opSize (byt s p) ≤ s.size
  rotate_left
  · have e : decOp s p = none := by
      unfold decOp
      rw [if_pos hk, Int.toNat_natCast, if_neg hs]
    rw [e]
    by_cases hz : opSize (byt s p) = 0
    · (repeat' (first | refine WP.seq ?_ | refine WP.block ?_ | ((first | refine WP.region ?_ | refine WP.condW ?_ | refine WP.ret ?_ | refine WP.exit ?_ | refine WP.skip ?_); simp only [go_sem, h0b, h1, h1b, hb, hn, hz, tyAll, Nat.reduceAdd, Nat.reduceLT, Nat.reduceLeDiff, Nat.reduceEqDiff, Nat.reduceMul, Nat.reduceSub, Nat.reduceGT, reduceIte, Int.reduceNeg, Int.reduceToNat]) | ((first | refine WP.drawW 13 (by decide +kernel) (by kernel_rfl) ?_ | refine WP.drawW 10 (by decide +kernel) (by kernel_rfl) ?_ | refine WP.drawW 6 (by decide +kernel) (by kernel_rfl) ?_); simp only [go_sem, h0b, h1, h1b, hb, hn, hz, tyAll, Nat.reduceAdd, Nat.reduceLT, Nat.reduceLeDiff, Nat.reduceEqDiff, Nat.reduceMul, Nat.reduceSub, Nat.reduceGT, reduceIte, Int.reduceNeg, Int.reduceToNat]) |  refine And.intro ?_ ?_ | intro _))
      all_goals first | omega | exact ⟨_, _, rfl, _, _, rfl, rfl⟩ | rfl | skip
      all_goals trace_state
    · have hz2 : ¬ (p : Int) + opSize (byt s p) ≤ s.size := fun h => hs ⟨hz, h⟩
      have hoz : opSize (byt s p) = (argW (byt s p)).1 + 1 := by unfold opSize at hz ⊢; split at hz <;> simp_all
      have hz3 : (s.size : Int) < (p : Int) + opSize (byt s p) := by omega
      (repeat' (first | refine WP.seq ?_ | refine WP.block ?_ | ((first | refine WP.region ?_ | refine WP.condW ?_ | refine WP.ret ?_ | refine WP.exit ?_ | refine WP.skip ?_); simp only [go_sem, h0b, h1, h1b, hb, hn, hz, hz3, tyAll, Nat.reduceAdd, Nat.reduceLT, Nat.reduceLeDiff, Nat.reduceEqDiff, Nat.reduceMul, Nat.reduceSub, Nat.reduceGT, reduceIte, Int.reduceNeg, Int.reduceToNat]) | ((first | refine WP.drawW 13 (by decide +kernel) (by kernel_rfl) ?_ | refine WP.drawW 10 (by decide +kernel) (by kernel_rfl) ?_ | refine WP.drawW 6 (by decide +kernel) (by kernel_rfl) ?_); simp only [go_sem, h0b, h1, h1b, hb, hn, hz, hz3, tyAll, Nat.reduceAdd, Nat.reduceLT, Nat.reduceLeDiff, Nat.reduceEqDiff, Nat.reduceMul, Nat.reduceSub, Nat.reduceGT, reduceIte, Int.reduceNeg, Int.reduceToNat]) |  refine And.intro ?_ ?_ | intro _))
      all_goals first | omega | exact ⟨_, _, rfl, _, _, rfl, rfl⟩ | rfl | skip
      all_goals trace_state
  obtain ⟨hs1, hs2⟩ := hs
  have hoz : opSize (byt s p) = (argW (byt s p)).1 + 1 := by unfold opSize at hs1 ⊢; split at hs1 <;> simp_all
  have hz3 : ¬ (s.size : Int) < (p : Int) + opSize (byt s p) := by omega
  have e : decOp s p = some (⟨byt s p, argV s p n (argW (byt s p)).2⟩, opSize (byt s p)) := by
    unfold decOp
    rw [if_pos hk, Int.toNat_natCast, if_pos ⟨hs1, hs2⟩, hn, Int.toNat_natCast]
  rw [e]
  have hn4 : n ≤ 4 := by omega
  (repeat' (first | refine WP.seq ?_ | refine WP.block ?_ | ((first | refine WP.region ?_ | refine WP.condW ?_ | refine WP.ret ?_ | refine WP.exit ?_ | refine WP.skip ?_); simp only [go_sem, h0b, h1, h1b, hb, hn, hs1, hz3, tyAll, Nat.reduceAdd, Nat.reduceLT, Nat.reduceLeDiff, Nat.reduceEqDiff, Nat.reduceMul, Nat.reduceSub, Nat.reduceGT, reduceIte, Int.reduceNeg, Int.reduceToNat]) | ((first | refine WP.drawW 13 (by decide +kernel) (by kernel_rfl) ?_ | refine WP.drawW 10 (by decide +kernel) (by kernel_rfl) ?_ | refine WP.drawW 6 (by decide +kernel) (by kernel_rfl) ?_); simp only [go_sem, h0b, h1, h1b, hb, hn, hs1, hz3, tyAll, Nat.reduceAdd, Nat.reduceLT, Nat.reduceLeDiff, Nat.reduceEqDiff, Nat.reduceMul, Nat.reduceSub, Nat.reduceGT, reduceIte, Int.reduceNeg, Int.reduceToNat]) |  refine And.intro ?_ ?_ | intro _))
  all_goals first | omega | skip
  refine WP.loop (fun j : Nat => ⟨[(0, .v (.string s)), (1, .v (.int .i64 p)), (4, .ptr 4 0 0 0), (7, .ptr 7 0 0 0), (8, .v (.int .i64 (opSize (byt s p)))), (9, .v (.int .i64 n)), (10, .v (.bool (argW (byt s p)).2)), (11, .v (.int .i64 j))],
    [(4, .box 122 [.v (.int .i64 0), .v (.int .i64 0)]), (7, .box 122 [.v (.int .i64 (byt s p)), .v (.int .i64 (leI s p j))])]⟩) (fun j => j ≤ n) (fun j => n - j) 0 (by simp) ?_ ?_
  · have hl0 : leI s p 0 = 0 := rfl
    (simp only [go_sem, hl0, tyAll, Nat.reduceAdd, Nat.reduceLT, Nat.reduceLeDiff, Nat.reduceEqDiff, Nat.reduceMul, Nat.reduceSub, Nat.reduceGT, reduceIte, Int.reduceNeg, Int.reduceToNat] <;> (first | rfl | exact ⟨rfl, rfl⟩ | exact ⟨rfl, rfl, rfl⟩ | exact ⟨rfl, rfl, rfl, rfl⟩ | exact ⟨rfl, rfl, rfl, rfl, rfl⟩ | exact ⟨⟨rfl, rfl⟩, rfl⟩ | simp))
  intro j hj
  have hp := pow8 (n := j) (by omega)
  have hl := leI_bd s p j
  by_cases hlt : j < n
  · have hli : (j : Int) < n := by omega
    have hq : ((p : Int) + 1 + j).toNat = p + 1 + j := by omega
    have hb2 : ((s[p + 1 + j]!).toNat : Int) = byt s (p + 1 + j) := rfl
    have hbb2 := byt_bd s (p + 1 + j)
    have hsh := shL8 hbb2.1 hbb2.2 (k := j) (by omega)
    have hor := or8 (a := leI s p j) (c := byt s (p + 1 + j)) (k := j) (by omega) hl.1 hl.2 hbb2.1 hbb2.2
    have hnx : leI s p (j + 1) = leI s p j + byt s (p + 1 + j) * 2 ^ (8 * j) := rfl
    have hl2 := leI_bd s p (j + 1)
    have hp2 := pow8 (n := j + 1) (by omega)
    have hqs : (p : Int) + 1 + j < s.size := by omega
    (repeat' (first | refine WP.seq ?_ | refine WP.block ?_ | ((first | refine WP.region ?_ | refine WP.condW ?_ | refine WP.ret ?_ | refine WP.exit ?_ | refine WP.skip ?_); simp only [go_sem, hli, hq, hb2, hsh, hqs, hor, tyAll, Nat.reduceAdd, Nat.reduceLT, Nat.reduceLeDiff, Nat.reduceEqDiff, Nat.reduceMul, Nat.reduceSub, Nat.reduceGT, reduceIte, Int.reduceNeg, Int.reduceToNat]) | ((first | refine WP.drawW 13 (by decide +kernel) (by kernel_rfl) ?_ | refine WP.drawW 10 (by decide +kernel) (by kernel_rfl) ?_ | refine WP.drawW 6 (by decide +kernel) (by kernel_rfl) ?_); simp only [go_sem, hli, hq, hb2, hsh, hqs, hor, tyAll, Nat.reduceAdd, Nat.reduceLT, Nat.reduceLeDiff, Nat.reduceEqDiff, Nat.reduceMul, Nat.reduceSub, Nat.reduceGT, reduceIte, Int.reduceNeg, Int.reduceToNat]) |  refine And.intro ?_ ?_ | intro _))
    all_goals first | omega | skip
    all_goals first | exact ⟨j + 1, by omega, by omega, by rw [hnx]; (first | rfl | exact ⟨rfl, rfl⟩ | exact ⟨rfl, rfl, rfl⟩ | exact ⟨rfl, rfl, rfl, rfl⟩ | exact ⟨rfl, rfl, rfl, rfl, rfl⟩ | exact ⟨⟨rfl, rfl⟩, rfl⟩ | simp)⟩ | trace_state
  · have hge : ¬ (j : Int) < n := by omega
    obtain rfl : j = n := by omega
    cases hsg : (argW (byt s p)).2 with
    | false =>
      have ea : argV s p j false = leI s p j := by unfold argV; rw [if_neg (by simp)]
      rw [ea]
      (repeat' (first | refine WP.seq ?_ | refine WP.block ?_ | ((first | refine WP.region ?_ | refine WP.condW ?_ | refine WP.ret ?_ | refine WP.exit ?_ | refine WP.skip ?_); simp only [go_sem, hge, tyAll, Nat.reduceAdd, Nat.reduceLT, Nat.reduceLeDiff, Nat.reduceEqDiff, Nat.reduceMul, Nat.reduceSub, Nat.reduceGT, reduceIte, Int.reduceNeg, Int.reduceToNat]) | ((first | refine WP.drawW 13 (by decide +kernel) (by kernel_rfl) ?_ | refine WP.drawW 10 (by decide +kernel) (by kernel_rfl) ?_ | refine WP.drawW 6 (by decide +kernel) (by kernel_rfl) ?_); simp only [go_sem, hge, tyAll, Nat.reduceAdd, Nat.reduceLT, Nat.reduceLeDiff, Nat.reduceEqDiff, Nat.reduceMul, Nat.reduceSub, Nat.reduceGT, reduceIte, Int.reduceNeg, Int.reduceToNat]) |  refine And.intro ?_ ?_ | intro _))
      all_goals first | omega | exact ⟨_, _, rfl, _, _, rfl, rfl⟩ | rfl | skip
      all_goals trace_state
    | true =>
      have hj2 : 2 ≤ j := by have := hw.2.2.2 hsg; omega
      have h8 : ((8 * j : Nat) : Int) - 1 = ((8 * j - 1 : Nat) : Int) := by omega
      have h8b : (8 : Int) * j = ((8 * j : Nat) : Int) := by omega
      have s1 := shl1 (m := 8 * j - 1) (by omega)
      have s2 := shl1 (m := 8 * j) (by omega)
      by_cases hc : (2 : Int) ^ (8 * j - 1) ≤ leI s p j
      · have ea : argV s p j true = leI s p j - 2 ^ (8 * j) := by unfold argV; rw [if_pos ⟨rfl, hc⟩]
        rw [ea]
        (repeat' (first | refine WP.seq ?_ | refine WP.block ?_ | ((first | refine WP.region ?_ | refine WP.condW ?_ | refine WP.ret ?_ | refine WP.exit ?_ | refine WP.skip ?_); simp only [go_sem, hge, h8, h8b, s1, s2, hc, tyAll, Nat.reduceAdd, Nat.reduceLT, Nat.reduceLeDiff, Nat.reduceEqDiff, Nat.reduceMul, Nat.reduceSub, Nat.reduceGT, reduceIte, Int.reduceNeg, Int.reduceToNat]) | ((first | refine WP.drawW 13 (by decide +kernel) (by kernel_rfl) ?_ | refine WP.drawW 10 (by decide +kernel) (by kernel_rfl) ?_ | refine WP.drawW 6 (by decide +kernel) (by kernel_rfl) ?_); simp only [go_sem, hge, h8, h8b, s1, s2, hc, tyAll, Nat.reduceAdd, Nat.reduceLT, Nat.reduceLeDiff, Nat.reduceEqDiff, Nat.reduceMul, Nat.reduceSub, Nat.reduceGT, reduceIte, Int.reduceNeg, Int.reduceToNat]) |  refine And.intro ?_ ?_ | intro _))
        all_goals first | omega | exact ⟨_, _, rfl, _, _, rfl, rfl⟩ | rfl | skip
        all_goals trace_state
      · have ea : argV s p j true = leI s p j := by unfold argV; rw [if_neg fun h => hc h.2]
        rw [ea]
        (repeat' (first | refine WP.seq ?_ | refine WP.block ?_ | ((first | refine WP.region ?_ | refine WP.condW ?_ | refine WP.ret ?_ | refine WP.exit ?_ | refine WP.skip ?_); simp only [go_sem, hge, h8, h8b, s1, s2, hc, tyAll, Nat.reduceAdd, Nat.reduceLT, Nat.reduceLeDiff, Nat.reduceEqDiff, Nat.reduceMul, Nat.reduceSub, Nat.reduceGT, reduceIte, Int.reduceNeg, Int.reduceToNat]) | ((first | refine WP.drawW 13 (by decide +kernel) (by kernel_rfl) ?_ | refine WP.drawW 10 (by decide +kernel) (by kernel_rfl) ?_ | refine WP.drawW 6 (by decide +kernel) (by kernel_rfl) ?_); simp only [go_sem, hge, h8, h8b, s1, s2, hc, tyAll, Nat.reduceAdd, Nat.reduceLT, Nat.reduceLeDiff, Nat.reduceEqDiff, Nat.reduceMul, Nat.reduceSub, Nat.reduceGT, reduceIte, Int.reduceNeg, Int.reduceToNat]) |  refine And.intro ?_ ?_ | intro _))
        all_goals first | omega | exact ⟨_, _, rfl, _, _, rfl, rfl⟩ | rfl | skip
        all_goals trace_state
end
end
section
open Go.Vc
set_option linter.unusedSimpArgs false
set_option linter.unusedVariables false
set_option maxHeartbeats 1000000
set_option maxRecDepth 10000
attribute [local irreducible] Go.Vc.WP
attribute [local go_sem] cx0_t cx0_c
open Go.Pl
def oneOp : List SV → Op
  | [.v (.int _ a), .v (.int _ b)] => ⟨a, b⟩
  | _ => ⟨0, 0⟩
def decOps (rows : List (List SV)) : List Op := rows.map oneOp
theorem decOps_enc (L : List Op) : decOps (L.map encOp) = L := by
  unfold decOps
  rw [List.map_map]
  exact List.map_id'' (fun _ => rfl) L
theorem isV_Op {e s : Nat} (L : List Op) : (Ob.sl e s (L.map encOp)).isV ↔ True := iff_true_intro (by
  intro row hr c hc
  obtain ⟨n, _, rfl⟩ := List.mem_map.1 hr
  simp only [encOp, List.mem_cons, List.not_mem_nil, or_false] at hc
  rcases hc with rfl | rfl <;> exact ⟨_, rfl⟩)
attribute [local go_sem] isV_Op decOps_enc
def disGo (s : ByteArray) : Nat → Nat → Option (List Op)
  | 0, _ => some []
  | f + 1, p => if p < s.size then (match decOp s p with
      | some x => (disGo s f (p + x.2.toNat)).map (x.1 :: ·)
      | none => none) else some []
def disasm (s : ByteArray) : Option (List Op) := disGo s (s.size + 1) 0
theorem decOp_size {s : ByteArray} {p : Int} {x : Op × Int} (h : decOp s p = some x) : 1 ≤ x.2 ∧ x.2 ≤ 5 ∧ p + x.2 ≤ s.size := by
  unfold decOp at h
  split at h
  · split at h
    · rename_i h1 h2
      cases h
      have := opSize_bd (byt s p.toNat)
      simp only
      omega
    · cases h
  · cases h
def kDis : Ctr := pur (fun args => aS args 0) (fun s => [.v (.string s)]) (fun s => s.size ≤ 4194304)
  (fun d s => .tup [.own d, .v (.bool (disasm s).isSome)]) (fun d s => [(d, .sl 122 2 (((disasm s).getD []).map encOp))])
structure DisI (s : ByteArray) (q : Nat × List Op) : Prop where
  le : q.1 ≤ s.size
  len : q.2.length ≤ q.1
  eq : ∃ f, s.size + 1 ≤ f + q.1 ∧ disasm s = (disGo s f q.1).map (q.2 ++ ·)
theorem DisI.zero (s : ByteArray) : DisI s (0, []) := ⟨by simp, by simp, s.size + 1, by simp, by unfold disasm; simp⟩
theorem DisI.bad {s : ByteArray} {q : Nat × List Op} (h : DisI s q) (hq : q.1 < s.size) (hb : decOp s q.1 = none) : disasm s = none := by
  obtain ⟨f, hf, e⟩ := h.eq
  obtain ⟨g, rfl⟩ : ∃ g, f = g + 1 := ⟨f - 1, by omega⟩
  rw [e, disGo, if_pos hq, hb]; rfl
theorem DisI.next {s : ByteArray} {q : Nat × List Op} (h : DisI s q) (hq : q.1 < s.size) {x : Op × Int} (hb : decOp s q.1 = some x) : DisI s (q.1 + x.2.toNat, q.2 ++ [x.1]) := by
  obtain ⟨f, hf, e⟩ := h.eq
  obtain ⟨g, rfl⟩ : ∃ g, f = g + 1 := ⟨f - 1, by omega⟩
  have hs := decOp_size hb
  have hl := h.len
  refine ⟨by simp only; omega, by simp; omega, g, by simp only; omega, ?_⟩
  rw [e, disGo, if_pos hq, hb]
  simp only [Option.map_map]
  congr 1
  funext l
  simp
theorem DisI.done {s : ByteArray} {q : Nat × List Op} (h : DisI s q) (hq : ¬ q.1 < s.size) : disasm s = some q.2 := by
  obtain ⟨f, hf, e⟩ := h.eq
  have : disGo s f q.1 = some [] := by
    cases f with
    | zero => rfl
    | succ g => rw [disGo, if_neg hq]
  rw [e, this]; simp
section
noncomputable def cxDiI : Cx := { P := Try.prog, tys := tys, C := [(91, kDecOp)], hty := tysOk, hC := COk.cons cDecOpI (COk.nil _) }
theorem cxDiI_t : cxDiI.tys = tys := rfl
theorem cxDiI_c : cxDiI.C = [(91, kDecOp)] := rfl
attribute [local go_sem] cxDiI_t cxDiI_c kDecOp
theorem cDisI : Cn Try.prog 88 kDis := by
  refine Cn.pur Try.func88 (by kernel_rfl) rfl fun d x hx => ?_
  rename ByteArray => s
  refine Holds.go (c := cxDiI) Try.func88 rfl Try.results88 Try.ntmps88 (by omega) (by simp) rfl ?_
  intro X0 w0
  (repeat' (first | refine WP.seq ?_ | refine WP.block ?_ | ((first | refine WP.region ?_ | refine WP.condW ?_ | refine WP.ret ?_ | refine WP.exit ?_ | refine WP.skip ?_); simp only [go_sem, tyAll, Nat.reduceAdd, Nat.reduceLT, Nat.reduceLeDiff, Nat.reduceEqDiff, Nat.reduceMul, Nat.reduceSub, Nat.reduceGT, reduceIte, Int.reduceNeg, Int.reduceToNat]) |  refine And.intro ?_ ?_ | intro _))
  all_goals first | omega | skip
  refine WP.loop (fun q : Nat × List Op => ⟨[(0, .v (.string s)), (4, .own 9), (5, .v (.int .i64 q.1))], [(9, .sl 122 2 (q.2.map encOp))]⟩) (fun q => DisI s q) (fun q => s.size - q.1) (0, []) (DisI.zero s) ?_ ?_
  · (simp only [go_sem, tyAll, Nat.reduceAdd, Nat.reduceLT, Nat.reduceLeDiff, Nat.reduceEqDiff, Nat.reduceMul, Nat.reduceSub, Nat.reduceGT, reduceIte, Int.reduceNeg, Int.reduceToNat] <;> (first | rfl | exact ⟨rfl, rfl⟩ | exact ⟨rfl, rfl, rfl⟩ | exact ⟨rfl, rfl, rfl, rfl⟩ | exact ⟨rfl, rfl, rfl, rfl, rfl⟩ | exact ⟨⟨rfl, rfl⟩, rfl⟩ | simp))
  rintro ⟨p, A⟩ hI
  have h1 := hI.le
  have h2 := hI.len
  simp only at h1 h2 ⊢
  by_cases hlt : p < s.size
  · have hli : (p : Int) < s.size := by omega
    cases hb : decOp s p with
    | none =>
      have e := hI.bad hlt hb
      have hN : (none : Option (Op × Int)).map (·.1) = none := rfl
      (repeat' (first | refine WP.seq ?_ | refine WP.block ?_ | ((first | refine WP.region ?_ | refine WP.condW ?_ | refine WP.ret ?_ | refine WP.exit ?_ | refine WP.skip ?_); simp only [go_sem, hli, hb, e, tyAll, Nat.reduceAdd, Nat.reduceLT, Nat.reduceLeDiff, Nat.reduceEqDiff, Nat.reduceMul, Nat.reduceSub, Nat.reduceGT, reduceIte, Int.reduceNeg, Int.reduceToNat]) |  refine And.intro ?_ ?_ | intro _))
      all_goals first | omega | (rw [e]; first | rfl | exact ⟨_, _, rfl⟩) | exact ⟨_, _, rfl⟩ | skip
      all_goals trace_state
    | some x =>
      have e := hI.next hlt hb
      have hs := decOp_size hb
      obtain ⟨n, hn⟩ : ∃ n : Nat, x.2 = n := ⟨_, (Int.toNat_of_nonneg (by omega)).symm⟩
      rw [hn, Int.toNat_natCast] at e
      simp only at e
      (repeat' (first | refine WP.seq ?_ | refine WP.block ?_ | ((first | refine WP.region ?_ | refine WP.condW ?_ | refine WP.ret ?_ | refine WP.exit ?_ | refine WP.skip ?_); simp only [go_sem, hli, hb, hn, tyAll, Nat.reduceAdd, Nat.reduceLT, Nat.reduceLeDiff, Nat.reduceEqDiff, Nat.reduceMul, Nat.reduceSub, Nat.reduceGT, reduceIte, Int.reduceNeg, Int.reduceToNat]) |  refine And.intro ?_ ?_ | intro _))
      all_goals first | omega | skip
      all_goals first | exact ⟨(p + n, A ++ [x.1]), e, by simp only; omega, by rw [Int.natCast_add], by rw [List.map_append]; rfl⟩ | trace_state
  · have hge : ¬ (p : Int) < s.size := by omega
    have e := hI.done hlt
    (repeat' (first | refine WP.seq ?_ | refine WP.block ?_ | ((first | refine WP.region ?_ | refine WP.condW ?_ | refine WP.ret ?_ | refine WP.exit ?_ | refine WP.skip ?_); simp only [go_sem, hge, e, tyAll, Nat.reduceAdd, Nat.reduceLT, Nat.reduceLeDiff, Nat.reduceEqDiff, Nat.reduceMul, Nat.reduceSub, Nat.reduceGT, reduceIte, Int.reduceNeg, Int.reduceToNat]) |  refine And.intro ?_ ?_ | intro _))
    all_goals first | omega | (rw [e]; rfl) | skip
    all_goals trace_state
end
section
noncomputable def cxDiS : Cx := { P := Try.prog, tys := tys, C := [(90, kDecOp)], hty := tysOk, hC := COk.cons cDecOpS (COk.nil _) }
theorem cxDiS_t : cxDiS.tys = tys := rfl
theorem cxDiS_c : cxDiS.C = [(90, kDecOp)] := rfl
attribute [local go_sem] cxDiS_t cxDiS_c kDecOp
theorem cDisS : Cn Try.prog 85 kDis := by
  refine Cn.pur Try.func85 (by kernel_rfl) rfl fun d x hx => ?_
  rename ByteArray => s
  refine Holds.go (c := cxDiS) Try.func85 rfl Try.results85 Try.ntmps85 (by omega) (by simp) rfl ?_
  intro X0 w0
  (repeat' (first | refine WP.seq ?_ | refine WP.block ?_ | ((first | refine WP.region ?_ | refine WP.condW ?_ | refine WP.ret ?_ | refine WP.exit ?_ | refine WP.skip ?_); simp only [go_sem, tyAll, Nat.reduceAdd, Nat.reduceLT, Nat.reduceLeDiff, Nat.reduceEqDiff, Nat.reduceMul, Nat.reduceSub, Nat.reduceGT, reduceIte, Int.reduceNeg, Int.reduceToNat]) |  refine And.intro ?_ ?_ | intro _))
  all_goals first | omega | skip
  refine WP.loop (fun q : Nat × List Op => ⟨[(0, .v (.string s)), (4, .own 9), (5, .v (.int .i64 q.1))], [(9, .sl 122 2 (q.2.map encOp))]⟩) (fun q => DisI s q) (fun q => s.size - q.1) (0, []) (DisI.zero s) ?_ ?_
  · (simp only [go_sem, tyAll, Nat.reduceAdd, Nat.reduceLT, Nat.reduceLeDiff, Nat.reduceEqDiff, Nat.reduceMul, Nat.reduceSub, Nat.reduceGT, reduceIte, Int.reduceNeg, Int.reduceToNat] <;> (first | rfl | exact ⟨rfl, rfl⟩ | exact ⟨rfl, rfl, rfl⟩ | exact ⟨rfl, rfl, rfl, rfl⟩ | exact ⟨rfl, rfl, rfl, rfl, rfl⟩ | exact ⟨⟨rfl, rfl⟩, rfl⟩ | simp))
  rintro ⟨p, A⟩ hI
  have h1 := hI.le
  have h2 := hI.len
  simp only at h1 h2 ⊢
  by_cases hlt : p < s.size
  · have hli : (p : Int) < s.size := by omega
    cases hb : decOp s p with
    | none =>
      have e := hI.bad hlt hb
      have hN : (none : Option (Op × Int)).map (·.1) = none := rfl
      (repeat' (first | refine WP.seq ?_ | refine WP.block ?_ | ((first | refine WP.region ?_ | refine WP.condW ?_ | refine WP.ret ?_ | refine WP.exit ?_ | refine WP.skip ?_); simp only [go_sem, hli, hb, e, tyAll, Nat.reduceAdd, Nat.reduceLT, Nat.reduceLeDiff, Nat.reduceEqDiff, Nat.reduceMul, Nat.reduceSub, Nat.reduceGT, reduceIte, Int.reduceNeg, Int.reduceToNat]) |  refine And.intro ?_ ?_ | intro _))
      all_goals first | omega | (rw [e]; first | rfl | exact ⟨_, _, rfl⟩) | exact ⟨_, _, rfl⟩ | skip
      all_goals trace_state
    | some x =>
      have e := hI.next hlt hb
      have hs := decOp_size hb
      obtain ⟨n, hn⟩ : ∃ n : Nat, x.2 = n := ⟨_, (Int.toNat_of_nonneg (by omega)).symm⟩
      rw [hn, Int.toNat_natCast] at e
      simp only at e
      (repeat' (first | refine WP.seq ?_ | refine WP.block ?_ | ((first | refine WP.region ?_ | refine WP.condW ?_ | refine WP.ret ?_ | refine WP.exit ?_ | refine WP.skip ?_); simp only [go_sem, hli, hb, hn, tyAll, Nat.reduceAdd, Nat.reduceLT, Nat.reduceLeDiff, Nat.reduceEqDiff, Nat.reduceMul, Nat.reduceSub, Nat.reduceGT, reduceIte, Int.reduceNeg, Int.reduceToNat]) |  refine And.intro ?_ ?_ | intro _))
      all_goals first | omega | skip
      all_goals first | exact ⟨(p + n, A ++ [x.1]), e, by simp only; omega, by rw [Int.natCast_add], by rw [List.map_append]; rfl⟩ | trace_state
  · have hge : ¬ (p : Int) < s.size := by omega
    have e := hI.done hlt
    (repeat' (first | refine WP.seq ?_ | refine WP.block ?_ | ((first | refine WP.region ?_ | refine WP.condW ?_ | refine WP.ret ?_ | refine WP.exit ?_ | refine WP.skip ?_); simp only [go_sem, hge, e, tyAll, Nat.reduceAdd, Nat.reduceLT, Nat.reduceLeDiff, Nat.reduceEqDiff, Nat.reduceMul, Nat.reduceSub, Nat.reduceGT, reduceIte, Int.reduceNeg, Int.reduceToNat]) |  refine And.intro ?_ ?_ | intro _))
    all_goals first | omega | (rw [e]; rfl) | skip
    all_goals trace_state
end
end
end Go.Proofs.Ytoomncljmgcidaa
/-
  DERIVED. From what a row says of its arguments to values that stand for lists, and from a contract to what a row says behind the call.
-/
namespace Go.Vc
open Go.RowKit Go.WideShapes Go.ChangeShapes Go.Deep
set_option linter.unusedVariables false

section
variable {H : Type} {enc : TypeId × Value → H} {P : Program} {w : World}

/-- a row of cells that is read -/
def Cells (w : World) (row : List SV) (cs : List Value) : Prop :=
  row.length = cs.length ∧ ∀ (k : Nat) (c : SV) (u : Value), row[k]? = some c → cs[k]? = some u → u.oneCell' = true ∧ Rp w (fun _ => False) c u

/-- what is read of type t stands for some a -/
def Dec (H : Type) (enc : TypeId × Value → H) (P : Program) (w : World) (t : TypeId) {α : Type} (e : α → List SV) (wf : α → Prop) : Prop :=
  ∀ (base : Nat) (sp : Nat → Bool) (held : Bool) (n : Nat) (cs : List Value) (y : DataW H × List MemPlace), DataW.trod enc P w base sp held n t cs = some y → ∃ a : α, wf a ∧ Cells w (e a) cs

theorem cells_one_v {v : Value} (h : v.oneCell' = true) : Cells w [.v v] [v] := ⟨rfl, fun k c u hc hu => by
  cases k with
  | zero => simp at hc hu; subst hc hu; exact ⟨h, .v _⟩
  | succ k => simp at hc⟩

theorem Dec.int {t : TypeId} {k : IntKind} (ht : P.underlying t = some (.int k)) : Dec H enc P w t (fun n : Int => [.v (.int k n)]) (fun n => k.min ≤ n ∧ n ≤ k.max) := by
  intro base sp held n cs y h
  obtain ⟨m, rfl, rfl, hw⟩ := DataW.trod_int ht h
  exact ⟨m, by simpa [Lit.wf] using hw, cells_one_v rfl⟩
theorem Dec.bool {t : TypeId} (ht : P.underlying t = some .bool) : Dec H enc P w t (fun b : Bool => [.v (.bool b)]) (fun _ => True) := by
  intro base sp held n cs y h
  obtain ⟨m, rfl, rfl⟩ := DataW.trod_bool ht h
  exact ⟨m, trivial, cells_one_v rfl⟩
theorem Dec.string {t : TypeId} (ht : P.underlying t = some .string) : Dec H enc P w t (fun s : ByteArray => [.v (.string s)]) (fun s => s.size ≤ maxLen) := by
  intro base sp held n cs y h
  obtain ⟨m, rfl, rfl, hw⟩ := DataW.trod_string ht h
  exact ⟨m, hw, cells_one_v rfl⟩

theorem choose_list {α : Type} {p : Nat → α → Prop} : ∀ n : Nat, (∀ i, i < n → ∃ a, p i a) → ∃ L : List α, L.length = n ∧ ∀ i a, L[i]? = some a → p i a
  | 0, _ => ⟨[], rfl, by simp⟩
  | n + 1, h => by
    obtain ⟨L, hl, hp⟩ := choose_list n (fun i hi => h i (by omega))
    obtain ⟨a, ha⟩ := h n (by omega)
    refine ⟨L ++ [a], by simp [hl], fun i b hi => ?_⟩
    rw [List.getElem?_append] at hi
    split at hi
    · exact hp i b hi
    · rename_i hge
      have : i = n := by
        have := (List.getElem?_eq_some_iff.1 hi).1
        simp at this; omega
      subst this
      rw [hl] at hi
      simp at hi
      subst hi
      exact ha

theorem spot_none {a : Addr} {u : Value} (h : w.cell? a = some u) : a.spot = none ∧ a.block < w.heap.size := by
  unfold World.cell? at h
  split at h
  · rename_i c _ _ hh
    refine ⟨?_, lt_of_heap hh⟩
    split at h
    · cases h
    · rename_i hs; simpa using hs
  · cases h
theorem addr_add {a : Addr} (h : a.spot = none) (n : Nat) : a.add n = ⟨a.block, a.off + n, none⟩ := by
  obtain ⟨b, o, s⟩ := a
  simp only at h
  subst h
  unfold Addr.add
  split
  · rename_i hn; subst hn; rfl
  · rfl

theorem Dec.slice {t e : TypeId} {s : Nat} {α : Type} {en : α → List SV} {wf : α → Prop} (ht : P.underlying t = some (.slice e)) (hs : P.cellsOf e = s) (hs0 : 0 < s) (hd : Dec H enc P w e en wf) (hen : ∀ a, (en a).length = s) :
    Dec H enc P w t (fun L : List α => [.sl s (L.map en)]) (fun L => L.length ≤ maxLen ∧ ∀ a ∈ L, wf a) := by
  intro base sp held n cs y h
  rcases open_slice ht h with ⟨rfl, _⟩ | ⟨a, len, cap, m, n', D, Pl, rfl, _, hlc, hcm, hm, _, hcell⟩
  · exact ⟨[], by simp, rfl, fun k c u hc hu => by
      cases k with
      | zero => simp at hc hu; subst hc hu; exact ⟨rfl, .nil s _ _⟩
      | succ k => simp at hc⟩
  have hlm : len ≤ m := by rw [hm]; split <;> omega
  have key : ∀ i, i < len → ∃ x : α, wf x ∧ ∃ cs', w.cells? base (a.add (i * s)) s = some cs' ∧ Cells w (en x) cs' := fun i hi => by
    obtain ⟨cs', h1, h2⟩ := hcell i (by omega)
    rw [hs] at h1
    obtain ⟨x, hx, hc⟩ := hd _ _ _ _ _ _ h2
    exact ⟨x, hx, cs', h1, hc⟩
  obtain ⟨L, hl, hL⟩ := choose_list len key
  refine ⟨L, ⟨by unfold maxLen at hcm ⊢; omega, fun x hx => ?_⟩, rfl, fun k c u hc hu => ?_⟩
  · obtain ⟨i, hi⟩ := List.mem_iff_getElem?.1 hx
    exact (hL i x hi).1
  cases k with
  | succ k => simp at hc
  | zero =>
    simp at hc hu
    subst hc hu
    refine ⟨rfl, ?_⟩
    rcases Nat.eq_zero_or_pos len with h0 | h0
    · have : L = [] := List.eq_nil_of_length_eq_zero (by omega)
      subst this
      subst h0
      exact .nil s _ _
    · have hspot : a.spot = none ∧ a.block < w.heap.size := by
        have hx : L[0]? = some (L[0]'(by omega)) := List.getElem?_eq_getElem (by omega)
        obtain ⟨_, cs', h1, _⟩ := hL 0 _ hx
        obtain ⟨_, hcl, hat⟩ := World.cells?_some h1
        have := hat 0 hs0
        have hv : cs'[0]? = some (cs'[0]'(by omega)) := List.getElem?_eq_getElem (by omega)
        rw [hv] at this
        simpa [Addr.add] using spot_none this
      have hav : a = ⟨a.block, a.off, none⟩ := by
        obtain ⟨b, o, sp⟩ := a
        simp only at hspot
        rw [hspot.1]
      have cell : ∀ (i k : Nat) (row : List SV) (c : SV), (L.map en)[i]? = some row → row[k]? = some c → ∃ u, w.cell? ⟨a.block, a.off + (i * s + k), none⟩ = some u ∧ u.oneCell' = true ∧ Rp w (fun _ => False) c u := fun i k row c hr hc => by
        rw [List.getElem?_map] at hr
        cases hx : L[i]? with
        | none => rw [hx] at hr; cases hr
        | some x =>
          rw [hx] at hr
          simp only [Option.map_some, Option.some.injEq] at hr
          subst hr
          obtain ⟨_, cs', h1, h2, h3⟩ := hL i x hx
          obtain ⟨_, hcl, hat⟩ := World.cells?_some h1
          have hk : k < s := by rw [← hen x]; exact (List.getElem?_eq_some_iff.1 hc).1
          have hv : cs'[k]? = some (cs'[k]'(by omega)) := List.getElem?_eq_getElem (by omega)
          have := hat k hk
          rw [hv, addr_add hspot.1, addr_add (by rfl)] at this
          simp only at this
          rw [Nat.add_assoc] at this
          obtain ⟨h4, h5⟩ := h3 k c _ hc hv
          exact ⟨_, this, h4, h5⟩
      have hll : (L.map en).length = len := by simp [hl]
      have := Rp.sl (w := w) (X := fun _ => False) (s := s) (rows := L.map en) a.block a.off cap (fun i k => (w.cell? ⟨a.block, a.off + (i * s + k), none⟩).getD undef) (fun h => h) hspot.2 (by omega) (fun i row hr => by
          rw [List.getElem?_map] at hr
          cases hx : L[i]? with
          | none => rw [hx] at hr; cases hr
          | some x => rw [hx] at hr; simp only [Option.map_some, Option.some.injEq] at hr; subst hr; exact hen x) (fun i k row c hr hc => by
          obtain ⟨u, h1, _⟩ := cell i k row c hr hc; rw [h1]; rfl) (fun i k row c hr hc => by
          obtain ⟨u, h1, h2, _⟩ := cell i k row c hr hc; rw [h1]; exact h2) (fun i k row c hr hc => by
          obtain ⟨u, h1, _, h2⟩ := cell i k row c hr hc; rw [h1]; exact h2)
      rw [← hav, hll] at this
      exact this

/-- a struct's fields, each one cell -/
theorem trod_fields {t : TypeId} {fs : Array Field} {base n : Nat} {sp : Nat → Bool} {held : Bool} {cs : List Value} {y : DataW H × List MemPlace} (ht : P.underlying t = some (.struct fs)) (hone : oneCellFields P fs = true) (hC : P.cellsOf t = fs.size)
    (h : DataW.trod enc P w base sp held n t cs = some y) : cs.length = fs.size ∧ ∀ (j : Nat) (f : Field), fs[j]? = some f → ∃ (v : Value) (n' : Nat) (z : DataW H × List MemPlace), cs[j]? = some v ∧ DataW.trod enc P w base sp held n' f.type [v] = some z := by
  obtain ⟨ys, n', _, _, hlen, hyl, hf⟩ := DataW.trod_struct ht h
  refine ⟨hlen.trans hC, fun j f hj => ?_⟩
  obtain ⟨ho, hk⟩ := hone_of hone j f hj
  have hjl : j < fs.size := (Array.getElem?_eq_some_iff.1 hj).1
  have hv : cs[j]? = some (cs[j]'(by omega)) := List.getElem?_eq_getElem (by omega)
  have h1 := hf j f hj
  rw [ho, hk] at h1
  have hone' : (cs.drop j).take 1 = [cs[j]'(by omega)] := by
    rw [List.drop_eq_getElem_cons (by omega)]
    rfl
  rw [hone'] at h1
  have hys : ys[j]? = some (ys[j]'(by omega)) := List.getElem?_eq_getElem (by omega)
  exact ⟨_, n', _, hv, h1.trans hys⟩
theorem cells_vs {row : List SV} {cs : List Value} (h : row = cs.map .v) (h1 : ∀ u ∈ cs, u.oneCell' = true) : Cells w row cs := by
  subst h
  refine ⟨by simp, fun k c u hc hu => ?_⟩
  rw [List.getElem?_map, hu] at hc
  simp only [Option.map_some, Option.some.injEq] at hc
  subst hc
  exact ⟨h1 u (List.mem_of_getElem? hu), .v _⟩
theorem list_of_get {cs vs : List Value} (hl : cs.length = vs.length) (h : ∀ (j : Nat) (v : Value), vs[j]? = some v → cs[j]? = some v) : cs = vs := by
  apply List.ext_getElem?
  intro j
  cases hv : vs[j]? with
  | some v => exact h j v hv
  | none =>
    rw [List.getElem?_eq_none_iff] at hv ⊢
    omega

/-- an argument that is one cell -/
theorem Dec.arg {t : TypeId} {α : Type} {sv : α → SV} {wf : α → Prop} (hd : Dec H enc P w t (fun a => [sv a]) wf) {v : Value} (hv : v.oneCell' = true) {base : Nat} {sp : Nat → Bool} {held : Bool} {d : DataW H} {p : List MemPlace} (h : DataW.Trod enc P w base sp held t v d p) :
    ∃ a, wf a ∧ R w (fun _ => False) (fun _ => nilB) (sv a) v := by
  obtain ⟨n, hn⟩ := h
  obtain ⟨a, ha, hl, hc⟩ := hd _ _ _ _ _ _ hn
  rw [cells_one hv] at hl hc
  exact ⟨a, ha, .p (hc 0 _ _ rfl rfl).2⟩
/-- .. that is a struct -/
theorem Dec.argS {t : TypeId} {α : Type} {e : α → List SV} {wf : α → Prop} (hd : Dec H enc P w t e wf) {us : Array Value} {base : Nat} {sp : Nat → Bool} {held : Bool} {d : DataW H} {p : List MemPlace} (h : DataW.Trod enc P w base sp held t (.agg us) d p) :
    ∃ a, wf a ∧ R w (fun _ => False) (fun _ => nilB) (.agg (e a)) (.agg us) := by
  obtain ⟨n, hn⟩ := h
  obtain ⟨a, ha, hl, hc⟩ := hd _ _ _ _ _ _ hn
  have e1 : us = us.toList.toArray := by simp
  refine ⟨a, ha, ?_⟩
  rw [e1]
  exact .p (.agg hl fun k c u h1 h2 => (hc k c u h1 h2).2)

theorem okWide_slice1 {base : Nat} {r : Reach} {t e : TypeId} {v : Value} (ht : P.underlying t = some (.slice e)) (h : Value.okWide P w r base t v) : v.oneCell' = true := by
  obtain ⟨a, l, c, rfl⟩ := okWide_slice ht h; rfl
theorem okWide_int1 {base : Nat} {r : Reach} {t : TypeId} {k : IntKind} {v : Value} (ht : P.underlying t = some (.int k)) (h : Value.okWide P w r base t v) : v.oneCell' = true := by
  obtain ⟨a, rfl⟩ := okWide_int ht h; rfl
theorem okWide_string1 {base : Nat} {r : Reach} {t : TypeId} {v : Value} (ht : P.underlying t = some .string) (h : Value.okWide P w r base t v) : v.oneCell' = true := by
  obtain ⟨a, rfl⟩ := okWide_string ht h; rfl
theorem okWide_bool1 {base : Nat} {r : Reach} {t : TypeId} {v : Value} (ht : P.underlying t = some .bool) (h : Value.okWide P w r base t v) : v.oneCell' = true := by
  obtain ⟨a, rfl⟩ := okWide_bool ht h; rfl

/-- what a contract gives of a call with a scalar result -/
theorem Holds.calls {f : FuncId} {args : List SV} {x : Value} (h : Holds P f args (.v x) []) (hG : Grd P w) {vs : List Value} (hl : vs.length = args.length) (ha : ∀ (i : Nat) (c : SV) (u : Value), args[i]? = some c → vs[i]? = some u → R w (fun _ => False) (fun _ => nilB) c u) :
    Calls P f vs.toArray w fun e w' => e = .returned x ∧ Below w.heap.size w w' :=
  (h w (fun _ => False) vs hG (fun _ hf => hf.elim) hl ha).mono fun e w' hp => by
    obtain ⟨v, β, rfl, hb, _, hR, _⟩ := hp
    have := hR.v_inv
    subst this
    exact ⟨rfl, hb⟩
end

section
variable {H : Type} {enc : TypeId × Value → H} {P : Program}
theorem post_of_below {f : Func} {s : ChangeSpec} {apart fresh handsOn again : Bool} {W W' : World} {args : Array Value} {v : Value} {ds gs : List (DataW H)} {before pa pv : List MemPlace}
    (hW : DataW.Whole enc P f.params.toList s.vars apart W args.toList ds gs before)
    (hres : ∀ (b : Nat) (sp : Nat → Bool) (hd : Bool), DataW.TrodAll enc P W' b sp hd f.resultTypes.toList (v.resultList f.resultTypes.size) (s.fn H (ds ++ gs)).results [])
    (hargs : ∀ sp : Nat → Bool, (∀ p ∈ before, sp p.block = true) → DataW.TrodAll enc P W' 0 sp true f.params.toList args.toList (s.fn H (ds ++ gs)).args pa)
    (hvars : ∀ sp : Nat → Bool, (∀ p ∈ before, sp p.block = true) → DataW.TrodVars enc P W' sp s.vars (s.fn H (ds ++ gs)).vars pv)
    (hps : before = pa ++ pv) (hb : Below W.heap.size W W')
    (hok : ∀ (j : Nat) (t : TypeId) (r : Value), f.resultTypes[j]? = some t → (v.resultList f.resultTypes.size)[j]? = some r → Value.okWide P W' .any 0 t r) :
    s.post enc P f apart fresh handsOn again W args v W' := by
  have hlt : ∀ p ∈ before, p.block < W.heap.size := fun p hp => hW.lt p hp
  have hold : ∀ p ∈ before, (fun b => decide (b < W.heap.size)) p.block = true := fun p hp => by simpa using hlt p hp
  refine ⟨ds, gs, before, [], pa, pv, hW, hres _ _ _, hargs _ hold, hvars _ hold, World.keptBut_mono (fun p hp => ⟨hp, ?_⟩) (hb.frame (· ∈ before)), fun _ => ?_⟩
  · rw [hps, List.mem_append] at hp
    exact Or.inr hp
  · obtain ⟨_, _, _, _, _, hz, hn⟩ := hW
    refine ⟨hok, _, _, ([] ++ pa) ++ pv, ⟨[] ++ pa, pv, trodAll_append (hargs _ (fun _ _ => rfl)) (hres _ _ _), hvars _ (fun _ _ => rfl), rfl, ?_, ?_⟩, ?_⟩
    · intro b off hp
      have hin : MemPlace.cell b off ∈ before := by rw [hps]; simpa using hp
      rw [hb.frozen (hlt _ hin)]
      exact hz b off hin
    · intro ha
      have := hn ha
      rw [hps] at this
      simpa using this
    · intro p hp _
      rw [hps]
      simpa using hp

/-- the arguments read behind the call as they did before -/
theorem below_args {W W' : World} (hl : laidOutB P = true) (hb : Below W.heap.size W W') (sp : Nat → Bool) : ∀ {ts : List TypeId} {vs : List Value} {ds : List (DataW H)} {ps : List MemPlace}, (ts.all fun t => P.readableRec t && decide (t < P.types.size)) = true →
    DataW.TrodAll enc P W 0 (fun _ => true) true ts vs ds ps → (∀ x ∈ ps, x.block < W.heap.size) → (∀ p ∈ ps, sp p.block = true) → DataW.TrodAll enc P W' 0 sp true ts vs ds ps
  | [], [], [], _, _, h, _, _ => h
  | [], [], _ :: _, _, _, h, _, _ => h.elim
  | [], _ :: _, _, _, _, h, _, _ => h.elim
  | _ :: _, [], _, _, _, h, _, _ => h.elim
  | _ :: _, _ :: _, [], _, _, h, _, _ => h.elim
  | t :: ts, v :: vs, d :: ds, ps, hr, h, hlt, hsp => by
    obtain ⟨p, q, h1, h2, rfl⟩ := h
    simp only [List.all_cons, Bool.and_eq_true, decide_eq_true_eq] at hr
    refine ⟨p, q, ?_, below_args hl hb sp hr.2 h2 (fun x hx => hlt x (by simp [hx])) (fun x hx => hsp x (by simp [hx])), rfl⟩
    exact WideElems.Trod_stays hl hr.1.1 hr.1.2 h1 (fun x hx => hb.same (hlt x (by simp [hx]))) (fun x hx => hsp x (by simp [hx]))

/-- **From a call that answers a bool and leaves what was there as it was, to what the row says.** -/
theorem law_post {tb : TypeId} {f : Func} {s : ChangeSpec} {apart fresh handsOn again : Bool} {W W' : World} {args : Array Value} {b : Bool} {ds gs : List (DataW H)} {before : List MemPlace} (hl : laidOutB P = true)
    (hW : DataW.Whole enc P f.params.toList s.vars apart W args.toList ds gs before) (hvs : s.vars = []) (hrt : f.resultTypes = #[tb]) (htb : P.underlying tb = some .bool) (hread : (f.params.toList.all fun t => P.readableRec t && decide (t < P.types.size)) = true)
    (hres : (s.fn H (ds ++ gs)).results = [.lit (.bool b)]) (hargs : (s.fn H (ds ++ gs)).args = ds) (hvars : (s.fn H (ds ++ gs)).vars = []) (hb : Below W.heap.size W W') :
    s.post enc P f apart fresh handsOn again W args (.bool b) W' := by
  have hW' := hW
  obtain ⟨p, q, hA, hV, rfl, hfz, hnd⟩ := hW
  rw [hvs] at hV
  obtain ⟨rfl, rfl⟩ := trodVars_none hV
  have hlt : ∀ x ∈ p, x.block < W.heap.size := fun x hx => hW'.lt x (by simp [hx])
  refine post_of_below (pa := p) (pv := []) hW' (fun bb sp hd => ?_) (fun sp hsp => ?_) (fun sp hsp => ?_) rfl hb (fun j t r h1 h2 => ?_)
  · rw [hres, hrt]
    exact trodAll_cons_mk (shut_bool htb _) trodAll_mk0
  · rw [hargs]
    exact below_args hl hb sp hread hA hlt (fun x hx => hsp x (by simp [hx]))
  · rw [hvars, hvs]; rfl
  · exact ok_one hrt rfl (okWide_bool_mk htb _) j t r h1 h2
end
end Go.Vc

namespace Go.Proofs.Ytoomncljmgcidaa
open Go.Vc
attribute [local go_sem] St.runR St.runW St.stepV offV St.step St.stepU St.stepG mkCond guardB St.prK St.pr St.prLen St.eff St.callE St.callD St.callF St.callL aI aB aS aR aC St.isM St.argL Ctr.pure Ctr.lend Ctr.move Ctr.isL Ctr.wri pur len lentBy St.lentV St.lent1 nthS argsR restOf obsR pairs swapL unObs backL St.resL erL SV.ren1 SV.up SV.up2 Ob.up St.fzL cellIds partIds St.intoRow SV.ownId St.fz SV.fz1 St.prep St.mvL St.mv SV.re1 rnOk St.prEq vals eqCells scEq Value.kd St.prStr St.prCut cutR St.bnd St.prMin St.bld isShift outL retL outJ oR oC oE oD SV.upq SV.isSl SV.shut St.deepK St.dpArg St.deepQ absC Ob.pl St.ev St.get St.put St.new St.kill SV.kill SV.kill1 Ob.kill St.app St.wrt St.rowsOf St.res St.killL lk er argsL SV.strip SV.need SV.share SV.share1 SV.owns SV.owns1 SV.owns2 SV.good SV.good1 SV.rok SV.rok1 SV.rok2 SV.isV SV.isV2 nodupN SV.cells SV.one SV.pur Ob.pb partsIn rowsIn splice cellsAt dstOk scal2 scal1 thenK blockK retK outK outs okC okL okA okT nilC nilL nilA nilT keepC keepL keepA keepT St.runG St.dltK St.least St.clean St.final St.hide offK badS badO SV.refs SV.leaf SV.leaf2 Ob.refs dlOk fpAt Go.Vc.cover tups SV.ofAgg St.out outC subL St.has rng wr Value.oneCell' Option.isSome_some Option.isSome_none List.nil_append Bool.false_eq_true List.map_cons List.map_nil List.all_cons List.all_nil List.length_cons List.length_nil List.drop_zero List.drop_succ_cons List.take_succ_cons List.take_zero List.drop_nil List.take_nil List.getElem?_cons_zero List.getElem?_cons_succ List.getElem?_nil List.cons_append List.nil_append List.append_nil List.append_assoc List.flatMap_cons List.flatMap_nil List.contains_cons List.contains_nil List.set_cons_zero List.set_cons_succ List.getElem?_toArray Option.getD_some Option.getD_none Option.map_some Option.map_none Option.bind_some Option.some.injEq Prod.mk.injEq if_true if_false true_and and_true and_self and_false false_and Bool.and_false Bool.false_and Bool.or_true Bool.true_or Bool.or_false Bool.false_or ne_eq not_true_eq_false not_false_eq_true decide_true decide_false List.mem_cons List.not_mem_nil List.filter_cons List.filter_nil List.any_cons List.any_nil List.isEmpty_nil List.isEmpty_cons Option.getD_none or_false false_or true_or or_true forall_eq_or_imp forall_eq reduceCtorEq exists_eq exists_eq' exists_eq_left' exists_eq_left exists_eq_right exists_eq_right' imp_self implies_true Bool.and_true Bool.true_and Bool.and_self beq_self_eq_true List.replicate_succ List.replicate_zero forall_const false_implies pickB_or pickB_and beqT beqF Int.toNat_natCast List.length_map List.length_replicate ge_iff_le gt_iff_lt decide_eq_true_eq decide_eq_false_iff_not Bool.and_eq_true Bool.or_eq_true Bool.not_eq_true' Bool.not_eq_false' condG List.toList_toArray Bool.or_eq_false_iff Bool.and_eq_false_iff Int.not_lt Int.not_le beq_iff_eq beq_eq_false_iff_ne bne_iff_ne bne_eq_false_iff_eq ne_eq Bool.not_true Bool.not_false exists_and_left
section
open Go.Vc
set_option linter.unusedSimpArgs false
set_option linter.unusedVariables false
set_option maxHeartbeats 1000000
attribute [local irreducible] Go.Vc.WP
attribute [local go_sem] cx0_t cx0_c

structure Symbol where
  name : ByteArray
  start : Int
  size : Int
deriving DecidableEq
def encSymbol (x : Symbol) : List SV := [.v (.string x.name), .v (.int .i64 x.start), .v (.int .i64 x.size)]
def oneSymbol : List SV → Symbol
  | [.v (.string name), .v (.int _ start), .v (.int _ size)] => ⟨name, start, size⟩
  | _ => ⟨⟨#[]⟩, 0, 0⟩
def decSymbol (rows : List (List SV)) : List Symbol := rows.map oneSymbol
theorem oneSymbol_enc (x : Symbol) : oneSymbol (encSymbol x) = x := rfl
theorem decSymbol_enc (L : List Symbol) : decSymbol (L.map encSymbol) = L := by
  unfold decSymbol
  rw [List.map_map]
  exact List.map_id'' oneSymbol_enc L
theorem isV_Symbol {e s : Nat} (L : List Symbol) : (Ob.sl e s (L.map encSymbol)).isV ↔ True := iff_true_intro (by
  intro row hr c hc
  obtain ⟨n, _, rfl⟩ := List.mem_map.1 hr
  simp only [encSymbol, List.mem_cons, List.not_mem_nil, or_false] at hc
  rcases hc with rfl | rfl | rfl <;> exact ⟨_, rfl⟩)
def zerSymbol : List SV := [.v (.string ⟨#[]⟩), .v (.int .i64 0), .v (.int .i64 0)]

def ktoSymbol : Ctr := pur (fun args => oneSymbol (aC args 0)) (fun x => [.agg (encSymbol x)]) (fun _ => True) (fun _ x => .agg (encSymbol x)) (fun _ _ => [])
theorem ctoSymbol : Cn Try.prog 86 ktoSymbol := by
  refine Cn.pur Try.func86 (by kernel_rfl) rfl fun d x _ => ?_
  refine Holds.go (c := cx0) Try.func86 rfl Try.results86 Try.ntmps86 (by omega) (by simp) rfl ?_
  intro X0 w0
  unfold encSymbol
  (repeat' (first | refine WP.seq ?_ | refine WP.block ?_ | ((first | refine WP.region ?_ | refine WP.condW ?_ | refine WP.ret ?_ | refine WP.exit ?_ | refine WP.skip ?_); simp only [go_sem, tyAll, Nat.reduceAdd, Nat.reduceLT, Nat.reduceLeDiff, Nat.reduceEqDiff, Nat.reduceMul, Nat.reduceSub, Nat.reduceGT, reduceIte, Int.reduceNeg, Int.reduceToNat]) |  refine And.intro ?_ ?_ | intro _))
  all_goals first | omega | exact ⟨_, _, rfl, _, _, rfl, rfl⟩ | skip

noncomputable def cxtoSymbol : Cx := { P := Try.prog, tys := tys, C := [(86, ktoSymbol)], hty := tysOk, hC := COk.cons ctoSymbol (COk.nil _) }
theorem cxtoSymbol_t : cxtoSymbol.tys = tys := rfl
theorem cxtoSymbol_c : cxtoSymbol.C = [(86, ktoSymbol)] := rfl
def ktoSymbolS : Ctr := pur (fun args => decSymbol (aR args 0)) (fun L => [.sl 3 (L.map encSymbol)]) (fun L => L.length ≤ 2097152) (fun d _ => .own d) (fun d L => [(d, .sl 108 3 (L.map encSymbol))])
section
attribute [local go_sem] cxtoSymbol_t cxtoSymbol_c ktoSymbol oneSymbol
theorem ctoSymbolS : Cn Try.prog 78 ktoSymbolS := by
  refine Cn.pur Try.func78 (by kernel_rfl) rfl fun d L hL => ?_
  refine Holds.go (c := cxtoSymbol) Try.func78 rfl Try.results78 Try.ntmps78 (by omega) (by simp) rfl ?_
  intro X0 w0
  (repeat' (first | refine WP.seq ?_ | refine WP.block ?_ | ((first | refine WP.region ?_ | refine WP.condW ?_ | refine WP.ret ?_ | refine WP.exit ?_ | refine WP.skip ?_); simp only [go_sem, tyAll, Nat.reduceAdd, Nat.reduceLT, Nat.reduceLeDiff, Nat.reduceEqDiff, Nat.reduceMul, Nat.reduceSub, Nat.reduceGT, reduceIte, Int.reduceNeg, Int.reduceToNat]) |  refine And.intro ?_ ?_ | intro _))
  all_goals first | omega | skip
  refine WP.loop (fun k : Nat => ⟨[(0, .sl 3 (L.map encSymbol)), (3, .own 7), (4, .v (.int .i64 k))], [(7, .sl 108 3 (filled encSymbol zerSymbol L k))]⟩) (fun k => k ≤ L.length) (fun k => L.length - k) 0 (by omega) ?_ ?_
  · rw [filled_zero]; simp only [go_sem, tyAll, Nat.reduceAdd, Nat.reduceLT, Nat.reduceLeDiff, Nat.reduceEqDiff, Nat.reduceMul, Nat.reduceSub, Nat.reduceGT, reduceIte, Int.reduceNeg, Int.reduceToNat]; first | exact ⟨rfl, rfl⟩ | rfl
  intro k hk
  by_cases hlt : k < L.length
  · have h1 := rowAt_map encSymbol L k hlt
    have h2 := filled_len encSymbol zerSymbol L k hk
    have h3 : Go.Vc.rowAt (filled encSymbol zerSymbol L k) k = [.v (.string ⟨#[]⟩), .v (.int .i64 0), .v (.int .i64 0)] := filled_row encSymbol zerSymbol L k hlt
    have h4 := filled_set encSymbol zerSymbol L k hlt
    rw [encSymbol] at h4
    (repeat' (first | refine WP.seq ?_ | refine WP.block ?_ | ((first | refine WP.region ?_ | refine WP.condW ?_ | refine WP.ret ?_ | refine WP.exit ?_ | refine WP.skip ?_); simp only [go_sem, h1, h2, h3, h4, encSymbol, tyAll, Nat.reduceAdd, Nat.reduceLT, Nat.reduceLeDiff, Nat.reduceEqDiff, Nat.reduceMul, Nat.reduceSub, Nat.reduceGT, reduceIte, Int.reduceNeg, Int.reduceToNat]) |  refine And.intro ?_ ?_ | intro _))
    all_goals first | omega | skip
    exact ⟨k + 1, by omega, by omega, rfl, rfl⟩
  · have h2 := filled_len encSymbol zerSymbol L k hk
    have h5 : filled encSymbol zerSymbol L k = L.map encSymbol := by rw [show k = L.length by omega]; exact filled_all _ _ _
    (repeat' (first | refine WP.seq ?_ | refine WP.block ?_ | ((first | refine WP.region ?_ | refine WP.condW ?_ | refine WP.ret ?_ | refine WP.exit ?_ | refine WP.skip ?_); simp only [go_sem, h2, h5, tyAll, Nat.reduceAdd, Nat.reduceLT, Nat.reduceLeDiff, Nat.reduceEqDiff, Nat.reduceMul, Nat.reduceSub, Nat.reduceGT, reduceIte, Int.reduceNeg, Int.reduceToNat]) |  refine And.intro ?_ ?_ | intro _))
    all_goals first | omega | skip
end

def keqSymbol : Ctr := pur (fun args => (oneSymbol (aC args 0), oneSymbol (aC args 1))) (fun x => [.agg (encSymbol x.1), .agg (encSymbol x.2)]) (fun _ => True) (fun _ x => .v (.bool (decide (x.1 = x.2)))) (fun _ _ => [])
theorem ceqSymbol : Cn Try.prog 89 keqSymbol := by
  refine Cn.pur Try.func89 (by kernel_rfl) rfl fun d x _ => ?_
  obtain ⟨⟨a0, a1, a2⟩, ⟨b0, b1, b2⟩⟩ := x
  refine Holds.go (c := cx0) Try.func89 rfl Try.results89 Try.ntmps89 (by omega) (by simp) rfl ?_
  intro X0 w0
  simp only [encSymbol]
  (repeat' (first | refine WP.seq ?_ | refine WP.block ?_ | ((first | refine WP.region ?_ | refine WP.condW ?_ | refine WP.ret ?_ | refine WP.exit ?_ | refine WP.skip ?_); simp only [go_sem, tyAll, Nat.reduceAdd, Nat.reduceLT, Nat.reduceLeDiff, Nat.reduceEqDiff, Nat.reduceMul, Nat.reduceSub, Nat.reduceGT, reduceIte, Int.reduceNeg, Int.reduceToNat]) |  refine And.intro ?_ ?_ | intro _))
  all_goals simp_all

noncomputable def cxeqSymbol : Cx := { P := Try.prog, tys := tys, C := [(89, keqSymbol)], hty := tysOk, hC := COk.cons ceqSymbol (COk.nil _) }
theorem cxeqSymbol_t : cxeqSymbol.tys = tys := rfl
theorem cxeqSymbol_c : cxeqSymbol.C = [(89, keqSymbol)] := rfl
def keqSymbolS : Ctr := pur (fun args => (decSymbol (aR args 0), decSymbol (aR args 1))) (fun x => [.sl 3 (x.1.map encSymbol), .sl 3 (x.2.map encSymbol)]) (fun x => x.1.length ≤ 4398046511104) (fun _ x => .v (.bool (decide (x.1 = x.2)))) (fun _ _ => [])
section
attribute [local go_sem] cxeqSymbol_t cxeqSymbol_c keqSymbol oneSymbol
theorem ceqSymbolS : Cn Try.prog 81 keqSymbolS := by
  refine Cn.pur Try.func81 (by kernel_rfl) rfl fun d x hL => ?_
  obtain ⟨L, M⟩ := x
  simp only at hL ⊢
  refine Holds.go (c := cxeqSymbol) Try.func81 rfl Try.results81 Try.ntmps81 (by omega) (by simp) rfl ?_
  intro X0 w0
  (repeat' (first | refine WP.seq ?_ | refine WP.block ?_ | ((first | refine WP.region ?_ | refine WP.condW ?_ | refine WP.ret ?_ | refine WP.exit ?_ | refine WP.skip ?_); simp only [go_sem, tyAll, Nat.reduceAdd, Nat.reduceLT, Nat.reduceLeDiff, Nat.reduceEqDiff, Nat.reduceMul, Nat.reduceSub, Nat.reduceGT, reduceIte, Int.reduceNeg, Int.reduceToNat]) |  refine And.intro ?_ ?_ | intro _))
  · simp; intro h; subst h; simp_all
  have hlen : L.length = M.length := by omega
  refine WP.loop (fun k : Nat => ⟨[(0, .sl 3 (L.map encSymbol)), (1, .sl 3 (M.map encSymbol)), (5, .v (.int .i64 k))], []⟩) (fun k => k ≤ L.length ∧ L.take k = M.take k) (fun k => L.length - k) 0 (by simp) ?_ ?_
  · simp only [go_sem, tyAll, Nat.reduceAdd, Nat.reduceLT, Nat.reduceLeDiff, Nat.reduceEqDiff, Nat.reduceMul, Nat.reduceSub, Nat.reduceGT, reduceIte, Int.reduceNeg, Int.reduceToNat]; rfl
  intro k ⟨hk, ht⟩
  by_cases hlt : k < L.length
  · have h1 := rowAt_map encSymbol L k hlt
    have h2 := rowAt_map encSymbol M k (by omega)
    (repeat' (first | refine WP.seq ?_ | refine WP.block ?_ | ((first | refine WP.region ?_ | refine WP.condW ?_ | refine WP.ret ?_ | refine WP.exit ?_ | refine WP.skip ?_); simp only [go_sem, h1, h2, encSymbol, tyAll, Nat.reduceAdd, Nat.reduceLT, Nat.reduceLeDiff, Nat.reduceEqDiff, Nat.reduceMul, Nat.reduceSub, Nat.reduceGT, reduceIte, Int.reduceNeg, Int.reduceToNat]) | (refine WP.drawW 10 (by kernel_rfl) (by kernel_rfl) ?_; simp only [go_sem, h1, h2, encSymbol, tyAll, Nat.reduceAdd, Nat.reduceLT, Nat.reduceLeDiff, Nat.reduceEqDiff, Nat.reduceMul, Nat.reduceSub, Nat.reduceGT, reduceIte, Int.reduceNeg, Int.reduceToNat]) |  refine And.intro ?_ ?_ | intro _))
    all_goals first | omega | skip
    · rename_i hne
      rw [show decide (L = M) = false from decide_eq_false fun e => by subst e; exact hne rfl]
    · rename_i he
      refine ⟨k + 1, ⟨by omega, ?_⟩, by omega, rfl⟩
      have he' : L[k] = M[k] := he
      rw [List.take_succ_eq_append_getElem hlt, List.take_succ_eq_append_getElem (by omega : k < M.length), ht, he']
  · (repeat' (first | refine WP.seq ?_ | refine WP.block ?_ | ((first | refine WP.region ?_ | refine WP.condW ?_ | refine WP.ret ?_ | refine WP.exit ?_ | refine WP.skip ?_); simp only [go_sem, tyAll, Nat.reduceAdd, Nat.reduceLT, Nat.reduceLeDiff, Nat.reduceEqDiff, Nat.reduceMul, Nat.reduceSub, Nat.reduceGT, reduceIte, Int.reduceNeg, Int.reduceToNat]) |  refine And.intro ?_ ?_ | intro _))
    all_goals first | omega | skip
    rw [show decide (L = M) = true from decide_eq_true ?_]
    rw [show k = L.length by omega, List.take_length, hlen, List.take_length] at ht
    exact ht
end

def kszSymbol : Ctr := pur (fun args => (oneSymbol (aC args 0), aI args 1)) (fun x => [.agg (encSymbol x.1), .v (.int .i64 x.2)]) (fun x => x.1.name.size ≤ maxLen ∧ 0 ≤ x.2 ∧ x.2 ≤ 1048576)
  (fun _ x => .v (.int .i64 (if x.2 - x.1.name.size < 0 then -1 else x.2 - x.1.name.size))) (fun _ _ => [])
theorem cszSymbol : Cn Try.prog 83 kszSymbol := by
  refine Cn.pur Try.func83 (by kernel_rfl) rfl fun d x h => ?_
  obtain ⟨x, left⟩ := x
  obtain ⟨hL, h0, h1⟩ := h
  simp only at hL h0 h1 ⊢
  have hm : maxLen = 9223372036854775807 := rfl
  refine Holds.go (c := cx0) Try.func83 rfl Try.results83 Try.ntmps83 (by omega) (by simp) rfl ?_
  intro X0 w0
  simp only [encSymbol]
  (repeat' (first | refine WP.seq ?_ | refine WP.block ?_ | ((first | refine WP.region ?_ | refine WP.condW ?_ | refine WP.ret ?_ | refine WP.exit ?_ | refine WP.skip ?_); simp only [go_sem, tyAll, Nat.reduceAdd, Nat.reduceLT, Nat.reduceLeDiff, Nat.reduceEqDiff, Nat.reduceMul, Nat.reduceSub, Nat.reduceGT, reduceIte, Int.reduceNeg, Int.reduceToNat]) |  refine And.intro ?_ ?_ | intro _))
  all_goals first | omega | skip
  · rename_i h; rw [if_pos h]
  · rename_i h; rw [if_neg (by omega)]

noncomputable def cxszSymbol : Cx := { P := Try.prog, tys := tys, C := [(83, kszSymbol)], hty := tysOk, hC := COk.cons cszSymbol (COk.nil _) }
theorem cxszSymbol_t : cxszSymbol.tys = tys := rfl
theorem cxszSymbol_c : cxszSymbol.C = [(83, kszSymbol)] := rfl
def sizesSymbol (L : List Symbol) : List Nat := L.map fun x => x.name.size
def szvSymbol (L : List Symbol) (left : Int) : Int := if left - L.length < 0 then -1 else szGo (sizesSymbol L) (left - L.length)
def kszSymbolS : Ctr := pur (fun args => (decSymbol (aR args 0), aI args 1)) (fun x => [.sl 3 (x.1.map encSymbol), .v (.int .i64 x.2)]) (fun x => x.1.length ≤ maxLen ∧ (∀ r ∈ x.1, r.name.size ≤ maxLen) ∧ 0 ≤ x.2 ∧ x.2 ≤ 1048576)
  (fun _ x => .v (.int .i64 (szvSymbol x.1 x.2))) (fun _ _ => [])
section
attribute [local go_sem] cxszSymbol_t cxszSymbol_c kszSymbol oneSymbol
theorem cszSymbolS : Cn Try.prog 74 kszSymbolS := by
  refine Cn.pur Try.func74 (by kernel_rfl) rfl fun d x h => ?_
  obtain ⟨L, left⟩ := x
  obtain ⟨hL, hs, h0, h1⟩ := h
  simp only at hL hs h0 h1 ⊢
  have hm : maxLen = 9223372036854775807 := rfl
  refine Holds.go (c := cxszSymbol) Try.func74 rfl Try.results74 Try.ntmps74 (by omega) (by simp) rfl ?_
  intro X0 w0
  (repeat' (first | refine WP.seq ?_ | refine WP.block ?_ | ((first | refine WP.region ?_ | refine WP.condW ?_ | refine WP.ret ?_ | refine WP.exit ?_ | refine WP.skip ?_); simp only [go_sem, tyAll, Nat.reduceAdd, Nat.reduceLT, Nat.reduceLeDiff, Nat.reduceEqDiff, Nat.reduceMul, Nat.reduceSub, Nat.reduceGT, reduceIte, Int.reduceNeg, Int.reduceToNat]) |  refine And.intro ?_ ?_ | intro _))
  all_goals first | omega | skip
  · rename_i h; rw [szvSymbol, if_pos h]
  rename_i hge
  refine WP.loop (fun s : Nat × Int => ⟨[(0, .sl 3 (L.map encSymbol)), (1, .v (.int .i64 s.2)), (5, .v (.int .i64 s.1))], []⟩)
    (fun s => s.1 ≤ L.length ∧ 0 ≤ s.2 ∧ s.2 ≤ 1048576 ∧ szvSymbol L left = szGo ((sizesSymbol L).drop s.1) s.2) (fun s => L.length - s.1) (0, left - L.length)
    ⟨by simp, by simpa using hge, by simp only; omega, by rw [szvSymbol, if_neg (by omega)]; rfl⟩ ?_ ?_
  · simp only [go_sem, tyAll, Nat.reduceAdd, Nat.reduceLT, Nat.reduceLeDiff, Nat.reduceEqDiff, Nat.reduceMul, Nat.reduceSub, Nat.reduceGT, reduceIte, Int.reduceNeg, Int.reduceToNat]; first | exact ⟨rfl, rfl⟩ | rfl
  rintro ⟨k, r⟩ ⟨hk, hr0, hr1, he⟩
  simp only at hk hr0 hr1 he ⊢
  by_cases hlt : k < L.length
  · have h2 := rowAt_map encSymbol L k hlt
    have h3 := hs _ (List.getElem_mem hlt)
    have h4 : szGo ((sizesSymbol L).drop k) r = if r - (L[k].name.size : Int) < 0 then -1 else szGo ((sizesSymbol L).drop (k + 1)) (r - (L[k].name.size : Int)) := by
      rw [szGo_drop (sizesSymbol L) k r (by simpa [sizesSymbol] using hlt)]
      simp only [sizesSymbol, List.getElem_map]
    (repeat' (first | refine WP.seq ?_ | refine WP.block ?_ | ((first | refine WP.region ?_ | refine WP.condW ?_ | refine WP.ret ?_ | refine WP.exit ?_ | refine WP.skip ?_); simp only [go_sem, h2, encSymbol, tyAll, Nat.reduceAdd, Nat.reduceLT, Nat.reduceLeDiff, Nat.reduceEqDiff, Nat.reduceMul, Nat.reduceSub, Nat.reduceGT, reduceIte, Int.reduceNeg, Int.reduceToNat]) |  refine And.intro ?_ ?_ | intro _))
    all_goals first | omega | skip
    · rename_i h
      have h5 : r - (L[k].name.size : Int) < 0 := by
        refine Int.not_le.1 fun h6 => ?_
        rw [if_neg (by omega)] at h
        omega
      rw [he, h4, if_pos h5]
    · rename_i h
      have h5 : ¬ r - (L[k].name.size : Int) < 0 := fun h6 => by
        rw [if_pos h6] at h
        omega
      rw [if_neg h5]
      refine ⟨(k + 1, r - L[k].name.size), ⟨by simp only; omega, by simp only; omega, by simp only; omega, ?_⟩, by simp only; omega, rfl, rfl⟩
      rw [he, h4, if_neg h5]
  · (repeat' (first | refine WP.seq ?_ | refine WP.block ?_ | ((first | refine WP.region ?_ | refine WP.condW ?_ | refine WP.ret ?_ | refine WP.exit ?_ | refine WP.skip ?_); simp only [go_sem, tyAll, Nat.reduceAdd, Nat.reduceLT, Nat.reduceLeDiff, Nat.reduceEqDiff, Nat.reduceMul, Nat.reduceSub, Nat.reduceGT, reduceIte, Int.reduceNeg, Int.reduceToNat]) |  refine And.intro ?_ ?_ | intro _))
    all_goals first | omega | skip
    rw [he, List.drop_of_length_le (by simp [sizesSymbol]; omega)]
    rfl
end
theorem szvSymbol_ok {L : List Symbol} (h : ¬ szvSymbol L 1048576 < 0) : L.length ≤ 1048576 ∧ ∀ x ∈ L, x.name.size ≤ 1048576 := by
  unfold szvSymbol at h
  split at h
  · omega
  · rename_i h2
    refine ⟨by omega, fun x hx => ?_⟩
    have := szGo_ok (sizesSymbol L) _ (by omega) (Int.not_lt.1 h) x.name.size (List.mem_map.2 ⟨x, hx, rfl⟩)
    omega
end
section
open Go.Vc
set_option linter.unusedSimpArgs false
set_option linter.unusedVariables false
set_option maxHeartbeats 1000000
set_option maxRecDepth 10000
attribute [local irreducible] Go.Vc.WP
attribute [local go_sem] cx0_t cx0_c k60
noncomputable def cxBt2 : Cx := { P := Try.prog, tys := tys, C := [(48, k60), (39, k60)], hty := tysOk, hC := COk.cons c60 (COk.cons c58 (COk.nil _)) }
theorem cxBt2_t : cxBt2.tys = tys := rfl
theorem cxBt2_c : cxBt2.C = [(48, k60), (39, k60)] := rfl
attribute [local go_sem] cxBt2_t cxBt2_c

def letter (c : UInt8) : Bool := decide (97 ≤ c.toNat) && decide (c.toNat ≤ 122)
def nameOk (s : ByteArray) : Bool := (s.data.toList.all letter) && decide (1 ≤ s.size) && decide (s.size ≤ 8)
theorem nameOk_bad {s : ByteArray} {k : Nat} (h : k < s.size) (hb : letter s[k]! = false) : nameOk s = false := by
  unfold nameOk
  have : s.data.toList.all letter = false := by
    rw [Bool.eq_false_iff]
    intro hall
    have h1 := List.all_eq_true.1 hall s[k]! (by
      rw [getElem!_pos s k h]
      exact Array.getElem_mem_toList (by exact h))
    rw [h1] at hb; cases hb
  simp [this]
theorem nameOk_all {s : ByteArray} (h : ∀ i, i < s.size → letter s[i]! = true) : nameOk s = (decide ((1 : Int) ≤ s.size) && decide ((s.size : Int) ≤ 8)) := by
  unfold nameOk
  have : s.data.toList.all letter = true := by
    rw [List.all_eq_true]
    intro c hc
    obtain ⟨i, hi, rfl⟩ := List.mem_iff_getElem.1 hc
    have hi' : i < s.size := by simpa using hi
    have := h i hi'
    rw [getElem!_pos s i hi'] at this
    exact this
  rw [this, Bool.true_and]
  congr 1 <;> · apply decide_eq_decide.2; omega
def kNameOk : Ctr := pur (fun args => aS args 0) (fun s => [.v (.string s)]) (fun s => s.size ≤ 1099511627776) (fun _ s => .v (.bool (nameOk s))) (fun _ _ => [])
theorem cNameOkS : Cn Try.prog 84 kNameOk := by
  refine Cn.pur Try.func84 (by kernel_rfl) rfl fun d s hL => ?_
  refine Holds.go (c := cxBt2) Try.func84 rfl Try.results84 Try.ntmps84 (by omega) (by simp) rfl ?_
  intro X0 w0
  (repeat' (first | refine WP.seq ?_ | refine WP.block ?_ | ((first | refine WP.region ?_ | refine WP.condW ?_ | refine WP.ret ?_ | refine WP.exit ?_ | refine WP.skip ?_); simp only [go_sem, tyAll, Nat.reduceAdd, Nat.reduceLT, Nat.reduceLeDiff, Nat.reduceEqDiff, Nat.reduceMul, Nat.reduceSub, Nat.reduceGT, reduceIte, Int.reduceNeg, Int.reduceToNat]) |  refine And.intro ?_ ?_ | intro _))
  refine WP.loop (fun k : Nat => ⟨[(0, .v (.string s)), (3, .v (.int .i64 k))], []⟩) (fun k => k ≤ s.size ∧ ∀ i, i < k → letter s[i]! = true) (fun k => s.size - k) 0 (by simp) ?_ ?_
  · simp only [go_sem, tyAll, Nat.reduceAdd, Nat.reduceLT, Nat.reduceLeDiff, Nat.reduceEqDiff, Nat.reduceMul, Nat.reduceSub, Nat.reduceGT, reduceIte, Int.reduceNeg, Int.reduceToNat]; first | exact ⟨rfl, rfl⟩ | rfl
  intro k ⟨hk, hf⟩
  by_cases hlt : k < s.size
  · (repeat' (first | refine WP.seq ?_ | refine WP.block ?_ | ((first | refine WP.region ?_ | refine WP.condW ?_ | refine WP.ret ?_ | refine WP.exit ?_ | refine WP.skip ?_); simp only [go_sem, tyAll, Nat.reduceAdd, Nat.reduceLT, Nat.reduceLeDiff, Nat.reduceEqDiff, Nat.reduceMul, Nat.reduceSub, Nat.reduceGT, reduceIte, Int.reduceNeg, Int.reduceToNat]) |  refine And.intro ?_ ?_ | intro _))
    all_goals first | omega | skip
    · rename_i hh
      rw [nameOk_bad hlt (by rw [Bool.eq_false_iff]; intro hc; simp [letter] at hc; omega)]
    · rename_i hh
      refine ⟨k + 1, ⟨by omega, fun i hik => ?_⟩, by omega, rfl⟩
      rcases Nat.lt_or_ge i k with h | h
      · exact hf i h
      · have : i = k := by omega
        subst this
        simp [letter]; omega
  · (repeat' (first | refine WP.seq ?_ | refine WP.block ?_ | ((first | refine WP.region ?_ | refine WP.condW ?_ | refine WP.ret ?_ | refine WP.exit ?_ | refine WP.skip ?_); simp only [go_sem, tyAll, Nat.reduceAdd, Nat.reduceLT, Nat.reduceLeDiff, Nat.reduceEqDiff, Nat.reduceMul, Nat.reduceSub, Nat.reduceGT, reduceIte, Int.reduceNeg, Int.reduceToNat]) |  refine And.intro ?_ ?_ | intro _))
    all_goals first | omega | skip
    rw [nameOk_all fun i hi => hf i (by omega)]

theorem cNameOkI : Cn Try.prog 87 kNameOk := by
  refine Cn.pur Try.func87 (by kernel_rfl) rfl fun d s hL => ?_
  refine Holds.go (c := cxBt2) Try.func87 rfl Try.results87 Try.ntmps87 (by omega) (by simp) rfl ?_
  intro X0 w0
  (repeat' (first | refine WP.seq ?_ | refine WP.block ?_ | ((first | refine WP.region ?_ | refine WP.condW ?_ | refine WP.ret ?_ | refine WP.exit ?_ | refine WP.skip ?_); simp only [go_sem, tyAll, Nat.reduceAdd, Nat.reduceLT, Nat.reduceLeDiff, Nat.reduceEqDiff, Nat.reduceMul, Nat.reduceSub, Nat.reduceGT, reduceIte, Int.reduceNeg, Int.reduceToNat]) |  refine And.intro ?_ ?_ | intro _))
  refine WP.loop (fun k : Nat => ⟨[(0, .v (.string s)), (3, .v (.int .i64 k))], []⟩) (fun k => k ≤ s.size ∧ ∀ i, i < k → letter s[i]! = true) (fun k => s.size - k) 0 (by simp) ?_ ?_
  · simp only [go_sem, tyAll, Nat.reduceAdd, Nat.reduceLT, Nat.reduceLeDiff, Nat.reduceEqDiff, Nat.reduceMul, Nat.reduceSub, Nat.reduceGT, reduceIte, Int.reduceNeg, Int.reduceToNat]; first | exact ⟨rfl, rfl⟩ | rfl
  intro k ⟨hk, hf⟩
  by_cases hlt : k < s.size
  · (repeat' (first | refine WP.seq ?_ | refine WP.block ?_ | ((first | refine WP.region ?_ | refine WP.condW ?_ | refine WP.ret ?_ | refine WP.exit ?_ | refine WP.skip ?_); simp only [go_sem, tyAll, Nat.reduceAdd, Nat.reduceLT, Nat.reduceLeDiff, Nat.reduceEqDiff, Nat.reduceMul, Nat.reduceSub, Nat.reduceGT, reduceIte, Int.reduceNeg, Int.reduceToNat]) |  refine And.intro ?_ ?_ | intro _))
    all_goals first | omega | skip
    · rename_i hh
      rw [nameOk_bad hlt (by rw [Bool.eq_false_iff]; intro hc; simp [letter] at hc; omega)]
    · rename_i hh
      refine ⟨k + 1, ⟨by omega, fun i hik => ?_⟩, by omega, rfl⟩
      rcases Nat.lt_or_ge i k with h | h
      · exact hf i h
      · have : i = k := by omega
        subst this
        simp [letter]; omega
  · (repeat' (first | refine WP.seq ?_ | refine WP.block ?_ | ((first | refine WP.region ?_ | refine WP.condW ?_ | refine WP.ret ?_ | refine WP.exit ?_ | refine WP.skip ?_); simp only [go_sem, tyAll, Nat.reduceAdd, Nat.reduceLT, Nat.reduceLeDiff, Nat.reduceEqDiff, Nat.reduceMul, Nat.reduceSub, Nat.reduceGT, reduceIte, Int.reduceNeg, Int.reduceToNat]) |  refine And.intro ?_ ?_ | intro _))
    all_goals first | omega | skip
    rw [nameOk_all fun i hi => hf i (by omega)]
end
section
open Go.Vc
set_option linter.unusedSimpArgs false
set_option linter.unusedVariables false
set_option maxHeartbeats 1000000
set_option maxRecDepth 10000
attribute [local irreducible] Go.Vc.WP
attribute [local go_sem] cx0_t cx0_c
open Go.Pl
attribute [local go_sem] isV_Symbol decSymbol_enc oneSymbol_enc
def cutS (s : ByteArray) (a b : Nat) : ByteArray := s.extract a b
/-- a symbol at its place, at bytes behind the symbols ahead of it -/
def symOk (c : ByteArray) (Y : List Symbol) (y : Symbol) (k a : Nat) : Bool :=
  decide (y.start = a ∧ 1 ≤ y.size ∧ y.size ≤ (c.size : Int) - a) && nameOk y.name && (Y.take k).all (fun x => decide (x.name ≠ y.name)) && (disasm (cutS c a (a + y.size.toNat))).isSome
def imgAt (c : ByteArray) (Y : List Symbol) : Nat → Option Nat
  | 0 => some 0
  | k + 1 => match imgAt c Y k, Y[k]? with
    | some a, some y => if symOk c Y y k a = true then some (a + y.size.toNat) else none
    | _, _ => none
def imageOk (c : ByteArray) (Y : List Symbol) : Bool := match imgAt c Y Y.length with
  | some a => decide (a = c.size) && decide (c.size ≤ 1000000)
  | none => false
theorem imgAt_none {c : ByteArray} {Y : List Symbol} {k : Nat} (h : imgAt c Y k = none) : ∀ m, imgAt c Y (k + m) = none
  | 0 => h
  | m + 1 => by
    have ih := imgAt_none h m
    show (match imgAt c Y (k + m), Y[k + m]? with | some a, some y => if symOk c Y y (k + m) a = true then some (a + y.size.toNat) else none | _, _ => none) = none
    rw [ih]
theorem img_bad {c : ByteArray} {Y : List Symbol} {k a : Nat} (h : imgAt c Y k = some a) (hk : k < Y.length) (hb : symOk c Y Y[k] k a = false) : imageOk c Y = false := by
  have h1 : imgAt c Y (k + 1) = none := by
    rw [imgAt, h, List.getElem?_eq_getElem hk]
    simp only
    rw [if_neg (by rw [hb]; simp)]
  have h2 := imgAt_none h1 (Y.length - (k + 1))
  rw [show k + 1 + (Y.length - (k + 1)) = Y.length by omega] at h2
  unfold imageOk
  rw [h2]
theorem img_next {c : ByteArray} {Y : List Symbol} {k a : Nat} (h : imgAt c Y k = some a) (hk : k < Y.length) (hb : symOk c Y Y[k] k a = true) : imgAt c Y (k + 1) = some (a + Y[k].size.toNat) ∧ 1 ≤ Y[k].size ∧ a + Y[k].size.toNat ≤ c.size := by
  refine ⟨?_, ?_⟩
  · rw [imgAt, h, List.getElem?_eq_getElem hk]
    simp only
    rw [if_pos hb]
  · unfold symOk at hb
    simp only [Bool.and_eq_true, decide_eq_true_eq] at hb
    omega
theorem img_end {c : ByteArray} {Y : List Symbol} {a : Nat} (h : imgAt c Y Y.length = some a) : imageOk c Y = (decide (a = c.size) && decide (c.size ≤ 1000000)) := by
  unfold imageOk; rw [h]
theorem img_big {c : ByteArray} {Y : List Symbol} (h : 1000000 < c.size) : imageOk c Y = false := by
  unfold imageOk
  split
  · rw [decide_eq_false (by omega : ¬ c.size ≤ 1000000), Bool.and_false]
  · rfl
def preImg (x : ByteArray × List Symbol) : Prop := x.1.size ≤ 4194304 ∧ x.2.length ≤ 4194304 ∧ ∀ y ∈ x.2, y.name.size ≤ 4194304
def imgA (args : List SV) (i : Nat) : ByteArray × List Symbol := match args[i]? with
  | some (.agg [.v (.string c), .sl _ r]) => (c, decSymbol r)
  | _ => (⟨#[]⟩, [])
attribute [local go_sem] imgA
def kImgOk : Ctr := pur (fun args => imgA args 0) (fun x => [.agg [.v (.string x.1), .sl 3 (x.2.map encSymbol)]]) preImg (fun _ x => .v (.bool (imageOk x.1 x.2))) (fun _ _ => [])
theorem symOk_f1 {c : ByteArray} {Y : List Symbol} {y : Symbol} {k a : Nat} (h : ¬ (y.start = a ∧ 1 ≤ y.size ∧ y.size ≤ (c.size : Int) - a)) : symOk c Y y k a = false := by
  unfold symOk; rw [decide_eq_false h]; rfl
theorem symOk_f2 {c : ByteArray} {Y : List Symbol} {y : Symbol} {k a : Nat} (h : nameOk y.name = false) : symOk c Y y k a = false := by
  unfold symOk; rw [h, Bool.and_false]; rfl
theorem symOk_f3 {c : ByteArray} {Y : List Symbol} {y : Symbol} {k a j : Nat} (hj : j < Y.length) (hjk : j < k) (h : Y[j].name = y.name) : symOk c Y y k a = false := by
  have : (Y.take k).all (fun x => decide (x.name ≠ y.name)) = false := by
    rw [List.all_eq_false]
    refine ⟨Y[j], ?_, by simp [h]⟩
    rw [List.mem_iff_getElem]
    exact ⟨j, by rw [List.length_take]; omega, by rw [List.getElem_take]⟩
  unfold symOk; rw [this, Bool.and_false]; rfl
theorem symOk_t {c : ByteArray} {Y : List Symbol} {y : Symbol} {k a : Nat} (h1 : y.start = a ∧ 1 ≤ y.size ∧ y.size ≤ (c.size : Int) - a) (h2 : nameOk y.name = true) (h3 : ∀ j (hj : j < Y.length), j < k → Y[j].name ≠ y.name) :
    symOk c Y y k a = (disasm (cutS c a (a + y.size.toNat))).isSome := by
  have : (Y.take k).all (fun x => decide (x.name ≠ y.name)) = true := by
    rw [List.all_eq_true]
    intro x hx
    obtain ⟨j, hj, rfl⟩ := List.mem_iff_getElem.1 hx
    rw [List.length_take] at hj
    rw [List.getElem_take, decide_eq_true_eq]
    exact h3 j (by omega) (by omega)
  unfold symOk; rw [decide_eq_true h1, h2, this]; rfl
theorem cutS_size (c : ByteArray) (a b : Nat) : (cutS c a b).size ≤ c.size := by
  unfold cutS
  rw [ByteArray.size_extract]; omega
section
noncomputable def cxImI : Cx := { P := Try.prog, tys := tys, C := [(87, kNameOk), (88, kDis)], hty := tysOk, hC := COk.cons cNameOkI (COk.cons cDisI (COk.nil _)) }
theorem cxImI_t : cxImI.tys = tys := rfl
theorem cxImI_c : cxImI.C = [(87, kNameOk), (88, kDis)] := rfl
attribute [local go_sem] cxImI_t cxImI_c kNameOk kDis
theorem cImgOkI : Cn Try.prog 79 kImgOk := by
  refine Cn.pur Try.func79 (by kernel_rfl) rfl fun d x hx => ?_
  obtain ⟨c, Y⟩ := x
  obtain ⟨hc, hY, hN⟩ := hx
  simp only at hc hY hN ⊢
  refine Holds.go (c := cxImI) Try.func79 rfl Try.results79 Try.ntmps79 (by omega) (by simp) rfl ?_
  intro X0 w0
  by_cases hbig : 1000000 < c.size
  · have hbi : (1000000 : Int) < c.size := by omega
    rw [img_big hbig]
    (repeat' (first | refine WP.seq ?_ | refine WP.block ?_ | ((first | refine WP.region ?_ | refine WP.condW ?_ | refine WP.ret ?_ | refine WP.exit ?_ | refine WP.skip ?_); simp only [go_sem, hbi, tyAll, Nat.reduceAdd, Nat.reduceLT, Nat.reduceLeDiff, Nat.reduceEqDiff, Nat.reduceMul, Nat.reduceSub, Nat.reduceGT, reduceIte, Int.reduceNeg, Int.reduceToNat]) |  refine And.intro ?_ ?_ | intro _))
    all_goals first | omega | skip
    all_goals trace_state
  have hbi : ¬ (1000000 : Int) < c.size := by omega
  (repeat' (first | refine WP.seq ?_ | refine WP.block ?_ | ((first | refine WP.region ?_ | refine WP.condW ?_ | refine WP.ret ?_ | refine WP.exit ?_ | refine WP.skip ?_); simp only [go_sem, hbi, tyAll, Nat.reduceAdd, Nat.reduceLT, Nat.reduceLeDiff, Nat.reduceEqDiff, Nat.reduceMul, Nat.reduceSub, Nat.reduceGT, reduceIte, Int.reduceNeg, Int.reduceToNat]) |  refine And.intro ?_ ?_ | intro _))
  all_goals first | omega | skip
  refine WP.loop (fun q : Nat × Nat => ⟨[(1, .ptr 1 0 0 0), (3, .v (.int .i64 q.2)), (15, .sl 3 (Y.map encSymbol)), (16, .v (.int .i64 Y.length)), (17, .v (.int .i64 q.1))], [(1, .box 93 [.v (.string c), .sl 3 (Y.map encSymbol)])]⟩)
    (fun q => q.1 ≤ Y.length ∧ imgAt c Y q.1 = some q.2 ∧ q.2 ≤ c.size) (fun q => Y.length - q.1) (0, 0) ⟨by simp, rfl, by simp⟩ ?_ ?_
  · (simp only [go_sem, tyAll, Nat.reduceAdd, Nat.reduceLT, Nat.reduceLeDiff, Nat.reduceEqDiff, Nat.reduceMul, Nat.reduceSub, Nat.reduceGT, reduceIte, Int.reduceNeg, Int.reduceToNat] <;> (first | rfl | exact ⟨rfl, rfl⟩ | exact ⟨rfl, rfl, rfl⟩ | exact ⟨rfl, rfl, rfl, rfl⟩ | exact ⟨rfl, rfl, rfl, rfl, rfl⟩ | exact ⟨⟨rfl, rfl⟩, rfl⟩ | simp))
  rintro ⟨k, a⟩ ⟨hk, hI, ha⟩
  simp only at hk hI ha ⊢
  by_cases hlt : k < Y.length
  rotate_left
  · have hge : ¬ (k : Int) < Y.length := by omega
    obtain rfl : k = Y.length := by omega
    rw [img_end hI, decide_eq_true (by omega : c.size ≤ 1000000), Bool.and_true]
    have e : decide (a = c.size) = ((a : Int) == c.size) := by rw [Bool.eq_iff_iff, decide_eq_true_eq, beq_iff_eq]; omega
    rw [e]
    (repeat' (first | refine WP.seq ?_ | refine WP.block ?_ | ((first | refine WP.region ?_ | refine WP.condW ?_ | refine WP.ret ?_ | refine WP.exit ?_ | refine WP.skip ?_); simp only [go_sem, hge, tyAll, Nat.reduceAdd, Nat.reduceLT, Nat.reduceLeDiff, Nat.reduceEqDiff, Nat.reduceMul, Nat.reduceSub, Nat.reduceGT, reduceIte, Int.reduceNeg, Int.reduceToNat]) |  refine And.intro ?_ ?_ | intro _))
    all_goals first | omega | rfl | skip
    all_goals trace_state
  have hli : (k : Int) < Y.length := by omega
  have hr := rowAt_map encSymbol Y k hlt
  have hbad := img_bad hI hlt
  have hnext := img_next hI hlt
  have hnm := hN _ (List.getElem_mem hlt)
  have hy0 : oneSymbol (encSymbol Y[k]) = Y[k] := rfl
  generalize hye : Y[k] = y at *
  by_cases hc1 : y.start = a ∧ 1 ≤ y.size ∧ y.size ≤ (c.size : Int) - a
  rotate_left
  · rw [hbad (symOk_f1 hc1)]
    by_cases d1 : y.start = a
    · by_cases d2 : y.size < 1
      · (repeat' (first | refine WP.seq ?_ | refine WP.block ?_ | ((first | refine WP.region ?_ | refine WP.condW ?_ | refine WP.ret ?_ | refine WP.exit ?_ | refine WP.skip ?_); simp only [go_sem, hli, hr, encSymbol, d1, d2, tyAll, Nat.reduceAdd, Nat.reduceLT, Nat.reduceLeDiff, Nat.reduceEqDiff, Nat.reduceMul, Nat.reduceSub, Nat.reduceGT, reduceIte, Int.reduceNeg, Int.reduceToNat]) |  refine And.intro ?_ ?_ | intro _))
        all_goals first | omega | skip
        all_goals trace_state
      · have d3 : (c.size : Int) - a < y.size := by omega
        (repeat' (first | refine WP.seq ?_ | refine WP.block ?_ | ((first | refine WP.region ?_ | refine WP.condW ?_ | refine WP.ret ?_ | refine WP.exit ?_ | refine WP.skip ?_); simp only [go_sem, hli, hr, encSymbol, d1, d2, d3, tyAll, Nat.reduceAdd, Nat.reduceLT, Nat.reduceLeDiff, Nat.reduceEqDiff, Nat.reduceMul, Nat.reduceSub, Nat.reduceGT, reduceIte, Int.reduceNeg, Int.reduceToNat]) |  refine And.intro ?_ ?_ | intro _))
        all_goals first | omega | skip
        all_goals trace_state
    · (repeat' (first | refine WP.seq ?_ | refine WP.block ?_ | ((first | refine WP.region ?_ | refine WP.condW ?_ | refine WP.ret ?_ | refine WP.exit ?_ | refine WP.skip ?_); simp only [go_sem, hli, hr, encSymbol, d1, tyAll, Nat.reduceAdd, Nat.reduceLT, Nat.reduceLeDiff, Nat.reduceEqDiff, Nat.reduceMul, Nat.reduceSub, Nat.reduceGT, reduceIte, Int.reduceNeg, Int.reduceToNat]) |  refine And.intro ?_ ?_ | intro _))
      all_goals first | omega | skip
      all_goals trace_state
  obtain ⟨d1, d2, d3⟩ := hc1
  have e2 : ¬ y.size < 1 := by omega
  have e3 : ¬ (c.size : Int) - a < y.size := by omega
  cases hn : nameOk y.name with
  | false =>
    rw [hbad (symOk_f2 hn)]
    (repeat' (first | refine WP.seq ?_ | refine WP.block ?_ | ((first | refine WP.region ?_ | refine WP.condW ?_ | refine WP.ret ?_ | refine WP.exit ?_ | refine WP.skip ?_); simp only [go_sem, hli, hr, encSymbol, d1, e2, e3, hn, tyAll, Nat.reduceAdd, Nat.reduceLT, Nat.reduceLeDiff, Nat.reduceEqDiff, Nat.reduceMul, Nat.reduceSub, Nat.reduceGT, reduceIte, Int.reduceNeg, Int.reduceToNat]) |  refine And.intro ?_ ?_ | intro _))
    all_goals first | omega | skip
    all_goals trace_state
  | true =>
  (repeat' (first | refine WP.seq ?_ | refine WP.block ?_ | ((first | refine WP.region ?_ | refine WP.condW ?_ | refine WP.ret ?_ | refine WP.exit ?_ | refine WP.skip ?_); simp only [go_sem, hli, hr, encSymbol, d1, e2, e3, hn, ← List.map_take, tyAll, Nat.reduceAdd, Nat.reduceLT, Nat.reduceLeDiff, Nat.reduceEqDiff, Nat.reduceMul, Nat.reduceSub, Nat.reduceGT, reduceIte, Int.reduceNeg, Int.reduceToNat]) |  refine And.intro ?_ ?_ | intro _))
  all_goals first | omega | skip
  have htl : (Y.take k).length = k := by rw [List.length_take]; omega
  refine WP.loop (fun j : Nat => ⟨[(1, .ptr 1 0 0 0), (3, .v (.int .i64 a)), (5, .ptr 5 0 0 0), (15, .sl 3 (Y.map encSymbol)), (16, .v (.int .i64 Y.length)), (17, .v (.int .i64 k)), (50, .sl 3 ((Y.take k).map encSymbol)), (51, .v (.int .i64 k)), (52, .v (.int .i64 j))],
      [(1, .box 93 [.v (.string c), .sl 3 (Y.map encSymbol)]), (5, .box 108 [.v (.string y.name), .v (.int .i64 a), .v (.int .i64 y.size)])]⟩)
    (fun j => j ≤ k ∧ ∀ i (hi : i < Y.length), i < j → Y[i].name ≠ y.name) (fun j => k - j) 0 (by simp) ?_ ?_
  · (simp only [go_sem, htl, d1, tyAll, Nat.reduceAdd, Nat.reduceLT, Nat.reduceLeDiff, Nat.reduceEqDiff, Nat.reduceMul, Nat.reduceSub, Nat.reduceGT, reduceIte, Int.reduceNeg, Int.reduceToNat] <;> (first | rfl | exact ⟨rfl, rfl⟩ | exact ⟨rfl, rfl, rfl⟩ | exact ⟨rfl, rfl, rfl, rfl⟩ | exact ⟨rfl, rfl, rfl, rfl, rfl⟩ | exact ⟨⟨rfl, rfl⟩, rfl⟩ | simp))
  intro j ⟨hj, hf⟩
  by_cases hjk : j < k
  · have hjki : (j : Int) < k := by omega
    have hjl : j < Y.length := by omega
    have hr2 := rowAt_map encSymbol (Y.take k) j (by omega)
    rw [List.getElem_take] at hr2
    have hjti : (j : Int) < (Y.take k).length := by omega
    by_cases he : Y[j].name = y.name
    · rw [hbad (symOk_f3 hjl hjk he)]
      (repeat' (first | refine WP.seq ?_ | refine WP.block ?_ | ((first | refine WP.region ?_ | refine WP.condW ?_ | refine WP.ret ?_ | refine WP.exit ?_ | refine WP.skip ?_); simp only [go_sem, hjki, hjti, hr2, encSymbol, he, tyAll, Nat.reduceAdd, Nat.reduceLT, Nat.reduceLeDiff, Nat.reduceEqDiff, Nat.reduceMul, Nat.reduceSub, Nat.reduceGT, reduceIte, Int.reduceNeg, Int.reduceToNat]) |  refine And.intro ?_ ?_ | intro _))
      all_goals first | omega | skip
      all_goals trace_state
    · (repeat' (first | refine WP.seq ?_ | refine WP.block ?_ | ((first | refine WP.region ?_ | refine WP.condW ?_ | refine WP.ret ?_ | refine WP.exit ?_ | refine WP.skip ?_); simp only [go_sem, hjki, hjti, hr2, encSymbol, he, tyAll, Nat.reduceAdd, Nat.reduceLT, Nat.reduceLeDiff, Nat.reduceEqDiff, Nat.reduceMul, Nat.reduceSub, Nat.reduceGT, reduceIte, Int.reduceNeg, Int.reduceToNat]) |  refine And.intro ?_ ?_ | intro _))
      all_goals first | omega | skip
      all_goals first | exact ⟨j + 1, ⟨by omega, fun i hi hij => by
        rcases Nat.lt_or_ge i j with h | h
        · exact hf i hi h
        · have : i = j := by omega
          subst this; exact he⟩, by omega, by (first | rfl | exact ⟨rfl, rfl⟩ | exact ⟨rfl, rfl, rfl⟩ | exact ⟨rfl, rfl, rfl, rfl⟩ | exact ⟨rfl, rfl, rfl, rfl, rfl⟩ | exact ⟨⟨rfl, rfl⟩, rfl⟩ | simp)⟩ | trace_state
  · have hjki : ¬ (j : Int) < k := by omega
    have hso := symOk_t (c := c) (Y := Y) (y := y) (k := k) (a := a) ⟨d1, d2, d3⟩ hn fun i hi hik => hf i hi (by omega)
    obtain ⟨z, hz⟩ : ∃ z : Nat, y.size = z := ⟨_, (Int.toNat_of_nonneg (by omega)).symm⟩
    have haz : ((a : Int) + z).toNat = a + z := by omega
    have hcu : c.extract a (a + z) = cutS c a (a + z) := rfl
    have hcs := cutS_size c a (a + z)
    rw [hz, Int.toNat_natCast] at hso
    cases hds : (disasm (cutS c a (a + z))).isSome with
    | false =>
      rw [hds] at hso
      rw [hbad hso]
      (repeat' (first | refine WP.seq ?_ | refine WP.block ?_ | ((first | refine WP.region ?_ | refine WP.condW ?_ | refine WP.ret ?_ | refine WP.exit ?_ | refine WP.skip ?_); simp only [go_sem, hjki, hz, haz, hcu, hds, tyAll, Nat.reduceAdd, Nat.reduceLT, Nat.reduceLeDiff, Nat.reduceEqDiff, Nat.reduceMul, Nat.reduceSub, Nat.reduceGT, reduceIte, Int.reduceNeg, Int.reduceToNat]) |  refine And.intro ?_ ?_ | intro _))
      all_goals first | omega | skip
      all_goals trace_state
    | true =>
      rw [hds] at hso
      obtain ⟨n1, n2, n3⟩ := hnext hso
      rw [hz, Int.toNat_natCast] at n1 n3
      (repeat' (first | refine WP.seq ?_ | refine WP.block ?_ | ((first | refine WP.region ?_ | refine WP.condW ?_ | refine WP.ret ?_ | refine WP.exit ?_ | refine WP.skip ?_); simp only [go_sem, hjki, hz, haz, hcu, hds, tyAll, Nat.reduceAdd, Nat.reduceLT, Nat.reduceLeDiff, Nat.reduceEqDiff, Nat.reduceMul, Nat.reduceSub, Nat.reduceGT, reduceIte, Int.reduceNeg, Int.reduceToNat]) |  refine And.intro ?_ ?_ | intro _))
      all_goals first | omega | skip
      all_goals first | exact ⟨(k + 1, a + z), ⟨by simp only; omega, n1, n3⟩, by simp only; omega, by (first | rfl | exact ⟨rfl, rfl⟩ | exact ⟨rfl, rfl, rfl⟩ | exact ⟨rfl, rfl, rfl, rfl⟩ | exact ⟨rfl, rfl, rfl, rfl, rfl⟩ | exact ⟨⟨rfl, rfl⟩, rfl⟩ | simp)⟩ | trace_state
end
section
noncomputable def cxImS : Cx := { P := Try.prog, tys := tys, C := [(84, kNameOk), (85, kDis)], hty := tysOk, hC := COk.cons cNameOkS (COk.cons cDisS (COk.nil _)) }
theorem cxImS_t : cxImS.tys = tys := rfl
theorem cxImS_c : cxImS.C = [(84, kNameOk), (85, kDis)] := rfl
attribute [local go_sem] cxImS_t cxImS_c kNameOk kDis
theorem cImgOkS : Cn Try.prog 75 kImgOk := by
  refine Cn.pur Try.func75 (by kernel_rfl) rfl fun d x hx => ?_
  obtain ⟨c, Y⟩ := x
  obtain ⟨hc, hY, hN⟩ := hx
  simp only at hc hY hN ⊢
  refine Holds.go (c := cxImS) Try.func75 rfl Try.results75 Try.ntmps75 (by omega) (by simp) rfl ?_
  intro X0 w0
  (repeat' (first | refine WP.seq ?_ | refine WP.block ?_ | ((first | refine WP.region ?_ | refine WP.condW ?_ | refine WP.ret ?_ | refine WP.exit ?_ | refine WP.skip ?_); simp only [go_sem, tyAll, Nat.reduceAdd, Nat.reduceLT, Nat.reduceLeDiff, Nat.reduceEqDiff, Nat.reduceMul, Nat.reduceSub, Nat.reduceGT, reduceIte, Int.reduceNeg, Int.reduceToNat]) | ((first | refine WP.drawW 9 (by decide +kernel) (by kernel_rfl) ?_); simp only [go_sem, tyAll, Nat.reduceAdd, Nat.reduceLT, Nat.reduceLeDiff, Nat.reduceEqDiff, Nat.reduceMul, Nat.reduceSub, Nat.reduceGT, reduceIte, Int.reduceNeg, Int.reduceToNat]) |  refine And.intro ?_ ?_ | intro _))
  all_goals first | omega | skip
  refine WP.loop (fun q : Nat × Nat => ⟨[(1, .ptr 1 0 0 0), (3, .v (.int .i64 q.2)), (4, .v (.int .i64 q.1))], [(1, .box 93 [.v (.string c), .sl 3 (Y.map encSymbol)])]⟩)
    (fun q => q.1 ≤ Y.length ∧ imgAt c Y q.1 = some q.2 ∧ q.2 ≤ c.size) (fun q => Y.length - q.1) (0, 0) ⟨by simp, rfl, by simp⟩ ?_ ?_
  · (simp only [go_sem, tyAll, Nat.reduceAdd, Nat.reduceLT, Nat.reduceLeDiff, Nat.reduceEqDiff, Nat.reduceMul, Nat.reduceSub, Nat.reduceGT, reduceIte, Int.reduceNeg, Int.reduceToNat] <;> (first | rfl | exact ⟨rfl, rfl⟩ | exact ⟨rfl, rfl, rfl⟩ | exact ⟨rfl, rfl, rfl, rfl⟩ | exact ⟨rfl, rfl, rfl, rfl, rfl⟩ | exact ⟨⟨rfl, rfl⟩, rfl⟩ | simp))
  rintro ⟨k, a⟩ ⟨hk, hI, ha⟩
  simp only at hk hI ha ⊢
  by_cases hlt : k < Y.length
  rotate_left
  · have hge : ¬ (k : Int) < Y.length := by omega
    obtain rfl : k = Y.length := by omega
    have e : decide (a = c.size) = ((a : Int) == c.size) := by rw [Bool.eq_iff_iff, decide_eq_true_eq, beq_iff_eq]; omega
    have e' : decide (c.size ≤ 1000000) = decide ((c.size : Int) ≤ 1000000) := decide_eq_decide.2 (by omega)
    rw [img_end hI, e, e']
    (repeat' (first | refine WP.seq ?_ | refine WP.block ?_ | ((first | refine WP.region ?_ | refine WP.condW ?_ | refine WP.ret ?_ | refine WP.exit ?_ | refine WP.skip ?_); simp only [go_sem, hge, tyAll, Nat.reduceAdd, Nat.reduceLT, Nat.reduceLeDiff, Nat.reduceEqDiff, Nat.reduceMul, Nat.reduceSub, Nat.reduceGT, reduceIte, Int.reduceNeg, Int.reduceToNat]) | ((first | refine WP.drawW 9 (by decide +kernel) (by kernel_rfl) ?_); simp only [go_sem, hge, tyAll, Nat.reduceAdd, Nat.reduceLT, Nat.reduceLeDiff, Nat.reduceEqDiff, Nat.reduceMul, Nat.reduceSub, Nat.reduceGT, reduceIte, Int.reduceNeg, Int.reduceToNat]) |  refine And.intro ?_ ?_ | intro _))
    all_goals first | omega | rfl | skip
    all_goals trace_state
  have hli : (k : Int) < Y.length := by omega
  have hr := rowAt_map encSymbol Y k hlt
  have hbad := img_bad hI hlt
  have hnext := img_next hI hlt
  have hnm := hN _ (List.getElem_mem hlt)
  have hy0 : oneSymbol (encSymbol Y[k]) = Y[k] := rfl
  generalize hye : Y[k] = y at *
  by_cases hc1 : y.start = a ∧ 1 ≤ y.size ∧ y.size ≤ (c.size : Int) - a
  rotate_left
  · rw [hbad (symOk_f1 hc1)]
    by_cases d1 : y.start = a
    · by_cases d2 : y.size < 1
      · (repeat' (first | refine WP.seq ?_ | refine WP.block ?_ | ((first | refine WP.region ?_ | refine WP.condW ?_ | refine WP.ret ?_ | refine WP.exit ?_ | refine WP.skip ?_); simp only [go_sem, hli, hr, encSymbol, d1, d2, tyAll, Nat.reduceAdd, Nat.reduceLT, Nat.reduceLeDiff, Nat.reduceEqDiff, Nat.reduceMul, Nat.reduceSub, Nat.reduceGT, reduceIte, Int.reduceNeg, Int.reduceToNat]) | ((first | refine WP.drawW 9 (by decide +kernel) (by kernel_rfl) ?_); simp only [go_sem, hli, hr, encSymbol, d1, d2, tyAll, Nat.reduceAdd, Nat.reduceLT, Nat.reduceLeDiff, Nat.reduceEqDiff, Nat.reduceMul, Nat.reduceSub, Nat.reduceGT, reduceIte, Int.reduceNeg, Int.reduceToNat]) |  refine And.intro ?_ ?_ | intro _))
        all_goals first | omega | skip
        all_goals trace_state
      · have d3 : (c.size : Int) - a < y.size := by omega
        (repeat' (first | refine WP.seq ?_ | refine WP.block ?_ | ((first | refine WP.region ?_ | refine WP.condW ?_ | refine WP.ret ?_ | refine WP.exit ?_ | refine WP.skip ?_); simp only [go_sem, hli, hr, encSymbol, d1, d2, d3, tyAll, Nat.reduceAdd, Nat.reduceLT, Nat.reduceLeDiff, Nat.reduceEqDiff, Nat.reduceMul, Nat.reduceSub, Nat.reduceGT, reduceIte, Int.reduceNeg, Int.reduceToNat]) | ((first | refine WP.drawW 9 (by decide +kernel) (by kernel_rfl) ?_); simp only [go_sem, hli, hr, encSymbol, d1, d2, d3, tyAll, Nat.reduceAdd, Nat.reduceLT, Nat.reduceLeDiff, Nat.reduceEqDiff, Nat.reduceMul, Nat.reduceSub, Nat.reduceGT, reduceIte, Int.reduceNeg, Int.reduceToNat]) |  refine And.intro ?_ ?_ | intro _))
        all_goals first | omega | skip
        all_goals trace_state
    · (repeat' (first | refine WP.seq ?_ | refine WP.block ?_ | ((first | refine WP.region ?_ | refine WP.condW ?_ | refine WP.ret ?_ | refine WP.exit ?_ | refine WP.skip ?_); simp only [go_sem, hli, hr, encSymbol, d1, tyAll, Nat.reduceAdd, Nat.reduceLT, Nat.reduceLeDiff, Nat.reduceEqDiff, Nat.reduceMul, Nat.reduceSub, Nat.reduceGT, reduceIte, Int.reduceNeg, Int.reduceToNat]) | ((first | refine WP.drawW 9 (by decide +kernel) (by kernel_rfl) ?_); simp only [go_sem, hli, hr, encSymbol, d1, tyAll, Nat.reduceAdd, Nat.reduceLT, Nat.reduceLeDiff, Nat.reduceEqDiff, Nat.reduceMul, Nat.reduceSub, Nat.reduceGT, reduceIte, Int.reduceNeg, Int.reduceToNat]) |  refine And.intro ?_ ?_ | intro _))
      all_goals first | omega | skip
      all_goals trace_state
  obtain ⟨d1, d2, d3⟩ := hc1
  have e2 : ¬ y.size < 1 := by omega
  have e3 : ¬ (c.size : Int) - a < y.size := by omega
  cases hn : nameOk y.name with
  | false =>
    rw [hbad (symOk_f2 hn)]
    (repeat' (first | refine WP.seq ?_ | refine WP.block ?_ | ((first | refine WP.region ?_ | refine WP.condW ?_ | refine WP.ret ?_ | refine WP.exit ?_ | refine WP.skip ?_); simp only [go_sem, hli, hr, encSymbol, d1, e2, e3, hn, tyAll, Nat.reduceAdd, Nat.reduceLT, Nat.reduceLeDiff, Nat.reduceEqDiff, Nat.reduceMul, Nat.reduceSub, Nat.reduceGT, reduceIte, Int.reduceNeg, Int.reduceToNat]) | ((first | refine WP.drawW 9 (by decide +kernel) (by kernel_rfl) ?_); simp only [go_sem, hli, hr, encSymbol, d1, e2, e3, hn, tyAll, Nat.reduceAdd, Nat.reduceLT, Nat.reduceLeDiff, Nat.reduceEqDiff, Nat.reduceMul, Nat.reduceSub, Nat.reduceGT, reduceIte, Int.reduceNeg, Int.reduceToNat]) |  refine And.intro ?_ ?_ | intro _))
    all_goals first | omega | skip
    all_goals trace_state
  | true =>
  (repeat' (first | refine WP.seq ?_ | refine WP.block ?_ | ((first | refine WP.region ?_ | refine WP.condW ?_ | refine WP.ret ?_ | refine WP.exit ?_ | refine WP.skip ?_); simp only [go_sem, hli, hr, encSymbol, d1, e2, e3, hn, tyAll, Nat.reduceAdd, Nat.reduceLT, Nat.reduceLeDiff, Nat.reduceEqDiff, Nat.reduceMul, Nat.reduceSub, Nat.reduceGT, reduceIte, Int.reduceNeg, Int.reduceToNat]) | ((first | refine WP.drawW 9 (by decide +kernel) (by kernel_rfl) ?_); simp only [go_sem, hli, hr, encSymbol, d1, e2, e3, hn, tyAll, Nat.reduceAdd, Nat.reduceLT, Nat.reduceLeDiff, Nat.reduceEqDiff, Nat.reduceMul, Nat.reduceSub, Nat.reduceGT, reduceIte, Int.reduceNeg, Int.reduceToNat]) |  refine And.intro ?_ ?_ | intro _))
  all_goals first | omega | skip
  have htl : (Y.take k).length = k := by rw [List.length_take]; omega
  refine WP.loop (fun j : Nat => ⟨[(1, .ptr 1 0 0 0), (3, .v (.int .i64 a)), (4, .v (.int .i64 k)), (5, .ptr 5 0 0 0), (6, .v (.int .i64 j))],
      [(1, .box 93 [.v (.string c), .sl 3 (Y.map encSymbol)]), (5, .box 108 [.v (.string y.name), .v (.int .i64 a), .v (.int .i64 y.size)])]⟩)
    (fun j => j ≤ k ∧ ∀ i (hi : i < Y.length), i < j → Y[i].name ≠ y.name) (fun j => k - j) 0 (by simp) ?_ ?_
  · (simp only [go_sem, htl, d1, tyAll, Nat.reduceAdd, Nat.reduceLT, Nat.reduceLeDiff, Nat.reduceEqDiff, Nat.reduceMul, Nat.reduceSub, Nat.reduceGT, reduceIte, Int.reduceNeg, Int.reduceToNat] <;> (first | rfl | exact ⟨rfl, rfl⟩ | exact ⟨rfl, rfl, rfl⟩ | exact ⟨rfl, rfl, rfl, rfl⟩ | exact ⟨rfl, rfl, rfl, rfl, rfl⟩ | exact ⟨⟨rfl, rfl⟩, rfl⟩ | simp))
  intro j ⟨hj, hf⟩
  by_cases hjk : j < k
  · have hjki : (j : Int) < k := by omega
    have hjl : j < Y.length := by omega
    have hr2 := rowAt_map encSymbol Y j hjl
    have hjti : (j : Int) < Y.length := by omega
    by_cases he : Y[j].name = y.name
    · rw [hbad (symOk_f3 hjl hjk he)]
      (repeat' (first | refine WP.seq ?_ | refine WP.block ?_ | ((first | refine WP.region ?_ | refine WP.condW ?_ | refine WP.ret ?_ | refine WP.exit ?_ | refine WP.skip ?_); simp only [go_sem, hjki, hjti, hr2, encSymbol, he, tyAll, Nat.reduceAdd, Nat.reduceLT, Nat.reduceLeDiff, Nat.reduceEqDiff, Nat.reduceMul, Nat.reduceSub, Nat.reduceGT, reduceIte, Int.reduceNeg, Int.reduceToNat]) | ((first | refine WP.drawW 9 (by decide +kernel) (by kernel_rfl) ?_); simp only [go_sem, hjki, hjti, hr2, encSymbol, he, tyAll, Nat.reduceAdd, Nat.reduceLT, Nat.reduceLeDiff, Nat.reduceEqDiff, Nat.reduceMul, Nat.reduceSub, Nat.reduceGT, reduceIte, Int.reduceNeg, Int.reduceToNat]) |  refine And.intro ?_ ?_ | intro _))
      all_goals first | omega | skip
      all_goals trace_state
    · (repeat' (first | refine WP.seq ?_ | refine WP.block ?_ | ((first | refine WP.region ?_ | refine WP.condW ?_ | refine WP.ret ?_ | refine WP.exit ?_ | refine WP.skip ?_); simp only [go_sem, hjki, hjti, hr2, encSymbol, he, tyAll, Nat.reduceAdd, Nat.reduceLT, Nat.reduceLeDiff, Nat.reduceEqDiff, Nat.reduceMul, Nat.reduceSub, Nat.reduceGT, reduceIte, Int.reduceNeg, Int.reduceToNat]) | ((first | refine WP.drawW 9 (by decide +kernel) (by kernel_rfl) ?_); simp only [go_sem, hjki, hjti, hr2, encSymbol, he, tyAll, Nat.reduceAdd, Nat.reduceLT, Nat.reduceLeDiff, Nat.reduceEqDiff, Nat.reduceMul, Nat.reduceSub, Nat.reduceGT, reduceIte, Int.reduceNeg, Int.reduceToNat]) |  refine And.intro ?_ ?_ | intro _))
      all_goals first | omega | skip
      all_goals first | exact ⟨j + 1, ⟨by omega, fun i hi hij => by
        rcases Nat.lt_or_ge i j with h | h
        · exact hf i hi h
        · have : i = j := by omega
          subst this; exact he⟩, by omega, by (first | rfl | exact ⟨rfl, rfl⟩ | exact ⟨rfl, rfl, rfl⟩ | exact ⟨rfl, rfl, rfl, rfl⟩ | exact ⟨rfl, rfl, rfl, rfl, rfl⟩ | exact ⟨⟨rfl, rfl⟩, rfl⟩ | simp)⟩ | trace_state
  · have hjki : ¬ (j : Int) < k := by omega
    have hso := symOk_t (c := c) (Y := Y) (y := y) (k := k) (a := a) ⟨d1, d2, d3⟩ hn fun i hi hik => hf i hi (by omega)
    obtain ⟨z, hz⟩ : ∃ z : Nat, y.size = z := ⟨_, (Int.toNat_of_nonneg (by omega)).symm⟩
    have haz : ((a : Int) + z).toNat = a + z := by omega
    have hcu : c.extract a (a + z) = cutS c a (a + z) := rfl
    have hcs := cutS_size c a (a + z)
    rw [hz, Int.toNat_natCast] at hso
    cases hds : (disasm (cutS c a (a + z))).isSome with
    | false =>
      rw [hds] at hso
      rw [hbad hso]
      (repeat' (first | refine WP.seq ?_ | refine WP.block ?_ | ((first | refine WP.region ?_ | refine WP.condW ?_ | refine WP.ret ?_ | refine WP.exit ?_ | refine WP.skip ?_); simp only [go_sem, hjki, hz, haz, hcu, hds, tyAll, Nat.reduceAdd, Nat.reduceLT, Nat.reduceLeDiff, Nat.reduceEqDiff, Nat.reduceMul, Nat.reduceSub, Nat.reduceGT, reduceIte, Int.reduceNeg, Int.reduceToNat]) | ((first | refine WP.drawW 9 (by decide +kernel) (by kernel_rfl) ?_); simp only [go_sem, hjki, hz, haz, hcu, hds, tyAll, Nat.reduceAdd, Nat.reduceLT, Nat.reduceLeDiff, Nat.reduceEqDiff, Nat.reduceMul, Nat.reduceSub, Nat.reduceGT, reduceIte, Int.reduceNeg, Int.reduceToNat]) |  refine And.intro ?_ ?_ | intro _))
      all_goals first | omega | skip
      all_goals trace_state
    | true =>
      rw [hds] at hso
      obtain ⟨n1, n2, n3⟩ := hnext hso
      rw [hz, Int.toNat_natCast] at n1 n3
      (repeat' (first | refine WP.seq ?_ | refine WP.block ?_ | ((first | refine WP.region ?_ | refine WP.condW ?_ | refine WP.ret ?_ | refine WP.exit ?_ | refine WP.skip ?_); simp only [go_sem, hjki, hz, haz, hcu, hds, tyAll, Nat.reduceAdd, Nat.reduceLT, Nat.reduceLeDiff, Nat.reduceEqDiff, Nat.reduceMul, Nat.reduceSub, Nat.reduceGT, reduceIte, Int.reduceNeg, Int.reduceToNat]) | ((first | refine WP.drawW 9 (by decide +kernel) (by kernel_rfl) ?_); simp only [go_sem, hjki, hz, haz, hcu, hds, tyAll, Nat.reduceAdd, Nat.reduceLT, Nat.reduceLeDiff, Nat.reduceEqDiff, Nat.reduceMul, Nat.reduceSub, Nat.reduceGT, reduceIte, Int.reduceNeg, Int.reduceToNat]) |  refine And.intro ?_ ?_ | intro _))
      all_goals first | omega | skip
      all_goals first | exact ⟨(k + 1, a + z), ⟨by simp only; omega, n1, n3⟩, by simp only; omega, by (first | rfl | exact ⟨rfl, rfl⟩ | exact ⟨rfl, rfl, rfl⟩ | exact ⟨rfl, rfl, rfl, rfl⟩ | exact ⟨rfl, rfl, rfl, rfl, rfl⟩ | exact ⟨⟨rfl, rfl⟩, rfl⟩ | simp)⟩ | trace_state
end
end
end Go.Proofs.Ytoomncljmgcidaa
