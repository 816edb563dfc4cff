/-
  DERIVED. WeightsOf, of the reference and of the program, and its law's function.
-/
import Derived.Test.YtkikcjomjofhmaaVtI
namespace Go.Proofs.Ytkikcjomjofhmaa
open Go.Vc
set_option linter.unusedSimpArgs false
set_option linter.unusedVariables false
set_option maxHeartbeats 1000000
attribute [local go_sem] St.runR St.runW St.stepV St.step St.stepU St.stepG St.prK St.pr St.prLen St.eff St.callE St.callD St.callF St.callM aI aB aS aR aC St.isM St.argL Ctr.pure Ctr.m Ctr.wri pur Go.Vc.wri St.ev St.get St.put St.new St.kill SV.kill SV.kill1 Ob.kill St.app St.wrt St.rowsOf St.res St.killL lk er argsL SV.strip SV.need SV.share SV.share1 SV.owns SV.owns1 SV.owns2 SV.good SV.good1 SV.rok SV.rok1 SV.rok2 SV.isV SV.isV2 nodupN SV.cells SV.one SV.pur partsIn rowsIn splice cellsAt dstOk scal2 scal1 thenK blockK retK retM outK outs okC okL okA okT nilC nilL nilA nilT keepC keepL keepA keepT Go.Vc.cover tups SV.ofAgg St.out outC subL St.has rng wr Value.oneCell' Option.isSome_some Option.isSome_none List.nil_append Bool.false_eq_true List.map_cons List.map_nil List.all_cons List.all_nil List.length_cons List.length_nil List.drop_zero List.drop_succ_cons List.take_succ_cons List.take_zero List.drop_nil List.take_nil List.getElem?_cons_zero List.getElem?_cons_succ List.getElem?_nil List.cons_append List.nil_append List.append_nil List.append_assoc List.flatMap_cons List.flatMap_nil List.contains_cons List.contains_nil List.set_cons_zero List.set_cons_succ List.getElem?_toArray Option.getD_some Option.getD_none Option.map_some Option.map_none Option.bind_some Option.some.injEq Prod.mk.injEq if_true if_false true_and and_true and_self ne_eq not_true_eq_false not_false_eq_true decide_true decide_false List.mem_cons List.not_mem_nil or_false false_or true_or or_true forall_eq_or_imp forall_eq reduceCtorEq exists_eq exists_eq' exists_eq_left' exists_eq_left exists_eq_right exists_eq_right' imp_self implies_true Bool.and_true Bool.true_and Bool.and_self beq_self_eq_true List.replicate_succ List.replicate_zero forall_const false_implies pickB_or pickB_and beqT beqF Int.toNat_natCast List.length_map List.length_replicate ge_iff_le gt_iff_lt decide_eq_true_eq decide_eq_false_iff_not Bool.and_eq_true Bool.or_eq_true Bool.not_eq_true' Bool.not_eq_false' condG List.toList_toArray Bool.or_eq_false_iff Bool.and_eq_false_iff Int.not_lt Int.not_le beq_iff_eq beq_eq_false_iff_ne bne_iff_ne bne_eq_false_iff_eq ne_eq Bool.not_true Bool.not_false exists_and_left
attribute [local go_sem] cx0_t cx0_c
attribute [local irreducible] Go.Vc.WP

noncomputable def cx1 : Cx := { P := Try.prog, tys := tys, C := [(60, k60), (58, k60)], hty := tysOk, hC := COk.cons c60 (COk.cons c58 (COk.nil _)) }
theorem cx1_t : cx1.tys = tys := rfl
theorem cx1_c : cx1.C = [(60, k60), (58, k60)] := rfl
attribute [local go_sem] cx1_t cx1_c k60

def wstep (s : Option (Int × List Int)) (n : Int) : Option (Int × List Int) := s.bind fun p => if n ≤ p.1 ∨ n > 1000000 then none else some (n, p.2 ++ [n - p.1])
def wrun (L : List Int) : Option (Int × List Int) := L.foldl wstep (some (-1, []))
def weights (L : List Int) : List Int := match wrun L with | some p => p.2 | none => []
theorem wfold_none (L : List Int) : L.foldl wstep none = none := by induction L with
  | nil => rfl
  | cons a l ih => simpa [wstep] using ih
theorem wrun_take (L : List Int) (k : Nat) (h : k < L.length) : wrun (L.take (k + 1)) = wstep (wrun (L.take k)) L[k] := by
  unfold wrun
  rw [List.take_succ_eq_append_getElem h, List.foldl_append]; rfl
theorem wrun_bad (L : List Int) (k : Nat) (h : k < L.length) (hn : wstep (wrun (L.take k)) L[k] = none) : weights L = [] := by
  have e : wrun L = (L.drop (k + 1)).foldl wstep (wrun (L.take (k + 1))) := by
    unfold wrun
    rw [← List.foldl_append, List.take_append_drop]
  unfold weights
  rw [e, wrun_take L k h, hn, wfold_none]
theorem wrun_len (L : List Int) : ∀ p, wrun L = some p → p.2.length = L.length := by
  suffices h : ∀ (L : List Int) (a : Int) (o : List Int) p, L.foldl wstep (some (a, o)) = some p → p.2.length = o.length + L.length by
    intro p hp; simpa using h L (-1) [] p hp
  intro L
  induction L with
  | nil => intro a o p h; cases h; simp
  | cons x l ih =>
    intro a o p h
    simp only [List.foldl_cons, wstep, Option.bind_some] at h
    split at h
    · rw [show l.foldl wstep none = none from wfold_none l] at h; cases h
    · have := ih _ _ p h; simp at this ⊢; omega
theorem weights_len (L : List Int) : (weights L).length ≤ L.length := by
  unfold weights
  split
  · rename_i p hp; rw [wrun_len L p hp]; omega
  · simp

def kW : Ctr := pur (fun args => decI (aR args 0)) (fun L => [.sl 1 (L.map encI)]) (fun L => L.length ≤ 2097152) (fun d _ => .own d) (fun d L => [(d, .sl 3 1 ((weights L).map encI))])
theorem c16 : Cn Try.prog 16 kW := by
  refine Cn.pur Try.func16 (by kernel_rfl) rfl fun d L hL => ?_
  refine Holds.go (c := cx0) Try.func16 rfl Try.results16 Try.ntmps16 (by omega) (by simp) rfl ?_
  intro X0 w0
  (repeat' (first | refine WP.seq ?_ | (refine WP.region ?_; simp only [go_sem, tyAll, Nat.reduceAdd, Nat.reduceLT, Nat.reduceLeDiff, Nat.reduceEqDiff, Nat.reduceMul, Nat.reduceSub, Nat.reduceGT, reduceIte, Int.reduceNeg, Int.reduceToNat]) | refine WP.block ?_ | (refine WP.condW ?_; simp only [go_sem, tyAll, Nat.reduceAdd, Nat.reduceLT, Nat.reduceLeDiff, Nat.reduceEqDiff, Nat.reduceMul, Nat.reduceSub, Nat.reduceGT, reduceIte, Int.reduceNeg, Int.reduceToNat]) | (refine WP.ret ?_; simp only [go_sem, tyAll, Nat.reduceAdd, Nat.reduceLT, Nat.reduceLeDiff, Nat.reduceEqDiff, Nat.reduceMul, Nat.reduceSub, Nat.reduceGT, reduceIte, Int.reduceNeg, Int.reduceToNat]) | (refine WP.exit ?_; simp only [go_sem, tyAll, Nat.reduceAdd, Nat.reduceLT, Nat.reduceLeDiff, Nat.reduceEqDiff, Nat.reduceMul, Nat.reduceSub, Nat.reduceGT, reduceIte, Int.reduceNeg, Int.reduceToNat]) | (refine WP.skip ?_; simp only [go_sem, tyAll, Nat.reduceAdd, Nat.reduceLT, Nat.reduceLeDiff, Nat.reduceEqDiff, Nat.reduceMul, Nat.reduceSub, Nat.reduceGT, reduceIte, Int.reduceNeg, Int.reduceToNat]) |  refine And.intro ?_ ?_ | intro _))
  refine WP.loop (fun s : Nat × Int × List Int => ⟨[(0, .sl 1 (L.map encI)), (8, .sl 1 (L.map encI)), (9, .v (.int .i64 L.length)), (3, .own 7), (4, .v (.int .i64 s.2.1)), (10, .v (.int .i64 s.1))], [(7, .sl 3 1 (s.2.2.map encI))]⟩)
    (fun s => s.1 ≤ L.length ∧ wrun (L.take s.1) = some s.2 ∧ s.2.2.length = s.1 ∧ -1 ≤ s.2.1 ∧ s.2.1 ≤ 1000000) (fun s => L.length - s.1) (0, -1, []) (by simp [wrun]) ?_ ?_
  · simp only [go_sem, tyAll, Nat.reduceAdd, Nat.reduceLT, Nat.reduceLeDiff, Nat.reduceEqDiff, Nat.reduceMul, Nat.reduceSub, Nat.reduceGT, reduceIte, Int.reduceNeg, Int.reduceToNat]; rfl
  rintro ⟨k, b, o⟩ ⟨hk, hw, ho, hb1, hb2⟩
  simp only at hk hw ho hb1 hb2 ⊢
  by_cases hlt : k < L.length
  · have h1 := rowAt_map encI L k hlt
    (repeat' (first | refine WP.seq ?_ | (refine WP.region ?_; simp only [go_sem, h1, encI, tyAll, Nat.reduceAdd, Nat.reduceLT, Nat.reduceLeDiff, Nat.reduceEqDiff, Nat.reduceMul, Nat.reduceSub, Nat.reduceGT, reduceIte, Int.reduceNeg, Int.reduceToNat]) | refine WP.block ?_ | (refine WP.condW ?_; simp only [go_sem, h1, encI, tyAll, Nat.reduceAdd, Nat.reduceLT, Nat.reduceLeDiff, Nat.reduceEqDiff, Nat.reduceMul, Nat.reduceSub, Nat.reduceGT, reduceIte, Int.reduceNeg, Int.reduceToNat]) | (refine WP.ret ?_; simp only [go_sem, h1, encI, tyAll, Nat.reduceAdd, Nat.reduceLT, Nat.reduceLeDiff, Nat.reduceEqDiff, Nat.reduceMul, Nat.reduceSub, Nat.reduceGT, reduceIte, Int.reduceNeg, Int.reduceToNat]) | (refine WP.exit ?_; simp only [go_sem, h1, encI, tyAll, Nat.reduceAdd, Nat.reduceLT, Nat.reduceLeDiff, Nat.reduceEqDiff, Nat.reduceMul, Nat.reduceSub, Nat.reduceGT, reduceIte, Int.reduceNeg, Int.reduceToNat]) | (refine WP.skip ?_; simp only [go_sem, h1, encI, tyAll, Nat.reduceAdd, Nat.reduceLT, Nat.reduceLeDiff, Nat.reduceEqDiff, Nat.reduceMul, Nat.reduceSub, Nat.reduceGT, reduceIte, Int.reduceNeg, Int.reduceToNat]) |  refine And.intro ?_ ?_ | intro _))
    all_goals first | omega | skip
    · rename_i hbad
      rw [wrun_bad L k hlt (by rw [hw]; simp only [wstep, Option.bind_some]; rw [if_pos (by omega)])]
      exact ⟨3, 1, rfl⟩
    · rename_i hok
      refine ⟨(k + 1, L[k], o ++ [L[k] - b]), ⟨by simp only; omega, ?_, by simp [ho], by simp only; omega, by simp only; omega⟩, by simp only; omega, ⟨rfl, rfl⟩, ?_⟩
      · rw [wrun_take L k hlt, hw]; simp only [wstep, Option.bind_some]; rw [if_neg (by omega)]
      · simp [encI]
  · (repeat' (first | refine WP.seq ?_ | (refine WP.region ?_; simp only [go_sem, tyAll, Nat.reduceAdd, Nat.reduceLT, Nat.reduceLeDiff, Nat.reduceEqDiff, Nat.reduceMul, Nat.reduceSub, Nat.reduceGT, reduceIte, Int.reduceNeg, Int.reduceToNat]) | refine WP.block ?_ | (refine WP.condW ?_; simp only [go_sem, tyAll, Nat.reduceAdd, Nat.reduceLT, Nat.reduceLeDiff, Nat.reduceEqDiff, Nat.reduceMul, Nat.reduceSub, Nat.reduceGT, reduceIte, Int.reduceNeg, Int.reduceToNat]) | (refine WP.ret ?_; simp only [go_sem, tyAll, Nat.reduceAdd, Nat.reduceLT, Nat.reduceLeDiff, Nat.reduceEqDiff, Nat.reduceMul, Nat.reduceSub, Nat.reduceGT, reduceIte, Int.reduceNeg, Int.reduceToNat]) | (refine WP.exit ?_; simp only [go_sem, tyAll, Nat.reduceAdd, Nat.reduceLT, Nat.reduceLeDiff, Nat.reduceEqDiff, Nat.reduceMul, Nat.reduceSub, Nat.reduceGT, reduceIte, Int.reduceNeg, Int.reduceToNat]) | (refine WP.skip ?_; simp only [go_sem, tyAll, Nat.reduceAdd, Nat.reduceLT, Nat.reduceLeDiff, Nat.reduceEqDiff, Nat.reduceMul, Nat.reduceSub, Nat.reduceGT, reduceIte, Int.reduceNeg, Int.reduceToNat]) |  refine And.intro ?_ ?_ | intro _))
    all_goals first | omega | skip
    rw [show k = L.length by omega, List.take_length] at hw
    simp [weights, hw]

theorem c14 : Cn Try.prog 14 kW := by
  refine Cn.pur Try.func14 (by kernel_rfl) rfl fun d L hL => ?_
  refine Holds.go (c := cx1) Try.func14 rfl Try.results14 Try.ntmps14 (by omega) (by simp) rfl ?_
  intro X0 w0
  (repeat' (first | refine WP.seq ?_ | (refine WP.region ?_; simp only [go_sem, tyAll, Nat.reduceAdd, Nat.reduceLT, Nat.reduceLeDiff, Nat.reduceEqDiff, Nat.reduceMul, Nat.reduceSub, Nat.reduceGT, reduceIte, Int.reduceNeg, Int.reduceToNat]) | refine WP.block ?_ | (refine WP.condW ?_; simp only [go_sem, tyAll, Nat.reduceAdd, Nat.reduceLT, Nat.reduceLeDiff, Nat.reduceEqDiff, Nat.reduceMul, Nat.reduceSub, Nat.reduceGT, reduceIte, Int.reduceNeg, Int.reduceToNat]) | (refine WP.ret ?_; simp only [go_sem, tyAll, Nat.reduceAdd, Nat.reduceLT, Nat.reduceLeDiff, Nat.reduceEqDiff, Nat.reduceMul, Nat.reduceSub, Nat.reduceGT, reduceIte, Int.reduceNeg, Int.reduceToNat]) | (refine WP.exit ?_; simp only [go_sem, tyAll, Nat.reduceAdd, Nat.reduceLT, Nat.reduceLeDiff, Nat.reduceEqDiff, Nat.reduceMul, Nat.reduceSub, Nat.reduceGT, reduceIte, Int.reduceNeg, Int.reduceToNat]) | (refine WP.skip ?_; simp only [go_sem, tyAll, Nat.reduceAdd, Nat.reduceLT, Nat.reduceLeDiff, Nat.reduceEqDiff, Nat.reduceMul, Nat.reduceSub, Nat.reduceGT, reduceIte, Int.reduceNeg, Int.reduceToNat]) |  refine And.intro ?_ ?_ | intro _))
  refine WP.loop (fun s : Nat × Int × List Int => ⟨[(0, .sl 1 (L.map encI)), (3, .own 6), (4, .v (.int .i64 s.2.1)), (5, .v (.int .i64 s.1))], [(6, .sl 3 1 (s.2.2.map encI))]⟩)
    (fun s => s.1 ≤ L.length ∧ wrun (L.take s.1) = some s.2 ∧ s.2.2.length = s.1 ∧ -1 ≤ s.2.1 ∧ s.2.1 ≤ 1000000) (fun s => L.length - s.1) (0, -1, []) (by simp [wrun]) ?_ ?_
  · simp only [go_sem, tyAll, Nat.reduceAdd, Nat.reduceLT, Nat.reduceLeDiff, Nat.reduceEqDiff, Nat.reduceMul, Nat.reduceSub, Nat.reduceGT, reduceIte, Int.reduceNeg, Int.reduceToNat]; rfl
  rintro ⟨k, b, o⟩ ⟨hk, hw, ho, hb1, hb2⟩
  simp only at hk hw ho hb1 hb2 ⊢
  by_cases hlt : k < L.length
  · have h1 := rowAt_map encI L k hlt
    (repeat' (first | refine WP.seq ?_ | (refine WP.region ?_; simp only [go_sem, h1, encI, tyAll, Nat.reduceAdd, Nat.reduceLT, Nat.reduceLeDiff, Nat.reduceEqDiff, Nat.reduceMul, Nat.reduceSub, Nat.reduceGT, reduceIte, Int.reduceNeg, Int.reduceToNat]) | refine WP.block ?_ | (refine WP.condW ?_; simp only [go_sem, h1, encI, tyAll, Nat.reduceAdd, Nat.reduceLT, Nat.reduceLeDiff, Nat.reduceEqDiff, Nat.reduceMul, Nat.reduceSub, Nat.reduceGT, reduceIte, Int.reduceNeg, Int.reduceToNat]) | (refine WP.ret ?_; simp only [go_sem, h1, encI, tyAll, Nat.reduceAdd, Nat.reduceLT, Nat.reduceLeDiff, Nat.reduceEqDiff, Nat.reduceMul, Nat.reduceSub, Nat.reduceGT, reduceIte, Int.reduceNeg, Int.reduceToNat]) | (refine WP.exit ?_; simp only [go_sem, h1, encI, tyAll, Nat.reduceAdd, Nat.reduceLT, Nat.reduceLeDiff, Nat.reduceEqDiff, Nat.reduceMul, Nat.reduceSub, Nat.reduceGT, reduceIte, Int.reduceNeg, Int.reduceToNat]) | (refine WP.skip ?_; simp only [go_sem, h1, encI, tyAll, Nat.reduceAdd, Nat.reduceLT, Nat.reduceLeDiff, Nat.reduceEqDiff, Nat.reduceMul, Nat.reduceSub, Nat.reduceGT, reduceIte, Int.reduceNeg, Int.reduceToNat]) |  refine And.intro ?_ ?_ | intro _))
    all_goals first | omega | skip
    · rename_i hbad
      rw [wrun_bad L k hlt (by rw [hw]; simp only [wstep, Option.bind_some]; rw [if_pos (by omega)])]
      rfl
    · rename_i hok
      refine ⟨(k + 1, L[k], o ++ [L[k] - b]), ⟨by simp only; omega, ?_, by simp [ho], by simp only; omega, by simp only; omega⟩, by simp only; omega, ⟨rfl, rfl⟩, ?_⟩
      · rw [wrun_take L k hlt, hw]; simp only [wstep, Option.bind_some]; rw [if_neg (by omega)]
      · simp [encI]
  · (repeat' (first | refine WP.seq ?_ | (refine WP.region ?_; simp only [go_sem, tyAll, Nat.reduceAdd, Nat.reduceLT, Nat.reduceLeDiff, Nat.reduceEqDiff, Nat.reduceMul, Nat.reduceSub, Nat.reduceGT, reduceIte, Int.reduceNeg, Int.reduceToNat]) | refine WP.block ?_ | (refine WP.condW ?_; simp only [go_sem, tyAll, Nat.reduceAdd, Nat.reduceLT, Nat.reduceLeDiff, Nat.reduceEqDiff, Nat.reduceMul, Nat.reduceSub, Nat.reduceGT, reduceIte, Int.reduceNeg, Int.reduceToNat]) | (refine WP.ret ?_; simp only [go_sem, tyAll, Nat.reduceAdd, Nat.reduceLT, Nat.reduceLeDiff, Nat.reduceEqDiff, Nat.reduceMul, Nat.reduceSub, Nat.reduceGT, reduceIte, Int.reduceNeg, Int.reduceToNat]) | (refine WP.exit ?_; simp only [go_sem, tyAll, Nat.reduceAdd, Nat.reduceLT, Nat.reduceLeDiff, Nat.reduceEqDiff, Nat.reduceMul, Nat.reduceSub, Nat.reduceGT, reduceIte, Int.reduceNeg, Int.reduceToNat]) | (refine WP.skip ?_; simp only [go_sem, tyAll, Nat.reduceAdd, Nat.reduceLT, Nat.reduceLeDiff, Nat.reduceEqDiff, Nat.reduceMul, Nat.reduceSub, Nat.reduceGT, reduceIte, Int.reduceNeg, Int.reduceToNat]) |  refine And.intro ?_ ?_ | intro _))
    all_goals first | omega | skip
    rw [show k = L.length by omega, List.take_length] at hw
    simp [weights, hw]

noncomputable def cx2 : Cx := { P := Try.prog, tys := tys, C := [(15, k15), (17, k17), (18, k18), (19, k19), (14, kW), (16, kW)], hty := tysOk, hC := COk.cons c15 (COk.cons c17 (COk.cons c18 (COk.cons c19 (COk.cons c14 (COk.cons c16 (COk.nil _)))))) }
theorem cx2_t : cx2.tys = tys := rfl
theorem cx2_c : cx2.C = [(15, k15), (17, k17), (18, k18), (19, k19), (14, kW), (16, kW)] := rfl
attribute [local go_sem] cx2_t cx2_c k15 k17 k18 k19 kW decI_enc isV_It

theorem law_holds (L : List Int) : Holds Try.prog 3 [.sl 1 (L.map encI)] (.v (.bool true)) [] := by
  refine Holds.go (c := cx2) Try.func3 rfl Try.results3 Try.ntmps3 (by omega) (by simp) rfl ?_
  intro X0 w0
  have hw := weights_len L
  have h1 := marksI_len 1 L.length
  have h2 := marksI_len 1 (weights L).length
  (repeat' (first | refine WP.seq ?_ | (refine WP.region ?_; simp only [go_sem, h1, h2, tyAll, Nat.reduceAdd, Nat.reduceLT, Nat.reduceLeDiff, Nat.reduceEqDiff, Nat.reduceMul, Nat.reduceSub, Nat.reduceGT, reduceIte, Int.reduceNeg, Int.reduceToNat]) | refine WP.block ?_ | (refine WP.condW ?_; simp only [go_sem, h1, h2, tyAll, Nat.reduceAdd, Nat.reduceLT, Nat.reduceLeDiff, Nat.reduceEqDiff, Nat.reduceMul, Nat.reduceSub, Nat.reduceGT, reduceIte, Int.reduceNeg, Int.reduceToNat]) | (refine WP.ret ?_; simp only [go_sem, h1, h2, tyAll, Nat.reduceAdd, Nat.reduceLT, Nat.reduceLeDiff, Nat.reduceEqDiff, Nat.reduceMul, Nat.reduceSub, Nat.reduceGT, reduceIte, Int.reduceNeg, Int.reduceToNat]) | (refine WP.exit ?_; simp only [go_sem, h1, h2, tyAll, Nat.reduceAdd, Nat.reduceLT, Nat.reduceLeDiff, Nat.reduceEqDiff, Nat.reduceMul, Nat.reduceSub, Nat.reduceGT, reduceIte, Int.reduceNeg, Int.reduceToNat]) | (refine WP.skip ?_; simp only [go_sem, h1, h2, tyAll, Nat.reduceAdd, Nat.reduceLT, Nat.reduceLeDiff, Nat.reduceEqDiff, Nat.reduceMul, Nat.reduceSub, Nat.reduceGT, reduceIte, Int.reduceNeg, Int.reduceToNat]) |  refine And.intro ?_ ?_ | intro _))
  all_goals first | omega | exact ⟨_, _, _, rfl⟩ | skip
end Go.Proofs.Ytkikcjomjofhmaa
