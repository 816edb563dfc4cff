/-
  DERIVED. ReportOk, of the reference and of the program; the law's function.
-/
import Derived.Test.YtolnapfgfdgifaaVtPrL
namespace Go.Proofs.Ytolnapfgfdgifaa
open Go.Vc
set_option linter.unusedSimpArgs false
set_option linter.unusedVariables false
set_option maxHeartbeats 1000000
set_option maxRecDepth 10000
attribute [local go_sem] St.runR St.runW St.stepV St.step St.stepU St.stepG mkCond guardB St.prK St.pr St.prLen St.eff St.callE St.callD St.callF St.callL aI aB aS aR aC St.isM St.argL Ctr.pure Ctr.lend Ctr.move Ctr.isL Ctr.wri pur len lentBy St.lentV St.lent1 nthS argsR restOf obsR pairs swapL unObs backL St.resL erL SV.ren1 SV.up SV.up2 Ob.up St.fzL cellIds partIds St.intoRow SV.ownId St.fz SV.fz1 St.prep St.mvL St.mv SV.re1 rnOk St.prEq vals eqCells scEq Value.kd St.prStr St.prCut cutR St.bnd St.prMin St.bld isShift outL retL outJ oR oC St.ev St.get St.put St.new St.kill SV.kill SV.kill1 Ob.kill St.app St.wrt St.rowsOf St.res St.killL lk er argsL SV.strip SV.need SV.share SV.share1 SV.owns SV.owns1 SV.owns2 SV.good SV.good1 SV.rok SV.rok1 SV.rok2 SV.isV SV.isV2 nodupN SV.cells SV.one SV.pur partsIn rowsIn splice cellsAt dstOk scal2 scal1 thenK blockK retK outK outs okC okL okA okT nilC nilL nilA nilT keepC keepL keepA keepT St.runG St.dltK St.least St.clean St.final St.hide offK badS badO SV.refs SV.leaf SV.leaf2 Ob.refs dlOk fpAt Go.Vc.cover tups SV.ofAgg St.out outC subL St.has rng wr Value.oneCell' Option.isSome_some Option.isSome_none List.nil_append Bool.false_eq_true List.map_cons List.map_nil List.all_cons List.all_nil List.length_cons List.length_nil List.drop_zero List.drop_succ_cons List.take_succ_cons List.take_zero List.drop_nil List.take_nil List.getElem?_cons_zero List.getElem?_cons_succ List.getElem?_nil List.cons_append List.nil_append List.append_nil List.append_assoc List.flatMap_cons List.flatMap_nil List.contains_cons List.contains_nil List.set_cons_zero List.set_cons_succ List.getElem?_toArray Option.getD_some Option.getD_none Option.map_some Option.map_none Option.bind_some Option.some.injEq Prod.mk.injEq if_true if_false true_and and_true and_self and_false false_and Bool.and_false Bool.false_and Bool.or_true Bool.true_or Bool.or_false Bool.false_or ne_eq not_true_eq_false not_false_eq_true decide_true decide_false List.mem_cons List.not_mem_nil List.filter_cons List.filter_nil List.any_cons List.any_nil List.isEmpty_nil List.isEmpty_cons Option.getD_none or_false false_or true_or or_true forall_eq_or_imp forall_eq reduceCtorEq exists_eq exists_eq' exists_eq_left' exists_eq_left exists_eq_right exists_eq_right' imp_self implies_true Bool.and_true Bool.true_and Bool.and_self beq_self_eq_true List.replicate_succ List.replicate_zero forall_const false_implies pickB_or pickB_and beqT beqF Int.toNat_natCast List.length_map List.length_replicate ge_iff_le gt_iff_lt decide_eq_true_eq decide_eq_false_iff_not Bool.and_eq_true Bool.or_eq_true Bool.not_eq_true' Bool.not_eq_false' condG List.toList_toArray Bool.or_eq_false_iff Bool.and_eq_false_iff Int.not_lt Int.not_le beq_iff_eq beq_eq_false_iff_ne bne_iff_ne bne_eq_false_iff_eq ne_eq Bool.not_true Bool.not_false exists_and_left
attribute [local irreducible] Go.Vc.WP
attribute [local go_sem] cx0_t cx0_c
attribute [local go_sem] decNode_enc decFrame_enc oneFrame_enc stkA oneFrame_ab oneNode_abc decI_enc prA encI_inj
structure Rep where
  N : List Node
  C : List Int
  kept : Int
  skip : Int
deriving DecidableEq
def encRep (x : Rep) : List SV := [.sl 3 (x.N.map encNode), .sl 1 (x.C.map encI), .v (.int .i64 x.kept), .v (.int .i64 x.skip)]
def repA (args : List SV) (i : Nat) : Rep := match args[i]? with
  | some (.agg [.sl _ r, .sl _ q, .v (.int _ k), .v (.int _ s)]) => ⟨decNode r, decI q, k, s⟩
  | _ => ⟨[], [], 0, 0⟩
attribute [local go_sem] repA
def repOk (x : Rep) : Bool := profileOk x.N x.C && (x.kept == totalOf x.N x.C) && (decide (0 ≤ x.skip) && decide (x.skip ≤ 1000000000000))
def wfR (x : Rep) : Prop := wfP (x.N, x.C)
def kRepOk : Ctr := pur (fun args => repA args 0) (fun x => [.agg [.sl 3 (x.N.map encNode), .sl 1 (x.C.map encI), .v (.int .i64 x.kept), .v (.int .i64 x.skip)]]) wfR (fun _ x => .v (.bool (repOk x))) (fun _ _ => [])
section
noncomputable def cxRoI : Cx := { P := Try.prog, tys := tys, C := [(14, kPrOk), (15, kTotal), (16, k60)], hty := tysOk, hC := COk.cons cPrOkI (COk.cons cTotalI (COk.cons c60 (COk.nil _))) }
theorem cxRoI_t : cxRoI.tys = tys := rfl
theorem cxRoI_c : cxRoI.C = [(14, kPrOk), (15, kTotal), (16, k60)] := rfl
attribute [local go_sem] cxRoI_t cxRoI_c kPrOk kTotal k60
theorem cRepOkI : Cn Try.prog 7 kRepOk := by
  refine Cn.pur Try.func7 (by kernel_rfl) rfl fun d x hx => ?_
  obtain ⟨N, C, kept, sk⟩ := x
  obtain ⟨⟨hN, hs⟩, hC⟩ := hx
  simp only at hN hs hC ⊢
  refine Holds.go (c := cxRoI) Try.func7 rfl Try.results7 Try.ntmps7 (by omega) (by simp) rfl ?_
  intro X0 w0
  (repeat' (first | refine WP.seq ?_ | (refine WP.region ?_; simp only [go_sem, tyAll, Nat.reduceAdd, Nat.reduceLT, Nat.reduceLeDiff, Nat.reduceEqDiff, Nat.reduceMul, Nat.reduceSub, Nat.reduceGT, reduceIte, Int.reduceNeg, Int.reduceToNat]) | refine WP.block ?_ | (refine WP.condW ?_; simp only [go_sem, tyAll, Nat.reduceAdd, Nat.reduceLT, Nat.reduceLeDiff, Nat.reduceEqDiff, Nat.reduceMul, Nat.reduceSub, Nat.reduceGT, reduceIte, Int.reduceNeg, Int.reduceToNat]) | (refine WP.ret ?_; simp only [go_sem, tyAll, Nat.reduceAdd, Nat.reduceLT, Nat.reduceLeDiff, Nat.reduceEqDiff, Nat.reduceMul, Nat.reduceSub, Nat.reduceGT, reduceIte, Int.reduceNeg, Int.reduceToNat]) | (refine WP.exit ?_; simp only [go_sem, tyAll, Nat.reduceAdd, Nat.reduceLT, Nat.reduceLeDiff, Nat.reduceEqDiff, Nat.reduceMul, Nat.reduceSub, Nat.reduceGT, reduceIte, Int.reduceNeg, Int.reduceToNat]) | (refine WP.skip ?_; simp only [go_sem, tyAll, Nat.reduceAdd, Nat.reduceLT, Nat.reduceLeDiff, Nat.reduceEqDiff, Nat.reduceMul, Nat.reduceSub, Nat.reduceGT, reduceIte, Int.reduceNeg, Int.reduceToNat]) | (refine WP.drawW 16 (by decide +kernel) (by kernel_rfl) ?_; simp only [go_sem, tyAll, Nat.reduceAdd, Nat.reduceLT, Nat.reduceLeDiff, Nat.reduceEqDiff, Nat.reduceMul, Nat.reduceSub, Nat.reduceGT, reduceIte, Int.reduceNeg, Int.reduceToNat]) |  refine And.intro ?_ ?_ | intro _))
  all_goals first | omega | exact hs _ ‹_› | skip
  all_goals simp_all [repOk]
end
section
noncomputable def cxRoS : Cx := { P := Try.prog, tys := tys, C := [(10, kPrOk), (11, kTotal), (12, k60)], hty := tysOk, hC := COk.cons cPrOkS (COk.cons cTotalS (COk.cons c58 (COk.nil _))) }
theorem cxRoS_t : cxRoS.tys = tys := rfl
theorem cxRoS_c : cxRoS.C = [(10, kPrOk), (11, kTotal), (12, k60)] := rfl
attribute [local go_sem] cxRoS_t cxRoS_c kPrOk kTotal k60
theorem cRepOkS : Cn Try.prog 5 kRepOk := by
  refine Cn.pur Try.func5 (by kernel_rfl) rfl fun d x hx => ?_
  obtain ⟨N, C, kept, sk⟩ := x
  obtain ⟨⟨hN, hs⟩, hC⟩ := hx
  simp only at hN hs hC ⊢
  refine Holds.go (c := cxRoS) Try.func5 rfl Try.results5 Try.ntmps5 (by omega) (by simp) rfl ?_
  intro X0 w0
  (repeat' (first | refine WP.seq ?_ | (refine WP.region ?_; simp only [go_sem, tyAll, Nat.reduceAdd, Nat.reduceLT, Nat.reduceLeDiff, Nat.reduceEqDiff, Nat.reduceMul, Nat.reduceSub, Nat.reduceGT, reduceIte, Int.reduceNeg, Int.reduceToNat]) | refine WP.block ?_ | (refine WP.condW ?_; simp only [go_sem, tyAll, Nat.reduceAdd, Nat.reduceLT, Nat.reduceLeDiff, Nat.reduceEqDiff, Nat.reduceMul, Nat.reduceSub, Nat.reduceGT, reduceIte, Int.reduceNeg, Int.reduceToNat]) | (refine WP.ret ?_; simp only [go_sem, tyAll, Nat.reduceAdd, Nat.reduceLT, Nat.reduceLeDiff, Nat.reduceEqDiff, Nat.reduceMul, Nat.reduceSub, Nat.reduceGT, reduceIte, Int.reduceNeg, Int.reduceToNat]) | (refine WP.exit ?_; simp only [go_sem, tyAll, Nat.reduceAdd, Nat.reduceLT, Nat.reduceLeDiff, Nat.reduceEqDiff, Nat.reduceMul, Nat.reduceSub, Nat.reduceGT, reduceIte, Int.reduceNeg, Int.reduceToNat]) | (refine WP.skip ?_; simp only [go_sem, tyAll, Nat.reduceAdd, Nat.reduceLT, Nat.reduceLeDiff, Nat.reduceEqDiff, Nat.reduceMul, Nat.reduceSub, Nat.reduceGT, reduceIte, Int.reduceNeg, Int.reduceToNat]) | (refine WP.drawW 16 (by decide +kernel) (by kernel_rfl) ?_; simp only [go_sem, tyAll, Nat.reduceAdd, Nat.reduceLT, Nat.reduceLeDiff, Nat.reduceEqDiff, Nat.reduceMul, Nat.reduceSub, Nat.reduceGT, reduceIte, Int.reduceNeg, Int.reduceToNat]) |  refine And.intro ?_ ?_ | intro _))
  all_goals first | omega | exact hs _ ‹_› | skip
  all_goals simp_all [repOk]
end
def kszRep : Ctr := pur (fun args => (repA args 0, aI args 1)) (fun x => [.agg [.sl 3 (x.1.N.map encNode), .sl 1 (x.1.C.map encI), .v (.int .i64 x.1.kept), .v (.int .i64 x.1.skip)], .v (.int .i64 x.2)]) (fun x => wfM (x.1.N, x.1.C) ∧ 0 ≤ x.2 ∧ x.2 ≤ 1048576)
  (fun _ x => .v (.int .i64 (szvPr (x.1.N, x.1.C) x.2))) (fun _ _ => [])
section
noncomputable def cxSzRep : Cx := { P := Try.prog, tys := tys, C := [(9, kszPr)], hty := tysOk, hC := COk.cons cszPr (COk.nil _) }
theorem cxSzRep_t : cxSzRep.tys = tys := rfl
theorem cxSzRep_c : cxSzRep.C = [(9, kszPr)] := rfl
attribute [local go_sem] cxSzRep_t cxSzRep_c kszPr
theorem cszRep : Cn Try.prog 4 kszRep := by
  refine Cn.pur Try.func4 (by kernel_rfl) rfl fun d x hx => ?_
  obtain ⟨⟨N, C, kept, sk⟩, left⟩ := x
  obtain ⟨⟨hN, hs, hC⟩, h0, h1⟩ := hx
  simp only at hN hs hC h0 h1 ⊢
  refine Holds.go (c := cxSzRep) Try.func4 rfl Try.results4 Try.ntmps4 (by omega) (by simp) rfl ?_
  intro X0 w0
  (repeat' (first | refine WP.seq ?_ | (refine WP.region ?_; simp only [go_sem, tyAll, Nat.reduceAdd, Nat.reduceLT, Nat.reduceLeDiff, Nat.reduceEqDiff, Nat.reduceMul, Nat.reduceSub, Nat.reduceGT, reduceIte, Int.reduceNeg, Int.reduceToNat]) | refine WP.block ?_ | (refine WP.condW ?_; simp only [go_sem, tyAll, Nat.reduceAdd, Nat.reduceLT, Nat.reduceLeDiff, Nat.reduceEqDiff, Nat.reduceMul, Nat.reduceSub, Nat.reduceGT, reduceIte, Int.reduceNeg, Int.reduceToNat]) | (refine WP.ret ?_; simp only [go_sem, tyAll, Nat.reduceAdd, Nat.reduceLT, Nat.reduceLeDiff, Nat.reduceEqDiff, Nat.reduceMul, Nat.reduceSub, Nat.reduceGT, reduceIte, Int.reduceNeg, Int.reduceToNat]) | (refine WP.exit ?_; simp only [go_sem, tyAll, Nat.reduceAdd, Nat.reduceLT, Nat.reduceLeDiff, Nat.reduceEqDiff, Nat.reduceMul, Nat.reduceSub, Nat.reduceGT, reduceIte, Int.reduceNeg, Int.reduceToNat]) | (refine WP.skip ?_; simp only [go_sem, tyAll, Nat.reduceAdd, Nat.reduceLT, Nat.reduceLeDiff, Nat.reduceEqDiff, Nat.reduceMul, Nat.reduceSub, Nat.reduceGT, reduceIte, Int.reduceNeg, Int.reduceToNat]) |  refine And.intro ?_ ?_ | intro _))
  all_goals first | omega | exact hs _ ‹_› | exact ⟨hN, hs, hC⟩ | skip
  · rename_i h; rw [szvPr_neg h]
end
def ktoRep : Ctr := pur (fun args => repA args 0) (fun x => [.agg [.sl 3 (x.N.map encNode), .sl 1 (x.C.map encI), .v (.int .i64 x.kept), .v (.int .i64 x.skip)]]) (fun x => x.N.length ≤ 2097152 ∧ x.C.length ≤ 2097152)
  (fun d x => .agg [.own d, .own (d + 1000), .v (.int .i64 x.kept), .v (.int .i64 x.skip)]) (fun d x => [(d, .sl 59 3 (x.N.map encNode)), (d + 1000, .sl 3 1 (x.C.map encI))])
section
noncomputable def cxToRep : Cx := { P := Try.prog, tys := tys, C := [(13, ktoPr)], hty := tysOk, hC := COk.cons ctoPr (COk.nil _) }
theorem cxToRep_t : cxToRep.tys = tys := rfl
theorem cxToRep_c : cxToRep.C = [(13, ktoPr)] := rfl
attribute [local go_sem] cxToRep_t cxToRep_c ktoPr
theorem ctoRep : Cn Try.prog 6 ktoRep := by
  refine Cn.pur Try.func6 (by kernel_rfl) rfl fun d x hx => ?_
  obtain ⟨N, C, kept, sk⟩ := x
  obtain ⟨hN, hC⟩ := hx
  simp only at hN hC ⊢
  refine Holds.go (c := cxToRep) Try.func6 rfl Try.results6 Try.ntmps6 (by omega) (by simp) rfl ?_
  intro X0 w0
  (repeat' (first | refine WP.seq ?_ | (refine WP.region ?_; simp only [go_sem, tyAll, Nat.reduceAdd, Nat.reduceLT, Nat.reduceLeDiff, Nat.reduceEqDiff, Nat.reduceMul, Nat.reduceSub, Nat.reduceGT, reduceIte, Int.reduceNeg, Int.reduceToNat]) | refine WP.block ?_ | (refine WP.condW ?_; simp only [go_sem, tyAll, Nat.reduceAdd, Nat.reduceLT, Nat.reduceLeDiff, Nat.reduceEqDiff, Nat.reduceMul, Nat.reduceSub, Nat.reduceGT, reduceIte, Int.reduceNeg, Int.reduceToNat]) | (refine WP.ret ?_; simp only [go_sem, tyAll, Nat.reduceAdd, Nat.reduceLT, Nat.reduceLeDiff, Nat.reduceEqDiff, Nat.reduceMul, Nat.reduceSub, Nat.reduceGT, reduceIte, Int.reduceNeg, Int.reduceToNat]) | (refine WP.exit ?_; simp only [go_sem, tyAll, Nat.reduceAdd, Nat.reduceLT, Nat.reduceLeDiff, Nat.reduceEqDiff, Nat.reduceMul, Nat.reduceSub, Nat.reduceGT, reduceIte, Int.reduceNeg, Int.reduceToNat]) | (refine WP.skip ?_; simp only [go_sem, tyAll, Nat.reduceAdd, Nat.reduceLT, Nat.reduceLeDiff, Nat.reduceEqDiff, Nat.reduceMul, Nat.reduceSub, Nat.reduceGT, reduceIte, Int.reduceNeg, Int.reduceToNat]) |  refine And.intro ?_ ?_ | intro _))
  all_goals first | omega | exact ⟨_, _, _, rfl⟩ | exact ⟨_, _, rfl, _, _, rfl, rfl⟩ | (rw [if_neg (by omega)]) | skip
end
def keqRep : Ctr := pur (fun args => (repA args 0, repA args 1)) (fun x => [.agg [.sl 3 (x.1.N.map encNode), .sl 1 (x.1.C.map encI), .v (.int .i64 x.1.kept), .v (.int .i64 x.1.skip)], .agg [.sl 3 (x.2.N.map encNode), .sl 1 (x.2.C.map encI), .v (.int .i64 x.2.kept), .v (.int .i64 x.2.skip)]]) (fun x => x.1.N.length ≤ 2097152 ∧ x.1.C.length ≤ 2097152)
  (fun _ x => .v (.bool (decide (x.1 = x.2)))) (fun _ _ => [])
section
noncomputable def cxEqRep : Cx := { P := Try.prog, tys := tys, C := [(17, keqPr)], hty := tysOk, hC := COk.cons ceqPr (COk.nil _) }
theorem cxEqRep_t : cxEqRep.tys = tys := rfl
theorem cxEqRep_c : cxEqRep.C = [(17, keqPr)] := rfl
attribute [local go_sem] cxEqRep_t cxEqRep_c keqPr
theorem ceqRep : Cn Try.prog 8 keqRep := by
  refine Cn.pur Try.func8 (by kernel_rfl) rfl fun d x hx => ?_
  obtain ⟨⟨N, C, k1, s1⟩, ⟨M, D, k2, s2⟩⟩ := x
  simp only at hx ⊢
  refine Holds.go (c := cxEqRep) Try.func8 rfl Try.results8 Try.ntmps8 (by omega) (by simp) rfl ?_
  intro X0 w0
  (repeat' (first | refine WP.seq ?_ | (refine WP.region ?_; simp only [go_sem, tyAll, Nat.reduceAdd, Nat.reduceLT, Nat.reduceLeDiff, Nat.reduceEqDiff, Nat.reduceMul, Nat.reduceSub, Nat.reduceGT, reduceIte, Int.reduceNeg, Int.reduceToNat]) | refine WP.block ?_ | (refine WP.condW ?_; simp only [go_sem, tyAll, Nat.reduceAdd, Nat.reduceLT, Nat.reduceLeDiff, Nat.reduceEqDiff, Nat.reduceMul, Nat.reduceSub, Nat.reduceGT, reduceIte, Int.reduceNeg, Int.reduceToNat]) | (refine WP.ret ?_; simp only [go_sem, tyAll, Nat.reduceAdd, Nat.reduceLT, Nat.reduceLeDiff, Nat.reduceEqDiff, Nat.reduceMul, Nat.reduceSub, Nat.reduceGT, reduceIte, Int.reduceNeg, Int.reduceToNat]) | (refine WP.exit ?_; simp only [go_sem, tyAll, Nat.reduceAdd, Nat.reduceLT, Nat.reduceLeDiff, Nat.reduceEqDiff, Nat.reduceMul, Nat.reduceSub, Nat.reduceGT, reduceIte, Int.reduceNeg, Int.reduceToNat]) | (refine WP.skip ?_; simp only [go_sem, tyAll, Nat.reduceAdd, Nat.reduceLT, Nat.reduceLeDiff, Nat.reduceEqDiff, Nat.reduceMul, Nat.reduceSub, Nat.reduceGT, reduceIte, Int.reduceNeg, Int.reduceToNat]) |  refine And.intro ?_ ?_ | intro _))
  all_goals first | omega | simp_all | skip
end
section
noncomputable def cxRoL : Cx := { P := Try.prog, tys := tys, C := [(4, kszRep), (6, ktoRep), (8, keqRep), (5, kRepOk), (7, kRepOk)], hty := tysOk, hC := COk.cons cszRep (COk.cons ctoRep (COk.cons ceqRep (COk.cons cRepOkS (COk.cons cRepOkI (COk.nil _))))) }
theorem cxRoL_t : cxRoL.tys = tys := rfl
theorem cxRoL_c : cxRoL.C = [(4, kszRep), (6, ktoRep), (8, keqRep), (5, kRepOk), (7, kRepOk)] := rfl
attribute [local go_sem] cxRoL_t cxRoL_c kszRep ktoRep keqRep kRepOk
theorem lawReportOk (x : Rep) (hx : wfM (x.N, x.C)) : Holds Try.prog 3 [.agg (encRep x)] (.v (.bool true)) [] := by
  obtain ⟨N, C, kept, sk⟩ := x
  obtain ⟨hN, hs, hC⟩ := hx
  simp only [encRep] at hN hs hC ⊢
  refine Holds.go (c := cxRoL) Try.func3 rfl Try.results3 Try.ntmps3 (by omega) (by simp) rfl ?_
  intro X0 w0
  have key : 0 ≤ szvPr (N, C) 1048576 → (N.length ≤ 1048576 ∧ ∀ n ∈ N, n.name.size ≤ 1048576) ∧ C.length ≤ 1048576 := fun h => szvPr_ok (x := (N, C)) (l := 1048576) (Int.le_refl _) (Int.not_lt.2 h)
  have key1 : 0 ≤ szvPr (N, C) 1048576 → N.length ≤ 1048576 := fun h => (key h).1.1
  have key2 : 0 ≤ szvPr (N, C) 1048576 → C.length ≤ 1048576 := fun h => (key h).2
  (repeat' (first | refine WP.seq ?_ | (refine WP.region ?_; simp only [go_sem, tyAll, Nat.reduceAdd, Nat.reduceLT, Nat.reduceLeDiff, Nat.reduceEqDiff, Nat.reduceMul, Nat.reduceSub, Nat.reduceGT, reduceIte, Int.reduceNeg, Int.reduceToNat]) | refine WP.block ?_ | (refine WP.condW ?_; simp only [go_sem, tyAll, Nat.reduceAdd, Nat.reduceLT, Nat.reduceLeDiff, Nat.reduceEqDiff, Nat.reduceMul, Nat.reduceSub, Nat.reduceGT, reduceIte, Int.reduceNeg, Int.reduceToNat]) | (refine WP.ret ?_; simp only [go_sem, tyAll, Nat.reduceAdd, Nat.reduceLT, Nat.reduceLeDiff, Nat.reduceEqDiff, Nat.reduceMul, Nat.reduceSub, Nat.reduceGT, reduceIte, Int.reduceNeg, Int.reduceToNat]) | (refine WP.exit ?_; simp only [go_sem, tyAll, Nat.reduceAdd, Nat.reduceLT, Nat.reduceLeDiff, Nat.reduceEqDiff, Nat.reduceMul, Nat.reduceSub, Nat.reduceGT, reduceIte, Int.reduceNeg, Int.reduceToNat]) | (refine WP.skip ?_; simp only [go_sem, tyAll, Nat.reduceAdd, Nat.reduceLT, Nat.reduceLeDiff, Nat.reduceEqDiff, Nat.reduceMul, Nat.reduceSub, Nat.reduceGT, reduceIte, Int.reduceNeg, Int.reduceToNat]) | (refine WP.flowW 3 [⟨[5], [], [], [24, 1024], [], []⟩, ⟨[1], [], [], [24, 1024], [], []⟩, ⟨[23], [1], [], [], [], [24, 1024]⟩, ⟨[], [0, 1, 2], [], [], [], []⟩, ⟨[], [0, 1, 2, 3], [], [], [], []⟩] [22, 23, 24] [24, 1024] [] (by kernel_rfl) (by kernel_rfl) (by kernel_rfl) (by kernel_rfl) ?_; simp only [go_sem, tyAll, Nat.reduceAdd, Nat.reduceLT, Nat.reduceLeDiff, Nat.reduceEqDiff, Nat.reduceMul, Nat.reduceSub, Nat.reduceGT, reduceIte, Int.reduceNeg, Int.reduceToNat]) |  refine And.intro ?_ ?_ | intro _))
  all_goals first | omega | exact ⟨_, _, _, rfl⟩ | exact hs _ ‹_› | exact Nat.le_trans (key1 ‹_›) (by omega) | exact Nat.le_trans (key2 ‹_›) (by omega) | exact Nat.le_trans ((key ‹_›).1.2 _ ‹_›) (by omega) | skip
end
end Go.Proofs.Ytolnapfgfdgifaa
