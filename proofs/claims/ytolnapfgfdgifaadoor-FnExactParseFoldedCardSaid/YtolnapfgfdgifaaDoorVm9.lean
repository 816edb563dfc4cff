/-
  DERIVED. Several texts of ours in one: VtEntS, VtNum, VtFld, VtTot, VtPrL, VtPrM.
-/
import Derived.Test.YtolnapfgfdgifaaDoorVm0
import Derived.Test.YtolnapfgfdgifaaDoorVm1
import Derived.Test.YtolnapfgfdgifaaDoorVm2
import Derived.Test.YtolnapfgfdgifaaDoorVm3
import Derived.Test.YtolnapfgfdgifaaDoorVm4
import Derived.Test.YtolnapfgfdgifaaDoorVm5
import Derived.Test.YtolnapfgfdgifaaDoorVm6
import Derived.Test.YtolnapfgfdgifaaDoorVm7
import Derived.Test.YtolnapfgfdgifaaDoorVm8
/-
  DERIVED. ProfileOf, of the reference.
-/
namespace Go.Proofs.YtolnapfgfdgifaaDoor
open Go.Vc
set_option linter.unusedSimpArgs false
set_option linter.unusedVariables false
set_option maxHeartbeats 1000000
set_option maxRecDepth 10000
attribute [local go_sem] St.runR St.runW St.stepV offV St.step St.stepU St.stepG mkCond guardB St.prK St.pr St.prLen St.eff St.callE St.callD St.callF St.callL aI aB aS aR aC St.isM St.argL Ctr.pure Ctr.lend Ctr.move Ctr.isL Ctr.wri pur len lentBy St.lentV St.lent1 nthS argsR restOf obsR pairs swapL unObs backL St.resL erL SV.ren1 SV.up SV.up2 Ob.up St.fzL cellIds partIds St.intoRow SV.ownId St.fz SV.fz1 St.prep St.mvL St.mv SV.re1 rnOk St.prEq vals eqCells scEq Value.kd St.prStr St.prCut cutR St.bnd St.prMin St.bld isShift outL retL outJ oR oC St.ev St.get St.put St.new St.kill SV.kill SV.kill1 Ob.kill St.app St.wrt St.rowsOf St.res St.killL lk er argsL SV.strip SV.need SV.share SV.share1 SV.owns SV.owns1 SV.owns2 SV.good SV.good1 SV.rok SV.rok1 SV.rok2 SV.isV SV.isV2 nodupN SV.cells SV.one SV.pur partsIn rowsIn splice cellsAt dstOk scal2 scal1 thenK blockK retK outK outs okC okL okA okT nilC nilL nilA nilT keepC keepL keepA keepT St.runG St.dltK St.least St.clean St.final St.hide offK badS badO SV.refs SV.leaf SV.leaf2 Ob.refs dlOk fpAt Go.Vc.cover tups SV.ofAgg St.out outC subL St.has rng wr Value.oneCell' Option.isSome_some Option.isSome_none List.nil_append Bool.false_eq_true List.map_cons List.map_nil List.all_cons List.all_nil List.length_cons List.length_nil List.drop_zero List.drop_succ_cons List.take_succ_cons List.take_zero List.drop_nil List.take_nil List.getElem?_cons_zero List.getElem?_cons_succ List.getElem?_nil List.cons_append List.nil_append List.append_nil List.append_assoc List.flatMap_cons List.flatMap_nil List.contains_cons List.contains_nil List.set_cons_zero List.set_cons_succ List.getElem?_toArray Option.getD_some Option.getD_none Option.map_some Option.map_none Option.bind_some Option.some.injEq Prod.mk.injEq if_true if_false true_and and_true and_self and_false false_and Bool.and_false Bool.false_and Bool.or_true Bool.true_or Bool.or_false Bool.false_or ne_eq not_true_eq_false not_false_eq_true decide_true decide_false List.mem_cons List.not_mem_nil List.filter_cons List.filter_nil List.any_cons List.any_nil List.isEmpty_nil List.isEmpty_cons Option.getD_none or_false false_or true_or or_true forall_eq_or_imp forall_eq reduceCtorEq exists_eq exists_eq' exists_eq_left' exists_eq_left exists_eq_right exists_eq_right' imp_self implies_true Bool.and_true Bool.true_and Bool.and_self beq_self_eq_true List.replicate_succ List.replicate_zero forall_const false_implies pickB_or pickB_and beqT beqF Int.toNat_natCast List.length_map List.length_replicate ge_iff_le gt_iff_lt decide_eq_true_eq decide_eq_false_iff_not Bool.and_eq_true Bool.or_eq_true Bool.not_eq_true' Bool.not_eq_false' condG List.toList_toArray Bool.or_eq_false_iff Bool.and_eq_false_iff Int.not_lt Int.not_le beq_iff_eq beq_eq_false_iff_ne bne_iff_ne bne_eq_false_iff_eq ne_eq Bool.not_true Bool.not_false exists_and_left
attribute [local irreducible] Go.Vc.WP
attribute [local go_sem] cx0_t cx0_c
attribute [local go_sem] isV_Node isV_It isV_Entry decNode_enc decFrame_enc oneFrame_enc stkA oneFrame_ab oneNode_abc decI_enc decS_enc aU prA decEntry_enc St.ado St.adoptB St.adoptS rp isNil St.fzS addL behind
section
noncomputable def cxPfS : Cx := { P := Tryd.prog, tys := tys, C := [(48, kParseF), (49, kAddStack)], hty := tysOk, hC := COk.cons cParseFS (COk.cons cAddStackS (COk.nil _)) }
theorem cxPfS_t : cxPfS.tys = tys := rfl
theorem cxPfS_c : cxPfS.C = [(48, kParseF), (49, kAddStack)] := rfl
attribute [local go_sem] cxPfS_t cxPfS_c kParseF kAddStack
theorem cProfOfS : Cn Tryd.prog 25 kProfOf := by
  refine Cn.pur Tryd.func25 (by kernel_rfl) rfl fun d x hx => ?_
  rename List Entry => L
  have hL := hx.1
  refine Holds.go (c := cxPfS) Tryd.func25 rfl Tryd.results25 Tryd.ntmps25 (by omega) (by simp) rfl ?_
  intro X0 w0
  (repeat' (first | refine WP.seq ?_ | (refine WP.region ?_; simp only [go_sem, tyAll, Nat.reduceAdd, Nat.reduceLT, Nat.reduceLeDiff, Nat.reduceEqDiff, Nat.reduceMul, Nat.reduceSub, Nat.reduceGT, reduceIte, Int.reduceNeg, Int.reduceToNat]) | refine WP.block ?_ | (refine WP.condW ?_; simp only [go_sem, tyAll, Nat.reduceAdd, Nat.reduceLT, Nat.reduceLeDiff, Nat.reduceEqDiff, Nat.reduceMul, Nat.reduceSub, Nat.reduceGT, reduceIte, Int.reduceNeg, Int.reduceToNat]) | (refine WP.ret ?_; simp only [go_sem, tyAll, Nat.reduceAdd, Nat.reduceLT, Nat.reduceLeDiff, Nat.reduceEqDiff, Nat.reduceMul, Nat.reduceSub, Nat.reduceGT, reduceIte, Int.reduceNeg, Int.reduceToNat]) | (refine WP.exit ?_; simp only [go_sem, tyAll, Nat.reduceAdd, Nat.reduceLT, Nat.reduceLeDiff, Nat.reduceEqDiff, Nat.reduceMul, Nat.reduceSub, Nat.reduceGT, reduceIte, Int.reduceNeg, Int.reduceToNat]) | (refine WP.skip ?_; simp only [go_sem, tyAll, Nat.reduceAdd, Nat.reduceLT, Nat.reduceLeDiff, Nat.reduceEqDiff, Nat.reduceMul, Nat.reduceSub, Nat.reduceGT, reduceIte, Int.reduceNeg, Int.reduceToNat]) | (refine WP.flowE 12 10 [] 12 [⟨[4], [], [], [8, 34, 1034], [], []⟩, ⟨[6], [], [], [8, 34, 1034], [], []⟩, ⟨[0], [], [], [8, 34, 1034], [], []⟩, ⟨[5], [], [], [8, 34, 1034], [], []⟩, ⟨[29, 30], [2, 3], [], [8, 34, 1034], [], []⟩, ⟨[31], [2, 3, 4], [], [8, 34, 1034], [], []⟩, ⟨[32], [2, 3, 4, 5], [], [8, 34, 1034], [], []⟩, ⟨[27, 28, 33], [0, 1, 2, 3, 4, 5, 6], [], [8], [], [34, 1034]⟩, ⟨[34], [0, 1, 2, 3, 4, 5, 6, 7], [], [8], [], []⟩, ⟨[26], [0, 1, 2, 3, 4, 5, 6, 7, 8], [], [8], [], []⟩, ⟨[26], [0, 1, 2, 3, 4, 5, 6, 7, 8], [], [8], [], []⟩, ⟨[], [], [], [34, 1034], [], [8]⟩, ⟨[], [0, 1, 2, 3, 4, 5, 6, 7, 8, 9, 10, 11], [], [], [], []⟩, ⟨[], [0, 1, 2, 3, 4, 5, 6, 7, 8, 9, 10, 11, 12], [], [], [], []⟩] [8, 26, 27, 28, 29, 30, 31, 32, 33, 34, 35, 36] [8, 34, 1034] [] (by decide +kernel) (by decide +kernel) (by kernel_rfl) (by kernel_rfl) (by kernel_rfl) ?_; simp only [go_sem, tyAll, Nat.reduceAdd, Nat.reduceLT, Nat.reduceLeDiff, Nat.reduceEqDiff, Nat.reduceMul, Nat.reduceSub, Nat.reduceGT, reduceIte, Int.reduceNeg, Int.reduceToNat]) |  refine And.intro ?_ ?_ | intro _))
  all_goals first | omega | skip
  refine WP.ado [.b 4 0 34 87 3, .b 4 1 1034 3 1] ?_
  refine WP.loop (fun q : Nat × List Node × List Int => ⟨[(0, .sl 2 (L.map encEntry)), (2, .ptr 2 0 0 0), (4, .ptr 4 0 0 0), (5, .v (.int .i64 q.1))],
    [(2, .box 34 [.v (.slice none 0 0), .v (.slice none 0 0)]), (4, .box 34 [.own 34, .own 1034]), (34, .sl 87 3 (q.2.1.map encNode)), (1034, .sl 3 1 (q.2.2.map encI))]⟩)
    (fun q => q.1 ≤ L.length ∧ eInv L q.1 q.2) (fun q => L.length - q.1) (0, [], []) ⟨by simp, eInv_zero L⟩ ?_ ?_
  · (simp only [go_sem, tyAll, Nat.reduceAdd, Nat.reduceLT, Nat.reduceLeDiff, Nat.reduceEqDiff, Nat.reduceMul, Nat.reduceSub, Nat.reduceGT, reduceIte, Int.reduceNeg, Int.reduceToNat] <;> (first | rfl | exact ⟨rfl, rfl⟩ | exact ⟨rfl, rfl, rfl⟩ | exact ⟨rfl, rfl, rfl, rfl⟩ | exact ⟨rfl, rfl, rfl, rfl, rfl⟩ | exact ⟨⟨rfl, rfl⟩, rfl⟩ | simp))
  rintro ⟨k, N, C⟩ ⟨hk, hI⟩
  simp only at hk hI ⊢
  refine WP.prep [] [(34, 50), (1034, 1050)] rfl ?_
  have h2 := hI.2.1
  have h3 := hI.2.2.1
  have h4 := hI.2.2.2
  simp only at h2 h3 h4
  have hnb : ∀ x ∈ N, x.name.size ≤ 1099511627776 := fun x hx => by have := h4 x hx; omega
  by_cases hlt : k < L.length
  · have hli : (k : Int) < L.length := by omega
    have h1 := rowAt_map encEntry L k hlt
    have hsz := hx.2 _ (List.getElem_mem hlt)
    cases hp : parseF L[k].stack with
    | none =>
      have hno := eInv_none hI hlt hp
      have hemp := addStack_nil N C L[k].count
      have hdf : decFrame [] = [] := rfl
      (repeat' (first | refine WP.seq ?_ | (refine WP.region ?_; simp only [go_sem, hli, h1, encEntry, hp, hemp, hdf, tyAll, Nat.reduceAdd, Nat.reduceLT, Nat.reduceLeDiff, Nat.reduceEqDiff, Nat.reduceMul, Nat.reduceSub, Nat.reduceGT, reduceIte, Int.reduceNeg, Int.reduceToNat]) | refine WP.block ?_ | (refine WP.condW ?_; simp only [go_sem, hli, h1, encEntry, hp, hemp, hdf, tyAll, Nat.reduceAdd, Nat.reduceLT, Nat.reduceLeDiff, Nat.reduceEqDiff, Nat.reduceMul, Nat.reduceSub, Nat.reduceGT, reduceIte, Int.reduceNeg, Int.reduceToNat]) | (refine WP.ret ?_; simp only [go_sem, hli, h1, encEntry, hp, hemp, hdf, tyAll, Nat.reduceAdd, Nat.reduceLT, Nat.reduceLeDiff, Nat.reduceEqDiff, Nat.reduceMul, Nat.reduceSub, Nat.reduceGT, reduceIte, Int.reduceNeg, Int.reduceToNat]) | (refine WP.exit ?_; simp only [go_sem, hli, h1, encEntry, hp, hemp, hdf, tyAll, Nat.reduceAdd, Nat.reduceLT, Nat.reduceLeDiff, Nat.reduceEqDiff, Nat.reduceMul, Nat.reduceSub, Nat.reduceGT, reduceIte, Int.reduceNeg, Int.reduceToNat]) | (refine WP.skip ?_; simp only [go_sem, hli, h1, encEntry, hp, hemp, hdf, tyAll, Nat.reduceAdd, Nat.reduceLT, Nat.reduceLeDiff, Nat.reduceEqDiff, Nat.reduceMul, Nat.reduceSub, Nat.reduceGT, reduceIte, Int.reduceNeg, Int.reduceToNat]) | (refine WP.flowE 12 10 [] 12 [⟨[4], [], [], [8, 34, 1034], [], []⟩, ⟨[6], [], [], [8, 34, 1034], [], []⟩, ⟨[0], [], [], [8, 34, 1034], [], []⟩, ⟨[5], [], [], [8, 34, 1034], [], []⟩, ⟨[29, 30], [2, 3], [], [8, 34, 1034], [], []⟩, ⟨[31], [2, 3, 4], [], [8, 34, 1034], [], []⟩, ⟨[32], [2, 3, 4, 5], [], [8, 34, 1034], [], []⟩, ⟨[27, 28, 33], [0, 1, 2, 3, 4, 5, 6], [], [8], [], [34, 1034]⟩, ⟨[34], [0, 1, 2, 3, 4, 5, 6, 7], [], [8], [], []⟩, ⟨[26], [0, 1, 2, 3, 4, 5, 6, 7, 8], [], [8], [], []⟩, ⟨[26], [0, 1, 2, 3, 4, 5, 6, 7, 8], [], [8], [], []⟩, ⟨[], [], [], [34, 1034], [], [8]⟩, ⟨[], [0, 1, 2, 3, 4, 5, 6, 7, 8, 9, 10, 11], [], [], [], []⟩, ⟨[], [0, 1, 2, 3, 4, 5, 6, 7, 8, 9, 10, 11, 12], [], [], [], []⟩] [8, 26, 27, 28, 29, 30, 31, 32, 33, 34, 35, 36] [8, 34, 1034] [] (by decide +kernel) (by decide +kernel) (by kernel_rfl) (by kernel_rfl) (by kernel_rfl) ?_; simp only [go_sem, hli, h1, encEntry, hp, hemp, hdf, tyAll, Nat.reduceAdd, Nat.reduceLT, Nat.reduceLeDiff, Nat.reduceEqDiff, Nat.reduceMul, Nat.reduceSub, Nat.reduceGT, reduceIte, Int.reduceNeg, Int.reduceToNat]) |  refine And.intro ?_ ?_ | intro _))
      all_goals first | omega | (simp only [List.length_nil]; omega) | exact hnb _ ‹_› | (simp only [List.not_mem_nil] at *; done) | exact ⟨_, _, _, rfl⟩ | exact ⟨_, _, rfl, _, _, rfl, rfl⟩ | (rw [hno]; first | rfl | exact ⟨_, _, rfl⟩ | exact ⟨_, _, if_neg (by omega)⟩ | exact if_neg (by omega)) | skip
    | some f =>
      obtain ⟨h5, h6⟩ := parseF_small hp
      have hfb : ∀ g ∈ f, g.name.size ≤ 1099511627776 := fun g hg => by have := h6 g hg; omega
      cases hb : (addStack N C f L[k].count).2 with
      | false =>
        have hno := eInv_bad hI hlt hp hb
        (repeat' (first | refine WP.seq ?_ | (refine WP.region ?_; simp only [go_sem, hli, h1, encEntry, hp, hb, tyAll, Nat.reduceAdd, Nat.reduceLT, Nat.reduceLeDiff, Nat.reduceEqDiff, Nat.reduceMul, Nat.reduceSub, Nat.reduceGT, reduceIte, Int.reduceNeg, Int.reduceToNat]) | refine WP.block ?_ | (refine WP.condW ?_; simp only [go_sem, hli, h1, encEntry, hp, hb, tyAll, Nat.reduceAdd, Nat.reduceLT, Nat.reduceLeDiff, Nat.reduceEqDiff, Nat.reduceMul, Nat.reduceSub, Nat.reduceGT, reduceIte, Int.reduceNeg, Int.reduceToNat]) | (refine WP.ret ?_; simp only [go_sem, hli, h1, encEntry, hp, hb, tyAll, Nat.reduceAdd, Nat.reduceLT, Nat.reduceLeDiff, Nat.reduceEqDiff, Nat.reduceMul, Nat.reduceSub, Nat.reduceGT, reduceIte, Int.reduceNeg, Int.reduceToNat]) | (refine WP.exit ?_; simp only [go_sem, hli, h1, encEntry, hp, hb, tyAll, Nat.reduceAdd, Nat.reduceLT, Nat.reduceLeDiff, Nat.reduceEqDiff, Nat.reduceMul, Nat.reduceSub, Nat.reduceGT, reduceIte, Int.reduceNeg, Int.reduceToNat]) | (refine WP.skip ?_; simp only [go_sem, hli, h1, encEntry, hp, hb, tyAll, Nat.reduceAdd, Nat.reduceLT, Nat.reduceLeDiff, Nat.reduceEqDiff, Nat.reduceMul, Nat.reduceSub, Nat.reduceGT, reduceIte, Int.reduceNeg, Int.reduceToNat]) | (refine WP.flowE 12 10 [] 12 [⟨[4], [], [], [8, 34, 1034], [], []⟩, ⟨[6], [], [], [8, 34, 1034], [], []⟩, ⟨[0], [], [], [8, 34, 1034], [], []⟩, ⟨[5], [], [], [8, 34, 1034], [], []⟩, ⟨[29, 30], [2, 3], [], [8, 34, 1034], [], []⟩, ⟨[31], [2, 3, 4], [], [8, 34, 1034], [], []⟩, ⟨[32], [2, 3, 4, 5], [], [8, 34, 1034], [], []⟩, ⟨[27, 28, 33], [0, 1, 2, 3, 4, 5, 6], [], [8], [], [34, 1034]⟩, ⟨[34], [0, 1, 2, 3, 4, 5, 6, 7], [], [8], [], []⟩, ⟨[26], [0, 1, 2, 3, 4, 5, 6, 7, 8], [], [8], [], []⟩, ⟨[26], [0, 1, 2, 3, 4, 5, 6, 7, 8], [], [8], [], []⟩, ⟨[], [], [], [34, 1034], [], [8]⟩, ⟨[], [0, 1, 2, 3, 4, 5, 6, 7, 8, 9, 10, 11], [], [], [], []⟩, ⟨[], [0, 1, 2, 3, 4, 5, 6, 7, 8, 9, 10, 11, 12], [], [], [], []⟩] [8, 26, 27, 28, 29, 30, 31, 32, 33, 34, 35, 36] [8, 34, 1034] [] (by decide +kernel) (by decide +kernel) (by kernel_rfl) (by kernel_rfl) (by kernel_rfl) ?_; simp only [go_sem, hli, h1, encEntry, hp, hb, tyAll, Nat.reduceAdd, Nat.reduceLT, Nat.reduceLeDiff, Nat.reduceEqDiff, Nat.reduceMul, Nat.reduceSub, Nat.reduceGT, reduceIte, Int.reduceNeg, Int.reduceToNat]) |  refine And.intro ?_ ?_ | intro _))
        all_goals first | omega | (simp only; omega) | exact hnb _ ‹_› | exact hfb _ ‹_› | exact ⟨_, _, _, rfl⟩ | exact ⟨_, _, rfl, _, _, rfl, rfl⟩ | (rw [hno]; first | rfl | exact ⟨_, _, rfl⟩ | exact ⟨_, _, if_neg (by omega)⟩ | exact if_neg (by omega)) | skip
      | true =>
        have hyes := eInv_ok hx hI hlt hp hb
        (repeat' (first | refine WP.seq ?_ | (refine WP.region ?_; simp only [go_sem, hli, h1, encEntry, hp, hb, tyAll, Nat.reduceAdd, Nat.reduceLT, Nat.reduceLeDiff, Nat.reduceEqDiff, Nat.reduceMul, Nat.reduceSub, Nat.reduceGT, reduceIte, Int.reduceNeg, Int.reduceToNat]) | refine WP.block ?_ | (refine WP.condW ?_; simp only [go_sem, hli, h1, encEntry, hp, hb, tyAll, Nat.reduceAdd, Nat.reduceLT, Nat.reduceLeDiff, Nat.reduceEqDiff, Nat.reduceMul, Nat.reduceSub, Nat.reduceGT, reduceIte, Int.reduceNeg, Int.reduceToNat]) | (refine WP.ret ?_; simp only [go_sem, hli, h1, encEntry, hp, hb, tyAll, Nat.reduceAdd, Nat.reduceLT, Nat.reduceLeDiff, Nat.reduceEqDiff, Nat.reduceMul, Nat.reduceSub, Nat.reduceGT, reduceIte, Int.reduceNeg, Int.reduceToNat]) | (refine WP.exit ?_; simp only [go_sem, hli, h1, encEntry, hp, hb, tyAll, Nat.reduceAdd, Nat.reduceLT, Nat.reduceLeDiff, Nat.reduceEqDiff, Nat.reduceMul, Nat.reduceSub, Nat.reduceGT, reduceIte, Int.reduceNeg, Int.reduceToNat]) | (refine WP.skip ?_; simp only [go_sem, hli, h1, encEntry, hp, hb, tyAll, Nat.reduceAdd, Nat.reduceLT, Nat.reduceLeDiff, Nat.reduceEqDiff, Nat.reduceMul, Nat.reduceSub, Nat.reduceGT, reduceIte, Int.reduceNeg, Int.reduceToNat]) | (refine WP.flowE 12 10 [] 12 [⟨[4], [], [], [8, 34, 1034], [], []⟩, ⟨[6], [], [], [8, 34, 1034], [], []⟩, ⟨[0], [], [], [8, 34, 1034], [], []⟩, ⟨[5], [], [], [8, 34, 1034], [], []⟩, ⟨[29, 30], [2, 3], [], [8, 34, 1034], [], []⟩, ⟨[31], [2, 3, 4], [], [8, 34, 1034], [], []⟩, ⟨[32], [2, 3, 4, 5], [], [8, 34, 1034], [], []⟩, ⟨[27, 28, 33], [0, 1, 2, 3, 4, 5, 6], [], [8], [], [34, 1034]⟩, ⟨[34], [0, 1, 2, 3, 4, 5, 6, 7], [], [8], [], []⟩, ⟨[26], [0, 1, 2, 3, 4, 5, 6, 7, 8], [], [8], [], []⟩, ⟨[26], [0, 1, 2, 3, 4, 5, 6, 7, 8], [], [8], [], []⟩, ⟨[], [], [], [34, 1034], [], [8]⟩, ⟨[], [0, 1, 2, 3, 4, 5, 6, 7, 8, 9, 10, 11], [], [], [], []⟩, ⟨[], [0, 1, 2, 3, 4, 5, 6, 7, 8, 9, 10, 11, 12], [], [], [], []⟩] [8, 26, 27, 28, 29, 30, 31, 32, 33, 34, 35, 36] [8, 34, 1034] [] (by decide +kernel) (by decide +kernel) (by kernel_rfl) (by kernel_rfl) (by kernel_rfl) ?_; simp only [go_sem, hli, h1, encEntry, hp, hb, tyAll, Nat.reduceAdd, Nat.reduceLT, Nat.reduceLeDiff, Nat.reduceEqDiff, Nat.reduceMul, Nat.reduceSub, Nat.reduceGT, reduceIte, Int.reduceNeg, Int.reduceToNat]) |  refine And.intro ?_ ?_ | intro _))
        all_goals first | omega | (simp only; omega) | exact hnb _ ‹_› | exact hfb _ ‹_› | exact ⟨_, _, _, rfl⟩ | exact ⟨_, _, rfl, _, _, rfl, rfl⟩ | skip
        exact ⟨(k + 1, (addStack N C f L[k].count).1), ⟨by simp only; omega, hyes⟩, by simp only; omega, rfl, rfl, rfl⟩
  · have hge : ¬ (k : Int) < L.length := by omega
    have he := eInv_end hI (by omega)
    (repeat' (first | refine WP.seq ?_ | (refine WP.region ?_; simp only [go_sem, hge, tyAll, Nat.reduceAdd, Nat.reduceLT, Nat.reduceLeDiff, Nat.reduceEqDiff, Nat.reduceMul, Nat.reduceSub, Nat.reduceGT, reduceIte, Int.reduceNeg, Int.reduceToNat]) | refine WP.block ?_ | (refine WP.condW ?_; simp only [go_sem, hge, tyAll, Nat.reduceAdd, Nat.reduceLT, Nat.reduceLeDiff, Nat.reduceEqDiff, Nat.reduceMul, Nat.reduceSub, Nat.reduceGT, reduceIte, Int.reduceNeg, Int.reduceToNat]) | (refine WP.ret ?_; simp only [go_sem, hge, tyAll, Nat.reduceAdd, Nat.reduceLT, Nat.reduceLeDiff, Nat.reduceEqDiff, Nat.reduceMul, Nat.reduceSub, Nat.reduceGT, reduceIte, Int.reduceNeg, Int.reduceToNat]) | (refine WP.exit ?_; simp only [go_sem, hge, tyAll, Nat.reduceAdd, Nat.reduceLT, Nat.reduceLeDiff, Nat.reduceEqDiff, Nat.reduceMul, Nat.reduceSub, Nat.reduceGT, reduceIte, Int.reduceNeg, Int.reduceToNat]) | (refine WP.skip ?_; simp only [go_sem, hge, tyAll, Nat.reduceAdd, Nat.reduceLT, Nat.reduceLeDiff, Nat.reduceEqDiff, Nat.reduceMul, Nat.reduceSub, Nat.reduceGT, reduceIte, Int.reduceNeg, Int.reduceToNat]) | (refine WP.flowE 12 10 [] 12 [⟨[4], [], [], [8, 34, 1034], [], []⟩, ⟨[6], [], [], [8, 34, 1034], [], []⟩, ⟨[0], [], [], [8, 34, 1034], [], []⟩, ⟨[5], [], [], [8, 34, 1034], [], []⟩, ⟨[29, 30], [2, 3], [], [8, 34, 1034], [], []⟩, ⟨[31], [2, 3, 4], [], [8, 34, 1034], [], []⟩, ⟨[32], [2, 3, 4, 5], [], [8, 34, 1034], [], []⟩, ⟨[27, 28, 33], [0, 1, 2, 3, 4, 5, 6], [], [8], [], [34, 1034]⟩, ⟨[34], [0, 1, 2, 3, 4, 5, 6, 7], [], [8], [], []⟩, ⟨[26], [0, 1, 2, 3, 4, 5, 6, 7, 8], [], [8], [], []⟩, ⟨[26], [0, 1, 2, 3, 4, 5, 6, 7, 8], [], [8], [], []⟩, ⟨[], [], [], [34, 1034], [], [8]⟩, ⟨[], [0, 1, 2, 3, 4, 5, 6, 7, 8, 9, 10, 11], [], [], [], []⟩, ⟨[], [0, 1, 2, 3, 4, 5, 6, 7, 8, 9, 10, 11, 12], [], [], [], []⟩] [8, 26, 27, 28, 29, 30, 31, 32, 33, 34, 35, 36] [8, 34, 1034] [] (by decide +kernel) (by decide +kernel) (by kernel_rfl) (by kernel_rfl) (by kernel_rfl) ?_; simp only [go_sem, hge, tyAll, Nat.reduceAdd, Nat.reduceLT, Nat.reduceLeDiff, Nat.reduceEqDiff, Nat.reduceMul, Nat.reduceSub, Nat.reduceGT, reduceIte, Int.reduceNeg, Int.reduceToNat]) |  refine And.intro ?_ ?_ | intro _))
    all_goals first | omega | exact ⟨_, _, rfl, _, _, rfl, rfl⟩ | (rw [he]; first | rfl | exact if_neg (by omega)) | skip
end
end Go.Proofs.YtolnapfgfdgifaaDoor

/-
  DERIVED. FoldedLine of both, and its law's function.
-/
namespace Go.Proofs.YtolnapfgfdgifaaDoor
open Go.Vc
set_option linter.unusedSimpArgs false
set_option linter.unusedVariables false
set_option maxHeartbeats 1000000
set_option maxRecDepth 10000
attribute [local go_sem] St.runR St.runW St.stepV offV St.step St.stepU St.stepG mkCond guardB St.prK St.pr St.prLen St.eff St.callE St.callD St.callF St.callL aI aB aS aR aC St.isM St.argL Ctr.pure Ctr.lend Ctr.move Ctr.isL Ctr.wri pur len lentBy St.lentV St.lent1 nthS argsR restOf obsR pairs swapL unObs backL St.resL erL SV.ren1 SV.up SV.up2 Ob.up St.fzL cellIds partIds St.intoRow SV.ownId St.fz SV.fz1 St.prep St.mvL St.mv SV.re1 rnOk St.prEq vals eqCells scEq Value.kd St.prStr St.prCut cutR St.bnd St.prMin St.bld isShift outL retL outJ oR oC St.ev St.get St.put St.new St.kill SV.kill SV.kill1 Ob.kill St.app St.wrt St.rowsOf St.res St.killL lk er argsL SV.strip SV.need SV.share SV.share1 SV.owns SV.owns1 SV.owns2 SV.good SV.good1 SV.rok SV.rok1 SV.rok2 SV.isV SV.isV2 nodupN SV.cells SV.one SV.pur partsIn rowsIn splice cellsAt dstOk scal2 scal1 thenK blockK retK outK outs okC okL okA okT nilC nilL nilA nilT keepC keepL keepA keepT St.runG St.dltK St.least St.clean St.final St.hide offK badS badO SV.refs SV.leaf SV.leaf2 Ob.refs dlOk fpAt Go.Vc.cover tups SV.ofAgg St.out outC subL St.has rng wr Value.oneCell' Option.isSome_some Option.isSome_none List.nil_append Bool.false_eq_true List.map_cons List.map_nil List.all_cons List.all_nil List.length_cons List.length_nil List.drop_zero List.drop_succ_cons List.take_succ_cons List.take_zero List.drop_nil List.take_nil List.getElem?_cons_zero List.getElem?_cons_succ List.getElem?_nil List.cons_append List.nil_append List.append_nil List.append_assoc List.flatMap_cons List.flatMap_nil List.contains_cons List.contains_nil List.set_cons_zero List.set_cons_succ List.getElem?_toArray Option.getD_some Option.getD_none Option.map_some Option.map_none Option.bind_some Option.some.injEq Prod.mk.injEq if_true if_false true_and and_true and_self and_false false_and Bool.and_false Bool.false_and Bool.or_true Bool.true_or Bool.or_false Bool.false_or ne_eq not_true_eq_false not_false_eq_true decide_true decide_false List.mem_cons List.not_mem_nil List.filter_cons List.filter_nil List.any_cons List.any_nil List.isEmpty_nil List.isEmpty_cons Option.getD_none or_false false_or true_or or_true forall_eq_or_imp forall_eq reduceCtorEq exists_eq exists_eq' exists_eq_left' exists_eq_left exists_eq_right exists_eq_right' imp_self implies_true Bool.and_true Bool.true_and Bool.and_self beq_self_eq_true List.replicate_succ List.replicate_zero forall_const false_implies pickB_or pickB_and beqT beqF Int.toNat_natCast List.length_map List.length_replicate ge_iff_le gt_iff_lt decide_eq_true_eq decide_eq_false_iff_not Bool.and_eq_true Bool.or_eq_true Bool.not_eq_true' Bool.not_eq_false' condG List.toList_toArray Bool.or_eq_false_iff Bool.and_eq_false_iff Int.not_lt Int.not_le beq_iff_eq beq_eq_false_iff_ne bne_iff_ne bne_eq_false_iff_eq ne_eq Bool.not_true Bool.not_false exists_and_left
attribute [local irreducible] Go.Vc.WP
attribute [local go_sem] cx0_t cx0_c
/-- the last place of a byte -/
def lastAt (s : ByteArray) (c : UInt8) : Nat → Int
  | 0 => -1
  | k + 1 => if s[k]! = c then (k : Int) else lastAt s c k
theorem lastAt_bound (s : ByteArray) (c : UInt8) : ∀ k, -1 ≤ lastAt s c k ∧ lastAt s c k < k
  | 0 => by simp [lastAt]
  | k + 1 => by
    have := lastAt_bound s c k
    rw [lastAt]
    split <;> omega
def kLast : Ctr := pur (fun args => (aS args 0, aU args 1)) (fun x => [.v (.string x.1), .v (.int .u8 (x.2.toNat : Int))]) (fun x => x.1.size ≤ 2097152) (fun _ x => .v (.int .i64 (lastAt x.1 x.2 x.1.size))) (fun _ _ => [])
theorem cLast0 : Cn Tryd.prog 75 kLast := by
  refine Cn.pur Tryd.func75 (by kernel_rfl) rfl fun d x hx => ?_
  obtain ⟨s, c⟩ := x
  simp only at hx ⊢
  refine Holds.go (c := cx0) Tryd.func75 rfl Tryd.results75 Tryd.ntmps75 (by omega) (by simp) rfl ?_
  intro X0 w0
  (repeat' (first | refine WP.seq ?_ | (refine WP.region ?_; simp only [go_sem, tyAll, Nat.reduceAdd, Nat.reduceLT, Nat.reduceLeDiff, Nat.reduceEqDiff, Nat.reduceMul, Nat.reduceSub, Nat.reduceGT, reduceIte, Int.reduceNeg, Int.reduceToNat]) | refine WP.block ?_ | (refine WP.condW ?_; simp only [go_sem, tyAll, Nat.reduceAdd, Nat.reduceLT, Nat.reduceLeDiff, Nat.reduceEqDiff, Nat.reduceMul, Nat.reduceSub, Nat.reduceGT, reduceIte, Int.reduceNeg, Int.reduceToNat]) | (refine WP.ret ?_; simp only [go_sem, tyAll, Nat.reduceAdd, Nat.reduceLT, Nat.reduceLeDiff, Nat.reduceEqDiff, Nat.reduceMul, Nat.reduceSub, Nat.reduceGT, reduceIte, Int.reduceNeg, Int.reduceToNat]) | (refine WP.exit ?_; simp only [go_sem, tyAll, Nat.reduceAdd, Nat.reduceLT, Nat.reduceLeDiff, Nat.reduceEqDiff, Nat.reduceMul, Nat.reduceSub, Nat.reduceGT, reduceIte, Int.reduceNeg, Int.reduceToNat]) | (refine WP.skip ?_; simp only [go_sem, tyAll, Nat.reduceAdd, Nat.reduceLT, Nat.reduceLeDiff, Nat.reduceEqDiff, Nat.reduceMul, Nat.reduceSub, Nat.reduceGT, reduceIte, Int.reduceNeg, Int.reduceToNat]) |  refine And.intro ?_ ?_ | intro _))
  all_goals first | omega | skip
  refine WP.loop (fun k : Nat => ⟨[(0, .v (.string s)), (1, .v (.int .u8 (c.toNat : Int))), (5, .v (.int .i64 ((k : Int) - 1)))], []⟩) (fun k => k ≤ s.size ∧ lastAt s c s.size = lastAt s c k) (fun k => k) s.size (by simp) ?_ ?_
  · (simp only [go_sem, tyAll, Nat.reduceAdd, Nat.reduceLT, Nat.reduceLeDiff, Nat.reduceEqDiff, Nat.reduceMul, Nat.reduceSub, Nat.reduceGT, reduceIte, Int.reduceNeg, Int.reduceToNat] <;> (first | rfl | exact ⟨rfl, rfl⟩ | exact ⟨rfl, rfl, rfl⟩ | exact ⟨rfl, rfl, rfl, rfl⟩ | exact ⟨rfl, rfl, rfl, rfl, rfl⟩ | exact ⟨⟨rfl, rfl⟩, rfl⟩ | simp))
  intro k ⟨hk, he⟩
  cases k with
  | zero =>
    (repeat' (first | refine WP.seq ?_ | (refine WP.region ?_; simp only [go_sem, tyAll, Nat.reduceAdd, Nat.reduceLT, Nat.reduceLeDiff, Nat.reduceEqDiff, Nat.reduceMul, Nat.reduceSub, Nat.reduceGT, reduceIte, Int.reduceNeg, Int.reduceToNat]) | refine WP.block ?_ | (refine WP.condW ?_; simp only [go_sem, tyAll, Nat.reduceAdd, Nat.reduceLT, Nat.reduceLeDiff, Nat.reduceEqDiff, Nat.reduceMul, Nat.reduceSub, Nat.reduceGT, reduceIte, Int.reduceNeg, Int.reduceToNat]) | (refine WP.ret ?_; simp only [go_sem, tyAll, Nat.reduceAdd, Nat.reduceLT, Nat.reduceLeDiff, Nat.reduceEqDiff, Nat.reduceMul, Nat.reduceSub, Nat.reduceGT, reduceIte, Int.reduceNeg, Int.reduceToNat]) | (refine WP.exit ?_; simp only [go_sem, tyAll, Nat.reduceAdd, Nat.reduceLT, Nat.reduceLeDiff, Nat.reduceEqDiff, Nat.reduceMul, Nat.reduceSub, Nat.reduceGT, reduceIte, Int.reduceNeg, Int.reduceToNat]) | (refine WP.skip ?_; simp only [go_sem, tyAll, Nat.reduceAdd, Nat.reduceLT, Nat.reduceLeDiff, Nat.reduceEqDiff, Nat.reduceMul, Nat.reduceSub, Nat.reduceGT, reduceIte, Int.reduceNeg, Int.reduceToNat]) |  refine And.intro ?_ ?_ | intro _))
    all_goals first | omega | skip
    rw [he]; rfl
  | succ k =>
    have e1 : (((k + 1 : Nat) : Int) - 1) = (k : Int) := by omega
    have e2 : ((s[k]!.toNat : Int) = (c.toNat : Int)) = (s[k]! = c) := propext toNatEq
    rw [lastAt] at he
    (repeat' (first | refine WP.seq ?_ | (refine WP.region ?_; simp only [go_sem, e1, e2, tyAll, Nat.reduceAdd, Nat.reduceLT, Nat.reduceLeDiff, Nat.reduceEqDiff, Nat.reduceMul, Nat.reduceSub, Nat.reduceGT, reduceIte, Int.reduceNeg, Int.reduceToNat]) | refine WP.block ?_ | (refine WP.condW ?_; simp only [go_sem, e1, e2, tyAll, Nat.reduceAdd, Nat.reduceLT, Nat.reduceLeDiff, Nat.reduceEqDiff, Nat.reduceMul, Nat.reduceSub, Nat.reduceGT, reduceIte, Int.reduceNeg, Int.reduceToNat]) | (refine WP.ret ?_; simp only [go_sem, e1, e2, tyAll, Nat.reduceAdd, Nat.reduceLT, Nat.reduceLeDiff, Nat.reduceEqDiff, Nat.reduceMul, Nat.reduceSub, Nat.reduceGT, reduceIte, Int.reduceNeg, Int.reduceToNat]) | (refine WP.exit ?_; simp only [go_sem, e1, e2, tyAll, Nat.reduceAdd, Nat.reduceLT, Nat.reduceLeDiff, Nat.reduceEqDiff, Nat.reduceMul, Nat.reduceSub, Nat.reduceGT, reduceIte, Int.reduceNeg, Int.reduceToNat]) | (refine WP.skip ?_; simp only [go_sem, e1, e2, tyAll, Nat.reduceAdd, Nat.reduceLT, Nat.reduceLeDiff, Nat.reduceEqDiff, Nat.reduceMul, Nat.reduceSub, Nat.reduceGT, reduceIte, Int.reduceNeg, Int.reduceToNat]) |  refine And.intro ?_ ?_ | intro _))
    all_goals first | omega | skip
    · rename_i h
      rw [if_pos h] at he
      rw [he]
    · rename_i h
      rw [if_neg h] at he
      exact ⟨k, ⟨by omega, he⟩, by omega, by (first | rfl | exact ⟨rfl, rfl⟩ | exact ⟨rfl, rfl, rfl⟩ | exact ⟨rfl, rfl, rfl, rfl⟩ | exact ⟨rfl, rfl, rfl, rfl, rfl⟩ | exact ⟨⟨rfl, rfl⟩, rfl⟩ | simp)⟩
section
noncomputable def cxLa : Cx := { P := Tryd.prog, tys := tys, C := [(75, kLast)], hty := tysOk, hC := COk.cons cLast0 (COk.nil _) }
theorem cxLa_t : cxLa.tys = tys := rfl
theorem cxLa_c : cxLa.C = [(75, kLast)] := rfl
attribute [local go_sem] cxLa_t cxLa_c kLast
attribute [local go_sem] aU
theorem cLast : Cn Tryd.prog 51 kLast := by
  refine Cn.pur Tryd.func51 (by kernel_rfl) rfl fun d x hx => ?_
  obtain ⟨s, c⟩ := x
  simp only at hx ⊢
  refine Holds.go (c := cxLa) Tryd.func51 rfl Tryd.results51 Tryd.ntmps51 (by omega) (by simp) rfl ?_
  intro X0 w0
  have hc : UInt8.ofNat c.toNat = c := UInt8.ofNat_toNat
  (repeat' (first | refine WP.seq ?_ | (refine WP.region ?_; simp only [go_sem, hc, tyAll, Nat.reduceAdd, Nat.reduceLT, Nat.reduceLeDiff, Nat.reduceEqDiff, Nat.reduceMul, Nat.reduceSub, Nat.reduceGT, reduceIte, Int.reduceNeg, Int.reduceToNat]) | refine WP.block ?_ | (refine WP.condW ?_; simp only [go_sem, hc, tyAll, Nat.reduceAdd, Nat.reduceLT, Nat.reduceLeDiff, Nat.reduceEqDiff, Nat.reduceMul, Nat.reduceSub, Nat.reduceGT, reduceIte, Int.reduceNeg, Int.reduceToNat]) | (refine WP.ret ?_; simp only [go_sem, hc, tyAll, Nat.reduceAdd, Nat.reduceLT, Nat.reduceLeDiff, Nat.reduceEqDiff, Nat.reduceMul, Nat.reduceSub, Nat.reduceGT, reduceIte, Int.reduceNeg, Int.reduceToNat]) | (refine WP.exit ?_; simp only [go_sem, hc, tyAll, Nat.reduceAdd, Nat.reduceLT, Nat.reduceLeDiff, Nat.reduceEqDiff, Nat.reduceMul, Nat.reduceSub, Nat.reduceGT, reduceIte, Int.reduceNeg, Int.reduceToNat]) | (refine WP.skip ?_; simp only [go_sem, hc, tyAll, Nat.reduceAdd, Nat.reduceLT, Nat.reduceLeDiff, Nat.reduceEqDiff, Nat.reduceMul, Nat.reduceSub, Nat.reduceGT, reduceIte, Int.reduceNeg, Int.reduceToNat]) |  refine And.intro ?_ ?_ | intro _))
  all_goals first | omega | skip
end
/-- a line: a stack, a space, a number -/
def lineAt (s : ByteArray) : Int := lastAt s 32 s.size
def lineNum (s : ByteArray) : Option Nat := parseU (s.extract (lineAt s + 1).toNat s.size)
def foldedOk (s : ByteArray) : Bool := decide (0 ≤ lineAt s) && (lineNum s).isSome
def foldedEntry (s : ByteArray) : Entry := if foldedOk s = true then ⟨s.extract 0 (lineAt s).toNat, (((lineNum s).getD 0 : Nat) : Int)⟩ else ⟨⟨#[]⟩, 0⟩
def kFolded : Ctr := pur (fun args => aS args 0) (fun s => [.v (.string s)]) (fun s => s.size ≤ 1048576) (fun _ s => .tup [.agg (encEntry (foldedEntry s)), .v (.bool (foldedOk s))]) (fun _ _ => [])
section
noncomputable def cxFo : Cx := { P := Tryd.prog, tys := tys, C := [(51, kLast), (47, kParseU), (52, kParseU)], hty := tysOk, hC := COk.cons cLast (COk.cons cParseUS (COk.cons cParseUI (COk.nil _))) }
theorem cxFo_t : cxFo.tys = tys := rfl
theorem cxFo_c : cxFo.C = [(51, kLast), (47, kParseU), (52, kParseU)] := rfl
attribute [local go_sem] cxFo_t cxFo_c kLast kParseU
attribute [local go_sem] aU
theorem ext_size (s : ByteArray) (a b : Nat) (h : b ≤ s.size) : (s.extract a b).size ≤ s.size := by simp; omega
theorem foldedNo {s : ByteArray} (h : lineAt s < 0 ∨ (lineNum s).isSome = false) : foldedEntry s = ⟨⟨#[]⟩, 0⟩ ∧ foldedOk s = false := by
  have hf : foldedOk s = false := by
    unfold foldedOk
    rcases h with h | h
    · rw [decide_eq_false (by omega)]; rfl
    · rw [h, Bool.and_false]
  exact ⟨by unfold foldedEntry; rw [hf]; rfl, hf⟩
theorem foldedYes {s : ByteArray} (h : 0 ≤ lineAt s ∧ (lineNum s).isSome = true) : foldedEntry s = ⟨s.extract 0 (lineAt s).toNat, (((lineNum s).getD 0 : Nat) : Int)⟩ ∧ foldedOk s = true := by
  have hf : foldedOk s = true := by
    unfold foldedOk
    rw [h.2, decide_eq_true h.1]; rfl
  exact ⟨by unfold foldedEntry; rw [if_pos hf], hf⟩
theorem u32 : ((UInt8.ofNat 32).toNat : Int) = 32 := rfl
theorem u32' : UInt8.ofNat 32 = 32 := rfl
theorem cFoldedI : Cn Tryd.prog 27 kFolded := by
  refine Cn.pur Tryd.func27 (by kernel_rfl) rfl fun d x hx => ?_
  refine Holds.go (c := cxFo) Tryd.func27 rfl Tryd.results27 Tryd.ntmps27 (by omega) (by simp) rfl ?_
  intro X0 w0
  have hb := lastAt_bound x 32 x.size
  have hz := ext_size x ((lineAt x) + 1).toNat x.size (Nat.le_refl _)
  have e0 : lastAt x 32 x.size = lineAt x := rfl
  (repeat' (first | refine WP.seq ?_ | (refine WP.region ?_; simp only [go_sem, u32, u32', e0, encEntry, tyAll, Nat.reduceAdd, Nat.reduceLT, Nat.reduceLeDiff, Nat.reduceEqDiff, Nat.reduceMul, Nat.reduceSub, Nat.reduceGT, reduceIte, Int.reduceNeg, Int.reduceToNat]) | refine WP.block ?_ | (refine WP.condW ?_; simp only [go_sem, u32, u32', e0, encEntry, tyAll, Nat.reduceAdd, Nat.reduceLT, Nat.reduceLeDiff, Nat.reduceEqDiff, Nat.reduceMul, Nat.reduceSub, Nat.reduceGT, reduceIte, Int.reduceNeg, Int.reduceToNat]) | (refine WP.ret ?_; simp only [go_sem, u32, u32', e0, encEntry, tyAll, Nat.reduceAdd, Nat.reduceLT, Nat.reduceLeDiff, Nat.reduceEqDiff, Nat.reduceMul, Nat.reduceSub, Nat.reduceGT, reduceIte, Int.reduceNeg, Int.reduceToNat]) | (refine WP.exit ?_; simp only [go_sem, u32, u32', e0, encEntry, tyAll, Nat.reduceAdd, Nat.reduceLT, Nat.reduceLeDiff, Nat.reduceEqDiff, Nat.reduceMul, Nat.reduceSub, Nat.reduceGT, reduceIte, Int.reduceNeg, Int.reduceToNat]) | (refine WP.skip ?_; simp only [go_sem, u32, u32', e0, encEntry, tyAll, Nat.reduceAdd, Nat.reduceLT, Nat.reduceLeDiff, Nat.reduceEqDiff, Nat.reduceMul, Nat.reduceSub, Nat.reduceGT, reduceIte, Int.reduceNeg, Int.reduceToNat]) |  refine And.intro ?_ ?_ | intro _))
  all_goals first | omega | skip
  · rfl
  · exact ⟨_, _, rfl, _, _, rfl, rfl⟩
  · rename_i h; rw [(foldedNo h).1]
  · rename_i h; rw [(foldedNo h).1]
  · rename_i h; rw [(foldedNo h).2]
  · exact ⟨_, _, rfl, _, _, rfl, rfl⟩
  · rename_i h; rw [(foldedYes h).1]
  · rename_i h; rw [(foldedYes h).1]; rfl
  · rename_i h; rw [(foldedYes h).2]
theorem cFoldedS : Cn Tryd.prog 24 kFolded := by
  refine Cn.pur Tryd.func24 (by kernel_rfl) rfl fun d x hx => ?_
  refine Holds.go (c := cxFo) Tryd.func24 rfl Tryd.results24 Tryd.ntmps24 (by omega) (by simp) rfl ?_
  intro X0 w0
  have hbd := lastAt_bound x 32 x.size
  (repeat' (first | refine WP.seq ?_ | (refine WP.region ?_; simp only [go_sem, tyAll, Nat.reduceAdd, Nat.reduceLT, Nat.reduceLeDiff, Nat.reduceEqDiff, Nat.reduceMul, Nat.reduceSub, Nat.reduceGT, reduceIte, Int.reduceNeg, Int.reduceToNat]) | refine WP.block ?_ | (refine WP.condW ?_; simp only [go_sem, tyAll, Nat.reduceAdd, Nat.reduceLT, Nat.reduceLeDiff, Nat.reduceEqDiff, Nat.reduceMul, Nat.reduceSub, Nat.reduceGT, reduceIte, Int.reduceNeg, Int.reduceToNat]) | (refine WP.ret ?_; simp only [go_sem, tyAll, Nat.reduceAdd, Nat.reduceLT, Nat.reduceLeDiff, Nat.reduceEqDiff, Nat.reduceMul, Nat.reduceSub, Nat.reduceGT, reduceIte, Int.reduceNeg, Int.reduceToNat]) | (refine WP.exit ?_; simp only [go_sem, tyAll, Nat.reduceAdd, Nat.reduceLT, Nat.reduceLeDiff, Nat.reduceEqDiff, Nat.reduceMul, Nat.reduceSub, Nat.reduceGT, reduceIte, Int.reduceNeg, Int.reduceToNat]) | (refine WP.skip ?_; simp only [go_sem, tyAll, Nat.reduceAdd, Nat.reduceLT, Nat.reduceLeDiff, Nat.reduceEqDiff, Nat.reduceMul, Nat.reduceSub, Nat.reduceGT, reduceIte, Int.reduceNeg, Int.reduceToNat]) |  refine And.intro ?_ ?_ | intro _))
  all_goals first | omega | skip
  refine WP.loop (fun k : Nat => ⟨[(0, .v (.string x)), (2, .ptr 2 0 0 0), (4, .v (.int .i64 ((k : Int) - 1)))], [(2, .box 47 [.v (.string ⟨#[]⟩), .v (.int .i64 0)])]⟩) (fun k => k ≤ x.size ∧ lineAt x = lastAt x 32 k) (fun k => k) x.size ⟨by omega, rfl⟩ ?_ ?_
  · (simp only [go_sem, tyAll, Nat.reduceAdd, Nat.reduceLT, Nat.reduceLeDiff, Nat.reduceEqDiff, Nat.reduceMul, Nat.reduceSub, Nat.reduceGT, reduceIte, Int.reduceNeg, Int.reduceToNat] <;> (first | rfl | exact ⟨rfl, rfl⟩ | exact ⟨rfl, rfl, rfl⟩ | exact ⟨rfl, rfl, rfl, rfl⟩ | exact ⟨rfl, rfl, rfl, rfl, rfl⟩ | exact ⟨⟨rfl, rfl⟩, rfl⟩ | simp))
  intro k ⟨hk, he⟩
  cases k with
  | zero =>
    have hn : lineAt x < 0 := by rw [he]; simp [lastAt]
    have hy := foldedNo (.inl hn)
    (repeat' (first | refine WP.seq ?_ | (refine WP.region ?_; simp only [go_sem, encEntry, tyAll, Nat.reduceAdd, Nat.reduceLT, Nat.reduceLeDiff, Nat.reduceEqDiff, Nat.reduceMul, Nat.reduceSub, Nat.reduceGT, reduceIte, Int.reduceNeg, Int.reduceToNat]) | refine WP.block ?_ | (refine WP.condW ?_; simp only [go_sem, encEntry, tyAll, Nat.reduceAdd, Nat.reduceLT, Nat.reduceLeDiff, Nat.reduceEqDiff, Nat.reduceMul, Nat.reduceSub, Nat.reduceGT, reduceIte, Int.reduceNeg, Int.reduceToNat]) | (refine WP.ret ?_; simp only [go_sem, encEntry, tyAll, Nat.reduceAdd, Nat.reduceLT, Nat.reduceLeDiff, Nat.reduceEqDiff, Nat.reduceMul, Nat.reduceSub, Nat.reduceGT, reduceIte, Int.reduceNeg, Int.reduceToNat]) | (refine WP.exit ?_; simp only [go_sem, encEntry, tyAll, Nat.reduceAdd, Nat.reduceLT, Nat.reduceLeDiff, Nat.reduceEqDiff, Nat.reduceMul, Nat.reduceSub, Nat.reduceGT, reduceIte, Int.reduceNeg, Int.reduceToNat]) | (refine WP.skip ?_; simp only [go_sem, encEntry, tyAll, Nat.reduceAdd, Nat.reduceLT, Nat.reduceLeDiff, Nat.reduceEqDiff, Nat.reduceMul, Nat.reduceSub, Nat.reduceGT, reduceIte, Int.reduceNeg, Int.reduceToNat]) |  refine And.intro ?_ ?_ | intro _))
    all_goals first | omega | skip
    · exact ⟨_, _, rfl, _, _, rfl, rfl⟩
    · rw [hy.1]
    · rw [hy.1]
    · rw [hy.2]
  | succ k =>
    have e1 : (((k + 1 : Nat) : Int) - 1) = (k : Int) := by omega
    have e2 : ((x[k]!.toNat : Int) = 32) = (x[k]! = 32) := propext ⟨fun h => UInt8.toNat_inj.1 (by show x[k]!.toNat = 32; omega), fun h => by rw [h]; rfl⟩
    rw [lastAt] at he
    have hz := ext_size x (k + 1) x.size (Nat.le_refl _)
    by_cases hc : x[k]! = 32
    · rw [if_pos hc] at he
      have e3 : ((k : Int) + 1).toNat = k + 1 := by omega
      have e4 : parseU (x.extract (k + 1) x.size) = lineNum x := by unfold lineNum; rw [he, e3]
      (repeat' (first | refine WP.seq ?_ | (refine WP.region ?_; simp only [go_sem, e1, e2, e3, e4, hc, encEntry, tyAll, Nat.reduceAdd, Nat.reduceLT, Nat.reduceLeDiff, Nat.reduceEqDiff, Nat.reduceMul, Nat.reduceSub, Nat.reduceGT, reduceIte, Int.reduceNeg, Int.reduceToNat]) | refine WP.block ?_ | (refine WP.condW ?_; simp only [go_sem, e1, e2, e3, e4, hc, encEntry, tyAll, Nat.reduceAdd, Nat.reduceLT, Nat.reduceLeDiff, Nat.reduceEqDiff, Nat.reduceMul, Nat.reduceSub, Nat.reduceGT, reduceIte, Int.reduceNeg, Int.reduceToNat]) | (refine WP.ret ?_; simp only [go_sem, e1, e2, e3, e4, hc, encEntry, tyAll, Nat.reduceAdd, Nat.reduceLT, Nat.reduceLeDiff, Nat.reduceEqDiff, Nat.reduceMul, Nat.reduceSub, Nat.reduceGT, reduceIte, Int.reduceNeg, Int.reduceToNat]) | (refine WP.exit ?_; simp only [go_sem, e1, e2, e3, e4, hc, encEntry, tyAll, Nat.reduceAdd, Nat.reduceLT, Nat.reduceLeDiff, Nat.reduceEqDiff, Nat.reduceMul, Nat.reduceSub, Nat.reduceGT, reduceIte, Int.reduceNeg, Int.reduceToNat]) | (refine WP.skip ?_; simp only [go_sem, e1, e2, e3, e4, hc, encEntry, tyAll, Nat.reduceAdd, Nat.reduceLT, Nat.reduceLeDiff, Nat.reduceEqDiff, Nat.reduceMul, Nat.reduceSub, Nat.reduceGT, reduceIte, Int.reduceNeg, Int.reduceToNat]) |  refine And.intro ?_ ?_ | intro _))
      all_goals first | omega | skip
      · exact ⟨_, _, rfl, _, _, rfl, rfl⟩
      · rename_i h; rw [(foldedNo (.inr h)).1]
      · rename_i h; rw [(foldedNo (.inr h)).1]
      · rename_i h; rw [(foldedNo (.inr h)).2]
      · exact ⟨_, _, rfl, _, _, rfl, rfl⟩
      · rename_i h; rw [(foldedYes ⟨by omega, h⟩).1, he, Int.toNat_natCast]
      · rename_i h; rw [(foldedYes ⟨by omega, h⟩).1]
      · rename_i h; rw [(foldedYes ⟨by omega, h⟩).2]
      · rename_i h; exact absurd u32 h
    · rw [if_neg hc] at he
      (repeat' (first | refine WP.seq ?_ | (refine WP.region ?_; simp only [go_sem, e1, e2, hc, encEntry, tyAll, Nat.reduceAdd, Nat.reduceLT, Nat.reduceLeDiff, Nat.reduceEqDiff, Nat.reduceMul, Nat.reduceSub, Nat.reduceGT, reduceIte, Int.reduceNeg, Int.reduceToNat]) | refine WP.block ?_ | (refine WP.condW ?_; simp only [go_sem, e1, e2, hc, encEntry, tyAll, Nat.reduceAdd, Nat.reduceLT, Nat.reduceLeDiff, Nat.reduceEqDiff, Nat.reduceMul, Nat.reduceSub, Nat.reduceGT, reduceIte, Int.reduceNeg, Int.reduceToNat]) | (refine WP.ret ?_; simp only [go_sem, e1, e2, hc, encEntry, tyAll, Nat.reduceAdd, Nat.reduceLT, Nat.reduceLeDiff, Nat.reduceEqDiff, Nat.reduceMul, Nat.reduceSub, Nat.reduceGT, reduceIte, Int.reduceNeg, Int.reduceToNat]) | (refine WP.exit ?_; simp only [go_sem, e1, e2, hc, encEntry, tyAll, Nat.reduceAdd, Nat.reduceLT, Nat.reduceLeDiff, Nat.reduceEqDiff, Nat.reduceMul, Nat.reduceSub, Nat.reduceGT, reduceIte, Int.reduceNeg, Int.reduceToNat]) | (refine WP.skip ?_; simp only [go_sem, e1, e2, hc, encEntry, tyAll, Nat.reduceAdd, Nat.reduceLT, Nat.reduceLeDiff, Nat.reduceEqDiff, Nat.reduceMul, Nat.reduceSub, Nat.reduceGT, reduceIte, Int.reduceNeg, Int.reduceToNat]) |  refine And.intro ?_ ?_ | intro _))
      all_goals first | omega | skip
      exact ⟨k, ⟨by omega, he⟩, by omega, by (first | rfl | exact ⟨rfl, rfl⟩ | exact ⟨rfl, rfl, rfl⟩ | exact ⟨rfl, rfl, rfl, rfl⟩ | exact ⟨rfl, rfl, rfl, rfl, rfl⟩ | exact ⟨⟨rfl, rfl⟩, rfl⟩ | simp)⟩
end
attribute [local go_sem] kFolded keqEntry
theorem oneEntry_ab (a : ByteArray) (b : Int) : oneEntry [.v (.string a), .v (.int .i64 b)] = ⟨a, b⟩ := rfl
end Go.Proofs.YtolnapfgfdgifaaDoor

/-
  DERIVED. ParseFolded, of the reference and of the program.
-/
namespace Go.Proofs.YtolnapfgfdgifaaDoor
open Go.Vc
set_option linter.unusedSimpArgs false
set_option linter.unusedVariables false
set_option maxHeartbeats 1000000
set_option maxRecDepth 10000
attribute [local go_sem] St.runR St.runW St.stepV offV St.step St.stepU St.stepG mkCond guardB St.prK St.pr St.prLen St.eff St.callE St.callD St.callF St.callL aI aB aS aR aC St.isM St.argL Ctr.pure Ctr.lend Ctr.move Ctr.isL Ctr.wri pur len lentBy St.lentV St.lent1 nthS argsR restOf obsR pairs swapL unObs backL St.resL erL SV.ren1 SV.up SV.up2 Ob.up St.fzL cellIds partIds St.intoRow SV.ownId St.fz SV.fz1 St.prep St.mvL St.mv SV.re1 rnOk St.prEq vals eqCells scEq Value.kd St.prStr St.prCut cutR St.bnd St.prMin St.bld isShift outL retL outJ oR oC St.ev St.get St.put St.new St.kill SV.kill SV.kill1 Ob.kill St.app St.wrt St.rowsOf St.res St.killL lk er argsL SV.strip SV.need SV.share SV.share1 SV.owns SV.owns1 SV.owns2 SV.good SV.good1 SV.rok SV.rok1 SV.rok2 SV.isV SV.isV2 nodupN SV.cells SV.one SV.pur partsIn rowsIn splice cellsAt dstOk scal2 scal1 thenK blockK retK outK outs okC okL okA okT nilC nilL nilA nilT keepC keepL keepA keepT St.runG St.dltK St.least St.clean St.final St.hide offK badS badO SV.refs SV.leaf SV.leaf2 Ob.refs dlOk fpAt Go.Vc.cover tups SV.ofAgg St.out outC subL St.has rng wr Value.oneCell' Option.isSome_some Option.isSome_none List.nil_append Bool.false_eq_true List.map_cons List.map_nil List.all_cons List.all_nil List.length_cons List.length_nil List.drop_zero List.drop_succ_cons List.take_succ_cons List.take_zero List.drop_nil List.take_nil List.getElem?_cons_zero List.getElem?_cons_succ List.getElem?_nil List.cons_append List.nil_append List.append_nil List.append_assoc List.flatMap_cons List.flatMap_nil List.contains_cons List.contains_nil List.set_cons_zero List.set_cons_succ List.getElem?_toArray Option.getD_some Option.getD_none Option.map_some Option.map_none Option.bind_some Option.some.injEq Prod.mk.injEq if_true if_false true_and and_true and_self and_false false_and Bool.and_false Bool.false_and Bool.or_true Bool.true_or Bool.or_false Bool.false_or ne_eq not_true_eq_false not_false_eq_true decide_true decide_false List.mem_cons List.not_mem_nil List.filter_cons List.filter_nil List.any_cons List.any_nil List.isEmpty_nil List.isEmpty_cons Option.getD_none or_false false_or true_or or_true forall_eq_or_imp forall_eq reduceCtorEq exists_eq exists_eq' exists_eq_left' exists_eq_left exists_eq_right exists_eq_right' imp_self implies_true Bool.and_true Bool.true_and Bool.and_self beq_self_eq_true List.replicate_succ List.replicate_zero forall_const false_implies pickB_or pickB_and beqT beqF Int.toNat_natCast List.length_map List.length_replicate ge_iff_le gt_iff_lt decide_eq_true_eq decide_eq_false_iff_not Bool.and_eq_true Bool.or_eq_true Bool.not_eq_true' Bool.not_eq_false' condG List.toList_toArray Bool.or_eq_false_iff Bool.and_eq_false_iff Int.not_lt Int.not_le beq_iff_eq beq_eq_false_iff_ne bne_iff_ne bne_eq_false_iff_eq ne_eq Bool.not_true Bool.not_false exists_and_left
attribute [local irreducible] Go.Vc.WP
attribute [local go_sem] cx0_t cx0_c
attribute [local go_sem] isV_Node isV_It isV_Entry decNode_enc decFrame_enc oneFrame_enc stkA oneFrame_ab oneNode_abc decI_enc decS_enc aU prA decEntry_enc St.fzS addL behind
def foldGo : List (List UInt8) → Option (List Entry)
  | [] => none
  | [p] => if p = [] then some [] else none
  | p :: q :: r => if foldedOk (bts p) = true then (foldGo (q :: r)).map (foldedEntry (bts p) :: ·) else none
def parseFold (s : ByteArray) : Option (List Node × List Int) := (foldGo (cutL 10 s.data.toList)).bind profileOf
theorem foldGo_cons {p : List UInt8} {T : List (List UInt8)} (h : T ≠ []) : foldGo (p :: T) = if foldedOk (bts p) = true then (foldGo T).map (foldedEntry (bts p) :: ·) else none := by
  cases T with
  | nil => exact absurd rfl h
  | cons q r => rfl
theorem foldedEntry_size (s : ByteArray) : (foldedEntry s).stack.size ≤ s.size := by
  unfold foldedEntry
  split
  · simp only [ByteArray.size_extract]; omega
  · have : ByteArray.size ⟨#[]⟩ = 0 := rfl
    simp only [this]; omega
/-- the entries of the lines so far are L, and l is left -/
def fInv (s : ByteArray) (L : List Entry) (l : List UInt8) : Prop := foldGo (cutL 10 s.data.toList) = (foldGo (cutL 10 l)).map (L ++ ·) ∧ L.length + l.length ≤ s.size ∧ ∀ e ∈ L, e.stack.size ≤ s.size
theorem fInv_zero (s : ByteArray) : fInv s [] s.data.toList := ⟨by simp, by simp, by simp⟩
theorem fInv_wf {s : ByteArray} {L : List Entry} {l : List UInt8} (hs : s.size ≤ 1048576) (h : fInv s L l) : wfE L := ⟨by have := h.2.1; omega, fun e he => by have := h.2.2 e he; omega⟩
theorem fInv_ok {s : ByteArray} {L : List Entry} {l p r : List UInt8} (h : fInv s L l) (hc : cutL 10 l = p :: cutL 10 r) (hl : l.length = p.length + 1 + r.length) (hp : foldedOk (bts p) = true) : fInv s (L ++ [foldedEntry (bts p)]) r := by
  obtain ⟨h1, h2, h3⟩ := h
  refine ⟨?_, by simp only [List.length_append, List.length_cons, List.length_nil]; omega, fun e he => ?_⟩
  · rw [h1, hc, foldGo_cons (cutL_ne 10 r), if_pos hp]
    cases foldGo (cutL 10 r) <;> simp
  · rcases List.mem_append.1 he with he | he
    · exact h3 e he
    · simp only [List.mem_cons, List.not_mem_nil, or_false] at he
      subst he
      have := foldedEntry_size (bts p)
      rw [bts_size] at this; omega
theorem fInv_bad {s : ByteArray} {L : List Entry} {l p r : List UInt8} (h : fInv s L l) (hc : cutL 10 l = p :: cutL 10 r) (hp : foldedOk (bts p) = false) : parseFold s = none := by
  unfold parseFold
  rw [h.1, hc, foldGo_cons (cutL_ne 10 r), if_neg (by rw [hp]; simp)]; rfl
theorem fInv_end {s : ByteArray} {L : List Entry} (h : fInv s L []) : parseFold s = profileOf L := by
  unfold parseFold
  have : foldGo (cutL 10 []) = some [] := rfl
  rw [h.1, this]; simp
theorem fInv_rest {s : ByteArray} {L : List Entry} {l : List UInt8} (h : fInv s L l) (hc : cutL 10 l = [l]) (hne : l ≠ []) : parseFold s = none := by
  unfold parseFold
  rw [h.1, hc, foldGo, if_neg hne]; rfl
def kPF : Ctr := pur (fun args => aS args 0) (fun s => [.v (.string s)]) (fun s => s.size ≤ 1048576) (fun d s => .tup [.agg [.own d, .own (d + 1000)], .v (.bool (parseFold s).isSome)])
  (fun d s => [(d, .sl 87 3 (((parseFold s).getD ([], [])).1.map encNode)), (d + 1000, .sl 3 1 (((parseFold s).getD ([], [])).2.map encI))])
theorem bts_ne {l : List UInt8} (h : l ≠ []) : ¬ bts l = ⟨#[]⟩ := fun e => h (by
  have := congrArg (fun b : ByteArray => b.data.toList) e
  simpa [bts] using this)
theorem oneEntry_ab' (a : ByteArray) (b : Int) : oneEntry [.v (.string a), .v (.int .i64 b)] = ⟨a, b⟩ := rfl
section
noncomputable def cxPfoI : Cx := { P := Tryd.prog, tys := tys, C := [(26, kCut), (27, kFolded), (28, kProfOf)], hty := tysOk, hC := COk.cons cCut (COk.cons cFoldedI (COk.cons cProfOfI (COk.nil _))) }
theorem cxPfoI_t : cxPfoI.tys = tys := rfl
theorem cxPfoI_c : cxPfoI.C = [(26, kCut), (27, kFolded), (28, kProfOf)] := rfl
attribute [local go_sem] cxPfoI_t cxPfoI_c kCut kFolded kProfOf
theorem cPFI : Cn Tryd.prog 11 kPF := by
  refine Cn.pur Tryd.func11 (by kernel_rfl) rfl fun d x hx => ?_
  rename ByteArray => s
  refine Holds.go (c := cxPfoI) Tryd.func11 rfl Tryd.results11 Tryd.ntmps11 (by omega) (by simp) rfl ?_
  intro X0 w0
  (repeat' (first | refine WP.seq ?_ | (refine WP.region ?_; simp only [go_sem, tyAll, Nat.reduceAdd, Nat.reduceLT, Nat.reduceLeDiff, Nat.reduceEqDiff, Nat.reduceMul, Nat.reduceSub, Nat.reduceGT, reduceIte, Int.reduceNeg, Int.reduceToNat]) | refine WP.block ?_ | (refine WP.condW ?_; simp only [go_sem, tyAll, Nat.reduceAdd, Nat.reduceLT, Nat.reduceLeDiff, Nat.reduceEqDiff, Nat.reduceMul, Nat.reduceSub, Nat.reduceGT, reduceIte, Int.reduceNeg, Int.reduceToNat]) | (refine WP.ret ?_; simp only [go_sem, tyAll, Nat.reduceAdd, Nat.reduceLT, Nat.reduceLeDiff, Nat.reduceEqDiff, Nat.reduceMul, Nat.reduceSub, Nat.reduceGT, reduceIte, Int.reduceNeg, Int.reduceToNat]) | (refine WP.exit ?_; simp only [go_sem, tyAll, Nat.reduceAdd, Nat.reduceLT, Nat.reduceLeDiff, Nat.reduceEqDiff, Nat.reduceMul, Nat.reduceSub, Nat.reduceGT, reduceIte, Int.reduceNeg, Int.reduceToNat]) | (refine WP.skip ?_; simp only [go_sem, tyAll, Nat.reduceAdd, Nat.reduceLT, Nat.reduceLeDiff, Nat.reduceEqDiff, Nat.reduceMul, Nat.reduceSub, Nat.reduceGT, reduceIte, Int.reduceNeg, Int.reduceToNat]) |  refine And.intro ?_ ?_ | intro _))
  all_goals first | omega | skip
  refine WP.loop (fun q : List Entry × List UInt8 => ⟨[(0, .v (.string (bts q.2))), (2, .ptr 2 0 0 0), (4, .own 10)], [(2, .box 34 [.v (.slice none 0 0), .v (.slice none 0 0)]), (10, .sl 47 2 (q.1.map encEntry))]⟩)
    (fun q => fInv s q.1 q.2) (fun q => q.2.length) ([], s.data.toList) (fInv_zero s) ?_ ?_
  · have e : bts s.data.toList = s := bts_list s
    simp only [e]
    (simp only [go_sem, tyAll, Nat.reduceAdd, Nat.reduceLT, Nat.reduceLeDiff, Nat.reduceEqDiff, Nat.reduceMul, Nat.reduceSub, Nat.reduceGT, reduceIte, Int.reduceNeg, Int.reduceToNat] <;> (first | rfl | exact ⟨rfl, rfl⟩ | exact ⟨rfl, rfl, rfl⟩ | exact ⟨rfl, rfl, rfl, rfl⟩ | exact ⟨rfl, rfl, rfl, rfl, rfl⟩ | exact ⟨⟨rfl, rfl⟩, rfl⟩ | simp))
  rintro ⟨L, l⟩ hI
  simp only at hI ⊢
  have hwf := fInv_wf hx hI
  have hll := hI.2.1
  have hbd : (bts l).data.toList = l := by simp [bts]
  have hbz : (bts l).size = l.length := bts_size l
  have h10 : (⟨#[10]⟩ : ByteArray).data.toList = [10] := rfl
  by_cases h0 : l = []
  · subst h0
    have hnil : bts [] = ⟨#[]⟩ := rfl
    have hend := fInv_end hI
    (repeat' (first | refine WP.seq ?_ | (refine WP.region ?_; simp only [go_sem, hnil, hend, tyAll, Nat.reduceAdd, Nat.reduceLT, Nat.reduceLeDiff, Nat.reduceEqDiff, Nat.reduceMul, Nat.reduceSub, Nat.reduceGT, reduceIte, Int.reduceNeg, Int.reduceToNat]) | refine WP.block ?_ | (refine WP.condW ?_; simp only [go_sem, hnil, hend, tyAll, Nat.reduceAdd, Nat.reduceLT, Nat.reduceLeDiff, Nat.reduceEqDiff, Nat.reduceMul, Nat.reduceSub, Nat.reduceGT, reduceIte, Int.reduceNeg, Int.reduceToNat]) | (refine WP.ret ?_; simp only [go_sem, hnil, hend, tyAll, Nat.reduceAdd, Nat.reduceLT, Nat.reduceLeDiff, Nat.reduceEqDiff, Nat.reduceMul, Nat.reduceSub, Nat.reduceGT, reduceIte, Int.reduceNeg, Int.reduceToNat]) | (refine WP.exit ?_; simp only [go_sem, hnil, hend, tyAll, Nat.reduceAdd, Nat.reduceLT, Nat.reduceLeDiff, Nat.reduceEqDiff, Nat.reduceMul, Nat.reduceSub, Nat.reduceGT, reduceIte, Int.reduceNeg, Int.reduceToNat]) | (refine WP.skip ?_; simp only [go_sem, hnil, hend, tyAll, Nat.reduceAdd, Nat.reduceLT, Nat.reduceLeDiff, Nat.reduceEqDiff, Nat.reduceMul, Nat.reduceSub, Nat.reduceGT, reduceIte, Int.reduceNeg, Int.reduceToNat]) |  refine And.intro ?_ ?_ | intro _))
    all_goals first | omega | exact hwf.1 | exact hwf.2 _ ‹_› | exact ⟨_, _, _, rfl⟩ | exact ⟨_, _, rfl, _, _, rfl, rfl⟩ | exact if_neg (by omega) | exact ⟨_, _, if_neg (by omega)⟩ | exact ⟨_, _, rfl⟩ | skip
    all_goals trace_state
  have hne := bts_ne h0
  rcases cut_first 10 l with hc | ⟨x, r, hlx, hc⟩
  · have hcut := libcut_no 10 hc
    have hbad := fInv_rest hI (cutL_plain 10 hc) h0
    (repeat' (first | refine WP.seq ?_ | (refine WP.region ?_; simp only [go_sem, hne, hbd, h10, hcut, hbad, encEntry, tyAll, Nat.reduceAdd, Nat.reduceLT, Nat.reduceLeDiff, Nat.reduceEqDiff, Nat.reduceMul, Nat.reduceSub, Nat.reduceGT, reduceIte, Int.reduceNeg, Int.reduceToNat]) | refine WP.block ?_ | (refine WP.condW ?_; simp only [go_sem, hne, hbd, h10, hcut, hbad, encEntry, tyAll, Nat.reduceAdd, Nat.reduceLT, Nat.reduceLeDiff, Nat.reduceEqDiff, Nat.reduceMul, Nat.reduceSub, Nat.reduceGT, reduceIte, Int.reduceNeg, Int.reduceToNat]) | (refine WP.ret ?_; simp only [go_sem, hne, hbd, h10, hcut, hbad, encEntry, tyAll, Nat.reduceAdd, Nat.reduceLT, Nat.reduceLeDiff, Nat.reduceEqDiff, Nat.reduceMul, Nat.reduceSub, Nat.reduceGT, reduceIte, Int.reduceNeg, Int.reduceToNat]) | (refine WP.exit ?_; simp only [go_sem, hne, hbd, h10, hcut, hbad, encEntry, tyAll, Nat.reduceAdd, Nat.reduceLT, Nat.reduceLeDiff, Nat.reduceEqDiff, Nat.reduceMul, Nat.reduceSub, Nat.reduceGT, reduceIte, Int.reduceNeg, Int.reduceToNat]) | (refine WP.skip ?_; simp only [go_sem, hne, hbd, h10, hcut, hbad, encEntry, tyAll, Nat.reduceAdd, Nat.reduceLT, Nat.reduceLeDiff, Nat.reduceEqDiff, Nat.reduceMul, Nat.reduceSub, Nat.reduceGT, reduceIte, Int.reduceNeg, Int.reduceToNat]) |  refine And.intro ?_ ?_ | intro _))
    all_goals first | omega | exact ⟨_, _, _, rfl⟩ | exact ⟨_, _, rfl, _, _, rfl, rfl⟩ | exact if_neg (by omega) | exact ⟨_, _, if_neg (by omega)⟩ | exact ⟨_, _, rfl⟩ | skip
    all_goals trace_state
  · have hcut := libcut_at 10 r hc
    rw [← hlx] at hcut
    have hcl : cutL 10 l = x :: cutL 10 r := by rw [hlx]; exact cutL_app 10 r hc
    have hlen : l.length = x.length + 1 + r.length := by rw [hlx]; simp; omega
    have hxz : (bts x).size = x.length := bts_size x
    cases hf : foldedOk (bts x) with
    | false =>
      have hbad := fInv_bad hI hcl hf
      (repeat' (first | refine WP.seq ?_ | (refine WP.region ?_; simp only [go_sem, hne, hbd, h10, hcut, hbad, hf, encEntry, tyAll, Nat.reduceAdd, Nat.reduceLT, Nat.reduceLeDiff, Nat.reduceEqDiff, Nat.reduceMul, Nat.reduceSub, Nat.reduceGT, reduceIte, Int.reduceNeg, Int.reduceToNat]) | refine WP.block ?_ | (refine WP.condW ?_; simp only [go_sem, hne, hbd, h10, hcut, hbad, hf, encEntry, tyAll, Nat.reduceAdd, Nat.reduceLT, Nat.reduceLeDiff, Nat.reduceEqDiff, Nat.reduceMul, Nat.reduceSub, Nat.reduceGT, reduceIte, Int.reduceNeg, Int.reduceToNat]) | (refine WP.ret ?_; simp only [go_sem, hne, hbd, h10, hcut, hbad, hf, encEntry, tyAll, Nat.reduceAdd, Nat.reduceLT, Nat.reduceLeDiff, Nat.reduceEqDiff, Nat.reduceMul, Nat.reduceSub, Nat.reduceGT, reduceIte, Int.reduceNeg, Int.reduceToNat]) | (refine WP.exit ?_; simp only [go_sem, hne, hbd, h10, hcut, hbad, hf, encEntry, tyAll, Nat.reduceAdd, Nat.reduceLT, Nat.reduceLeDiff, Nat.reduceEqDiff, Nat.reduceMul, Nat.reduceSub, Nat.reduceGT, reduceIte, Int.reduceNeg, Int.reduceToNat]) | (refine WP.skip ?_; simp only [go_sem, hne, hbd, h10, hcut, hbad, hf, encEntry, tyAll, Nat.reduceAdd, Nat.reduceLT, Nat.reduceLeDiff, Nat.reduceEqDiff, Nat.reduceMul, Nat.reduceSub, Nat.reduceGT, reduceIte, Int.reduceNeg, Int.reduceToNat]) |  refine And.intro ?_ ?_ | intro _))
      all_goals first | omega | exact ⟨_, _, _, rfl⟩ | exact ⟨_, _, rfl, _, _, rfl, rfl⟩ | exact if_neg (by omega) | exact ⟨_, _, if_neg (by omega)⟩ | exact ⟨_, _, rfl⟩ | skip
      all_goals trace_state
    | true =>
      have hok := fInv_ok hI hcl hlen hf
      (repeat' (first | refine WP.seq ?_ | (refine WP.region ?_; simp only [go_sem, hne, hbd, h10, hcut, hf, encEntry, tyAll, Nat.reduceAdd, Nat.reduceLT, Nat.reduceLeDiff, Nat.reduceEqDiff, Nat.reduceMul, Nat.reduceSub, Nat.reduceGT, reduceIte, Int.reduceNeg, Int.reduceToNat]) | refine WP.block ?_ | (refine WP.condW ?_; simp only [go_sem, hne, hbd, h10, hcut, hf, encEntry, tyAll, Nat.reduceAdd, Nat.reduceLT, Nat.reduceLeDiff, Nat.reduceEqDiff, Nat.reduceMul, Nat.reduceSub, Nat.reduceGT, reduceIte, Int.reduceNeg, Int.reduceToNat]) | (refine WP.ret ?_; simp only [go_sem, hne, hbd, h10, hcut, hf, encEntry, tyAll, Nat.reduceAdd, Nat.reduceLT, Nat.reduceLeDiff, Nat.reduceEqDiff, Nat.reduceMul, Nat.reduceSub, Nat.reduceGT, reduceIte, Int.reduceNeg, Int.reduceToNat]) | (refine WP.exit ?_; simp only [go_sem, hne, hbd, h10, hcut, hf, encEntry, tyAll, Nat.reduceAdd, Nat.reduceLT, Nat.reduceLeDiff, Nat.reduceEqDiff, Nat.reduceMul, Nat.reduceSub, Nat.reduceGT, reduceIte, Int.reduceNeg, Int.reduceToNat]) | (refine WP.skip ?_; simp only [go_sem, hne, hbd, h10, hcut, hf, encEntry, tyAll, Nat.reduceAdd, Nat.reduceLT, Nat.reduceLeDiff, Nat.reduceEqDiff, Nat.reduceMul, Nat.reduceSub, Nat.reduceGT, reduceIte, Int.reduceNeg, Int.reduceToNat]) |  refine And.intro ?_ ?_ | intro _))
      all_goals first | omega | exact ⟨_, _, _, rfl⟩ | exact ⟨_, _, rfl, _, _, rfl, rfl⟩ | skip
      all_goals first | exact ⟨(L ++ [foldedEntry (bts x)], r), hok, by simp only; omega, by simp only [List.map_append, List.map_cons, List.map_nil, encEntry]; (first | rfl | exact ⟨rfl, rfl⟩ | exact ⟨rfl, rfl, rfl⟩ | exact ⟨rfl, rfl, rfl, rfl⟩ | exact ⟨rfl, rfl, rfl, rfl, rfl⟩ | exact ⟨⟨rfl, rfl⟩, rfl⟩ | simp)⟩ | trace_state
end
section
noncomputable def cxPfoS : Cx := { P := Tryd.prog, tys := tys, C := [(24, kFolded), (25, kProfOf)], hty := tysOk, hC := COk.cons cFoldedS (COk.cons cProfOfS (COk.nil _)) }
theorem cxPfoS_t : cxPfoS.tys = tys := rfl
theorem cxPfoS_c : cxPfoS.C = [(24, kFolded), (25, kProfOf)] := rfl
attribute [local go_sem] cxPfoS_t cxPfoS_c kFolded kProfOf
theorem cPFS : Cn Tryd.prog 10 kPF := by
  refine Cn.pur Tryd.func10 (by kernel_rfl) rfl fun d x hx => ?_
  rename ByteArray => s
  refine Holds.go (c := cxPfoS) Tryd.func10 rfl Tryd.results10 Tryd.ntmps10 (by omega) (by simp) rfl ?_
  intro X0 w0
  (repeat' (first | refine WP.seq ?_ | (refine WP.region ?_; simp only [go_sem, tyAll, Nat.reduceAdd, Nat.reduceLT, Nat.reduceLeDiff, Nat.reduceEqDiff, Nat.reduceMul, Nat.reduceSub, Nat.reduceGT, reduceIte, Int.reduceNeg, Int.reduceToNat]) | refine WP.block ?_ | (refine WP.condW ?_; simp only [go_sem, tyAll, Nat.reduceAdd, Nat.reduceLT, Nat.reduceLeDiff, Nat.reduceEqDiff, Nat.reduceMul, Nat.reduceSub, Nat.reduceGT, reduceIte, Int.reduceNeg, Int.reduceToNat]) | (refine WP.ret ?_; simp only [go_sem, tyAll, Nat.reduceAdd, Nat.reduceLT, Nat.reduceLeDiff, Nat.reduceEqDiff, Nat.reduceMul, Nat.reduceSub, Nat.reduceGT, reduceIte, Int.reduceNeg, Int.reduceToNat]) | (refine WP.exit ?_; simp only [go_sem, tyAll, Nat.reduceAdd, Nat.reduceLT, Nat.reduceLeDiff, Nat.reduceEqDiff, Nat.reduceMul, Nat.reduceSub, Nat.reduceGT, reduceIte, Int.reduceNeg, Int.reduceToNat]) | (refine WP.skip ?_; simp only [go_sem, tyAll, Nat.reduceAdd, Nat.reduceLT, Nat.reduceLeDiff, Nat.reduceEqDiff, Nat.reduceMul, Nat.reduceSub, Nat.reduceGT, reduceIte, Int.reduceNeg, Int.reduceToNat]) |  refine And.intro ?_ ?_ | intro _))
  all_goals first | omega | skip
  have hln : s.data.toList.length = s.size := by simp
  refine WP.loop (fun q : Nat × Nat × List Entry => ⟨[(0, .v (.string s)), (2, .ptr 2 0 0 0), (4, .own 11), (5, .v (.int .i64 q.2.1)), (6, .v (.int .i64 q.1))], [(2, .box 34 [.v (.slice none 0 0), .v (.slice none 0 0)]), (11, .sl 47 2 (q.2.2.map encEntry))]⟩)
    (fun q => q.1 ≤ s.size ∧ q.2.1 ≤ q.1 ∧ fInv s q.2.2 (s.data.toList.drop q.2.1) ∧ ∀ i (hi : i < s.data.toList.length), q.2.1 ≤ i → i < q.1 → s.data.toList[i] ≠ 10) (fun q => s.size - q.1) (0, 0, []) ⟨by simp, by simp, by simpa using fInv_zero s, by simp⟩ ?_ ?_
  · (simp only [go_sem, tyAll, Nat.reduceAdd, Nat.reduceLT, Nat.reduceLeDiff, Nat.reduceEqDiff, Nat.reduceMul, Nat.reduceSub, Nat.reduceGT, reduceIte, Int.reduceNeg, Int.reduceToNat] <;> (first | rfl | exact ⟨rfl, rfl⟩ | exact ⟨rfl, rfl, rfl⟩ | exact ⟨rfl, rfl, rfl, rfl⟩ | exact ⟨rfl, rfl, rfl, rfl, rfl⟩ | exact ⟨⟨rfl, rfl⟩, rfl⟩ | simp))
  rintro ⟨k, a, L⟩ ⟨hk, ha, hI, hB⟩
  simp only at hk ha hI hB ⊢
  have hwf := fInv_wf hx hI
  have hll := hI.2.1
  rw [List.length_drop, hln] at hll
  have hext := seg_ext s a k hk
  by_cases hlt : k < s.size
  · have hli : (k : Int) < (s.size : Int) := by omega
    have hg := ba_get s k hlt
    have hsz : (bts (seg s.data.toList a k)).size = k - a := by rw [bts_size]; unfold seg; rw [List.length_take, List.length_drop, hln]; omega
    by_cases hc : s[k]! = 10
    · have hcut := seg_cut ha (by omega) (by rw [← hg]; exact hc) hB
      have hlen : (s.data.toList.drop a).length = (seg s.data.toList a k).length + 1 + (s.data.toList.drop (k + 1)).length := by
        unfold seg; simp only [List.length_drop, List.length_take, hln]; omega
      have hcc : (s[k]!.toNat : Int) = 10 := by rw [hc]; rfl
      cases hf : foldedOk (bts (seg s.data.toList a k)) with
      | false =>
        have hbad := fInv_bad hI hcut hf
        (repeat' (first | refine WP.seq ?_ | (refine WP.region ?_; simp only [go_sem, hli, hcc, hext, hf, hbad, encEntry, tyAll, Nat.reduceAdd, Nat.reduceLT, Nat.reduceLeDiff, Nat.reduceEqDiff, Nat.reduceMul, Nat.reduceSub, Nat.reduceGT, reduceIte, Int.reduceNeg, Int.reduceToNat]) | refine WP.block ?_ | (refine WP.condW ?_; simp only [go_sem, hli, hcc, hext, hf, hbad, encEntry, tyAll, Nat.reduceAdd, Nat.reduceLT, Nat.reduceLeDiff, Nat.reduceEqDiff, Nat.reduceMul, Nat.reduceSub, Nat.reduceGT, reduceIte, Int.reduceNeg, Int.reduceToNat]) | (refine WP.ret ?_; simp only [go_sem, hli, hcc, hext, hf, hbad, encEntry, tyAll, Nat.reduceAdd, Nat.reduceLT, Nat.reduceLeDiff, Nat.reduceEqDiff, Nat.reduceMul, Nat.reduceSub, Nat.reduceGT, reduceIte, Int.reduceNeg, Int.reduceToNat]) | (refine WP.exit ?_; simp only [go_sem, hli, hcc, hext, hf, hbad, encEntry, tyAll, Nat.reduceAdd, Nat.reduceLT, Nat.reduceLeDiff, Nat.reduceEqDiff, Nat.reduceMul, Nat.reduceSub, Nat.reduceGT, reduceIte, Int.reduceNeg, Int.reduceToNat]) | (refine WP.skip ?_; simp only [go_sem, hli, hcc, hext, hf, hbad, encEntry, tyAll, Nat.reduceAdd, Nat.reduceLT, Nat.reduceLeDiff, Nat.reduceEqDiff, Nat.reduceMul, Nat.reduceSub, Nat.reduceGT, reduceIte, Int.reduceNeg, Int.reduceToNat]) |  refine And.intro ?_ ?_ | intro _))
        all_goals first | omega | exact ⟨_, _, _, rfl⟩ | exact ⟨_, _, rfl, _, _, rfl, rfl⟩ | exact if_neg (by omega) | exact ⟨_, _, if_neg (by omega)⟩ | exact ⟨_, _, rfl⟩ | skip
        all_goals trace_state
      | true =>
        have hok := fInv_ok hI hcut hlen hf
        (repeat' (first | refine WP.seq ?_ | (refine WP.region ?_; simp only [go_sem, hli, hcc, hext, hf, encEntry, tyAll, Nat.reduceAdd, Nat.reduceLT, Nat.reduceLeDiff, Nat.reduceEqDiff, Nat.reduceMul, Nat.reduceSub, Nat.reduceGT, reduceIte, Int.reduceNeg, Int.reduceToNat]) | refine WP.block ?_ | (refine WP.condW ?_; simp only [go_sem, hli, hcc, hext, hf, encEntry, tyAll, Nat.reduceAdd, Nat.reduceLT, Nat.reduceLeDiff, Nat.reduceEqDiff, Nat.reduceMul, Nat.reduceSub, Nat.reduceGT, reduceIte, Int.reduceNeg, Int.reduceToNat]) | (refine WP.ret ?_; simp only [go_sem, hli, hcc, hext, hf, encEntry, tyAll, Nat.reduceAdd, Nat.reduceLT, Nat.reduceLeDiff, Nat.reduceEqDiff, Nat.reduceMul, Nat.reduceSub, Nat.reduceGT, reduceIte, Int.reduceNeg, Int.reduceToNat]) | (refine WP.exit ?_; simp only [go_sem, hli, hcc, hext, hf, encEntry, tyAll, Nat.reduceAdd, Nat.reduceLT, Nat.reduceLeDiff, Nat.reduceEqDiff, Nat.reduceMul, Nat.reduceSub, Nat.reduceGT, reduceIte, Int.reduceNeg, Int.reduceToNat]) | (refine WP.skip ?_; simp only [go_sem, hli, hcc, hext, hf, encEntry, tyAll, Nat.reduceAdd, Nat.reduceLT, Nat.reduceLeDiff, Nat.reduceEqDiff, Nat.reduceMul, Nat.reduceSub, Nat.reduceGT, reduceIte, Int.reduceNeg, Int.reduceToNat]) |  refine And.intro ?_ ?_ | intro _))
        all_goals first | omega | exact ⟨_, _, _, rfl⟩ | exact ⟨_, _, rfl, _, _, rfl, rfl⟩ | skip
        all_goals first | exact ⟨(k + 1, k + 1, L ++ [foldedEntry (bts (seg s.data.toList a k))]), ⟨by simp only; omega, Nat.le_refl _, hok, fun i hi h1 h2 => by simp only at h1 h2; omega⟩, by simp only; omega, by simp only [List.map_append, List.map_cons, List.map_nil, encEntry]; (first | rfl | exact ⟨rfl, rfl⟩ | exact ⟨rfl, rfl, rfl⟩ | exact ⟨rfl, rfl, rfl, rfl⟩ | exact ⟨rfl, rfl, rfl, rfl, rfl⟩ | exact ⟨⟨rfl, rfl⟩, rfl⟩ | simp)⟩ | trace_state
    · have hcc : ¬ (s[k]!.toNat : Int) = 10 := fun e => hc (UInt8.toNat_inj.1 (by show s[k]!.toNat = 10; omega))
      (repeat' (first | refine WP.seq ?_ | (refine WP.region ?_; simp only [go_sem, hli, hcc, tyAll, Nat.reduceAdd, Nat.reduceLT, Nat.reduceLeDiff, Nat.reduceEqDiff, Nat.reduceMul, Nat.reduceSub, Nat.reduceGT, reduceIte, Int.reduceNeg, Int.reduceToNat]) | refine WP.block ?_ | (refine WP.condW ?_; simp only [go_sem, hli, hcc, tyAll, Nat.reduceAdd, Nat.reduceLT, Nat.reduceLeDiff, Nat.reduceEqDiff, Nat.reduceMul, Nat.reduceSub, Nat.reduceGT, reduceIte, Int.reduceNeg, Int.reduceToNat]) | (refine WP.ret ?_; simp only [go_sem, hli, hcc, tyAll, Nat.reduceAdd, Nat.reduceLT, Nat.reduceLeDiff, Nat.reduceEqDiff, Nat.reduceMul, Nat.reduceSub, Nat.reduceGT, reduceIte, Int.reduceNeg, Int.reduceToNat]) | (refine WP.exit ?_; simp only [go_sem, hli, hcc, tyAll, Nat.reduceAdd, Nat.reduceLT, Nat.reduceLeDiff, Nat.reduceEqDiff, Nat.reduceMul, Nat.reduceSub, Nat.reduceGT, reduceIte, Int.reduceNeg, Int.reduceToNat]) | (refine WP.skip ?_; simp only [go_sem, hli, hcc, tyAll, Nat.reduceAdd, Nat.reduceLT, Nat.reduceLeDiff, Nat.reduceEqDiff, Nat.reduceMul, Nat.reduceSub, Nat.reduceGT, reduceIte, Int.reduceNeg, Int.reduceToNat]) |  refine And.intro ?_ ?_ | intro _))
      all_goals first | omega | skip
      all_goals first | exact ⟨(k + 1, a, L), ⟨by simp only; omega, by simp only; omega, hI, fun i hi h1 h2 => by
        simp only at h1 h2
        rcases Nat.lt_or_ge i k with hh | hh
        · exact hB i hi h1 hh
        · have : i = k := by omega
          subst this
          rw [← hg]; exact hc⟩, by simp only; omega, by (first | rfl | exact ⟨rfl, rfl⟩ | exact ⟨rfl, rfl, rfl⟩ | exact ⟨rfl, rfl, rfl, rfl⟩ | exact ⟨rfl, rfl, rfl, rfl, rfl⟩ | exact ⟨⟨rfl, rfl⟩, rfl⟩ | simp)⟩ | trace_state
  · have hge : ¬ (k : Int) < (s.size : Int) := by omega
    have hke : k = s.size := by omega
    by_cases hae : a = s.size
    · have hd : s.data.toList.drop a = [] := List.drop_eq_nil_of_le (by omega)
      rw [hd] at hI
      have hend := fInv_end hI
      have hai : (a : Int) = (s.size : Int) := by omega
      (repeat' (first | refine WP.seq ?_ | (refine WP.region ?_; simp only [go_sem, hge, hai, hend, tyAll, Nat.reduceAdd, Nat.reduceLT, Nat.reduceLeDiff, Nat.reduceEqDiff, Nat.reduceMul, Nat.reduceSub, Nat.reduceGT, reduceIte, Int.reduceNeg, Int.reduceToNat]) | refine WP.block ?_ | (refine WP.condW ?_; simp only [go_sem, hge, hai, hend, tyAll, Nat.reduceAdd, Nat.reduceLT, Nat.reduceLeDiff, Nat.reduceEqDiff, Nat.reduceMul, Nat.reduceSub, Nat.reduceGT, reduceIte, Int.reduceNeg, Int.reduceToNat]) | (refine WP.ret ?_; simp only [go_sem, hge, hai, hend, tyAll, Nat.reduceAdd, Nat.reduceLT, Nat.reduceLeDiff, Nat.reduceEqDiff, Nat.reduceMul, Nat.reduceSub, Nat.reduceGT, reduceIte, Int.reduceNeg, Int.reduceToNat]) | (refine WP.exit ?_; simp only [go_sem, hge, hai, hend, tyAll, Nat.reduceAdd, Nat.reduceLT, Nat.reduceLeDiff, Nat.reduceEqDiff, Nat.reduceMul, Nat.reduceSub, Nat.reduceGT, reduceIte, Int.reduceNeg, Int.reduceToNat]) | (refine WP.skip ?_; simp only [go_sem, hge, hai, hend, tyAll, Nat.reduceAdd, Nat.reduceLT, Nat.reduceLeDiff, Nat.reduceEqDiff, Nat.reduceMul, Nat.reduceSub, Nat.reduceGT, reduceIte, Int.reduceNeg, Int.reduceToNat]) |  refine And.intro ?_ ?_ | intro _))
      all_goals first | omega | exact hwf.1 | exact hwf.2 _ ‹_› | exact ⟨_, _, _, rfl⟩ | exact ⟨_, _, rfl, _, _, rfl, rfl⟩ | exact if_neg (by omega) | exact ⟨_, _, if_neg (by omega)⟩ | exact ⟨_, _, rfl⟩ | skip
      all_goals trace_state
    · have hend := seg_end (a := a) (l := s.data.toList) (c := 10) (by omega) (fun i hi h1 h2 => hB i hi h1 (by omega))
      have hsg : seg s.data.toList a s.data.toList.length = s.data.toList.drop a := by unfold seg; rw [List.take_of_length_le (by rw [List.length_drop]; omega)]
      rw [hsg] at hend
      have hbad := fInv_rest hI hend (fun e => by have := congrArg List.length e; simp only [List.length_drop, List.length_nil, hln] at this; omega)
      have hai : ¬ (a : Int) = (s.size : Int) := by omega
      (repeat' (first | refine WP.seq ?_ | (refine WP.region ?_; simp only [go_sem, hge, hai, hbad, tyAll, Nat.reduceAdd, Nat.reduceLT, Nat.reduceLeDiff, Nat.reduceEqDiff, Nat.reduceMul, Nat.reduceSub, Nat.reduceGT, reduceIte, Int.reduceNeg, Int.reduceToNat]) | refine WP.block ?_ | (refine WP.condW ?_; simp only [go_sem, hge, hai, hbad, tyAll, Nat.reduceAdd, Nat.reduceLT, Nat.reduceLeDiff, Nat.reduceEqDiff, Nat.reduceMul, Nat.reduceSub, Nat.reduceGT, reduceIte, Int.reduceNeg, Int.reduceToNat]) | (refine WP.ret ?_; simp only [go_sem, hge, hai, hbad, tyAll, Nat.reduceAdd, Nat.reduceLT, Nat.reduceLeDiff, Nat.reduceEqDiff, Nat.reduceMul, Nat.reduceSub, Nat.reduceGT, reduceIte, Int.reduceNeg, Int.reduceToNat]) | (refine WP.exit ?_; simp only [go_sem, hge, hai, hbad, tyAll, Nat.reduceAdd, Nat.reduceLT, Nat.reduceLeDiff, Nat.reduceEqDiff, Nat.reduceMul, Nat.reduceSub, Nat.reduceGT, reduceIte, Int.reduceNeg, Int.reduceToNat]) | (refine WP.skip ?_; simp only [go_sem, hge, hai, hbad, tyAll, Nat.reduceAdd, Nat.reduceLT, Nat.reduceLeDiff, Nat.reduceEqDiff, Nat.reduceMul, Nat.reduceSub, Nat.reduceGT, reduceIte, Int.reduceNeg, Int.reduceToNat]) |  refine And.intro ?_ ?_ | intro _))
      all_goals first | omega | exact ⟨_, _, _, rfl⟩ | exact ⟨_, _, rfl, _, _, rfl, rfl⟩ | exact if_neg (by omega) | exact ⟨_, _, if_neg (by omega)⟩ | exact ⟨_, _, rfl⟩ | skip
      all_goals trace_state
end
end Go.Proofs.YtolnapfgfdgifaaDoor

/-
  DERIVED. TotalOf, of the reference and of the program.
-/
namespace Go.Proofs.YtolnapfgfdgifaaDoor
open Go.Vc
set_option linter.unusedSimpArgs false
set_option linter.unusedVariables false
set_option maxHeartbeats 1000000
set_option maxRecDepth 10000
attribute [local go_sem] St.runR St.runW St.stepV offV St.step St.stepU St.stepG mkCond guardB St.prK St.pr St.prLen St.eff St.callE St.callD St.callF St.callL aI aB aS aR aC St.isM St.argL Ctr.pure Ctr.lend Ctr.move Ctr.isL Ctr.wri pur len lentBy St.lentV St.lent1 nthS argsR restOf obsR pairs swapL unObs backL St.resL erL SV.ren1 SV.up SV.up2 Ob.up St.fzL cellIds partIds St.intoRow SV.ownId St.fz SV.fz1 St.prep St.mvL St.mv SV.re1 rnOk St.prEq vals eqCells scEq Value.kd St.prStr St.prCut cutR St.bnd St.prMin St.bld isShift outL retL outJ oR oC St.ev St.get St.put St.new St.kill SV.kill SV.kill1 Ob.kill St.app St.wrt St.rowsOf St.res St.killL lk er argsL SV.strip SV.need SV.share SV.share1 SV.owns SV.owns1 SV.owns2 SV.good SV.good1 SV.rok SV.rok1 SV.rok2 SV.isV SV.isV2 nodupN SV.cells SV.one SV.pur partsIn rowsIn splice cellsAt dstOk scal2 scal1 thenK blockK retK outK outs okC okL okA okT nilC nilL nilA nilT keepC keepL keepA keepT St.runG St.dltK St.least St.clean St.final St.hide offK badS badO SV.refs SV.leaf SV.leaf2 Ob.refs dlOk fpAt Go.Vc.cover tups SV.ofAgg St.out outC subL St.has rng wr Value.oneCell' Option.isSome_some Option.isSome_none List.nil_append Bool.false_eq_true List.map_cons List.map_nil List.all_cons List.all_nil List.length_cons List.length_nil List.drop_zero List.drop_succ_cons List.take_succ_cons List.take_zero List.drop_nil List.take_nil List.getElem?_cons_zero List.getElem?_cons_succ List.getElem?_nil List.cons_append List.nil_append List.append_nil List.append_assoc List.flatMap_cons List.flatMap_nil List.contains_cons List.contains_nil List.set_cons_zero List.set_cons_succ List.getElem?_toArray Option.getD_some Option.getD_none Option.map_some Option.map_none Option.bind_some Option.some.injEq Prod.mk.injEq if_true if_false true_and and_true and_self and_false false_and Bool.and_false Bool.false_and Bool.or_true Bool.true_or Bool.or_false Bool.false_or ne_eq not_true_eq_false not_false_eq_true decide_true decide_false List.mem_cons List.not_mem_nil List.filter_cons List.filter_nil List.any_cons List.any_nil List.isEmpty_nil List.isEmpty_cons Option.getD_none or_false false_or true_or or_true forall_eq_or_imp forall_eq reduceCtorEq exists_eq exists_eq' exists_eq_left' exists_eq_left exists_eq_right exists_eq_right' imp_self implies_true Bool.and_true Bool.true_and Bool.and_self beq_self_eq_true List.replicate_succ List.replicate_zero forall_const false_implies pickB_or pickB_and beqT beqF Int.toNat_natCast List.length_map List.length_replicate ge_iff_le gt_iff_lt decide_eq_true_eq decide_eq_false_iff_not Bool.and_eq_true Bool.or_eq_true Bool.not_eq_true' Bool.not_eq_false' condG List.toList_toArray Bool.or_eq_false_iff Bool.and_eq_false_iff Int.not_lt Int.not_le beq_iff_eq beq_eq_false_iff_ne bne_iff_ne bne_eq_false_iff_eq ne_eq Bool.not_true Bool.not_false exists_and_left
attribute [local irreducible] Go.Vc.WP
attribute [local go_sem] cx0_t cx0_c
attribute [local go_sem] decNode_enc decFrame_enc oneFrame_enc stkA oneFrame_ab oneNode_abc decI_enc prA
def kTotal : Ctr := pur (fun args => prA args 0) (fun x => [.agg [.sl 3 (x.1.map encNode), .sl 1 (x.2.map encI)]]) wfP (fun _ x => .v (.int .i64 (totalOf x.1 x.2))) (fun _ _ => [])
section
noncomputable def cxToI : Cx := { P := Tryd.prog, tys := tys, C := [(39, kPrOk)], hty := tysOk, hC := COk.cons cPrOkI (COk.nil _) }
theorem cxToI_t : cxToI.tys = tys := rfl
theorem cxToI_c : cxToI.C = [(39, kPrOk)] := rfl
attribute [local go_sem] cxToI_t cxToI_c kPrOk
end
section
noncomputable def cxToS : Cx := { P := Tryd.prog, tys := tys, C := [(34, kPrOk)], hty := tysOk, hC := COk.cons cPrOkS (COk.nil _) }
theorem cxToS_t : cxToS.tys = tys := rfl
theorem cxToS_c : cxToS.C = [(34, kPrOk)] := rfl
attribute [local go_sem] cxToS_t cxToS_c kPrOk
end
end Go.Proofs.YtolnapfgfdgifaaDoor

/-
  DERIVED. Profiles: what the laws' helpers do with them (their size, their copies, whether two are the same).
-/
namespace Go.Proofs.YtolnapfgfdgifaaDoor
open Go.Vc
set_option linter.unusedSimpArgs false
set_option linter.unusedVariables false
set_option maxHeartbeats 1000000
set_option maxRecDepth 10000
attribute [local go_sem] St.runR St.runW St.stepV offV St.step St.stepU St.stepG mkCond guardB St.prK St.pr St.prLen St.eff St.callE St.callD St.callF St.callL aI aB aS aR aC St.isM St.argL Ctr.pure Ctr.lend Ctr.move Ctr.isL Ctr.wri pur len lentBy St.lentV St.lent1 nthS argsR restOf obsR pairs swapL unObs backL St.resL erL SV.ren1 SV.up SV.up2 Ob.up St.fzL cellIds partIds St.intoRow SV.ownId St.fz SV.fz1 St.prep St.mvL St.mv SV.re1 rnOk St.prEq vals eqCells scEq Value.kd St.prStr St.prCut cutR St.bnd St.prMin St.bld isShift outL retL outJ oR oC St.ev St.get St.put St.new St.kill SV.kill SV.kill1 Ob.kill St.app St.wrt St.rowsOf St.res St.killL lk er argsL SV.strip SV.need SV.share SV.share1 SV.owns SV.owns1 SV.owns2 SV.good SV.good1 SV.rok SV.rok1 SV.rok2 SV.isV SV.isV2 nodupN SV.cells SV.one SV.pur partsIn rowsIn splice cellsAt dstOk scal2 scal1 thenK blockK retK outK outs okC okL okA okT nilC nilL nilA nilT keepC keepL keepA keepT St.runG St.dltK St.least St.clean St.final St.hide offK badS badO SV.refs SV.leaf SV.leaf2 Ob.refs dlOk fpAt Go.Vc.cover tups SV.ofAgg St.out outC subL St.has rng wr Value.oneCell' Option.isSome_some Option.isSome_none List.nil_append Bool.false_eq_true List.map_cons List.map_nil List.all_cons List.all_nil List.length_cons List.length_nil List.drop_zero List.drop_succ_cons List.take_succ_cons List.take_zero List.drop_nil List.take_nil List.getElem?_cons_zero List.getElem?_cons_succ List.getElem?_nil List.cons_append List.nil_append List.append_nil List.append_assoc List.flatMap_cons List.flatMap_nil List.contains_cons List.contains_nil List.set_cons_zero List.set_cons_succ List.getElem?_toArray Option.getD_some Option.getD_none Option.map_some Option.map_none Option.bind_some Option.some.injEq Prod.mk.injEq if_true if_false true_and and_true and_self and_false false_and Bool.and_false Bool.false_and Bool.or_true Bool.true_or Bool.or_false Bool.false_or ne_eq not_true_eq_false not_false_eq_true decide_true decide_false List.mem_cons List.not_mem_nil List.filter_cons List.filter_nil List.any_cons List.any_nil List.isEmpty_nil List.isEmpty_cons Option.getD_none or_false false_or true_or or_true forall_eq_or_imp forall_eq reduceCtorEq exists_eq exists_eq' exists_eq_left' exists_eq_left exists_eq_right exists_eq_right' imp_self implies_true Bool.and_true Bool.true_and Bool.and_self beq_self_eq_true List.replicate_succ List.replicate_zero forall_const false_implies pickB_or pickB_and beqT beqF Int.toNat_natCast List.length_map List.length_replicate ge_iff_le gt_iff_lt decide_eq_true_eq decide_eq_false_iff_not Bool.and_eq_true Bool.or_eq_true Bool.not_eq_true' Bool.not_eq_false' condG List.toList_toArray Bool.or_eq_false_iff Bool.and_eq_false_iff Int.not_lt Int.not_le beq_iff_eq beq_eq_false_iff_ne bne_iff_ne bne_eq_false_iff_eq ne_eq Bool.not_true Bool.not_false exists_and_left
attribute [local irreducible] Go.Vc.WP
attribute [local go_sem] cx0_t cx0_c
attribute [local go_sem] decNode_enc decFrame_enc oneFrame_enc stkA oneFrame_ab oneNode_abc decI_enc prA encI_inj
theorem szGo_neg : ∀ (l : List Nat) (r : Int), 0 ≤ r → szGo l r < 0 → szGo l r = -1
  | [], r, h, h2 => by unfold szGo at h2 ⊢; omega
  | n :: l, r, h, h2 => by
    unfold szGo at h2 ⊢
    split
    · rfl
    · rename_i h3
      rw [if_neg h3] at h2
      exact szGo_neg l _ (by omega) h2
theorem szGo_le1 : ∀ (l : List Nat) (r : Int), -1 ≤ r → szGo l r ≤ r
  | [], r, h => Int.le_refl _
  | n :: l, r, h => by
    unfold szGo
    split
    · omega
    · have := szGo_le1 l (r - n) (by omega)
      omega
theorem szvNode_neg {N : List Node} {l : Int} (h0 : 0 ≤ l) (h : szvNode N l < 0) : szvNode N l = -1 := by
  unfold szvNode at h ⊢
  split
  · rfl
  · rename_i h2
    rw [if_neg h2] at h
    exact szGo_neg _ _ (by omega) h
theorem szvNode_le {N : List Node} {l : Int} (h0 : 0 ≤ l) : szvNode N l ≤ l := by
  unfold szvNode
  split
  · omega
  · have := szGo_le1 (sizesNode N) (l - N.length) (by omega)
    omega
theorem szvNode_ok' {N : List Node} {l : Int} (hl : l ≤ 1048576) (h : ¬ szvNode N l < 0) : N.length ≤ 1048576 ∧ ∀ x ∈ N, x.name.size ≤ 1048576 := by
  unfold szvNode at h
  split at h
  · omega
  · rename_i h2
    refine ⟨by omega, fun x hx => ?_⟩
    have := szGo_ok (sizesNode N) _ (by omega) (Int.not_lt.1 h) x.name.size (List.mem_map.2 ⟨x, hx, rfl⟩)
    omega
def kszI : Ctr := pur (fun args => (decI (aR args 0), aI args 1)) (fun x => [.sl 1 (x.1.map encI), .v (.int .i64 x.2)]) (fun x => x.1.length ≤ maxLen ∧ 0 ≤ x.2 ∧ x.2 ≤ 1048576)
  (fun _ x => .v (.int .i64 (if x.2 - x.1.length < 0 then -1 else x.2 - x.1.length))) (fun _ _ => [])
section
noncomputable def cxSzI : Cx := { P := Tryd.prog, tys := tys, C := [], hty := tysOk, hC := COk.nil _ }
theorem cxSzI_t : cxSzI.tys = tys := rfl
theorem cxSzI_c : cxSzI.C = [] := rfl
attribute [local go_sem] cxSzI_t cxSzI_c 
theorem cszI : Cn Tryd.prog 15 kszI := by
  refine Cn.pur Tryd.func15 (by kernel_rfl) rfl fun d x hx => ?_
  obtain ⟨L, left⟩ := x
  obtain ⟨hL, h0, h1⟩ := hx
  simp only at hL h0 h1 ⊢
  have hm : maxLen = 9223372036854775807 := rfl
  refine Holds.go (c := cxSzI) Tryd.func15 rfl Tryd.results15 Tryd.ntmps15 (by omega) (by simp) rfl ?_
  intro X0 w0
  (repeat' (first | refine WP.seq ?_ | (refine WP.region ?_; simp only [go_sem, tyAll, Nat.reduceAdd, Nat.reduceLT, Nat.reduceLeDiff, Nat.reduceEqDiff, Nat.reduceMul, Nat.reduceSub, Nat.reduceGT, reduceIte, Int.reduceNeg, Int.reduceToNat]) | refine WP.block ?_ | (refine WP.condW ?_; simp only [go_sem, tyAll, Nat.reduceAdd, Nat.reduceLT, Nat.reduceLeDiff, Nat.reduceEqDiff, Nat.reduceMul, Nat.reduceSub, Nat.reduceGT, reduceIte, Int.reduceNeg, Int.reduceToNat]) | (refine WP.ret ?_; simp only [go_sem, tyAll, Nat.reduceAdd, Nat.reduceLT, Nat.reduceLeDiff, Nat.reduceEqDiff, Nat.reduceMul, Nat.reduceSub, Nat.reduceGT, reduceIte, Int.reduceNeg, Int.reduceToNat]) | (refine WP.exit ?_; simp only [go_sem, tyAll, Nat.reduceAdd, Nat.reduceLT, Nat.reduceLeDiff, Nat.reduceEqDiff, Nat.reduceMul, Nat.reduceSub, Nat.reduceGT, reduceIte, Int.reduceNeg, Int.reduceToNat]) | (refine WP.skip ?_; simp only [go_sem, tyAll, Nat.reduceAdd, Nat.reduceLT, Nat.reduceLeDiff, Nat.reduceEqDiff, Nat.reduceMul, Nat.reduceSub, Nat.reduceGT, reduceIte, Int.reduceNeg, Int.reduceToNat]) |  refine And.intro ?_ ?_ | intro _))
  all_goals first | omega | skip
  · rename_i h; rw [if_pos h]
  · rename_i h; rw [if_neg (by omega)]
end
def kszStk : Ctr := pur (fun args => (stkA args 0, aI args 1)) (fun x => [.agg [.sl 3 (x.1.map encNode)], .v (.int .i64 x.2)]) (fun x => x.1.length ≤ maxLen ∧ (∀ r ∈ x.1, r.name.size ≤ maxLen) ∧ 0 ≤ x.2 ∧ x.2 ≤ 1048576)
  (fun _ x => .v (.int .i64 (szvNode x.1 x.2))) (fun _ _ => [])
section
noncomputable def cxSzStk : Cx := { P := Tryd.prog, tys := tys, C := [(33, kszNodeS)], hty := tysOk, hC := COk.cons cszNodeS (COk.nil _) }
theorem cxSzStk_t : cxSzStk.tys = tys := rfl
theorem cxSzStk_c : cxSzStk.C = [(33, kszNodeS)] := rfl
attribute [local go_sem] cxSzStk_t cxSzStk_c kszNodeS
theorem cszStk : Cn Tryd.prog 14 kszStk := by
  refine Cn.pur Tryd.func14 (by kernel_rfl) rfl fun d x hx => ?_
  obtain ⟨N, left⟩ := x
  obtain ⟨hN, hs, h0, h1⟩ := hx
  simp only at hN hs h0 h1 ⊢
  refine Holds.go (c := cxSzStk) Tryd.func14 rfl Tryd.results14 Tryd.ntmps14 (by omega) (by simp) rfl ?_
  intro X0 w0
  (repeat' (first | refine WP.seq ?_ | (refine WP.region ?_; simp only [go_sem, tyAll, Nat.reduceAdd, Nat.reduceLT, Nat.reduceLeDiff, Nat.reduceEqDiff, Nat.reduceMul, Nat.reduceSub, Nat.reduceGT, reduceIte, Int.reduceNeg, Int.reduceToNat]) | refine WP.block ?_ | (refine WP.condW ?_; simp only [go_sem, tyAll, Nat.reduceAdd, Nat.reduceLT, Nat.reduceLeDiff, Nat.reduceEqDiff, Nat.reduceMul, Nat.reduceSub, Nat.reduceGT, reduceIte, Int.reduceNeg, Int.reduceToNat]) | (refine WP.ret ?_; simp only [go_sem, tyAll, Nat.reduceAdd, Nat.reduceLT, Nat.reduceLeDiff, Nat.reduceEqDiff, Nat.reduceMul, Nat.reduceSub, Nat.reduceGT, reduceIte, Int.reduceNeg, Int.reduceToNat]) | (refine WP.exit ?_; simp only [go_sem, tyAll, Nat.reduceAdd, Nat.reduceLT, Nat.reduceLeDiff, Nat.reduceEqDiff, Nat.reduceMul, Nat.reduceSub, Nat.reduceGT, reduceIte, Int.reduceNeg, Int.reduceToNat]) | (refine WP.skip ?_; simp only [go_sem, tyAll, Nat.reduceAdd, Nat.reduceLT, Nat.reduceLeDiff, Nat.reduceEqDiff, Nat.reduceMul, Nat.reduceSub, Nat.reduceGT, reduceIte, Int.reduceNeg, Int.reduceToNat]) |  refine And.intro ?_ ?_ | intro _))
  all_goals first | omega | exact hs _ ‹_› | skip
  · rename_i h; rw [szvNode_neg h0 h]
end
def szvPr (x : List Node × List Int) (l : Int) : Int := if szvNode x.1 l < 0 then -1 else if szvNode x.1 l - x.2.length < 0 then -1 else szvNode x.1 l - x.2.length
theorem szvPr_le {x : List Node × List Int} {l : Int} (h0 : 0 ≤ l) : szvPr x l ≤ l := by
  have := szvNode_le (N := x.1) h0
  unfold szvPr
  split
  · omega
  · split <;> omega
theorem szvPr_neg {x : List Node × List Int} {l : Int} (h : szvPr x l < 0) : szvPr x l = -1 := by
  unfold szvPr at h ⊢
  split
  · rfl
  · split
    · rfl
    · rename_i h1 h2; rw [if_neg h1, if_neg h2] at h; omega
theorem szvPr_ok {x : List Node × List Int} {l : Int} (hl : l ≤ 1048576) (h : ¬ szvPr x l < 0) : (x.1.length ≤ 1048576 ∧ ∀ n ∈ x.1, n.name.size ≤ 1048576) ∧ x.2.length ≤ 1048576 := by
  unfold szvPr at h
  split at h
  · omega
  · rename_i h1
    refine ⟨szvNode_ok' hl h1, ?_⟩
    split at h
    · omega
    · by_cases h0 : 0 ≤ l
      · have := szvNode_le (N := x.1) h0
        omega
      · exfalso
        apply h1
        unfold szvNode
        rw [if_pos (by omega)]; omega
def wfM (x : List Node × List Int) : Prop := x.1.length ≤ maxLen ∧ (∀ r ∈ x.1, r.name.size ≤ maxLen) ∧ x.2.length ≤ maxLen
def kszPr : Ctr := pur (fun args => (prA args 0, aI args 1)) (fun x => [.agg [.sl 3 (x.1.1.map encNode), .sl 1 (x.1.2.map encI)], .v (.int .i64 x.2)]) (fun x => wfM x.1 ∧ 0 ≤ x.2 ∧ x.2 ≤ 1048576)
  (fun _ x => .v (.int .i64 (szvPr x.1 x.2))) (fun _ _ => [])
section
noncomputable def cxSzPr : Cx := { P := Tryd.prog, tys := tys, C := [(14, kszStk), (15, kszI)], hty := tysOk, hC := COk.cons cszStk (COk.cons cszI (COk.nil _)) }
theorem cxSzPr_t : cxSzPr.tys = tys := rfl
theorem cxSzPr_c : cxSzPr.C = [(14, kszStk), (15, kszI)] := rfl
attribute [local go_sem] cxSzPr_t cxSzPr_c kszStk kszI
theorem cszPr : Cn Tryd.prog 5 kszPr := by
  refine Cn.pur Tryd.func5 (by kernel_rfl) rfl fun d x hx => ?_
  obtain ⟨⟨N, C⟩, left⟩ := x
  obtain ⟨⟨hN, hs, hC⟩, h0, h1⟩ := hx
  simp only at hN hs hC h0 h1 ⊢
  have hle := szvNode_le (N := N) h0
  refine Holds.go (c := cxSzPr) Tryd.func5 rfl Tryd.results5 Tryd.ntmps5 (by omega) (by simp) rfl ?_
  intro X0 w0
  (repeat' (first | refine WP.seq ?_ | (refine WP.region ?_; simp only [go_sem, tyAll, Nat.reduceAdd, Nat.reduceLT, Nat.reduceLeDiff, Nat.reduceEqDiff, Nat.reduceMul, Nat.reduceSub, Nat.reduceGT, reduceIte, Int.reduceNeg, Int.reduceToNat]) | refine WP.block ?_ | (refine WP.condW ?_; simp only [go_sem, tyAll, Nat.reduceAdd, Nat.reduceLT, Nat.reduceLeDiff, Nat.reduceEqDiff, Nat.reduceMul, Nat.reduceSub, Nat.reduceGT, reduceIte, Int.reduceNeg, Int.reduceToNat]) | (refine WP.ret ?_; simp only [go_sem, tyAll, Nat.reduceAdd, Nat.reduceLT, Nat.reduceLeDiff, Nat.reduceEqDiff, Nat.reduceMul, Nat.reduceSub, Nat.reduceGT, reduceIte, Int.reduceNeg, Int.reduceToNat]) | (refine WP.exit ?_; simp only [go_sem, tyAll, Nat.reduceAdd, Nat.reduceLT, Nat.reduceLeDiff, Nat.reduceEqDiff, Nat.reduceMul, Nat.reduceSub, Nat.reduceGT, reduceIte, Int.reduceNeg, Int.reduceToNat]) | (refine WP.skip ?_; simp only [go_sem, tyAll, Nat.reduceAdd, Nat.reduceLT, Nat.reduceLeDiff, Nat.reduceEqDiff, Nat.reduceMul, Nat.reduceSub, Nat.reduceGT, reduceIte, Int.reduceNeg, Int.reduceToNat]) |  refine And.intro ?_ ?_ | intro _))
  all_goals first | omega | exact hs _ ‹_› | skip
  · rename_i h; rw [szvPr, if_pos h]
  · rename_i h g
    rw [szvPr, if_neg (Int.not_lt.2 h)]
    split
    · rfl
    · rename_i h5
      have h6 : ¬ (szvNode N left - (C.length : Int) < 0) := h5
      rw [if_neg h6] at g
      exact absurd g h6
  · rename_i h g
    rw [szvPr, if_neg (Int.not_lt.2 h)]
end
def ktoStk : Ctr := pur (fun args => stkA args 0) (fun N => [.agg [.sl 3 (N.map encNode)]]) (fun N => N.length ≤ 2097152) (fun d _ => .agg [.own d]) (fun d N => [(d, .sl 87 3 (N.map encNode))])
section
noncomputable def cxToStk : Cx := { P := Tryd.prog, tys := tys, C := [(38, ktoNodeS)], hty := tysOk, hC := COk.cons ctoNodeS (COk.nil _) }
theorem cxToStk_t : cxToStk.tys = tys := rfl
theorem cxToStk_c : cxToStk.C = [(38, ktoNodeS)] := rfl
attribute [local go_sem] cxToStk_t cxToStk_c ktoNodeS
theorem ctoStk : Cn Tryd.prog 18 ktoStk := by
  refine Cn.pur Tryd.func18 (by kernel_rfl) rfl fun d x hx => ?_
  refine Holds.go (c := cxToStk) Tryd.func18 rfl Tryd.results18 Tryd.ntmps18 (by omega) (by simp) rfl ?_
  intro X0 w0
  (repeat' (first | refine WP.seq ?_ | (refine WP.region ?_; simp only [go_sem, tyAll, Nat.reduceAdd, Nat.reduceLT, Nat.reduceLeDiff, Nat.reduceEqDiff, Nat.reduceMul, Nat.reduceSub, Nat.reduceGT, reduceIte, Int.reduceNeg, Int.reduceToNat]) | refine WP.block ?_ | (refine WP.condW ?_; simp only [go_sem, tyAll, Nat.reduceAdd, Nat.reduceLT, Nat.reduceLeDiff, Nat.reduceEqDiff, Nat.reduceMul, Nat.reduceSub, Nat.reduceGT, reduceIte, Int.reduceNeg, Int.reduceToNat]) | (refine WP.ret ?_; simp only [go_sem, tyAll, Nat.reduceAdd, Nat.reduceLT, Nat.reduceLeDiff, Nat.reduceEqDiff, Nat.reduceMul, Nat.reduceSub, Nat.reduceGT, reduceIte, Int.reduceNeg, Int.reduceToNat]) | (refine WP.exit ?_; simp only [go_sem, tyAll, Nat.reduceAdd, Nat.reduceLT, Nat.reduceLeDiff, Nat.reduceEqDiff, Nat.reduceMul, Nat.reduceSub, Nat.reduceGT, reduceIte, Int.reduceNeg, Int.reduceToNat]) | (refine WP.skip ?_; simp only [go_sem, tyAll, Nat.reduceAdd, Nat.reduceLT, Nat.reduceLeDiff, Nat.reduceEqDiff, Nat.reduceMul, Nat.reduceSub, Nat.reduceGT, reduceIte, Int.reduceNeg, Int.reduceToNat]) |  refine And.intro ?_ ?_ | intro _))
  all_goals first | omega | exact ⟨_, _, _, rfl⟩ | exact ⟨_, _, rfl, _, _, rfl, rfl⟩ | skip
end
def ktoPr : Ctr := pur (fun args => prA args 0) (fun x => [.agg [.sl 3 (x.1.map encNode), .sl 1 (x.2.map encI)]]) (fun x => x.1.length ≤ 2097152 ∧ x.2.length ≤ 2097152) (fun d _ => .agg [.own d, .own (d + 1000)]) (fun d x => [(d, .sl 87 3 (x.1.map encNode)), (d + 1000, .sl 3 1 (x.2.map encI))])
section
noncomputable def cxToPr : Cx := { P := Tryd.prog, tys := tys, C := [(18, ktoStk), (19, k15)], hty := tysOk, hC := COk.cons ctoStk (COk.cons c15 (COk.nil _)) }
theorem cxToPr_t : cxToPr.tys = tys := rfl
theorem cxToPr_c : cxToPr.C = [(18, ktoStk), (19, k15)] := rfl
attribute [local go_sem] cxToPr_t cxToPr_c ktoStk k15
theorem ctoPr : Cn Tryd.prog 7 ktoPr := by
  refine Cn.pur Tryd.func7 (by kernel_rfl) rfl fun d x hx => ?_
  obtain ⟨N, C⟩ := x
  obtain ⟨hN, hC⟩ := hx
  simp only at hN hC ⊢
  refine Holds.go (c := cxToPr) Tryd.func7 rfl Tryd.results7 Tryd.ntmps7 (by omega) (by simp) rfl ?_
  intro X0 w0
  (repeat' (first | refine WP.seq ?_ | (refine WP.region ?_; simp only [go_sem, tyAll, Nat.reduceAdd, Nat.reduceLT, Nat.reduceLeDiff, Nat.reduceEqDiff, Nat.reduceMul, Nat.reduceSub, Nat.reduceGT, reduceIte, Int.reduceNeg, Int.reduceToNat]) | refine WP.block ?_ | (refine WP.condW ?_; simp only [go_sem, tyAll, Nat.reduceAdd, Nat.reduceLT, Nat.reduceLeDiff, Nat.reduceEqDiff, Nat.reduceMul, Nat.reduceSub, Nat.reduceGT, reduceIte, Int.reduceNeg, Int.reduceToNat]) | (refine WP.ret ?_; simp only [go_sem, tyAll, Nat.reduceAdd, Nat.reduceLT, Nat.reduceLeDiff, Nat.reduceEqDiff, Nat.reduceMul, Nat.reduceSub, Nat.reduceGT, reduceIte, Int.reduceNeg, Int.reduceToNat]) | (refine WP.exit ?_; simp only [go_sem, tyAll, Nat.reduceAdd, Nat.reduceLT, Nat.reduceLeDiff, Nat.reduceEqDiff, Nat.reduceMul, Nat.reduceSub, Nat.reduceGT, reduceIte, Int.reduceNeg, Int.reduceToNat]) | (refine WP.skip ?_; simp only [go_sem, tyAll, Nat.reduceAdd, Nat.reduceLT, Nat.reduceLeDiff, Nat.reduceEqDiff, Nat.reduceMul, Nat.reduceSub, Nat.reduceGT, reduceIte, Int.reduceNeg, Int.reduceToNat]) |  refine And.intro ?_ ?_ | intro _))
  all_goals first | omega | exact ⟨_, _, _, rfl⟩ | exact ⟨_, _, rfl, _, _, rfl, rfl⟩ | (rw [if_neg (by omega)]) | skip
end
def keqStk : Ctr := pur (fun args => (stkA args 0, stkA args 1)) (fun x => [.agg [.sl 3 (x.1.map encNode)], .agg [.sl 3 (x.2.map encNode)]]) (fun x => x.1.length ≤ 4398046511104) (fun _ x => .v (.bool (decide (x.1 = x.2)))) (fun _ _ => [])
section
noncomputable def cxEqStk : Cx := { P := Tryd.prog, tys := tys, C := [(46, keqNodeS)], hty := tysOk, hC := COk.cons ceqNodeS (COk.nil _) }
theorem cxEqStk_t : cxEqStk.tys = tys := rfl
theorem cxEqStk_c : cxEqStk.C = [(46, keqNodeS)] := rfl
attribute [local go_sem] cxEqStk_t cxEqStk_c keqNodeS
theorem ceqStk : Cn Tryd.prog 22 keqStk := by
  refine Cn.pur Tryd.func22 (by kernel_rfl) rfl fun d x hx => ?_
  obtain ⟨N, M⟩ := x
  simp only at hx ⊢
  refine Holds.go (c := cxEqStk) Tryd.func22 rfl Tryd.results22 Tryd.ntmps22 (by omega) (by simp) rfl ?_
  intro X0 w0
  (repeat' (first | refine WP.seq ?_ | (refine WP.region ?_; simp only [go_sem, tyAll, Nat.reduceAdd, Nat.reduceLT, Nat.reduceLeDiff, Nat.reduceEqDiff, Nat.reduceMul, Nat.reduceSub, Nat.reduceGT, reduceIte, Int.reduceNeg, Int.reduceToNat]) | refine WP.block ?_ | (refine WP.condW ?_; simp only [go_sem, tyAll, Nat.reduceAdd, Nat.reduceLT, Nat.reduceLeDiff, Nat.reduceEqDiff, Nat.reduceMul, Nat.reduceSub, Nat.reduceGT, reduceIte, Int.reduceNeg, Int.reduceToNat]) | (refine WP.ret ?_; simp only [go_sem, tyAll, Nat.reduceAdd, Nat.reduceLT, Nat.reduceLeDiff, Nat.reduceEqDiff, Nat.reduceMul, Nat.reduceSub, Nat.reduceGT, reduceIte, Int.reduceNeg, Int.reduceToNat]) | (refine WP.exit ?_; simp only [go_sem, tyAll, Nat.reduceAdd, Nat.reduceLT, Nat.reduceLeDiff, Nat.reduceEqDiff, Nat.reduceMul, Nat.reduceSub, Nat.reduceGT, reduceIte, Int.reduceNeg, Int.reduceToNat]) | (refine WP.skip ?_; simp only [go_sem, tyAll, Nat.reduceAdd, Nat.reduceLT, Nat.reduceLeDiff, Nat.reduceEqDiff, Nat.reduceMul, Nat.reduceSub, Nat.reduceGT, reduceIte, Int.reduceNeg, Int.reduceToNat]) |  refine And.intro ?_ ?_ | intro _))
  all_goals first | omega | simp_all | skip
end
def keqPr : Ctr := pur (fun args => (prA args 0, prA args 1)) (fun x => [.agg [.sl 3 (x.1.1.map encNode), .sl 1 (x.1.2.map encI)], .agg [.sl 3 (x.2.1.map encNode), .sl 1 (x.2.2.map encI)]]) (fun x => x.1.1.length ≤ 4398046511104 ∧ x.1.2.length ≤ 4398046511104)
  (fun _ x => .v (.bool (decide (x.1 = x.2)))) (fun _ _ => [])
section
noncomputable def cxEqPr : Cx := { P := Tryd.prog, tys := tys, C := [(22, keqStk), (23, k17)], hty := tysOk, hC := COk.cons ceqStk (COk.cons c17 (COk.nil _)) }
theorem cxEqPr_t : cxEqPr.tys = tys := rfl
theorem cxEqPr_c : cxEqPr.C = [(22, keqStk), (23, k17)] := rfl
attribute [local go_sem] cxEqPr_t cxEqPr_c keqStk k17
theorem ceqPr : Cn Tryd.prog 9 keqPr := by
  refine Cn.pur Tryd.func9 (by kernel_rfl) rfl fun d x hx => ?_
  obtain ⟨⟨N, C⟩, ⟨M, D⟩⟩ := x
  simp only at hx ⊢
  refine Holds.go (c := cxEqPr) Tryd.func9 rfl Tryd.results9 Tryd.ntmps9 (by omega) (by simp) rfl ?_
  intro X0 w0
  (repeat' (first | refine WP.seq ?_ | (refine WP.region ?_; simp only [go_sem, tyAll, Nat.reduceAdd, Nat.reduceLT, Nat.reduceLeDiff, Nat.reduceEqDiff, Nat.reduceMul, Nat.reduceSub, Nat.reduceGT, reduceIte, Int.reduceNeg, Int.reduceToNat]) | refine WP.block ?_ | (refine WP.condW ?_; simp only [go_sem, tyAll, Nat.reduceAdd, Nat.reduceLT, Nat.reduceLeDiff, Nat.reduceEqDiff, Nat.reduceMul, Nat.reduceSub, Nat.reduceGT, reduceIte, Int.reduceNeg, Int.reduceToNat]) | (refine WP.ret ?_; simp only [go_sem, tyAll, Nat.reduceAdd, Nat.reduceLT, Nat.reduceLeDiff, Nat.reduceEqDiff, Nat.reduceMul, Nat.reduceSub, Nat.reduceGT, reduceIte, Int.reduceNeg, Int.reduceToNat]) | (refine WP.exit ?_; simp only [go_sem, tyAll, Nat.reduceAdd, Nat.reduceLT, Nat.reduceLeDiff, Nat.reduceEqDiff, Nat.reduceMul, Nat.reduceSub, Nat.reduceGT, reduceIte, Int.reduceNeg, Int.reduceToNat]) | (refine WP.skip ?_; simp only [go_sem, tyAll, Nat.reduceAdd, Nat.reduceLT, Nat.reduceLeDiff, Nat.reduceEqDiff, Nat.reduceMul, Nat.reduceSub, Nat.reduceGT, reduceIte, Int.reduceNeg, Int.reduceToNat]) |  refine And.intro ?_ ?_ | intro _))
  all_goals first | omega | simp_all | skip
end
end Go.Proofs.YtolnapfgfdgifaaDoor

/-
  DERIVED. Profiles: what the laws' helpers mark, and what they look for.
-/
namespace Go.Proofs.YtolnapfgfdgifaaDoor
open Go.Vc
set_option linter.unusedSimpArgs false
set_option linter.unusedVariables false
set_option maxHeartbeats 1000000
set_option maxRecDepth 10000
attribute [local go_sem] St.runR St.runW St.stepV offV St.step St.stepU St.stepG mkCond guardB St.prK St.pr St.prLen St.eff St.callE St.callD St.callF St.callL aI aB aS aR aC St.isM St.argL Ctr.pure Ctr.lend Ctr.move Ctr.isL Ctr.wri pur len lentBy St.lentV St.lent1 nthS argsR restOf obsR pairs swapL unObs backL St.resL erL SV.ren1 SV.up SV.up2 Ob.up St.fzL cellIds partIds St.intoRow SV.ownId St.fz SV.fz1 St.prep St.mvL St.mv SV.re1 rnOk St.prEq vals eqCells scEq Value.kd St.prStr St.prCut cutR St.bnd St.prMin St.bld isShift outL retL outJ oR oC St.ev St.get St.put St.new St.kill SV.kill SV.kill1 Ob.kill St.app St.wrt St.rowsOf St.res St.killL lk er argsL SV.strip SV.need SV.share SV.share1 SV.owns SV.owns1 SV.owns2 SV.good SV.good1 SV.rok SV.rok1 SV.rok2 SV.isV SV.isV2 nodupN SV.cells SV.one SV.pur partsIn rowsIn splice cellsAt dstOk scal2 scal1 thenK blockK retK outK outs okC okL okA okT nilC nilL nilA nilT keepC keepL keepA keepT St.runG St.dltK St.least St.clean St.final St.hide offK badS badO SV.refs SV.leaf SV.leaf2 Ob.refs dlOk fpAt Go.Vc.cover tups SV.ofAgg St.out outC subL St.has rng wr Value.oneCell' Option.isSome_some Option.isSome_none List.nil_append Bool.false_eq_true List.map_cons List.map_nil List.all_cons List.all_nil List.length_cons List.length_nil List.drop_zero List.drop_succ_cons List.take_succ_cons List.take_zero List.drop_nil List.take_nil List.getElem?_cons_zero List.getElem?_cons_succ List.getElem?_nil List.cons_append List.nil_append List.append_nil List.append_assoc List.flatMap_cons List.flatMap_nil List.contains_cons List.contains_nil List.set_cons_zero List.set_cons_succ List.getElem?_toArray Option.getD_some Option.getD_none Option.map_some Option.map_none Option.bind_some Option.some.injEq Prod.mk.injEq if_true if_false true_and and_true and_self and_false false_and Bool.and_false Bool.false_and Bool.or_true Bool.true_or Bool.or_false Bool.false_or ne_eq not_true_eq_false not_false_eq_true decide_true decide_false List.mem_cons List.not_mem_nil List.filter_cons List.filter_nil List.any_cons List.any_nil List.isEmpty_nil List.isEmpty_cons Option.getD_none or_false false_or true_or or_true forall_eq_or_imp forall_eq reduceCtorEq exists_eq exists_eq' exists_eq_left' exists_eq_left exists_eq_right exists_eq_right' imp_self implies_true Bool.and_true Bool.true_and Bool.and_self beq_self_eq_true List.replicate_succ List.replicate_zero forall_const false_implies pickB_or pickB_and beqT beqF Int.toNat_natCast List.length_map List.length_replicate ge_iff_le gt_iff_lt decide_eq_true_eq decide_eq_false_iff_not Bool.and_eq_true Bool.or_eq_true Bool.not_eq_true' Bool.not_eq_false' condG List.toList_toArray Bool.or_eq_false_iff Bool.and_eq_false_iff Int.not_lt Int.not_le beq_iff_eq beq_eq_false_iff_ne bne_iff_ne bne_eq_false_iff_eq ne_eq Bool.not_true Bool.not_false exists_and_left
attribute [local irreducible] Go.Vc.WP
attribute [local go_sem] cx0_t cx0_c
attribute [local go_sem] isV_Node isV_It decNode_enc decFrame_enc oneFrame_enc stkA oneFrame_ab oneNode_abc decI_enc prA encI_inj
def kmarkStk : Ctr := len [0] [] (fun args obs => (decNode (oR obs 1000000), aI args 1)) (fun x => [.agg [.own 1000000], .v (.int .i64 x.2)]) (fun x => [(1000000, .sl 87 3 (x.1.map encNode))]) (fun x => x.1.length ≤ 4398046511104 ∧ 0 ≤ x.2 ∧ x.2 ≤ 100000000000000)
  (fun _ x => .v (.int .i64 (x.2 + 3 * x.1.length))) (fun _ _ => []) (fun x => [(1000000, .sl 87 3 ((marksNode x.2 x.1.length).map encNode))])
section
noncomputable def cxMkStk : Cx := { P := Tryd.prog, tys := tys, C := [(55, kmarkNodeS)], hty := tysOk, hC := COk.cons cmarkNodeS (COk.nil _) }
theorem cxMkStk_t : cxMkStk.tys = tys := rfl
theorem cxMkStk_c : cxMkStk.C = [(55, kmarkNodeS)] := rfl
attribute [local go_sem] cxMkStk_t cxMkStk_c kmarkNodeS
theorem cmarkStk : Cn Tryd.prog 29 kmarkStk := by
  refine Cn.len Tryd.func29 (by kernel_rfl) rfl fun d x hd hx => ?_
  obtain ⟨L, k0⟩ := x
  obtain ⟨hL, h0, h1⟩ := hx
  simp only at hL h0 h1 ⊢
  refine HoldsL.go (c := cxMkStk) Tryd.func29 rfl Tryd.results29 Tryd.ntmps29 (by omega) (by simp) rfl (by simp) (by simp [SV.owns2, SV.owns, SV.owns1]) (by simp) rfl rfl (by simp) ?_
  intro X0 M w0
  (repeat' (first | refine WP.seq ?_ | (refine WP.region ?_; simp only [go_sem, tyAll, Nat.reduceAdd, Nat.reduceLT, Nat.reduceLeDiff, Nat.reduceEqDiff, Nat.reduceMul, Nat.reduceSub, Nat.reduceGT, reduceIte, Int.reduceNeg, Int.reduceToNat]) | refine WP.block ?_ | (refine WP.condW ?_; simp only [go_sem, tyAll, Nat.reduceAdd, Nat.reduceLT, Nat.reduceLeDiff, Nat.reduceEqDiff, Nat.reduceMul, Nat.reduceSub, Nat.reduceGT, reduceIte, Int.reduceNeg, Int.reduceToNat]) | (refine WP.ret ?_; simp only [go_sem, tyAll, Nat.reduceAdd, Nat.reduceLT, Nat.reduceLeDiff, Nat.reduceEqDiff, Nat.reduceMul, Nat.reduceSub, Nat.reduceGT, reduceIte, Int.reduceNeg, Int.reduceToNat]) | (refine WP.exit ?_; simp only [go_sem, tyAll, Nat.reduceAdd, Nat.reduceLT, Nat.reduceLeDiff, Nat.reduceEqDiff, Nat.reduceMul, Nat.reduceSub, Nat.reduceGT, reduceIte, Int.reduceNeg, Int.reduceToNat]) | (refine WP.skip ?_; simp only [go_sem, tyAll, Nat.reduceAdd, Nat.reduceLT, Nat.reduceLeDiff, Nat.reduceEqDiff, Nat.reduceMul, Nat.reduceSub, Nat.reduceGT, reduceIte, Int.reduceNeg, Int.reduceToNat]) |  refine And.intro ?_ ?_ | intro _))
  all_goals first | omega | skip
end
def kheldStk : Ctr := pur (fun args => (stkA args 0, aI args 1)) (fun x => [.agg [.sl 3 (x.1.map encNode)], .v (.int .i64 x.2)]) (fun x => x.1.length ≤ 4398046511104 ∧ 0 ≤ x.2 ∧ x.2 ≤ 100000000000000)
  (fun _ x => .v (.int .i64 (if x.1 = marksNode x.2 x.1.length then x.2 + 3 * x.1.length else -1))) (fun _ _ => [])
section
noncomputable def cxHeStk : Cx := { P := Tryd.prog, tys := tys, C := [(56, kheldNodeS)], hty := tysOk, hC := COk.cons cheldNodeS (COk.nil _) }
theorem cxHeStk_t : cxHeStk.tys = tys := rfl
theorem cxHeStk_c : cxHeStk.C = [(56, kheldNodeS)] := rfl
attribute [local go_sem] cxHeStk_t cxHeStk_c kheldNodeS
theorem cheldStk : Cn Tryd.prog 31 kheldStk := by
  refine Cn.pur Tryd.func31 (by kernel_rfl) rfl fun d x hx => ?_
  obtain ⟨L, k0⟩ := x
  obtain ⟨hL, h0, h1⟩ := hx
  simp only at hL h0 h1 ⊢
  refine Holds.go (c := cxHeStk) Tryd.func31 rfl Tryd.results31 Tryd.ntmps31 (by omega) (by simp) rfl ?_
  intro X0 w0
  (repeat' (first | refine WP.seq ?_ | (refine WP.region ?_; simp only [go_sem, tyAll, Nat.reduceAdd, Nat.reduceLT, Nat.reduceLeDiff, Nat.reduceEqDiff, Nat.reduceMul, Nat.reduceSub, Nat.reduceGT, reduceIte, Int.reduceNeg, Int.reduceToNat]) | refine WP.block ?_ | (refine WP.condW ?_; simp only [go_sem, tyAll, Nat.reduceAdd, Nat.reduceLT, Nat.reduceLeDiff, Nat.reduceEqDiff, Nat.reduceMul, Nat.reduceSub, Nat.reduceGT, reduceIte, Int.reduceNeg, Int.reduceToNat]) | (refine WP.ret ?_; simp only [go_sem, tyAll, Nat.reduceAdd, Nat.reduceLT, Nat.reduceLeDiff, Nat.reduceEqDiff, Nat.reduceMul, Nat.reduceSub, Nat.reduceGT, reduceIte, Int.reduceNeg, Int.reduceToNat]) | (refine WP.exit ?_; simp only [go_sem, tyAll, Nat.reduceAdd, Nat.reduceLT, Nat.reduceLeDiff, Nat.reduceEqDiff, Nat.reduceMul, Nat.reduceSub, Nat.reduceGT, reduceIte, Int.reduceNeg, Int.reduceToNat]) | (refine WP.skip ?_; simp only [go_sem, tyAll, Nat.reduceAdd, Nat.reduceLT, Nat.reduceLeDiff, Nat.reduceEqDiff, Nat.reduceMul, Nat.reduceSub, Nat.reduceGT, reduceIte, Int.reduceNeg, Int.reduceToNat]) |  refine And.intro ?_ ?_ | intro _))
  all_goals first | omega | skip
  · rename_i h
    by_cases he : L = marksNode k0 L.length
    · rw [if_pos he] at h; omega
    · rw [if_neg he]
end
def kmarkPr : Ctr := len [0] [] (fun args obs => ((decNode (oR obs 1000000), decI (oR obs 1000001)), aI args 1)) (fun x => [.agg [.own 1000000, .own 1000001], .v (.int .i64 x.2)])
  (fun x => [(1000000, .sl 87 3 (x.1.1.map encNode)), (1000001, .sl 3 1 (x.1.2.map encI))]) (fun x => x.1.1.length ≤ 4398046511104 ∧ x.1.2.length ≤ 4398046511104 ∧ 0 ≤ x.2 ∧ x.2 ≤ 10000000000000)
  (fun _ x => .v (.int .i64 (x.2 + 3 * x.1.1.length + x.1.2.length))) (fun _ _ => []) (fun x => [(1000000, .sl 87 3 ((marksNode x.2 x.1.1.length).map encNode)), (1000001, .sl 3 1 ((marksI (x.2 + 3 * x.1.1.length) x.1.2.length).map encI))])
section
noncomputable def cxMkPr : Cx := { P := Tryd.prog, tys := tys, C := [(29, kmarkStk), (30, k18)], hty := tysOk, hC := COk.cons cmarkStk (COk.cons c18 (COk.nil _)) }
theorem cxMkPr_t : cxMkPr.tys = tys := rfl
theorem cxMkPr_c : cxMkPr.C = [(29, kmarkStk), (30, k18)] := rfl
attribute [local go_sem] cxMkPr_t cxMkPr_c kmarkStk k18
theorem cmarkPr : Cn Tryd.prog 12 kmarkPr := by
  refine Cn.len Tryd.func12 (by kernel_rfl) rfl fun d x hd hx => ?_
  obtain ⟨⟨N, C⟩, k0⟩ := x
  obtain ⟨hN, hC, h0, h1⟩ := hx
  simp only at hN hC h0 h1 ⊢
  refine HoldsL.go (c := cxMkPr) Tryd.func12 rfl Tryd.results12 Tryd.ntmps12 (by omega) (by simp) rfl (by simp) (by simp [SV.owns2, SV.owns, SV.owns1]) (by simp) rfl rfl (by simp) ?_
  intro X0 M w0
  (repeat' (first | refine WP.seq ?_ | (refine WP.region ?_; simp only [go_sem, tyAll, Nat.reduceAdd, Nat.reduceLT, Nat.reduceLeDiff, Nat.reduceEqDiff, Nat.reduceMul, Nat.reduceSub, Nat.reduceGT, reduceIte, Int.reduceNeg, Int.reduceToNat]) | refine WP.block ?_ | (refine WP.condW ?_; simp only [go_sem, tyAll, Nat.reduceAdd, Nat.reduceLT, Nat.reduceLeDiff, Nat.reduceEqDiff, Nat.reduceMul, Nat.reduceSub, Nat.reduceGT, reduceIte, Int.reduceNeg, Int.reduceToNat]) | (refine WP.ret ?_; simp only [go_sem, tyAll, Nat.reduceAdd, Nat.reduceLT, Nat.reduceLeDiff, Nat.reduceEqDiff, Nat.reduceMul, Nat.reduceSub, Nat.reduceGT, reduceIte, Int.reduceNeg, Int.reduceToNat]) | (refine WP.exit ?_; simp only [go_sem, tyAll, Nat.reduceAdd, Nat.reduceLT, Nat.reduceLeDiff, Nat.reduceEqDiff, Nat.reduceMul, Nat.reduceSub, Nat.reduceGT, reduceIte, Int.reduceNeg, Int.reduceToNat]) | (refine WP.skip ?_; simp only [go_sem, tyAll, Nat.reduceAdd, Nat.reduceLT, Nat.reduceLeDiff, Nat.reduceEqDiff, Nat.reduceMul, Nat.reduceSub, Nat.reduceGT, reduceIte, Int.reduceNeg, Int.reduceToNat]) |  refine And.intro ?_ ?_ | intro _))
  all_goals first | omega | skip
end
def kheldPr : Ctr := pur (fun args => (prA args 0, aI args 1)) (fun x => [.agg [.sl 3 (x.1.1.map encNode), .sl 1 (x.1.2.map encI)], .v (.int .i64 x.2)]) (fun x => x.1.1.length ≤ 4398046511104 ∧ x.1.2.length ≤ 4398046511104 ∧ 0 ≤ x.2 ∧ x.2 ≤ 10000000000000)
  (fun _ x => .v (.int .i64 (if x.1.1 = marksNode x.2 x.1.1.length ∧ x.1.2 = marksI (x.2 + 3 * x.1.1.length) x.1.2.length then x.2 + 3 * x.1.1.length + x.1.2.length else -1))) (fun _ _ => [])
section
noncomputable def cxHePr : Cx := { P := Tryd.prog, tys := tys, C := [(31, kheldStk), (32, k19)], hty := tysOk, hC := COk.cons cheldStk (COk.cons c19 (COk.nil _)) }
theorem cxHePr_t : cxHePr.tys = tys := rfl
theorem cxHePr_c : cxHePr.C = [(31, kheldStk), (32, k19)] := rfl
attribute [local go_sem] cxHePr_t cxHePr_c kheldStk k19
theorem cheldPr : Cn Tryd.prog 13 kheldPr := by
  refine Cn.pur Tryd.func13 (by kernel_rfl) rfl fun d x hx => ?_
  obtain ⟨⟨N, C⟩, k0⟩ := x
  obtain ⟨hN, hC, h0, h1⟩ := hx
  simp only at hN hC h0 h1 ⊢
  refine Holds.go (c := cxHePr) Tryd.func13 rfl Tryd.results13 Tryd.ntmps13 (by omega) (by simp) rfl ?_
  intro X0 w0
  by_cases he : N = marksNode k0 N.length
  · by_cases hf : C = marksI (k0 + 3 * N.length) C.length
    · (repeat' (first | refine WP.seq ?_ | (refine WP.region ?_; simp only [go_sem, if_pos he, if_pos hf, tyAll, Nat.reduceAdd, Nat.reduceLT, Nat.reduceLeDiff, Nat.reduceEqDiff, Nat.reduceMul, Nat.reduceSub, Nat.reduceGT, reduceIte, Int.reduceNeg, Int.reduceToNat]) | refine WP.block ?_ | (refine WP.condW ?_; simp only [go_sem, if_pos he, if_pos hf, tyAll, Nat.reduceAdd, Nat.reduceLT, Nat.reduceLeDiff, Nat.reduceEqDiff, Nat.reduceMul, Nat.reduceSub, Nat.reduceGT, reduceIte, Int.reduceNeg, Int.reduceToNat]) | (refine WP.ret ?_; simp only [go_sem, if_pos he, if_pos hf, tyAll, Nat.reduceAdd, Nat.reduceLT, Nat.reduceLeDiff, Nat.reduceEqDiff, Nat.reduceMul, Nat.reduceSub, Nat.reduceGT, reduceIte, Int.reduceNeg, Int.reduceToNat]) | (refine WP.exit ?_; simp only [go_sem, if_pos he, if_pos hf, tyAll, Nat.reduceAdd, Nat.reduceLT, Nat.reduceLeDiff, Nat.reduceEqDiff, Nat.reduceMul, Nat.reduceSub, Nat.reduceGT, reduceIte, Int.reduceNeg, Int.reduceToNat]) | (refine WP.skip ?_; simp only [go_sem, if_pos he, if_pos hf, tyAll, Nat.reduceAdd, Nat.reduceLT, Nat.reduceLeDiff, Nat.reduceEqDiff, Nat.reduceMul, Nat.reduceSub, Nat.reduceGT, reduceIte, Int.reduceNeg, Int.reduceToNat]) |  refine And.intro ?_ ?_ | intro _))
      all_goals first | omega | skip
      all_goals rw [if_pos ⟨he, hf⟩]
    · (repeat' (first | refine WP.seq ?_ | (refine WP.region ?_; simp only [go_sem, if_pos he, if_neg hf, tyAll, Nat.reduceAdd, Nat.reduceLT, Nat.reduceLeDiff, Nat.reduceEqDiff, Nat.reduceMul, Nat.reduceSub, Nat.reduceGT, reduceIte, Int.reduceNeg, Int.reduceToNat]) | refine WP.block ?_ | (refine WP.condW ?_; simp only [go_sem, if_pos he, if_neg hf, tyAll, Nat.reduceAdd, Nat.reduceLT, Nat.reduceLeDiff, Nat.reduceEqDiff, Nat.reduceMul, Nat.reduceSub, Nat.reduceGT, reduceIte, Int.reduceNeg, Int.reduceToNat]) | (refine WP.ret ?_; simp only [go_sem, if_pos he, if_neg hf, tyAll, Nat.reduceAdd, Nat.reduceLT, Nat.reduceLeDiff, Nat.reduceEqDiff, Nat.reduceMul, Nat.reduceSub, Nat.reduceGT, reduceIte, Int.reduceNeg, Int.reduceToNat]) | (refine WP.exit ?_; simp only [go_sem, if_pos he, if_neg hf, tyAll, Nat.reduceAdd, Nat.reduceLT, Nat.reduceLeDiff, Nat.reduceEqDiff, Nat.reduceMul, Nat.reduceSub, Nat.reduceGT, reduceIte, Int.reduceNeg, Int.reduceToNat]) | (refine WP.skip ?_; simp only [go_sem, if_pos he, if_neg hf, tyAll, Nat.reduceAdd, Nat.reduceLT, Nat.reduceLeDiff, Nat.reduceEqDiff, Nat.reduceMul, Nat.reduceSub, Nat.reduceGT, reduceIte, Int.reduceNeg, Int.reduceToNat]) |  refine And.intro ?_ ?_ | intro _))
      all_goals first | omega | skip
      all_goals rw [if_neg fun h => hf h.2]
  · (repeat' (first | refine WP.seq ?_ | (refine WP.region ?_; simp only [go_sem, if_neg he, tyAll, Nat.reduceAdd, Nat.reduceLT, Nat.reduceLeDiff, Nat.reduceEqDiff, Nat.reduceMul, Nat.reduceSub, Nat.reduceGT, reduceIte, Int.reduceNeg, Int.reduceToNat]) | refine WP.block ?_ | (refine WP.condW ?_; simp only [go_sem, if_neg he, tyAll, Nat.reduceAdd, Nat.reduceLT, Nat.reduceLeDiff, Nat.reduceEqDiff, Nat.reduceMul, Nat.reduceSub, Nat.reduceGT, reduceIte, Int.reduceNeg, Int.reduceToNat]) | (refine WP.ret ?_; simp only [go_sem, if_neg he, tyAll, Nat.reduceAdd, Nat.reduceLT, Nat.reduceLeDiff, Nat.reduceEqDiff, Nat.reduceMul, Nat.reduceSub, Nat.reduceGT, reduceIte, Int.reduceNeg, Int.reduceToNat]) | (refine WP.exit ?_; simp only [go_sem, if_neg he, tyAll, Nat.reduceAdd, Nat.reduceLT, Nat.reduceLeDiff, Nat.reduceEqDiff, Nat.reduceMul, Nat.reduceSub, Nat.reduceGT, reduceIte, Int.reduceNeg, Int.reduceToNat]) | (refine WP.skip ?_; simp only [go_sem, if_neg he, tyAll, Nat.reduceAdd, Nat.reduceLT, Nat.reduceLeDiff, Nat.reduceEqDiff, Nat.reduceMul, Nat.reduceSub, Nat.reduceGT, reduceIte, Int.reduceNeg, Int.reduceToNat]) |  refine And.intro ?_ ?_ | intro _))
    all_goals first | omega | skip
    all_goals rw [if_neg fun h => he h.1]
end
end Go.Proofs.YtolnapfgfdgifaaDoor
