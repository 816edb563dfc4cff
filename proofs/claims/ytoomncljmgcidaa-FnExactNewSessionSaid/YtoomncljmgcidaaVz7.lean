/-
  DERIVED. Several texts of ours in one: VtSpaceS, VtTm, VtSess, VtSess2, VpSz.
-/
import Derived.Test.YtoomncljmgcidaaVz0
import Derived.Test.YtoomncljmgcidaaVz1
import Derived.Test.YtoomncljmgcidaaVz2
import Derived.Test.YtoomncljmgcidaaVz3
import Derived.Test.YtoomncljmgcidaaVz4
import Derived.Test.YtoomncljmgcidaaVz5
import Derived.Test.YtoomncljmgcidaaVz6
set_option linter.unusedSimpArgs false
set_option linter.unusedVariables false
namespace Go.Proofs.Ytoomncljmgcidaa
open Go.Vc
attribute [local go_sem] St.runR St.runW St.stepV offV St.step St.stepU St.stepG mkCond guardB St.prK St.pr St.prLen St.eff St.callE St.callD St.callF St.callL aI aB aS aR aC St.isM St.argL Ctr.pure Ctr.lend Ctr.move Ctr.isL Ctr.wri pur len lentBy St.lentV St.lent1 nthS argsR restOf obsR pairs swapL unObs backL St.resL erL SV.ren1 SV.up SV.up2 Ob.up St.fzL cellIds partIds St.intoRow SV.ownId St.fz SV.fz1 St.prep St.mvL St.mv SV.re1 rnOk St.prEq vals eqCells scEq Value.kd St.prStr St.prCut cutR St.bnd St.prMin St.bld isShift outL retL outJ oR oC oE oD SV.upq SV.isSl SV.shut St.deepK St.dpArg St.deepQ absC Ob.pl St.ev St.get St.put St.new St.kill SV.kill SV.kill1 Ob.kill St.app St.wrt St.rowsOf St.res St.killL lk er argsL SV.strip SV.need SV.share SV.share1 SV.owns SV.owns1 SV.owns2 SV.good SV.good1 SV.rok SV.rok1 SV.rok2 SV.isV SV.isV2 nodupN SV.cells SV.one SV.pur Ob.pb partsIn rowsIn splice cellsAt dstOk scal2 scal1 thenK blockK retK outK outs okC okL okA okT nilC nilL nilA nilT keepC keepL keepA keepT St.runG St.dltK St.least St.clean St.final St.hide offK badS badO SV.refs SV.leaf SV.leaf2 Ob.refs dlOk fpAt Go.Vc.cover tups SV.ofAgg St.out outC subL St.has rng wr Value.oneCell' Option.isSome_some Option.isSome_none List.nil_append Bool.false_eq_true List.map_cons List.map_nil List.all_cons List.all_nil List.length_cons List.length_nil List.drop_zero List.drop_succ_cons List.take_succ_cons List.take_zero List.drop_nil List.take_nil List.getElem?_cons_zero List.getElem?_cons_succ List.getElem?_nil List.cons_append List.nil_append List.append_nil List.append_assoc List.flatMap_cons List.flatMap_nil List.contains_cons List.contains_nil List.set_cons_zero List.set_cons_succ List.getElem?_toArray Option.getD_some Option.getD_none Option.map_some Option.map_none Option.bind_some Option.some.injEq Prod.mk.injEq if_true if_false true_and and_true and_self and_false false_and Bool.and_false Bool.false_and Bool.or_true Bool.true_or Bool.or_false Bool.false_or ne_eq not_true_eq_false not_false_eq_true decide_true decide_false List.mem_cons List.not_mem_nil List.filter_cons List.filter_nil List.any_cons List.any_nil List.isEmpty_nil List.isEmpty_cons Option.getD_none or_false false_or true_or or_true forall_eq_or_imp forall_eq reduceCtorEq exists_eq exists_eq' exists_eq_left' exists_eq_left exists_eq_right exists_eq_right' imp_self implies_true Bool.and_true Bool.true_and Bool.and_self beq_self_eq_true List.replicate_succ List.replicate_zero forall_const false_implies pickB_or pickB_and beqT beqF Int.toNat_natCast List.length_map List.length_replicate ge_iff_le gt_iff_lt decide_eq_true_eq decide_eq_false_iff_not Bool.and_eq_true Bool.or_eq_true Bool.not_eq_true' Bool.not_eq_false' condG List.toList_toArray Bool.or_eq_false_iff Bool.and_eq_false_iff Int.not_lt Int.not_le beq_iff_eq beq_eq_false_iff_ne bne_iff_ne bne_eq_false_iff_eq ne_eq Bool.not_true Bool.not_false exists_and_left
section
open Go.Vc
set_option linter.unusedSimpArgs false
set_option linter.unusedVariables false
set_option maxHeartbeats 1000000
set_option maxRecDepth 10000
attribute [local irreducible] Go.Vc.WP
attribute [local go_sem] cx0_t cx0_c
open Go.Pl
attribute [local go_sem] isV_Symbol decSymbol_enc oneSymbol_enc imgA decI_enc decImage_enc spA
theorem locI_bd (I : List Image) (B : List Int) (e : Int) : -1 ≤ locI I B e ∧ locI I B e < I.length := by
  unfold locI firstIdx
  split
  · rename_i q hq
    have := (List.findIdx?_eq_some_iff_getElem.1 hq).1
    rw [List.length_range] at this
    omega
  · omega
theorem symI_bd {α : Type} (p : α → Bool) (L : List α) : -1 ≤ firstIdx p L ∧ firstIdx p L < L.length := by
  unfold firstIdx
  split
  · rename_i q hq
    have := (List.findIdx?_eq_some_iff_getElem.1 hq).1
    omega
  · omega
attribute [local go_sem] St.runO St.stepO
section
noncomputable def cxSpS : Cx := { P := Try.prog, tys := tys, C := [(39, k60), (75, kImgOk), (76, kLoc), (77, kSymAt)], hty := tysOk, hC := COk.cons c58 (COk.cons cImgOkS (COk.cons cLocS (COk.cons cSymAtS (COk.nil _)))) }
theorem cxSpS_t : cxSpS.tys = tys := rfl
theorem cxSpS_c : cxSpS.C = [(39, k60), (75, kImgOk), (76, kLoc), (77, kSymAt)] := rfl
attribute [local go_sem] cxSpS_t cxSpS_c k60 kImgOk kLoc kSymAt
set_option maxHeartbeats 3000000 in
theorem cSpOkS : Cn Try.prog 62 kSpOk := by
  refine Cn.pur Try.func62 (by kernel_rfl) rfl fun d x hx => ?_
  obtain ⟨I, B, E⟩ := x
  obtain ⟨⟨hI, hIm⟩, hB, hE⟩ := hx
  simp only at hI hIm hB hE ⊢
  refine Holds.go (c := cxSpS) Try.func62 rfl Try.results62 Try.ntmps62 (by omega) (by simp) rfl ?_
  intro X0 w0
  by_cases hlen : I.length = 2 ∧ B.length = 2 ∧ 1 ≤ E.length ∧ E.length ≤ 6
  rotate_left
  · rw [sp_len hlen]
    by_cases l1 : (I.length : Int) = 2
    · by_cases l2 : (B.length : Int) = 2
      · have l3 : (decide ((1 : Int) ≤ E.length) && decide ((E.length : Int) ≤ 6)) = false := by
          rw [← Bool.decide_and]; exact decide_eq_false fun h => hlen ⟨by omega, by omega, by omega, by omega⟩
        (repeat' (first | refine WP.seq ?_ | refine WP.block ?_ | ((first | refine WP.region ?_ | refine WP.condW ?_ | refine WP.ret ?_ | refine WP.exit ?_ | refine WP.skip ?_); simp only [go_sem, l1, l2, l3, tyAll, Nat.reduceAdd, Nat.reduceLT, Nat.reduceLeDiff, Nat.reduceEqDiff, Nat.reduceMul, Nat.reduceSub, Nat.reduceGT, reduceIte, Int.reduceNeg, Int.reduceToNat]) | ((first | refine WP.drawW 32 (by decide +kernel) (by kernel_rfl) ?_ | refine WP.drawW 11 (by decide +kernel) (by kernel_rfl) ?_); simp only [go_sem, l1, l2, l3, tyAll, Nat.reduceAdd, Nat.reduceLT, Nat.reduceLeDiff, Nat.reduceEqDiff, Nat.reduceMul, Nat.reduceSub, Nat.reduceGT, reduceIte, Int.reduceNeg, Int.reduceToNat]) |  refine And.intro ?_ ?_ | intro _))
        all_goals first | omega | skip
        all_goals trace_state
      · (repeat' (first | refine WP.seq ?_ | refine WP.block ?_ | ((first | refine WP.region ?_ | refine WP.condW ?_ | refine WP.ret ?_ | refine WP.exit ?_ | refine WP.skip ?_); simp only [go_sem, l1, l2, tyAll, Nat.reduceAdd, Nat.reduceLT, Nat.reduceLeDiff, Nat.reduceEqDiff, Nat.reduceMul, Nat.reduceSub, Nat.reduceGT, reduceIte, Int.reduceNeg, Int.reduceToNat]) | ((first | refine WP.drawW 32 (by decide +kernel) (by kernel_rfl) ?_ | refine WP.drawW 11 (by decide +kernel) (by kernel_rfl) ?_); simp only [go_sem, l1, l2, tyAll, Nat.reduceAdd, Nat.reduceLT, Nat.reduceLeDiff, Nat.reduceEqDiff, Nat.reduceMul, Nat.reduceSub, Nat.reduceGT, reduceIte, Int.reduceNeg, Int.reduceToNat]) |  refine And.intro ?_ ?_ | intro _))
        all_goals first | omega | skip
        all_goals trace_state
    · (repeat' (first | refine WP.seq ?_ | refine WP.block ?_ | ((first | refine WP.region ?_ | refine WP.condW ?_ | refine WP.ret ?_ | refine WP.exit ?_ | refine WP.skip ?_); simp only [go_sem, l1, tyAll, Nat.reduceAdd, Nat.reduceLT, Nat.reduceLeDiff, Nat.reduceEqDiff, Nat.reduceMul, Nat.reduceSub, Nat.reduceGT, reduceIte, Int.reduceNeg, Int.reduceToNat]) | ((first | refine WP.drawW 32 (by decide +kernel) (by kernel_rfl) ?_ | refine WP.drawW 11 (by decide +kernel) (by kernel_rfl) ?_); simp only [go_sem, l1, tyAll, Nat.reduceAdd, Nat.reduceLT, Nat.reduceLeDiff, Nat.reduceEqDiff, Nat.reduceMul, Nat.reduceSub, Nat.reduceGT, reduceIte, Int.reduceNeg, Int.reduceToNat]) |  refine And.intro ?_ ?_ | intro _))
      all_goals first | omega | skip
      all_goals trace_state
  obtain ⟨g1, g2, g3, g4⟩ := hlen
  have lk0 : lk 0 tys = none := rfl
  have l1 : (I.length : Int) = 2 := by omega
  have l2 : (B.length : Int) = 2 := by omega
  have l3 : (1 : Int) ≤ E.length := by omega
  have l4 : (E.length : Int) ≤ 6 := by omega
  (repeat' (first | refine WP.seq ?_ | refine WP.block ?_ | ((first | refine WP.region ?_ | refine WP.condW ?_ | refine WP.ret ?_ | refine WP.exit ?_ | refine WP.skip ?_); simp only [go_sem, l1, l2, l3, l4, tyAll, Nat.reduceAdd, Nat.reduceLT, Nat.reduceLeDiff, Nat.reduceEqDiff, Nat.reduceMul, Nat.reduceSub, Nat.reduceGT, reduceIte, Int.reduceNeg, Int.reduceToNat]) | ((first | refine WP.drawW 32 (by decide +kernel) (by kernel_rfl) ?_ | refine WP.drawW 11 (by decide +kernel) (by kernel_rfl) ?_); simp only [go_sem, l1, l2, l3, l4, tyAll, Nat.reduceAdd, Nat.reduceLT, Nat.reduceLeDiff, Nat.reduceEqDiff, Nat.reduceMul, Nat.reduceSub, Nat.reduceGT, reduceIte, Int.reduceNeg, Int.reduceToNat]) |  refine And.intro ?_ ?_ | intro _))
  all_goals first | omega | skip
  refine WP.loop (fun k : Nat => ⟨[(1, .ptr 1 0 0 0), (3, .v (.int .i64 k))], [(1, .box 34 [.sl 2 (I.map encImage), .sl 1 (B.map encI), .sl 1 (E.map encI)])]⟩)
    (fun k => k ≤ 2 ∧ imgs2 I B k = true) (fun k => 2 - k) 0 ⟨by simp, rfl⟩ ?_ ?_
  · (simp only [go_sem, tyAll, Nat.reduceAdd, Nat.reduceLT, Nat.reduceLeDiff, Nat.reduceEqDiff, Nat.reduceMul, Nat.reduceSub, Nat.reduceGT, reduceIte, Int.reduceNeg, Int.reduceToNat] <;> (first | rfl | exact ⟨rfl, rfl⟩ | exact ⟨rfl, rfl, rfl⟩ | exact ⟨rfl, rfl, rfl, rfl⟩ | exact ⟨rfl, rfl, rfl, rfl, rfl⟩ | exact ⟨⟨rfl, rfl⟩, rfl⟩ | simp))
  intro k ⟨hk, hi2⟩
  by_cases hlt : k < 2
  · have hli : (k : Int) < 2 := by omega
    have hkI : k < I.length := by omega
    have hkB : k < B.length := by omega
    have hkIi : (k : Int) < I.length := by omega
    have hkBi : (k : Int) < B.length := by omega
    have hr := rowAt_map encImage I k hkI
    have hrb := rowAt_map encI B k hkB
    obtain ⟨p1, p2, p3⟩ := hIm _ (List.getElem_mem hkI)
    simp only at p1 p2 p3
    have hsu := imgs2_succ I B k
    rw [hi2, Bool.true_and, getD_img hkI, getD_int hkB] at hsu
    have hdn : imgs2 I B (k + 1) = false → imgs2 I B 2 = false := fun h => by
      have := imgs2_mono h (2 - (k + 1))
      rwa [show k + 1 + (2 - (k + 1)) = 2 by omega] at this
    cases hok : imageOk I[k].code I[k].symbols with
    | false =>
      rw [hok, Bool.false_and] at hsu
      rw [sp_img (hdn hsu)]
      (repeat' (first | refine WP.seq ?_ | refine WP.block ?_ | ((first | refine WP.region ?_ | refine WP.condW ?_ | refine WP.ret ?_ | refine WP.exit ?_ | refine WP.skip ?_); simp only [go_sem, hli, l1, l2, hr, encImage, hok, hrb, encI, tyAll, Nat.reduceAdd, Nat.reduceLT, Nat.reduceLeDiff, Nat.reduceEqDiff, Nat.reduceMul, Nat.reduceSub, Nat.reduceGT, reduceIte, Int.reduceNeg, Int.reduceToNat]) | ((first | refine WP.drawW 32 (by decide +kernel) (by kernel_rfl) ?_ | refine WP.drawW 11 (by decide +kernel) (by kernel_rfl) ?_); simp only [go_sem, hli, l1, l2, hr, encImage, hok, hrb, encI, tyAll, Nat.reduceAdd, Nat.reduceLT, Nat.reduceLeDiff, Nat.reduceEqDiff, Nat.reduceMul, Nat.reduceSub, Nat.reduceGT, reduceIte, Int.reduceNeg, Int.reduceToNat]) |  refine And.intro ?_ ?_ | intro _))
      all_goals first | omega | exact p3 _ ‹_› | skip
      all_goals trace_state
    | true =>
      by_cases hb : 1 ≤ B[k] ∧ B[k] ≤ 1000000
      · rw [hok, decide_eq_true hb] at hsu
        (repeat' (first | refine WP.seq ?_ | refine WP.block ?_ | ((first | refine WP.region ?_ | refine WP.condW ?_ | refine WP.ret ?_ | refine WP.exit ?_ | refine WP.skip ?_); simp only [go_sem, hli, l1, l2, hr, encImage, hok, hrb, encI, hb, tyAll, Nat.reduceAdd, Nat.reduceLT, Nat.reduceLeDiff, Nat.reduceEqDiff, Nat.reduceMul, Nat.reduceSub, Nat.reduceGT, reduceIte, Int.reduceNeg, Int.reduceToNat]) | ((first | refine WP.drawW 32 (by decide +kernel) (by kernel_rfl) ?_ | refine WP.drawW 11 (by decide +kernel) (by kernel_rfl) ?_); simp only [go_sem, hli, l1, l2, hr, encImage, hok, hrb, encI, hb, tyAll, Nat.reduceAdd, Nat.reduceLT, Nat.reduceLeDiff, Nat.reduceEqDiff, Nat.reduceMul, Nat.reduceSub, Nat.reduceGT, reduceIte, Int.reduceNeg, Int.reduceToNat]) |  refine And.intro ?_ ?_ | intro _))
        all_goals first | omega | exact p3 _ ‹_› | exact ⟨k + 1, ⟨by omega, hsu⟩, by omega, by (first | rfl | exact ⟨rfl, rfl⟩ | exact ⟨rfl, rfl, rfl⟩ | exact ⟨rfl, rfl, rfl, rfl⟩ | exact ⟨rfl, rfl, rfl, rfl, rfl⟩ | exact ⟨⟨rfl, rfl⟩, rfl⟩ | simp)⟩ | skip
        all_goals trace_state
      · rw [hok, decide_eq_false hb] at hsu
        rw [sp_img (hdn hsu)]
        have hb' : (decide (1 ≤ B[k]) && decide (B[k] ≤ 1000000)) = false := by rw [← Bool.decide_and]; exact decide_eq_false hb
        (repeat' (first | refine WP.seq ?_ | refine WP.block ?_ | ((first | refine WP.region ?_ | refine WP.condW ?_ | refine WP.ret ?_ | refine WP.exit ?_ | refine WP.skip ?_); simp only [go_sem, hli, l1, l2, hr, encImage, hok, hrb, encI, hb', tyAll, Nat.reduceAdd, Nat.reduceLT, Nat.reduceLeDiff, Nat.reduceEqDiff, Nat.reduceMul, Nat.reduceSub, Nat.reduceGT, reduceIte, Int.reduceNeg, Int.reduceToNat]) | ((first | refine WP.drawW 32 (by decide +kernel) (by kernel_rfl) ?_ | refine WP.drawW 11 (by decide +kernel) (by kernel_rfl) ?_); simp only [go_sem, hli, l1, l2, hr, encImage, hok, hrb, encI, hb', tyAll, Nat.reduceAdd, Nat.reduceLT, Nat.reduceLeDiff, Nat.reduceEqDiff, Nat.reduceMul, Nat.reduceSub, Nat.reduceGT, reduceIte, Int.reduceNeg, Int.reduceToNat]) |  refine And.intro ?_ ?_ | intro _))
        all_goals first | omega | exact p3 _ ‹_› | skip
        all_goals trace_state
  · have hge : ¬ (k : Int) < 2 := by omega
    obtain rfl : k = 2 := by omega
    have h0I : 0 < I.length := by omega
    have h1I : 1 < I.length := by omega
    have h0B : 0 < B.length := by omega
    have h1B : 1 < B.length := by omega
    have r0 := rowAt_map encImage I 0 h0I
    have r1 := rowAt_map encImage I 1 h1I
    have b0 := rowAt_map encI B 0 h0B
    have b1 := rowAt_map encI B 1 h1B
    obtain ⟨o0, q0, q0'⟩ := imgs2_at hi2 (j := 0) (by omega)
    obtain ⟨o1, q1, q1'⟩ := imgs2_at hi2 (j := 1) (by omega)
    rw [getD_int h0B] at q0 q0'
    rw [getD_int h1B] at q1 q1'
    have s0 := (hIm _ (List.getElem_mem h0I)).1
    have s1 := (hIm _ (List.getElem_mem h1I)).1
    simp only at s0 s1
    have hov : overB I B = (decide (0 < I[0].code.size) && decide (0 < I[1].code.size) && decide (B[0] < B[1] + I[1].code.size) && decide (B[1] < B[0] + I[0].code.size)) := by
      unfold overB; rw [getD_img h0I, getD_img h1I, getD_int h0B, getD_int h1B]
    have c02 : (0 : Int) < 2 := by omega
    have c12 : (1 : Int) < 2 := by omega
    have t1 : (1 : Int).toNat = 1 := rfl
    have hBn : ∀ b ∈ B, 0 ≤ b ∧ b ≤ 1000000000000 := fun b hb => by
      obtain ⟨j, hj, rfl⟩ := List.mem_iff_getElem.1 hb
      have := (imgs2_at hi2 (j := j) (by omega)).2
      rw [getD_int hj] at this
      omega
    have hst : ∀ i ∈ I, ∀ y ∈ i.symbols, 0 ≤ y.start ∧ y.start ≤ 1000000000000 := fun i hi y hy => by
      obtain ⟨j, hj, rfl⟩ := List.mem_iff_getElem.1 hi
      have := (imgs2_at hi2 (j := j) (by omega)).1
      rw [getD_img hj] at this
      obtain ⟨A, hA⟩ := img_chain this
      obtain ⟨m, hm, rfl⟩ := List.mem_iff_getElem.1 hy
      have h1 := hA.lt hm
      have h2 := hA.big
      omega
    cases ho : overB I B with
    | true =>
      rw [sp_over ho]
      rw [ho] at hov
      have hov := hov.symm
      simp only [Bool.and_eq_true, decide_eq_true_eq] at hov
      obtain ⟨⟨⟨v1, v2⟩, v3⟩, v4⟩ := hov
      have v1i : (0 : Int) < I[0].code.size := by omega
      have v2i : (0 : Int) < I[1].code.size := by omega
      (repeat' (first | refine WP.seq ?_ | refine WP.block ?_ | ((first | refine WP.region ?_ | refine WP.condW ?_ | refine WP.ret ?_ | refine WP.exit ?_ | refine WP.skip ?_); simp only [go_sem, hge, l1, l2, c02, c12, t1, r0, r1, b0, b1, encImage, encI, v1i, v2i, v3, v4, tyAll, Nat.reduceAdd, Nat.reduceLT, Nat.reduceLeDiff, Nat.reduceEqDiff, Nat.reduceMul, Nat.reduceSub, Nat.reduceGT, reduceIte, Int.reduceNeg, Int.reduceToNat]) | ((first | refine WP.drawW 32 (by decide +kernel) (by kernel_rfl) ?_ | refine WP.drawW 11 (by decide +kernel) (by kernel_rfl) ?_); simp only [go_sem, hge, l1, l2, c02, c12, t1, r0, r1, b0, b1, encImage, encI, v1i, v2i, v3, v4, tyAll, Nat.reduceAdd, Nat.reduceLT, Nat.reduceLeDiff, Nat.reduceEqDiff, Nat.reduceMul, Nat.reduceSub, Nat.reduceGT, reduceIte, Int.reduceNeg, Int.reduceToNat]) |  refine And.intro ?_ ?_ | intro _))
      all_goals first | omega | skip
      all_goals trace_state
    | false =>
      rw [ho] at hov
      have hloop : ∀ k (hk : k < E.length), isEnt I B E[k] = false → spaceOk I B E = false := fun k hk h => sp_ent hk h
      have hyes := sp_ok (I := I) (B := B) (E := E) ⟨g1, g2, g3, g4⟩ hi2 ho
      by_cases v1 : (0 : Int) < I[0].code.size
      · by_cases v2 : (0 : Int) < I[1].code.size
        · by_cases v3 : B[0] < B[1] + (I[1].code.size : Int)
          · have v4 : ¬ B[1] < B[0] + (I[0].code.size : Int) := fun h => by
              rw [decide_eq_true (by omega : 0 < I[0].code.size), decide_eq_true (by omega : 0 < I[1].code.size), decide_eq_true v3, decide_eq_true h] at hov
              cases hov
            (repeat' (first | refine WP.seq ?_ | refine WP.block ?_ | ((first | refine WP.region ?_ | refine WP.condW ?_ | refine WP.ret ?_ | refine WP.exit ?_ | refine WP.skip ?_); simp only [go_sem, hge, l1, l2, c02, c12, t1, r0, r1, b0, b1, encImage, encI, v1, v2, v3, v4, tyAll, Nat.reduceAdd, Nat.reduceLT, Nat.reduceLeDiff, Nat.reduceEqDiff, Nat.reduceMul, Nat.reduceSub, Nat.reduceGT, reduceIte, Int.reduceNeg, Int.reduceToNat]) | ((first | refine WP.drawW 32 (by decide +kernel) (by kernel_rfl) ?_ | refine WP.drawW 11 (by decide +kernel) (by kernel_rfl) ?_); simp only [go_sem, hge, l1, l2, c02, c12, t1, r0, r1, b0, b1, encImage, encI, v1, v2, v3, v4, tyAll, Nat.reduceAdd, Nat.reduceLT, Nat.reduceLeDiff, Nat.reduceEqDiff, Nat.reduceMul, Nat.reduceSub, Nat.reduceGT, reduceIte, Int.reduceNeg, Int.reduceToNat]) |  refine And.intro ?_ ?_ | intro _))
            all_goals first | omega | skip
            refine WP.loop (fun k : Nat => ⟨[(1, .ptr 1 0 0 0), (6, .v (.int .i64 k))], [(1, .box 34 [.sl 2 (I.map encImage), .sl 1 (B.map encI), .sl 1 (E.map encI)])]⟩)
              (fun k => k ≤ E.length ∧ ∀ i (hi : i < E.length), i < k → isEnt I B E[i] = true) (fun k => E.length - k) 0 (by simp) ?_ ?_
            · (simp only [go_sem, tyAll, Nat.reduceAdd, Nat.reduceLT, Nat.reduceLeDiff, Nat.reduceEqDiff, Nat.reduceMul, Nat.reduceSub, Nat.reduceGT, reduceIte, Int.reduceNeg, Int.reduceToNat] <;> (first | rfl | exact ⟨rfl, rfl⟩ | exact ⟨rfl, rfl, rfl⟩ | exact ⟨rfl, rfl, rfl, rfl⟩ | exact ⟨rfl, rfl, rfl, rfl, rfl⟩ | exact ⟨⟨rfl, rfl⟩, rfl⟩ | simp))
            intro k ⟨hk, hf⟩
            by_cases hlt : k < E.length
            · have hli : (k : Int) < E.length := by omega
              have hre := rowAt_map encI E k hlt
              have hes := ent_same g1 hi2 ho E[k]
              unfold entS at hes
              obtain ⟨hlo1, hlo2⟩ := locI_bd I B E[k]
              by_cases hn : locI I B E[k] < 0
              · rw [if_pos hn] at hes
                rw [hloop k hlt hes.symm]
                (repeat' (first | refine WP.seq ?_ | refine WP.block ?_ | ((first | refine WP.region ?_ | refine WP.condW ?_ | refine WP.ret ?_ | refine WP.exit ?_ | refine WP.skip ?_); simp only [go_sem, hli, hre, encI, hn, tyAll, Nat.reduceAdd, Nat.reduceLT, Nat.reduceLeDiff, Nat.reduceEqDiff, Nat.reduceMul, Nat.reduceSub, Nat.reduceGT, reduceIte, Int.reduceNeg, Int.reduceToNat]) | ((first | refine WP.drawW 32 (by decide +kernel) (by kernel_rfl) ?_ | refine WP.drawW 11 (by decide +kernel) (by kernel_rfl) ?_); simp only [go_sem, hli, hre, encI, hn, tyAll, Nat.reduceAdd, Nat.reduceLT, Nat.reduceLeDiff, Nat.reduceEqDiff, Nat.reduceMul, Nat.reduceSub, Nat.reduceGT, reduceIte, Int.reduceNeg, Int.reduceToNat]) |  refine And.intro ?_ ?_ | intro _))
                all_goals first | omega | exact (hIm _ ‹_›).1 | exact (hIm _ ‹_›).2.1 | exact (hIm _ ‹_›).2.2 _ ‹_› | exact g2.trans g1.symm | exact (hBn _ ‹_›).1 | exact (hBn _ ‹_›).2 | exact hIm _ ‹_› | skip
                all_goals trace_state
              rw [if_neg hn] at hes
              obtain ⟨m, hm⟩ : ∃ m : Nat, locI I B E[k] = m := ⟨(locI I B E[k]).toNat, by omega⟩
              have hmI : m < I.length := by omega
              have hmB : m < B.length := by omega
              have hmi : (m : Int) < I.length := by omega
              have hm2 : (m : Int) < 2 := by omega
              have hm0 : ¬ (m : Int) < 0 := by omega
              rw [hm, Int.toNat_natCast, getD_img hmI, getD_int hmB] at hes
              have hrm := rowAt_map encImage I m hmI
              obtain ⟨y1, y2, y3⟩ := hIm _ (List.getElem_mem hmI)
              simp only at y1 y2 y3
              have hgB : B.getD m 0 = B[m] := getD_int hmB 0
              obtain ⟨hs1, hs2⟩ := symI_bd (symHit (E[k] - B[m])) I[m].symbols
              by_cases hz : firstIdx (symHit (E[k] - B[m])) I[m].symbols < 0
              · have hzF : ¬ 0 ≤ firstIdx (symHit (E[k] - B[m])) I[m].symbols := by omega
                rw [decide_eq_false hzF, Bool.false_and] at hes
                rw [hloop k hlt hes.symm]
                (repeat' (first | (refine WP.regionO (id := 19) ?_; simp only [go_sem, hli, hre, encI, hm, hm0, hmi, hm2, l1, hrm, encImage, hz, hgB, lk0, tyAll, Nat.reduceAdd, Nat.reduceLT, Nat.reduceLeDiff, Nat.reduceEqDiff, Nat.reduceMul, Nat.reduceSub, Nat.reduceGT, reduceIte, Int.reduceNeg, Int.reduceToNat]) | refine WP.seq ?_ | refine WP.block ?_ | ((first | refine WP.region ?_ | refine WP.condW ?_ | refine WP.ret ?_ | refine WP.exit ?_ | refine WP.skip ?_); simp only [go_sem, hli, hre, encI, hm, hm0, hmi, hm2, l1, hrm, encImage, hz, hgB, lk0, tyAll, Nat.reduceAdd, Nat.reduceLT, Nat.reduceLeDiff, Nat.reduceEqDiff, Nat.reduceMul, Nat.reduceSub, Nat.reduceGT, reduceIte, Int.reduceNeg, Int.reduceToNat]) | ((first | refine WP.drawW 32 (by decide +kernel) (by kernel_rfl) ?_ | refine WP.drawW 11 (by decide +kernel) (by kernel_rfl) ?_); simp only [go_sem, hli, hre, encI, hm, hm0, hmi, hm2, l1, hrm, encImage, hz, hgB, lk0, tyAll, Nat.reduceAdd, Nat.reduceLT, Nat.reduceLeDiff, Nat.reduceEqDiff, Nat.reduceMul, Nat.reduceSub, Nat.reduceGT, reduceIte, Int.reduceNeg, Int.reduceToNat]) |  refine And.intro ?_ ?_ | intro _))
                all_goals first | omega | exact (hIm _ ‹_›).1 | exact (hIm _ ‹_›).2.1 | exact (hIm _ ‹_›).2.2 _ ‹_› | exact g2.trans g1.symm | exact (hBn _ ‹_›).1 | exact (hBn _ ‹_›).2 | exact hIm _ ‹_› | skip
                all_goals trace_state
              obtain ⟨n, hn2⟩ : ∃ n : Nat, firstIdx (symHit (E[k] - B[m])) I[m].symbols = n := ⟨(firstIdx (symHit (E[k] - B[m])) I[m].symbols).toNat, by omega⟩
              have hnY : n < I[m].symbols.length := by omega
              have hnYi : (n : Int) < I[m].symbols.length := by omega
              have hn0 : ¬ (n : Int) < 0 := by omega
              have hnT : (0 : Int) ≤ (n : Int) := by omega
              rw [hn2, Int.toNat_natCast, decide_eq_true hnT, Bool.true_and, List.getD_eq_getElem?_getD, List.getElem?_eq_getElem hnY, Option.getD_some] at hes
              have hry := rowAt_map encSymbol I[m].symbols n hnY
              by_cases hst2 : I[m].symbols[n].start = E[k] - B[m]
              · rw [decide_eq_true hst2] at hes
                have he := hes.symm
                (repeat' (first | refine WP.seq ?_ | refine WP.block ?_ | ((first | refine WP.region ?_ | refine WP.condW ?_ | refine WP.ret ?_ | refine WP.exit ?_ | refine WP.skip ?_); simp only [go_sem, hli, hre, encI, hm, hm0, hmi, hm2, l1, hrm, encImage, hn2, hn0, hnYi, hry, encSymbol, hst2, hgB, tyAll, Nat.reduceAdd, Nat.reduceLT, Nat.reduceLeDiff, Nat.reduceEqDiff, Nat.reduceMul, Nat.reduceSub, Nat.reduceGT, reduceIte, Int.reduceNeg, Int.reduceToNat]) | ((first | refine WP.drawW 32 (by decide +kernel) (by kernel_rfl) ?_ | refine WP.drawW 11 (by decide +kernel) (by kernel_rfl) ?_); simp only [go_sem, hli, hre, encI, hm, hm0, hmi, hm2, l1, hrm, encImage, hn2, hn0, hnYi, hry, encSymbol, hst2, hgB, tyAll, Nat.reduceAdd, Nat.reduceLT, Nat.reduceLeDiff, Nat.reduceEqDiff, Nat.reduceMul, Nat.reduceSub, Nat.reduceGT, reduceIte, Int.reduceNeg, Int.reduceToNat]) |  refine And.intro ?_ ?_ | intro _))
                all_goals first | omega | exact (hIm _ ‹_›).1 | exact (hIm _ ‹_›).2.1 | exact (hIm _ ‹_›).2.2 _ ‹_› | exact g2.trans g1.symm | exact (hBn _ ‹_›).1 | exact (hBn _ ‹_›).2 | exact hIm _ ‹_› | exact ⟨k + 1, ⟨by omega, fun i hi hik => by
                  rcases Nat.lt_or_ge i k with h | h
                  · exact hf i hi h
                  · have : i = k := by omega
                    subst this; exact he⟩, by omega, by (first | rfl | exact ⟨rfl, rfl⟩ | exact ⟨rfl, rfl, rfl⟩ | exact ⟨rfl, rfl, rfl, rfl⟩ | exact ⟨rfl, rfl, rfl, rfl, rfl⟩ | exact ⟨⟨rfl, rfl⟩, rfl⟩ | simp)⟩ | skip
                all_goals trace_state
              · rw [decide_eq_false hst2] at hes
                rw [hloop k hlt hes.symm]
                (repeat' (first | refine WP.seq ?_ | refine WP.block ?_ | ((first | refine WP.region ?_ | refine WP.condW ?_ | refine WP.ret ?_ | refine WP.exit ?_ | refine WP.skip ?_); simp only [go_sem, hli, hre, encI, hm, hm0, hmi, hm2, l1, hrm, encImage, hn2, hn0, hnYi, hry, encSymbol, hst2, hgB, tyAll, Nat.reduceAdd, Nat.reduceLT, Nat.reduceLeDiff, Nat.reduceEqDiff, Nat.reduceMul, Nat.reduceSub, Nat.reduceGT, reduceIte, Int.reduceNeg, Int.reduceToNat]) | ((first | refine WP.drawW 32 (by decide +kernel) (by kernel_rfl) ?_ | refine WP.drawW 11 (by decide +kernel) (by kernel_rfl) ?_); simp only [go_sem, hli, hre, encI, hm, hm0, hmi, hm2, l1, hrm, encImage, hn2, hn0, hnYi, hry, encSymbol, hst2, hgB, tyAll, Nat.reduceAdd, Nat.reduceLT, Nat.reduceLeDiff, Nat.reduceEqDiff, Nat.reduceMul, Nat.reduceSub, Nat.reduceGT, reduceIte, Int.reduceNeg, Int.reduceToNat]) |  refine And.intro ?_ ?_ | intro _))
                all_goals first | omega | exact (hIm _ ‹_›).1 | exact (hIm _ ‹_›).2.1 | exact (hIm _ ‹_›).2.2 _ ‹_› | exact g2.trans g1.symm | exact (hBn _ ‹_›).1 | exact (hBn _ ‹_›).2 | exact hIm _ ‹_› | skip
                all_goals trace_state
            · have hge2 : ¬ (k : Int) < E.length := by omega
              rw [hyes fun i hi => hf i hi (by omega)]
              (repeat' (first | refine WP.seq ?_ | refine WP.block ?_ | ((first | refine WP.region ?_ | refine WP.condW ?_ | refine WP.ret ?_ | refine WP.exit ?_ | refine WP.skip ?_); simp only [go_sem, hge2, tyAll, Nat.reduceAdd, Nat.reduceLT, Nat.reduceLeDiff, Nat.reduceEqDiff, Nat.reduceMul, Nat.reduceSub, Nat.reduceGT, reduceIte, Int.reduceNeg, Int.reduceToNat]) | ((first | refine WP.drawW 32 (by decide +kernel) (by kernel_rfl) ?_ | refine WP.drawW 11 (by decide +kernel) (by kernel_rfl) ?_); simp only [go_sem, hge2, tyAll, Nat.reduceAdd, Nat.reduceLT, Nat.reduceLeDiff, Nat.reduceEqDiff, Nat.reduceMul, Nat.reduceSub, Nat.reduceGT, reduceIte, Int.reduceNeg, Int.reduceToNat]) |  refine And.intro ?_ ?_ | intro _))
              all_goals first | omega | skip
              all_goals trace_state
          · (repeat' (first | refine WP.seq ?_ | refine WP.block ?_ | ((first | refine WP.region ?_ | refine WP.condW ?_ | refine WP.ret ?_ | refine WP.exit ?_ | refine WP.skip ?_); simp only [go_sem, hge, l1, l2, c02, c12, t1, r0, r1, b0, b1, encImage, encI, v1, v2, v3, tyAll, Nat.reduceAdd, Nat.reduceLT, Nat.reduceLeDiff, Nat.reduceEqDiff, Nat.reduceMul, Nat.reduceSub, Nat.reduceGT, reduceIte, Int.reduceNeg, Int.reduceToNat]) | ((first | refine WP.drawW 32 (by decide +kernel) (by kernel_rfl) ?_ | refine WP.drawW 11 (by decide +kernel) (by kernel_rfl) ?_); simp only [go_sem, hge, l1, l2, c02, c12, t1, r0, r1, b0, b1, encImage, encI, v1, v2, v3, tyAll, Nat.reduceAdd, Nat.reduceLT, Nat.reduceLeDiff, Nat.reduceEqDiff, Nat.reduceMul, Nat.reduceSub, Nat.reduceGT, reduceIte, Int.reduceNeg, Int.reduceToNat]) |  refine And.intro ?_ ?_ | intro _))
            all_goals first | omega | skip
            refine WP.loop (fun k : Nat => ⟨[(1, .ptr 1 0 0 0), (6, .v (.int .i64 k))], [(1, .box 34 [.sl 2 (I.map encImage), .sl 1 (B.map encI), .sl 1 (E.map encI)])]⟩)
              (fun k => k ≤ E.length ∧ ∀ i (hi : i < E.length), i < k → isEnt I B E[i] = true) (fun k => E.length - k) 0 (by simp) ?_ ?_
            · (simp only [go_sem, tyAll, Nat.reduceAdd, Nat.reduceLT, Nat.reduceLeDiff, Nat.reduceEqDiff, Nat.reduceMul, Nat.reduceSub, Nat.reduceGT, reduceIte, Int.reduceNeg, Int.reduceToNat] <;> (first | rfl | exact ⟨rfl, rfl⟩ | exact ⟨rfl, rfl, rfl⟩ | exact ⟨rfl, rfl, rfl, rfl⟩ | exact ⟨rfl, rfl, rfl, rfl, rfl⟩ | exact ⟨⟨rfl, rfl⟩, rfl⟩ | simp))
            intro k ⟨hk, hf⟩
            by_cases hlt : k < E.length
            · have hli : (k : Int) < E.length := by omega
              have hre := rowAt_map encI E k hlt
              have hes := ent_same g1 hi2 ho E[k]
              unfold entS at hes
              obtain ⟨hlo1, hlo2⟩ := locI_bd I B E[k]
              by_cases hn : locI I B E[k] < 0
              · rw [if_pos hn] at hes
                rw [hloop k hlt hes.symm]
                (repeat' (first | refine WP.seq ?_ | refine WP.block ?_ | ((first | refine WP.region ?_ | refine WP.condW ?_ | refine WP.ret ?_ | refine WP.exit ?_ | refine WP.skip ?_); simp only [go_sem, hli, hre, encI, hn, tyAll, Nat.reduceAdd, Nat.reduceLT, Nat.reduceLeDiff, Nat.reduceEqDiff, Nat.reduceMul, Nat.reduceSub, Nat.reduceGT, reduceIte, Int.reduceNeg, Int.reduceToNat]) | ((first | refine WP.drawW 32 (by decide +kernel) (by kernel_rfl) ?_ | refine WP.drawW 11 (by decide +kernel) (by kernel_rfl) ?_); simp only [go_sem, hli, hre, encI, hn, tyAll, Nat.reduceAdd, Nat.reduceLT, Nat.reduceLeDiff, Nat.reduceEqDiff, Nat.reduceMul, Nat.reduceSub, Nat.reduceGT, reduceIte, Int.reduceNeg, Int.reduceToNat]) |  refine And.intro ?_ ?_ | intro _))
                all_goals first | omega | exact (hIm _ ‹_›).1 | exact (hIm _ ‹_›).2.1 | exact (hIm _ ‹_›).2.2 _ ‹_› | exact g2.trans g1.symm | exact (hBn _ ‹_›).1 | exact (hBn _ ‹_›).2 | exact hIm _ ‹_› | skip
                all_goals trace_state
              rw [if_neg hn] at hes
              obtain ⟨m, hm⟩ : ∃ m : Nat, locI I B E[k] = m := ⟨(locI I B E[k]).toNat, by omega⟩
              have hmI : m < I.length := by omega
              have hmB : m < B.length := by omega
              have hmi : (m : Int) < I.length := by omega
              have hm2 : (m : Int) < 2 := by omega
              have hm0 : ¬ (m : Int) < 0 := by omega
              rw [hm, Int.toNat_natCast, getD_img hmI, getD_int hmB] at hes
              have hrm := rowAt_map encImage I m hmI
              obtain ⟨y1, y2, y3⟩ := hIm _ (List.getElem_mem hmI)
              simp only at y1 y2 y3
              have hgB : B.getD m 0 = B[m] := getD_int hmB 0
              obtain ⟨hs1, hs2⟩ := symI_bd (symHit (E[k] - B[m])) I[m].symbols
              by_cases hz : firstIdx (symHit (E[k] - B[m])) I[m].symbols < 0
              · have hzF : ¬ 0 ≤ firstIdx (symHit (E[k] - B[m])) I[m].symbols := by omega
                rw [decide_eq_false hzF, Bool.false_and] at hes
                rw [hloop k hlt hes.symm]
                (repeat' (first | (refine WP.regionO (id := 19) ?_; simp only [go_sem, hli, hre, encI, hm, hm0, hmi, hm2, l1, hrm, encImage, hz, hgB, lk0, tyAll, Nat.reduceAdd, Nat.reduceLT, Nat.reduceLeDiff, Nat.reduceEqDiff, Nat.reduceMul, Nat.reduceSub, Nat.reduceGT, reduceIte, Int.reduceNeg, Int.reduceToNat]) | refine WP.seq ?_ | refine WP.block ?_ | ((first | refine WP.region ?_ | refine WP.condW ?_ | refine WP.ret ?_ | refine WP.exit ?_ | refine WP.skip ?_); simp only [go_sem, hli, hre, encI, hm, hm0, hmi, hm2, l1, hrm, encImage, hz, hgB, lk0, tyAll, Nat.reduceAdd, Nat.reduceLT, Nat.reduceLeDiff, Nat.reduceEqDiff, Nat.reduceMul, Nat.reduceSub, Nat.reduceGT, reduceIte, Int.reduceNeg, Int.reduceToNat]) | ((first | refine WP.drawW 32 (by decide +kernel) (by kernel_rfl) ?_ | refine WP.drawW 11 (by decide +kernel) (by kernel_rfl) ?_); simp only [go_sem, hli, hre, encI, hm, hm0, hmi, hm2, l1, hrm, encImage, hz, hgB, lk0, tyAll, Nat.reduceAdd, Nat.reduceLT, Nat.reduceLeDiff, Nat.reduceEqDiff, Nat.reduceMul, Nat.reduceSub, Nat.reduceGT, reduceIte, Int.reduceNeg, Int.reduceToNat]) |  refine And.intro ?_ ?_ | intro _))
                all_goals first | omega | exact (hIm _ ‹_›).1 | exact (hIm _ ‹_›).2.1 | exact (hIm _ ‹_›).2.2 _ ‹_› | exact g2.trans g1.symm | exact (hBn _ ‹_›).1 | exact (hBn _ ‹_›).2 | exact hIm _ ‹_› | skip
                all_goals trace_state
              obtain ⟨n, hn2⟩ : ∃ n : Nat, firstIdx (symHit (E[k] - B[m])) I[m].symbols = n := ⟨(firstIdx (symHit (E[k] - B[m])) I[m].symbols).toNat, by omega⟩
              have hnY : n < I[m].symbols.length := by omega
              have hnYi : (n : Int) < I[m].symbols.length := by omega
              have hn0 : ¬ (n : Int) < 0 := by omega
              have hnT : (0 : Int) ≤ (n : Int) := by omega
              rw [hn2, Int.toNat_natCast, decide_eq_true hnT, Bool.true_and, List.getD_eq_getElem?_getD, List.getElem?_eq_getElem hnY, Option.getD_some] at hes
              have hry := rowAt_map encSymbol I[m].symbols n hnY
              by_cases hst2 : I[m].symbols[n].start = E[k] - B[m]
              · rw [decide_eq_true hst2] at hes
                have he := hes.symm
                (repeat' (first | refine WP.seq ?_ | refine WP.block ?_ | ((first | refine WP.region ?_ | refine WP.condW ?_ | refine WP.ret ?_ | refine WP.exit ?_ | refine WP.skip ?_); simp only [go_sem, hli, hre, encI, hm, hm0, hmi, hm2, l1, hrm, encImage, hn2, hn0, hnYi, hry, encSymbol, hst2, hgB, tyAll, Nat.reduceAdd, Nat.reduceLT, Nat.reduceLeDiff, Nat.reduceEqDiff, Nat.reduceMul, Nat.reduceSub, Nat.reduceGT, reduceIte, Int.reduceNeg, Int.reduceToNat]) | ((first | refine WP.drawW 32 (by decide +kernel) (by kernel_rfl) ?_ | refine WP.drawW 11 (by decide +kernel) (by kernel_rfl) ?_); simp only [go_sem, hli, hre, encI, hm, hm0, hmi, hm2, l1, hrm, encImage, hn2, hn0, hnYi, hry, encSymbol, hst2, hgB, tyAll, Nat.reduceAdd, Nat.reduceLT, Nat.reduceLeDiff, Nat.reduceEqDiff, Nat.reduceMul, Nat.reduceSub, Nat.reduceGT, reduceIte, Int.reduceNeg, Int.reduceToNat]) |  refine And.intro ?_ ?_ | intro _))
                all_goals first | omega | exact (hIm _ ‹_›).1 | exact (hIm _ ‹_›).2.1 | exact (hIm _ ‹_›).2.2 _ ‹_› | exact g2.trans g1.symm | exact (hBn _ ‹_›).1 | exact (hBn _ ‹_›).2 | exact hIm _ ‹_› | exact ⟨k + 1, ⟨by omega, fun i hi hik => by
                  rcases Nat.lt_or_ge i k with h | h
                  · exact hf i hi h
                  · have : i = k := by omega
                    subst this; exact he⟩, by omega, by (first | rfl | exact ⟨rfl, rfl⟩ | exact ⟨rfl, rfl, rfl⟩ | exact ⟨rfl, rfl, rfl, rfl⟩ | exact ⟨rfl, rfl, rfl, rfl, rfl⟩ | exact ⟨⟨rfl, rfl⟩, rfl⟩ | simp)⟩ | skip
                all_goals trace_state
              · rw [decide_eq_false hst2] at hes
                rw [hloop k hlt hes.symm]
                (repeat' (first | refine WP.seq ?_ | refine WP.block ?_ | ((first | refine WP.region ?_ | refine WP.condW ?_ | refine WP.ret ?_ | refine WP.exit ?_ | refine WP.skip ?_); simp only [go_sem, hli, hre, encI, hm, hm0, hmi, hm2, l1, hrm, encImage, hn2, hn0, hnYi, hry, encSymbol, hst2, hgB, tyAll, Nat.reduceAdd, Nat.reduceLT, Nat.reduceLeDiff, Nat.reduceEqDiff, Nat.reduceMul, Nat.reduceSub, Nat.reduceGT, reduceIte, Int.reduceNeg, Int.reduceToNat]) | ((first | refine WP.drawW 32 (by decide +kernel) (by kernel_rfl) ?_ | refine WP.drawW 11 (by decide +kernel) (by kernel_rfl) ?_); simp only [go_sem, hli, hre, encI, hm, hm0, hmi, hm2, l1, hrm, encImage, hn2, hn0, hnYi, hry, encSymbol, hst2, hgB, tyAll, Nat.reduceAdd, Nat.reduceLT, Nat.reduceLeDiff, Nat.reduceEqDiff, Nat.reduceMul, Nat.reduceSub, Nat.reduceGT, reduceIte, Int.reduceNeg, Int.reduceToNat]) |  refine And.intro ?_ ?_ | intro _))
                all_goals first | omega | exact (hIm _ ‹_›).1 | exact (hIm _ ‹_›).2.1 | exact (hIm _ ‹_›).2.2 _ ‹_› | exact g2.trans g1.symm | exact (hBn _ ‹_›).1 | exact (hBn _ ‹_›).2 | exact hIm _ ‹_› | skip
                all_goals trace_state
            · have hge2 : ¬ (k : Int) < E.length := by omega
              rw [hyes fun i hi => hf i hi (by omega)]
              (repeat' (first | refine WP.seq ?_ | refine WP.block ?_ | ((first | refine WP.region ?_ | refine WP.condW ?_ | refine WP.ret ?_ | refine WP.exit ?_ | refine WP.skip ?_); simp only [go_sem, hge2, tyAll, Nat.reduceAdd, Nat.reduceLT, Nat.reduceLeDiff, Nat.reduceEqDiff, Nat.reduceMul, Nat.reduceSub, Nat.reduceGT, reduceIte, Int.reduceNeg, Int.reduceToNat]) | ((first | refine WP.drawW 32 (by decide +kernel) (by kernel_rfl) ?_ | refine WP.drawW 11 (by decide +kernel) (by kernel_rfl) ?_); simp only [go_sem, hge2, tyAll, Nat.reduceAdd, Nat.reduceLT, Nat.reduceLeDiff, Nat.reduceEqDiff, Nat.reduceMul, Nat.reduceSub, Nat.reduceGT, reduceIte, Int.reduceNeg, Int.reduceToNat]) |  refine And.intro ?_ ?_ | intro _))
              all_goals first | omega | skip
              all_goals trace_state
        · (repeat' (first | refine WP.seq ?_ | refine WP.block ?_ | ((first | refine WP.region ?_ | refine WP.condW ?_ | refine WP.ret ?_ | refine WP.exit ?_ | refine WP.skip ?_); simp only [go_sem, hge, l1, l2, c02, c12, t1, r0, r1, b0, b1, encImage, encI, v1, v2, tyAll, Nat.reduceAdd, Nat.reduceLT, Nat.reduceLeDiff, Nat.reduceEqDiff, Nat.reduceMul, Nat.reduceSub, Nat.reduceGT, reduceIte, Int.reduceNeg, Int.reduceToNat]) | ((first | refine WP.drawW 32 (by decide +kernel) (by kernel_rfl) ?_ | refine WP.drawW 11 (by decide +kernel) (by kernel_rfl) ?_); simp only [go_sem, hge, l1, l2, c02, c12, t1, r0, r1, b0, b1, encImage, encI, v1, v2, tyAll, Nat.reduceAdd, Nat.reduceLT, Nat.reduceLeDiff, Nat.reduceEqDiff, Nat.reduceMul, Nat.reduceSub, Nat.reduceGT, reduceIte, Int.reduceNeg, Int.reduceToNat]) |  refine And.intro ?_ ?_ | intro _))
          all_goals first | omega | skip
          refine WP.loop (fun k : Nat => ⟨[(1, .ptr 1 0 0 0), (6, .v (.int .i64 k))], [(1, .box 34 [.sl 2 (I.map encImage), .sl 1 (B.map encI), .sl 1 (E.map encI)])]⟩)
            (fun k => k ≤ E.length ∧ ∀ i (hi : i < E.length), i < k → isEnt I B E[i] = true) (fun k => E.length - k) 0 (by simp) ?_ ?_
          · (simp only [go_sem, tyAll, Nat.reduceAdd, Nat.reduceLT, Nat.reduceLeDiff, Nat.reduceEqDiff, Nat.reduceMul, Nat.reduceSub, Nat.reduceGT, reduceIte, Int.reduceNeg, Int.reduceToNat] <;> (first | rfl | exact ⟨rfl, rfl⟩ | exact ⟨rfl, rfl, rfl⟩ | exact ⟨rfl, rfl, rfl, rfl⟩ | exact ⟨rfl, rfl, rfl, rfl, rfl⟩ | exact ⟨⟨rfl, rfl⟩, rfl⟩ | simp))
          intro k ⟨hk, hf⟩
          by_cases hlt : k < E.length
          · have hli : (k : Int) < E.length := by omega
            have hre := rowAt_map encI E k hlt
            have hes := ent_same g1 hi2 ho E[k]
            unfold entS at hes
            obtain ⟨hlo1, hlo2⟩ := locI_bd I B E[k]
            by_cases hn : locI I B E[k] < 0
            · rw [if_pos hn] at hes
              rw [hloop k hlt hes.symm]
              (repeat' (first | refine WP.seq ?_ | refine WP.block ?_ | ((first | refine WP.region ?_ | refine WP.condW ?_ | refine WP.ret ?_ | refine WP.exit ?_ | refine WP.skip ?_); simp only [go_sem, hli, hre, encI, hn, tyAll, Nat.reduceAdd, Nat.reduceLT, Nat.reduceLeDiff, Nat.reduceEqDiff, Nat.reduceMul, Nat.reduceSub, Nat.reduceGT, reduceIte, Int.reduceNeg, Int.reduceToNat]) | ((first | refine WP.drawW 32 (by decide +kernel) (by kernel_rfl) ?_ | refine WP.drawW 11 (by decide +kernel) (by kernel_rfl) ?_); simp only [go_sem, hli, hre, encI, hn, tyAll, Nat.reduceAdd, Nat.reduceLT, Nat.reduceLeDiff, Nat.reduceEqDiff, Nat.reduceMul, Nat.reduceSub, Nat.reduceGT, reduceIte, Int.reduceNeg, Int.reduceToNat]) |  refine And.intro ?_ ?_ | intro _))
              all_goals first | omega | exact (hIm _ ‹_›).1 | exact (hIm _ ‹_›).2.1 | exact (hIm _ ‹_›).2.2 _ ‹_› | exact g2.trans g1.symm | exact (hBn _ ‹_›).1 | exact (hBn _ ‹_›).2 | exact hIm _ ‹_› | skip
              all_goals trace_state
            rw [if_neg hn] at hes
            obtain ⟨m, hm⟩ : ∃ m : Nat, locI I B E[k] = m := ⟨(locI I B E[k]).toNat, by omega⟩
            have hmI : m < I.length := by omega
            have hmB : m < B.length := by omega
            have hmi : (m : Int) < I.length := by omega
            have hm2 : (m : Int) < 2 := by omega
            have hm0 : ¬ (m : Int) < 0 := by omega
            rw [hm, Int.toNat_natCast, getD_img hmI, getD_int hmB] at hes
            have hrm := rowAt_map encImage I m hmI
            obtain ⟨y1, y2, y3⟩ := hIm _ (List.getElem_mem hmI)
            simp only at y1 y2 y3
            have hgB : B.getD m 0 = B[m] := getD_int hmB 0
            obtain ⟨hs1, hs2⟩ := symI_bd (symHit (E[k] - B[m])) I[m].symbols
            by_cases hz : firstIdx (symHit (E[k] - B[m])) I[m].symbols < 0
            · have hzF : ¬ 0 ≤ firstIdx (symHit (E[k] - B[m])) I[m].symbols := by omega
              rw [decide_eq_false hzF, Bool.false_and] at hes
              rw [hloop k hlt hes.symm]
              (repeat' (first | (refine WP.regionO (id := 19) ?_; simp only [go_sem, hli, hre, encI, hm, hm0, hmi, hm2, l1, hrm, encImage, hz, hgB, lk0, tyAll, Nat.reduceAdd, Nat.reduceLT, Nat.reduceLeDiff, Nat.reduceEqDiff, Nat.reduceMul, Nat.reduceSub, Nat.reduceGT, reduceIte, Int.reduceNeg, Int.reduceToNat]) | refine WP.seq ?_ | refine WP.block ?_ | ((first | refine WP.region ?_ | refine WP.condW ?_ | refine WP.ret ?_ | refine WP.exit ?_ | refine WP.skip ?_); simp only [go_sem, hli, hre, encI, hm, hm0, hmi, hm2, l1, hrm, encImage, hz, hgB, lk0, tyAll, Nat.reduceAdd, Nat.reduceLT, Nat.reduceLeDiff, Nat.reduceEqDiff, Nat.reduceMul, Nat.reduceSub, Nat.reduceGT, reduceIte, Int.reduceNeg, Int.reduceToNat]) | ((first | refine WP.drawW 32 (by decide +kernel) (by kernel_rfl) ?_ | refine WP.drawW 11 (by decide +kernel) (by kernel_rfl) ?_); simp only [go_sem, hli, hre, encI, hm, hm0, hmi, hm2, l1, hrm, encImage, hz, hgB, lk0, tyAll, Nat.reduceAdd, Nat.reduceLT, Nat.reduceLeDiff, Nat.reduceEqDiff, Nat.reduceMul, Nat.reduceSub, Nat.reduceGT, reduceIte, Int.reduceNeg, Int.reduceToNat]) |  refine And.intro ?_ ?_ | intro _))
              all_goals first | omega | exact (hIm _ ‹_›).1 | exact (hIm _ ‹_›).2.1 | exact (hIm _ ‹_›).2.2 _ ‹_› | exact g2.trans g1.symm | exact (hBn _ ‹_›).1 | exact (hBn _ ‹_›).2 | exact hIm _ ‹_› | skip
              all_goals trace_state
            obtain ⟨n, hn2⟩ : ∃ n : Nat, firstIdx (symHit (E[k] - B[m])) I[m].symbols = n := ⟨(firstIdx (symHit (E[k] - B[m])) I[m].symbols).toNat, by omega⟩
            have hnY : n < I[m].symbols.length := by omega
            have hnYi : (n : Int) < I[m].symbols.length := by omega
            have hn0 : ¬ (n : Int) < 0 := by omega
            have hnT : (0 : Int) ≤ (n : Int) := by omega
            rw [hn2, Int.toNat_natCast, decide_eq_true hnT, Bool.true_and, List.getD_eq_getElem?_getD, List.getElem?_eq_getElem hnY, Option.getD_some] at hes
            have hry := rowAt_map encSymbol I[m].symbols n hnY
            by_cases hst2 : I[m].symbols[n].start = E[k] - B[m]
            · rw [decide_eq_true hst2] at hes
              have he := hes.symm
              (repeat' (first | refine WP.seq ?_ | refine WP.block ?_ | ((first | refine WP.region ?_ | refine WP.condW ?_ | refine WP.ret ?_ | refine WP.exit ?_ | refine WP.skip ?_); simp only [go_sem, hli, hre, encI, hm, hm0, hmi, hm2, l1, hrm, encImage, hn2, hn0, hnYi, hry, encSymbol, hst2, hgB, tyAll, Nat.reduceAdd, Nat.reduceLT, Nat.reduceLeDiff, Nat.reduceEqDiff, Nat.reduceMul, Nat.reduceSub, Nat.reduceGT, reduceIte, Int.reduceNeg, Int.reduceToNat]) | ((first | refine WP.drawW 32 (by decide +kernel) (by kernel_rfl) ?_ | refine WP.drawW 11 (by decide +kernel) (by kernel_rfl) ?_); simp only [go_sem, hli, hre, encI, hm, hm0, hmi, hm2, l1, hrm, encImage, hn2, hn0, hnYi, hry, encSymbol, hst2, hgB, tyAll, Nat.reduceAdd, Nat.reduceLT, Nat.reduceLeDiff, Nat.reduceEqDiff, Nat.reduceMul, Nat.reduceSub, Nat.reduceGT, reduceIte, Int.reduceNeg, Int.reduceToNat]) |  refine And.intro ?_ ?_ | intro _))
              all_goals first | omega | exact (hIm _ ‹_›).1 | exact (hIm _ ‹_›).2.1 | exact (hIm _ ‹_›).2.2 _ ‹_› | exact g2.trans g1.symm | exact (hBn _ ‹_›).1 | exact (hBn _ ‹_›).2 | exact hIm _ ‹_› | exact ⟨k + 1, ⟨by omega, fun i hi hik => by
                rcases Nat.lt_or_ge i k with h | h
                · exact hf i hi h
                · have : i = k := by omega
                  subst this; exact he⟩, by omega, by (first | rfl | exact ⟨rfl, rfl⟩ | exact ⟨rfl, rfl, rfl⟩ | exact ⟨rfl, rfl, rfl, rfl⟩ | exact ⟨rfl, rfl, rfl, rfl, rfl⟩ | exact ⟨⟨rfl, rfl⟩, rfl⟩ | simp)⟩ | skip
              all_goals trace_state
            · rw [decide_eq_false hst2] at hes
              rw [hloop k hlt hes.symm]
              (repeat' (first | refine WP.seq ?_ | refine WP.block ?_ | ((first | refine WP.region ?_ | refine WP.condW ?_ | refine WP.ret ?_ | refine WP.exit ?_ | refine WP.skip ?_); simp only [go_sem, hli, hre, encI, hm, hm0, hmi, hm2, l1, hrm, encImage, hn2, hn0, hnYi, hry, encSymbol, hst2, hgB, tyAll, Nat.reduceAdd, Nat.reduceLT, Nat.reduceLeDiff, Nat.reduceEqDiff, Nat.reduceMul, Nat.reduceSub, Nat.reduceGT, reduceIte, Int.reduceNeg, Int.reduceToNat]) | ((first | refine WP.drawW 32 (by decide +kernel) (by kernel_rfl) ?_ | refine WP.drawW 11 (by decide +kernel) (by kernel_rfl) ?_); simp only [go_sem, hli, hre, encI, hm, hm0, hmi, hm2, l1, hrm, encImage, hn2, hn0, hnYi, hry, encSymbol, hst2, hgB, tyAll, Nat.reduceAdd, Nat.reduceLT, Nat.reduceLeDiff, Nat.reduceEqDiff, Nat.reduceMul, Nat.reduceSub, Nat.reduceGT, reduceIte, Int.reduceNeg, Int.reduceToNat]) |  refine And.intro ?_ ?_ | intro _))
              all_goals first | omega | exact (hIm _ ‹_›).1 | exact (hIm _ ‹_›).2.1 | exact (hIm _ ‹_›).2.2 _ ‹_› | exact g2.trans g1.symm | exact (hBn _ ‹_›).1 | exact (hBn _ ‹_›).2 | exact hIm _ ‹_› | skip
              all_goals trace_state
          · have hge2 : ¬ (k : Int) < E.length := by omega
            rw [hyes fun i hi => hf i hi (by omega)]
            (repeat' (first | refine WP.seq ?_ | refine WP.block ?_ | ((first | refine WP.region ?_ | refine WP.condW ?_ | refine WP.ret ?_ | refine WP.exit ?_ | refine WP.skip ?_); simp only [go_sem, hge2, tyAll, Nat.reduceAdd, Nat.reduceLT, Nat.reduceLeDiff, Nat.reduceEqDiff, Nat.reduceMul, Nat.reduceSub, Nat.reduceGT, reduceIte, Int.reduceNeg, Int.reduceToNat]) | ((first | refine WP.drawW 32 (by decide +kernel) (by kernel_rfl) ?_ | refine WP.drawW 11 (by decide +kernel) (by kernel_rfl) ?_); simp only [go_sem, hge2, tyAll, Nat.reduceAdd, Nat.reduceLT, Nat.reduceLeDiff, Nat.reduceEqDiff, Nat.reduceMul, Nat.reduceSub, Nat.reduceGT, reduceIte, Int.reduceNeg, Int.reduceToNat]) |  refine And.intro ?_ ?_ | intro _))
            all_goals first | omega | skip
            all_goals trace_state
      · (repeat' (first | refine WP.seq ?_ | refine WP.block ?_ | ((first | refine WP.region ?_ | refine WP.condW ?_ | refine WP.ret ?_ | refine WP.exit ?_ | refine WP.skip ?_); simp only [go_sem, hge, l1, l2, c02, c12, t1, r0, r1, b0, b1, encImage, encI, v1, tyAll, Nat.reduceAdd, Nat.reduceLT, Nat.reduceLeDiff, Nat.reduceEqDiff, Nat.reduceMul, Nat.reduceSub, Nat.reduceGT, reduceIte, Int.reduceNeg, Int.reduceToNat]) | ((first | refine WP.drawW 32 (by decide +kernel) (by kernel_rfl) ?_ | refine WP.drawW 11 (by decide +kernel) (by kernel_rfl) ?_); simp only [go_sem, hge, l1, l2, c02, c12, t1, r0, r1, b0, b1, encImage, encI, v1, tyAll, Nat.reduceAdd, Nat.reduceLT, Nat.reduceLeDiff, Nat.reduceEqDiff, Nat.reduceMul, Nat.reduceSub, Nat.reduceGT, reduceIte, Int.reduceNeg, Int.reduceToNat]) |  refine And.intro ?_ ?_ | intro _))
        all_goals first | omega | skip
        refine WP.loop (fun k : Nat => ⟨[(1, .ptr 1 0 0 0), (6, .v (.int .i64 k))], [(1, .box 34 [.sl 2 (I.map encImage), .sl 1 (B.map encI), .sl 1 (E.map encI)])]⟩)
          (fun k => k ≤ E.length ∧ ∀ i (hi : i < E.length), i < k → isEnt I B E[i] = true) (fun k => E.length - k) 0 (by simp) ?_ ?_
        · (simp only [go_sem, tyAll, Nat.reduceAdd, Nat.reduceLT, Nat.reduceLeDiff, Nat.reduceEqDiff, Nat.reduceMul, Nat.reduceSub, Nat.reduceGT, reduceIte, Int.reduceNeg, Int.reduceToNat] <;> (first | rfl | exact ⟨rfl, rfl⟩ | exact ⟨rfl, rfl, rfl⟩ | exact ⟨rfl, rfl, rfl, rfl⟩ | exact ⟨rfl, rfl, rfl, rfl, rfl⟩ | exact ⟨⟨rfl, rfl⟩, rfl⟩ | simp))
        intro k ⟨hk, hf⟩
        by_cases hlt : k < E.length
        · have hli : (k : Int) < E.length := by omega
          have hre := rowAt_map encI E k hlt
          have hes := ent_same g1 hi2 ho E[k]
          unfold entS at hes
          obtain ⟨hlo1, hlo2⟩ := locI_bd I B E[k]
          by_cases hn : locI I B E[k] < 0
          · rw [if_pos hn] at hes
            rw [hloop k hlt hes.symm]
            (repeat' (first | refine WP.seq ?_ | refine WP.block ?_ | ((first | refine WP.region ?_ | refine WP.condW ?_ | refine WP.ret ?_ | refine WP.exit ?_ | refine WP.skip ?_); simp only [go_sem, hli, hre, encI, hn, tyAll, Nat.reduceAdd, Nat.reduceLT, Nat.reduceLeDiff, Nat.reduceEqDiff, Nat.reduceMul, Nat.reduceSub, Nat.reduceGT, reduceIte, Int.reduceNeg, Int.reduceToNat]) | ((first | refine WP.drawW 32 (by decide +kernel) (by kernel_rfl) ?_ | refine WP.drawW 11 (by decide +kernel) (by kernel_rfl) ?_); simp only [go_sem, hli, hre, encI, hn, tyAll, Nat.reduceAdd, Nat.reduceLT, Nat.reduceLeDiff, Nat.reduceEqDiff, Nat.reduceMul, Nat.reduceSub, Nat.reduceGT, reduceIte, Int.reduceNeg, Int.reduceToNat]) |  refine And.intro ?_ ?_ | intro _))
            all_goals first | omega | exact (hIm _ ‹_›).1 | exact (hIm _ ‹_›).2.1 | exact (hIm _ ‹_›).2.2 _ ‹_› | exact g2.trans g1.symm | exact (hBn _ ‹_›).1 | exact (hBn _ ‹_›).2 | exact hIm _ ‹_› | skip
            all_goals trace_state
          rw [if_neg hn] at hes
          obtain ⟨m, hm⟩ : ∃ m : Nat, locI I B E[k] = m := ⟨(locI I B E[k]).toNat, by omega⟩
          have hmI : m < I.length := by omega
          have hmB : m < B.length := by omega
          have hmi : (m : Int) < I.length := by omega
          have hm2 : (m : Int) < 2 := by omega
          have hm0 : ¬ (m : Int) < 0 := by omega
          rw [hm, Int.toNat_natCast, getD_img hmI, getD_int hmB] at hes
          have hrm := rowAt_map encImage I m hmI
          obtain ⟨y1, y2, y3⟩ := hIm _ (List.getElem_mem hmI)
          simp only at y1 y2 y3
          have hgB : B.getD m 0 = B[m] := getD_int hmB 0
          obtain ⟨hs1, hs2⟩ := symI_bd (symHit (E[k] - B[m])) I[m].symbols
          by_cases hz : firstIdx (symHit (E[k] - B[m])) I[m].symbols < 0
          · have hzF : ¬ 0 ≤ firstIdx (symHit (E[k] - B[m])) I[m].symbols := by omega
            rw [decide_eq_false hzF, Bool.false_and] at hes
            rw [hloop k hlt hes.symm]
            (repeat' (first | (refine WP.regionO (id := 19) ?_; simp only [go_sem, hli, hre, encI, hm, hm0, hmi, hm2, l1, hrm, encImage, hz, hgB, lk0, tyAll, Nat.reduceAdd, Nat.reduceLT, Nat.reduceLeDiff, Nat.reduceEqDiff, Nat.reduceMul, Nat.reduceSub, Nat.reduceGT, reduceIte, Int.reduceNeg, Int.reduceToNat]) | refine WP.seq ?_ | refine WP.block ?_ | ((first | refine WP.region ?_ | refine WP.condW ?_ | refine WP.ret ?_ | refine WP.exit ?_ | refine WP.skip ?_); simp only [go_sem, hli, hre, encI, hm, hm0, hmi, hm2, l1, hrm, encImage, hz, hgB, lk0, tyAll, Nat.reduceAdd, Nat.reduceLT, Nat.reduceLeDiff, Nat.reduceEqDiff, Nat.reduceMul, Nat.reduceSub, Nat.reduceGT, reduceIte, Int.reduceNeg, Int.reduceToNat]) | ((first | refine WP.drawW 32 (by decide +kernel) (by kernel_rfl) ?_ | refine WP.drawW 11 (by decide +kernel) (by kernel_rfl) ?_); simp only [go_sem, hli, hre, encI, hm, hm0, hmi, hm2, l1, hrm, encImage, hz, hgB, lk0, tyAll, Nat.reduceAdd, Nat.reduceLT, Nat.reduceLeDiff, Nat.reduceEqDiff, Nat.reduceMul, Nat.reduceSub, Nat.reduceGT, reduceIte, Int.reduceNeg, Int.reduceToNat]) |  refine And.intro ?_ ?_ | intro _))
            all_goals first | omega | exact (hIm _ ‹_›).1 | exact (hIm _ ‹_›).2.1 | exact (hIm _ ‹_›).2.2 _ ‹_› | exact g2.trans g1.symm | exact (hBn _ ‹_›).1 | exact (hBn _ ‹_›).2 | exact hIm _ ‹_› | skip
            all_goals trace_state
          obtain ⟨n, hn2⟩ : ∃ n : Nat, firstIdx (symHit (E[k] - B[m])) I[m].symbols = n := ⟨(firstIdx (symHit (E[k] - B[m])) I[m].symbols).toNat, by omega⟩
          have hnY : n < I[m].symbols.length := by omega
          have hnYi : (n : Int) < I[m].symbols.length := by omega
          have hn0 : ¬ (n : Int) < 0 := by omega
          have hnT : (0 : Int) ≤ (n : Int) := by omega
          rw [hn2, Int.toNat_natCast, decide_eq_true hnT, Bool.true_and, List.getD_eq_getElem?_getD, List.getElem?_eq_getElem hnY, Option.getD_some] at hes
          have hry := rowAt_map encSymbol I[m].symbols n hnY
          by_cases hst2 : I[m].symbols[n].start = E[k] - B[m]
          · rw [decide_eq_true hst2] at hes
            have he := hes.symm
            (repeat' (first | refine WP.seq ?_ | refine WP.block ?_ | ((first | refine WP.region ?_ | refine WP.condW ?_ | refine WP.ret ?_ | refine WP.exit ?_ | refine WP.skip ?_); simp only [go_sem, hli, hre, encI, hm, hm0, hmi, hm2, l1, hrm, encImage, hn2, hn0, hnYi, hry, encSymbol, hst2, hgB, tyAll, Nat.reduceAdd, Nat.reduceLT, Nat.reduceLeDiff, Nat.reduceEqDiff, Nat.reduceMul, Nat.reduceSub, Nat.reduceGT, reduceIte, Int.reduceNeg, Int.reduceToNat]) | ((first | refine WP.drawW 32 (by decide +kernel) (by kernel_rfl) ?_ | refine WP.drawW 11 (by decide +kernel) (by kernel_rfl) ?_); simp only [go_sem, hli, hre, encI, hm, hm0, hmi, hm2, l1, hrm, encImage, hn2, hn0, hnYi, hry, encSymbol, hst2, hgB, tyAll, Nat.reduceAdd, Nat.reduceLT, Nat.reduceLeDiff, Nat.reduceEqDiff, Nat.reduceMul, Nat.reduceSub, Nat.reduceGT, reduceIte, Int.reduceNeg, Int.reduceToNat]) |  refine And.intro ?_ ?_ | intro _))
            all_goals first | omega | exact (hIm _ ‹_›).1 | exact (hIm _ ‹_›).2.1 | exact (hIm _ ‹_›).2.2 _ ‹_› | exact g2.trans g1.symm | exact (hBn _ ‹_›).1 | exact (hBn _ ‹_›).2 | exact hIm _ ‹_› | exact ⟨k + 1, ⟨by omega, fun i hi hik => by
              rcases Nat.lt_or_ge i k with h | h
              · exact hf i hi h
              · have : i = k := by omega
                subst this; exact he⟩, by omega, by (first | rfl | exact ⟨rfl, rfl⟩ | exact ⟨rfl, rfl, rfl⟩ | exact ⟨rfl, rfl, rfl, rfl⟩ | exact ⟨rfl, rfl, rfl, rfl, rfl⟩ | exact ⟨⟨rfl, rfl⟩, rfl⟩ | simp)⟩ | skip
            all_goals trace_state
          · rw [decide_eq_false hst2] at hes
            rw [hloop k hlt hes.symm]
            (repeat' (first | refine WP.seq ?_ | refine WP.block ?_ | ((first | refine WP.region ?_ | refine WP.condW ?_ | refine WP.ret ?_ | refine WP.exit ?_ | refine WP.skip ?_); simp only [go_sem, hli, hre, encI, hm, hm0, hmi, hm2, l1, hrm, encImage, hn2, hn0, hnYi, hry, encSymbol, hst2, hgB, tyAll, Nat.reduceAdd, Nat.reduceLT, Nat.reduceLeDiff, Nat.reduceEqDiff, Nat.reduceMul, Nat.reduceSub, Nat.reduceGT, reduceIte, Int.reduceNeg, Int.reduceToNat]) | ((first | refine WP.drawW 32 (by decide +kernel) (by kernel_rfl) ?_ | refine WP.drawW 11 (by decide +kernel) (by kernel_rfl) ?_); simp only [go_sem, hli, hre, encI, hm, hm0, hmi, hm2, l1, hrm, encImage, hn2, hn0, hnYi, hry, encSymbol, hst2, hgB, tyAll, Nat.reduceAdd, Nat.reduceLT, Nat.reduceLeDiff, Nat.reduceEqDiff, Nat.reduceMul, Nat.reduceSub, Nat.reduceGT, reduceIte, Int.reduceNeg, Int.reduceToNat]) |  refine And.intro ?_ ?_ | intro _))
            all_goals first | omega | exact (hIm _ ‹_›).1 | exact (hIm _ ‹_›).2.1 | exact (hIm _ ‹_›).2.2 _ ‹_› | exact g2.trans g1.symm | exact (hBn _ ‹_›).1 | exact (hBn _ ‹_›).2 | exact hIm _ ‹_› | skip
            all_goals trace_state
        · have hge2 : ¬ (k : Int) < E.length := by omega
          rw [hyes fun i hi => hf i hi (by omega)]
          (repeat' (first | refine WP.seq ?_ | refine WP.block ?_ | ((first | refine WP.region ?_ | refine WP.condW ?_ | refine WP.ret ?_ | refine WP.exit ?_ | refine WP.skip ?_); simp only [go_sem, hge2, tyAll, Nat.reduceAdd, Nat.reduceLT, Nat.reduceLeDiff, Nat.reduceEqDiff, Nat.reduceMul, Nat.reduceSub, Nat.reduceGT, reduceIte, Int.reduceNeg, Int.reduceToNat]) | ((first | refine WP.drawW 32 (by decide +kernel) (by kernel_rfl) ?_ | refine WP.drawW 11 (by decide +kernel) (by kernel_rfl) ?_); simp only [go_sem, hge2, tyAll, Nat.reduceAdd, Nat.reduceLT, Nat.reduceLeDiff, Nat.reduceEqDiff, Nat.reduceMul, Nat.reduceSub, Nat.reduceGT, reduceIte, Int.reduceNeg, Int.reduceToNat]) |  refine And.intro ?_ ?_ | intro _))
          all_goals first | omega | skip
          all_goals trace_state
end
end
section
open Go.Vc
set_option linter.unusedSimpArgs false
set_option linter.unusedVariables false
set_option maxHeartbeats 1000000
set_option maxRecDepth 10000
attribute [local irreducible] Go.Vc.WP
attribute [local go_sem] cx0_t cx0_c
structure Tm where
  period : Int
  spread : Int
  left : Int
  state : Int
deriving DecidableEq
def encTm (x : Tm) : List SV := [.v (.int .i64 x.period), .v (.int .i64 x.spread), .v (.int .i64 x.left), .v (.int .i64 x.state)]
def tmA (args : List SV) (i : Nat) : Tm := match args[i]? with
  | some (.agg [.v (.int _ a), .v (.int _ b), .v (.int _ c), .v (.int _ d)]) => ⟨a, b, c, d⟩
  | _ => ⟨0, 0, 0, 0⟩
theorem tm_eta (x : Tm) : (⟨x.period, x.spread, x.left, x.state⟩ : Tm) = x := rfl
attribute [local go_sem] tmA tm_eta
def tmOk (x : Tm) : Bool := decide ((1 ≤ x.period ∧ x.period ≤ 10000) ∧ (0 ≤ x.spread ∧ x.spread ≤ 100) ∧ (1 ≤ x.left ∧ x.left ≤ x.period + x.spread) ∧ 0 ≤ x.state ∧ x.state ≤ 65535)
def kTmOk : Ctr := pur (fun args => tmA args 0) (fun x => [.agg [.v (.int .i64 x.period), .v (.int .i64 x.spread), .v (.int .i64 x.left), .v (.int .i64 x.state)]]) (fun _ => True) (fun _ x => .v (.bool (tmOk x))) (fun _ _ => [])
section
noncomputable def cxTmS : Cx := { P := Try.prog, tys := tys, C := [(39, k60)], hty := tysOk, hC := COk.cons c58 (COk.nil _) }
theorem cxTmS_t : cxTmS.tys = tys := rfl
theorem cxTmS_c : cxTmS.C = [(39, k60)] := rfl
attribute [local go_sem] cxTmS_t cxTmS_c k60
theorem cTmOkS : Cn Try.prog 37 kTmOk := by
  refine Cn.pur Try.func37 (by kernel_rfl) rfl fun d x hx => ?_
  obtain ⟨p, s, l, t⟩ := x
  simp only
  refine Holds.go (c := cxTmS) Try.func37 rfl Try.results37 Try.ntmps37 (by omega) (by simp) rfl ?_
  intro X0 w0
  have e : tmOk ⟨p, s, l, t⟩ = (decide (1 ≤ p) && decide (p ≤ 10000) && (decide (0 ≤ s) && decide (s ≤ 100)) && (decide (1 ≤ l) && decide (l ≤ p + s)) && (decide (0 ≤ t) && decide (t ≤ 65535))) := by
    unfold tmOk
    rw [Bool.eq_iff_iff]
    simp only [decide_eq_true_eq, Bool.and_eq_true]
    omega
  by_cases h1 : 1 ≤ p ∧ p ≤ 10000
  · by_cases h2 : 0 ≤ s ∧ s ≤ 100
    · (repeat' (first | refine WP.seq ?_ | refine WP.block ?_ | ((first | refine WP.region ?_ | refine WP.condW ?_ | refine WP.ret ?_ | refine WP.exit ?_ | refine WP.skip ?_); simp only [go_sem, e, tyAll, Nat.reduceAdd, Nat.reduceLT, Nat.reduceLeDiff, Nat.reduceEqDiff, Nat.reduceMul, Nat.reduceSub, Nat.reduceGT, reduceIte, Int.reduceNeg, Int.reduceToNat]) |  refine And.intro ?_ ?_ | intro _))
      all_goals first | omega | exact ⟨_, _, rfl, _, _, rfl, rfl⟩ | skip
      all_goals trace_state
    · (repeat' (first | refine WP.seq ?_ | refine WP.block ?_ | ((first | refine WP.region ?_ | refine WP.condW ?_ | refine WP.ret ?_ | refine WP.exit ?_ | refine WP.skip ?_); simp only [go_sem, e, tyAll, Nat.reduceAdd, Nat.reduceLT, Nat.reduceLeDiff, Nat.reduceEqDiff, Nat.reduceMul, Nat.reduceSub, Nat.reduceGT, reduceIte, Int.reduceNeg, Int.reduceToNat]) |  refine And.intro ?_ ?_ | intro _))
      all_goals first | omega | exact ⟨_, _, rfl, _, _, rfl, rfl⟩ | skip
      all_goals trace_state
  · (repeat' (first | refine WP.seq ?_ | refine WP.block ?_ | ((first | refine WP.region ?_ | refine WP.condW ?_ | refine WP.ret ?_ | refine WP.exit ?_ | refine WP.skip ?_); simp only [go_sem, e, tyAll, Nat.reduceAdd, Nat.reduceLT, Nat.reduceLeDiff, Nat.reduceEqDiff, Nat.reduceMul, Nat.reduceSub, Nat.reduceGT, reduceIte, Int.reduceNeg, Int.reduceToNat]) |  refine And.intro ?_ ?_ | intro _))
    all_goals first | omega | exact ⟨_, _, rfl, _, _, rfl, rfl⟩ | skip
    all_goals trace_state
end
section
noncomputable def cxTmI : Cx := { P := Try.prog, tys := tys, C := [(48, k60)], hty := tysOk, hC := COk.cons c60 (COk.nil _) }
theorem cxTmI_t : cxTmI.tys = tys := rfl
theorem cxTmI_c : cxTmI.C = [(48, k60)] := rfl
attribute [local go_sem] cxTmI_t cxTmI_c k60
theorem cTmOkI : Cn Try.prog 46 kTmOk := by
  refine Cn.pur Try.func46 (by kernel_rfl) rfl fun d x hx => ?_
  obtain ⟨p, s, l, t⟩ := x
  simp only
  refine Holds.go (c := cxTmI) Try.func46 rfl Try.results46 Try.ntmps46 (by omega) (by simp) rfl ?_
  intro X0 w0
  have e : tmOk ⟨p, s, l, t⟩ = (decide (1 ≤ p) && decide (p ≤ 10000) && (decide (0 ≤ s) && decide (s ≤ 100)) && (decide (1 ≤ l) && decide (l ≤ p + s)) && (decide (0 ≤ t) && decide (t ≤ 65535))) := by
    unfold tmOk
    rw [Bool.eq_iff_iff]
    simp only [decide_eq_true_eq, Bool.and_eq_true]
    omega
  by_cases h1 : 1 ≤ p ∧ p ≤ 10000
  · by_cases h2 : 0 ≤ s ∧ s ≤ 100
    · (repeat' (first | refine WP.seq ?_ | refine WP.block ?_ | ((first | refine WP.region ?_ | refine WP.condW ?_ | refine WP.ret ?_ | refine WP.exit ?_ | refine WP.skip ?_); simp only [go_sem, e, tyAll, Nat.reduceAdd, Nat.reduceLT, Nat.reduceLeDiff, Nat.reduceEqDiff, Nat.reduceMul, Nat.reduceSub, Nat.reduceGT, reduceIte, Int.reduceNeg, Int.reduceToNat]) |  refine And.intro ?_ ?_ | intro _))
      all_goals first | omega | exact ⟨_, _, rfl, _, _, rfl, rfl⟩ | skip
      all_goals trace_state
    · (repeat' (first | refine WP.seq ?_ | refine WP.block ?_ | ((first | refine WP.region ?_ | refine WP.condW ?_ | refine WP.ret ?_ | refine WP.exit ?_ | refine WP.skip ?_); simp only [go_sem, e, tyAll, Nat.reduceAdd, Nat.reduceLT, Nat.reduceLeDiff, Nat.reduceEqDiff, Nat.reduceMul, Nat.reduceSub, Nat.reduceGT, reduceIte, Int.reduceNeg, Int.reduceToNat]) |  refine And.intro ?_ ?_ | intro _))
      all_goals first | omega | exact ⟨_, _, rfl, _, _, rfl, rfl⟩ | skip
      all_goals trace_state
  · (repeat' (first | refine WP.seq ?_ | refine WP.block ?_ | ((first | refine WP.region ?_ | refine WP.condW ?_ | refine WP.ret ?_ | refine WP.exit ?_ | refine WP.skip ?_); simp only [go_sem, e, tyAll, Nat.reduceAdd, Nat.reduceLT, Nat.reduceLeDiff, Nat.reduceEqDiff, Nat.reduceMul, Nat.reduceSub, Nat.reduceGT, reduceIte, Int.reduceNeg, Int.reduceToNat]) |  refine And.intro ?_ ?_ | intro _))
    all_goals first | omega | exact ⟨_, _, rfl, _, _, rfl, rfl⟩ | skip
    all_goals trace_state
end
end
section
open Go.Vc
set_option linter.unusedSimpArgs false
set_option linter.unusedVariables false
set_option maxHeartbeats 1000000
set_option maxRecDepth 10000
attribute [local irreducible] Go.Vc.WP
attribute [local go_sem] cx0_t cx0_c
open Go.Pl
attribute [local go_sem] decI_enc decImage_enc spA decS_enc tmA tm_eta
structure Mach where
  pc : Int
  sp : Int
  fp : Int
  stack : List Int
  out : List Int
  state : Int
  value : Int
deriving DecidableEq
def encMach (x : Mach) : List SV := [.v (.int .i64 x.pc), .v (.int .i64 x.sp), .v (.int .i64 x.fp), .sl 1 (x.stack.map encI), .sl 1 (x.out.map encI), .v (.int .i64 x.state), .v (.int .i64 x.value)]
def oneMach : List SV → Mach
  | [.v (.int _ a), .v (.int _ b), .v (.int _ c), .sl _ s, .sl _ o, .v (.int _ d), .v (.int _ e)] => ⟨a, b, c, decI s, decI o, d, e⟩
  | _ => ⟨0, 0, 0, [], [], 0, 0⟩
def decMach (rows : List (List SV)) : List Mach := rows.map oneMach
theorem oneMach_enc (x : Mach) : oneMach (encMach x) = x := by
  unfold oneMach encMach
  simp only [decI_enc]
theorem decMach_enc (L : List Mach) : decMach (L.map encMach) = L := by
  unfold decMach
  rw [List.map_map]
  exact List.map_id'' oneMach_enc L
theorem oneMach_f (a b c : Int) (s o : List Int) (d e : Int) : oneMach [.v (.int .i64 a), .v (.int .i64 b), .v (.int .i64 c), .sl 1 (s.map encI), .sl 1 (o.map encI), .v (.int .i64 d), .v (.int .i64 e)] = ⟨a, b, c, s, o, d, e⟩ := oneMach_enc ⟨a, b, c, s, o, d, e⟩
theorem mach_eta (x : Mach) : (⟨x.pc, x.sp, x.fp, x.stack, x.out, x.state, x.value⟩ : Mach) = x := rfl
attribute [local go_sem] decMach_enc oneMach_f mach_eta
def machOk (x : Mach) : Bool := decide (x.stack.length = 1200 ∧ (0 ≤ x.sp ∧ x.sp ≤ 1200) ∧ 0 ≤ x.state ∧ x.state ≤ 2)
def kMachOk : Ctr := pur (fun args => oneMach (aC args 0)) (fun x => [.agg [.v (.int .i64 x.pc), .v (.int .i64 x.sp), .v (.int .i64 x.fp), .sl 1 (x.stack.map encI), .sl 1 (x.out.map encI), .v (.int .i64 x.state), .v (.int .i64 x.value)]]) (fun x => x.stack.length ≤ 4194304) (fun _ x => .v (.bool (machOk x))) (fun _ _ => [])
section
noncomputable def cxMoI : Cx := { P := Try.prog, tys := tys, C := [(48, k60)], hty := tysOk, hC := COk.cons c60 (COk.nil _) }
theorem cxMoI_t : cxMoI.tys = tys := rfl
theorem cxMoI_c : cxMoI.C = [(48, k60)] := rfl
attribute [local go_sem] cxMoI_t cxMoI_c k60
theorem cMachOkI : Cn Try.prog 67 kMachOk := by
  refine Cn.pur Try.func67 (by kernel_rfl) rfl fun d x hx => ?_
  obtain ⟨a, b, c, s, o, d2, e2⟩ := x
  simp only at hx ⊢
  have e : machOk ⟨a, b, c, s, o, d2, e2⟩ = (((s.length : Int) == 1200) && (decide (0 ≤ b) && decide (b ≤ 1200)) && (decide (0 ≤ d2) && decide (d2 ≤ 2))) := by
    unfold machOk
    rw [Bool.eq_iff_iff]
    simp only [decide_eq_true_eq, Bool.and_eq_true, beq_iff_eq]
    omega
  rw [e]
  refine Holds.go (c := cxMoI) Try.func67 rfl Try.results67 Try.ntmps67 (by omega) (by simp) rfl ?_
  intro X0 w0
  by_cases h : (s.length : Int) = 1200
  · (repeat' (first | refine WP.seq ?_ | refine WP.block ?_ | ((first | refine WP.region ?_ | refine WP.condW ?_ | refine WP.ret ?_ | refine WP.exit ?_ | refine WP.skip ?_); simp only [go_sem, h, tyAll, Nat.reduceAdd, Nat.reduceLT, Nat.reduceLeDiff, Nat.reduceEqDiff, Nat.reduceMul, Nat.reduceSub, Nat.reduceGT, reduceIte, Int.reduceNeg, Int.reduceToNat]) |  refine And.intro ?_ ?_ | intro _))
    all_goals first | omega | rfl | skip
    all_goals trace_state
  · have h' : ((s.length : Int) == 1200) = false := beq_eq_false_iff_ne.2 h
    rw [h', Bool.false_and, Bool.false_and]
    (repeat' (first | refine WP.seq ?_ | refine WP.block ?_ | ((first | refine WP.region ?_ | refine WP.condW ?_ | refine WP.ret ?_ | refine WP.exit ?_ | refine WP.skip ?_); simp only [go_sem, h, tyAll, Nat.reduceAdd, Nat.reduceLT, Nat.reduceLeDiff, Nat.reduceEqDiff, Nat.reduceMul, Nat.reduceSub, Nat.reduceGT, reduceIte, Int.reduceNeg, Int.reduceToNat]) |  refine And.intro ?_ ?_ | intro _))
    all_goals first | omega | rfl | (simp only [h', Bool.false_and]; done) | skip
    all_goals trace_state
end
section
noncomputable def cxMoS : Cx := { P := Try.prog, tys := tys, C := [(39, k60)], hty := tysOk, hC := COk.cons c58 (COk.nil _) }
theorem cxMoS_t : cxMoS.tys = tys := rfl
theorem cxMoS_c : cxMoS.C = [(39, k60)] := rfl
attribute [local go_sem] cxMoS_t cxMoS_c k60
theorem cMachOkS : Cn Try.prog 63 kMachOk := by
  refine Cn.pur Try.func63 (by kernel_rfl) rfl fun d x hx => ?_
  obtain ⟨a, b, c, s, o, d2, e2⟩ := x
  simp only at hx ⊢
  have e : machOk ⟨a, b, c, s, o, d2, e2⟩ = (((s.length : Int) == 1200) && (decide (0 ≤ b) && decide (b ≤ 1200)) && (decide (0 ≤ d2) && decide (d2 ≤ 2))) := by
    unfold machOk
    rw [Bool.eq_iff_iff]
    simp only [decide_eq_true_eq, Bool.and_eq_true, beq_iff_eq]
    omega
  rw [e]
  refine Holds.go (c := cxMoS) Try.func63 rfl Try.results63 Try.ntmps63 (by omega) (by simp) rfl ?_
  intro X0 w0
  by_cases h : (s.length : Int) = 1200
  · (repeat' (first | refine WP.seq ?_ | refine WP.block ?_ | ((first | refine WP.region ?_ | refine WP.condW ?_ | refine WP.ret ?_ | refine WP.exit ?_ | refine WP.skip ?_); simp only [go_sem, h, tyAll, Nat.reduceAdd, Nat.reduceLT, Nat.reduceLeDiff, Nat.reduceEqDiff, Nat.reduceMul, Nat.reduceSub, Nat.reduceGT, reduceIte, Int.reduceNeg, Int.reduceToNat]) |  refine And.intro ?_ ?_ | intro _))
    all_goals first | omega | rfl | skip
    all_goals trace_state
  · have h' : ((s.length : Int) == 1200) = false := beq_eq_false_iff_ne.2 h
    rw [h', Bool.false_and, Bool.false_and]
    (repeat' (first | refine WP.seq ?_ | refine WP.block ?_ | ((first | refine WP.region ?_ | refine WP.condW ?_ | refine WP.ret ?_ | refine WP.exit ?_ | refine WP.skip ?_); simp only [go_sem, h, tyAll, Nat.reduceAdd, Nat.reduceLT, Nat.reduceLeDiff, Nat.reduceEqDiff, Nat.reduceMul, Nat.reduceSub, Nat.reduceGT, reduceIte, Int.reduceNeg, Int.reduceToNat]) |  refine And.intro ?_ ?_ | intro _))
    all_goals first | omega | rfl | (simp only [h', Bool.false_and]; done) | skip
    all_goals trace_state
end
abbrev PcX := (List Image × List Int × List Int) × List Mach × Int × Int × Int
def pcA (args : List SV) (i : Nat) : PcX := match args[i]? with
  | some (.agg [.sl _ a, .sl _ b, .sl _ c, .sl _ t, .v (.int _ x), .v (.int _ y), .v (.int _ z)]) => ((decImage a, decI b, decI c), decMach t, x, y, z)
  | _ => (([], [], []), [], 0, 0, 0)
attribute [local go_sem] pcA
def procOk (x : PcX) : Bool := spaceOk x.1.1 x.1.2.1 x.1.2.2 && decide ((1 ≤ x.2.1.length ∧ x.2.1.length ≤ 3) ∧ (0 ≤ x.2.2.1 ∧ x.2.2.1 ≤ (x.2.1.length : Int) - 1) ∧ (1 ≤ x.2.2.2.2 ∧ x.2.2.2.2 ≤ 1000) ∧ 1 ≤ x.2.2.2.1 ∧ x.2.2.2.1 ≤ x.2.2.2.2) && x.2.1.all machOk
def prePc (x : PcX) : Prop := preSp x.1 ∧ x.2.1.length ≤ 4194304 ∧ ∀ m ∈ x.2.1, m.stack.length ≤ 4194304
def kPcOk : Ctr := pur (fun args => pcA args 0) (fun x => [.agg [.sl 2 (x.1.1.map encImage), .sl 1 (x.1.2.1.map encI), .sl 1 (x.1.2.2.map encI), .sl 7 (x.2.1.map encMach), .v (.int .i64 x.2.2.1), .v (.int .i64 x.2.2.2.1), .v (.int .i64 x.2.2.2.2)]]) prePc (fun _ x => .v (.bool (procOk x))) (fun _ _ => [])
section
noncomputable def cxPoI : Cx := { P := Try.prog, tys := tys, C := [(48, k60), (66, kSpOk), (67, kMachOk)], hty := tysOk, hC := COk.cons c60 (COk.cons cSpOkI (COk.cons cMachOkI (COk.nil _))) }
theorem cxPoI_t : cxPoI.tys = tys := rfl
theorem cxPoI_c : cxPoI.C = [(48, k60), (66, kSpOk), (67, kMachOk)] := rfl
attribute [local go_sem] cxPoI_t cxPoI_c k60 kSpOk kMachOk
set_option maxHeartbeats 3000000 in
theorem cPcOkI : Cn Try.prog 45 kPcOk := by
  refine Cn.pur Try.func45 (by kernel_rfl) rfl fun d x hx => ?_
  obtain ⟨⟨I, B, E⟩, T, tu, le, sl⟩ := x
  obtain ⟨hsp, hT, hTs⟩ := hx
  have hsp2 := hsp
  obtain ⟨⟨hI, hIm⟩, hB, hE⟩ := hsp2
  simp only at hT hTs hI hIm hB hE ⊢
  have mod : procOk ((I, B, E), T, tu, le, sl) = (spaceOk I B E && decide ((1 ≤ T.length ∧ T.length ≤ 3) ∧ (0 ≤ tu ∧ tu ≤ (T.length : Int) - 1) ∧ (1 ≤ sl ∧ sl ≤ 1000) ∧ 1 ≤ le ∧ le ≤ sl) && T.all machOk) := rfl
  rw [mod]
  refine Holds.go (c := cxPoI) Try.func45 rfl Try.results45 Try.ntmps45 (by omega) (by simp) rfl ?_
  intro X0 w0
  cases hso : spaceOk I B E with
  | false =>
    (repeat' (first | refine WP.seq ?_ | refine WP.block ?_ | ((first | refine WP.region ?_ | refine WP.condW ?_ | refine WP.ret ?_ | refine WP.exit ?_ | refine WP.skip ?_); simp only [go_sem, hso, tyAll, Nat.reduceAdd, Nat.reduceLT, Nat.reduceLeDiff, Nat.reduceEqDiff, Nat.reduceMul, Nat.reduceSub, Nat.reduceGT, reduceIte, Int.reduceNeg, Int.reduceToNat]) |  refine And.intro ?_ ?_ | intro _))
    all_goals first | omega | exact hIm _ ‹_› | exact (hIm _ ‹_›).1 | exact (hIm _ ‹_›).2.1 | exact (hIm _ ‹_›).2.2 _ ‹_› | rfl | skip
    all_goals trace_state
  | true =>
  by_cases hc : (1 ≤ T.length ∧ T.length ≤ 3) ∧ (0 ≤ tu ∧ tu ≤ (T.length : Int) - 1) ∧ (1 ≤ sl ∧ sl ≤ 1000) ∧ 1 ≤ le ∧ le ≤ sl
  rotate_left
  · rw [decide_eq_false hc, Bool.and_false, Bool.false_and]
    by_cases c1 : ((1 : Int) ≤ T.length ∧ (T.length : Int) ≤ 3)
    · by_cases c2 : 0 ≤ tu ∧ tu ≤ (T.length : Int) - 1
      · by_cases c3 : 1 ≤ sl ∧ sl ≤ 1000
        · have c4 : (decide (1 ≤ le) && decide (le ≤ sl)) = false := by rw [← Bool.decide_and]; exact decide_eq_false fun h => hc ⟨by omega, c2, c3, h⟩
          (repeat' (first | refine WP.seq ?_ | refine WP.block ?_ | ((first | refine WP.region ?_ | refine WP.condW ?_ | refine WP.ret ?_ | refine WP.exit ?_ | refine WP.skip ?_); simp only [go_sem, hso, c1, c2, c3, c4, tyAll, Nat.reduceAdd, Nat.reduceLT, Nat.reduceLeDiff, Nat.reduceEqDiff, Nat.reduceMul, Nat.reduceSub, Nat.reduceGT, reduceIte, Int.reduceNeg, Int.reduceToNat]) |  refine And.intro ?_ ?_ | intro _))
          all_goals first | omega | exact hIm _ ‹_› | exact (hIm _ ‹_›).1 | exact (hIm _ ‹_›).2.1 | exact (hIm _ ‹_›).2.2 _ ‹_› | rfl | skip
          all_goals trace_state
        · have c3' : (decide (1 ≤ sl) && decide (sl ≤ 1000)) = false := by rw [← Bool.decide_and]; exact decide_eq_false c3
          (repeat' (first | refine WP.seq ?_ | refine WP.block ?_ | ((first | refine WP.region ?_ | refine WP.condW ?_ | refine WP.ret ?_ | refine WP.exit ?_ | refine WP.skip ?_); simp only [go_sem, hso, c1, c2, c3', tyAll, Nat.reduceAdd, Nat.reduceLT, Nat.reduceLeDiff, Nat.reduceEqDiff, Nat.reduceMul, Nat.reduceSub, Nat.reduceGT, reduceIte, Int.reduceNeg, Int.reduceToNat]) |  refine And.intro ?_ ?_ | intro _))
          all_goals first | omega | exact hIm _ ‹_› | exact (hIm _ ‹_›).1 | exact (hIm _ ‹_›).2.1 | exact (hIm _ ‹_›).2.2 _ ‹_› | rfl | skip
          all_goals trace_state
      · have c2' : (decide (0 ≤ tu) && decide (tu ≤ (T.length : Int) - 1)) = false := by rw [← Bool.decide_and]; exact decide_eq_false c2
        (repeat' (first | refine WP.seq ?_ | refine WP.block ?_ | ((first | refine WP.region ?_ | refine WP.condW ?_ | refine WP.ret ?_ | refine WP.exit ?_ | refine WP.skip ?_); simp only [go_sem, hso, c1, c2', tyAll, Nat.reduceAdd, Nat.reduceLT, Nat.reduceLeDiff, Nat.reduceEqDiff, Nat.reduceMul, Nat.reduceSub, Nat.reduceGT, reduceIte, Int.reduceNeg, Int.reduceToNat]) |  refine And.intro ?_ ?_ | intro _))
        all_goals first | omega | exact hIm _ ‹_› | exact (hIm _ ‹_›).1 | exact (hIm _ ‹_›).2.1 | exact (hIm _ ‹_›).2.2 _ ‹_› | rfl | skip
        all_goals trace_state
    · have c1' : (decide ((1 : Int) ≤ T.length) && decide ((T.length : Int) ≤ 3)) = false := by rw [← Bool.decide_and]; exact decide_eq_false c1
      (repeat' (first | refine WP.seq ?_ | refine WP.block ?_ | ((first | refine WP.region ?_ | refine WP.condW ?_ | refine WP.ret ?_ | refine WP.exit ?_ | refine WP.skip ?_); simp only [go_sem, hso, c1', tyAll, Nat.reduceAdd, Nat.reduceLT, Nat.reduceLeDiff, Nat.reduceEqDiff, Nat.reduceMul, Nat.reduceSub, Nat.reduceGT, reduceIte, Int.reduceNeg, Int.reduceToNat]) |  refine And.intro ?_ ?_ | intro _))
      all_goals first | omega | exact hIm _ ‹_› | exact (hIm _ ‹_›).1 | exact (hIm _ ‹_›).2.1 | exact (hIm _ ‹_›).2.2 _ ‹_› | rfl | skip
      all_goals trace_state
  rw [decide_eq_true hc, Bool.and_true, Bool.true_and]
  obtain ⟨⟨a1, a2⟩, ⟨a3, a4⟩, ⟨a5, a6⟩, a7, a8⟩ := hc
  have a1i : (1 : Int) ≤ T.length := by omega
  have a2i : (T.length : Int) ≤ 3 := by omega
  (repeat' (first | refine WP.seq ?_ | refine WP.block ?_ | ((first | refine WP.region ?_ | refine WP.condW ?_ | refine WP.ret ?_ | refine WP.exit ?_ | refine WP.skip ?_); simp only [go_sem, hso, a1i, a2i, a3, a4, a5, a6, a7, a8, tyAll, Nat.reduceAdd, Nat.reduceLT, Nat.reduceLeDiff, Nat.reduceEqDiff, Nat.reduceMul, Nat.reduceSub, Nat.reduceGT, reduceIte, Int.reduceNeg, Int.reduceToNat]) |  refine And.intro ?_ ?_ | intro _))
  all_goals first | omega | exact hIm _ ‹_› | exact (hIm _ ‹_›).1 | exact (hIm _ ‹_›).2.1 | exact (hIm _ ‹_›).2.2 _ ‹_› | skip
  refine WP.loop (fun k : Nat => ⟨[(41, .sl 7 (T.map encMach)), (42, .v (.int .i64 T.length)), (43, .v (.int .i64 k))], []⟩)
    (fun k => k ≤ T.length ∧ ∀ i (hi : i < T.length), i < k → machOk T[i] = true) (fun k => T.length - k) 0 (by simp) ?_ ?_
  · (simp only [go_sem, tyAll, Nat.reduceAdd, Nat.reduceLT, Nat.reduceLeDiff, Nat.reduceEqDiff, Nat.reduceMul, Nat.reduceSub, Nat.reduceGT, reduceIte, Int.reduceNeg, Int.reduceToNat] <;> (first | rfl | exact ⟨rfl, rfl⟩ | exact ⟨rfl, rfl, rfl⟩ | exact ⟨rfl, rfl, rfl, rfl⟩ | exact ⟨rfl, rfl, rfl, rfl, rfl⟩ | exact ⟨⟨rfl, rfl⟩, rfl⟩ | simp))
  intro k ⟨hk, hf⟩
  by_cases hlt : k < T.length
  · have hli : (k : Int) < T.length := by omega
    have hr := rowAt_map encMach T k hlt
    have hst := hTs _ (List.getElem_mem hlt)
    cases hm : machOk T[k] with
    | false =>
      have ha : T.all machOk = false := List.all_eq_false.2 ⟨_, List.getElem_mem hlt, by rw [hm]; simp⟩
      rw [ha]
      (repeat' (first | refine WP.seq ?_ | refine WP.block ?_ | ((first | refine WP.region ?_ | refine WP.condW ?_ | refine WP.ret ?_ | refine WP.exit ?_ | refine WP.skip ?_); simp only [go_sem, hli, hr, encMach, hm, tyAll, Nat.reduceAdd, Nat.reduceLT, Nat.reduceLeDiff, Nat.reduceEqDiff, Nat.reduceMul, Nat.reduceSub, Nat.reduceGT, reduceIte, Int.reduceNeg, Int.reduceToNat]) |  refine And.intro ?_ ?_ | intro _))
      all_goals first | omega | skip
      all_goals trace_state
    | true =>
      (repeat' (first | refine WP.seq ?_ | refine WP.block ?_ | ((first | refine WP.region ?_ | refine WP.condW ?_ | refine WP.ret ?_ | refine WP.exit ?_ | refine WP.skip ?_); simp only [go_sem, hli, hr, encMach, hm, tyAll, Nat.reduceAdd, Nat.reduceLT, Nat.reduceLeDiff, Nat.reduceEqDiff, Nat.reduceMul, Nat.reduceSub, Nat.reduceGT, reduceIte, Int.reduceNeg, Int.reduceToNat]) |  refine And.intro ?_ ?_ | intro _))
      all_goals first | omega | exact ⟨k + 1, ⟨by omega, fun i hi hik => by
        rcases Nat.lt_or_ge i k with h | h
        · exact hf i hi h
        · have : i = k := by omega
          subst this; exact hm⟩, by omega, by (first | rfl | exact ⟨rfl, rfl⟩ | exact ⟨rfl, rfl, rfl⟩ | exact ⟨rfl, rfl, rfl, rfl⟩ | exact ⟨rfl, rfl, rfl, rfl, rfl⟩ | exact ⟨⟨rfl, rfl⟩, rfl⟩ | simp)⟩ | skip
      all_goals trace_state
  · have hge : ¬ (k : Int) < T.length := by omega
    have ha : T.all machOk = true := List.all_eq_true.2 fun m hm => by
      obtain ⟨i, hi, rfl⟩ := List.mem_iff_getElem.1 hm
      exact hf i hi (by omega)
    rw [ha]
    (repeat' (first | refine WP.seq ?_ | refine WP.block ?_ | ((first | refine WP.region ?_ | refine WP.condW ?_ | refine WP.ret ?_ | refine WP.exit ?_ | refine WP.skip ?_); simp only [go_sem, hge, tyAll, Nat.reduceAdd, Nat.reduceLT, Nat.reduceLeDiff, Nat.reduceEqDiff, Nat.reduceMul, Nat.reduceSub, Nat.reduceGT, reduceIte, Int.reduceNeg, Int.reduceToNat]) |  refine And.intro ?_ ?_ | intro _))
    all_goals first | omega | skip
    all_goals trace_state
end
section
noncomputable def cxPoS : Cx := { P := Try.prog, tys := tys, C := [(39, k60), (62, kSpOk), (63, kMachOk)], hty := tysOk, hC := COk.cons c58 (COk.cons cSpOkS (COk.cons cMachOkS (COk.nil _))) }
theorem cxPoS_t : cxPoS.tys = tys := rfl
theorem cxPoS_c : cxPoS.C = [(39, k60), (62, kSpOk), (63, kMachOk)] := rfl
attribute [local go_sem] cxPoS_t cxPoS_c k60 kSpOk kMachOk
set_option maxHeartbeats 3000000 in
theorem cPcOkS : Cn Try.prog 36 kPcOk := by
  refine Cn.pur Try.func36 (by kernel_rfl) rfl fun d x hx => ?_
  obtain ⟨⟨I, B, E⟩, T, tu, le, sl⟩ := x
  obtain ⟨hsp, hT, hTs⟩ := hx
  have hsp2 := hsp
  obtain ⟨⟨hI, hIm⟩, hB, hE⟩ := hsp2
  simp only at hT hTs hI hIm hB hE ⊢
  have mod : procOk ((I, B, E), T, tu, le, sl) = (spaceOk I B E && decide ((1 ≤ T.length ∧ T.length ≤ 3) ∧ (0 ≤ tu ∧ tu ≤ (T.length : Int) - 1) ∧ (1 ≤ sl ∧ sl ≤ 1000) ∧ 1 ≤ le ∧ le ≤ sl) && T.all machOk) := rfl
  rw [mod]
  refine Holds.go (c := cxPoS) Try.func36 rfl Try.results36 Try.ntmps36 (by omega) (by simp) rfl ?_
  intro X0 w0
  cases hso : spaceOk I B E with
  | false =>
    (repeat' (first | refine WP.seq ?_ | refine WP.block ?_ | ((first | refine WP.region ?_ | refine WP.condW ?_ | refine WP.ret ?_ | refine WP.exit ?_ | refine WP.skip ?_); simp only [go_sem, hso, tyAll, Nat.reduceAdd, Nat.reduceLT, Nat.reduceLeDiff, Nat.reduceEqDiff, Nat.reduceMul, Nat.reduceSub, Nat.reduceGT, reduceIte, Int.reduceNeg, Int.reduceToNat]) |  refine And.intro ?_ ?_ | intro _))
    all_goals first | omega | exact hIm _ ‹_› | exact (hIm _ ‹_›).1 | exact (hIm _ ‹_›).2.1 | exact (hIm _ ‹_›).2.2 _ ‹_› | rfl | skip
    all_goals trace_state
  | true =>
  by_cases hc : (1 ≤ T.length ∧ T.length ≤ 3) ∧ (0 ≤ tu ∧ tu ≤ (T.length : Int) - 1) ∧ (1 ≤ sl ∧ sl ≤ 1000) ∧ 1 ≤ le ∧ le ≤ sl
  rotate_left
  · rw [decide_eq_false hc, Bool.and_false, Bool.false_and]
    by_cases c1 : ((1 : Int) ≤ T.length ∧ (T.length : Int) ≤ 3)
    · by_cases c2 : 0 ≤ tu ∧ tu ≤ (T.length : Int) - 1
      · by_cases c3 : 1 ≤ sl ∧ sl ≤ 1000
        · have c4 : (decide (1 ≤ le) && decide (le ≤ sl)) = false := by rw [← Bool.decide_and]; exact decide_eq_false fun h => hc ⟨by omega, c2, c3, h⟩
          (repeat' (first | refine WP.seq ?_ | refine WP.block ?_ | ((first | refine WP.region ?_ | refine WP.condW ?_ | refine WP.ret ?_ | refine WP.exit ?_ | refine WP.skip ?_); simp only [go_sem, hso, c1, c2, c3, c4, tyAll, Nat.reduceAdd, Nat.reduceLT, Nat.reduceLeDiff, Nat.reduceEqDiff, Nat.reduceMul, Nat.reduceSub, Nat.reduceGT, reduceIte, Int.reduceNeg, Int.reduceToNat]) |  refine And.intro ?_ ?_ | intro _))
          all_goals first | omega | exact hIm _ ‹_› | exact (hIm _ ‹_›).1 | exact (hIm _ ‹_›).2.1 | exact (hIm _ ‹_›).2.2 _ ‹_› | rfl | skip
          all_goals trace_state
        · have c3' : (decide (1 ≤ sl) && decide (sl ≤ 1000)) = false := by rw [← Bool.decide_and]; exact decide_eq_false c3
          (repeat' (first | refine WP.seq ?_ | refine WP.block ?_ | ((first | refine WP.region ?_ | refine WP.condW ?_ | refine WP.ret ?_ | refine WP.exit ?_ | refine WP.skip ?_); simp only [go_sem, hso, c1, c2, c3', tyAll, Nat.reduceAdd, Nat.reduceLT, Nat.reduceLeDiff, Nat.reduceEqDiff, Nat.reduceMul, Nat.reduceSub, Nat.reduceGT, reduceIte, Int.reduceNeg, Int.reduceToNat]) |  refine And.intro ?_ ?_ | intro _))
          all_goals first | omega | exact hIm _ ‹_› | exact (hIm _ ‹_›).1 | exact (hIm _ ‹_›).2.1 | exact (hIm _ ‹_›).2.2 _ ‹_› | rfl | skip
          all_goals trace_state
      · have c2' : (decide (0 ≤ tu) && decide (tu ≤ (T.length : Int) - 1)) = false := by rw [← Bool.decide_and]; exact decide_eq_false c2
        (repeat' (first | refine WP.seq ?_ | refine WP.block ?_ | ((first | refine WP.region ?_ | refine WP.condW ?_ | refine WP.ret ?_ | refine WP.exit ?_ | refine WP.skip ?_); simp only [go_sem, hso, c1, c2', tyAll, Nat.reduceAdd, Nat.reduceLT, Nat.reduceLeDiff, Nat.reduceEqDiff, Nat.reduceMul, Nat.reduceSub, Nat.reduceGT, reduceIte, Int.reduceNeg, Int.reduceToNat]) |  refine And.intro ?_ ?_ | intro _))
        all_goals first | omega | exact hIm _ ‹_› | exact (hIm _ ‹_›).1 | exact (hIm _ ‹_›).2.1 | exact (hIm _ ‹_›).2.2 _ ‹_› | rfl | skip
        all_goals trace_state
    · have c1' : (decide ((1 : Int) ≤ T.length) && decide ((T.length : Int) ≤ 3)) = false := by rw [← Bool.decide_and]; exact decide_eq_false c1
      (repeat' (first | refine WP.seq ?_ | refine WP.block ?_ | ((first | refine WP.region ?_ | refine WP.condW ?_ | refine WP.ret ?_ | refine WP.exit ?_ | refine WP.skip ?_); simp only [go_sem, hso, c1', tyAll, Nat.reduceAdd, Nat.reduceLT, Nat.reduceLeDiff, Nat.reduceEqDiff, Nat.reduceMul, Nat.reduceSub, Nat.reduceGT, reduceIte, Int.reduceNeg, Int.reduceToNat]) |  refine And.intro ?_ ?_ | intro _))
      all_goals first | omega | exact hIm _ ‹_› | exact (hIm _ ‹_›).1 | exact (hIm _ ‹_›).2.1 | exact (hIm _ ‹_›).2.2 _ ‹_› | rfl | skip
      all_goals trace_state
  rw [decide_eq_true hc, Bool.and_true, Bool.true_and]
  obtain ⟨⟨a1, a2⟩, ⟨a3, a4⟩, ⟨a5, a6⟩, a7, a8⟩ := hc
  have a1i : (1 : Int) ≤ T.length := by omega
  have a2i : (T.length : Int) ≤ 3 := by omega
  (repeat' (first | refine WP.seq ?_ | refine WP.block ?_ | ((first | refine WP.region ?_ | refine WP.condW ?_ | refine WP.ret ?_ | refine WP.exit ?_ | refine WP.skip ?_); simp only [go_sem, hso, a1i, a2i, a3, a4, a5, a6, a7, a8, tyAll, Nat.reduceAdd, Nat.reduceLT, Nat.reduceLeDiff, Nat.reduceEqDiff, Nat.reduceMul, Nat.reduceSub, Nat.reduceGT, reduceIte, Int.reduceNeg, Int.reduceToNat]) |  refine And.intro ?_ ?_ | intro _))
  all_goals first | omega | exact hIm _ ‹_› | exact (hIm _ ‹_›).1 | exact (hIm _ ‹_›).2.1 | exact (hIm _ ‹_›).2.2 _ ‹_› | skip
  refine WP.loop (fun k : Nat => ⟨[(1, .ptr 1 0 0 0), (3, .v (.int .i64 k))], [(1, .box 37 [.sl 2 (I.map encImage), .sl 1 (B.map encI), .sl 1 (E.map encI), .sl 7 (T.map encMach), .v (.int .i64 tu), .v (.int .i64 le), .v (.int .i64 sl)])]⟩)
    (fun k => k ≤ T.length ∧ ∀ i (hi : i < T.length), i < k → machOk T[i] = true) (fun k => T.length - k) 0 (by simp) ?_ ?_
  · (simp only [go_sem, tyAll, Nat.reduceAdd, Nat.reduceLT, Nat.reduceLeDiff, Nat.reduceEqDiff, Nat.reduceMul, Nat.reduceSub, Nat.reduceGT, reduceIte, Int.reduceNeg, Int.reduceToNat] <;> (first | rfl | exact ⟨rfl, rfl⟩ | exact ⟨rfl, rfl, rfl⟩ | exact ⟨rfl, rfl, rfl, rfl⟩ | exact ⟨rfl, rfl, rfl, rfl, rfl⟩ | exact ⟨⟨rfl, rfl⟩, rfl⟩ | simp))
  intro k ⟨hk, hf⟩
  by_cases hlt : k < T.length
  · have hli : (k : Int) < T.length := by omega
    have hr := rowAt_map encMach T k hlt
    have hst := hTs _ (List.getElem_mem hlt)
    cases hm : machOk T[k] with
    | false =>
      have ha : T.all machOk = false := List.all_eq_false.2 ⟨_, List.getElem_mem hlt, by rw [hm]; simp⟩
      rw [ha]
      (repeat' (first | refine WP.seq ?_ | refine WP.block ?_ | ((first | refine WP.region ?_ | refine WP.condW ?_ | refine WP.ret ?_ | refine WP.exit ?_ | refine WP.skip ?_); simp only [go_sem, hli, hr, encMach, hm, tyAll, Nat.reduceAdd, Nat.reduceLT, Nat.reduceLeDiff, Nat.reduceEqDiff, Nat.reduceMul, Nat.reduceSub, Nat.reduceGT, reduceIte, Int.reduceNeg, Int.reduceToNat]) |  refine And.intro ?_ ?_ | intro _))
      all_goals first | omega | skip
      all_goals trace_state
    | true =>
      (repeat' (first | refine WP.seq ?_ | refine WP.block ?_ | ((first | refine WP.region ?_ | refine WP.condW ?_ | refine WP.ret ?_ | refine WP.exit ?_ | refine WP.skip ?_); simp only [go_sem, hli, hr, encMach, hm, tyAll, Nat.reduceAdd, Nat.reduceLT, Nat.reduceLeDiff, Nat.reduceEqDiff, Nat.reduceMul, Nat.reduceSub, Nat.reduceGT, reduceIte, Int.reduceNeg, Int.reduceToNat]) |  refine And.intro ?_ ?_ | intro _))
      all_goals first | omega | exact ⟨k + 1, ⟨by omega, fun i hi hik => by
        rcases Nat.lt_or_ge i k with h | h
        · exact hf i hi h
        · have : i = k := by omega
          subst this; exact hm⟩, by omega, by (first | rfl | exact ⟨rfl, rfl⟩ | exact ⟨rfl, rfl, rfl⟩ | exact ⟨rfl, rfl, rfl, rfl⟩ | exact ⟨rfl, rfl, rfl, rfl, rfl⟩ | exact ⟨⟨rfl, rfl⟩, rfl⟩ | simp)⟩ | skip
      all_goals trace_state
  · have hge : ¬ (k : Int) < T.length := by omega
    have ha : T.all machOk = true := List.all_eq_true.2 fun m hm => by
      obtain ⟨i, hi, rfl⟩ := List.mem_iff_getElem.1 hm
      exact hf i hi (by omega)
    rw [ha]
    (repeat' (first | refine WP.seq ?_ | refine WP.block ?_ | ((first | refine WP.region ?_ | refine WP.condW ?_ | refine WP.ret ?_ | refine WP.exit ?_ | refine WP.skip ?_); simp only [go_sem, hge, tyAll, Nat.reduceAdd, Nat.reduceLT, Nat.reduceLeDiff, Nat.reduceEqDiff, Nat.reduceMul, Nat.reduceSub, Nat.reduceGT, reduceIte, Int.reduceNeg, Int.reduceToNat]) |  refine And.intro ?_ ?_ | intro _))
    all_goals first | omega | skip
    all_goals trace_state
end
end
section
open Go.Vc
set_option linter.unusedSimpArgs false
set_option linter.unusedVariables false
set_option maxHeartbeats 1000000
set_option maxRecDepth 10000
attribute [local irreducible] Go.Vc.WP
attribute [local go_sem] cx0_t cx0_c
open Go.Pl
attribute [local go_sem] decI_enc decImage_enc spA decS_enc tmA tm_eta decMach_enc oneMach_f mach_eta pcA
def sizS (R : List ByteArray) (k : Nat) : Nat := ((R.take k).map (·.size)).sum
theorem sizS_succ {R : List ByteArray} {k : Nat} (h : k < R.length) : sizS R (k + 1) = sizS R k + R[k].size := by
  unfold sizS
  rw [List.take_succ_eq_append_getElem h, List.map_append, List.sum_append]; simp
theorem sizS_le (R : List ByteArray) (k : Nat) : sizS R k ≤ sizS R R.length := by
  unfold sizS
  rw [List.take_length]
  conv => rhs; rw [← List.take_append_drop k R]
  rw [List.map_append, List.sum_append]; omega
def kByt : Ctr := pur (fun args => decS (aR args 0)) (fun R => [.sl 1 (R.map encS)]) (fun R => R.length ≤ 4194304 ∧ sizS R R.length ≤ 1099511627776) (fun _ R => .v (.int .i64 (sizS R R.length))) (fun _ _ => [])
abbrev RgX := Int × List ByteArray × Int × Int
def rgA (args : List SV) (i : Nat) : RgX := match args[i]? with
  | some (.agg [.v (.int _ a), .sl _ r, .v (.int _ b), .v (.int _ c)]) => (a, decS r, b, c)
  | _ => (0, [], 0, 0)
attribute [local go_sem] rgA
def ringOk (x : RgX) : Bool := x.2.1.all (fun s => decide (s ≠ ⟨#[]⟩)) && decide ((0 ≤ x.1 ∧ x.1 ≤ 100000) ∧ (sizS x.2.1 x.2.1.length : Int) ≤ x.1 ∧ ((x.2.1.length : Int) ≤ x.2.2.1 ∧ x.2.2.1 ≤ 1000000000000) ∧ 0 ≤ x.2.2.2 ∧ x.2.2.2 ≤ 1000000000000)
def kRgOk : Ctr := pur (fun args => rgA args 0) (fun x => [.agg [.v (.int .i64 x.1), .sl 1 (x.2.1.map encS), .v (.int .i64 x.2.2.1), .v (.int .i64 x.2.2.2)]]) (fun x => x.2.1.length ≤ 4194304 ∧ sizS x.2.1 x.2.1.length ≤ 1099511627776) (fun _ x => .v (.bool (ringOk x))) (fun _ _ => [])
section
noncomputable def cxByI : Cx := { P := Try.prog, tys := tys, C := [], hty := tysOk, hC := COk.nil _ }
theorem cxByI_t : cxByI.tys = tys := rfl
theorem cxByI_c : cxByI.C = [] := rfl
attribute [local go_sem] cxByI_t cxByI_c 
theorem cBytI : Cn Try.prog 68 kByt := by
  refine Cn.pur Try.func68 (by kernel_rfl) rfl fun d x hx => ?_
  rename List ByteArray => R
  obtain ⟨hR, hz⟩ := hx
  refine Holds.go (c := cxByI) Try.func68 rfl Try.results68 Try.ntmps68 (by omega) (by simp) rfl ?_
  intro X0 w0
  (repeat' (first | refine WP.seq ?_ | refine WP.block ?_ | ((first | refine WP.region ?_ | refine WP.condW ?_ | refine WP.ret ?_ | refine WP.exit ?_ | refine WP.skip ?_); simp only [go_sem, tyAll, Nat.reduceAdd, Nat.reduceLT, Nat.reduceLeDiff, Nat.reduceEqDiff, Nat.reduceMul, Nat.reduceSub, Nat.reduceGT, reduceIte, Int.reduceNeg, Int.reduceToNat]) |  refine And.intro ?_ ?_ | intro _))
  all_goals first | omega | skip
  refine WP.loop (fun k : Nat => ⟨[(3, .v (.int .i64 (sizS R k))), (6, .sl 1 (R.map encS)), (7, .v (.int .i64 R.length)), (8, .v (.int .i64 k))], []⟩) (fun k => k ≤ R.length) (fun k => R.length - k) 0 (by simp) ?_ ?_
  · have h0 : sizS R 0 = 0 := rfl
    (simp only [go_sem, h0, tyAll, Nat.reduceAdd, Nat.reduceLT, Nat.reduceLeDiff, Nat.reduceEqDiff, Nat.reduceMul, Nat.reduceSub, Nat.reduceGT, reduceIte, Int.reduceNeg, Int.reduceToNat] <;> (first | rfl | exact ⟨rfl, rfl⟩ | exact ⟨rfl, rfl, rfl⟩ | exact ⟨rfl, rfl, rfl, rfl⟩ | exact ⟨rfl, rfl, rfl, rfl, rfl⟩ | exact ⟨⟨rfl, rfl⟩, rfl⟩ | simp))
  intro k hk
  have hl := sizS_le R k
  have hl1 := sizS_le R (k + 1)
  by_cases hlt : k < R.length
  · have hli : (k : Int) < R.length := by omega
    have hr := rowAt_map encS R k hlt
    have hsu := sizS_succ hlt
    have hsi : ((sizS R (k + 1) : Nat) : Int) = (sizS R k : Int) + (R[k].size : Int) := by rw [hsu, Int.natCast_add]
    (repeat' (first | refine WP.seq ?_ | refine WP.block ?_ | ((first | refine WP.region ?_ | refine WP.condW ?_ | refine WP.ret ?_ | refine WP.exit ?_ | refine WP.skip ?_); simp only [go_sem, hli, hr, encS, tyAll, Nat.reduceAdd, Nat.reduceLT, Nat.reduceLeDiff, Nat.reduceEqDiff, Nat.reduceMul, Nat.reduceSub, Nat.reduceGT, reduceIte, Int.reduceNeg, Int.reduceToNat]) |  refine And.intro ?_ ?_ | intro _))
    all_goals first | omega | exact ⟨k + 1, by omega, by omega, by rw [hsi]; (first | rfl | exact ⟨rfl, rfl⟩ | exact ⟨rfl, rfl, rfl⟩ | exact ⟨rfl, rfl, rfl, rfl⟩ | exact ⟨rfl, rfl, rfl, rfl, rfl⟩ | exact ⟨⟨rfl, rfl⟩, rfl⟩ | simp)⟩ | skip
    all_goals trace_state
  · have hge : ¬ (k : Int) < R.length := by omega
    obtain rfl : k = R.length := by omega
    (repeat' (first | refine WP.seq ?_ | refine WP.block ?_ | ((first | refine WP.region ?_ | refine WP.condW ?_ | refine WP.ret ?_ | refine WP.exit ?_ | refine WP.skip ?_); simp only [go_sem, hge, tyAll, Nat.reduceAdd, Nat.reduceLT, Nat.reduceLeDiff, Nat.reduceEqDiff, Nat.reduceMul, Nat.reduceSub, Nat.reduceGT, reduceIte, Int.reduceNeg, Int.reduceToNat]) |  refine And.intro ?_ ?_ | intro _))
    all_goals first | omega | skip
    all_goals trace_state
end
section
noncomputable def cxByS : Cx := { P := Try.prog, tys := tys, C := [], hty := tysOk, hC := COk.nil _ }
theorem cxByS_t : cxByS.tys = tys := rfl
theorem cxByS_c : cxByS.C = [] := rfl
attribute [local go_sem] cxByS_t cxByS_c 
theorem cBytS : Cn Try.prog 64 kByt := by
  refine Cn.pur Try.func64 (by kernel_rfl) rfl fun d x hx => ?_
  rename List ByteArray => R
  obtain ⟨hR, hz⟩ := hx
  refine Holds.go (c := cxByS) Try.func64 rfl Try.results64 Try.ntmps64 (by omega) (by simp) rfl ?_
  intro X0 w0
  (repeat' (first | refine WP.seq ?_ | refine WP.block ?_ | ((first | refine WP.region ?_ | refine WP.condW ?_ | refine WP.ret ?_ | refine WP.exit ?_ | refine WP.skip ?_); simp only [go_sem, tyAll, Nat.reduceAdd, Nat.reduceLT, Nat.reduceLeDiff, Nat.reduceEqDiff, Nat.reduceMul, Nat.reduceSub, Nat.reduceGT, reduceIte, Int.reduceNeg, Int.reduceToNat]) |  refine And.intro ?_ ?_ | intro _))
  all_goals first | omega | skip
  refine WP.loop (fun k : Nat => ⟨[(0, .sl 1 (R.map encS)), (3, .v (.int .i64 (sizS R k))), (4, .v (.int .i64 k))], []⟩) (fun k => k ≤ R.length) (fun k => R.length - k) 0 (by simp) ?_ ?_
  · have h0 : sizS R 0 = 0 := rfl
    (simp only [go_sem, h0, tyAll, Nat.reduceAdd, Nat.reduceLT, Nat.reduceLeDiff, Nat.reduceEqDiff, Nat.reduceMul, Nat.reduceSub, Nat.reduceGT, reduceIte, Int.reduceNeg, Int.reduceToNat] <;> (first | rfl | exact ⟨rfl, rfl⟩ | exact ⟨rfl, rfl, rfl⟩ | exact ⟨rfl, rfl, rfl, rfl⟩ | exact ⟨rfl, rfl, rfl, rfl, rfl⟩ | exact ⟨⟨rfl, rfl⟩, rfl⟩ | simp))
  intro k hk
  have hl := sizS_le R k
  have hl1 := sizS_le R (k + 1)
  by_cases hlt : k < R.length
  · have hli : (k : Int) < R.length := by omega
    have hr := rowAt_map encS R k hlt
    have hsu := sizS_succ hlt
    have hsi : ((sizS R (k + 1) : Nat) : Int) = (sizS R k : Int) + (R[k].size : Int) := by rw [hsu, Int.natCast_add]
    (repeat' (first | refine WP.seq ?_ | refine WP.block ?_ | ((first | refine WP.region ?_ | refine WP.condW ?_ | refine WP.ret ?_ | refine WP.exit ?_ | refine WP.skip ?_); simp only [go_sem, hli, hr, encS, tyAll, Nat.reduceAdd, Nat.reduceLT, Nat.reduceLeDiff, Nat.reduceEqDiff, Nat.reduceMul, Nat.reduceSub, Nat.reduceGT, reduceIte, Int.reduceNeg, Int.reduceToNat]) |  refine And.intro ?_ ?_ | intro _))
    all_goals first | omega | exact ⟨k + 1, by omega, by omega, by rw [hsi]; (first | rfl | exact ⟨rfl, rfl⟩ | exact ⟨rfl, rfl, rfl⟩ | exact ⟨rfl, rfl, rfl, rfl⟩ | exact ⟨rfl, rfl, rfl, rfl, rfl⟩ | exact ⟨⟨rfl, rfl⟩, rfl⟩ | simp)⟩ | skip
    all_goals trace_state
  · have hge : ¬ (k : Int) < R.length := by omega
    obtain rfl : k = R.length := by omega
    (repeat' (first | refine WP.seq ?_ | refine WP.block ?_ | ((first | refine WP.region ?_ | refine WP.condW ?_ | refine WP.ret ?_ | refine WP.exit ?_ | refine WP.skip ?_); simp only [go_sem, hge, tyAll, Nat.reduceAdd, Nat.reduceLT, Nat.reduceLeDiff, Nat.reduceEqDiff, Nat.reduceMul, Nat.reduceSub, Nat.reduceGT, reduceIte, Int.reduceNeg, Int.reduceToNat]) |  refine And.intro ?_ ?_ | intro _))
    all_goals first | omega | skip
    all_goals trace_state
end
section
noncomputable def cxRoI : Cx := { P := Try.prog, tys := tys, C := [(48, k60), (68, kByt)], hty := tysOk, hC := COk.cons c60 (COk.cons cBytI (COk.nil _)) }
theorem cxRoI_t : cxRoI.tys = tys := rfl
theorem cxRoI_c : cxRoI.C = [(48, k60), (68, kByt)] := rfl
attribute [local go_sem] cxRoI_t cxRoI_c k60 kByt
set_option maxHeartbeats 2000000 in
theorem cRgOkI : Cn Try.prog 47 kRgOk := by
  refine Cn.pur Try.func47 (by kernel_rfl) rfl fun d x hx => ?_
  obtain ⟨cp, R, wr, lo⟩ := x
  obtain ⟨hR, hz⟩ := hx
  simp only at hR hz ⊢
  have mod : ringOk (cp, R, wr, lo) = (R.all (fun s => decide (s ≠ ⟨#[]⟩)) && decide ((0 ≤ cp ∧ cp ≤ 100000) ∧ (sizS R R.length : Int) ≤ cp ∧ ((R.length : Int) ≤ wr ∧ wr ≤ 1000000000000) ∧ 0 ≤ lo ∧ lo ≤ 1000000000000)) := rfl
  rw [mod]
  refine Holds.go (c := cxRoI) Try.func47 rfl Try.results47 Try.ntmps47 (by omega) (by simp) rfl ?_
  intro X0 w0
  (repeat' (first | refine WP.seq ?_ | refine WP.block ?_ | ((first | refine WP.region ?_ | refine WP.condW ?_ | refine WP.ret ?_ | refine WP.exit ?_ | refine WP.skip ?_); simp only [go_sem, tyAll, Nat.reduceAdd, Nat.reduceLT, Nat.reduceLeDiff, Nat.reduceEqDiff, Nat.reduceMul, Nat.reduceSub, Nat.reduceGT, reduceIte, Int.reduceNeg, Int.reduceToNat]) | ((first | refine WP.drawW 24 (by decide +kernel) (by kernel_rfl) ?_); simp only [go_sem, tyAll, Nat.reduceAdd, Nat.reduceLT, Nat.reduceLeDiff, Nat.reduceEqDiff, Nat.reduceMul, Nat.reduceSub, Nat.reduceGT, reduceIte, Int.reduceNeg, Int.reduceToNat]) |  refine And.intro ?_ ?_ | intro _))
  all_goals first | omega | skip
  refine WP.loop (fun k : Nat => ⟨[(1, .ptr 1 0 0 0), (6, .sl 1 (R.map encS)), (7, .v (.int .i64 R.length)), (8, .v (.int .i64 k))], [(1, .box 41 [.v (.int .i64 cp), .sl 1 (R.map encS), .v (.int .i64 wr), .v (.int .i64 lo)])]⟩)
    (fun k => k ≤ R.length ∧ ∀ i (hi : i < R.length), i < k → R[i] ≠ ⟨#[]⟩) (fun k => R.length - k) 0 (by simp) ?_ ?_
  · (simp only [go_sem, tyAll, Nat.reduceAdd, Nat.reduceLT, Nat.reduceLeDiff, Nat.reduceEqDiff, Nat.reduceMul, Nat.reduceSub, Nat.reduceGT, reduceIte, Int.reduceNeg, Int.reduceToNat] <;> (first | rfl | exact ⟨rfl, rfl⟩ | exact ⟨rfl, rfl, rfl⟩ | exact ⟨rfl, rfl, rfl, rfl⟩ | exact ⟨rfl, rfl, rfl, rfl, rfl⟩ | exact ⟨⟨rfl, rfl⟩, rfl⟩ | simp))
  intro k ⟨hk, hf⟩
  by_cases hlt : k < R.length
  · have hli : (k : Int) < R.length := by omega
    have hr := rowAt_map encS R k hlt
    by_cases he : R[k] = ⟨#[]⟩
    · have ha : R.all (fun s => decide (s ≠ ⟨#[]⟩)) = false := List.all_eq_false.2 ⟨_, List.getElem_mem hlt, by simp [he]⟩
      rw [ha, Bool.false_and]
      (repeat' (first | refine WP.seq ?_ | refine WP.block ?_ | ((first | refine WP.region ?_ | refine WP.condW ?_ | refine WP.ret ?_ | refine WP.exit ?_ | refine WP.skip ?_); simp only [go_sem, hli, hr, encS, he, tyAll, Nat.reduceAdd, Nat.reduceLT, Nat.reduceLeDiff, Nat.reduceEqDiff, Nat.reduceMul, Nat.reduceSub, Nat.reduceGT, reduceIte, Int.reduceNeg, Int.reduceToNat]) | ((first | refine WP.drawW 24 (by decide +kernel) (by kernel_rfl) ?_); simp only [go_sem, hli, hr, encS, he, tyAll, Nat.reduceAdd, Nat.reduceLT, Nat.reduceLeDiff, Nat.reduceEqDiff, Nat.reduceMul, Nat.reduceSub, Nat.reduceGT, reduceIte, Int.reduceNeg, Int.reduceToNat]) |  refine And.intro ?_ ?_ | intro _))
      all_goals first | omega | skip
      all_goals trace_state
    · (repeat' (first | refine WP.seq ?_ | refine WP.block ?_ | ((first | refine WP.region ?_ | refine WP.condW ?_ | refine WP.ret ?_ | refine WP.exit ?_ | refine WP.skip ?_); simp only [go_sem, hli, hr, encS, he, tyAll, Nat.reduceAdd, Nat.reduceLT, Nat.reduceLeDiff, Nat.reduceEqDiff, Nat.reduceMul, Nat.reduceSub, Nat.reduceGT, reduceIte, Int.reduceNeg, Int.reduceToNat]) | ((first | refine WP.drawW 24 (by decide +kernel) (by kernel_rfl) ?_); simp only [go_sem, hli, hr, encS, he, tyAll, Nat.reduceAdd, Nat.reduceLT, Nat.reduceLeDiff, Nat.reduceEqDiff, Nat.reduceMul, Nat.reduceSub, Nat.reduceGT, reduceIte, Int.reduceNeg, Int.reduceToNat]) |  refine And.intro ?_ ?_ | intro _))
      all_goals first | omega | exact ⟨k + 1, ⟨by omega, fun i hi hik => by
        rcases Nat.lt_or_ge i k with h | h
        · exact hf i hi h
        · have : i = k := by omega
          subst this; exact he⟩, by omega, by (first | rfl | exact ⟨rfl, rfl⟩ | exact ⟨rfl, rfl, rfl⟩ | exact ⟨rfl, rfl, rfl, rfl⟩ | exact ⟨rfl, rfl, rfl, rfl, rfl⟩ | exact ⟨⟨rfl, rfl⟩, rfl⟩ | simp)⟩ | skip
      all_goals trace_state
  · have hge : ¬ (k : Int) < R.length := by omega
    have ha : R.all (fun s => decide (s ≠ ⟨#[]⟩)) = true := List.all_eq_true.2 fun s hs => by
      obtain ⟨i, hi, rfl⟩ := List.mem_iff_getElem.1 hs
      rw [decide_eq_true_eq]
      exact hf i hi (by omega)
    have e : decide ((0 ≤ cp ∧ cp ≤ 100000) ∧ (sizS R R.length : Int) ≤ cp ∧ ((R.length : Int) ≤ wr ∧ wr ≤ 1000000000000) ∧ 0 ≤ lo ∧ lo ≤ 1000000000000) = ((decide (0 ≤ cp) && decide (cp ≤ 100000)) && decide ((sizS R R.length : Int) ≤ cp) && (decide ((R.length : Int) ≤ wr) && decide (wr ≤ 1000000000000)) && (decide (0 ≤ lo) && decide (lo ≤ 1000000000000))) := by
      rw [Bool.eq_iff_iff]
      simp only [decide_eq_true_eq, Bool.and_eq_true]
      omega
    rw [ha, Bool.true_and, e]
    (repeat' (first | refine WP.seq ?_ | refine WP.block ?_ | ((first | refine WP.region ?_ | refine WP.condW ?_ | refine WP.ret ?_ | refine WP.exit ?_ | refine WP.skip ?_); simp only [go_sem, hge, tyAll, Nat.reduceAdd, Nat.reduceLT, Nat.reduceLeDiff, Nat.reduceEqDiff, Nat.reduceMul, Nat.reduceSub, Nat.reduceGT, reduceIte, Int.reduceNeg, Int.reduceToNat]) | ((first | refine WP.drawW 24 (by decide +kernel) (by kernel_rfl) ?_); simp only [go_sem, hge, tyAll, Nat.reduceAdd, Nat.reduceLT, Nat.reduceLeDiff, Nat.reduceEqDiff, Nat.reduceMul, Nat.reduceSub, Nat.reduceGT, reduceIte, Int.reduceNeg, Int.reduceToNat]) |  refine And.intro ?_ ?_ | intro _))
    all_goals first | omega | rfl | skip
    all_goals trace_state
end
section
noncomputable def cxRoS : Cx := { P := Try.prog, tys := tys, C := [(39, k60), (64, kByt)], hty := tysOk, hC := COk.cons c58 (COk.cons cBytS (COk.nil _)) }
theorem cxRoS_t : cxRoS.tys = tys := rfl
theorem cxRoS_c : cxRoS.C = [(39, k60), (64, kByt)] := rfl
attribute [local go_sem] cxRoS_t cxRoS_c k60 kByt
set_option maxHeartbeats 2000000 in
theorem cRgOkS : Cn Try.prog 38 kRgOk := by
  refine Cn.pur Try.func38 (by kernel_rfl) rfl fun d x hx => ?_
  obtain ⟨cp, R, wr, lo⟩ := x
  obtain ⟨hR, hz⟩ := hx
  simp only at hR hz ⊢
  have mod : ringOk (cp, R, wr, lo) = (R.all (fun s => decide (s ≠ ⟨#[]⟩)) && decide ((0 ≤ cp ∧ cp ≤ 100000) ∧ (sizS R R.length : Int) ≤ cp ∧ ((R.length : Int) ≤ wr ∧ wr ≤ 1000000000000) ∧ 0 ≤ lo ∧ lo ≤ 1000000000000)) := rfl
  rw [mod]
  refine Holds.go (c := cxRoS) Try.func38 rfl Try.results38 Try.ntmps38 (by omega) (by simp) rfl ?_
  intro X0 w0
  (repeat' (first | refine WP.seq ?_ | refine WP.block ?_ | ((first | refine WP.region ?_ | refine WP.condW ?_ | refine WP.ret ?_ | refine WP.exit ?_ | refine WP.skip ?_); simp only [go_sem, tyAll, Nat.reduceAdd, Nat.reduceLT, Nat.reduceLeDiff, Nat.reduceEqDiff, Nat.reduceMul, Nat.reduceSub, Nat.reduceGT, reduceIte, Int.reduceNeg, Int.reduceToNat]) | ((first | refine WP.drawW 24 (by decide +kernel) (by kernel_rfl) ?_); simp only [go_sem, tyAll, Nat.reduceAdd, Nat.reduceLT, Nat.reduceLeDiff, Nat.reduceEqDiff, Nat.reduceMul, Nat.reduceSub, Nat.reduceGT, reduceIte, Int.reduceNeg, Int.reduceToNat]) |  refine And.intro ?_ ?_ | intro _))
  all_goals first | omega | skip
  refine WP.loop (fun k : Nat => ⟨[(1, .ptr 1 0 0 0), (3, .v (.int .i64 k))], [(1, .box 41 [.v (.int .i64 cp), .sl 1 (R.map encS), .v (.int .i64 wr), .v (.int .i64 lo)])]⟩)
    (fun k => k ≤ R.length ∧ ∀ i (hi : i < R.length), i < k → R[i] ≠ ⟨#[]⟩) (fun k => R.length - k) 0 (by simp) ?_ ?_
  · (simp only [go_sem, tyAll, Nat.reduceAdd, Nat.reduceLT, Nat.reduceLeDiff, Nat.reduceEqDiff, Nat.reduceMul, Nat.reduceSub, Nat.reduceGT, reduceIte, Int.reduceNeg, Int.reduceToNat] <;> (first | rfl | exact ⟨rfl, rfl⟩ | exact ⟨rfl, rfl, rfl⟩ | exact ⟨rfl, rfl, rfl, rfl⟩ | exact ⟨rfl, rfl, rfl, rfl, rfl⟩ | exact ⟨⟨rfl, rfl⟩, rfl⟩ | simp))
  intro k ⟨hk, hf⟩
  by_cases hlt : k < R.length
  · have hli : (k : Int) < R.length := by omega
    have hr := rowAt_map encS R k hlt
    by_cases he : R[k] = ⟨#[]⟩
    · have ha : R.all (fun s => decide (s ≠ ⟨#[]⟩)) = false := List.all_eq_false.2 ⟨_, List.getElem_mem hlt, by simp [he]⟩
      rw [ha, Bool.false_and]
      (repeat' (first | refine WP.seq ?_ | refine WP.block ?_ | ((first | refine WP.region ?_ | refine WP.condW ?_ | refine WP.ret ?_ | refine WP.exit ?_ | refine WP.skip ?_); simp only [go_sem, hli, hr, encS, he, tyAll, Nat.reduceAdd, Nat.reduceLT, Nat.reduceLeDiff, Nat.reduceEqDiff, Nat.reduceMul, Nat.reduceSub, Nat.reduceGT, reduceIte, Int.reduceNeg, Int.reduceToNat]) | ((first | refine WP.drawW 24 (by decide +kernel) (by kernel_rfl) ?_); simp only [go_sem, hli, hr, encS, he, tyAll, Nat.reduceAdd, Nat.reduceLT, Nat.reduceLeDiff, Nat.reduceEqDiff, Nat.reduceMul, Nat.reduceSub, Nat.reduceGT, reduceIte, Int.reduceNeg, Int.reduceToNat]) |  refine And.intro ?_ ?_ | intro _))
      all_goals first | omega | skip
      all_goals trace_state
    · (repeat' (first | refine WP.seq ?_ | refine WP.block ?_ | ((first | refine WP.region ?_ | refine WP.condW ?_ | refine WP.ret ?_ | refine WP.exit ?_ | refine WP.skip ?_); simp only [go_sem, hli, hr, encS, he, tyAll, Nat.reduceAdd, Nat.reduceLT, Nat.reduceLeDiff, Nat.reduceEqDiff, Nat.reduceMul, Nat.reduceSub, Nat.reduceGT, reduceIte, Int.reduceNeg, Int.reduceToNat]) | ((first | refine WP.drawW 24 (by decide +kernel) (by kernel_rfl) ?_); simp only [go_sem, hli, hr, encS, he, tyAll, Nat.reduceAdd, Nat.reduceLT, Nat.reduceLeDiff, Nat.reduceEqDiff, Nat.reduceMul, Nat.reduceSub, Nat.reduceGT, reduceIte, Int.reduceNeg, Int.reduceToNat]) |  refine And.intro ?_ ?_ | intro _))
      all_goals first | omega | exact ⟨k + 1, ⟨by omega, fun i hi hik => by
        rcases Nat.lt_or_ge i k with h | h
        · exact hf i hi h
        · have : i = k := by omega
          subst this; exact he⟩, by omega, by (first | rfl | exact ⟨rfl, rfl⟩ | exact ⟨rfl, rfl, rfl⟩ | exact ⟨rfl, rfl, rfl, rfl⟩ | exact ⟨rfl, rfl, rfl, rfl, rfl⟩ | exact ⟨⟨rfl, rfl⟩, rfl⟩ | simp)⟩ | skip
      all_goals trace_state
  · have hge : ¬ (k : Int) < R.length := by omega
    have ha : R.all (fun s => decide (s ≠ ⟨#[]⟩)) = true := List.all_eq_true.2 fun s hs => by
      obtain ⟨i, hi, rfl⟩ := List.mem_iff_getElem.1 hs
      rw [decide_eq_true_eq]
      exact hf i hi (by omega)
    have e : decide ((0 ≤ cp ∧ cp ≤ 100000) ∧ (sizS R R.length : Int) ≤ cp ∧ ((R.length : Int) ≤ wr ∧ wr ≤ 1000000000000) ∧ 0 ≤ lo ∧ lo ≤ 1000000000000) = ((decide (0 ≤ cp) && decide (cp ≤ 100000)) && decide ((sizS R R.length : Int) ≤ cp) && (decide ((R.length : Int) ≤ wr) && decide (wr ≤ 1000000000000)) && (decide (0 ≤ lo) && decide (lo ≤ 1000000000000))) := by
      rw [Bool.eq_iff_iff]
      simp only [decide_eq_true_eq, Bool.and_eq_true]
      omega
    rw [ha, Bool.true_and, e]
    (repeat' (first | refine WP.seq ?_ | refine WP.block ?_ | ((first | refine WP.region ?_ | refine WP.condW ?_ | refine WP.ret ?_ | refine WP.exit ?_ | refine WP.skip ?_); simp only [go_sem, hge, tyAll, Nat.reduceAdd, Nat.reduceLT, Nat.reduceLeDiff, Nat.reduceEqDiff, Nat.reduceMul, Nat.reduceSub, Nat.reduceGT, reduceIte, Int.reduceNeg, Int.reduceToNat]) | ((first | refine WP.drawW 24 (by decide +kernel) (by kernel_rfl) ?_); simp only [go_sem, hge, tyAll, Nat.reduceAdd, Nat.reduceLT, Nat.reduceLeDiff, Nat.reduceEqDiff, Nat.reduceMul, Nat.reduceSub, Nat.reduceGT, reduceIte, Int.reduceNeg, Int.reduceToNat]) |  refine And.intro ?_ ?_ | intro _))
    all_goals first | omega | rfl | skip
    all_goals trace_state
end
abbrev SeX := PcX × Tm × RgX × Int × Int × Int
def aggSe (x : SeX) : List SV := [.sl 2 (x.1.1.1.map encImage), .sl 1 (x.1.1.2.1.map encI), .sl 1 (x.1.1.2.2.map encI), .sl 7 (x.1.2.1.map encMach), .v (.int .i64 x.1.2.2.1), .v (.int .i64 x.1.2.2.2.1), .v (.int .i64 x.1.2.2.2.2),
  .v (.int .i64 x.2.1.period), .v (.int .i64 x.2.1.spread), .v (.int .i64 x.2.1.left), .v (.int .i64 x.2.1.state), .v (.int .i64 x.2.2.1.1), .sl 1 (x.2.2.1.2.1.map encS), .v (.int .i64 x.2.2.1.2.2.1), .v (.int .i64 x.2.2.1.2.2.2),
  .v (.int .i64 x.2.2.2.1), .v (.int .i64 x.2.2.2.2.1), .v (.int .i64 x.2.2.2.2.2)]
def seA (args : List SV) (i : Nat) : SeX := match args[i]? with
  | some (.agg [.sl _ a, .sl _ b, .sl _ c, .sl _ t, .v (.int _ x), .v (.int _ y), .v (.int _ z), .v (.int _ p), .v (.int _ q), .v (.int _ l), .v (.int _ st), .v (.int _ cp), .sl _ r, .v (.int _ wr), .v (.int _ lo), .v (.int _ m), .v (.int _ sp), .v (.int _ f)]) =>
    (((decImage a, decI b, decI c), decMach t, x, y, z), ⟨p, q, l, st⟩, (cp, decS r, wr, lo), m, sp, f)
  | _ => ((([], [], []), [], 0, 0, 0), ⟨0, 0, 0, 0⟩, (0, [], 0, 0), 0, 0, 0)
attribute [local go_sem] seA aggSe
def sessOk (x : SeX) : Bool := procOk x.1 && tmOk x.2.1 && ringOk x.2.2.1 && decide ((0 ≤ x.2.2.2.1 ∧ x.2.2.2.1 ≤ 1200) ∧ (0 ≤ x.2.2.2.2.1 ∧ x.2.2.2.2.1 ≤ 1000000000000) ∧ 0 ≤ x.2.2.2.2.2 ∧ x.2.2.2.2.2 ≤ 1000000000000)
def preSe (x : SeX) : Prop := prePc x.1 ∧ x.2.2.1.2.1.length ≤ 4194304 ∧ sizS x.2.2.1.2.1 x.2.2.1.2.1.length ≤ 1099511627776
def kSeOk : Ctr := pur (fun args => seA args 0) (fun x => [.agg (aggSe x)]) preSe (fun _ x => .v (.bool (sessOk x))) (fun _ _ => [])
def cntOkS (x : SeX) : Bool := (decide (0 ≤ x.2.2.2.2.1) && decide (x.2.2.2.2.1 ≤ 1000000000000)) && (decide (0 ≤ x.2.2.2.2.2) && decide (x.2.2.2.2.2 ≤ 1000000000000)) && (decide (0 ≤ x.2.2.1.2.2.1) && decide (x.2.2.1.2.2.1 ≤ 1000000000000)) && (decide (0 ≤ x.2.2.1.2.2.2) && decide (x.2.2.1.2.2.2 ≤ 1000000000000))
def kCntOk : Ctr := pur (fun args => seA args 0) (fun x => [.agg (aggSe x)]) (fun _ => True) (fun _ x => .v (.bool (cntOkS x))) (fun _ _ => [])
section
noncomputable def cxCoI : Cx := { P := Try.prog, tys := tys, C := [(48, k60)], hty := tysOk, hC := COk.cons c60 (COk.nil _) }
theorem cxCoI_t : cxCoI.tys = tys := rfl
theorem cxCoI_c : cxCoI.C = [(48, k60)] := rfl
attribute [local go_sem] cxCoI_t cxCoI_c k60
theorem cCntOkI : Cn Try.prog 49 kCntOk := by
  refine Cn.pur Try.func49 (by kernel_rfl) rfl fun d x hx => ?_
  obtain ⟨⟨⟨I, B, E⟩, T, tu, le, sl⟩, ⟨p, q, l, st⟩, ⟨cp, R, wr, lo⟩, mo, sp, fi⟩ := x
  simp only [aggSe]
  have e : cntOkS (((I, B, E), T, tu, le, sl), ⟨p, q, l, st⟩, (cp, R, wr, lo), mo, sp, fi) = ((decide (0 ≤ sp) && decide (sp ≤ 1000000000000)) && (decide (0 ≤ fi) && decide (fi ≤ 1000000000000)) && (decide (0 ≤ wr) && decide (wr ≤ 1000000000000)) && (decide (0 ≤ lo) && decide (lo ≤ 1000000000000))) := rfl
  rw [e]
  refine Holds.go (c := cxCoI) Try.func49 rfl Try.results49 Try.ntmps49 (by omega) (by simp) rfl ?_
  intro X0 w0
  (repeat' (first | refine WP.seq ?_ | refine WP.block ?_ | ((first | refine WP.region ?_ | refine WP.condW ?_ | refine WP.ret ?_ | refine WP.exit ?_ | refine WP.skip ?_); simp only [go_sem, tyAll, Nat.reduceAdd, Nat.reduceLT, Nat.reduceLeDiff, Nat.reduceEqDiff, Nat.reduceMul, Nat.reduceSub, Nat.reduceGT, reduceIte, Int.reduceNeg, Int.reduceToNat]) |  refine And.intro ?_ ?_ | intro _))
  all_goals first | omega | rfl | skip
  all_goals trace_state
end
section
noncomputable def cxSoI : Cx := { P := Try.prog, tys := tys, C := [(48, k60), (45, kPcOk), (46, kTmOk), (47, kRgOk), (49, kCntOk)], hty := tysOk, hC := COk.cons c60 (COk.cons cPcOkI (COk.cons cTmOkI (COk.cons cRgOkI (COk.cons cCntOkI (COk.nil _))))) }
theorem cxSoI_t : cxSoI.tys = tys := rfl
theorem cxSoI_c : cxSoI.C = [(48, k60), (45, kPcOk), (46, kTmOk), (47, kRgOk), (49, kCntOk)] := rfl
attribute [local go_sem] cxSoI_t cxSoI_c k60 kPcOk kTmOk kRgOk kCntOk
theorem cSeOkI : Cn Try.prog 21 kSeOk := by
  refine Cn.pur Try.func21 (by kernel_rfl) rfl fun d x hx => ?_
  obtain ⟨⟨⟨I, B, E⟩, T, tu, le, sl⟩, ⟨p, q, l, st⟩, ⟨cp, R, wr, lo⟩, mo, sp, fi⟩ := x
  obtain ⟨hP, hR, hz⟩ := hx
  simp only [aggSe] at hP hR hz ⊢
  have e : sessOk (((I, B, E), T, tu, le, sl), ⟨p, q, l, st⟩, (cp, R, wr, lo), mo, sp, fi) = (procOk ((I, B, E), T, tu, le, sl) && tmOk ⟨p, q, l, st⟩ && ringOk (cp, R, wr, lo) && (decide (0 ≤ mo) && decide (mo ≤ 1200)) && cntOkS (((I, B, E), T, tu, le, sl), ⟨p, q, l, st⟩, (cp, R, wr, lo), mo, sp, fi)) := by
    rw [Bool.eq_iff_iff]
    simp only [sessOk, cntOkS, Bool.and_eq_true, decide_eq_true_eq]
    constructor
    · rintro ⟨⟨⟨h1, h2⟩, h3⟩, h4⟩
      have h5 := h3
      unfold ringOk at h5
      simp only [Bool.and_eq_true, decide_eq_true_eq] at h5
      refine ⟨⟨⟨⟨h1, h2⟩, h3⟩, ?_⟩, ?_⟩ <;> omega
    · rintro ⟨⟨⟨⟨h1, h2⟩, h3⟩, h4⟩, h5⟩
      refine ⟨⟨⟨h1, h2⟩, h3⟩, ?_⟩
      omega
  rw [e]
  refine Holds.go (c := cxSoI) Try.func21 rfl Try.results21 Try.ntmps21 (by omega) (by simp) rfl ?_
  intro X0 w0
  (repeat' (first | refine WP.seq ?_ | refine WP.block ?_ | ((first | refine WP.region ?_ | refine WP.condW ?_ | refine WP.ret ?_ | refine WP.exit ?_ | refine WP.skip ?_); simp only [go_sem, tyAll, Nat.reduceAdd, Nat.reduceLT, Nat.reduceLeDiff, Nat.reduceEqDiff, Nat.reduceMul, Nat.reduceSub, Nat.reduceGT, reduceIte, Int.reduceNeg, Int.reduceToNat]) |  refine And.intro ?_ ?_ | intro _))
  all_goals first | omega | exact hP | exact hP.1 | exact hP.2.1 | exact hP.2.2 | exact hP.2.2 _ ‹_› | exact hP.1.1 | exact hP.1.1.1 | exact hP.1.1.2 | exact hP.1.1.2 _ ‹_› | exact (hP.1.1.2 _ ‹_›).1 | exact (hP.1.1.2 _ ‹_›).2.1 | exact (hP.1.1.2 _ ‹_›).2.2 _ ‹_› | exact hP.1.2.1 | exact hP.1.2.2 | rfl | (rename_i h; first | exact h.1 | exact h.2 | exact h.1.1 | exact h.1.2) | skip
  all_goals trace_state
end
section
noncomputable def cxSoS : Cx := { P := Try.prog, tys := tys, C := [(39, k60), (36, kPcOk), (37, kTmOk), (38, kRgOk)], hty := tysOk, hC := COk.cons c58 (COk.cons cPcOkS (COk.cons cTmOkS (COk.cons cRgOkS (COk.nil _)))) }
theorem cxSoS_t : cxSoS.tys = tys := rfl
theorem cxSoS_c : cxSoS.C = [(39, k60), (36, kPcOk), (37, kTmOk), (38, kRgOk)] := rfl
attribute [local go_sem] cxSoS_t cxSoS_c k60 kPcOk kTmOk kRgOk
theorem cSeOkS : Cn Try.prog 17 kSeOk := by
  refine Cn.pur Try.func17 (by kernel_rfl) rfl fun d x hx => ?_
  obtain ⟨⟨⟨I, B, E⟩, T, tu, le, sl⟩, ⟨p, q, l, st⟩, ⟨cp, R, wr, lo⟩, mo, sp, fi⟩ := x
  obtain ⟨hP, hR, hz⟩ := hx
  simp only [aggSe] at hP hR hz ⊢
  have e : sessOk (((I, B, E), T, tu, le, sl), ⟨p, q, l, st⟩, (cp, R, wr, lo), mo, sp, fi) = (procOk ((I, B, E), T, tu, le, sl) && tmOk ⟨p, q, l, st⟩ && ringOk (cp, R, wr, lo) && (decide (0 ≤ mo) && decide (mo ≤ 1200)) && (decide (0 ≤ sp) && decide (sp ≤ 1000000000000)) && (decide (0 ≤ fi) && decide (fi ≤ 1000000000000))) := by
    rw [Bool.eq_iff_iff]
    simp only [sessOk, Bool.and_eq_true, decide_eq_true_eq, and_assoc]
  rw [e]
  refine Holds.go (c := cxSoS) Try.func17 rfl Try.results17 Try.ntmps17 (by omega) (by simp) rfl ?_
  intro X0 w0
  (repeat' (first | refine WP.seq ?_ | refine WP.block ?_ | ((first | refine WP.region ?_ | refine WP.condW ?_ | refine WP.ret ?_ | refine WP.exit ?_ | refine WP.skip ?_); simp only [go_sem, tyAll, Nat.reduceAdd, Nat.reduceLT, Nat.reduceLeDiff, Nat.reduceEqDiff, Nat.reduceMul, Nat.reduceSub, Nat.reduceGT, reduceIte, Int.reduceNeg, Int.reduceToNat]) |  refine And.intro ?_ ?_ | intro _))
  all_goals first | omega | exact hP | exact hP.1 | exact hP.2.1 | exact hP.2.2 | exact hP.2.2 _ ‹_› | exact hP.1.1 | exact hP.1.1.1 | exact hP.1.1.2 | exact hP.1.1.2 _ ‹_› | exact (hP.1.1.2 _ ‹_›).1 | exact (hP.1.1.2 _ ‹_›).2.1 | exact (hP.1.1.2 _ ‹_›).2.2 _ ‹_› | exact hP.1.2.1 | exact hP.1.2.2 | rfl | (rename_i h; first | exact h.1 | exact h.2 | exact h.1.1 | exact h.1.2) | skip
  all_goals trace_state
end
end
end Go.Proofs.Ytoomncljmgcidaa
/-
  DERIVED. Sizes as plain functions: what is left is no more than it was, or -1.
-/
namespace Go.Proofs.Ytoomncljmgcidaa
def szA (n : Nat) (l : Int) : Int := if l - n < 0 then -1 else l - n
def szL : List (Int → Int) → Int → Int
  | [], l => l
  | f :: fs, l => if f l < 0 then -1 else szL fs (f l)
theorem szL_drop (F : List (Int → Int)) (k : Nat) (l : Int) (h : k < F.length) : szL (F.drop k) l = if F[k] l < 0 then -1 else szL (F.drop (k + 1)) (F[k] l) := by
  rw [List.drop_eq_getElem_cons h]; rfl
def szList (F : List (Int → Int)) (l : Int) : Int := if l - F.length < 0 then -1 else szL F (l - F.length)
/-- a size is taken off: what is left is no more than it was, or -1 -/
def Szf (f : Int → Int) : Prop := ∀ l, 0 ≤ l → -1 ≤ f l ∧ f l ≤ l
theorem szA_f (n : Nat) : Szf (szA n) := fun l h => by unfold szA; split <;> omega
theorem szL_f : ∀ (F : List (Int → Int)), (∀ f ∈ F, Szf f) → Szf (szL F)
  | [], _, l, h => by unfold szL; omega
  | f :: fs, hF, l, h => by
    have h1 := hF f List.mem_cons_self l h
    unfold szL
    split
    · omega
    · have := szL_f fs (fun g hg => hF g (List.mem_cons_of_mem _ hg)) (f l) (by omega)
      omega
theorem szList_f (F : List (Int → Int)) (hF : ∀ f ∈ F, Szf f) : Szf (szList F) := fun l h => by
  unfold szList
  split
  · omega
  · have := szL_f F hF (l - F.length) (by omega)
    omega
theorem szL_ok : ∀ (F : List (Int → Int)) (l : Int), (∀ f ∈ F, Szf f) → 0 ≤ l → 0 ≤ szL F l → ∀ f ∈ F, ∃ r, 0 ≤ r ∧ r ≤ l ∧ 0 ≤ f r
  | [], l, _, _, _ => by simp
  | g :: fs, l, hF, h0, h => by
    have h1 := hF g List.mem_cons_self l h0
    unfold szL at h
    split at h
    · omega
    · rename_i hg
      intro f hf
      rcases List.mem_cons.1 hf with rfl | hf
      · exact ⟨l, h0, by omega, by omega⟩
      · obtain ⟨r, a, b, c⟩ := szL_ok fs (g l) (fun g hg => hF g (List.mem_cons_of_mem _ hg)) (by omega) h f hf
        exact ⟨r, a, by omega, c⟩
theorem szList_ok {F : List (Int → Int)} {l : Int} (hF : ∀ f ∈ F, Szf f) (h : 0 ≤ szList F l) : F.length ≤ l ∧ ∀ f ∈ F, ∃ r, 0 ≤ r ∧ r ≤ l ∧ 0 ≤ f r := by
  unfold szList at h
  split at h
  · omega
  · refine ⟨by omega, fun f hf => ?_⟩
    obtain ⟨r, a, b, c⟩ := szL_ok F (l - F.length) hF (by omega) h f hf
    exact ⟨r, a, by omega, c⟩
theorem szf_neg {f : Int → Int} (hf : Szf f) {l : Int} (h0 : 0 ≤ l) (h : f l < 0) : f l = -1 := by have := hf l h0; omega
/-- one size, and then another of what it leaves -/
def szT (f g : Int → Int) (l : Int) : Int := if f l < 0 then -1 else g (f l)
theorem szT_f {f g : Int → Int} (hf : Szf f) (hg : Szf g) : Szf (szT f g) := fun l h => by
  have h1 := hf l h
  unfold szT
  split
  · omega
  · have := hg (f l) (by omega); omega
theorem szT_ok {f g : Int → Int} (hf : Szf f) {l : Int} (h0 : 0 ≤ l) (h : 0 ≤ szT f g l) : 0 ≤ f l ∧ f l ≤ l ∧ 0 ≤ g (f l) := by
  have h1 := hf l h0
  unfold szT at h
  split at h <;> omega
theorem szGo_f : ∀ (L : List Nat), Szf (szGo L)
  | [], l, h => by unfold szGo; omega
  | n :: L, l, h => by
    unfold szGo
    split
    · omega
    · have := szGo_f L (l - n) (by omega); omega
end Go.Proofs.Ytoomncljmgcidaa

