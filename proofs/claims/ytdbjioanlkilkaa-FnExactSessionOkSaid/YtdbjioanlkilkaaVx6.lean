/-
  DERIVED. Several texts of ours in one: VtSpaceOk, VcRo, VtSpaceS, VtTm.
-/
import Derived.Test.YtdbjioanlkilkaaVx0
import Derived.Test.YtdbjioanlkilkaaVx1
import Derived.Test.YtdbjioanlkilkaaVx2
import Derived.Test.YtdbjioanlkilkaaVx3
import Derived.Test.YtdbjioanlkilkaaVx4
import Derived.Test.YtdbjioanlkilkaaVx5
set_option linter.unusedSimpArgs false
set_option linter.unusedVariables false
namespace Go.Proofs.Ytdbjioanlkilkaa
open Go.Vc
attribute [local go_sem] St.runR St.runW St.stepV offV St.step St.stepU St.stepG mkCond guardB St.prK St.pr St.prLen St.eff St.callE St.callD St.callF St.callL aI aB aS aR aC St.isM St.argL Ctr.pure Ctr.lend Ctr.move Ctr.isL Ctr.wri pur len lentBy St.lentV St.lent1 nthS argsR restOf obsR pairs swapL unObs backL St.resL erL SV.ren1 SV.up SV.up2 Ob.up St.fzL cellIds partIds St.intoRow SV.ownId St.fz SV.fz1 St.prep St.mvL St.mv SV.re1 rnOk St.prEq vals eqCells scEq Value.kd St.prStr St.prCut cutR St.bnd St.prMin St.bld isShift outL retL outJ oR oC St.ev St.get St.put St.new St.kill SV.kill SV.kill1 Ob.kill St.app St.wrt St.rowsOf St.res St.killL lk er argsL SV.strip SV.need SV.share SV.share1 SV.owns SV.owns1 SV.owns2 SV.good SV.good1 SV.rok SV.rok1 SV.rok2 SV.isV SV.isV2 nodupN SV.cells SV.one SV.pur Ob.pb partsIn rowsIn splice cellsAt dstOk scal2 scal1 thenK blockK retK outK outs okC okL okA okT nilC nilL nilA nilT keepC keepL keepA keepT St.runG St.dltK St.least St.clean St.final St.hide offK badS badO SV.refs SV.leaf SV.leaf2 Ob.refs dlOk fpAt Go.Vc.cover tups SV.ofAgg St.out outC subL St.has rng wr Value.oneCell' Option.isSome_some Option.isSome_none List.nil_append Bool.false_eq_true List.map_cons List.map_nil List.all_cons List.all_nil List.length_cons List.length_nil List.drop_zero List.drop_succ_cons List.take_succ_cons List.take_zero List.drop_nil List.take_nil List.getElem?_cons_zero List.getElem?_cons_succ List.getElem?_nil List.cons_append List.nil_append List.append_nil List.append_assoc List.flatMap_cons List.flatMap_nil List.contains_cons List.contains_nil List.set_cons_zero List.set_cons_succ List.getElem?_toArray Option.getD_some Option.getD_none Option.map_some Option.map_none Option.bind_some Option.some.injEq Prod.mk.injEq if_true if_false true_and and_true and_self and_false false_and Bool.and_false Bool.false_and Bool.or_true Bool.true_or Bool.or_false Bool.false_or ne_eq not_true_eq_false not_false_eq_true decide_true decide_false List.mem_cons List.not_mem_nil List.filter_cons List.filter_nil List.any_cons List.any_nil List.isEmpty_nil List.isEmpty_cons Option.getD_none or_false false_or true_or or_true forall_eq_or_imp forall_eq reduceCtorEq exists_eq exists_eq' exists_eq_left' exists_eq_left exists_eq_right exists_eq_right' imp_self implies_true Bool.and_true Bool.true_and Bool.and_self beq_self_eq_true List.replicate_succ List.replicate_zero forall_const false_implies pickB_or pickB_and beqT beqF Int.toNat_natCast List.length_map List.length_replicate ge_iff_le gt_iff_lt decide_eq_true_eq decide_eq_false_iff_not Bool.and_eq_true Bool.or_eq_true Bool.not_eq_true' Bool.not_eq_false' condG List.toList_toArray Bool.or_eq_false_iff Bool.and_eq_false_iff Int.not_lt Int.not_le beq_iff_eq beq_eq_false_iff_ne bne_iff_ne bne_eq_false_iff_eq ne_eq Bool.not_true Bool.not_false exists_and_left
section
open Go.Vc
set_option linter.unusedSimpArgs false
set_option linter.unusedVariables false
set_option maxHeartbeats 1000000
set_option maxRecDepth 10000
attribute [local irreducible] Go.Vc.WP
attribute [local go_sem] cx0_t cx0_c
open Go.Pl
attribute [local go_sem] isV_Symbol decSymbol_enc oneSymbol_enc imgA decI_enc decImage_enc spA
theorem imgs2_succ (I : List Image) (B : List Int) (k : Nat) : imgs2 I B (k + 1) = (imgs2 I B k && (imageOk (I.getD k zImg).code (I.getD k zImg).symbols && decide (1 ≤ B.getD k 0 ∧ B.getD k 0 ≤ 1000000))) := by
  unfold imgs2
  rw [List.range_succ, List.all_append]; simp
theorem imgs2_mono {I : List Image} {B : List Int} {k : Nat} (h : imgs2 I B k = false) : ∀ m, imgs2 I B (k + m) = false
  | 0 => h
  | m + 1 => by rw [show k + (m + 1) = k + m + 1 by omega, imgs2_succ, imgs2_mono h m]; rfl
theorem imgs2_at {I : List Image} {B : List Int} {k j : Nat} (h : imgs2 I B k = true) (hj : j < k) : imageOk (I.getD j zImg).code (I.getD j zImg).symbols = true ∧ 1 ≤ B.getD j 0 ∧ B.getD j 0 ≤ 1000000 := by
  unfold imgs2 at h
  have := List.all_eq_true.1 h j (List.mem_range.2 hj)
  simpa using this
theorem sp_len {I : List Image} {B E : List Int} (h : ¬ (I.length = 2 ∧ B.length = 2 ∧ 1 ≤ E.length ∧ E.length ≤ 6)) : spaceOk I B E = false := by
  unfold spaceOk; rw [decide_eq_false h]; rfl
theorem sp_img {I : List Image} {B E : List Int} (h : imgs2 I B 2 = false) : spaceOk I B E = false := by
  unfold spaceOk; rw [h, Bool.and_false]; rfl
theorem sp_over {I : List Image} {B E : List Int} (h : overB I B = true) : spaceOk I B E = false := by
  unfold spaceOk; rw [h]; simp
theorem sp_ent {I : List Image} {B E : List Int} {k : Nat} (hk : k < E.length) (h : isEnt I B E[k] = false) : spaceOk I B E = false := by
  have : E.all (isEnt I B) = false := List.all_eq_false.2 ⟨_, List.getElem_mem hk, by rw [h]; simp⟩
  unfold spaceOk; rw [this, Bool.and_false]
theorem sp_ok {I : List Image} {B E : List Int} (h1 : I.length = 2 ∧ B.length = 2 ∧ 1 ≤ E.length ∧ E.length ≤ 6) (h2 : imgs2 I B 2 = true) (h3 : overB I B = false) (h4 : ∀ k (hk : k < E.length), isEnt I B E[k] = true) : spaceOk I B E = true := by
  have : E.all (isEnt I B) = true := List.all_eq_true.2 fun e he => by
    obtain ⟨k, hk, rfl⟩ := List.mem_iff_getElem.1 he
    exact h4 k hk
  unfold spaceOk; rw [decide_eq_true h1, h2, h3, this]; rfl
def preSp (x : List Image × List Int × List Int) : Prop := okImgs x.1 ∧ x.2.1.length ≤ 4194304 ∧ x.2.2.length ≤ 4194304
def kSpOk : Ctr := pur (fun args => spA args 0) (fun x => [.agg [.sl 2 (x.1.map encImage), .sl 1 (x.2.1.map encI), .sl 1 (x.2.2.map encI)]]) preSp (fun _ x => .v (.bool (spaceOk x.1 x.2.1 x.2.2))) (fun _ _ => [])
section
noncomputable def cxSpI : Cx := { P := Try.prog, tys := tys, C := [(55, k60), (144, kImgOk), (145, kEntr)], hty := tysOk, hC := COk.cons c60 (COk.cons cImgOkI (COk.cons cEntrI (COk.nil _))) }
theorem cxSpI_t : cxSpI.tys = tys := rfl
theorem cxSpI_c : cxSpI.C = [(55, k60), (144, kImgOk), (145, kEntr)] := rfl
attribute [local go_sem] cxSpI_t cxSpI_c k60 kImgOk kEntr
set_option maxHeartbeats 3000000 in
theorem cSpOkI : Cn Try.prog 114 kSpOk := by
  refine Cn.pur Try.func114 (by kernel_rfl) rfl fun d x hx => ?_
  obtain ⟨I, B, E⟩ := x
  obtain ⟨⟨hI, hIm⟩, hB, hE⟩ := hx
  simp only at hI hIm hB hE ⊢
  refine Holds.go (c := cxSpI) Try.func114 rfl Try.results114 Try.ntmps114 (by omega) (by simp) rfl ?_
  intro X0 w0
  by_cases hlen : I.length = 2 ∧ B.length = 2 ∧ 1 ≤ E.length ∧ E.length ≤ 6
  rotate_left
  · rw [sp_len hlen]
    by_cases l1 : (I.length : Int) = 2
    · by_cases l2 : (B.length : Int) = 2
      · have l3 : (decide ((1 : Int) ≤ E.length) && decide ((E.length : Int) ≤ 6)) = false := by
          rw [← Bool.decide_and]; exact decide_eq_false fun h => hlen ⟨by omega, by omega, by omega, by omega⟩
        (repeat' (first | refine WP.seq ?_ | refine WP.block ?_ | ((first | refine WP.region ?_ | refine WP.condW ?_ | refine WP.ret ?_ | refine WP.exit ?_ | refine WP.skip ?_); simp only [go_sem, l1, l2, l3, tyAll, Nat.reduceAdd, Nat.reduceLT, Nat.reduceLeDiff, Nat.reduceEqDiff, Nat.reduceMul, Nat.reduceSub, Nat.reduceGT, reduceIte, Int.reduceNeg, Int.reduceToNat]) | ((first | refine WP.drawW 13 (by decide +kernel) (by kernel_rfl) ?_ | refine WP.drawW 32 (by decide +kernel) (by kernel_rfl) ?_); simp only [go_sem, l1, l2, l3, tyAll, Nat.reduceAdd, Nat.reduceLT, Nat.reduceLeDiff, Nat.reduceEqDiff, Nat.reduceMul, Nat.reduceSub, Nat.reduceGT, reduceIte, Int.reduceNeg, Int.reduceToNat]) |  refine And.intro ?_ ?_ | intro _))
        all_goals first | omega | skip
        all_goals trace_state
      · (repeat' (first | refine WP.seq ?_ | refine WP.block ?_ | ((first | refine WP.region ?_ | refine WP.condW ?_ | refine WP.ret ?_ | refine WP.exit ?_ | refine WP.skip ?_); simp only [go_sem, l1, l2, tyAll, Nat.reduceAdd, Nat.reduceLT, Nat.reduceLeDiff, Nat.reduceEqDiff, Nat.reduceMul, Nat.reduceSub, Nat.reduceGT, reduceIte, Int.reduceNeg, Int.reduceToNat]) | ((first | refine WP.drawW 13 (by decide +kernel) (by kernel_rfl) ?_ | refine WP.drawW 32 (by decide +kernel) (by kernel_rfl) ?_); simp only [go_sem, l1, l2, tyAll, Nat.reduceAdd, Nat.reduceLT, Nat.reduceLeDiff, Nat.reduceEqDiff, Nat.reduceMul, Nat.reduceSub, Nat.reduceGT, reduceIte, Int.reduceNeg, Int.reduceToNat]) |  refine And.intro ?_ ?_ | intro _))
        all_goals first | omega | skip
        all_goals trace_state
    · (repeat' (first | refine WP.seq ?_ | refine WP.block ?_ | ((first | refine WP.region ?_ | refine WP.condW ?_ | refine WP.ret ?_ | refine WP.exit ?_ | refine WP.skip ?_); simp only [go_sem, l1, tyAll, Nat.reduceAdd, Nat.reduceLT, Nat.reduceLeDiff, Nat.reduceEqDiff, Nat.reduceMul, Nat.reduceSub, Nat.reduceGT, reduceIte, Int.reduceNeg, Int.reduceToNat]) | ((first | refine WP.drawW 13 (by decide +kernel) (by kernel_rfl) ?_ | refine WP.drawW 32 (by decide +kernel) (by kernel_rfl) ?_); simp only [go_sem, l1, tyAll, Nat.reduceAdd, Nat.reduceLT, Nat.reduceLeDiff, Nat.reduceEqDiff, Nat.reduceMul, Nat.reduceSub, Nat.reduceGT, reduceIte, Int.reduceNeg, Int.reduceToNat]) |  refine And.intro ?_ ?_ | intro _))
      all_goals first | omega | skip
      all_goals trace_state
  obtain ⟨g1, g2, g3, g4⟩ := hlen
  have l1 : (I.length : Int) = 2 := by omega
  have l2 : (B.length : Int) = 2 := by omega
  have l3 : (1 : Int) ≤ E.length := by omega
  have l4 : (E.length : Int) ≤ 6 := by omega
  (repeat' (first | refine WP.seq ?_ | refine WP.block ?_ | ((first | refine WP.region ?_ | refine WP.condW ?_ | refine WP.ret ?_ | refine WP.exit ?_ | refine WP.skip ?_); simp only [go_sem, l1, l2, l3, l4, tyAll, Nat.reduceAdd, Nat.reduceLT, Nat.reduceLeDiff, Nat.reduceEqDiff, Nat.reduceMul, Nat.reduceSub, Nat.reduceGT, reduceIte, Int.reduceNeg, Int.reduceToNat]) | ((first | refine WP.drawW 13 (by decide +kernel) (by kernel_rfl) ?_ | refine WP.drawW 32 (by decide +kernel) (by kernel_rfl) ?_); simp only [go_sem, l1, l2, l3, l4, tyAll, Nat.reduceAdd, Nat.reduceLT, Nat.reduceLeDiff, Nat.reduceEqDiff, Nat.reduceMul, Nat.reduceSub, Nat.reduceGT, reduceIte, Int.reduceNeg, Int.reduceToNat]) |  refine And.intro ?_ ?_ | intro _))
  all_goals first | omega | skip
  refine WP.loop (fun k : Nat => ⟨[(1, .ptr 1 0 0 0), (27, .v (.int .i64 2)), (28, .v (.int .i64 k))], [(1, .box 83 [.sl 2 (I.map encImage), .sl 1 (B.map encI), .sl 1 (E.map encI)])]⟩)
    (fun k => k ≤ 2 ∧ imgs2 I B k = true) (fun k => 2 - k) 0 ⟨by simp, rfl⟩ ?_ ?_
  · (simp only [go_sem, tyAll, Nat.reduceAdd, Nat.reduceLT, Nat.reduceLeDiff, Nat.reduceEqDiff, Nat.reduceMul, Nat.reduceSub, Nat.reduceGT, reduceIte, Int.reduceNeg, Int.reduceToNat] <;> (first | rfl | exact ⟨rfl, rfl⟩ | exact ⟨rfl, rfl, rfl⟩ | exact ⟨rfl, rfl, rfl, rfl⟩ | exact ⟨rfl, rfl, rfl, rfl, rfl⟩ | exact ⟨⟨rfl, rfl⟩, rfl⟩ | simp))
  intro k ⟨hk, hi2⟩
  by_cases hlt : k < 2
  · have hli : (k : Int) < 2 := by omega
    have hkI : k < I.length := by omega
    have hkB : k < B.length := by omega
    have hkIi : (k : Int) < I.length := by omega
    have hkBi : (k : Int) < B.length := by omega
    have hr := rowAt_map encImage I k hkI
    have hrb := rowAt_map encI B k hkB
    obtain ⟨p1, p2, p3⟩ := hIm _ (List.getElem_mem hkI)
    simp only at p1 p2 p3
    have hsu := imgs2_succ I B k
    rw [hi2, Bool.true_and, getD_img hkI, getD_int hkB] at hsu
    have hdn : imgs2 I B (k + 1) = false → imgs2 I B 2 = false := fun h => by
      have := imgs2_mono h (2 - (k + 1))
      rwa [show k + 1 + (2 - (k + 1)) = 2 by omega] at this
    cases hok : imageOk I[k].code I[k].symbols with
    | false =>
      rw [hok, Bool.false_and] at hsu
      rw [sp_img (hdn hsu)]
      (repeat' (first | refine WP.seq ?_ | refine WP.block ?_ | ((first | refine WP.region ?_ | refine WP.condW ?_ | refine WP.ret ?_ | refine WP.exit ?_ | refine WP.skip ?_); simp only [go_sem, hli, l1, l2, hr, encImage, hok, hrb, encI, tyAll, Nat.reduceAdd, Nat.reduceLT, Nat.reduceLeDiff, Nat.reduceEqDiff, Nat.reduceMul, Nat.reduceSub, Nat.reduceGT, reduceIte, Int.reduceNeg, Int.reduceToNat]) | ((first | refine WP.drawW 13 (by decide +kernel) (by kernel_rfl) ?_ | refine WP.drawW 32 (by decide +kernel) (by kernel_rfl) ?_); simp only [go_sem, hli, l1, l2, hr, encImage, hok, hrb, encI, tyAll, Nat.reduceAdd, Nat.reduceLT, Nat.reduceLeDiff, Nat.reduceEqDiff, Nat.reduceMul, Nat.reduceSub, Nat.reduceGT, reduceIte, Int.reduceNeg, Int.reduceToNat]) |  refine And.intro ?_ ?_ | intro _))
      all_goals first | omega | exact p3 _ ‹_› | skip
      all_goals trace_state
    | true =>
      by_cases hb : 1 ≤ B[k] ∧ B[k] ≤ 1000000
      · rw [hok, decide_eq_true hb] at hsu
        (repeat' (first | refine WP.seq ?_ | refine WP.block ?_ | ((first | refine WP.region ?_ | refine WP.condW ?_ | refine WP.ret ?_ | refine WP.exit ?_ | refine WP.skip ?_); simp only [go_sem, hli, l1, l2, hr, encImage, hok, hrb, encI, hb, tyAll, Nat.reduceAdd, Nat.reduceLT, Nat.reduceLeDiff, Nat.reduceEqDiff, Nat.reduceMul, Nat.reduceSub, Nat.reduceGT, reduceIte, Int.reduceNeg, Int.reduceToNat]) | ((first | refine WP.drawW 13 (by decide +kernel) (by kernel_rfl) ?_ | refine WP.drawW 32 (by decide +kernel) (by kernel_rfl) ?_); simp only [go_sem, hli, l1, l2, hr, encImage, hok, hrb, encI, hb, tyAll, Nat.reduceAdd, Nat.reduceLT, Nat.reduceLeDiff, Nat.reduceEqDiff, Nat.reduceMul, Nat.reduceSub, Nat.reduceGT, reduceIte, Int.reduceNeg, Int.reduceToNat]) |  refine And.intro ?_ ?_ | intro _))
        all_goals first | omega | exact p3 _ ‹_› | exact ⟨k + 1, ⟨by omega, hsu⟩, by omega, by (first | rfl | exact ⟨rfl, rfl⟩ | exact ⟨rfl, rfl, rfl⟩ | exact ⟨rfl, rfl, rfl, rfl⟩ | exact ⟨rfl, rfl, rfl, rfl, rfl⟩ | exact ⟨⟨rfl, rfl⟩, rfl⟩ | simp)⟩ | skip
        all_goals trace_state
      · rw [hok, decide_eq_false hb] at hsu
        rw [sp_img (hdn hsu)]
        have hb' : (decide (1 ≤ B[k]) && decide (B[k] ≤ 1000000)) = false := by rw [← Bool.decide_and]; exact decide_eq_false hb
        (repeat' (first | refine WP.seq ?_ | refine WP.block ?_ | ((first | refine WP.region ?_ | refine WP.condW ?_ | refine WP.ret ?_ | refine WP.exit ?_ | refine WP.skip ?_); simp only [go_sem, hli, l1, l2, hr, encImage, hok, hrb, encI, hb', tyAll, Nat.reduceAdd, Nat.reduceLT, Nat.reduceLeDiff, Nat.reduceEqDiff, Nat.reduceMul, Nat.reduceSub, Nat.reduceGT, reduceIte, Int.reduceNeg, Int.reduceToNat]) | ((first | refine WP.drawW 13 (by decide +kernel) (by kernel_rfl) ?_ | refine WP.drawW 32 (by decide +kernel) (by kernel_rfl) ?_); simp only [go_sem, hli, l1, l2, hr, encImage, hok, hrb, encI, hb', tyAll, Nat.reduceAdd, Nat.reduceLT, Nat.reduceLeDiff, Nat.reduceEqDiff, Nat.reduceMul, Nat.reduceSub, Nat.reduceGT, reduceIte, Int.reduceNeg, Int.reduceToNat]) |  refine And.intro ?_ ?_ | intro _))
        all_goals first | omega | exact p3 _ ‹_› | skip
        all_goals trace_state
  · have hge : ¬ (k : Int) < 2 := by omega
    obtain rfl : k = 2 := by omega
    have h0I : 0 < I.length := by omega
    have h1I : 1 < I.length := by omega
    have h0B : 0 < B.length := by omega
    have h1B : 1 < B.length := by omega
    have r0 := rowAt_map encImage I 0 h0I
    have r1 := rowAt_map encImage I 1 h1I
    have b0 := rowAt_map encI B 0 h0B
    have b1 := rowAt_map encI B 1 h1B
    obtain ⟨o0, q0, q0'⟩ := imgs2_at hi2 (j := 0) (by omega)
    obtain ⟨o1, q1, q1'⟩ := imgs2_at hi2 (j := 1) (by omega)
    rw [getD_int h0B] at q0 q0'
    rw [getD_int h1B] at q1 q1'
    have s0 := (hIm _ (List.getElem_mem h0I)).1
    have s1 := (hIm _ (List.getElem_mem h1I)).1
    simp only at s0 s1
    have hov : overB I B = (decide (0 < I[0].code.size) && decide (0 < I[1].code.size) && decide (B[0] < B[1] + I[1].code.size) && decide (B[1] < B[0] + I[0].code.size)) := by
      unfold overB; rw [getD_img h0I, getD_img h1I, getD_int h0B, getD_int h1B]
    have c02 : (0 : Int) < 2 := by omega
    have c12 : (1 : Int) < 2 := by omega
    have t1 : (1 : Int).toNat = 1 := rfl
    have hBn : ∀ b ∈ B, 0 ≤ b ∧ b ≤ 1000000000000 := fun b hb => by
      obtain ⟨j, hj, rfl⟩ := List.mem_iff_getElem.1 hb
      have := (imgs2_at hi2 (j := j) (by omega)).2
      rw [getD_int hj] at this
      omega
    have hst : ∀ i ∈ I, ∀ y ∈ i.symbols, 0 ≤ y.start ∧ y.start ≤ 1000000000000 := fun i hi y hy => by
      obtain ⟨j, hj, rfl⟩ := List.mem_iff_getElem.1 hi
      have := (imgs2_at hi2 (j := j) (by omega)).1
      rw [getD_img hj] at this
      obtain ⟨A, hA⟩ := img_chain this
      obtain ⟨m, hm, rfl⟩ := List.mem_iff_getElem.1 hy
      have h1 := hA.lt hm
      have h2 := hA.big
      omega
    cases ho : overB I B with
    | true =>
      rw [sp_over ho]
      rw [ho] at hov
      have hov := hov.symm
      simp only [Bool.and_eq_true, decide_eq_true_eq] at hov
      obtain ⟨⟨⟨v1, v2⟩, v3⟩, v4⟩ := hov
      have v1i : (0 : Int) < I[0].code.size := by omega
      have v2i : (0 : Int) < I[1].code.size := by omega
      (repeat' (first | refine WP.seq ?_ | refine WP.block ?_ | ((first | refine WP.region ?_ | refine WP.condW ?_ | refine WP.ret ?_ | refine WP.exit ?_ | refine WP.skip ?_); simp only [go_sem, hge, l1, l2, c02, c12, t1, r0, r1, b0, b1, encImage, encI, v1i, v2i, v3, v4, tyAll, Nat.reduceAdd, Nat.reduceLT, Nat.reduceLeDiff, Nat.reduceEqDiff, Nat.reduceMul, Nat.reduceSub, Nat.reduceGT, reduceIte, Int.reduceNeg, Int.reduceToNat]) | ((first | refine WP.drawW 13 (by decide +kernel) (by kernel_rfl) ?_ | refine WP.drawW 32 (by decide +kernel) (by kernel_rfl) ?_); simp only [go_sem, hge, l1, l2, c02, c12, t1, r0, r1, b0, b1, encImage, encI, v1i, v2i, v3, v4, tyAll, Nat.reduceAdd, Nat.reduceLT, Nat.reduceLeDiff, Nat.reduceEqDiff, Nat.reduceMul, Nat.reduceSub, Nat.reduceGT, reduceIte, Int.reduceNeg, Int.reduceToNat]) |  refine And.intro ?_ ?_ | intro _))
      all_goals first | omega | skip
      all_goals trace_state
    | false =>
      rw [ho] at hov
      have hloop : ∀ k (hk : k < E.length), isEnt I B E[k] = false → spaceOk I B E = false := fun k hk h => sp_ent hk h
      have hyes := sp_ok (I := I) (B := B) (E := E) ⟨g1, g2, g3, g4⟩ hi2 ho
      by_cases v1 : (0 : Int) < I[0].code.size
      · by_cases v2 : (0 : Int) < I[1].code.size
        · by_cases v3 : B[0] < B[1] + (I[1].code.size : Int)
          · have v4 : ¬ B[1] < B[0] + (I[0].code.size : Int) := fun h => by
              rw [decide_eq_true (by omega : 0 < I[0].code.size), decide_eq_true (by omega : 0 < I[1].code.size), decide_eq_true v3, decide_eq_true h] at hov
              cases hov
            (repeat' (first | refine WP.seq ?_ | refine WP.block ?_ | ((first | refine WP.region ?_ | refine WP.condW ?_ | refine WP.ret ?_ | refine WP.exit ?_ | refine WP.skip ?_); simp only [go_sem, hge, l1, l2, c02, c12, t1, r0, r1, b0, b1, encImage, encI, v1, v2, v3, v4, tyAll, Nat.reduceAdd, Nat.reduceLT, Nat.reduceLeDiff, Nat.reduceEqDiff, Nat.reduceMul, Nat.reduceSub, Nat.reduceGT, reduceIte, Int.reduceNeg, Int.reduceToNat]) | ((first | refine WP.drawW 13 (by decide +kernel) (by kernel_rfl) ?_ | refine WP.drawW 32 (by decide +kernel) (by kernel_rfl) ?_); simp only [go_sem, hge, l1, l2, c02, c12, t1, r0, r1, b0, b1, encImage, encI, v1, v2, v3, v4, tyAll, Nat.reduceAdd, Nat.reduceLT, Nat.reduceLeDiff, Nat.reduceEqDiff, Nat.reduceMul, Nat.reduceSub, Nat.reduceGT, reduceIte, Int.reduceNeg, Int.reduceToNat]) |  refine And.intro ?_ ?_ | intro _))
            all_goals first | omega | skip
            refine WP.loop (fun k : Nat => ⟨[(1, .ptr 1 0 0 0), (93, .sl 1 (E.map encI)), (94, .v (.int .i64 E.length)), (95, .v (.int .i64 k))], [(1, .box 83 [.sl 2 (I.map encImage), .sl 1 (B.map encI), .sl 1 (E.map encI)])]⟩)
              (fun k => k ≤ E.length ∧ ∀ i (hi : i < E.length), i < k → isEnt I B E[i] = true) (fun k => E.length - k) 0 (by simp) ?_ ?_
            · (simp only [go_sem, tyAll, Nat.reduceAdd, Nat.reduceLT, Nat.reduceLeDiff, Nat.reduceEqDiff, Nat.reduceMul, Nat.reduceSub, Nat.reduceGT, reduceIte, Int.reduceNeg, Int.reduceToNat] <;> (first | rfl | exact ⟨rfl, rfl⟩ | exact ⟨rfl, rfl, rfl⟩ | exact ⟨rfl, rfl, rfl, rfl⟩ | exact ⟨rfl, rfl, rfl, rfl, rfl⟩ | exact ⟨⟨rfl, rfl⟩, rfl⟩ | simp))
            intro k ⟨hk, hf⟩
            by_cases hlt : k < E.length
            · have hli : (k : Int) < E.length := by omega
              have hre := rowAt_map encI E k hlt
              cases he : isEnt I B E[k] with
              | true =>
                (repeat' (first | refine WP.seq ?_ | refine WP.block ?_ | ((first | refine WP.region ?_ | refine WP.condW ?_ | refine WP.ret ?_ | refine WP.exit ?_ | refine WP.skip ?_); simp only [go_sem, hli, hre, encI, he, tyAll, Nat.reduceAdd, Nat.reduceLT, Nat.reduceLeDiff, Nat.reduceEqDiff, Nat.reduceMul, Nat.reduceSub, Nat.reduceGT, reduceIte, Int.reduceNeg, Int.reduceToNat]) | ((first | refine WP.drawW 13 (by decide +kernel) (by kernel_rfl) ?_ | refine WP.drawW 32 (by decide +kernel) (by kernel_rfl) ?_); simp only [go_sem, hli, hre, encI, he, tyAll, Nat.reduceAdd, Nat.reduceLT, Nat.reduceLeDiff, Nat.reduceEqDiff, Nat.reduceMul, Nat.reduceSub, Nat.reduceGT, reduceIte, Int.reduceNeg, Int.reduceToNat]) |  refine And.intro ?_ ?_ | intro _))
                all_goals first | omega | exact (hIm _ ‹_›).1 | exact (hIm _ ‹_›).2.1 | exact (hIm _ ‹_›).2.2 _ ‹_› | exact g2.trans g1.symm | exact (hBn _ ‹_›).1 | exact (hBn _ ‹_›).2 | exact (hst _ ‹_› _ ‹_›).1 | exact (hst _ ‹_› _ ‹_›).2 | exact hIm _ ‹_› | exact ⟨k + 1, ⟨by omega, fun i hi hik => by
                  rcases Nat.lt_or_ge i k with h | h
                  · exact hf i hi h
                  · have : i = k := by omega
                    subst this; exact he⟩, by omega, by (first | rfl | exact ⟨rfl, rfl⟩ | exact ⟨rfl, rfl, rfl⟩ | exact ⟨rfl, rfl, rfl, rfl⟩ | exact ⟨rfl, rfl, rfl, rfl, rfl⟩ | exact ⟨⟨rfl, rfl⟩, rfl⟩ | simp)⟩ | skip
                all_goals trace_state
              | false =>
                rw [hloop k hlt he]
                (repeat' (first | refine WP.seq ?_ | refine WP.block ?_ | ((first | refine WP.region ?_ | refine WP.condW ?_ | refine WP.ret ?_ | refine WP.exit ?_ | refine WP.skip ?_); simp only [go_sem, hli, hre, encI, he, tyAll, Nat.reduceAdd, Nat.reduceLT, Nat.reduceLeDiff, Nat.reduceEqDiff, Nat.reduceMul, Nat.reduceSub, Nat.reduceGT, reduceIte, Int.reduceNeg, Int.reduceToNat]) | ((first | refine WP.drawW 13 (by decide +kernel) (by kernel_rfl) ?_ | refine WP.drawW 32 (by decide +kernel) (by kernel_rfl) ?_); simp only [go_sem, hli, hre, encI, he, tyAll, Nat.reduceAdd, Nat.reduceLT, Nat.reduceLeDiff, Nat.reduceEqDiff, Nat.reduceMul, Nat.reduceSub, Nat.reduceGT, reduceIte, Int.reduceNeg, Int.reduceToNat]) |  refine And.intro ?_ ?_ | intro _))
                all_goals first | omega | exact (hIm _ ‹_›).1 | exact (hIm _ ‹_›).2.1 | exact (hIm _ ‹_›).2.2 _ ‹_› | exact g2.trans g1.symm | exact (hBn _ ‹_›).1 | exact (hBn _ ‹_›).2 | exact (hst _ ‹_› _ ‹_›).1 | exact (hst _ ‹_› _ ‹_›).2 | exact hIm _ ‹_› | skip
                all_goals trace_state
            · have hge2 : ¬ (k : Int) < E.length := by omega
              rw [hyes fun i hi => hf i hi (by omega)]
              (repeat' (first | refine WP.seq ?_ | refine WP.block ?_ | ((first | refine WP.region ?_ | refine WP.condW ?_ | refine WP.ret ?_ | refine WP.exit ?_ | refine WP.skip ?_); simp only [go_sem, hge2, tyAll, Nat.reduceAdd, Nat.reduceLT, Nat.reduceLeDiff, Nat.reduceEqDiff, Nat.reduceMul, Nat.reduceSub, Nat.reduceGT, reduceIte, Int.reduceNeg, Int.reduceToNat]) | ((first | refine WP.drawW 13 (by decide +kernel) (by kernel_rfl) ?_ | refine WP.drawW 32 (by decide +kernel) (by kernel_rfl) ?_); simp only [go_sem, hge2, tyAll, Nat.reduceAdd, Nat.reduceLT, Nat.reduceLeDiff, Nat.reduceEqDiff, Nat.reduceMul, Nat.reduceSub, Nat.reduceGT, reduceIte, Int.reduceNeg, Int.reduceToNat]) |  refine And.intro ?_ ?_ | intro _))
              all_goals first | omega | skip
              all_goals trace_state
          · (repeat' (first | refine WP.seq ?_ | refine WP.block ?_ | ((first | refine WP.region ?_ | refine WP.condW ?_ | refine WP.ret ?_ | refine WP.exit ?_ | refine WP.skip ?_); simp only [go_sem, hge, l1, l2, c02, c12, t1, r0, r1, b0, b1, encImage, encI, v1, v2, v3, tyAll, Nat.reduceAdd, Nat.reduceLT, Nat.reduceLeDiff, Nat.reduceEqDiff, Nat.reduceMul, Nat.reduceSub, Nat.reduceGT, reduceIte, Int.reduceNeg, Int.reduceToNat]) | ((first | refine WP.drawW 13 (by decide +kernel) (by kernel_rfl) ?_ | refine WP.drawW 32 (by decide +kernel) (by kernel_rfl) ?_); simp only [go_sem, hge, l1, l2, c02, c12, t1, r0, r1, b0, b1, encImage, encI, v1, v2, v3, tyAll, Nat.reduceAdd, Nat.reduceLT, Nat.reduceLeDiff, Nat.reduceEqDiff, Nat.reduceMul, Nat.reduceSub, Nat.reduceGT, reduceIte, Int.reduceNeg, Int.reduceToNat]) |  refine And.intro ?_ ?_ | intro _))
            all_goals first | omega | skip
            refine WP.loop (fun k : Nat => ⟨[(1, .ptr 1 0 0 0), (93, .sl 1 (E.map encI)), (94, .v (.int .i64 E.length)), (95, .v (.int .i64 k))], [(1, .box 83 [.sl 2 (I.map encImage), .sl 1 (B.map encI), .sl 1 (E.map encI)])]⟩)
              (fun k => k ≤ E.length ∧ ∀ i (hi : i < E.length), i < k → isEnt I B E[i] = true) (fun k => E.length - k) 0 (by simp) ?_ ?_
            · (simp only [go_sem, tyAll, Nat.reduceAdd, Nat.reduceLT, Nat.reduceLeDiff, Nat.reduceEqDiff, Nat.reduceMul, Nat.reduceSub, Nat.reduceGT, reduceIte, Int.reduceNeg, Int.reduceToNat] <;> (first | rfl | exact ⟨rfl, rfl⟩ | exact ⟨rfl, rfl, rfl⟩ | exact ⟨rfl, rfl, rfl, rfl⟩ | exact ⟨rfl, rfl, rfl, rfl, rfl⟩ | exact ⟨⟨rfl, rfl⟩, rfl⟩ | simp))
            intro k ⟨hk, hf⟩
            by_cases hlt : k < E.length
            · have hli : (k : Int) < E.length := by omega
              have hre := rowAt_map encI E k hlt
              cases he : isEnt I B E[k] with
              | true =>
                (repeat' (first | refine WP.seq ?_ | refine WP.block ?_ | ((first | refine WP.region ?_ | refine WP.condW ?_ | refine WP.ret ?_ | refine WP.exit ?_ | refine WP.skip ?_); simp only [go_sem, hli, hre, encI, he, tyAll, Nat.reduceAdd, Nat.reduceLT, Nat.reduceLeDiff, Nat.reduceEqDiff, Nat.reduceMul, Nat.reduceSub, Nat.reduceGT, reduceIte, Int.reduceNeg, Int.reduceToNat]) | ((first | refine WP.drawW 13 (by decide +kernel) (by kernel_rfl) ?_ | refine WP.drawW 32 (by decide +kernel) (by kernel_rfl) ?_); simp only [go_sem, hli, hre, encI, he, tyAll, Nat.reduceAdd, Nat.reduceLT, Nat.reduceLeDiff, Nat.reduceEqDiff, Nat.reduceMul, Nat.reduceSub, Nat.reduceGT, reduceIte, Int.reduceNeg, Int.reduceToNat]) |  refine And.intro ?_ ?_ | intro _))
                all_goals first | omega | exact (hIm _ ‹_›).1 | exact (hIm _ ‹_›).2.1 | exact (hIm _ ‹_›).2.2 _ ‹_› | exact g2.trans g1.symm | exact (hBn _ ‹_›).1 | exact (hBn _ ‹_›).2 | exact (hst _ ‹_› _ ‹_›).1 | exact (hst _ ‹_› _ ‹_›).2 | exact hIm _ ‹_› | exact ⟨k + 1, ⟨by omega, fun i hi hik => by
                  rcases Nat.lt_or_ge i k with h | h
                  · exact hf i hi h
                  · have : i = k := by omega
                    subst this; exact he⟩, by omega, by (first | rfl | exact ⟨rfl, rfl⟩ | exact ⟨rfl, rfl, rfl⟩ | exact ⟨rfl, rfl, rfl, rfl⟩ | exact ⟨rfl, rfl, rfl, rfl, rfl⟩ | exact ⟨⟨rfl, rfl⟩, rfl⟩ | simp)⟩ | skip
                all_goals trace_state
              | false =>
                rw [hloop k hlt he]
                (repeat' (first | refine WP.seq ?_ | refine WP.block ?_ | ((first | refine WP.region ?_ | refine WP.condW ?_ | refine WP.ret ?_ | refine WP.exit ?_ | refine WP.skip ?_); simp only [go_sem, hli, hre, encI, he, tyAll, Nat.reduceAdd, Nat.reduceLT, Nat.reduceLeDiff, Nat.reduceEqDiff, Nat.reduceMul, Nat.reduceSub, Nat.reduceGT, reduceIte, Int.reduceNeg, Int.reduceToNat]) | ((first | refine WP.drawW 13 (by decide +kernel) (by kernel_rfl) ?_ | refine WP.drawW 32 (by decide +kernel) (by kernel_rfl) ?_); simp only [go_sem, hli, hre, encI, he, tyAll, Nat.reduceAdd, Nat.reduceLT, Nat.reduceLeDiff, Nat.reduceEqDiff, Nat.reduceMul, Nat.reduceSub, Nat.reduceGT, reduceIte, Int.reduceNeg, Int.reduceToNat]) |  refine And.intro ?_ ?_ | intro _))
                all_goals first | omega | exact (hIm _ ‹_›).1 | exact (hIm _ ‹_›).2.1 | exact (hIm _ ‹_›).2.2 _ ‹_› | exact g2.trans g1.symm | exact (hBn _ ‹_›).1 | exact (hBn _ ‹_›).2 | exact (hst _ ‹_› _ ‹_›).1 | exact (hst _ ‹_› _ ‹_›).2 | exact hIm _ ‹_› | skip
                all_goals trace_state
            · have hge2 : ¬ (k : Int) < E.length := by omega
              rw [hyes fun i hi => hf i hi (by omega)]
              (repeat' (first | refine WP.seq ?_ | refine WP.block ?_ | ((first | refine WP.region ?_ | refine WP.condW ?_ | refine WP.ret ?_ | refine WP.exit ?_ | refine WP.skip ?_); simp only [go_sem, hge2, tyAll, Nat.reduceAdd, Nat.reduceLT, Nat.reduceLeDiff, Nat.reduceEqDiff, Nat.reduceMul, Nat.reduceSub, Nat.reduceGT, reduceIte, Int.reduceNeg, Int.reduceToNat]) | ((first | refine WP.drawW 13 (by decide +kernel) (by kernel_rfl) ?_ | refine WP.drawW 32 (by decide +kernel) (by kernel_rfl) ?_); simp only [go_sem, hge2, tyAll, Nat.reduceAdd, Nat.reduceLT, Nat.reduceLeDiff, Nat.reduceEqDiff, Nat.reduceMul, Nat.reduceSub, Nat.reduceGT, reduceIte, Int.reduceNeg, Int.reduceToNat]) |  refine And.intro ?_ ?_ | intro _))
              all_goals first | omega | skip
              all_goals trace_state
        · (repeat' (first | refine WP.seq ?_ | refine WP.block ?_ | ((first | refine WP.region ?_ | refine WP.condW ?_ | refine WP.ret ?_ | refine WP.exit ?_ | refine WP.skip ?_); simp only [go_sem, hge, l1, l2, c02, c12, t1, r0, r1, b0, b1, encImage, encI, v1, v2, tyAll, Nat.reduceAdd, Nat.reduceLT, Nat.reduceLeDiff, Nat.reduceEqDiff, Nat.reduceMul, Nat.reduceSub, Nat.reduceGT, reduceIte, Int.reduceNeg, Int.reduceToNat]) | ((first | refine WP.drawW 13 (by decide +kernel) (by kernel_rfl) ?_ | refine WP.drawW 32 (by decide +kernel) (by kernel_rfl) ?_); simp only [go_sem, hge, l1, l2, c02, c12, t1, r0, r1, b0, b1, encImage, encI, v1, v2, tyAll, Nat.reduceAdd, Nat.reduceLT, Nat.reduceLeDiff, Nat.reduceEqDiff, Nat.reduceMul, Nat.reduceSub, Nat.reduceGT, reduceIte, Int.reduceNeg, Int.reduceToNat]) |  refine And.intro ?_ ?_ | intro _))
          all_goals first | omega | skip
          refine WP.loop (fun k : Nat => ⟨[(1, .ptr 1 0 0 0), (93, .sl 1 (E.map encI)), (94, .v (.int .i64 E.length)), (95, .v (.int .i64 k))], [(1, .box 83 [.sl 2 (I.map encImage), .sl 1 (B.map encI), .sl 1 (E.map encI)])]⟩)
            (fun k => k ≤ E.length ∧ ∀ i (hi : i < E.length), i < k → isEnt I B E[i] = true) (fun k => E.length - k) 0 (by simp) ?_ ?_
          · (simp only [go_sem, tyAll, Nat.reduceAdd, Nat.reduceLT, Nat.reduceLeDiff, Nat.reduceEqDiff, Nat.reduceMul, Nat.reduceSub, Nat.reduceGT, reduceIte, Int.reduceNeg, Int.reduceToNat] <;> (first | rfl | exact ⟨rfl, rfl⟩ | exact ⟨rfl, rfl, rfl⟩ | exact ⟨rfl, rfl, rfl, rfl⟩ | exact ⟨rfl, rfl, rfl, rfl, rfl⟩ | exact ⟨⟨rfl, rfl⟩, rfl⟩ | simp))
          intro k ⟨hk, hf⟩
          by_cases hlt : k < E.length
          · have hli : (k : Int) < E.length := by omega
            have hre := rowAt_map encI E k hlt
            cases he : isEnt I B E[k] with
            | true =>
              (repeat' (first | refine WP.seq ?_ | refine WP.block ?_ | ((first | refine WP.region ?_ | refine WP.condW ?_ | refine WP.ret ?_ | refine WP.exit ?_ | refine WP.skip ?_); simp only [go_sem, hli, hre, encI, he, tyAll, Nat.reduceAdd, Nat.reduceLT, Nat.reduceLeDiff, Nat.reduceEqDiff, Nat.reduceMul, Nat.reduceSub, Nat.reduceGT, reduceIte, Int.reduceNeg, Int.reduceToNat]) | ((first | refine WP.drawW 13 (by decide +kernel) (by kernel_rfl) ?_ | refine WP.drawW 32 (by decide +kernel) (by kernel_rfl) ?_); simp only [go_sem, hli, hre, encI, he, tyAll, Nat.reduceAdd, Nat.reduceLT, Nat.reduceLeDiff, Nat.reduceEqDiff, Nat.reduceMul, Nat.reduceSub, Nat.reduceGT, reduceIte, Int.reduceNeg, Int.reduceToNat]) |  refine And.intro ?_ ?_ | intro _))
              all_goals first | omega | exact (hIm _ ‹_›).1 | exact (hIm _ ‹_›).2.1 | exact (hIm _ ‹_›).2.2 _ ‹_› | exact g2.trans g1.symm | exact (hBn _ ‹_›).1 | exact (hBn _ ‹_›).2 | exact (hst _ ‹_› _ ‹_›).1 | exact (hst _ ‹_› _ ‹_›).2 | exact hIm _ ‹_› | exact ⟨k + 1, ⟨by omega, fun i hi hik => by
                rcases Nat.lt_or_ge i k with h | h
                · exact hf i hi h
                · have : i = k := by omega
                  subst this; exact he⟩, by omega, by (first | rfl | exact ⟨rfl, rfl⟩ | exact ⟨rfl, rfl, rfl⟩ | exact ⟨rfl, rfl, rfl, rfl⟩ | exact ⟨rfl, rfl, rfl, rfl, rfl⟩ | exact ⟨⟨rfl, rfl⟩, rfl⟩ | simp)⟩ | skip
              all_goals trace_state
            | false =>
              rw [hloop k hlt he]
              (repeat' (first | refine WP.seq ?_ | refine WP.block ?_ | ((first | refine WP.region ?_ | refine WP.condW ?_ | refine WP.ret ?_ | refine WP.exit ?_ | refine WP.skip ?_); simp only [go_sem, hli, hre, encI, he, tyAll, Nat.reduceAdd, Nat.reduceLT, Nat.reduceLeDiff, Nat.reduceEqDiff, Nat.reduceMul, Nat.reduceSub, Nat.reduceGT, reduceIte, Int.reduceNeg, Int.reduceToNat]) | ((first | refine WP.drawW 13 (by decide +kernel) (by kernel_rfl) ?_ | refine WP.drawW 32 (by decide +kernel) (by kernel_rfl) ?_); simp only [go_sem, hli, hre, encI, he, tyAll, Nat.reduceAdd, Nat.reduceLT, Nat.reduceLeDiff, Nat.reduceEqDiff, Nat.reduceMul, Nat.reduceSub, Nat.reduceGT, reduceIte, Int.reduceNeg, Int.reduceToNat]) |  refine And.intro ?_ ?_ | intro _))
              all_goals first | omega | exact (hIm _ ‹_›).1 | exact (hIm _ ‹_›).2.1 | exact (hIm _ ‹_›).2.2 _ ‹_› | exact g2.trans g1.symm | exact (hBn _ ‹_›).1 | exact (hBn _ ‹_›).2 | exact (hst _ ‹_› _ ‹_›).1 | exact (hst _ ‹_› _ ‹_›).2 | exact hIm _ ‹_› | skip
              all_goals trace_state
          · have hge2 : ¬ (k : Int) < E.length := by omega
            rw [hyes fun i hi => hf i hi (by omega)]
            (repeat' (first | refine WP.seq ?_ | refine WP.block ?_ | ((first | refine WP.region ?_ | refine WP.condW ?_ | refine WP.ret ?_ | refine WP.exit ?_ | refine WP.skip ?_); simp only [go_sem, hge2, tyAll, Nat.reduceAdd, Nat.reduceLT, Nat.reduceLeDiff, Nat.reduceEqDiff, Nat.reduceMul, Nat.reduceSub, Nat.reduceGT, reduceIte, Int.reduceNeg, Int.reduceToNat]) | ((first | refine WP.drawW 13 (by decide +kernel) (by kernel_rfl) ?_ | refine WP.drawW 32 (by decide +kernel) (by kernel_rfl) ?_); simp only [go_sem, hge2, tyAll, Nat.reduceAdd, Nat.reduceLT, Nat.reduceLeDiff, Nat.reduceEqDiff, Nat.reduceMul, Nat.reduceSub, Nat.reduceGT, reduceIte, Int.reduceNeg, Int.reduceToNat]) |  refine And.intro ?_ ?_ | intro _))
            all_goals first | omega | skip
            all_goals trace_state
      · (repeat' (first | refine WP.seq ?_ | refine WP.block ?_ | ((first | refine WP.region ?_ | refine WP.condW ?_ | refine WP.ret ?_ | refine WP.exit ?_ | refine WP.skip ?_); simp only [go_sem, hge, l1, l2, c02, c12, t1, r0, r1, b0, b1, encImage, encI, v1, tyAll, Nat.reduceAdd, Nat.reduceLT, Nat.reduceLeDiff, Nat.reduceEqDiff, Nat.reduceMul, Nat.reduceSub, Nat.reduceGT, reduceIte, Int.reduceNeg, Int.reduceToNat]) | ((first | refine WP.drawW 13 (by decide +kernel) (by kernel_rfl) ?_ | refine WP.drawW 32 (by decide +kernel) (by kernel_rfl) ?_); simp only [go_sem, hge, l1, l2, c02, c12, t1, r0, r1, b0, b1, encImage, encI, v1, tyAll, Nat.reduceAdd, Nat.reduceLT, Nat.reduceLeDiff, Nat.reduceEqDiff, Nat.reduceMul, Nat.reduceSub, Nat.reduceGT, reduceIte, Int.reduceNeg, Int.reduceToNat]) |  refine And.intro ?_ ?_ | intro _))
        all_goals first | omega | skip
        refine WP.loop (fun k : Nat => ⟨[(1, .ptr 1 0 0 0), (93, .sl 1 (E.map encI)), (94, .v (.int .i64 E.length)), (95, .v (.int .i64 k))], [(1, .box 83 [.sl 2 (I.map encImage), .sl 1 (B.map encI), .sl 1 (E.map encI)])]⟩)
          (fun k => k ≤ E.length ∧ ∀ i (hi : i < E.length), i < k → isEnt I B E[i] = true) (fun k => E.length - k) 0 (by simp) ?_ ?_
        · (simp only [go_sem, tyAll, Nat.reduceAdd, Nat.reduceLT, Nat.reduceLeDiff, Nat.reduceEqDiff, Nat.reduceMul, Nat.reduceSub, Nat.reduceGT, reduceIte, Int.reduceNeg, Int.reduceToNat] <;> (first | rfl | exact ⟨rfl, rfl⟩ | exact ⟨rfl, rfl, rfl⟩ | exact ⟨rfl, rfl, rfl, rfl⟩ | exact ⟨rfl, rfl, rfl, rfl, rfl⟩ | exact ⟨⟨rfl, rfl⟩, rfl⟩ | simp))
        intro k ⟨hk, hf⟩
        by_cases hlt : k < E.length
        · have hli : (k : Int) < E.length := by omega
          have hre := rowAt_map encI E k hlt
          cases he : isEnt I B E[k] with
          | true =>
            (repeat' (first | refine WP.seq ?_ | refine WP.block ?_ | ((first | refine WP.region ?_ | refine WP.condW ?_ | refine WP.ret ?_ | refine WP.exit ?_ | refine WP.skip ?_); simp only [go_sem, hli, hre, encI, he, tyAll, Nat.reduceAdd, Nat.reduceLT, Nat.reduceLeDiff, Nat.reduceEqDiff, Nat.reduceMul, Nat.reduceSub, Nat.reduceGT, reduceIte, Int.reduceNeg, Int.reduceToNat]) | ((first | refine WP.drawW 13 (by decide +kernel) (by kernel_rfl) ?_ | refine WP.drawW 32 (by decide +kernel) (by kernel_rfl) ?_); simp only [go_sem, hli, hre, encI, he, tyAll, Nat.reduceAdd, Nat.reduceLT, Nat.reduceLeDiff, Nat.reduceEqDiff, Nat.reduceMul, Nat.reduceSub, Nat.reduceGT, reduceIte, Int.reduceNeg, Int.reduceToNat]) |  refine And.intro ?_ ?_ | intro _))
            all_goals first | omega | exact (hIm _ ‹_›).1 | exact (hIm _ ‹_›).2.1 | exact (hIm _ ‹_›).2.2 _ ‹_› | exact g2.trans g1.symm | exact (hBn _ ‹_›).1 | exact (hBn _ ‹_›).2 | exact (hst _ ‹_› _ ‹_›).1 | exact (hst _ ‹_› _ ‹_›).2 | exact hIm _ ‹_› | exact ⟨k + 1, ⟨by omega, fun i hi hik => by
              rcases Nat.lt_or_ge i k with h | h
              · exact hf i hi h
              · have : i = k := by omega
                subst this; exact he⟩, by omega, by (first | rfl | exact ⟨rfl, rfl⟩ | exact ⟨rfl, rfl, rfl⟩ | exact ⟨rfl, rfl, rfl, rfl⟩ | exact ⟨rfl, rfl, rfl, rfl, rfl⟩ | exact ⟨⟨rfl, rfl⟩, rfl⟩ | simp)⟩ | skip
            all_goals trace_state
          | false =>
            rw [hloop k hlt he]
            (repeat' (first | refine WP.seq ?_ | refine WP.block ?_ | ((first | refine WP.region ?_ | refine WP.condW ?_ | refine WP.ret ?_ | refine WP.exit ?_ | refine WP.skip ?_); simp only [go_sem, hli, hre, encI, he, tyAll, Nat.reduceAdd, Nat.reduceLT, Nat.reduceLeDiff, Nat.reduceEqDiff, Nat.reduceMul, Nat.reduceSub, Nat.reduceGT, reduceIte, Int.reduceNeg, Int.reduceToNat]) | ((first | refine WP.drawW 13 (by decide +kernel) (by kernel_rfl) ?_ | refine WP.drawW 32 (by decide +kernel) (by kernel_rfl) ?_); simp only [go_sem, hli, hre, encI, he, tyAll, Nat.reduceAdd, Nat.reduceLT, Nat.reduceLeDiff, Nat.reduceEqDiff, Nat.reduceMul, Nat.reduceSub, Nat.reduceGT, reduceIte, Int.reduceNeg, Int.reduceToNat]) |  refine And.intro ?_ ?_ | intro _))
            all_goals first | omega | exact (hIm _ ‹_›).1 | exact (hIm _ ‹_›).2.1 | exact (hIm _ ‹_›).2.2 _ ‹_› | exact g2.trans g1.symm | exact (hBn _ ‹_›).1 | exact (hBn _ ‹_›).2 | exact (hst _ ‹_› _ ‹_›).1 | exact (hst _ ‹_› _ ‹_›).2 | exact hIm _ ‹_› | skip
            all_goals trace_state
        · have hge2 : ¬ (k : Int) < E.length := by omega
          rw [hyes fun i hi => hf i hi (by omega)]
          (repeat' (first | refine WP.seq ?_ | refine WP.block ?_ | ((first | refine WP.region ?_ | refine WP.condW ?_ | refine WP.ret ?_ | refine WP.exit ?_ | refine WP.skip ?_); simp only [go_sem, hge2, tyAll, Nat.reduceAdd, Nat.reduceLT, Nat.reduceLeDiff, Nat.reduceEqDiff, Nat.reduceMul, Nat.reduceSub, Nat.reduceGT, reduceIte, Int.reduceNeg, Int.reduceToNat]) | ((first | refine WP.drawW 13 (by decide +kernel) (by kernel_rfl) ?_ | refine WP.drawW 32 (by decide +kernel) (by kernel_rfl) ?_); simp only [go_sem, hge2, tyAll, Nat.reduceAdd, Nat.reduceLT, Nat.reduceLeDiff, Nat.reduceEqDiff, Nat.reduceMul, Nat.reduceSub, Nat.reduceGT, reduceIte, Int.reduceNeg, Int.reduceToNat]) |  refine And.intro ?_ ?_ | intro _))
          all_goals first | omega | skip
          all_goals trace_state
end
end
end Go.Proofs.Ytdbjioanlkilkaa
/-
  DERIVED. A region with a fixed order, in which an operation that is not wanted may be taken to yield anything.
-/
namespace Go.Vc
set_option linter.unusedVariables false
def St.stepO (tys : List (Nat × TyD)) (C : List (FuncId × Ctr)) (N : Nat) (ops : Array Oper) (o : Oper) (st : St) (K : St → Prop) : Prop :=
  match o.guard with
  | none => st.step tys C N ops o K
  | some (j, want) => match (ops[j]?).bind (·.dst) with
    | some t => match guardB want (st.get t) with
      | some false => dstOk N o.dst = true ∧ K (st.put o.dst (.cond false (offV tys o)))
      | _ => st.step tys C N ops o K
    | none => False
def St.runO (tys : List (Nat × TyD)) (C : List (FuncId × Ctr)) (N : Nat) (ops : Array Oper) : List Oper → St → (St → Prop) → Prop
  | [], st, K => K st
  | o :: l, st, K => st.stepO tys C N ops o fun st' => St.runO tys C N ops l st' K
section
variable {P : Program} {tys : List (Nat × TyD)} {C : List (FuncId × Ctr)} {N : Nat} {X0 : Nat → Prop} {M : Nat → Value → Prop} {w0 : World} {st : St} {β : Nat → Value} {a : Act} {w : World}
theorem wanted_eq (h : Sim N X0 M w0 st β a w) {ops : Array Oper} {o : Oper} {j t : Nat} {want g : Bool} (hg : o.guard = some (j, want)) (ht : (ops[j]?).bind (·.dst) = some t) (hc : guardB want (st.get t) = some g) : Region.wanted o (yielded ops a.tmps) = g := by
  have hR : R w (XX X0 β st.hp) β (st.get t) (a.eval (.tmp t)) := St.ev_ok h (.tmp t)
  have hy : yielded ops a.tmps j = (match a.tmps.getD t undef with | .bool b => some b | _ => none) := by
    unfold yielded
    rw [ht]
    simp only [Option.bind_some]
    rw [Array.getD_eq_getD_getElem?]
    cases hq : a.tmps[t]? with
    | none => rfl
    | some v => cases v <;> rfl
  simp only [Region.wanted, hg, hy]
  generalize st.get t = y at hc hR
  unfold guardB at hc
  split at hc
  · rename_i b
    have hv : a.tmps.getD t undef = .bool b := hR.v_inv
    rw [hv]
    cases hc
    cases b <;> cases want <;> rfl
  · rename_i g' b
    cases hc
    cases g' with
    | false =>
      have hv : a.tmps.getD t undef = undef := hR.cond_undef rfl
      rw [hv]; rfl
    | true =>
      have hv : a.tmps.getD t undef = .bool b := (hR.cond_inv rfl).v_inv
      rw [hv]
      cases b <;> cases want <;> rfl
  · cases hc
theorem stepO_sound (hA : Ap P X0 M w0) (hty : ∀ T d, lk T tys = some d → TyOk P T d) (hC : COk P C) (h : Sim N X0 M w0 st β a w) {ops : Array Oper} {o : Oper} {K : St → Prop} (hw : st.stepO tys C N ops o K) {Q : Exit → Act → World → Prop} :
    if Region.wanted o (yielded ops a.tmps) then o.wp P a w (Ok N X0 M w0 K) Q else Ok N X0 M w0 K (a.put o.dst undef) w := by
  unfold St.stepO at hw
  cases hg : o.guard with
  | none => rw [hg] at hw; exact step_sound hA hty hC h hw
  | some gw =>
    obtain ⟨j, want⟩ := gw
    rw [hg] at hw
    simp only at hw
    split at hw
    case h_2 => exact hw.elim
    case h_1 _ t ht =>
      split at hw
      case h_2 => exact step_sound hA hty hC h hw
      case h_1 _ hc =>
        have hwt := wanted_eq h hg ht hc
        rw [hwt, if_neg (by simp)]
        obtain ⟨hd, hK⟩ := hw
        cases hdd : o.dst with
        | none => rw [hdd] at hK; exact ⟨_, β, hK, h⟩
        | some d => rw [hdd] at hK hd; exact ⟨_, β, hK, h.put (by simpa [dstOk] using hd) (.cond (fun hh => by cases hh) fun _ => rfl)⟩
theorem runO_sound (hA : Ap P X0 M w0) (hty : ∀ T d, lk T tys = some d → TyOk P T d) (hC : COk P C) {ops : Array Oper} {K : St → Prop} {Q : Exit → Act → World → Prop} (hQ : ∀ a w, Ok N X0 M w0 K a w → Q .normal a w) :
    ∀ (l : List Oper) {st : St} {β : Nat → Value} {a : Act} {w : World}, Sim N X0 M w0 st β a w → St.runO tys C N ops l st K → wpList P ops Q l a w
  | [], st, β, a, w, h, hw => hQ a w ⟨st, β, hw, h⟩
  | o :: l, st, β, a, w, h, hw => by
    have h1 := stepO_sound (Q := Q) hA hty hC h hw
    unfold wpList
    split
    · rename_i hwt
      rw [if_pos hwt] at h1
      exact .inl (Oper.wp_mono (fun a' w' ⟨st', β', h2, h3⟩ => runO_sound hA hty hC hQ l h3 h2) h1)
    · rename_i hwt
      rw [if_neg hwt] at h1
      obtain ⟨st', β', h2, h3⟩ := h1
      exact runO_sound hA hty hC hQ l h3 h2
end
section
variable {c : Cx} {N : Nat} {X0 : Nat → Prop} {M : Nat → Value → Prop} {w0 : World} {st : St} {K : Exit → St → Prop}
theorem WP.regionO {id : Nat} {l : List Oper} (h : St.runO c.tys c.C N l.toArray l st (K .normal)) : WP c N X0 M w0 (.region id l.toArray false) st K := fun hA β a w hs =>
  wp_region_lit (runO_sound hA c.hty c.hC (fun a w hk => hk) l hs h)
end
/-! ## sums and products that wrap -/
def wrapI (op : BinOp) (a b : Int) : Int := match op with
  | .add => IntKind.i64.wrap (a + b)
  | .sub => IntKind.i64.wrap (a - b)
  | .mul => IntKind.i64.wrap (a * b)
  | _ => 0
def isArith : BinOp → Bool
  | .add => true
  | .sub => true
  | .mul => true
  | _ => false
def St.stepWr (tys : List (Nat × TyD)) (C : List (FuncId × Ctr)) (N : Nat) (ops : Array Oper) (o : Oper) (st : St) (K : St → Prop) : Prop :=
  match o.op with
  | .binOp op T x y U => match st.ev x, st.ev y with
    | .v (.int .i64 a), .v (.int .i64 b) => if isArith op = true ∧ o.guard.isNone = true then dstOk N o.dst = true ∧ K (st.put o.dst (.v (.int .i64 (wrapI op a b)))) else st.step tys C N ops o K
    | _, _ => st.step tys C N ops o K
  | _ => st.step tys C N ops o K
def St.runWr (tys : List (Nat × TyD)) (C : List (FuncId × Ctr)) (N : Nat) (ops : Array Oper) : List Oper → St → (St → Prop) → Prop
  | [], st, K => K st
  | o :: l, st, K => st.stepWr tys C N ops o fun st' => St.runWr tys C N ops l st' K
theorem wrap_run {P : Program} {op : BinOp} {T : Nat} {a b : Int} (h : isArith op = true) (ox oy : Operand) (w : World) :
    (do eqGuard op T ox oy (.int .i64 a) (.int .i64 b); binOp op T (.int .i64 a) (.int .i64 b) : Sem Value).run P w = .ok (.int .i64 (wrapI op a b)) w := by
  cases op <;> first | (cases h; done) | simp [eqGuard, binOp, Op.intArith, wrapI]
section
variable {P : Program} {tys : List (Nat × TyD)} {C : List (FuncId × Ctr)} {N : Nat} {X0 : Nat → Prop} {M : Nat → Value → Prop} {w0 : World} {st : St} {β : Nat → Value} {a : Act} {w : World}
theorem stepWr_sound (hA : Ap P X0 M w0) (hty : ∀ T d, lk T tys = some d → TyOk P T d) (hC : COk P C) (h : Sim N X0 M w0 st β a w) {ops : Array Oper} {o : Oper} {K : St → Prop} (hw : st.stepWr tys C N ops o K) {Q : Exit → Act → World → Prop} :
    if Region.wanted o (yielded ops a.tmps) then o.wp P a w (Ok N X0 M w0 K) Q else Ok N X0 M w0 K (a.put o.dst undef) w := by
  unfold St.stepWr at hw
  split at hw
  case h_2 => exact step_sound hA hty hC h hw
  case h_1 _ op T x y U ho =>
    split at hw
    case h_2 => exact step_sound hA hty hC h hw
    case h_1 _ _ p q hx hy =>
      split at hw
      case isFalse => exact step_sound hA hty hC h hw
      case isTrue hc =>
        obtain ⟨h1, h2⟩ := hc
        obtain ⟨hd, hK⟩ := hw
        have hg : o.guard = none := by simpa using h2
        have hwt : Region.wanted o (yielded ops a.tmps) = true := by simp [Region.wanted, hg]
        rw [if_pos hwt]
        have e1 : a.eval x = .int .i64 p := (hx ▸ St.ev_ok h x : R w _ β (.v (.int .i64 p)) (a.eval x)).v_inv
        have e2 : a.eval y = .int .i64 q := (hy ▸ St.ev_ok h y : R w _ β (.v (.int .i64 q)) (a.eval y)).v_inv
        have hr := wrap_run (P := P) (T := T) (a := p) (b := q) h1 x y w
        refine wp_of_Yl h hd ⟨.int .i64 (wrapI op p q), ?_, .p (.v _)⟩ hK
        simp only [Sem.run_bind] at hr
        simp only [execOp, ho, e1, e2, Sem.run_bind, hr, Result.andThen_ok, Sem.run_pure]
theorem runWr_sound (hA : Ap P X0 M w0) (hty : ∀ T d, lk T tys = some d → TyOk P T d) (hC : COk P C) {ops : Array Oper} {K : St → Prop} {Q : Exit → Act → World → Prop} (hQ : ∀ a w, Ok N X0 M w0 K a w → Q .normal a w) :
    ∀ (l : List Oper) {st : St} {β : Nat → Value} {a : Act} {w : World}, Sim N X0 M w0 st β a w → St.runWr tys C N ops l st K → wpList P ops Q l a w
  | [], st, β, a, w, h, hw => hQ a w ⟨st, β, hw, h⟩
  | o :: l, st, β, a, w, h, hw => by
    have h1 := stepWr_sound (Q := Q) hA hty hC h hw
    unfold wpList
    split
    · rename_i hwt
      rw [if_pos hwt] at h1
      exact .inl (Oper.wp_mono (fun a' w' ⟨st', β', h2, h3⟩ => runWr_sound hA hty hC hQ l h3 h2) h1)
    · rename_i hwt
      rw [if_neg hwt] at h1
      obtain ⟨st', β', h2, h3⟩ := h1
      exact runWr_sound hA hty hC hQ l h3 h2
end
section
variable {c : Cx} {N : Nat} {X0 : Nat → Prop} {M : Nat → Value → Prop} {w0 : World} {st : St} {K : Exit → St → Prop}
theorem WP.regionWr {id : Nat} {l : List Oper} (h : St.runWr c.tys c.C N l.toArray l st (K .normal)) : WP c N X0 M w0 (.region id l.toArray false) st K := fun hA β a w hs =>
  wp_region_lit (runWr_sound hA c.hty c.hC (fun a w hk => hk) l hs h)
end
end Go.Vc

namespace Go.Proofs.Ytdbjioanlkilkaa
open Go.Vc
attribute [local go_sem] St.runR St.runW St.stepV offV St.step St.stepU St.stepG mkCond guardB St.prK St.pr St.prLen St.eff St.callE St.callD St.callF St.callL aI aB aS aR aC St.isM St.argL Ctr.pure Ctr.lend Ctr.move Ctr.isL Ctr.wri pur len lentBy St.lentV St.lent1 nthS argsR restOf obsR pairs swapL unObs backL St.resL erL SV.ren1 SV.up SV.up2 Ob.up St.fzL cellIds partIds St.intoRow SV.ownId St.fz SV.fz1 St.prep St.mvL St.mv SV.re1 rnOk St.prEq vals eqCells scEq Value.kd St.prStr St.prCut cutR St.bnd St.prMin St.bld isShift outL retL outJ oR oC St.ev St.get St.put St.new St.kill SV.kill SV.kill1 Ob.kill St.app St.wrt St.rowsOf St.res St.killL lk er argsL SV.strip SV.need SV.share SV.share1 SV.owns SV.owns1 SV.owns2 SV.good SV.good1 SV.rok SV.rok1 SV.rok2 SV.isV SV.isV2 nodupN SV.cells SV.one SV.pur Ob.pb partsIn rowsIn splice cellsAt dstOk scal2 scal1 thenK blockK retK outK outs okC okL okA okT nilC nilL nilA nilT keepC keepL keepA keepT St.runG St.dltK St.least St.clean St.final St.hide offK badS badO SV.refs SV.leaf SV.leaf2 Ob.refs dlOk fpAt Go.Vc.cover tups SV.ofAgg St.out outC subL St.has rng wr Value.oneCell' Option.isSome_some Option.isSome_none List.nil_append Bool.false_eq_true List.map_cons List.map_nil List.all_cons List.all_nil List.length_cons List.length_nil List.drop_zero List.drop_succ_cons List.take_succ_cons List.take_zero List.drop_nil List.take_nil List.getElem?_cons_zero List.getElem?_cons_succ List.getElem?_nil List.cons_append List.nil_append List.append_nil List.append_assoc List.flatMap_cons List.flatMap_nil List.contains_cons List.contains_nil List.set_cons_zero List.set_cons_succ List.getElem?_toArray Option.getD_some Option.getD_none Option.map_some Option.map_none Option.bind_some Option.some.injEq Prod.mk.injEq if_true if_false true_and and_true and_self and_false false_and Bool.and_false Bool.false_and Bool.or_true Bool.true_or Bool.or_false Bool.false_or ne_eq not_true_eq_false not_false_eq_true decide_true decide_false List.mem_cons List.not_mem_nil List.filter_cons List.filter_nil List.any_cons List.any_nil List.isEmpty_nil List.isEmpty_cons Option.getD_none or_false false_or true_or or_true forall_eq_or_imp forall_eq reduceCtorEq exists_eq exists_eq' exists_eq_left' exists_eq_left exists_eq_right exists_eq_right' imp_self implies_true Bool.and_true Bool.true_and Bool.and_self beq_self_eq_true List.replicate_succ List.replicate_zero forall_const false_implies pickB_or pickB_and beqT beqF Int.toNat_natCast List.length_map List.length_replicate ge_iff_le gt_iff_lt decide_eq_true_eq decide_eq_false_iff_not Bool.and_eq_true Bool.or_eq_true Bool.not_eq_true' Bool.not_eq_false' condG List.toList_toArray Bool.or_eq_false_iff Bool.and_eq_false_iff Int.not_lt Int.not_le beq_iff_eq beq_eq_false_iff_ne bne_iff_ne bne_eq_false_iff_eq ne_eq Bool.not_true Bool.not_false exists_and_left
section
open Go.Vc
set_option linter.unusedSimpArgs false
set_option linter.unusedVariables false
set_option maxHeartbeats 1000000
set_option maxRecDepth 10000
attribute [local irreducible] Go.Vc.WP
attribute [local go_sem] cx0_t cx0_c
open Go.Pl
attribute [local go_sem] isV_Symbol decSymbol_enc oneSymbol_enc imgA decI_enc decImage_enc spA
theorem locI_bd (I : List Image) (B : List Int) (e : Int) : -1 ≤ locI I B e ∧ locI I B e < I.length := by
  unfold locI firstIdx
  split
  · rename_i q hq
    have := (List.findIdx?_eq_some_iff_getElem.1 hq).1
    rw [List.length_range] at this
    omega
  · omega
theorem symI_bd {α : Type} (p : α → Bool) (L : List α) : -1 ≤ firstIdx p L ∧ firstIdx p L < L.length := by
  unfold firstIdx
  split
  · rename_i q hq
    have := (List.findIdx?_eq_some_iff_getElem.1 hq).1
    omega
  · omega
attribute [local go_sem] St.runO St.stepO
section
noncomputable def cxSpS : Cx := { P := Try.prog, tys := tys, C := [(71, k60), (139, kImgOk), (140, kLoc), (141, kSymAt)], hty := tysOk, hC := COk.cons c58 (COk.cons cImgOkS (COk.cons cLocS (COk.cons cSymAtS (COk.nil _)))) }
theorem cxSpS_t : cxSpS.tys = tys := rfl
theorem cxSpS_c : cxSpS.C = [(71, k60), (139, kImgOk), (140, kLoc), (141, kSymAt)] := rfl
attribute [local go_sem] cxSpS_t cxSpS_c k60 kImgOk kLoc kSymAt
set_option maxHeartbeats 3000000 in
theorem cSpOkS : Cn Try.prog 109 kSpOk := by
  refine Cn.pur Try.func109 (by kernel_rfl) rfl fun d x hx => ?_
  obtain ⟨I, B, E⟩ := x
  obtain ⟨⟨hI, hIm⟩, hB, hE⟩ := hx
  simp only at hI hIm hB hE ⊢
  refine Holds.go (c := cxSpS) Try.func109 rfl Try.results109 Try.ntmps109 (by omega) (by simp) rfl ?_
  intro X0 w0
  by_cases hlen : I.length = 2 ∧ B.length = 2 ∧ 1 ≤ E.length ∧ E.length ≤ 6
  rotate_left
  · rw [sp_len hlen]
    by_cases l1 : (I.length : Int) = 2
    · by_cases l2 : (B.length : Int) = 2
      · have l3 : (decide ((1 : Int) ≤ E.length) && decide ((E.length : Int) ≤ 6)) = false := by
          rw [← Bool.decide_and]; exact decide_eq_false fun h => hlen ⟨by omega, by omega, by omega, by omega⟩
        (repeat' (first | refine WP.seq ?_ | refine WP.block ?_ | ((first | refine WP.region ?_ | refine WP.condW ?_ | refine WP.ret ?_ | refine WP.exit ?_ | refine WP.skip ?_); simp only [go_sem, l1, l2, l3, tyAll, Nat.reduceAdd, Nat.reduceLT, Nat.reduceLeDiff, Nat.reduceEqDiff, Nat.reduceMul, Nat.reduceSub, Nat.reduceGT, reduceIte, Int.reduceNeg, Int.reduceToNat]) | ((first | refine WP.drawW 32 (by decide +kernel) (by kernel_rfl) ?_ | refine WP.drawW 11 (by decide +kernel) (by kernel_rfl) ?_); simp only [go_sem, l1, l2, l3, tyAll, Nat.reduceAdd, Nat.reduceLT, Nat.reduceLeDiff, Nat.reduceEqDiff, Nat.reduceMul, Nat.reduceSub, Nat.reduceGT, reduceIte, Int.reduceNeg, Int.reduceToNat]) |  refine And.intro ?_ ?_ | intro _))
        all_goals first | omega | skip
        all_goals trace_state
      · (repeat' (first | refine WP.seq ?_ | refine WP.block ?_ | ((first | refine WP.region ?_ | refine WP.condW ?_ | refine WP.ret ?_ | refine WP.exit ?_ | refine WP.skip ?_); simp only [go_sem, l1, l2, tyAll, Nat.reduceAdd, Nat.reduceLT, Nat.reduceLeDiff, Nat.reduceEqDiff, Nat.reduceMul, Nat.reduceSub, Nat.reduceGT, reduceIte, Int.reduceNeg, Int.reduceToNat]) | ((first | refine WP.drawW 32 (by decide +kernel) (by kernel_rfl) ?_ | refine WP.drawW 11 (by decide +kernel) (by kernel_rfl) ?_); simp only [go_sem, l1, l2, tyAll, Nat.reduceAdd, Nat.reduceLT, Nat.reduceLeDiff, Nat.reduceEqDiff, Nat.reduceMul, Nat.reduceSub, Nat.reduceGT, reduceIte, Int.reduceNeg, Int.reduceToNat]) |  refine And.intro ?_ ?_ | intro _))
        all_goals first | omega | skip
        all_goals trace_state
    · (repeat' (first | refine WP.seq ?_ | refine WP.block ?_ | ((first | refine WP.region ?_ | refine WP.condW ?_ | refine WP.ret ?_ | refine WP.exit ?_ | refine WP.skip ?_); simp only [go_sem, l1, tyAll, Nat.reduceAdd, Nat.reduceLT, Nat.reduceLeDiff, Nat.reduceEqDiff, Nat.reduceMul, Nat.reduceSub, Nat.reduceGT, reduceIte, Int.reduceNeg, Int.reduceToNat]) | ((first | refine WP.drawW 32 (by decide +kernel) (by kernel_rfl) ?_ | refine WP.drawW 11 (by decide +kernel) (by kernel_rfl) ?_); simp only [go_sem, l1, tyAll, Nat.reduceAdd, Nat.reduceLT, Nat.reduceLeDiff, Nat.reduceEqDiff, Nat.reduceMul, Nat.reduceSub, Nat.reduceGT, reduceIte, Int.reduceNeg, Int.reduceToNat]) |  refine And.intro ?_ ?_ | intro _))
      all_goals first | omega | skip
      all_goals trace_state
  obtain ⟨g1, g2, g3, g4⟩ := hlen
  have lk0 : lk 0 tys = none := rfl
  have l1 : (I.length : Int) = 2 := by omega
  have l2 : (B.length : Int) = 2 := by omega
  have l3 : (1 : Int) ≤ E.length := by omega
  have l4 : (E.length : Int) ≤ 6 := by omega
  (repeat' (first | refine WP.seq ?_ | refine WP.block ?_ | ((first | refine WP.region ?_ | refine WP.condW ?_ | refine WP.ret ?_ | refine WP.exit ?_ | refine WP.skip ?_); simp only [go_sem, l1, l2, l3, l4, tyAll, Nat.reduceAdd, Nat.reduceLT, Nat.reduceLeDiff, Nat.reduceEqDiff, Nat.reduceMul, Nat.reduceSub, Nat.reduceGT, reduceIte, Int.reduceNeg, Int.reduceToNat]) | ((first | refine WP.drawW 32 (by decide +kernel) (by kernel_rfl) ?_ | refine WP.drawW 11 (by decide +kernel) (by kernel_rfl) ?_); simp only [go_sem, l1, l2, l3, l4, tyAll, Nat.reduceAdd, Nat.reduceLT, Nat.reduceLeDiff, Nat.reduceEqDiff, Nat.reduceMul, Nat.reduceSub, Nat.reduceGT, reduceIte, Int.reduceNeg, Int.reduceToNat]) |  refine And.intro ?_ ?_ | intro _))
  all_goals first | omega | skip
  refine WP.loop (fun k : Nat => ⟨[(1, .ptr 1 0 0 0), (3, .v (.int .i64 k))], [(1, .box 83 [.sl 2 (I.map encImage), .sl 1 (B.map encI), .sl 1 (E.map encI)])]⟩)
    (fun k => k ≤ 2 ∧ imgs2 I B k = true) (fun k => 2 - k) 0 ⟨by simp, rfl⟩ ?_ ?_
  · (simp only [go_sem, tyAll, Nat.reduceAdd, Nat.reduceLT, Nat.reduceLeDiff, Nat.reduceEqDiff, Nat.reduceMul, Nat.reduceSub, Nat.reduceGT, reduceIte, Int.reduceNeg, Int.reduceToNat] <;> (first | rfl | exact ⟨rfl, rfl⟩ | exact ⟨rfl, rfl, rfl⟩ | exact ⟨rfl, rfl, rfl, rfl⟩ | exact ⟨rfl, rfl, rfl, rfl, rfl⟩ | exact ⟨⟨rfl, rfl⟩, rfl⟩ | simp))
  intro k ⟨hk, hi2⟩
  by_cases hlt : k < 2
  · have hli : (k : Int) < 2 := by omega
    have hkI : k < I.length := by omega
    have hkB : k < B.length := by omega
    have hkIi : (k : Int) < I.length := by omega
    have hkBi : (k : Int) < B.length := by omega
    have hr := rowAt_map encImage I k hkI
    have hrb := rowAt_map encI B k hkB
    obtain ⟨p1, p2, p3⟩ := hIm _ (List.getElem_mem hkI)
    simp only at p1 p2 p3
    have hsu := imgs2_succ I B k
    rw [hi2, Bool.true_and, getD_img hkI, getD_int hkB] at hsu
    have hdn : imgs2 I B (k + 1) = false → imgs2 I B 2 = false := fun h => by
      have := imgs2_mono h (2 - (k + 1))
      rwa [show k + 1 + (2 - (k + 1)) = 2 by omega] at this
    cases hok : imageOk I[k].code I[k].symbols with
    | false =>
      rw [hok, Bool.false_and] at hsu
      rw [sp_img (hdn hsu)]
      (repeat' (first | refine WP.seq ?_ | refine WP.block ?_ | ((first | refine WP.region ?_ | refine WP.condW ?_ | refine WP.ret ?_ | refine WP.exit ?_ | refine WP.skip ?_); simp only [go_sem, hli, l1, l2, hr, encImage, hok, hrb, encI, tyAll, Nat.reduceAdd, Nat.reduceLT, Nat.reduceLeDiff, Nat.reduceEqDiff, Nat.reduceMul, Nat.reduceSub, Nat.reduceGT, reduceIte, Int.reduceNeg, Int.reduceToNat]) | ((first | refine WP.drawW 32 (by decide +kernel) (by kernel_rfl) ?_ | refine WP.drawW 11 (by decide +kernel) (by kernel_rfl) ?_); simp only [go_sem, hli, l1, l2, hr, encImage, hok, hrb, encI, tyAll, Nat.reduceAdd, Nat.reduceLT, Nat.reduceLeDiff, Nat.reduceEqDiff, Nat.reduceMul, Nat.reduceSub, Nat.reduceGT, reduceIte, Int.reduceNeg, Int.reduceToNat]) |  refine And.intro ?_ ?_ | intro _))
      all_goals first | omega | exact p3 _ ‹_› | skip
      all_goals trace_state
    | true =>
      by_cases hb : 1 ≤ B[k] ∧ B[k] ≤ 1000000
      · rw [hok, decide_eq_true hb] at hsu
        (repeat' (first | refine WP.seq ?_ | refine WP.block ?_ | ((first | refine WP.region ?_ | refine WP.condW ?_ | refine WP.ret ?_ | refine WP.exit ?_ | refine WP.skip ?_); simp only [go_sem, hli, l1, l2, hr, encImage, hok, hrb, encI, hb, tyAll, Nat.reduceAdd, Nat.reduceLT, Nat.reduceLeDiff, Nat.reduceEqDiff, Nat.reduceMul, Nat.reduceSub, Nat.reduceGT, reduceIte, Int.reduceNeg, Int.reduceToNat]) | ((first | refine WP.drawW 32 (by decide +kernel) (by kernel_rfl) ?_ | refine WP.drawW 11 (by decide +kernel) (by kernel_rfl) ?_); simp only [go_sem, hli, l1, l2, hr, encImage, hok, hrb, encI, hb, tyAll, Nat.reduceAdd, Nat.reduceLT, Nat.reduceLeDiff, Nat.reduceEqDiff, Nat.reduceMul, Nat.reduceSub, Nat.reduceGT, reduceIte, Int.reduceNeg, Int.reduceToNat]) |  refine And.intro ?_ ?_ | intro _))
        all_goals first | omega | exact p3 _ ‹_› | exact ⟨k + 1, ⟨by omega, hsu⟩, by omega, by (first | rfl | exact ⟨rfl, rfl⟩ | exact ⟨rfl, rfl, rfl⟩ | exact ⟨rfl, rfl, rfl, rfl⟩ | exact ⟨rfl, rfl, rfl, rfl, rfl⟩ | exact ⟨⟨rfl, rfl⟩, rfl⟩ | simp)⟩ | skip
        all_goals trace_state
      · rw [hok, decide_eq_false hb] at hsu
        rw [sp_img (hdn hsu)]
        have hb' : (decide (1 ≤ B[k]) && decide (B[k] ≤ 1000000)) = false := by rw [← Bool.decide_and]; exact decide_eq_false hb
        (repeat' (first | refine WP.seq ?_ | refine WP.block ?_ | ((first | refine WP.region ?_ | refine WP.condW ?_ | refine WP.ret ?_ | refine WP.exit ?_ | refine WP.skip ?_); simp only [go_sem, hli, l1, l2, hr, encImage, hok, hrb, encI, hb', tyAll, Nat.reduceAdd, Nat.reduceLT, Nat.reduceLeDiff, Nat.reduceEqDiff, Nat.reduceMul, Nat.reduceSub, Nat.reduceGT, reduceIte, Int.reduceNeg, Int.reduceToNat]) | ((first | refine WP.drawW 32 (by decide +kernel) (by kernel_rfl) ?_ | refine WP.drawW 11 (by decide +kernel) (by kernel_rfl) ?_); simp only [go_sem, hli, l1, l2, hr, encImage, hok, hrb, encI, hb', tyAll, Nat.reduceAdd, Nat.reduceLT, Nat.reduceLeDiff, Nat.reduceEqDiff, Nat.reduceMul, Nat.reduceSub, Nat.reduceGT, reduceIte, Int.reduceNeg, Int.reduceToNat]) |  refine And.intro ?_ ?_ | intro _))
        all_goals first | omega | exact p3 _ ‹_› | skip
        all_goals trace_state
  · have hge : ¬ (k : Int) < 2 := by omega
    obtain rfl : k = 2 := by omega
    have h0I : 0 < I.length := by omega
    have h1I : 1 < I.length := by omega
    have h0B : 0 < B.length := by omega
    have h1B : 1 < B.length := by omega
    have r0 := rowAt_map encImage I 0 h0I
    have r1 := rowAt_map encImage I 1 h1I
    have b0 := rowAt_map encI B 0 h0B
    have b1 := rowAt_map encI B 1 h1B
    obtain ⟨o0, q0, q0'⟩ := imgs2_at hi2 (j := 0) (by omega)
    obtain ⟨o1, q1, q1'⟩ := imgs2_at hi2 (j := 1) (by omega)
    rw [getD_int h0B] at q0 q0'
    rw [getD_int h1B] at q1 q1'
    have s0 := (hIm _ (List.getElem_mem h0I)).1
    have s1 := (hIm _ (List.getElem_mem h1I)).1
    simp only at s0 s1
    have hov : overB I B = (decide (0 < I[0].code.size) && decide (0 < I[1].code.size) && decide (B[0] < B[1] + I[1].code.size) && decide (B[1] < B[0] + I[0].code.size)) := by
      unfold overB; rw [getD_img h0I, getD_img h1I, getD_int h0B, getD_int h1B]
    have c02 : (0 : Int) < 2 := by omega
    have c12 : (1 : Int) < 2 := by omega
    have t1 : (1 : Int).toNat = 1 := rfl
    have hBn : ∀ b ∈ B, 0 ≤ b ∧ b ≤ 1000000000000 := fun b hb => by
      obtain ⟨j, hj, rfl⟩ := List.mem_iff_getElem.1 hb
      have := (imgs2_at hi2 (j := j) (by omega)).2
      rw [getD_int hj] at this
      omega
    have hst : ∀ i ∈ I, ∀ y ∈ i.symbols, 0 ≤ y.start ∧ y.start ≤ 1000000000000 := fun i hi y hy => by
      obtain ⟨j, hj, rfl⟩ := List.mem_iff_getElem.1 hi
      have := (imgs2_at hi2 (j := j) (by omega)).1
      rw [getD_img hj] at this
      obtain ⟨A, hA⟩ := img_chain this
      obtain ⟨m, hm, rfl⟩ := List.mem_iff_getElem.1 hy
      have h1 := hA.lt hm
      have h2 := hA.big
      omega
    cases ho : overB I B with
    | true =>
      rw [sp_over ho]
      rw [ho] at hov
      have hov := hov.symm
      simp only [Bool.and_eq_true, decide_eq_true_eq] at hov
      obtain ⟨⟨⟨v1, v2⟩, v3⟩, v4⟩ := hov
      have v1i : (0 : Int) < I[0].code.size := by omega
      have v2i : (0 : Int) < I[1].code.size := by omega
      (repeat' (first | refine WP.seq ?_ | refine WP.block ?_ | ((first | refine WP.region ?_ | refine WP.condW ?_ | refine WP.ret ?_ | refine WP.exit ?_ | refine WP.skip ?_); simp only [go_sem, hge, l1, l2, c02, c12, t1, r0, r1, b0, b1, encImage, encI, v1i, v2i, v3, v4, tyAll, Nat.reduceAdd, Nat.reduceLT, Nat.reduceLeDiff, Nat.reduceEqDiff, Nat.reduceMul, Nat.reduceSub, Nat.reduceGT, reduceIte, Int.reduceNeg, Int.reduceToNat]) | ((first | refine WP.drawW 32 (by decide +kernel) (by kernel_rfl) ?_ | refine WP.drawW 11 (by decide +kernel) (by kernel_rfl) ?_); simp only [go_sem, hge, l1, l2, c02, c12, t1, r0, r1, b0, b1, encImage, encI, v1i, v2i, v3, v4, tyAll, Nat.reduceAdd, Nat.reduceLT, Nat.reduceLeDiff, Nat.reduceEqDiff, Nat.reduceMul, Nat.reduceSub, Nat.reduceGT, reduceIte, Int.reduceNeg, Int.reduceToNat]) |  refine And.intro ?_ ?_ | intro _))
      all_goals first | omega | skip
      all_goals trace_state
    | false =>
      rw [ho] at hov
      have hloop : ∀ k (hk : k < E.length), isEnt I B E[k] = false → spaceOk I B E = false := fun k hk h => sp_ent hk h
      have hyes := sp_ok (I := I) (B := B) (E := E) ⟨g1, g2, g3, g4⟩ hi2 ho
      by_cases v1 : (0 : Int) < I[0].code.size
      · by_cases v2 : (0 : Int) < I[1].code.size
        · by_cases v3 : B[0] < B[1] + (I[1].code.size : Int)
          · have v4 : ¬ B[1] < B[0] + (I[0].code.size : Int) := fun h => by
              rw [decide_eq_true (by omega : 0 < I[0].code.size), decide_eq_true (by omega : 0 < I[1].code.size), decide_eq_true v3, decide_eq_true h] at hov
              cases hov
            (repeat' (first | refine WP.seq ?_ | refine WP.block ?_ | ((first | refine WP.region ?_ | refine WP.condW ?_ | refine WP.ret ?_ | refine WP.exit ?_ | refine WP.skip ?_); simp only [go_sem, hge, l1, l2, c02, c12, t1, r0, r1, b0, b1, encImage, encI, v1, v2, v3, v4, tyAll, Nat.reduceAdd, Nat.reduceLT, Nat.reduceLeDiff, Nat.reduceEqDiff, Nat.reduceMul, Nat.reduceSub, Nat.reduceGT, reduceIte, Int.reduceNeg, Int.reduceToNat]) | ((first | refine WP.drawW 32 (by decide +kernel) (by kernel_rfl) ?_ | refine WP.drawW 11 (by decide +kernel) (by kernel_rfl) ?_); simp only [go_sem, hge, l1, l2, c02, c12, t1, r0, r1, b0, b1, encImage, encI, v1, v2, v3, v4, tyAll, Nat.reduceAdd, Nat.reduceLT, Nat.reduceLeDiff, Nat.reduceEqDiff, Nat.reduceMul, Nat.reduceSub, Nat.reduceGT, reduceIte, Int.reduceNeg, Int.reduceToNat]) |  refine And.intro ?_ ?_ | intro _))
            all_goals first | omega | skip
            refine WP.loop (fun k : Nat => ⟨[(1, .ptr 1 0 0 0), (6, .v (.int .i64 k))], [(1, .box 83 [.sl 2 (I.map encImage), .sl 1 (B.map encI), .sl 1 (E.map encI)])]⟩)
              (fun k => k ≤ E.length ∧ ∀ i (hi : i < E.length), i < k → isEnt I B E[i] = true) (fun k => E.length - k) 0 (by simp) ?_ ?_
            · (simp only [go_sem, tyAll, Nat.reduceAdd, Nat.reduceLT, Nat.reduceLeDiff, Nat.reduceEqDiff, Nat.reduceMul, Nat.reduceSub, Nat.reduceGT, reduceIte, Int.reduceNeg, Int.reduceToNat] <;> (first | rfl | exact ⟨rfl, rfl⟩ | exact ⟨rfl, rfl, rfl⟩ | exact ⟨rfl, rfl, rfl, rfl⟩ | exact ⟨rfl, rfl, rfl, rfl, rfl⟩ | exact ⟨⟨rfl, rfl⟩, rfl⟩ | simp))
            intro k ⟨hk, hf⟩
            by_cases hlt : k < E.length
            · have hli : (k : Int) < E.length := by omega
              have hre := rowAt_map encI E k hlt
              have hes := ent_same g1 hi2 ho E[k]
              unfold entS at hes
              obtain ⟨hlo1, hlo2⟩ := locI_bd I B E[k]
              by_cases hn : locI I B E[k] < 0
              · rw [if_pos hn] at hes
                rw [hloop k hlt hes.symm]
                (repeat' (first | refine WP.seq ?_ | refine WP.block ?_ | ((first | refine WP.region ?_ | refine WP.condW ?_ | refine WP.ret ?_ | refine WP.exit ?_ | refine WP.skip ?_); simp only [go_sem, hli, hre, encI, hn, tyAll, Nat.reduceAdd, Nat.reduceLT, Nat.reduceLeDiff, Nat.reduceEqDiff, Nat.reduceMul, Nat.reduceSub, Nat.reduceGT, reduceIte, Int.reduceNeg, Int.reduceToNat]) | ((first | refine WP.drawW 32 (by decide +kernel) (by kernel_rfl) ?_ | refine WP.drawW 11 (by decide +kernel) (by kernel_rfl) ?_); simp only [go_sem, hli, hre, encI, hn, tyAll, Nat.reduceAdd, Nat.reduceLT, Nat.reduceLeDiff, Nat.reduceEqDiff, Nat.reduceMul, Nat.reduceSub, Nat.reduceGT, reduceIte, Int.reduceNeg, Int.reduceToNat]) |  refine And.intro ?_ ?_ | intro _))
                all_goals first | omega | exact (hIm _ ‹_›).1 | exact (hIm _ ‹_›).2.1 | exact (hIm _ ‹_›).2.2 _ ‹_› | exact g2.trans g1.symm | exact (hBn _ ‹_›).1 | exact (hBn _ ‹_›).2 | exact hIm _ ‹_› | skip
                all_goals trace_state
              rw [if_neg hn] at hes
              obtain ⟨m, hm⟩ : ∃ m : Nat, locI I B E[k] = m := ⟨(locI I B E[k]).toNat, by omega⟩
              have hmI : m < I.length := by omega
              have hmB : m < B.length := by omega
              have hmi : (m : Int) < I.length := by omega
              have hm2 : (m : Int) < 2 := by omega
              have hm0 : ¬ (m : Int) < 0 := by omega
              rw [hm, Int.toNat_natCast, getD_img hmI, getD_int hmB] at hes
              have hrm := rowAt_map encImage I m hmI
              obtain ⟨y1, y2, y3⟩ := hIm _ (List.getElem_mem hmI)
              simp only at y1 y2 y3
              have hgB : B.getD m 0 = B[m] := getD_int hmB 0
              obtain ⟨hs1, hs2⟩ := symI_bd (symHit (E[k] - B[m])) I[m].symbols
              by_cases hz : firstIdx (symHit (E[k] - B[m])) I[m].symbols < 0
              · have hzF : ¬ 0 ≤ firstIdx (symHit (E[k] - B[m])) I[m].symbols := by omega
                rw [decide_eq_false hzF, Bool.false_and] at hes
                rw [hloop k hlt hes.symm]
                (repeat' (first | (refine WP.regionO (id := 19) ?_; simp only [go_sem, hli, hre, encI, hm, hm0, hmi, hm2, l1, hrm, encImage, hz, hgB, lk0, tyAll, Nat.reduceAdd, Nat.reduceLT, Nat.reduceLeDiff, Nat.reduceEqDiff, Nat.reduceMul, Nat.reduceSub, Nat.reduceGT, reduceIte, Int.reduceNeg, Int.reduceToNat]) | refine WP.seq ?_ | refine WP.block ?_ | ((first | refine WP.region ?_ | refine WP.condW ?_ | refine WP.ret ?_ | refine WP.exit ?_ | refine WP.skip ?_); simp only [go_sem, hli, hre, encI, hm, hm0, hmi, hm2, l1, hrm, encImage, hz, hgB, lk0, tyAll, Nat.reduceAdd, Nat.reduceLT, Nat.reduceLeDiff, Nat.reduceEqDiff, Nat.reduceMul, Nat.reduceSub, Nat.reduceGT, reduceIte, Int.reduceNeg, Int.reduceToNat]) | ((first | refine WP.drawW 32 (by decide +kernel) (by kernel_rfl) ?_ | refine WP.drawW 11 (by decide +kernel) (by kernel_rfl) ?_); simp only [go_sem, hli, hre, encI, hm, hm0, hmi, hm2, l1, hrm, encImage, hz, hgB, lk0, tyAll, Nat.reduceAdd, Nat.reduceLT, Nat.reduceLeDiff, Nat.reduceEqDiff, Nat.reduceMul, Nat.reduceSub, Nat.reduceGT, reduceIte, Int.reduceNeg, Int.reduceToNat]) |  refine And.intro ?_ ?_ | intro _))
                all_goals first | omega | exact (hIm _ ‹_›).1 | exact (hIm _ ‹_›).2.1 | exact (hIm _ ‹_›).2.2 _ ‹_› | exact g2.trans g1.symm | exact (hBn _ ‹_›).1 | exact (hBn _ ‹_›).2 | exact hIm _ ‹_› | skip
                all_goals trace_state
              obtain ⟨n, hn2⟩ : ∃ n : Nat, firstIdx (symHit (E[k] - B[m])) I[m].symbols = n := ⟨(firstIdx (symHit (E[k] - B[m])) I[m].symbols).toNat, by omega⟩
              have hnY : n < I[m].symbols.length := by omega
              have hnYi : (n : Int) < I[m].symbols.length := by omega
              have hn0 : ¬ (n : Int) < 0 := by omega
              have hnT : (0 : Int) ≤ (n : Int) := by omega
              rw [hn2, Int.toNat_natCast, decide_eq_true hnT, Bool.true_and, List.getD_eq_getElem?_getD, List.getElem?_eq_getElem hnY, Option.getD_some] at hes
              have hry := rowAt_map encSymbol I[m].symbols n hnY
              by_cases hst2 : I[m].symbols[n].start = E[k] - B[m]
              · rw [decide_eq_true hst2] at hes
                have he := hes.symm
                (repeat' (first | refine WP.seq ?_ | refine WP.block ?_ | ((first | refine WP.region ?_ | refine WP.condW ?_ | refine WP.ret ?_ | refine WP.exit ?_ | refine WP.skip ?_); simp only [go_sem, hli, hre, encI, hm, hm0, hmi, hm2, l1, hrm, encImage, hn2, hn0, hnYi, hry, encSymbol, hst2, hgB, tyAll, Nat.reduceAdd, Nat.reduceLT, Nat.reduceLeDiff, Nat.reduceEqDiff, Nat.reduceMul, Nat.reduceSub, Nat.reduceGT, reduceIte, Int.reduceNeg, Int.reduceToNat]) | ((first | refine WP.drawW 32 (by decide +kernel) (by kernel_rfl) ?_ | refine WP.drawW 11 (by decide +kernel) (by kernel_rfl) ?_); simp only [go_sem, hli, hre, encI, hm, hm0, hmi, hm2, l1, hrm, encImage, hn2, hn0, hnYi, hry, encSymbol, hst2, hgB, tyAll, Nat.reduceAdd, Nat.reduceLT, Nat.reduceLeDiff, Nat.reduceEqDiff, Nat.reduceMul, Nat.reduceSub, Nat.reduceGT, reduceIte, Int.reduceNeg, Int.reduceToNat]) |  refine And.intro ?_ ?_ | intro _))
                all_goals first | omega | exact (hIm _ ‹_›).1 | exact (hIm _ ‹_›).2.1 | exact (hIm _ ‹_›).2.2 _ ‹_› | exact g2.trans g1.symm | exact (hBn _ ‹_›).1 | exact (hBn _ ‹_›).2 | exact hIm _ ‹_› | exact ⟨k + 1, ⟨by omega, fun i hi hik => by
                  rcases Nat.lt_or_ge i k with h | h
                  · exact hf i hi h
                  · have : i = k := by omega
                    subst this; exact he⟩, by omega, by (first | rfl | exact ⟨rfl, rfl⟩ | exact ⟨rfl, rfl, rfl⟩ | exact ⟨rfl, rfl, rfl, rfl⟩ | exact ⟨rfl, rfl, rfl, rfl, rfl⟩ | exact ⟨⟨rfl, rfl⟩, rfl⟩ | simp)⟩ | skip
                all_goals trace_state
              · rw [decide_eq_false hst2] at hes
                rw [hloop k hlt hes.symm]
                (repeat' (first | refine WP.seq ?_ | refine WP.block ?_ | ((first | refine WP.region ?_ | refine WP.condW ?_ | refine WP.ret ?_ | refine WP.exit ?_ | refine WP.skip ?_); simp only [go_sem, hli, hre, encI, hm, hm0, hmi, hm2, l1, hrm, encImage, hn2, hn0, hnYi, hry, encSymbol, hst2, hgB, tyAll, Nat.reduceAdd, Nat.reduceLT, Nat.reduceLeDiff, Nat.reduceEqDiff, Nat.reduceMul, Nat.reduceSub, Nat.reduceGT, reduceIte, Int.reduceNeg, Int.reduceToNat]) | ((first | refine WP.drawW 32 (by decide +kernel) (by kernel_rfl) ?_ | refine WP.drawW 11 (by decide +kernel) (by kernel_rfl) ?_); simp only [go_sem, hli, hre, encI, hm, hm0, hmi, hm2, l1, hrm, encImage, hn2, hn0, hnYi, hry, encSymbol, hst2, hgB, tyAll, Nat.reduceAdd, Nat.reduceLT, Nat.reduceLeDiff, Nat.reduceEqDiff, Nat.reduceMul, Nat.reduceSub, Nat.reduceGT, reduceIte, Int.reduceNeg, Int.reduceToNat]) |  refine And.intro ?_ ?_ | intro _))
                all_goals first | omega | exact (hIm _ ‹_›).1 | exact (hIm _ ‹_›).2.1 | exact (hIm _ ‹_›).2.2 _ ‹_› | exact g2.trans g1.symm | exact (hBn _ ‹_›).1 | exact (hBn _ ‹_›).2 | exact hIm _ ‹_› | skip
                all_goals trace_state
            · have hge2 : ¬ (k : Int) < E.length := by omega
              rw [hyes fun i hi => hf i hi (by omega)]
              (repeat' (first | refine WP.seq ?_ | refine WP.block ?_ | ((first | refine WP.region ?_ | refine WP.condW ?_ | refine WP.ret ?_ | refine WP.exit ?_ | refine WP.skip ?_); simp only [go_sem, hge2, tyAll, Nat.reduceAdd, Nat.reduceLT, Nat.reduceLeDiff, Nat.reduceEqDiff, Nat.reduceMul, Nat.reduceSub, Nat.reduceGT, reduceIte, Int.reduceNeg, Int.reduceToNat]) | ((first | refine WP.drawW 32 (by decide +kernel) (by kernel_rfl) ?_ | refine WP.drawW 11 (by decide +kernel) (by kernel_rfl) ?_); simp only [go_sem, hge2, tyAll, Nat.reduceAdd, Nat.reduceLT, Nat.reduceLeDiff, Nat.reduceEqDiff, Nat.reduceMul, Nat.reduceSub, Nat.reduceGT, reduceIte, Int.reduceNeg, Int.reduceToNat]) |  refine And.intro ?_ ?_ | intro _))
              all_goals first | omega | skip
              all_goals trace_state
          · (repeat' (first | refine WP.seq ?_ | refine WP.block ?_ | ((first | refine WP.region ?_ | refine WP.condW ?_ | refine WP.ret ?_ | refine WP.exit ?_ | refine WP.skip ?_); simp only [go_sem, hge, l1, l2, c02, c12, t1, r0, r1, b0, b1, encImage, encI, v1, v2, v3, tyAll, Nat.reduceAdd, Nat.reduceLT, Nat.reduceLeDiff, Nat.reduceEqDiff, Nat.reduceMul, Nat.reduceSub, Nat.reduceGT, reduceIte, Int.reduceNeg, Int.reduceToNat]) | ((first | refine WP.drawW 32 (by decide +kernel) (by kernel_rfl) ?_ | refine WP.drawW 11 (by decide +kernel) (by kernel_rfl) ?_); simp only [go_sem, hge, l1, l2, c02, c12, t1, r0, r1, b0, b1, encImage, encI, v1, v2, v3, tyAll, Nat.reduceAdd, Nat.reduceLT, Nat.reduceLeDiff, Nat.reduceEqDiff, Nat.reduceMul, Nat.reduceSub, Nat.reduceGT, reduceIte, Int.reduceNeg, Int.reduceToNat]) |  refine And.intro ?_ ?_ | intro _))
            all_goals first | omega | skip
            refine WP.loop (fun k : Nat => ⟨[(1, .ptr 1 0 0 0), (6, .v (.int .i64 k))], [(1, .box 83 [.sl 2 (I.map encImage), .sl 1 (B.map encI), .sl 1 (E.map encI)])]⟩)
              (fun k => k ≤ E.length ∧ ∀ i (hi : i < E.length), i < k → isEnt I B E[i] = true) (fun k => E.length - k) 0 (by simp) ?_ ?_
            · (simp only [go_sem, tyAll, Nat.reduceAdd, Nat.reduceLT, Nat.reduceLeDiff, Nat.reduceEqDiff, Nat.reduceMul, Nat.reduceSub, Nat.reduceGT, reduceIte, Int.reduceNeg, Int.reduceToNat] <;> (first | rfl | exact ⟨rfl, rfl⟩ | exact ⟨rfl, rfl, rfl⟩ | exact ⟨rfl, rfl, rfl, rfl⟩ | exact ⟨rfl, rfl, rfl, rfl, rfl⟩ | exact ⟨⟨rfl, rfl⟩, rfl⟩ | simp))
            intro k ⟨hk, hf⟩
            by_cases hlt : k < E.length
            · have hli : (k : Int) < E.length := by omega
              have hre := rowAt_map encI E k hlt
              have hes := ent_same g1 hi2 ho E[k]
              unfold entS at hes
              obtain ⟨hlo1, hlo2⟩ := locI_bd I B E[k]
              by_cases hn : locI I B E[k] < 0
              · rw [if_pos hn] at hes
                rw [hloop k hlt hes.symm]
                (repeat' (first | refine WP.seq ?_ | refine WP.block ?_ | ((first | refine WP.region ?_ | refine WP.condW ?_ | refine WP.ret ?_ | refine WP.exit ?_ | refine WP.skip ?_); simp only [go_sem, hli, hre, encI, hn, tyAll, Nat.reduceAdd, Nat.reduceLT, Nat.reduceLeDiff, Nat.reduceEqDiff, Nat.reduceMul, Nat.reduceSub, Nat.reduceGT, reduceIte, Int.reduceNeg, Int.reduceToNat]) | ((first | refine WP.drawW 32 (by decide +kernel) (by kernel_rfl) ?_ | refine WP.drawW 11 (by decide +kernel) (by kernel_rfl) ?_); simp only [go_sem, hli, hre, encI, hn, tyAll, Nat.reduceAdd, Nat.reduceLT, Nat.reduceLeDiff, Nat.reduceEqDiff, Nat.reduceMul, Nat.reduceSub, Nat.reduceGT, reduceIte, Int.reduceNeg, Int.reduceToNat]) |  refine And.intro ?_ ?_ | intro _))
                all_goals first | omega | exact (hIm _ ‹_›).1 | exact (hIm _ ‹_›).2.1 | exact (hIm _ ‹_›).2.2 _ ‹_› | exact g2.trans g1.symm | exact (hBn _ ‹_›).1 | exact (hBn _ ‹_›).2 | exact hIm _ ‹_› | skip
                all_goals trace_state
              rw [if_neg hn] at hes
              obtain ⟨m, hm⟩ : ∃ m : Nat, locI I B E[k] = m := ⟨(locI I B E[k]).toNat, by omega⟩
              have hmI : m < I.length := by omega
              have hmB : m < B.length := by omega
              have hmi : (m : Int) < I.length := by omega
              have hm2 : (m : Int) < 2 := by omega
              have hm0 : ¬ (m : Int) < 0 := by omega
              rw [hm, Int.toNat_natCast, getD_img hmI, getD_int hmB] at hes
              have hrm := rowAt_map encImage I m hmI
              obtain ⟨y1, y2, y3⟩ := hIm _ (List.getElem_mem hmI)
              simp only at y1 y2 y3
              have hgB : B.getD m 0 = B[m] := getD_int hmB 0
              obtain ⟨hs1, hs2⟩ := symI_bd (symHit (E[k] - B[m])) I[m].symbols
              by_cases hz : firstIdx (symHit (E[k] - B[m])) I[m].symbols < 0
              · have hzF : ¬ 0 ≤ firstIdx (symHit (E[k] - B[m])) I[m].symbols := by omega
                rw [decide_eq_false hzF, Bool.false_and] at hes
                rw [hloop k hlt hes.symm]
                (repeat' (first | (refine WP.regionO (id := 19) ?_; simp only [go_sem, hli, hre, encI, hm, hm0, hmi, hm2, l1, hrm, encImage, hz, hgB, lk0, tyAll, Nat.reduceAdd, Nat.reduceLT, Nat.reduceLeDiff, Nat.reduceEqDiff, Nat.reduceMul, Nat.reduceSub, Nat.reduceGT, reduceIte, Int.reduceNeg, Int.reduceToNat]) | refine WP.seq ?_ | refine WP.block ?_ | ((first | refine WP.region ?_ | refine WP.condW ?_ | refine WP.ret ?_ | refine WP.exit ?_ | refine WP.skip ?_); simp only [go_sem, hli, hre, encI, hm, hm0, hmi, hm2, l1, hrm, encImage, hz, hgB, lk0, tyAll, Nat.reduceAdd, Nat.reduceLT, Nat.reduceLeDiff, Nat.reduceEqDiff, Nat.reduceMul, Nat.reduceSub, Nat.reduceGT, reduceIte, Int.reduceNeg, Int.reduceToNat]) | ((first | refine WP.drawW 32 (by decide +kernel) (by kernel_rfl) ?_ | refine WP.drawW 11 (by decide +kernel) (by kernel_rfl) ?_); simp only [go_sem, hli, hre, encI, hm, hm0, hmi, hm2, l1, hrm, encImage, hz, hgB, lk0, tyAll, Nat.reduceAdd, Nat.reduceLT, Nat.reduceLeDiff, Nat.reduceEqDiff, Nat.reduceMul, Nat.reduceSub, Nat.reduceGT, reduceIte, Int.reduceNeg, Int.reduceToNat]) |  refine And.intro ?_ ?_ | intro _))
                all_goals first | omega | exact (hIm _ ‹_›).1 | exact (hIm _ ‹_›).2.1 | exact (hIm _ ‹_›).2.2 _ ‹_› | exact g2.trans g1.symm | exact (hBn _ ‹_›).1 | exact (hBn _ ‹_›).2 | exact hIm _ ‹_› | skip
                all_goals trace_state
              obtain ⟨n, hn2⟩ : ∃ n : Nat, firstIdx (symHit (E[k] - B[m])) I[m].symbols = n := ⟨(firstIdx (symHit (E[k] - B[m])) I[m].symbols).toNat, by omega⟩
              have hnY : n < I[m].symbols.length := by omega
              have hnYi : (n : Int) < I[m].symbols.length := by omega
              have hn0 : ¬ (n : Int) < 0 := by omega
              have hnT : (0 : Int) ≤ (n : Int) := by omega
              rw [hn2, Int.toNat_natCast, decide_eq_true hnT, Bool.true_and, List.getD_eq_getElem?_getD, List.getElem?_eq_getElem hnY, Option.getD_some] at hes
              have hry := rowAt_map encSymbol I[m].symbols n hnY
              by_cases hst2 : I[m].symbols[n].start = E[k] - B[m]
              · rw [decide_eq_true hst2] at hes
                have he := hes.symm
                (repeat' (first | refine WP.seq ?_ | refine WP.block ?_ | ((first | refine WP.region ?_ | refine WP.condW ?_ | refine WP.ret ?_ | refine WP.exit ?_ | refine WP.skip ?_); simp only [go_sem, hli, hre, encI, hm, hm0, hmi, hm2, l1, hrm, encImage, hn2, hn0, hnYi, hry, encSymbol, hst2, hgB, tyAll, Nat.reduceAdd, Nat.reduceLT, Nat.reduceLeDiff, Nat.reduceEqDiff, Nat.reduceMul, Nat.reduceSub, Nat.reduceGT, reduceIte, Int.reduceNeg, Int.reduceToNat]) | ((first | refine WP.drawW 32 (by decide +kernel) (by kernel_rfl) ?_ | refine WP.drawW 11 (by decide +kernel) (by kernel_rfl) ?_); simp only [go_sem, hli, hre, encI, hm, hm0, hmi, hm2, l1, hrm, encImage, hn2, hn0, hnYi, hry, encSymbol, hst2, hgB, tyAll, Nat.reduceAdd, Nat.reduceLT, Nat.reduceLeDiff, Nat.reduceEqDiff, Nat.reduceMul, Nat.reduceSub, Nat.reduceGT, reduceIte, Int.reduceNeg, Int.reduceToNat]) |  refine And.intro ?_ ?_ | intro _))
                all_goals first | omega | exact (hIm _ ‹_›).1 | exact (hIm _ ‹_›).2.1 | exact (hIm _ ‹_›).2.2 _ ‹_› | exact g2.trans g1.symm | exact (hBn _ ‹_›).1 | exact (hBn _ ‹_›).2 | exact hIm _ ‹_› | exact ⟨k + 1, ⟨by omega, fun i hi hik => by
                  rcases Nat.lt_or_ge i k with h | h
                  · exact hf i hi h
                  · have : i = k := by omega
                    subst this; exact he⟩, by omega, by (first | rfl | exact ⟨rfl, rfl⟩ | exact ⟨rfl, rfl, rfl⟩ | exact ⟨rfl, rfl, rfl, rfl⟩ | exact ⟨rfl, rfl, rfl, rfl, rfl⟩ | exact ⟨⟨rfl, rfl⟩, rfl⟩ | simp)⟩ | skip
                all_goals trace_state
              · rw [decide_eq_false hst2] at hes
                rw [hloop k hlt hes.symm]
                (repeat' (first | refine WP.seq ?_ | refine WP.block ?_ | ((first | refine WP.region ?_ | refine WP.condW ?_ | refine WP.ret ?_ | refine WP.exit ?_ | refine WP.skip ?_); simp only [go_sem, hli, hre, encI, hm, hm0, hmi, hm2, l1, hrm, encImage, hn2, hn0, hnYi, hry, encSymbol, hst2, hgB, tyAll, Nat.reduceAdd, Nat.reduceLT, Nat.reduceLeDiff, Nat.reduceEqDiff, Nat.reduceMul, Nat.reduceSub, Nat.reduceGT, reduceIte, Int.reduceNeg, Int.reduceToNat]) | ((first | refine WP.drawW 32 (by decide +kernel) (by kernel_rfl) ?_ | refine WP.drawW 11 (by decide +kernel) (by kernel_rfl) ?_); simp only [go_sem, hli, hre, encI, hm, hm0, hmi, hm2, l1, hrm, encImage, hn2, hn0, hnYi, hry, encSymbol, hst2, hgB, tyAll, Nat.reduceAdd, Nat.reduceLT, Nat.reduceLeDiff, Nat.reduceEqDiff, Nat.reduceMul, Nat.reduceSub, Nat.reduceGT, reduceIte, Int.reduceNeg, Int.reduceToNat]) |  refine And.intro ?_ ?_ | intro _))
                all_goals first | omega | exact (hIm _ ‹_›).1 | exact (hIm _ ‹_›).2.1 | exact (hIm _ ‹_›).2.2 _ ‹_› | exact g2.trans g1.symm | exact (hBn _ ‹_›).1 | exact (hBn _ ‹_›).2 | exact hIm _ ‹_› | skip
                all_goals trace_state
            · have hge2 : ¬ (k : Int) < E.length := by omega
              rw [hyes fun i hi => hf i hi (by omega)]
              (repeat' (first | refine WP.seq ?_ | refine WP.block ?_ | ((first | refine WP.region ?_ | refine WP.condW ?_ | refine WP.ret ?_ | refine WP.exit ?_ | refine WP.skip ?_); simp only [go_sem, hge2, tyAll, Nat.reduceAdd, Nat.reduceLT, Nat.reduceLeDiff, Nat.reduceEqDiff, Nat.reduceMul, Nat.reduceSub, Nat.reduceGT, reduceIte, Int.reduceNeg, Int.reduceToNat]) | ((first | refine WP.drawW 32 (by decide +kernel) (by kernel_rfl) ?_ | refine WP.drawW 11 (by decide +kernel) (by kernel_rfl) ?_); simp only [go_sem, hge2, tyAll, Nat.reduceAdd, Nat.reduceLT, Nat.reduceLeDiff, Nat.reduceEqDiff, Nat.reduceMul, Nat.reduceSub, Nat.reduceGT, reduceIte, Int.reduceNeg, Int.reduceToNat]) |  refine And.intro ?_ ?_ | intro _))
              all_goals first | omega | skip
              all_goals trace_state
        · (repeat' (first | refine WP.seq ?_ | refine WP.block ?_ | ((first | refine WP.region ?_ | refine WP.condW ?_ | refine WP.ret ?_ | refine WP.exit ?_ | refine WP.skip ?_); simp only [go_sem, hge, l1, l2, c02, c12, t1, r0, r1, b0, b1, encImage, encI, v1, v2, tyAll, Nat.reduceAdd, Nat.reduceLT, Nat.reduceLeDiff, Nat.reduceEqDiff, Nat.reduceMul, Nat.reduceSub, Nat.reduceGT, reduceIte, Int.reduceNeg, Int.reduceToNat]) | ((first | refine WP.drawW 32 (by decide +kernel) (by kernel_rfl) ?_ | refine WP.drawW 11 (by decide +kernel) (by kernel_rfl) ?_); simp only [go_sem, hge, l1, l2, c02, c12, t1, r0, r1, b0, b1, encImage, encI, v1, v2, tyAll, Nat.reduceAdd, Nat.reduceLT, Nat.reduceLeDiff, Nat.reduceEqDiff, Nat.reduceMul, Nat.reduceSub, Nat.reduceGT, reduceIte, Int.reduceNeg, Int.reduceToNat]) |  refine And.intro ?_ ?_ | intro _))
          all_goals first | omega | skip
          refine WP.loop (fun k : Nat => ⟨[(1, .ptr 1 0 0 0), (6, .v (.int .i64 k))], [(1, .box 83 [.sl 2 (I.map encImage), .sl 1 (B.map encI), .sl 1 (E.map encI)])]⟩)
            (fun k => k ≤ E.length ∧ ∀ i (hi : i < E.length), i < k → isEnt I B E[i] = true) (fun k => E.length - k) 0 (by simp) ?_ ?_
          · (simp only [go_sem, tyAll, Nat.reduceAdd, Nat.reduceLT, Nat.reduceLeDiff, Nat.reduceEqDiff, Nat.reduceMul, Nat.reduceSub, Nat.reduceGT, reduceIte, Int.reduceNeg, Int.reduceToNat] <;> (first | rfl | exact ⟨rfl, rfl⟩ | exact ⟨rfl, rfl, rfl⟩ | exact ⟨rfl, rfl, rfl, rfl⟩ | exact ⟨rfl, rfl, rfl, rfl, rfl⟩ | exact ⟨⟨rfl, rfl⟩, rfl⟩ | simp))
          intro k ⟨hk, hf⟩
          by_cases hlt : k < E.length
          · have hli : (k : Int) < E.length := by omega
            have hre := rowAt_map encI E k hlt
            have hes := ent_same g1 hi2 ho E[k]
            unfold entS at hes
            obtain ⟨hlo1, hlo2⟩ := locI_bd I B E[k]
            by_cases hn : locI I B E[k] < 0
            · rw [if_pos hn] at hes
              rw [hloop k hlt hes.symm]
              (repeat' (first | refine WP.seq ?_ | refine WP.block ?_ | ((first | refine WP.region ?_ | refine WP.condW ?_ | refine WP.ret ?_ | refine WP.exit ?_ | refine WP.skip ?_); simp only [go_sem, hli, hre, encI, hn, tyAll, Nat.reduceAdd, Nat.reduceLT, Nat.reduceLeDiff, Nat.reduceEqDiff, Nat.reduceMul, Nat.reduceSub, Nat.reduceGT, reduceIte, Int.reduceNeg, Int.reduceToNat]) | ((first | refine WP.drawW 32 (by decide +kernel) (by kernel_rfl) ?_ | refine WP.drawW 11 (by decide +kernel) (by kernel_rfl) ?_); simp only [go_sem, hli, hre, encI, hn, tyAll, Nat.reduceAdd, Nat.reduceLT, Nat.reduceLeDiff, Nat.reduceEqDiff, Nat.reduceMul, Nat.reduceSub, Nat.reduceGT, reduceIte, Int.reduceNeg, Int.reduceToNat]) |  refine And.intro ?_ ?_ | intro _))
              all_goals first | omega | exact (hIm _ ‹_›).1 | exact (hIm _ ‹_›).2.1 | exact (hIm _ ‹_›).2.2 _ ‹_› | exact g2.trans g1.symm | exact (hBn _ ‹_›).1 | exact (hBn _ ‹_›).2 | exact hIm _ ‹_› | skip
              all_goals trace_state
            rw [if_neg hn] at hes
            obtain ⟨m, hm⟩ : ∃ m : Nat, locI I B E[k] = m := ⟨(locI I B E[k]).toNat, by omega⟩
            have hmI : m < I.length := by omega
            have hmB : m < B.length := by omega
            have hmi : (m : Int) < I.length := by omega
            have hm2 : (m : Int) < 2 := by omega
            have hm0 : ¬ (m : Int) < 0 := by omega
            rw [hm, Int.toNat_natCast, getD_img hmI, getD_int hmB] at hes
            have hrm := rowAt_map encImage I m hmI
            obtain ⟨y1, y2, y3⟩ := hIm _ (List.getElem_mem hmI)
            simp only at y1 y2 y3
            have hgB : B.getD m 0 = B[m] := getD_int hmB 0
            obtain ⟨hs1, hs2⟩ := symI_bd (symHit (E[k] - B[m])) I[m].symbols
            by_cases hz : firstIdx (symHit (E[k] - B[m])) I[m].symbols < 0
            · have hzF : ¬ 0 ≤ firstIdx (symHit (E[k] - B[m])) I[m].symbols := by omega
              rw [decide_eq_false hzF, Bool.false_and] at hes
              rw [hloop k hlt hes.symm]
              (repeat' (first | (refine WP.regionO (id := 19) ?_; simp only [go_sem, hli, hre, encI, hm, hm0, hmi, hm2, l1, hrm, encImage, hz, hgB, lk0, tyAll, Nat.reduceAdd, Nat.reduceLT, Nat.reduceLeDiff, Nat.reduceEqDiff, Nat.reduceMul, Nat.reduceSub, Nat.reduceGT, reduceIte, Int.reduceNeg, Int.reduceToNat]) | refine WP.seq ?_ | refine WP.block ?_ | ((first | refine WP.region ?_ | refine WP.condW ?_ | refine WP.ret ?_ | refine WP.exit ?_ | refine WP.skip ?_); simp only [go_sem, hli, hre, encI, hm, hm0, hmi, hm2, l1, hrm, encImage, hz, hgB, lk0, tyAll, Nat.reduceAdd, Nat.reduceLT, Nat.reduceLeDiff, Nat.reduceEqDiff, Nat.reduceMul, Nat.reduceSub, Nat.reduceGT, reduceIte, Int.reduceNeg, Int.reduceToNat]) | ((first | refine WP.drawW 32 (by decide +kernel) (by kernel_rfl) ?_ | refine WP.drawW 11 (by decide +kernel) (by kernel_rfl) ?_); simp only [go_sem, hli, hre, encI, hm, hm0, hmi, hm2, l1, hrm, encImage, hz, hgB, lk0, tyAll, Nat.reduceAdd, Nat.reduceLT, Nat.reduceLeDiff, Nat.reduceEqDiff, Nat.reduceMul, Nat.reduceSub, Nat.reduceGT, reduceIte, Int.reduceNeg, Int.reduceToNat]) |  refine And.intro ?_ ?_ | intro _))
              all_goals first | omega | exact (hIm _ ‹_›).1 | exact (hIm _ ‹_›).2.1 | exact (hIm _ ‹_›).2.2 _ ‹_› | exact g2.trans g1.symm | exact (hBn _ ‹_›).1 | exact (hBn _ ‹_›).2 | exact hIm _ ‹_› | skip
              all_goals trace_state
            obtain ⟨n, hn2⟩ : ∃ n : Nat, firstIdx (symHit (E[k] - B[m])) I[m].symbols = n := ⟨(firstIdx (symHit (E[k] - B[m])) I[m].symbols).toNat, by omega⟩
            have hnY : n < I[m].symbols.length := by omega
            have hnYi : (n : Int) < I[m].symbols.length := by omega
            have hn0 : ¬ (n : Int) < 0 := by omega
            have hnT : (0 : Int) ≤ (n : Int) := by omega
            rw [hn2, Int.toNat_natCast, decide_eq_true hnT, Bool.true_and, List.getD_eq_getElem?_getD, List.getElem?_eq_getElem hnY, Option.getD_some] at hes
            have hry := rowAt_map encSymbol I[m].symbols n hnY
            by_cases hst2 : I[m].symbols[n].start = E[k] - B[m]
            · rw [decide_eq_true hst2] at hes
              have he := hes.symm
              (repeat' (first | refine WP.seq ?_ | refine WP.block ?_ | ((first | refine WP.region ?_ | refine WP.condW ?_ | refine WP.ret ?_ | refine WP.exit ?_ | refine WP.skip ?_); simp only [go_sem, hli, hre, encI, hm, hm0, hmi, hm2, l1, hrm, encImage, hn2, hn0, hnYi, hry, encSymbol, hst2, hgB, tyAll, Nat.reduceAdd, Nat.reduceLT, Nat.reduceLeDiff, Nat.reduceEqDiff, Nat.reduceMul, Nat.reduceSub, Nat.reduceGT, reduceIte, Int.reduceNeg, Int.reduceToNat]) | ((first | refine WP.drawW 32 (by decide +kernel) (by kernel_rfl) ?_ | refine WP.drawW 11 (by decide +kernel) (by kernel_rfl) ?_); simp only [go_sem, hli, hre, encI, hm, hm0, hmi, hm2, l1, hrm, encImage, hn2, hn0, hnYi, hry, encSymbol, hst2, hgB, tyAll, Nat.reduceAdd, Nat.reduceLT, Nat.reduceLeDiff, Nat.reduceEqDiff, Nat.reduceMul, Nat.reduceSub, Nat.reduceGT, reduceIte, Int.reduceNeg, Int.reduceToNat]) |  refine And.intro ?_ ?_ | intro _))
              all_goals first | omega | exact (hIm _ ‹_›).1 | exact (hIm _ ‹_›).2.1 | exact (hIm _ ‹_›).2.2 _ ‹_› | exact g2.trans g1.symm | exact (hBn _ ‹_›).1 | exact (hBn _ ‹_›).2 | exact hIm _ ‹_› | exact ⟨k + 1, ⟨by omega, fun i hi hik => by
                rcases Nat.lt_or_ge i k with h | h
                · exact hf i hi h
                · have : i = k := by omega
                  subst this; exact he⟩, by omega, by (first | rfl | exact ⟨rfl, rfl⟩ | exact ⟨rfl, rfl, rfl⟩ | exact ⟨rfl, rfl, rfl, rfl⟩ | exact ⟨rfl, rfl, rfl, rfl, rfl⟩ | exact ⟨⟨rfl, rfl⟩, rfl⟩ | simp)⟩ | skip
              all_goals trace_state
            · rw [decide_eq_false hst2] at hes
              rw [hloop k hlt hes.symm]
              (repeat' (first | refine WP.seq ?_ | refine WP.block ?_ | ((first | refine WP.region ?_ | refine WP.condW ?_ | refine WP.ret ?_ | refine WP.exit ?_ | refine WP.skip ?_); simp only [go_sem, hli, hre, encI, hm, hm0, hmi, hm2, l1, hrm, encImage, hn2, hn0, hnYi, hry, encSymbol, hst2, hgB, tyAll, Nat.reduceAdd, Nat.reduceLT, Nat.reduceLeDiff, Nat.reduceEqDiff, Nat.reduceMul, Nat.reduceSub, Nat.reduceGT, reduceIte, Int.reduceNeg, Int.reduceToNat]) | ((first | refine WP.drawW 32 (by decide +kernel) (by kernel_rfl) ?_ | refine WP.drawW 11 (by decide +kernel) (by kernel_rfl) ?_); simp only [go_sem, hli, hre, encI, hm, hm0, hmi, hm2, l1, hrm, encImage, hn2, hn0, hnYi, hry, encSymbol, hst2, hgB, tyAll, Nat.reduceAdd, Nat.reduceLT, Nat.reduceLeDiff, Nat.reduceEqDiff, Nat.reduceMul, Nat.reduceSub, Nat.reduceGT, reduceIte, Int.reduceNeg, Int.reduceToNat]) |  refine And.intro ?_ ?_ | intro _))
              all_goals first | omega | exact (hIm _ ‹_›).1 | exact (hIm _ ‹_›).2.1 | exact (hIm _ ‹_›).2.2 _ ‹_› | exact g2.trans g1.symm | exact (hBn _ ‹_›).1 | exact (hBn _ ‹_›).2 | exact hIm _ ‹_› | skip
              all_goals trace_state
          · have hge2 : ¬ (k : Int) < E.length := by omega
            rw [hyes fun i hi => hf i hi (by omega)]
            (repeat' (first | refine WP.seq ?_ | refine WP.block ?_ | ((first | refine WP.region ?_ | refine WP.condW ?_ | refine WP.ret ?_ | refine WP.exit ?_ | refine WP.skip ?_); simp only [go_sem, hge2, tyAll, Nat.reduceAdd, Nat.reduceLT, Nat.reduceLeDiff, Nat.reduceEqDiff, Nat.reduceMul, Nat.reduceSub, Nat.reduceGT, reduceIte, Int.reduceNeg, Int.reduceToNat]) | ((first | refine WP.drawW 32 (by decide +kernel) (by kernel_rfl) ?_ | refine WP.drawW 11 (by decide +kernel) (by kernel_rfl) ?_); simp only [go_sem, hge2, tyAll, Nat.reduceAdd, Nat.reduceLT, Nat.reduceLeDiff, Nat.reduceEqDiff, Nat.reduceMul, Nat.reduceSub, Nat.reduceGT, reduceIte, Int.reduceNeg, Int.reduceToNat]) |  refine And.intro ?_ ?_ | intro _))
            all_goals first | omega | skip
            all_goals trace_state
      · (repeat' (first | refine WP.seq ?_ | refine WP.block ?_ | ((first | refine WP.region ?_ | refine WP.condW ?_ | refine WP.ret ?_ | refine WP.exit ?_ | refine WP.skip ?_); simp only [go_sem, hge, l1, l2, c02, c12, t1, r0, r1, b0, b1, encImage, encI, v1, tyAll, Nat.reduceAdd, Nat.reduceLT, Nat.reduceLeDiff, Nat.reduceEqDiff, Nat.reduceMul, Nat.reduceSub, Nat.reduceGT, reduceIte, Int.reduceNeg, Int.reduceToNat]) | ((first | refine WP.drawW 32 (by decide +kernel) (by kernel_rfl) ?_ | refine WP.drawW 11 (by decide +kernel) (by kernel_rfl) ?_); simp only [go_sem, hge, l1, l2, c02, c12, t1, r0, r1, b0, b1, encImage, encI, v1, tyAll, Nat.reduceAdd, Nat.reduceLT, Nat.reduceLeDiff, Nat.reduceEqDiff, Nat.reduceMul, Nat.reduceSub, Nat.reduceGT, reduceIte, Int.reduceNeg, Int.reduceToNat]) |  refine And.intro ?_ ?_ | intro _))
        all_goals first | omega | skip
        refine WP.loop (fun k : Nat => ⟨[(1, .ptr 1 0 0 0), (6, .v (.int .i64 k))], [(1, .box 83 [.sl 2 (I.map encImage), .sl 1 (B.map encI), .sl 1 (E.map encI)])]⟩)
          (fun k => k ≤ E.length ∧ ∀ i (hi : i < E.length), i < k → isEnt I B E[i] = true) (fun k => E.length - k) 0 (by simp) ?_ ?_
        · (simp only [go_sem, tyAll, Nat.reduceAdd, Nat.reduceLT, Nat.reduceLeDiff, Nat.reduceEqDiff, Nat.reduceMul, Nat.reduceSub, Nat.reduceGT, reduceIte, Int.reduceNeg, Int.reduceToNat] <;> (first | rfl | exact ⟨rfl, rfl⟩ | exact ⟨rfl, rfl, rfl⟩ | exact ⟨rfl, rfl, rfl, rfl⟩ | exact ⟨rfl, rfl, rfl, rfl, rfl⟩ | exact ⟨⟨rfl, rfl⟩, rfl⟩ | simp))
        intro k ⟨hk, hf⟩
        by_cases hlt : k < E.length
        · have hli : (k : Int) < E.length := by omega
          have hre := rowAt_map encI E k hlt
          have hes := ent_same g1 hi2 ho E[k]
          unfold entS at hes
          obtain ⟨hlo1, hlo2⟩ := locI_bd I B E[k]
          by_cases hn : locI I B E[k] < 0
          · rw [if_pos hn] at hes
            rw [hloop k hlt hes.symm]
            (repeat' (first | refine WP.seq ?_ | refine WP.block ?_ | ((first | refine WP.region ?_ | refine WP.condW ?_ | refine WP.ret ?_ | refine WP.exit ?_ | refine WP.skip ?_); simp only [go_sem, hli, hre, encI, hn, tyAll, Nat.reduceAdd, Nat.reduceLT, Nat.reduceLeDiff, Nat.reduceEqDiff, Nat.reduceMul, Nat.reduceSub, Nat.reduceGT, reduceIte, Int.reduceNeg, Int.reduceToNat]) | ((first | refine WP.drawW 32 (by decide +kernel) (by kernel_rfl) ?_ | refine WP.drawW 11 (by decide +kernel) (by kernel_rfl) ?_); simp only [go_sem, hli, hre, encI, hn, tyAll, Nat.reduceAdd, Nat.reduceLT, Nat.reduceLeDiff, Nat.reduceEqDiff, Nat.reduceMul, Nat.reduceSub, Nat.reduceGT, reduceIte, Int.reduceNeg, Int.reduceToNat]) |  refine And.intro ?_ ?_ | intro _))
            all_goals first | omega | exact (hIm _ ‹_›).1 | exact (hIm _ ‹_›).2.1 | exact (hIm _ ‹_›).2.2 _ ‹_› | exact g2.trans g1.symm | exact (hBn _ ‹_›).1 | exact (hBn _ ‹_›).2 | exact hIm _ ‹_› | skip
            all_goals trace_state
          rw [if_neg hn] at hes
          obtain ⟨m, hm⟩ : ∃ m : Nat, locI I B E[k] = m := ⟨(locI I B E[k]).toNat, by omega⟩
          have hmI : m < I.length := by omega
          have hmB : m < B.length := by omega
          have hmi : (m : Int) < I.length := by omega
          have hm2 : (m : Int) < 2 := by omega
          have hm0 : ¬ (m : Int) < 0 := by omega
          rw [hm, Int.toNat_natCast, getD_img hmI, getD_int hmB] at hes
          have hrm := rowAt_map encImage I m hmI
          obtain ⟨y1, y2, y3⟩ := hIm _ (List.getElem_mem hmI)
          simp only at y1 y2 y3
          have hgB : B.getD m 0 = B[m] := getD_int hmB 0
          obtain ⟨hs1, hs2⟩ := symI_bd (symHit (E[k] - B[m])) I[m].symbols
          by_cases hz : firstIdx (symHit (E[k] - B[m])) I[m].symbols < 0
          · have hzF : ¬ 0 ≤ firstIdx (symHit (E[k] - B[m])) I[m].symbols := by omega
            rw [decide_eq_false hzF, Bool.false_and] at hes
            rw [hloop k hlt hes.symm]
            (repeat' (first | (refine WP.regionO (id := 19) ?_; simp only [go_sem, hli, hre, encI, hm, hm0, hmi, hm2, l1, hrm, encImage, hz, hgB, lk0, tyAll, Nat.reduceAdd, Nat.reduceLT, Nat.reduceLeDiff, Nat.reduceEqDiff, Nat.reduceMul, Nat.reduceSub, Nat.reduceGT, reduceIte, Int.reduceNeg, Int.reduceToNat]) | refine WP.seq ?_ | refine WP.block ?_ | ((first | refine WP.region ?_ | refine WP.condW ?_ | refine WP.ret ?_ | refine WP.exit ?_ | refine WP.skip ?_); simp only [go_sem, hli, hre, encI, hm, hm0, hmi, hm2, l1, hrm, encImage, hz, hgB, lk0, tyAll, Nat.reduceAdd, Nat.reduceLT, Nat.reduceLeDiff, Nat.reduceEqDiff, Nat.reduceMul, Nat.reduceSub, Nat.reduceGT, reduceIte, Int.reduceNeg, Int.reduceToNat]) | ((first | refine WP.drawW 32 (by decide +kernel) (by kernel_rfl) ?_ | refine WP.drawW 11 (by decide +kernel) (by kernel_rfl) ?_); simp only [go_sem, hli, hre, encI, hm, hm0, hmi, hm2, l1, hrm, encImage, hz, hgB, lk0, tyAll, Nat.reduceAdd, Nat.reduceLT, Nat.reduceLeDiff, Nat.reduceEqDiff, Nat.reduceMul, Nat.reduceSub, Nat.reduceGT, reduceIte, Int.reduceNeg, Int.reduceToNat]) |  refine And.intro ?_ ?_ | intro _))
            all_goals first | omega | exact (hIm _ ‹_›).1 | exact (hIm _ ‹_›).2.1 | exact (hIm _ ‹_›).2.2 _ ‹_› | exact g2.trans g1.symm | exact (hBn _ ‹_›).1 | exact (hBn _ ‹_›).2 | exact hIm _ ‹_› | skip
            all_goals trace_state
          obtain ⟨n, hn2⟩ : ∃ n : Nat, firstIdx (symHit (E[k] - B[m])) I[m].symbols = n := ⟨(firstIdx (symHit (E[k] - B[m])) I[m].symbols).toNat, by omega⟩
          have hnY : n < I[m].symbols.length := by omega
          have hnYi : (n : Int) < I[m].symbols.length := by omega
          have hn0 : ¬ (n : Int) < 0 := by omega
          have hnT : (0 : Int) ≤ (n : Int) := by omega
          rw [hn2, Int.toNat_natCast, decide_eq_true hnT, Bool.true_and, List.getD_eq_getElem?_getD, List.getElem?_eq_getElem hnY, Option.getD_some] at hes
          have hry := rowAt_map encSymbol I[m].symbols n hnY
          by_cases hst2 : I[m].symbols[n].start = E[k] - B[m]
          · rw [decide_eq_true hst2] at hes
            have he := hes.symm
            (repeat' (first | refine WP.seq ?_ | refine WP.block ?_ | ((first | refine WP.region ?_ | refine WP.condW ?_ | refine WP.ret ?_ | refine WP.exit ?_ | refine WP.skip ?_); simp only [go_sem, hli, hre, encI, hm, hm0, hmi, hm2, l1, hrm, encImage, hn2, hn0, hnYi, hry, encSymbol, hst2, hgB, tyAll, Nat.reduceAdd, Nat.reduceLT, Nat.reduceLeDiff, Nat.reduceEqDiff, Nat.reduceMul, Nat.reduceSub, Nat.reduceGT, reduceIte, Int.reduceNeg, Int.reduceToNat]) | ((first | refine WP.drawW 32 (by decide +kernel) (by kernel_rfl) ?_ | refine WP.drawW 11 (by decide +kernel) (by kernel_rfl) ?_); simp only [go_sem, hli, hre, encI, hm, hm0, hmi, hm2, l1, hrm, encImage, hn2, hn0, hnYi, hry, encSymbol, hst2, hgB, tyAll, Nat.reduceAdd, Nat.reduceLT, Nat.reduceLeDiff, Nat.reduceEqDiff, Nat.reduceMul, Nat.reduceSub, Nat.reduceGT, reduceIte, Int.reduceNeg, Int.reduceToNat]) |  refine And.intro ?_ ?_ | intro _))
            all_goals first | omega | exact (hIm _ ‹_›).1 | exact (hIm _ ‹_›).2.1 | exact (hIm _ ‹_›).2.2 _ ‹_› | exact g2.trans g1.symm | exact (hBn _ ‹_›).1 | exact (hBn _ ‹_›).2 | exact hIm _ ‹_› | exact ⟨k + 1, ⟨by omega, fun i hi hik => by
              rcases Nat.lt_or_ge i k with h | h
              · exact hf i hi h
              · have : i = k := by omega
                subst this; exact he⟩, by omega, by (first | rfl | exact ⟨rfl, rfl⟩ | exact ⟨rfl, rfl, rfl⟩ | exact ⟨rfl, rfl, rfl, rfl⟩ | exact ⟨rfl, rfl, rfl, rfl, rfl⟩ | exact ⟨⟨rfl, rfl⟩, rfl⟩ | simp)⟩ | skip
            all_goals trace_state
          · rw [decide_eq_false hst2] at hes
            rw [hloop k hlt hes.symm]
            (repeat' (first | refine WP.seq ?_ | refine WP.block ?_ | ((first | refine WP.region ?_ | refine WP.condW ?_ | refine WP.ret ?_ | refine WP.exit ?_ | refine WP.skip ?_); simp only [go_sem, hli, hre, encI, hm, hm0, hmi, hm2, l1, hrm, encImage, hn2, hn0, hnYi, hry, encSymbol, hst2, hgB, tyAll, Nat.reduceAdd, Nat.reduceLT, Nat.reduceLeDiff, Nat.reduceEqDiff, Nat.reduceMul, Nat.reduceSub, Nat.reduceGT, reduceIte, Int.reduceNeg, Int.reduceToNat]) | ((first | refine WP.drawW 32 (by decide +kernel) (by kernel_rfl) ?_ | refine WP.drawW 11 (by decide +kernel) (by kernel_rfl) ?_); simp only [go_sem, hli, hre, encI, hm, hm0, hmi, hm2, l1, hrm, encImage, hn2, hn0, hnYi, hry, encSymbol, hst2, hgB, tyAll, Nat.reduceAdd, Nat.reduceLT, Nat.reduceLeDiff, Nat.reduceEqDiff, Nat.reduceMul, Nat.reduceSub, Nat.reduceGT, reduceIte, Int.reduceNeg, Int.reduceToNat]) |  refine And.intro ?_ ?_ | intro _))
            all_goals first | omega | exact (hIm _ ‹_›).1 | exact (hIm _ ‹_›).2.1 | exact (hIm _ ‹_›).2.2 _ ‹_› | exact g2.trans g1.symm | exact (hBn _ ‹_›).1 | exact (hBn _ ‹_›).2 | exact hIm _ ‹_› | skip
            all_goals trace_state
        · have hge2 : ¬ (k : Int) < E.length := by omega
          rw [hyes fun i hi => hf i hi (by omega)]
          (repeat' (first | refine WP.seq ?_ | refine WP.block ?_ | ((first | refine WP.region ?_ | refine WP.condW ?_ | refine WP.ret ?_ | refine WP.exit ?_ | refine WP.skip ?_); simp only [go_sem, hge2, tyAll, Nat.reduceAdd, Nat.reduceLT, Nat.reduceLeDiff, Nat.reduceEqDiff, Nat.reduceMul, Nat.reduceSub, Nat.reduceGT, reduceIte, Int.reduceNeg, Int.reduceToNat]) | ((first | refine WP.drawW 32 (by decide +kernel) (by kernel_rfl) ?_ | refine WP.drawW 11 (by decide +kernel) (by kernel_rfl) ?_); simp only [go_sem, hge2, tyAll, Nat.reduceAdd, Nat.reduceLT, Nat.reduceLeDiff, Nat.reduceEqDiff, Nat.reduceMul, Nat.reduceSub, Nat.reduceGT, reduceIte, Int.reduceNeg, Int.reduceToNat]) |  refine And.intro ?_ ?_ | intro _))
          all_goals first | omega | skip
          all_goals trace_state
end
end
section
open Go.Vc
set_option linter.unusedSimpArgs false
set_option linter.unusedVariables false
set_option maxHeartbeats 1000000
set_option maxRecDepth 10000
attribute [local irreducible] Go.Vc.WP
attribute [local go_sem] cx0_t cx0_c
structure Tm where
  period : Int
  spread : Int
  left : Int
  state : Int
deriving DecidableEq
def encTm (x : Tm) : List SV := [.v (.int .i64 x.period), .v (.int .i64 x.spread), .v (.int .i64 x.left), .v (.int .i64 x.state)]
def tmA (args : List SV) (i : Nat) : Tm := match args[i]? with
  | some (.agg [.v (.int _ a), .v (.int _ b), .v (.int _ c), .v (.int _ d)]) => ⟨a, b, c, d⟩
  | _ => ⟨0, 0, 0, 0⟩
theorem tm_eta (x : Tm) : (⟨x.period, x.spread, x.left, x.state⟩ : Tm) = x := rfl
attribute [local go_sem] tmA tm_eta
def tmOk (x : Tm) : Bool := decide ((1 ≤ x.period ∧ x.period ≤ 10000) ∧ (0 ≤ x.spread ∧ x.spread ≤ 100) ∧ (1 ≤ x.left ∧ x.left ≤ x.period + x.spread) ∧ 0 ≤ x.state ∧ x.state ≤ 65535)
def kTmOk : Ctr := pur (fun args => tmA args 0) (fun x => [.agg [.v (.int .i64 x.period), .v (.int .i64 x.spread), .v (.int .i64 x.left), .v (.int .i64 x.state)]]) (fun _ => True) (fun _ x => .v (.bool (tmOk x))) (fun _ _ => [])
section
noncomputable def cxTmS : Cx := { P := Try.prog, tys := tys, C := [(71, k60)], hty := tysOk, hC := COk.cons c58 (COk.nil _) }
theorem cxTmS_t : cxTmS.tys = tys := rfl
theorem cxTmS_c : cxTmS.C = [(71, k60)] := rfl
attribute [local go_sem] cxTmS_t cxTmS_c k60
theorem cTmOkS : Cn Try.prog 69 kTmOk := by
  refine Cn.pur Try.func69 (by kernel_rfl) rfl fun d x hx => ?_
  obtain ⟨p, s, l, t⟩ := x
  simp only
  refine Holds.go (c := cxTmS) Try.func69 rfl Try.results69 Try.ntmps69 (by omega) (by simp) rfl ?_
  intro X0 w0
  have e : tmOk ⟨p, s, l, t⟩ = (decide (1 ≤ p) && decide (p ≤ 10000) && (decide (0 ≤ s) && decide (s ≤ 100)) && (decide (1 ≤ l) && decide (l ≤ p + s)) && (decide (0 ≤ t) && decide (t ≤ 65535))) := by
    unfold tmOk
    rw [Bool.eq_iff_iff]
    simp only [decide_eq_true_eq, Bool.and_eq_true]
    omega
  by_cases h1 : 1 ≤ p ∧ p ≤ 10000
  · by_cases h2 : 0 ≤ s ∧ s ≤ 100
    · (repeat' (first | refine WP.seq ?_ | refine WP.block ?_ | ((first | refine WP.region ?_ | refine WP.condW ?_ | refine WP.ret ?_ | refine WP.exit ?_ | refine WP.skip ?_); simp only [go_sem, e, tyAll, Nat.reduceAdd, Nat.reduceLT, Nat.reduceLeDiff, Nat.reduceEqDiff, Nat.reduceMul, Nat.reduceSub, Nat.reduceGT, reduceIte, Int.reduceNeg, Int.reduceToNat]) |  refine And.intro ?_ ?_ | intro _))
      all_goals first | omega | exact ⟨_, _, rfl, _, _, rfl, rfl⟩ | skip
      all_goals trace_state
    · (repeat' (first | refine WP.seq ?_ | refine WP.block ?_ | ((first | refine WP.region ?_ | refine WP.condW ?_ | refine WP.ret ?_ | refine WP.exit ?_ | refine WP.skip ?_); simp only [go_sem, e, tyAll, Nat.reduceAdd, Nat.reduceLT, Nat.reduceLeDiff, Nat.reduceEqDiff, Nat.reduceMul, Nat.reduceSub, Nat.reduceGT, reduceIte, Int.reduceNeg, Int.reduceToNat]) |  refine And.intro ?_ ?_ | intro _))
      all_goals first | omega | exact ⟨_, _, rfl, _, _, rfl, rfl⟩ | skip
      all_goals trace_state
  · (repeat' (first | refine WP.seq ?_ | refine WP.block ?_ | ((first | refine WP.region ?_ | refine WP.condW ?_ | refine WP.ret ?_ | refine WP.exit ?_ | refine WP.skip ?_); simp only [go_sem, e, tyAll, Nat.reduceAdd, Nat.reduceLT, Nat.reduceLeDiff, Nat.reduceEqDiff, Nat.reduceMul, Nat.reduceSub, Nat.reduceGT, reduceIte, Int.reduceNeg, Int.reduceToNat]) |  refine And.intro ?_ ?_ | intro _))
    all_goals first | omega | exact ⟨_, _, rfl, _, _, rfl, rfl⟩ | skip
    all_goals trace_state
end
section
noncomputable def cxTmI : Cx := { P := Try.prog, tys := tys, C := [(55, k60)], hty := tysOk, hC := COk.cons c60 (COk.nil _) }
theorem cxTmI_t : cxTmI.tys = tys := rfl
theorem cxTmI_c : cxTmI.C = [(55, k60)] := rfl
attribute [local go_sem] cxTmI_t cxTmI_c k60
theorem cTmOkI : Cn Try.prog 76 kTmOk := by
  refine Cn.pur Try.func76 (by kernel_rfl) rfl fun d x hx => ?_
  obtain ⟨p, s, l, t⟩ := x
  simp only
  refine Holds.go (c := cxTmI) Try.func76 rfl Try.results76 Try.ntmps76 (by omega) (by simp) rfl ?_
  intro X0 w0
  have e : tmOk ⟨p, s, l, t⟩ = (decide (1 ≤ p) && decide (p ≤ 10000) && (decide (0 ≤ s) && decide (s ≤ 100)) && (decide (1 ≤ l) && decide (l ≤ p + s)) && (decide (0 ≤ t) && decide (t ≤ 65535))) := by
    unfold tmOk
    rw [Bool.eq_iff_iff]
    simp only [decide_eq_true_eq, Bool.and_eq_true]
    omega
  by_cases h1 : 1 ≤ p ∧ p ≤ 10000
  · by_cases h2 : 0 ≤ s ∧ s ≤ 100
    · (repeat' (first | refine WP.seq ?_ | refine WP.block ?_ | ((first | refine WP.region ?_ | refine WP.condW ?_ | refine WP.ret ?_ | refine WP.exit ?_ | refine WP.skip ?_); simp only [go_sem, e, tyAll, Nat.reduceAdd, Nat.reduceLT, Nat.reduceLeDiff, Nat.reduceEqDiff, Nat.reduceMul, Nat.reduceSub, Nat.reduceGT, reduceIte, Int.reduceNeg, Int.reduceToNat]) |  refine And.intro ?_ ?_ | intro _))
      all_goals first | omega | exact ⟨_, _, rfl, _, _, rfl, rfl⟩ | skip
      all_goals trace_state
    · (repeat' (first | refine WP.seq ?_ | refine WP.block ?_ | ((first | refine WP.region ?_ | refine WP.condW ?_ | refine WP.ret ?_ | refine WP.exit ?_ | refine WP.skip ?_); simp only [go_sem, e, tyAll, Nat.reduceAdd, Nat.reduceLT, Nat.reduceLeDiff, Nat.reduceEqDiff, Nat.reduceMul, Nat.reduceSub, Nat.reduceGT, reduceIte, Int.reduceNeg, Int.reduceToNat]) |  refine And.intro ?_ ?_ | intro _))
      all_goals first | omega | exact ⟨_, _, rfl, _, _, rfl, rfl⟩ | skip
      all_goals trace_state
  · (repeat' (first | refine WP.seq ?_ | refine WP.block ?_ | ((first | refine WP.region ?_ | refine WP.condW ?_ | refine WP.ret ?_ | refine WP.exit ?_ | refine WP.skip ?_); simp only [go_sem, e, tyAll, Nat.reduceAdd, Nat.reduceLT, Nat.reduceLeDiff, Nat.reduceEqDiff, Nat.reduceMul, Nat.reduceSub, Nat.reduceGT, reduceIte, Int.reduceNeg, Int.reduceToNat]) |  refine And.intro ?_ ?_ | intro _))
    all_goals first | omega | exact ⟨_, _, rfl, _, _, rfl, rfl⟩ | skip
    all_goals trace_state
end
end
end Go.Proofs.Ytdbjioanlkilkaa
