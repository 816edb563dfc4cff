/-
  DERIVED. The law's function of VisitFrames returns true.
-/
import Derived.Test.YtdbjioanlkilkaaVtVF
import Derived.Test.YtdbjioanlkilkaaVgFrameM
namespace Go.Proofs.Ytdbjioanlkilkaa
open Go.Vc
set_option linter.unusedSimpArgs false
set_option linter.unusedVariables false
set_option maxHeartbeats 1000000
set_option maxRecDepth 10000
attribute [local go_sem] St.runR St.runW St.stepV offV St.step St.stepU St.stepG mkCond guardB St.prK St.pr St.prLen St.eff St.callE St.callD St.callF St.callL aI aB aS aR aC St.isM St.argL Ctr.pure Ctr.lend Ctr.move Ctr.isL Ctr.wri pur len lentBy St.lentV St.lent1 nthS argsR restOf obsR pairs swapL unObs backL St.resL erL SV.ren1 SV.up SV.up2 Ob.up St.fzL cellIds partIds St.intoRow SV.ownId St.fz SV.fz1 St.prep St.mvL St.mv SV.re1 rnOk St.prEq vals eqCells scEq Value.kd St.prStr St.prCut cutR St.bnd St.prMin St.bld isShift outL retL outJ oR oC oE oD SV.upq SV.isSl SV.shut St.ev St.get St.put St.new St.kill SV.kill SV.kill1 Ob.kill St.app St.wrt St.rowsOf St.res St.killL lk er argsL SV.strip SV.need SV.share SV.share1 SV.owns SV.owns1 SV.owns2 SV.good SV.good1 SV.rok SV.rok1 SV.rok2 SV.isV SV.isV2 nodupN SV.cells SV.one SV.pur Ob.pb partsIn rowsIn splice cellsAt dstOk scal2 scal1 thenK blockK retK outK outs okC okL okA okT nilC nilL nilA nilT keepC keepL keepA keepT St.runG St.dltK St.least St.clean St.final St.hide offK badS badO SV.refs SV.leaf SV.leaf2 Ob.refs dlOk fpAt Go.Vc.cover tups SV.ofAgg St.out outC subL St.has rng wr Value.oneCell' Option.isSome_some Option.isSome_none List.nil_append Bool.false_eq_true List.map_cons List.map_nil List.all_cons List.all_nil List.length_cons List.length_nil List.drop_zero List.drop_succ_cons List.take_succ_cons List.take_zero List.drop_nil List.take_nil List.getElem?_cons_zero List.getElem?_cons_succ List.getElem?_nil List.cons_append List.nil_append List.append_nil List.append_assoc List.flatMap_cons List.flatMap_nil List.contains_cons List.contains_nil List.set_cons_zero List.set_cons_succ List.getElem?_toArray Option.getD_some Option.getD_none Option.map_some Option.map_none Option.bind_some Option.some.injEq Prod.mk.injEq if_true if_false true_and and_true and_self and_false false_and Bool.and_false Bool.false_and Bool.or_true Bool.true_or Bool.or_false Bool.false_or ne_eq not_true_eq_false not_false_eq_true decide_true decide_false List.mem_cons List.not_mem_nil List.filter_cons List.filter_nil List.any_cons List.any_nil List.isEmpty_nil List.isEmpty_cons Option.getD_none or_false false_or true_or or_true forall_eq_or_imp forall_eq reduceCtorEq exists_eq exists_eq' exists_eq_left' exists_eq_left exists_eq_right exists_eq_right' imp_self implies_true Bool.and_true Bool.true_and Bool.and_self beq_self_eq_true List.replicate_succ List.replicate_zero forall_const false_implies pickB_or pickB_and beqT beqF Int.toNat_natCast List.length_map List.length_replicate ge_iff_le gt_iff_lt decide_eq_true_eq decide_eq_false_iff_not Bool.and_eq_true Bool.or_eq_true Bool.not_eq_true' Bool.not_eq_false' condG List.toList_toArray Bool.or_eq_false_iff Bool.and_eq_false_iff Int.not_lt Int.not_le beq_iff_eq beq_eq_false_iff_ne bne_iff_ne bne_eq_false_iff_eq ne_eq Bool.not_true Bool.not_false exists_and_left
attribute [local irreducible] Go.Vc.WP
attribute [local go_sem] cx0_t cx0_c
attribute [local go_sem] decS_enc decTok_enc decLine_enc oneLine_f line_eta decI_enc decFrame_enc isV_Frame isV_It
theorem szvLine_ok {x : Line} {l : Int} (h0 : 0 ≤ l) (h1 : l ≤ 1048576) (h : 0 ≤ szvLine x l) : shLine x := by
  obtain ⟨a, b, c⟩ := szT_ok (szA_f _) h0 h
  obtain ⟨d, e, f⟩ := szT_ok (szvStr_f _) a c
  obtain ⟨p, _⟩ := szList_ok (by simp only [List.mem_map]; rintro _ ⟨x, _, rfl⟩; exact szA_f _) d
  rw [List.length_map] at p
  refine ⟨by omega, ?_⟩
  unfold szvTok at f
  split at f <;> omega
theorem szvLineS_ok {L : List Line} (h : 0 ≤ szvLineS L 1048576) : L.length ≤ 1048576 ∧ ∀ x ∈ L, shLine x := by
  obtain ⟨a, b⟩ := szList_ok (by simp only [List.mem_map]; rintro _ ⟨x, _, rfl⟩; exact szvLine_f x) h
  rw [List.length_map] at a
  refine ⟨by omega, fun x hx => ?_⟩
  obtain ⟨r, r0, r1, r2⟩ := b _ (List.mem_map.2 ⟨x, hx, rfl⟩)
  exact szvLine_ok r0 (by omega) r2
section
attribute [local irreducible] bigLine shLine
noncomputable def cxVfL : Cx := { P := Try.prog, tys := tys, C := [(7, kszLineS), (9, ktoLineO), (10, k15), (8, kVF), (11, kVF), (14, k17), (13, kqLineS), (12, keqFrameS), (15, kmarkLineS), (16, k18), (17, kmarkFrameS), (18, kheldFrameS)], hty := tysOk, hC := COk.cons cszLineS (COk.cons ctoLineO (COk.cons c15 (COk.cons cVFS (COk.cons cVFI (COk.cons c17 (COk.cons cqLineS (COk.cons ceqFrameS (COk.cons cmarkLineS (COk.cons c18 (COk.cons cmarkFrameS (COk.cons cheldFrameS (COk.nil _)))))))))))) }
theorem cxVfL_t : cxVfL.tys = tys := rfl
theorem cxVfL_c : cxVfL.C = [(7, kszLineS), (9, ktoLineO), (10, k15), (8, kVF), (11, kVF), (14, k17), (13, kqLineS), (12, keqFrameS), (15, kmarkLineS), (16, k18), (17, kmarkFrameS), (18, kheldFrameS)] := rfl
attribute [local go_sem] cxVfL_t cxVfL_c kszLineS ktoLineO k15 kVF k17 kqLineS keqFrameS kmarkLineS k18 kmarkFrameS kheldFrameS
set_option maxHeartbeats 3000000 in
theorem lawVisitFrames (L : List Line) (V : List Int) (hL : L.length ≤ maxLen ∧ ∀ x ∈ L, bigLine x) (hV : V.length ≤ maxLen) : Holds Try.prog 3 [.sl 4 (L.map encLine), .sl 1 (V.map encI)] (.v (.bool true)) [] := by
  refine Holds.go (c := cxVfL) Try.func3 rfl Try.results3 Try.ntmps3 (by omega) (by simp) rfl ?_
  intro X0 w0
  have hm : maxLen = 9223372036854775807 := rfl
  obtain ⟨hL, hs⟩ := hL
  have key := @szvLineS_ok L
  generalize hz : szvLineS L 1048576 = z at key
  have hfl := vfr_len L V
  have hml := marksFrame_len 1 (vfr L V).length
  by_cases h5 : z < 0
  · (repeat' (first | refine WP.seq ?_ | refine WP.block ?_ | ((first | refine WP.region ?_ | refine WP.condW ?_ | refine WP.ret ?_ | refine WP.exit ?_ | refine WP.skip ?_); simp only [go_sem, hz, h5, tyAll, Nat.reduceAdd, Nat.reduceLT, Nat.reduceLeDiff, Nat.reduceEqDiff, Nat.reduceMul, Nat.reduceSub, Nat.reduceGT, reduceIte, Int.reduceNeg, Int.reduceToNat]) |  refine And.intro ?_ ?_ | intro _))
    all_goals first | omega | exact hs _ ‹_› | skip
    all_goals trace_state
  · obtain ⟨k1, k2⟩ := key (by omega)
    have hcnt : cntA cntLine L ≤ 8796093022208 := Nat.le_trans (cntA_le L 8388608 fun x hx => cntLine_le (k2 x hx)) (Nat.le_trans (Nat.mul_le_mul_right _ k1) (by decide))
    (repeat' (first | refine WP.seq ?_ | refine WP.block ?_ | ((first | refine WP.region ?_ | refine WP.condW ?_ | refine WP.ret ?_ | refine WP.exit ?_ | refine WP.skip ?_); simp only [go_sem, hz, h5, hml, tyAll, Nat.reduceAdd, Nat.reduceLT, Nat.reduceLeDiff, Nat.reduceEqDiff, Nat.reduceMul, Nat.reduceSub, Nat.reduceGT, reduceIte, Int.reduceNeg, Int.reduceToNat]) |  refine And.intro ?_ ?_ | intro _))
    all_goals first | omega | exact hs _ ‹_› | exact k2 _ ‹_› | exact ⟨_, _, _, rfl⟩ | skip
    all_goals trace_state
end
end Go.Proofs.Ytdbjioanlkilkaa
