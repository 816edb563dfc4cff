/-
  DERIVED. FormatInt, FormatFrames, ParseFrames, of the reference and of the program.
-/
import Derived.Test.YtolnapfgfdgifaaDoorVtStk
import Derived.Test.YtolnapfgfdgifaaDoorVsLib
namespace Go.Proofs.YtolnapfgfdgifaaDoor
open Go.Vc
set_option linter.unusedSimpArgs false
set_option linter.unusedVariables false
set_option maxHeartbeats 1000000
set_option maxRecDepth 10000
attribute [local go_sem] St.runR St.runW St.stepV offV St.step St.stepU St.stepG mkCond guardB St.prK St.pr St.prLen St.eff St.callE St.callD St.callF St.callL aI aB aS aR aC St.isM St.argL Ctr.pure Ctr.lend Ctr.move Ctr.isL Ctr.wri pur len lentBy St.lentV St.lent1 nthS argsR restOf obsR pairs swapL unObs backL St.resL erL SV.ren1 SV.up SV.up2 Ob.up St.fzL cellIds partIds St.intoRow SV.ownId St.fz SV.fz1 St.prep St.mvL St.mv SV.re1 rnOk St.prEq vals eqCells scEq Value.kd St.prStr St.prCut cutR St.bnd St.prMin St.bld isShift outL retL outJ oR oC St.ev St.get St.put St.new St.kill SV.kill SV.kill1 Ob.kill St.app St.wrt St.rowsOf St.res St.killL lk er argsL SV.strip SV.need SV.share SV.share1 SV.owns SV.owns1 SV.owns2 SV.good SV.good1 SV.rok SV.rok1 SV.rok2 SV.isV SV.isV2 nodupN SV.cells SV.one SV.pur partsIn rowsIn splice cellsAt dstOk scal2 scal1 thenK blockK retK outK outs okC okL okA okT nilC nilL nilA nilT keepC keepL keepA keepT St.runG St.dltK St.least St.clean St.final St.hide offK badS badO SV.refs SV.leaf SV.leaf2 Ob.refs dlOk fpAt Go.Vc.cover tups SV.ofAgg St.out outC subL St.has rng wr Value.oneCell' Option.isSome_some Option.isSome_none List.nil_append Bool.false_eq_true List.map_cons List.map_nil List.all_cons List.all_nil List.length_cons List.length_nil List.drop_zero List.drop_succ_cons List.take_succ_cons List.take_zero List.drop_nil List.take_nil List.getElem?_cons_zero List.getElem?_cons_succ List.getElem?_nil List.cons_append List.nil_append List.append_nil List.append_assoc List.flatMap_cons List.flatMap_nil List.contains_cons List.contains_nil List.set_cons_zero List.set_cons_succ List.getElem?_toArray Option.getD_some Option.getD_none Option.map_some Option.map_none Option.bind_some Option.some.injEq Prod.mk.injEq if_true if_false true_and and_true and_self and_false false_and Bool.and_false Bool.false_and Bool.or_true Bool.true_or Bool.or_false Bool.false_or ne_eq not_true_eq_false not_false_eq_true decide_true decide_false List.mem_cons List.not_mem_nil List.filter_cons List.filter_nil List.any_cons List.any_nil List.isEmpty_nil List.isEmpty_cons Option.getD_none or_false false_or true_or or_true forall_eq_or_imp forall_eq reduceCtorEq exists_eq exists_eq' exists_eq_left' exists_eq_left exists_eq_right exists_eq_right' imp_self implies_true Bool.and_true Bool.true_and Bool.and_self beq_self_eq_true List.replicate_succ List.replicate_zero forall_const false_implies pickB_or pickB_and beqT beqF Int.toNat_natCast List.length_map List.length_replicate ge_iff_le gt_iff_lt decide_eq_true_eq decide_eq_false_iff_not Bool.and_eq_true Bool.or_eq_true Bool.not_eq_true' Bool.not_eq_false' condG List.toList_toArray Bool.or_eq_false_iff Bool.and_eq_false_iff Int.not_lt Int.not_le beq_iff_eq beq_eq_false_iff_ne bne_iff_ne bne_eq_false_iff_eq ne_eq Bool.not_true Bool.not_false exists_and_left
attribute [local irreducible] Go.Vc.WP
attribute [local go_sem] cx0_t cx0_c
attribute [local go_sem] decNode_enc decFrame_enc oneFrame_enc stkA oneFrame_ab oneNode_abc decI_enc decS_enc
section
noncomputable def cxFiI : Cx := { P := Tryd.prog, tys := tys, C := [(45, kItoa)], hty := tysOk, hC := COk.cons cItoa (COk.nil _) }
theorem cxFiI_t : cxFiI.tys = tys := rfl
theorem cxFiI_c : cxFiI.C = [(45, kItoa)] := rfl
attribute [local go_sem] cxFiI_t cxFiI_c kItoa
theorem cFmtI : Cn Tryd.prog 21 kFmt := by
  refine Cn.pur Tryd.func21 (by kernel_rfl) rfl fun d x hx => ?_
  refine Holds.go (c := cxFiI) Tryd.func21 rfl Tryd.results21 Tryd.ntmps21 (by omega) (by simp) rfl ?_
  intro X0 w0
  (repeat' (first | refine WP.seq ?_ | (refine WP.region ?_; simp only [go_sem, tyAll, Nat.reduceAdd, Nat.reduceLT, Nat.reduceLeDiff, Nat.reduceEqDiff, Nat.reduceMul, Nat.reduceSub, Nat.reduceGT, reduceIte, Int.reduceNeg, Int.reduceToNat]) | refine WP.block ?_ | (refine WP.condW ?_; simp only [go_sem, tyAll, Nat.reduceAdd, Nat.reduceLT, Nat.reduceLeDiff, Nat.reduceEqDiff, Nat.reduceMul, Nat.reduceSub, Nat.reduceGT, reduceIte, Int.reduceNeg, Int.reduceToNat]) | (refine WP.ret ?_; simp only [go_sem, tyAll, Nat.reduceAdd, Nat.reduceLT, Nat.reduceLeDiff, Nat.reduceEqDiff, Nat.reduceMul, Nat.reduceSub, Nat.reduceGT, reduceIte, Int.reduceNeg, Int.reduceToNat]) | (refine WP.exit ?_; simp only [go_sem, tyAll, Nat.reduceAdd, Nat.reduceLT, Nat.reduceLeDiff, Nat.reduceEqDiff, Nat.reduceMul, Nat.reduceSub, Nat.reduceGT, reduceIte, Int.reduceNeg, Int.reduceToNat]) | (refine WP.skip ?_; simp only [go_sem, tyAll, Nat.reduceAdd, Nat.reduceLT, Nat.reduceLeDiff, Nat.reduceEqDiff, Nat.reduceMul, Nat.reduceSub, Nat.reduceGT, reduceIte, Int.reduceNeg, Int.reduceToNat]) |  refine And.intro ?_ ?_ | intro _))
  all_goals first | omega | skip
end
theorem ba_nil (s : ByteArray) : ⟨#[]⟩ ++ s = s := by
  apply ByteArray.ext
  simp
theorem fmtF_bad {L : List Frame} {k : Nat} (hk : k < L.length) (h : frOk L[k] = false) : fmtF L = ⟨#[]⟩ := by
  unfold fmtF
  rw [if_neg]
  intro ha
  rw [List.all_eq_true] at ha
  rw [ha _ (List.getElem_mem hk)] at h; cases h
theorem frOk_no {f : Frame} (h : frOk f = false) : nameOk f.name = false ∨ f.line < 0 ∨ 59 < f.line := by
  cases hn : nameOk f.name with
  | false => exact .inl rfl
  | true =>
    right
    rcases Int.lt_or_le f.line 0 with h0 | h0
    · exact .inl h0
    · rcases Int.lt_or_le 59 f.line with h1 | h1
      · exact .inr h1
      · rw [frOk_iff.2 ⟨hn, h0, h1⟩] at h; cases h
theorem fmtF_all {L : List Frame} (h : ∀ j (hj : j < L.length), frOk L[j] = true) : fmtF L = bts (joinL 59 (L.map frTxt)) := by
  unfold fmtF
  rw [if_pos]
  rw [List.all_eq_true]
  intro f hf
  obtain ⟨j, hj, rfl⟩ := List.mem_iff_getElem.1 hf
  exact h j hj
theorem joinL_take (L : List Frame) (k : Nat) (hk : k < L.length) : bts (joinL 59 ((L.take (k + 1)).map frTxt)) = (if k = 0 then bts (frTxt L[k]) else bts (joinL 59 ((L.take k).map frTxt)) ++ ⟨#[59]⟩ ++ bts (frTxt L[k])) := by
  rw [List.take_succ_eq_append_getElem hk, List.map_append, List.map_cons, List.map_nil, joinL_snoc]
  by_cases h0 : k = 0
  · subst h0; rw [if_pos (by simp), if_pos rfl]
  · rw [if_neg (by
      intro e
      have := congrArg List.length e
      rw [List.length_map, List.length_take, List.length_nil] at this; omega), if_neg h0, show (⟨#[59]⟩ : ByteArray) = bts [59] from rfl, bts_append, bts_append]
    congr 1
    simp
theorem frTxt_bts (f : Frame) : bts (frTxt f) = f.name ++ ⟨#[58]⟩ ++ bts (fmtL f.line.toNat) := by
  unfold frTxt
  rw [show (58 : UInt8) :: fmtL f.line.toNat = [58] ++ fmtL f.line.toNat from rfl, ← bts_append, ← bts_append, bts_list, ← ByteArray.append_assoc]; rfl
theorem lenJ (L : List Frame) (k : Nat) (hk : k ≤ L.length) (h : ∀ j (hj : j < L.length), j < k → frOk L[j] = true) : (bts (joinL 59 ((L.take k).map frTxt))).size ≤ 12 * k := by
  rw [bts_size]
  have := joinL_len ((L.take k).map frTxt) 11 (fun x hx => by
    obtain ⟨f, hf, rfl⟩ := List.mem_map.1 hx
    rw [List.mem_take_iff_getElem] at hf
    obtain ⟨j, hj, rfl⟩ := hf
    exact (frTxt_len (h j (by omega) (by omega))).2)
  simp only [List.length_map, List.length_take] at this
  omega
def wfFr (L : List Frame) : Prop := L.length ≤ 1099511627776 ∧ ∀ f ∈ L, f.name.size ≤ 1099511627776
def kFmtF : Ctr := pur (fun args => decFrame (aR args 0)) (fun L => [.sl 2 (L.map encFrame)]) (fun L => wfFr L) (fun _ L => .v (.string (fmtF L))) (fun _ _ => [])
section
noncomputable def cxFfS : Cx := { P := Tryd.prog, tys := tys, C := [(60, kNameOk), (59, k60), (17, kFmt)], hty := tysOk, hC := COk.cons cNameOkS (COk.cons c58 (COk.cons cFmtS (COk.nil _))) }
theorem cxFfS_t : cxFfS.tys = tys := rfl
theorem cxFfS_c : cxFfS.C = [(60, kNameOk), (59, k60), (17, kFmt)] := rfl
attribute [local go_sem] cxFfS_t cxFfS_c kNameOk k60 kFmt
theorem cFmtFS : Cn Tryd.prog 35 kFmtF := by
  refine Cn.pur Tryd.func35 (by kernel_rfl) rfl fun d x hx => ?_
  rename List Frame => L
  have hL := hx.1
  refine Holds.go (c := cxFfS) Tryd.func35 rfl Tryd.results35 Tryd.ntmps35 (by omega) (by simp) rfl ?_
  intro X0 w0
  (repeat' (first | refine WP.seq ?_ | (refine WP.region ?_; simp only [go_sem, tyAll, Nat.reduceAdd, Nat.reduceLT, Nat.reduceLeDiff, Nat.reduceEqDiff, Nat.reduceMul, Nat.reduceSub, Nat.reduceGT, reduceIte, Int.reduceNeg, Int.reduceToNat]) | refine WP.block ?_ | (refine WP.condW ?_; simp only [go_sem, tyAll, Nat.reduceAdd, Nat.reduceLT, Nat.reduceLeDiff, Nat.reduceEqDiff, Nat.reduceMul, Nat.reduceSub, Nat.reduceGT, reduceIte, Int.reduceNeg, Int.reduceToNat]) | (refine WP.ret ?_; simp only [go_sem, tyAll, Nat.reduceAdd, Nat.reduceLT, Nat.reduceLeDiff, Nat.reduceEqDiff, Nat.reduceMul, Nat.reduceSub, Nat.reduceGT, reduceIte, Int.reduceNeg, Int.reduceToNat]) | (refine WP.exit ?_; simp only [go_sem, tyAll, Nat.reduceAdd, Nat.reduceLT, Nat.reduceLeDiff, Nat.reduceEqDiff, Nat.reduceMul, Nat.reduceSub, Nat.reduceGT, reduceIte, Int.reduceNeg, Int.reduceToNat]) | (refine WP.skip ?_; simp only [go_sem, tyAll, Nat.reduceAdd, Nat.reduceLT, Nat.reduceLeDiff, Nat.reduceEqDiff, Nat.reduceMul, Nat.reduceSub, Nat.reduceGT, reduceIte, Int.reduceNeg, Int.reduceToNat]) | (refine WP.drawW 15 (by decide +kernel) (by kernel_rfl) ?_; simp only [go_sem, tyAll, Nat.reduceAdd, Nat.reduceLT, Nat.reduceLeDiff, Nat.reduceEqDiff, Nat.reduceMul, Nat.reduceSub, Nat.reduceGT, reduceIte, Int.reduceNeg, Int.reduceToNat]) |  refine And.intro ?_ ?_ | intro _))
  refine WP.loop (fun k : Nat => ⟨[(0, .sl 2 (L.map encFrame)), (3, .v (.string (bts (joinL 59 ((L.take k).map frTxt))))), (4, .v (.int .i64 k))], []⟩) (fun k => k ≤ L.length ∧ ∀ j (hj : j < L.length), j < k → frOk L[j] = true) (fun k => L.length - k) 0 (by simp) ?_ ?_
  · have e0 : bts (joinL 59 ((L.take 0).map frTxt)) = ⟨#[]⟩ := rfl
    (simp only [go_sem, e0, tyAll, Nat.reduceAdd, Nat.reduceLT, Nat.reduceLeDiff, Nat.reduceEqDiff, Nat.reduceMul, Nat.reduceSub, Nat.reduceGT, reduceIte, Int.reduceNeg, Int.reduceToNat] <;> (first | rfl | exact ⟨rfl, rfl⟩ | exact ⟨rfl, rfl, rfl⟩ | exact ⟨rfl, rfl, rfl, rfl⟩ | exact ⟨rfl, rfl, rfl, rfl, rfl⟩ | exact ⟨⟨rfl, rfl⟩, rfl⟩ | simp))
  intro k ⟨hk, hf⟩
  have hz := lenJ L k hk hf
  by_cases hlt : k < L.length
  · have h1 := rowAt_map encFrame L k hlt
    have hnm := hx.2 _ (List.getElem_mem hlt)
    have hj := joinL_take L k hlt
    rw [frTxt_bts] at hj
    have z58 : ByteArray.size ⟨#[58]⟩ = 1 := rfl
    have z59 : ByteArray.size ⟨#[59]⟩ = 1 := rfl
    cases hok : frOk L[k] with
    | false =>
      have hno := frOk_no hok
      (repeat' (first | refine WP.seq ?_ | (refine WP.region ?_; simp only [go_sem, h1, encFrame, tyAll, Nat.reduceAdd, Nat.reduceLT, Nat.reduceLeDiff, Nat.reduceEqDiff, Nat.reduceMul, Nat.reduceSub, Nat.reduceGT, reduceIte, Int.reduceNeg, Int.reduceToNat]) | refine WP.block ?_ | (refine WP.condW ?_; simp only [go_sem, h1, encFrame, tyAll, Nat.reduceAdd, Nat.reduceLT, Nat.reduceLeDiff, Nat.reduceEqDiff, Nat.reduceMul, Nat.reduceSub, Nat.reduceGT, reduceIte, Int.reduceNeg, Int.reduceToNat]) | (refine WP.ret ?_; simp only [go_sem, h1, encFrame, tyAll, Nat.reduceAdd, Nat.reduceLT, Nat.reduceLeDiff, Nat.reduceEqDiff, Nat.reduceMul, Nat.reduceSub, Nat.reduceGT, reduceIte, Int.reduceNeg, Int.reduceToNat]) | (refine WP.exit ?_; simp only [go_sem, h1, encFrame, tyAll, Nat.reduceAdd, Nat.reduceLT, Nat.reduceLeDiff, Nat.reduceEqDiff, Nat.reduceMul, Nat.reduceSub, Nat.reduceGT, reduceIte, Int.reduceNeg, Int.reduceToNat]) | (refine WP.skip ?_; simp only [go_sem, h1, encFrame, tyAll, Nat.reduceAdd, Nat.reduceLT, Nat.reduceLeDiff, Nat.reduceEqDiff, Nat.reduceMul, Nat.reduceSub, Nat.reduceGT, reduceIte, Int.reduceNeg, Int.reduceToNat]) | (refine WP.drawW 15 (by decide +kernel) (by kernel_rfl) ?_; simp only [go_sem, h1, encFrame, tyAll, Nat.reduceAdd, Nat.reduceLT, Nat.reduceLeDiff, Nat.reduceEqDiff, Nat.reduceMul, Nat.reduceSub, Nat.reduceGT, reduceIte, Int.reduceNeg, Int.reduceToNat]) |  refine And.intro ?_ ?_ | intro _))
      all_goals first | omega | (rw [fmtF_bad hlt hok]) | (exfalso; have hcc : frOk L[k] = true := frOk_iff.2 ‹nameOk L[k].name = true ∧ 0 ≤ L[k].line ∧ L[k].line ≤ 59›; rw [hok] at hcc; cases hcc) | skip
    | true =>
      obtain ⟨g1, g2, g3⟩ := frOk_iff.1 hok
      have g4 := (nameOk_letters g1).2.2
      have g5 : (bts (fmtL L[k].line.toNat)).size ≤ 2 := by rw [bts_size]; exact fmtL_len 2 _ (by omega) (by omega)
      have hnext : ∀ j (hj : j < L.length), j < k + 1 → frOk L[j] = true := fun j hjl hjk => by
        rcases Nat.lt_or_ge j k with hh | hh
        · exact hf j hjl hh
        · have : j = k := by omega
          subst this; exact hok
      have hT0 : k = 0 → bts (joinL 59 ((L.take k).map frTxt)) = ⟨#[]⟩ := fun e => by subst e; rfl
      generalize bts (joinL 59 ((L.take k).map frTxt)) = T at *
      (repeat' (first | refine WP.seq ?_ | (refine WP.region ?_; simp only [go_sem, h1, encFrame, g1, g2, g3, ByteArray.size_append, z58, z59, tyAll, Nat.reduceAdd, Nat.reduceLT, Nat.reduceLeDiff, Nat.reduceEqDiff, Nat.reduceMul, Nat.reduceSub, Nat.reduceGT, reduceIte, Int.reduceNeg, Int.reduceToNat]) | refine WP.block ?_ | (refine WP.condW ?_; simp only [go_sem, h1, encFrame, g1, g2, g3, ByteArray.size_append, z58, z59, tyAll, Nat.reduceAdd, Nat.reduceLT, Nat.reduceLeDiff, Nat.reduceEqDiff, Nat.reduceMul, Nat.reduceSub, Nat.reduceGT, reduceIte, Int.reduceNeg, Int.reduceToNat]) | (refine WP.ret ?_; simp only [go_sem, h1, encFrame, g1, g2, g3, ByteArray.size_append, z58, z59, tyAll, Nat.reduceAdd, Nat.reduceLT, Nat.reduceLeDiff, Nat.reduceEqDiff, Nat.reduceMul, Nat.reduceSub, Nat.reduceGT, reduceIte, Int.reduceNeg, Int.reduceToNat]) | (refine WP.exit ?_; simp only [go_sem, h1, encFrame, g1, g2, g3, ByteArray.size_append, z58, z59, tyAll, Nat.reduceAdd, Nat.reduceLT, Nat.reduceLeDiff, Nat.reduceEqDiff, Nat.reduceMul, Nat.reduceSub, Nat.reduceGT, reduceIte, Int.reduceNeg, Int.reduceToNat]) | (refine WP.skip ?_; simp only [go_sem, h1, encFrame, g1, g2, g3, ByteArray.size_append, z58, z59, tyAll, Nat.reduceAdd, Nat.reduceLT, Nat.reduceLeDiff, Nat.reduceEqDiff, Nat.reduceMul, Nat.reduceSub, Nat.reduceGT, reduceIte, Int.reduceNeg, Int.reduceToNat]) | (refine WP.drawW 15 (by decide +kernel) (by kernel_rfl) ?_; simp only [go_sem, h1, encFrame, g1, g2, g3, ByteArray.size_append, z58, z59, tyAll, Nat.reduceAdd, Nat.reduceLT, Nat.reduceLeDiff, Nat.reduceEqDiff, Nat.reduceMul, Nat.reduceSub, Nat.reduceGT, reduceIte, Int.reduceNeg, Int.reduceToNat]) |  refine And.intro ?_ ?_ | intro _))
      all_goals first | omega | skip
      · refine ⟨k + 1, ⟨by omega, hnext⟩, by omega, ?_⟩
        rw [hj, if_neg (by omega), ← ByteArray.append_assoc, ← ByteArray.append_assoc]; (first | rfl | exact ⟨rfl, rfl⟩ | exact ⟨rfl, rfl, rfl⟩ | exact ⟨rfl, rfl, rfl, rfl⟩ | exact ⟨rfl, rfl, rfl, rfl, rfl⟩ | exact ⟨⟨rfl, rfl⟩, rfl⟩ | simp)
      · refine ⟨k + 1, ⟨by omega, hnext⟩, by omega, ?_⟩
        rw [hj, if_pos (by omega), hT0 (by omega), ba_nil]; (first | rfl | exact ⟨rfl, rfl⟩ | exact ⟨rfl, rfl, rfl⟩ | exact ⟨rfl, rfl, rfl, rfl⟩ | exact ⟨rfl, rfl, rfl, rfl, rfl⟩ | exact ⟨⟨rfl, rfl⟩, rfl⟩ | simp)
  · rw [List.take_of_length_le (by omega), ← fmtF_all fun j hj => hf j hj (by omega)]
    (repeat' (first | refine WP.seq ?_ | (refine WP.region ?_; simp only [go_sem, tyAll, Nat.reduceAdd, Nat.reduceLT, Nat.reduceLeDiff, Nat.reduceEqDiff, Nat.reduceMul, Nat.reduceSub, Nat.reduceGT, reduceIte, Int.reduceNeg, Int.reduceToNat]) | refine WP.block ?_ | (refine WP.condW ?_; simp only [go_sem, tyAll, Nat.reduceAdd, Nat.reduceLT, Nat.reduceLeDiff, Nat.reduceEqDiff, Nat.reduceMul, Nat.reduceSub, Nat.reduceGT, reduceIte, Int.reduceNeg, Int.reduceToNat]) | (refine WP.ret ?_; simp only [go_sem, tyAll, Nat.reduceAdd, Nat.reduceLT, Nat.reduceLeDiff, Nat.reduceEqDiff, Nat.reduceMul, Nat.reduceSub, Nat.reduceGT, reduceIte, Int.reduceNeg, Int.reduceToNat]) | (refine WP.exit ?_; simp only [go_sem, tyAll, Nat.reduceAdd, Nat.reduceLT, Nat.reduceLeDiff, Nat.reduceEqDiff, Nat.reduceMul, Nat.reduceSub, Nat.reduceGT, reduceIte, Int.reduceNeg, Int.reduceToNat]) | (refine WP.skip ?_; simp only [go_sem, tyAll, Nat.reduceAdd, Nat.reduceLT, Nat.reduceLeDiff, Nat.reduceEqDiff, Nat.reduceMul, Nat.reduceSub, Nat.reduceGT, reduceIte, Int.reduceNeg, Int.reduceToNat]) | (refine WP.drawW 15 (by decide +kernel) (by kernel_rfl) ?_; simp only [go_sem, tyAll, Nat.reduceAdd, Nat.reduceLT, Nat.reduceLeDiff, Nat.reduceEqDiff, Nat.reduceMul, Nat.reduceSub, Nat.reduceGT, reduceIte, Int.reduceNeg, Int.reduceToNat]) |  refine And.intro ?_ ?_ | intro _))
    all_goals first | omega | skip
end
section
noncomputable def cxFfI : Cx := { P := Tryd.prog, tys := tys, C := [(64, kFrOk), (21, kFmt), (65, kJoin)], hty := tysOk, hC := COk.cons cFrOkI (COk.cons cFmtI (COk.cons cJoin (COk.nil _))) }
theorem cxFfI_t : cxFfI.tys = tys := rfl
theorem cxFfI_c : cxFfI.C = [(64, kFrOk), (21, kFmt), (65, kJoin)] := rfl
attribute [local go_sem] cxFfI_t cxFfI_c kFrOk kFmt kJoin
theorem mapData (L : List Frame) (k : Nat) : (((L.take k).map fun f => bts (frTxt f)).map (·.data.toList)) = (L.take k).map frTxt := by
  rw [List.map_map]
  exact List.map_congr_left fun f _ => by simp [bts]
theorem takeS (L : List Frame) (k : Nat) (hk : k < L.length) : ((L.take k).map fun f => bts (frTxt f)).map encS ++ [[SV.v (.string (L[k].name ++ ⟨#[58]⟩ ++ bts (fmtL L[k].line.toNat)))]] = ((L.take (k + 1)).map fun f => bts (frTxt f)).map encS := by
  rw [List.take_succ_eq_append_getElem hk, List.map_append, List.map_append, List.map_cons, List.map_nil, frTxt_bts]; rfl
theorem cFmtFI : Cn Tryd.prog 40 kFmtF := by
  refine Cn.pur Tryd.func40 (by kernel_rfl) rfl fun d x hx => ?_
  rename List Frame => L
  have hL := hx.1
  refine Holds.go (c := cxFfI) Tryd.func40 rfl Tryd.results40 Tryd.ntmps40 (by omega) (by simp) rfl ?_
  intro X0 w0
  (repeat' (first | refine WP.seq ?_ | (refine WP.region ?_; simp only [go_sem, tyAll, Nat.reduceAdd, Nat.reduceLT, Nat.reduceLeDiff, Nat.reduceEqDiff, Nat.reduceMul, Nat.reduceSub, Nat.reduceGT, reduceIte, Int.reduceNeg, Int.reduceToNat]) | refine WP.block ?_ | (refine WP.condW ?_; simp only [go_sem, tyAll, Nat.reduceAdd, Nat.reduceLT, Nat.reduceLeDiff, Nat.reduceEqDiff, Nat.reduceMul, Nat.reduceSub, Nat.reduceGT, reduceIte, Int.reduceNeg, Int.reduceToNat]) | (refine WP.ret ?_; simp only [go_sem, tyAll, Nat.reduceAdd, Nat.reduceLT, Nat.reduceLeDiff, Nat.reduceEqDiff, Nat.reduceMul, Nat.reduceSub, Nat.reduceGT, reduceIte, Int.reduceNeg, Int.reduceToNat]) | (refine WP.exit ?_; simp only [go_sem, tyAll, Nat.reduceAdd, Nat.reduceLT, Nat.reduceLeDiff, Nat.reduceEqDiff, Nat.reduceMul, Nat.reduceSub, Nat.reduceGT, reduceIte, Int.reduceNeg, Int.reduceToNat]) | (refine WP.skip ?_; simp only [go_sem, tyAll, Nat.reduceAdd, Nat.reduceLT, Nat.reduceLeDiff, Nat.reduceEqDiff, Nat.reduceMul, Nat.reduceSub, Nat.reduceGT, reduceIte, Int.reduceNeg, Int.reduceToNat]) | (refine WP.flowW 9 [⟨[3], [], [], [24], [], []⟩, ⟨[5], [], [], [24], [], []⟩, ⟨[17], [1], [], [24], [], []⟩, ⟨[18], [1, 2], [], [24], [], []⟩, ⟨[5], [], [], [24], [], []⟩, ⟨[20], [4], [], [24], [], []⟩, ⟨[21], [4, 5], [], [24], [], []⟩, ⟨[19, 22], [1, 2, 3, 4, 5, 6], [], [24], [], []⟩, ⟨[23], [1, 2, 3, 4, 5, 6, 7], [], [], [], [24]⟩, ⟨[], [0, 1, 2, 3, 4, 5, 6, 7, 8], [], [], [], []⟩, ⟨[], [0, 1, 2, 3, 4, 5, 6, 7, 8, 9], [], [], [], []⟩] [16, 17, 18, 19, 20, 21, 22, 23, 24] [24] [] (by decide +kernel) (by kernel_rfl) (by kernel_rfl) (by kernel_rfl) ?_; simp only [go_sem, tyAll, Nat.reduceAdd, Nat.reduceLT, Nat.reduceLeDiff, Nat.reduceEqDiff, Nat.reduceMul, Nat.reduceSub, Nat.reduceGT, reduceIte, Int.reduceNeg, Int.reduceToNat]) |  refine And.intro ?_ ?_ | intro _))
  all_goals first | omega | skip
  refine WP.prep [] [(6, 3)] rfl ?_
  refine WP.loop (fun k : Nat => ⟨[(3, .own 3), (7, .sl 2 (L.map encFrame)), (8, .v (.int .i64 L.length)), (9, .v (.int .i64 k))], [(3, .sl 9 1 (((L.take k).map fun f => bts (frTxt f)).map encS))]⟩) (fun k => k ≤ L.length ∧ ∀ j (hj : j < L.length), j < k → frOk L[j] = true) (fun k => L.length - k) 0 (by simp) ?_ ?_
  · (simp only [go_sem, tyAll, Nat.reduceAdd, Nat.reduceLT, Nat.reduceLeDiff, Nat.reduceEqDiff, Nat.reduceMul, Nat.reduceSub, Nat.reduceGT, reduceIte, Int.reduceNeg, Int.reduceToNat] <;> (first | rfl | exact ⟨rfl, rfl⟩ | exact ⟨rfl, rfl, rfl⟩ | exact ⟨rfl, rfl, rfl, rfl⟩ | exact ⟨rfl, rfl, rfl, rfl, rfl⟩ | exact ⟨⟨rfl, rfl⟩, rfl⟩ | simp))
  intro k ⟨hk, hf⟩
  have hz := lenJ L k hk hf
  rw [bts_size] at hz
  have hlk : ((L.take k).map fun f => bts (frTxt f)).length = k := by rw [List.length_map, List.length_take]; omega
  by_cases hlt : k < L.length
  · have h1 := rowAt_map encFrame L k hlt
    have hnm := hx.2 _ (List.getElem_mem hlt)
    have htk := takeS L k hlt
    have z58 : ByteArray.size ⟨#[58]⟩ = 1 := rfl
    cases hok : frOk L[k] with
    | false =>
      have hok' : frOk ⟨L[k].name, L[k].line⟩ = false := hok
      (repeat' (first | refine WP.seq ?_ | (refine WP.region ?_; simp only [go_sem, h1, encFrame, hok', tyAll, Nat.reduceAdd, Nat.reduceLT, Nat.reduceLeDiff, Nat.reduceEqDiff, Nat.reduceMul, Nat.reduceSub, Nat.reduceGT, reduceIte, Int.reduceNeg, Int.reduceToNat]) | refine WP.block ?_ | (refine WP.condW ?_; simp only [go_sem, h1, encFrame, hok', tyAll, Nat.reduceAdd, Nat.reduceLT, Nat.reduceLeDiff, Nat.reduceEqDiff, Nat.reduceMul, Nat.reduceSub, Nat.reduceGT, reduceIte, Int.reduceNeg, Int.reduceToNat]) | (refine WP.ret ?_; simp only [go_sem, h1, encFrame, hok', tyAll, Nat.reduceAdd, Nat.reduceLT, Nat.reduceLeDiff, Nat.reduceEqDiff, Nat.reduceMul, Nat.reduceSub, Nat.reduceGT, reduceIte, Int.reduceNeg, Int.reduceToNat]) | (refine WP.exit ?_; simp only [go_sem, h1, encFrame, hok', tyAll, Nat.reduceAdd, Nat.reduceLT, Nat.reduceLeDiff, Nat.reduceEqDiff, Nat.reduceMul, Nat.reduceSub, Nat.reduceGT, reduceIte, Int.reduceNeg, Int.reduceToNat]) | (refine WP.skip ?_; simp only [go_sem, h1, encFrame, hok', tyAll, Nat.reduceAdd, Nat.reduceLT, Nat.reduceLeDiff, Nat.reduceEqDiff, Nat.reduceMul, Nat.reduceSub, Nat.reduceGT, reduceIte, Int.reduceNeg, Int.reduceToNat]) | (refine WP.flowW 9 [⟨[3], [], [], [24], [], []⟩, ⟨[5], [], [], [24], [], []⟩, ⟨[17], [1], [], [24], [], []⟩, ⟨[18], [1, 2], [], [24], [], []⟩, ⟨[5], [], [], [24], [], []⟩, ⟨[20], [4], [], [24], [], []⟩, ⟨[21], [4, 5], [], [24], [], []⟩, ⟨[19, 22], [1, 2, 3, 4, 5, 6], [], [24], [], []⟩, ⟨[23], [1, 2, 3, 4, 5, 6, 7], [], [], [], [24]⟩, ⟨[], [0, 1, 2, 3, 4, 5, 6, 7, 8], [], [], [], []⟩, ⟨[], [0, 1, 2, 3, 4, 5, 6, 7, 8, 9], [], [], [], []⟩] [16, 17, 18, 19, 20, 21, 22, 23, 24] [24] [] (by decide +kernel) (by kernel_rfl) (by kernel_rfl) (by kernel_rfl) ?_; simp only [go_sem, h1, encFrame, hok', tyAll, Nat.reduceAdd, Nat.reduceLT, Nat.reduceLeDiff, Nat.reduceEqDiff, Nat.reduceMul, Nat.reduceSub, Nat.reduceGT, reduceIte, Int.reduceNeg, Int.reduceToNat]) |  refine And.intro ?_ ?_ | intro _))
      all_goals first | omega | (rw [fmtF_bad hlt hok]) | skip
    | true =>
      have hok' : frOk ⟨L[k].name, L[k].line⟩ = true := hok
      obtain ⟨g1, g2, g3⟩ := frOk_iff.1 hok
      have g4 := (nameOk_letters g1).2.2
      have g5 : (bts (fmtL L[k].line.toNat)).size ≤ 2 := by rw [bts_size]; exact fmtL_len 2 _ (by omega) (by omega)
      have hnext : ∀ j (hj : j < L.length), j < k + 1 → frOk L[j] = true := fun j hjl hjk => by
        rcases Nat.lt_or_ge j k with hh | hh
        · exact hf j hjl hh
        · have : j = k := by omega
          subst this; exact hok
      (repeat' (first | refine WP.seq ?_ | (refine WP.region ?_; simp only [go_sem, h1, encFrame, hok', g2, g3, ByteArray.size_append, z58, hlk, htk, tyAll, Nat.reduceAdd, Nat.reduceLT, Nat.reduceLeDiff, Nat.reduceEqDiff, Nat.reduceMul, Nat.reduceSub, Nat.reduceGT, reduceIte, Int.reduceNeg, Int.reduceToNat]) | refine WP.block ?_ | (refine WP.condW ?_; simp only [go_sem, h1, encFrame, hok', g2, g3, ByteArray.size_append, z58, hlk, htk, tyAll, Nat.reduceAdd, Nat.reduceLT, Nat.reduceLeDiff, Nat.reduceEqDiff, Nat.reduceMul, Nat.reduceSub, Nat.reduceGT, reduceIte, Int.reduceNeg, Int.reduceToNat]) | (refine WP.ret ?_; simp only [go_sem, h1, encFrame, hok', g2, g3, ByteArray.size_append, z58, hlk, htk, tyAll, Nat.reduceAdd, Nat.reduceLT, Nat.reduceLeDiff, Nat.reduceEqDiff, Nat.reduceMul, Nat.reduceSub, Nat.reduceGT, reduceIte, Int.reduceNeg, Int.reduceToNat]) | (refine WP.exit ?_; simp only [go_sem, h1, encFrame, hok', g2, g3, ByteArray.size_append, z58, hlk, htk, tyAll, Nat.reduceAdd, Nat.reduceLT, Nat.reduceLeDiff, Nat.reduceEqDiff, Nat.reduceMul, Nat.reduceSub, Nat.reduceGT, reduceIte, Int.reduceNeg, Int.reduceToNat]) | (refine WP.skip ?_; simp only [go_sem, h1, encFrame, hok', g2, g3, ByteArray.size_append, z58, hlk, htk, tyAll, Nat.reduceAdd, Nat.reduceLT, Nat.reduceLeDiff, Nat.reduceEqDiff, Nat.reduceMul, Nat.reduceSub, Nat.reduceGT, reduceIte, Int.reduceNeg, Int.reduceToNat]) | (refine WP.flowW 9 [⟨[3], [], [], [24], [], []⟩, ⟨[5], [], [], [24], [], []⟩, ⟨[17], [1], [], [24], [], []⟩, ⟨[18], [1, 2], [], [24], [], []⟩, ⟨[5], [], [], [24], [], []⟩, ⟨[20], [4], [], [24], [], []⟩, ⟨[21], [4, 5], [], [24], [], []⟩, ⟨[19, 22], [1, 2, 3, 4, 5, 6], [], [24], [], []⟩, ⟨[23], [1, 2, 3, 4, 5, 6, 7], [], [], [], [24]⟩, ⟨[], [0, 1, 2, 3, 4, 5, 6, 7, 8], [], [], [], []⟩, ⟨[], [0, 1, 2, 3, 4, 5, 6, 7, 8, 9], [], [], [], []⟩] [16, 17, 18, 19, 20, 21, 22, 23, 24] [24] [] (by decide +kernel) (by kernel_rfl) (by kernel_rfl) (by kernel_rfl) ?_; simp only [go_sem, h1, encFrame, hok', g2, g3, ByteArray.size_append, z58, hlk, htk, tyAll, Nat.reduceAdd, Nat.reduceLT, Nat.reduceLeDiff, Nat.reduceEqDiff, Nat.reduceMul, Nat.reduceSub, Nat.reduceGT, reduceIte, Int.reduceNeg, Int.reduceToNat]) |  refine And.intro ?_ ?_ | intro _))
      all_goals first | omega | skip
      all_goals exact ⟨k + 1, ⟨by omega, hnext⟩, by omega, by (first | rfl | exact ⟨rfl, rfl⟩ | exact ⟨rfl, rfl, rfl⟩ | exact ⟨rfl, rfl, rfl, rfl⟩ | exact ⟨rfl, rfl, rfl, rfl, rfl⟩ | exact ⟨⟨rfl, rfl⟩, rfl⟩ | simp)⟩
  · have hall : fmtF L = bts (joinL 59 (L.map frTxt)) := fmtF_all fun j hj => hf j hj (by omega)
    have hmd := mapData L k
    have h59 : (⟨#[59]⟩ : ByteArray)[0]! = 59 := rfl
    have z59 : ByteArray.size ⟨#[59]⟩ = 1 := rfl
    (repeat' (first | refine WP.seq ?_ | (refine WP.region ?_; simp only [go_sem, hlk, hmd, h59, z59, tyAll, Nat.reduceAdd, Nat.reduceLT, Nat.reduceLeDiff, Nat.reduceEqDiff, Nat.reduceMul, Nat.reduceSub, Nat.reduceGT, reduceIte, Int.reduceNeg, Int.reduceToNat]) | refine WP.block ?_ | (refine WP.condW ?_; simp only [go_sem, hlk, hmd, h59, z59, tyAll, Nat.reduceAdd, Nat.reduceLT, Nat.reduceLeDiff, Nat.reduceEqDiff, Nat.reduceMul, Nat.reduceSub, Nat.reduceGT, reduceIte, Int.reduceNeg, Int.reduceToNat]) | (refine WP.ret ?_; simp only [go_sem, hlk, hmd, h59, z59, tyAll, Nat.reduceAdd, Nat.reduceLT, Nat.reduceLeDiff, Nat.reduceEqDiff, Nat.reduceMul, Nat.reduceSub, Nat.reduceGT, reduceIte, Int.reduceNeg, Int.reduceToNat]) | (refine WP.exit ?_; simp only [go_sem, hlk, hmd, h59, z59, tyAll, Nat.reduceAdd, Nat.reduceLT, Nat.reduceLeDiff, Nat.reduceEqDiff, Nat.reduceMul, Nat.reduceSub, Nat.reduceGT, reduceIte, Int.reduceNeg, Int.reduceToNat]) | (refine WP.skip ?_; simp only [go_sem, hlk, hmd, h59, z59, tyAll, Nat.reduceAdd, Nat.reduceLT, Nat.reduceLeDiff, Nat.reduceEqDiff, Nat.reduceMul, Nat.reduceSub, Nat.reduceGT, reduceIte, Int.reduceNeg, Int.reduceToNat]) | (refine WP.flowW 9 [⟨[3], [], [], [24], [], []⟩, ⟨[5], [], [], [24], [], []⟩, ⟨[17], [1], [], [24], [], []⟩, ⟨[18], [1, 2], [], [24], [], []⟩, ⟨[5], [], [], [24], [], []⟩, ⟨[20], [4], [], [24], [], []⟩, ⟨[21], [4, 5], [], [24], [], []⟩, ⟨[19, 22], [1, 2, 3, 4, 5, 6], [], [24], [], []⟩, ⟨[23], [1, 2, 3, 4, 5, 6, 7], [], [], [], [24]⟩, ⟨[], [0, 1, 2, 3, 4, 5, 6, 7, 8], [], [], [], []⟩, ⟨[], [0, 1, 2, 3, 4, 5, 6, 7, 8, 9], [], [], [], []⟩] [16, 17, 18, 19, 20, 21, 22, 23, 24] [24] [] (by decide +kernel) (by kernel_rfl) (by kernel_rfl) (by kernel_rfl) ?_; simp only [go_sem, hlk, hmd, h59, z59, tyAll, Nat.reduceAdd, Nat.reduceLT, Nat.reduceLeDiff, Nat.reduceEqDiff, Nat.reduceMul, Nat.reduceSub, Nat.reduceGT, reduceIte, Int.reduceNeg, Int.reduceToNat]) |  refine And.intro ?_ ?_ | intro _))
    all_goals first | omega | skip
    rw [hall, List.take_of_length_le (by omega)]
end
end Go.Proofs.YtolnapfgfdgifaaDoor
