/-
  DERIVED. Several texts of ours in one: VtFmt, VtCut, VtParse, VtParseS, VtEnt, VtEntS, VtStk2, VtEnO, VtFocS, VtLaw0.
-/
import Derived.Test.YtahcfcimfcjhhaaGreatDoorVx0
import Derived.Test.YtahcfcimfcjhhaaGreatDoorVx1
import Derived.Test.YtahcfcimfcjhhaaGreatDoorVx2
import Derived.Test.YtahcfcimfcjhhaaGreatDoorVx3
import Derived.Test.YtahcfcimfcjhhaaGreatDoorVx4
import Derived.Test.YtahcfcimfcjhhaaGreatDoorVx5
import Derived.Test.YtahcfcimfcjhhaaGreatDoorVx6
import Derived.Test.YtahcfcimfcjhhaaGreatDoorVx7
set_option linter.unusedSimpArgs false
set_option linter.unusedVariables false
namespace Go.Proofs.YtahcfcimfcjhhaaGreatDoor
open Go.Vc
attribute [local go_sem] St.runR St.runW St.stepV offV St.step St.stepU St.stepG mkCond guardB St.prK St.pr St.prLen St.eff St.callE St.callD St.callF St.callL aI aB aS aR aC St.isM St.argL Ctr.pure Ctr.lend Ctr.move Ctr.isL Ctr.wri pur len lentBy St.lentV St.lent1 nthS argsR restOf obsR pairs swapL unObs backL St.resL erL SV.ren1 SV.up SV.up2 Ob.up St.fzL cellIds partIds St.intoRow SV.ownId St.fz SV.fz1 St.prep St.mvL St.mv SV.re1 rnOk St.prEq vals eqCells scEq Value.kd St.prStr St.prCut cutR St.bnd St.prMin St.bld isShift outL retL outJ oR oC St.ev St.get St.put St.new St.kill SV.kill SV.kill1 Ob.kill St.app St.wrt St.rowsOf St.res St.killL lk er argsL SV.strip SV.need SV.share SV.share1 SV.owns SV.owns1 SV.owns2 SV.good SV.good1 SV.rok SV.rok1 SV.rok2 SV.isV SV.isV2 nodupN SV.cells SV.one SV.pur Ob.pb partsIn rowsIn splice cellsAt dstOk scal2 scal1 thenK blockK retK outK outs okC okL okA okT nilC nilL nilA nilT keepC keepL keepA keepT St.runG St.dltK St.least St.clean St.final St.hide offK badS badO SV.refs SV.leaf SV.leaf2 Ob.refs dlOk fpAt Go.Vc.cover tups SV.ofAgg St.out outC subL St.has rng wr Value.oneCell' Option.isSome_some Option.isSome_none List.nil_append Bool.false_eq_true List.map_cons List.map_nil List.all_cons List.all_nil List.length_cons List.length_nil List.drop_zero List.drop_succ_cons List.take_succ_cons List.take_zero List.drop_nil List.take_nil List.getElem?_cons_zero List.getElem?_cons_succ List.getElem?_nil List.cons_append List.nil_append List.append_nil List.append_assoc List.flatMap_cons List.flatMap_nil List.contains_cons List.contains_nil List.set_cons_zero List.set_cons_succ List.getElem?_toArray Option.getD_some Option.getD_none Option.map_some Option.map_none Option.bind_some Option.some.injEq Prod.mk.injEq if_true if_false true_and and_true and_self and_false false_and Bool.and_false Bool.false_and Bool.or_true Bool.true_or Bool.or_false Bool.false_or ne_eq not_true_eq_false not_false_eq_true decide_true decide_false List.mem_cons List.not_mem_nil List.filter_cons List.filter_nil List.any_cons List.any_nil List.isEmpty_nil List.isEmpty_cons Option.getD_none or_false false_or true_or or_true forall_eq_or_imp forall_eq reduceCtorEq exists_eq exists_eq' exists_eq_left' exists_eq_left exists_eq_right exists_eq_right' imp_self implies_true Bool.and_true Bool.true_and Bool.and_self beq_self_eq_true List.replicate_succ List.replicate_zero forall_const false_implies pickB_or pickB_and beqT beqF Int.toNat_natCast List.length_map List.length_replicate ge_iff_le gt_iff_lt decide_eq_true_eq decide_eq_false_iff_not Bool.and_eq_true Bool.or_eq_true Bool.not_eq_true' Bool.not_eq_false' condG List.toList_toArray Bool.or_eq_false_iff Bool.and_eq_false_iff Int.not_lt Int.not_le beq_iff_eq beq_eq_false_iff_ne bne_iff_ne bne_eq_false_iff_eq ne_eq Bool.not_true Bool.not_false exists_and_left
section
open Go.Vc
set_option linter.unusedSimpArgs false
set_option linter.unusedVariables false
set_option maxHeartbeats 1000000
set_option maxRecDepth 10000
attribute [local irreducible] Go.Vc.WP
attribute [local go_sem] cx0_t cx0_c
def fl32661023ff : List Go.Vc.Fp := [⟨[3], [], [], [24], [], []⟩, ⟨[5], [], [], [24], [], []⟩, ⟨[17], [1], [], [24], [], []⟩, ⟨[18], [1, 2], [], [24], [], []⟩, ⟨[5], [], [], [24], [], []⟩, ⟨[20], [4], [], [24], [], []⟩, ⟨[21], [4, 5], [], [24], [], []⟩, ⟨[19, 22], [1, 2, 3, 4, 5, 6], [], [24], [], []⟩, ⟨[23], [1, 2, 3, 4, 5, 6, 7], [], [], [], [24]⟩, ⟨[], [0, 1, 2, 3, 4, 5, 6, 7, 8], [], [], [], []⟩, ⟨[], [0, 1, 2, 3, 4, 5, 6, 7, 8, 9], [], [], [], []⟩]
attribute [local go_sem] fl32661023ff
attribute [local go_sem] decNode_enc decFrame_enc oneFrame_enc stkA oneFrame_ab oneNode_abc decI_enc decS_enc
section
noncomputable def cxFiI : Cx := { P := Tryz.prog, tys := tys, C := [(111, kItoa)], hty := tysOk, hC := COk.cons cItoa (COk.nil _) }
theorem cxFiI_t : cxFiI.tys = tys := rfl
theorem cxFiI_c : cxFiI.C = [(111, kItoa)] := rfl
attribute [local go_sem] cxFiI_t cxFiI_c kItoa
theorem cFmtI : Cn Tryz.prog 93 kFmt := by
  refine Cn.pur Tryz.func93 (by kernel_rfl) rfl fun d x hx => ?_
  refine Holds.go (c := cxFiI) Tryz.func93 rfl Tryz.results93 Tryz.ntmps93 (by omega) (by simp) rfl ?_
  intro X0 w0
  (repeat' (first | refine WP.seq ?_ | refine WP.block ?_ | ((first | refine WP.region ?_ | refine WP.condW ?_ | refine WP.ret ?_ | refine WP.exit ?_ | refine WP.skip ?_); simp only [go_sem, tyAll, Nat.reduceAdd, Nat.reduceLT, Nat.reduceLeDiff, Nat.reduceEqDiff, Nat.reduceMul, Nat.reduceSub, Nat.reduceGT, reduceIte, Int.reduceNeg, Int.reduceToNat]) |  refine And.intro ?_ ?_ | intro _))
  all_goals first | omega | skip
end
theorem ba_nil (s : ByteArray) : ⟨#[]⟩ ++ s = s := by
  apply ByteArray.ext
  simp
theorem fmtF_bad {L : List Frame} {k : Nat} (hk : k < L.length) (h : frOk L[k] = false) : fmtF L = ⟨#[]⟩ := by
  unfold fmtF
  rw [if_neg]
  intro ha
  rw [List.all_eq_true] at ha
  rw [ha _ (List.getElem_mem hk)] at h; cases h
theorem frOk_no {f : Frame} (h : frOk f = false) : nameOk f.name = false ∨ f.line < 0 ∨ 59 < f.line := by
  cases hn : nameOk f.name with
  | false => exact .inl rfl
  | true =>
    right
    rcases Int.lt_or_le f.line 0 with h0 | h0
    · exact .inl h0
    · rcases Int.lt_or_le 59 f.line with h1 | h1
      · exact .inr h1
      · rw [frOk_iff.2 ⟨hn, h0, h1⟩] at h; cases h
theorem fmtF_all {L : List Frame} (h : ∀ j (hj : j < L.length), frOk L[j] = true) : fmtF L = bts (joinL 59 (L.map frTxt)) := by
  unfold fmtF
  rw [if_pos]
  rw [List.all_eq_true]
  intro f hf
  obtain ⟨j, hj, rfl⟩ := List.mem_iff_getElem.1 hf
  exact h j hj
theorem joinL_take (L : List Frame) (k : Nat) (hk : k < L.length) : bts (joinL 59 ((L.take (k + 1)).map frTxt)) = (if k = 0 then bts (frTxt L[k]) else bts (joinL 59 ((L.take k).map frTxt)) ++ ⟨#[59]⟩ ++ bts (frTxt L[k])) := by
  rw [List.take_succ_eq_append_getElem hk, List.map_append, List.map_cons, List.map_nil, joinL_snoc]
  by_cases h0 : k = 0
  · subst h0; rw [if_pos (by simp), if_pos rfl]
  · rw [if_neg (by
      intro e
      have := congrArg List.length e
      rw [List.length_map, List.length_take, List.length_nil] at this; omega), if_neg h0, show (⟨#[59]⟩ : ByteArray) = bts [59] from rfl, bts_append, bts_append]
    congr 1
    simp
theorem frTxt_bts (f : Frame) : bts (frTxt f) = f.name ++ ⟨#[58]⟩ ++ bts (fmtL f.line.toNat) := by
  unfold frTxt
  rw [show (58 : UInt8) :: fmtL f.line.toNat = [58] ++ fmtL f.line.toNat from rfl, ← bts_append, ← bts_append, bts_list, ← ByteArray.append_assoc]; rfl
theorem lenJ (L : List Frame) (k : Nat) (hk : k ≤ L.length) (h : ∀ j (hj : j < L.length), j < k → frOk L[j] = true) : (bts (joinL 59 ((L.take k).map frTxt))).size ≤ 12 * k := by
  rw [bts_size]
  have := joinL_len ((L.take k).map frTxt) 11 (fun x hx => by
    obtain ⟨f, hf, rfl⟩ := List.mem_map.1 hx
    rw [List.mem_take_iff_getElem] at hf
    obtain ⟨j, hj, rfl⟩ := hf
    exact (frTxt_len (h j (by omega) (by omega))).2)
  simp only [List.length_map, List.length_take] at this
  omega
def wfFr (L : List Frame) : Prop := L.length ≤ 1099511627776 ∧ ∀ f ∈ L, f.name.size ≤ 1099511627776
def kFmtF : Ctr := pur (fun args => decFrame (aR args 0)) (fun L => [.sl 2 (L.map encFrame)]) (fun L => wfFr L) (fun _ L => .v (.string (fmtF L))) (fun _ _ => [])
section
noncomputable def cxFfS : Cx := { P := Tryz.prog, tys := tys, C := [(105, kNameOk), (30, k60), (106, kFmt)], hty := tysOk, hC := COk.cons cNameOkS (COk.cons c58 (COk.cons cFmtS (COk.nil _))) }
theorem cxFfS_t : cxFfS.tys = tys := rfl
theorem cxFfS_c : cxFfS.C = [(105, kNameOk), (30, k60), (106, kFmt)] := rfl
attribute [local go_sem] cxFfS_t cxFfS_c kNameOk k60 kFmt
theorem cFmtFS : Cn Tryz.prog 83 kFmtF := by
  refine Cn.pur Tryz.func83 (by kernel_rfl) rfl fun d x hx => ?_
  rename List Frame => L
  have hL := hx.1
  refine Holds.go (c := cxFfS) Tryz.func83 rfl Tryz.results83 Tryz.ntmps83 (by omega) (by simp) rfl ?_
  intro X0 w0
  (repeat' (first | refine WP.seq ?_ | refine WP.block ?_ | ((first | refine WP.region ?_ | refine WP.condW ?_ | refine WP.ret ?_ | refine WP.exit ?_ | refine WP.skip ?_); simp only [go_sem, tyAll, Nat.reduceAdd, Nat.reduceLT, Nat.reduceLeDiff, Nat.reduceEqDiff, Nat.reduceMul, Nat.reduceSub, Nat.reduceGT, reduceIte, Int.reduceNeg, Int.reduceToNat]) | ((first | refine WP.drawW 15 (by decide +kernel) (by kernel_rfl) ?_); simp only [go_sem, tyAll, Nat.reduceAdd, Nat.reduceLT, Nat.reduceLeDiff, Nat.reduceEqDiff, Nat.reduceMul, Nat.reduceSub, Nat.reduceGT, reduceIte, Int.reduceNeg, Int.reduceToNat]) |  refine And.intro ?_ ?_ | intro _))
  refine WP.loop (fun k : Nat => ⟨[(0, .sl 2 (L.map encFrame)), (3, .v (.string (bts (joinL 59 ((L.take k).map frTxt))))), (4, .v (.int .i64 k))], []⟩) (fun k => k ≤ L.length ∧ ∀ j (hj : j < L.length), j < k → frOk L[j] = true) (fun k => L.length - k) 0 (by simp) ?_ ?_
  · have e0 : bts (joinL 59 ((L.take 0).map frTxt)) = ⟨#[]⟩ := rfl
    (simp only [go_sem, e0, tyAll, Nat.reduceAdd, Nat.reduceLT, Nat.reduceLeDiff, Nat.reduceEqDiff, Nat.reduceMul, Nat.reduceSub, Nat.reduceGT, reduceIte, Int.reduceNeg, Int.reduceToNat] <;> (first | rfl | exact ⟨rfl, rfl⟩ | exact ⟨rfl, rfl, rfl⟩ | exact ⟨rfl, rfl, rfl, rfl⟩ | exact ⟨rfl, rfl, rfl, rfl, rfl⟩ | exact ⟨⟨rfl, rfl⟩, rfl⟩ | simp))
  intro k ⟨hk, hf⟩
  have hz := lenJ L k hk hf
  by_cases hlt : k < L.length
  · have h1 := rowAt_map encFrame L k hlt
    have hnm := hx.2 _ (List.getElem_mem hlt)
    have hj := joinL_take L k hlt
    rw [frTxt_bts] at hj
    have z58 : ByteArray.size ⟨#[58]⟩ = 1 := rfl
    have z59 : ByteArray.size ⟨#[59]⟩ = 1 := rfl
    cases hok : frOk L[k] with
    | false =>
      have hno := frOk_no hok
      (repeat' (first | refine WP.seq ?_ | refine WP.block ?_ | ((first | refine WP.region ?_ | refine WP.condW ?_ | refine WP.ret ?_ | refine WP.exit ?_ | refine WP.skip ?_); simp only [go_sem, h1, encFrame, tyAll, Nat.reduceAdd, Nat.reduceLT, Nat.reduceLeDiff, Nat.reduceEqDiff, Nat.reduceMul, Nat.reduceSub, Nat.reduceGT, reduceIte, Int.reduceNeg, Int.reduceToNat]) | ((first | refine WP.drawW 15 (by decide +kernel) (by kernel_rfl) ?_); simp only [go_sem, h1, encFrame, tyAll, Nat.reduceAdd, Nat.reduceLT, Nat.reduceLeDiff, Nat.reduceEqDiff, Nat.reduceMul, Nat.reduceSub, Nat.reduceGT, reduceIte, Int.reduceNeg, Int.reduceToNat]) |  refine And.intro ?_ ?_ | intro _))
      all_goals first | omega | (rw [fmtF_bad hlt hok]) | (exfalso; have hcc : frOk L[k] = true := frOk_iff.2 ‹nameOk L[k].name = true ∧ 0 ≤ L[k].line ∧ L[k].line ≤ 59›; rw [hok] at hcc; cases hcc) | skip
    | true =>
      obtain ⟨g1, g2, g3⟩ := frOk_iff.1 hok
      have g4 := (nameOk_letters g1).2.2
      have g5 : (bts (fmtL L[k].line.toNat)).size ≤ 2 := by rw [bts_size]; exact fmtL_len 2 _ (by omega) (by omega)
      have hnext : ∀ j (hj : j < L.length), j < k + 1 → frOk L[j] = true := fun j hjl hjk => by
        rcases Nat.lt_or_ge j k with hh | hh
        · exact hf j hjl hh
        · have : j = k := by omega
          subst this; exact hok
      have hT0 : k = 0 → bts (joinL 59 ((L.take k).map frTxt)) = ⟨#[]⟩ := fun e => by subst e; rfl
      generalize bts (joinL 59 ((L.take k).map frTxt)) = T at *
      (repeat' (first | refine WP.seq ?_ | refine WP.block ?_ | ((first | refine WP.region ?_ | refine WP.condW ?_ | refine WP.ret ?_ | refine WP.exit ?_ | refine WP.skip ?_); simp only [go_sem, h1, encFrame, g1, g2, g3, ByteArray.size_append, z58, z59, tyAll, Nat.reduceAdd, Nat.reduceLT, Nat.reduceLeDiff, Nat.reduceEqDiff, Nat.reduceMul, Nat.reduceSub, Nat.reduceGT, reduceIte, Int.reduceNeg, Int.reduceToNat]) | ((first | refine WP.drawW 15 (by decide +kernel) (by kernel_rfl) ?_); simp only [go_sem, h1, encFrame, g1, g2, g3, ByteArray.size_append, z58, z59, tyAll, Nat.reduceAdd, Nat.reduceLT, Nat.reduceLeDiff, Nat.reduceEqDiff, Nat.reduceMul, Nat.reduceSub, Nat.reduceGT, reduceIte, Int.reduceNeg, Int.reduceToNat]) |  refine And.intro ?_ ?_ | intro _))
      all_goals first | omega | skip
      · refine ⟨k + 1, ⟨by omega, hnext⟩, by omega, ?_⟩
        rw [hj, if_neg (by omega), ← ByteArray.append_assoc, ← ByteArray.append_assoc]; (first | rfl | exact ⟨rfl, rfl⟩ | exact ⟨rfl, rfl, rfl⟩ | exact ⟨rfl, rfl, rfl, rfl⟩ | exact ⟨rfl, rfl, rfl, rfl, rfl⟩ | exact ⟨⟨rfl, rfl⟩, rfl⟩ | simp)
      · refine ⟨k + 1, ⟨by omega, hnext⟩, by omega, ?_⟩
        rw [hj, if_pos (by omega), hT0 (by omega), ba_nil]; (first | rfl | exact ⟨rfl, rfl⟩ | exact ⟨rfl, rfl, rfl⟩ | exact ⟨rfl, rfl, rfl, rfl⟩ | exact ⟨rfl, rfl, rfl, rfl, rfl⟩ | exact ⟨⟨rfl, rfl⟩, rfl⟩ | simp)
  · rw [List.take_of_length_le (by omega), ← fmtF_all fun j hj => hf j hj (by omega)]
    (repeat' (first | refine WP.seq ?_ | refine WP.block ?_ | ((first | refine WP.region ?_ | refine WP.condW ?_ | refine WP.ret ?_ | refine WP.exit ?_ | refine WP.skip ?_); simp only [go_sem, tyAll, Nat.reduceAdd, Nat.reduceLT, Nat.reduceLeDiff, Nat.reduceEqDiff, Nat.reduceMul, Nat.reduceSub, Nat.reduceGT, reduceIte, Int.reduceNeg, Int.reduceToNat]) | ((first | refine WP.drawW 15 (by decide +kernel) (by kernel_rfl) ?_); simp only [go_sem, tyAll, Nat.reduceAdd, Nat.reduceLT, Nat.reduceLeDiff, Nat.reduceEqDiff, Nat.reduceMul, Nat.reduceSub, Nat.reduceGT, reduceIte, Int.reduceNeg, Int.reduceToNat]) |  refine And.intro ?_ ?_ | intro _))
    all_goals first | omega | skip
end
section
noncomputable def cxFfI : Cx := { P := Tryz.prog, tys := tys, C := [(91, kFrOk), (93, kFmt), (94, kJoin)], hty := tysOk, hC := COk.cons cFrOkI (COk.cons cFmtI (COk.cons cJoin (COk.nil _))) }
theorem cxFfI_t : cxFfI.tys = tys := rfl
theorem cxFfI_c : cxFfI.C = [(91, kFrOk), (93, kFmt), (94, kJoin)] := rfl
attribute [local go_sem] cxFfI_t cxFfI_c kFrOk kFmt kJoin
theorem mapData (L : List Frame) (k : Nat) : (((L.take k).map fun f => bts (frTxt f)).map (·.data.toList)) = (L.take k).map frTxt := by
  rw [List.map_map]
  exact List.map_congr_left fun f _ => by simp [bts]
theorem takeS (L : List Frame) (k : Nat) (hk : k < L.length) : ((L.take k).map fun f => bts (frTxt f)).map encS ++ [[SV.v (.string (L[k].name ++ ⟨#[58]⟩ ++ bts (fmtL L[k].line.toNat)))]] = ((L.take (k + 1)).map fun f => bts (frTxt f)).map encS := by
  rw [List.take_succ_eq_append_getElem hk, List.map_append, List.map_append, List.map_cons, List.map_nil, frTxt_bts]; rfl
theorem cFmtFI : Cn Tryz.prog 67 kFmtF := by
  refine Cn.pur Tryz.func67 (by kernel_rfl) rfl fun d x hx => ?_
  rename List Frame => L
  have hL := hx.1
  refine Holds.go (c := cxFfI) Tryz.func67 rfl Tryz.results67 Tryz.ntmps67 (by omega) (by simp) rfl ?_
  intro X0 w0
  (repeat' (first | refine WP.seq ?_ | refine WP.block ?_ | ((first | refine WP.region ?_ | refine WP.condW ?_ | refine WP.ret ?_ | refine WP.exit ?_ | refine WP.skip ?_); simp only [go_sem, tyAll, Nat.reduceAdd, Nat.reduceLT, Nat.reduceLeDiff, Nat.reduceEqDiff, Nat.reduceMul, Nat.reduceSub, Nat.reduceGT, reduceIte, Int.reduceNeg, Int.reduceToNat]) | ((first | refine WP.flowW 9 fl32661023ff [16, 17, 18, 19, 20, 21, 22, 23, 24] [24] [] (by decide +kernel) (by kernel_rfl) (by kernel_rfl) (by kernel_rfl) ?_); simp only [go_sem, tyAll, Nat.reduceAdd, Nat.reduceLT, Nat.reduceLeDiff, Nat.reduceEqDiff, Nat.reduceMul, Nat.reduceSub, Nat.reduceGT, reduceIte, Int.reduceNeg, Int.reduceToNat]) |  refine And.intro ?_ ?_ | intro _))
  all_goals first | omega | skip
  refine WP.prep [] [(6, 3)] rfl ?_
  refine WP.loop (fun k : Nat => ⟨[(3, .own 3), (7, .sl 2 (L.map encFrame)), (8, .v (.int .i64 L.length)), (9, .v (.int .i64 k))], [(3, .sl 9 1 (((L.take k).map fun f => bts (frTxt f)).map encS))]⟩) (fun k => k ≤ L.length ∧ ∀ j (hj : j < L.length), j < k → frOk L[j] = true) (fun k => L.length - k) 0 (by simp) ?_ ?_
  · (simp only [go_sem, tyAll, Nat.reduceAdd, Nat.reduceLT, Nat.reduceLeDiff, Nat.reduceEqDiff, Nat.reduceMul, Nat.reduceSub, Nat.reduceGT, reduceIte, Int.reduceNeg, Int.reduceToNat] <;> (first | rfl | exact ⟨rfl, rfl⟩ | exact ⟨rfl, rfl, rfl⟩ | exact ⟨rfl, rfl, rfl, rfl⟩ | exact ⟨rfl, rfl, rfl, rfl, rfl⟩ | exact ⟨⟨rfl, rfl⟩, rfl⟩ | simp))
  intro k ⟨hk, hf⟩
  have hz := lenJ L k hk hf
  rw [bts_size] at hz
  have hlk : ((L.take k).map fun f => bts (frTxt f)).length = k := by rw [List.length_map, List.length_take]; omega
  by_cases hlt : k < L.length
  · have h1 := rowAt_map encFrame L k hlt
    have hnm := hx.2 _ (List.getElem_mem hlt)
    have htk := takeS L k hlt
    have z58 : ByteArray.size ⟨#[58]⟩ = 1 := rfl
    cases hok : frOk L[k] with
    | false =>
      have hok' : frOk ⟨L[k].name, L[k].line⟩ = false := hok
      (repeat' (first | refine WP.seq ?_ | refine WP.block ?_ | ((first | refine WP.region ?_ | refine WP.condW ?_ | refine WP.ret ?_ | refine WP.exit ?_ | refine WP.skip ?_); simp only [go_sem, h1, encFrame, hok', tyAll, Nat.reduceAdd, Nat.reduceLT, Nat.reduceLeDiff, Nat.reduceEqDiff, Nat.reduceMul, Nat.reduceSub, Nat.reduceGT, reduceIte, Int.reduceNeg, Int.reduceToNat]) | ((first | refine WP.flowW 9 fl32661023ff [16, 17, 18, 19, 20, 21, 22, 23, 24] [24] [] (by decide +kernel) (by kernel_rfl) (by kernel_rfl) (by kernel_rfl) ?_); simp only [go_sem, h1, encFrame, hok', tyAll, Nat.reduceAdd, Nat.reduceLT, Nat.reduceLeDiff, Nat.reduceEqDiff, Nat.reduceMul, Nat.reduceSub, Nat.reduceGT, reduceIte, Int.reduceNeg, Int.reduceToNat]) |  refine And.intro ?_ ?_ | intro _))
      all_goals first | omega | (rw [fmtF_bad hlt hok]) | skip
    | true =>
      have hok' : frOk ⟨L[k].name, L[k].line⟩ = true := hok
      obtain ⟨g1, g2, g3⟩ := frOk_iff.1 hok
      have g4 := (nameOk_letters g1).2.2
      have g5 : (bts (fmtL L[k].line.toNat)).size ≤ 2 := by rw [bts_size]; exact fmtL_len 2 _ (by omega) (by omega)
      have hnext : ∀ j (hj : j < L.length), j < k + 1 → frOk L[j] = true := fun j hjl hjk => by
        rcases Nat.lt_or_ge j k with hh | hh
        · exact hf j hjl hh
        · have : j = k := by omega
          subst this; exact hok
      (repeat' (first | refine WP.seq ?_ | refine WP.block ?_ | ((first | refine WP.region ?_ | refine WP.condW ?_ | refine WP.ret ?_ | refine WP.exit ?_ | refine WP.skip ?_); simp only [go_sem, h1, encFrame, hok', g2, g3, ByteArray.size_append, z58, hlk, htk, tyAll, Nat.reduceAdd, Nat.reduceLT, Nat.reduceLeDiff, Nat.reduceEqDiff, Nat.reduceMul, Nat.reduceSub, Nat.reduceGT, reduceIte, Int.reduceNeg, Int.reduceToNat]) | ((first | refine WP.flowW 9 fl32661023ff [16, 17, 18, 19, 20, 21, 22, 23, 24] [24] [] (by decide +kernel) (by kernel_rfl) (by kernel_rfl) (by kernel_rfl) ?_); simp only [go_sem, h1, encFrame, hok', g2, g3, ByteArray.size_append, z58, hlk, htk, tyAll, Nat.reduceAdd, Nat.reduceLT, Nat.reduceLeDiff, Nat.reduceEqDiff, Nat.reduceMul, Nat.reduceSub, Nat.reduceGT, reduceIte, Int.reduceNeg, Int.reduceToNat]) |  refine And.intro ?_ ?_ | intro _))
      all_goals first | omega | skip
      all_goals exact ⟨k + 1, ⟨by omega, hnext⟩, by omega, by (first | rfl | exact ⟨rfl, rfl⟩ | exact ⟨rfl, rfl, rfl⟩ | exact ⟨rfl, rfl, rfl, rfl⟩ | exact ⟨rfl, rfl, rfl, rfl, rfl⟩ | exact ⟨⟨rfl, rfl⟩, rfl⟩ | simp)⟩
  · have hall : fmtF L = bts (joinL 59 (L.map frTxt)) := fmtF_all fun j hj => hf j hj (by omega)
    have hmd := mapData L k
    have h59 : (⟨#[59]⟩ : ByteArray)[0]! = 59 := rfl
    have z59 : ByteArray.size ⟨#[59]⟩ = 1 := rfl
    (repeat' (first | refine WP.seq ?_ | refine WP.block ?_ | ((first | refine WP.region ?_ | refine WP.condW ?_ | refine WP.ret ?_ | refine WP.exit ?_ | refine WP.skip ?_); simp only [go_sem, hlk, hmd, h59, z59, tyAll, Nat.reduceAdd, Nat.reduceLT, Nat.reduceLeDiff, Nat.reduceEqDiff, Nat.reduceMul, Nat.reduceSub, Nat.reduceGT, reduceIte, Int.reduceNeg, Int.reduceToNat]) | ((first | refine WP.flowW 9 fl32661023ff [16, 17, 18, 19, 20, 21, 22, 23, 24] [24] [] (by decide +kernel) (by kernel_rfl) (by kernel_rfl) (by kernel_rfl) ?_); simp only [go_sem, hlk, hmd, h59, z59, tyAll, Nat.reduceAdd, Nat.reduceLT, Nat.reduceLeDiff, Nat.reduceEqDiff, Nat.reduceMul, Nat.reduceSub, Nat.reduceGT, reduceIte, Int.reduceNeg, Int.reduceToNat]) |  refine And.intro ?_ ?_ | intro _))
    all_goals first | omega | skip
    rw [hall, List.take_of_length_le (by omega)]
end
end
section
open Go.Vc
set_option linter.unusedSimpArgs false
set_option linter.unusedVariables false
set_option maxHeartbeats 1000000
set_option maxRecDepth 10000
attribute [local irreducible] Go.Vc.WP
attribute [local go_sem] cx0_t cx0_c
attribute [local go_sem] aU
def kL22 : Ctr := pur (fun args => (aS args 0, aU args 1)) (fun x => [.v (.string x.1), .v (.int .u8 (x.2.toNat : Int))]) (fun x => x.1.size ≤ 1099511627776) (fun d _ => .own d) (fun d x => [(d, .sl 9 1 (((cutL x.2 x.1.data.toList).map bts).map encS))])
/-- the signs from place a up to place k -/
def seg (l : List UInt8) (a k : Nat) : List UInt8 := (l.drop a).take (k - a)
theorem seg_ext (s : ByteArray) (a k : Nat) (h : k ≤ s.size) : s.extract a k = bts (seg s.data.toList a k) := by
  apply bts_ext
  rw [ByteArray.data_extract, Array.toList_extract]
  simp [List.extract, seg]
theorem seg_no {l : List UInt8} {c : UInt8} {a k : Nat} (hk : k ≤ l.length) (h : ∀ i (hi : i < l.length), a ≤ i → i < k → l[i] ≠ c) : c ∉ seg l a k := by
  intro hc
  unfold seg at hc
  obtain ⟨i, hi, he⟩ := List.mem_iff_getElem.1 hc
  rw [List.getElem_take, List.getElem_drop] at he
  rw [List.length_take, List.length_drop] at hi
  exact h (a + i) (by omega) (by omega) (by omega) he
theorem seg_cut {l : List UInt8} {c : UInt8} {a k : Nat} (ha : a ≤ k) (hk : k < l.length) (hc : l[k] = c) (h : ∀ i (hi : i < l.length), a ≤ i → i < k → l[i] ≠ c) : cutL c (l.drop a) = seg l a k :: cutL c (l.drop (k + 1)) := by
  have e : l.drop a = seg l a k ++ c :: l.drop (k + 1) := by
    unfold seg
    rw [← hc, ← List.drop_eq_getElem_cons hk]
    have := List.take_append_drop (k - a) (l.drop a)
    rw [List.drop_drop, show a + (k - a) = k by omega] at this
    exact this.symm
  rw [e, cutL_app c _ (seg_no (by omega) h)]
theorem seg_end {l : List UInt8} {c : UInt8} {a : Nat} (ha : a ≤ l.length) (h : ∀ i (hi : i < l.length), a ≤ i → i < l.length → l[i] ≠ c) : cutL c (l.drop a) = [seg l a l.length] := by
  have e : l.drop a = seg l a l.length := by
    unfold seg
    rw [List.take_of_length_le (by rw [List.length_drop]; omega)]
  rw [e, cutL_plain c (by have := seg_no (Nat.le_refl _) h; exact this)]
theorem ba_get (s : ByteArray) (k : Nat) (h : k < s.size) : s[k]! = s.data.toList[k]'(by simpa using h) := by
  rw [getElem!_pos s k h]; rfl
theorem cL22 : Cn Tryz.prog 107 kL22 := by
  refine Cn.pur Tryz.func107 (by kernel_rfl) rfl fun d x hx => ?_
  obtain ⟨s, c⟩ := x
  simp only at hx ⊢
  refine Holds.go (c := cx0) Tryz.func107 rfl Tryz.results107 Tryz.ntmps107 (by omega) (by simp) rfl ?_
  intro X0 w0
  (repeat' (first | refine WP.seq ?_ | refine WP.block ?_ | ((first | refine WP.region ?_ | refine WP.condW ?_ | refine WP.ret ?_ | refine WP.exit ?_ | refine WP.skip ?_); simp only [go_sem, tyAll, Nat.reduceAdd, Nat.reduceLT, Nat.reduceLeDiff, Nat.reduceEqDiff, Nat.reduceMul, Nat.reduceSub, Nat.reduceGT, reduceIte, Int.reduceNeg, Int.reduceToNat]) |  refine And.intro ?_ ?_ | intro _))
  have hln : s.data.toList.length = s.size := by simp
  have hcl := cutL_len c s.data.toList
  refine WP.loop (fun q : Nat × Nat × List (List UInt8) => ⟨[(0, .v (.string s)), (1, .v (.int .u8 (c.toNat : Int))), (5, .own 8), (6, .v (.int .i64 q.2.1)), (7, .v (.int .i64 q.1))], [(8, .sl 9 1 ((q.2.2.map bts).map encS))]⟩)
    (fun q => (q.1 ≤ s.size ∧ q.2.1 ≤ q.1 ∧ cutL c s.data.toList = q.2.2 ++ cutL c (s.data.toList.drop q.2.1) ∧ ∀ i (hi : i < s.data.toList.length), q.2.1 ≤ i → i < q.1 → s.data.toList[i] ≠ c) ∨ (q.1 = s.size + 1 ∧ q.2.2 = cutL c s.data.toList)) (fun q => s.size + 1 - q.1) (0, 0, []) (.inl ⟨by simp, by simp, by simp, by simp⟩) ?_ ?_
  · (simp only [go_sem, tyAll, Nat.reduceAdd, Nat.reduceLT, Nat.reduceLeDiff, Nat.reduceEqDiff, Nat.reduceMul, Nat.reduceSub, Nat.reduceGT, reduceIte, Int.reduceNeg, Int.reduceToNat] <;> (first | rfl | exact ⟨rfl, rfl⟩ | exact ⟨rfl, rfl, rfl⟩ | exact ⟨rfl, rfl, rfl, rfl⟩ | exact ⟨rfl, rfl, rfl, rfl, rfl⟩ | exact ⟨⟨rfl, rfl⟩, rfl⟩ | simp))
  rintro ⟨k, a, O⟩ hJ
  simp only at hJ ⊢
  rcases hJ with ⟨hk, ha, hA, hB⟩ | ⟨hk, hO⟩
  · have hext := seg_ext s a k hk
    have hsn : ∀ z : List UInt8, (O.map bts).map encS ++ [[SV.v (.string (bts z))]] = ((O ++ [z]).map bts).map encS := fun z => by rw [List.map_append, List.map_append]; rfl
    have hOl : O.length ≤ s.size + 1 := by have := congrArg List.length hA; rw [List.length_append] at this; omega
    by_cases hlt : k < s.size
    · have hg := ba_get s k hlt
      by_cases hc : s[k]! = c
      · have hcut := seg_cut ha (by omega) (by rw [← hg]; exact hc) hB
        have hcc : (s[k]!.toNat : Int) = (c.toNat : Int) := by rw [hc]
        (repeat' (first | refine WP.seq ?_ | refine WP.block ?_ | ((first | refine WP.region ?_ | refine WP.condW ?_ | refine WP.ret ?_ | refine WP.exit ?_ | refine WP.skip ?_); simp only [go_sem, hext, hsn, hcc, tyAll, Nat.reduceAdd, Nat.reduceLT, Nat.reduceLeDiff, Nat.reduceEqDiff, Nat.reduceMul, Nat.reduceSub, Nat.reduceGT, reduceIte, Int.reduceNeg, Int.reduceToNat]) |  refine And.intro ?_ ?_ | intro _))
        all_goals first | omega | skip
        refine ⟨(k + 1, k + 1, O ++ [seg s.data.toList a k]), .inl ⟨by simp only; omega, Nat.le_refl _, by rw [hA, hcut]; simp, fun i hi h1 h2 => by simp only at h1 h2; omega⟩, by simp only; omega, by (first | rfl | exact ⟨rfl, rfl⟩ | exact ⟨rfl, rfl, rfl⟩ | exact ⟨rfl, rfl, rfl, rfl⟩ | exact ⟨rfl, rfl, rfl, rfl, rfl⟩ | exact ⟨⟨rfl, rfl⟩, rfl⟩ | simp)⟩
      · have hcc : ¬ (s[k]!.toNat : Int) = (c.toNat : Int) := fun e => hc (toNatEq.1 e)
        (repeat' (first | refine WP.seq ?_ | refine WP.block ?_ | ((first | refine WP.region ?_ | refine WP.condW ?_ | refine WP.ret ?_ | refine WP.exit ?_ | refine WP.skip ?_); simp only [go_sem, hcc, tyAll, Nat.reduceAdd, Nat.reduceLT, Nat.reduceLeDiff, Nat.reduceEqDiff, Nat.reduceMul, Nat.reduceSub, Nat.reduceGT, reduceIte, Int.reduceNeg, Int.reduceToNat]) |  refine And.intro ?_ ?_ | intro _))
        all_goals first | omega | skip
        refine ⟨(k + 1, a, O), .inl ⟨by simp only; omega, by simp only; omega, hA, fun i hi h1 h2 => ?_⟩, by simp only; omega, by (first | rfl | exact ⟨rfl, rfl⟩ | exact ⟨rfl, rfl, rfl⟩ | exact ⟨rfl, rfl, rfl, rfl⟩ | exact ⟨rfl, rfl, rfl, rfl, rfl⟩ | exact ⟨⟨rfl, rfl⟩, rfl⟩ | simp)⟩
        simp only at h1 h2
        rcases Nat.lt_or_ge i k with hh | hh
        · exact hB i hi h1 hh
        · have : i = k := by omega
          subst this
          rw [← hg]; exact hc
    · have hke : k = s.size := by omega
      subst hke
      have hend := seg_end (a := a) (l := s.data.toList) (c := c) (by omega) (fun i hi h1 h2 => hB i hi h1 (by omega))
      rw [hln] at hend
      (repeat' (first | refine WP.seq ?_ | refine WP.block ?_ | ((first | refine WP.region ?_ | refine WP.condW ?_ | refine WP.ret ?_ | refine WP.exit ?_ | refine WP.skip ?_); simp only [go_sem, hext, hsn, tyAll, Nat.reduceAdd, Nat.reduceLT, Nat.reduceLeDiff, Nat.reduceEqDiff, Nat.reduceMul, Nat.reduceSub, Nat.reduceGT, reduceIte, Int.reduceNeg, Int.reduceToNat]) |  refine And.intro ?_ ?_ | intro _))
      all_goals first | omega | skip
      refine ⟨(s.size + 1, s.size + 1, O ++ [seg s.data.toList a s.size]), .inr ⟨rfl, by simp only; rw [hA, hend]⟩, by simp only; omega, by (first | rfl | exact ⟨rfl, rfl⟩ | exact ⟨rfl, rfl, rfl⟩ | exact ⟨rfl, rfl, rfl, rfl⟩ | exact ⟨rfl, rfl, rfl, rfl, rfl⟩ | exact ⟨⟨rfl, rfl⟩, rfl⟩ | simp)⟩
  · subst hk
    (repeat' (first | refine WP.seq ?_ | refine WP.block ?_ | ((first | refine WP.region ?_ | refine WP.condW ?_ | refine WP.ret ?_ | refine WP.exit ?_ | refine WP.skip ?_); simp only [go_sem, hO, tyAll, Nat.reduceAdd, Nat.reduceLT, Nat.reduceLeDiff, Nat.reduceEqDiff, Nat.reduceMul, Nat.reduceSub, Nat.reduceGT, reduceIte, Int.reduceNeg, Int.reduceToNat]) |  refine And.intro ?_ ?_ | intro _))
    all_goals first | omega | skip
end
section
open Go.Vc
set_option linter.unusedSimpArgs false
set_option linter.unusedVariables false
set_option maxHeartbeats 1000000
set_option maxRecDepth 10000
attribute [local irreducible] Go.Vc.WP
attribute [local go_sem] cx0_t cx0_c
attribute [local go_sem] decNode_enc decFrame_enc oneFrame_enc stkA oneFrame_ab oneNode_abc decI_enc decS_enc aU
def partsOf (s : ByteArray) : List (List UInt8) := cutL 59 s.data.toList
theorem parts_len (s : ByteArray) : (partsOf s).length ≤ s.size + 1 := by
  have := cutL_len 59 s.data.toList
  simpa [partsOf] using this
theorem parts_size (s : ByteArray) {k : Nat} (hk : k < (partsOf s).length) : (bts (partsOf s)[k]).size ≤ s.size := by
  rw [bts_size]
  have := cutL_mem 59 (l := s.data.toList) (x := (partsOf s)[k]) (List.getElem_mem hk)
  simpa using this
/-- what has been read of the parts, and what is to come -/
def pInv (s : ByteArray) (k : Nat) (F : List Frame) : Prop := (partsOf s).mapM partF = (((partsOf s).drop k).mapM partF).map (F ++ ·) ∧ F.length = k ∧ ∀ f ∈ F, f.name.size ≤ s.size
theorem pInv_zero (s : ByteArray) : pInv s 0 [] := ⟨by simp, rfl, by simp⟩
theorem mapM_cons' {α β : Type} (f : α → Option β) (x : α) (l : List α) : (x :: l).mapM f = (f x).bind fun y => (l.mapM f).map (y :: ·) := by
  rw [List.mapM_cons]
  cases f x with
  | none => rfl
  | some y => cases l.mapM f <;> rfl
theorem pInv_none {s : ByteArray} {k : Nat} {F : List Frame} (h : pInv s k F) (hk : k < (partsOf s).length) (hp : partF (partsOf s)[k] = none) : parseF s = none := by
  have h1 := h.1
  rw [List.drop_eq_getElem_cons hk, mapM_cons', hp] at h1
  unfold parseF
  have : (cutL 59 s.data.toList).mapM partF = none := h1
  rw [this]
theorem partF_name {p : List UInt8} {f : Frame} (h : partF p = some f) : f.name.size ≤ p.length := by
  rw [partF_cut] at h
  cases hu : parseU (bts (Lib.cut p [58]).2.1) with
  | none => rw [hu] at h; cases h
  | some v =>
    rw [hu] at h
    simp only [Option.map_some, Option.some.injEq] at h
    subst h
    simp only [bts_size]
    unfold Lib.cut
    split
    · simp; omega
    · simp
theorem pInv_some {s : ByteArray} {k : Nat} {F : List Frame} {f : Frame} (h : pInv s k F) (hk : k < (partsOf s).length) (hp : partF (partsOf s)[k] = some f) : pInv s (k + 1) (F ++ [f]) := by
  obtain ⟨h1, h2, h3⟩ := h
  rw [List.drop_eq_getElem_cons hk, mapM_cons', hp] at h1
  refine ⟨?_, by rw [List.length_append, h2]; rfl, fun g hg => ?_⟩
  · rw [h1]
    simp only [Option.bind_some, Option.map_map]
    congr 1
    funext G
    simp
  · rcases List.mem_append.1 hg with hg | hg
    · exact h3 g hg
    · simp only [List.mem_cons, List.not_mem_nil, or_false] at hg
      subst hg
      have h4 := partF_name hp
      have h5 := parts_size s hk
      rw [bts_size] at h5
      omega
theorem pInv_end {s : ByteArray} {k : Nat} {F : List Frame} (h : pInv s k F) (hk : (partsOf s).length ≤ k) : parseF s = if s.size ≠ 0 ∧ fmtF F = s then some F else none := by
  have h1 := h.1
  rw [List.drop_of_length_le hk] at h1
  unfold parseF
  have : (cutL 59 s.data.toList).mapM partF = some F := by rw [← partsOf, h1]; simp
  rw [this]
theorem size0 (s : ByteArray) : s = ⟨#[]⟩ ↔ s.size = 0 := by
  constructor
  · rintro rfl; rfl
  · intro h
    have := bts_ext s [] (List.eq_nil_of_length_eq_zero (by simpa using h))
    exact this
theorem pEnd_no {s : ByteArray} {k : Nat} {F : List Frame} (h : pInv s k F) (hk : (partsOf s).length ≤ k) (hc : s = ⟨#[]⟩ ∨ ¬ fmtF F = s) : parseF s = none := by
  rw [pInv_end h hk, if_neg]
  rintro ⟨h1, h2⟩
  rcases hc with hc | hc
  · exact h1 ((size0 s).1 hc)
  · exact hc h2
theorem pEnd_yes {s : ByteArray} {k : Nat} {F : List Frame} (h : pInv s k F) (hk : (partsOf s).length ≤ k) (hc : ¬ s = ⟨#[]⟩ ∧ fmtF F = s) : parseF s = some F := by
  rw [pInv_end h hk, if_pos ⟨fun e => hc.1 ((size0 s).2 e), hc.2⟩]
def kParseF : Ctr := pur (fun args => aS args 0) (fun s => [.v (.string s)]) (fun s => s.size ≤ 2147483648) (fun d s => .tup [.own d, .v (.bool (parseF s).isSome)]) (fun d s => [(d, .sl 33 2 (((parseF s).getD []).map encFrame))])
theorem addF (F : List Frame) (f : Frame) : F.map encFrame ++ [[SV.v (.string f.name), SV.v (.int .i64 f.line)]] = (F ++ [f]).map encFrame := by rw [List.map_append]; rfl
section
noncomputable def cxPaI : Cx := { P := Tryz.prog, tys := tys, C := [(72, kSplit), (73, kCut), (74, kParseU), (67, kFmtF)], hty := tysOk, hC := COk.cons cSplit (COk.cons cCut (COk.cons cParseUI (COk.cons cFmtFI (COk.nil _)))) }
theorem cxPaI_t : cxPaI.tys = tys := rfl
theorem cxPaI_c : cxPaI.C = [(72, kSplit), (73, kCut), (74, kParseU), (67, kFmtF)] := rfl
attribute [local go_sem] cxPaI_t cxPaI_c kSplit kCut kParseU kFmtF
theorem cParseFI : Cn Tryz.prog 37 kParseF := by
  refine Cn.pur Tryz.func37 (by kernel_rfl) rfl fun d x hx => ?_
  rename ByteArray => s
  refine Holds.go (c := cxPaI) Tryz.func37 rfl Tryz.results37 Tryz.ntmps37 (by omega) (by simp) rfl ?_
  intro X0 w0
  have h59 : (⟨#[59]⟩ : ByteArray)[0]! = 59 := rfl
  have z59 : ByteArray.size ⟨#[59]⟩ = 1 := rfl
  have hpl := parts_len s
  have hps : cutL 59 s.data.toList = partsOf s := rfl
  (repeat' (first | refine WP.seq ?_ | refine WP.block ?_ | ((first | refine WP.region ?_ | refine WP.condW ?_ | refine WP.ret ?_ | refine WP.exit ?_ | refine WP.skip ?_); simp only [go_sem, h59, z59, hps, tyAll, Nat.reduceAdd, Nat.reduceLT, Nat.reduceLeDiff, Nat.reduceEqDiff, Nat.reduceMul, Nat.reduceSub, Nat.reduceGT, reduceIte, Int.reduceNeg, Int.reduceToNat]) |  refine And.intro ?_ ?_ | intro _))
  all_goals first | omega | exact ⟨_, _, _, rfl⟩ | skip
  refine WP.prep [14] [] rfl ?_
  refine WP.loop (fun q : Nat × List Frame => ⟨[(0, .v (.string s)), (4, .own 12), (14, .sl 1 (((partsOf s).map bts).map encS)), (15, .v (.int .i64 (partsOf s).length)), (16, .v (.int .i64 q.1))], [(12, .sl 33 2 (q.2.map encFrame))]⟩) (fun q => q.1 ≤ (partsOf s).length ∧ pInv s q.1 q.2) (fun q => (partsOf s).length - q.1) (0, []) ⟨by simp, pInv_zero s⟩ ?_ ?_
  · (simp only [go_sem, tyAll, Nat.reduceAdd, Nat.reduceLT, Nat.reduceLeDiff, Nat.reduceEqDiff, Nat.reduceMul, Nat.reduceSub, Nat.reduceGT, reduceIte, Int.reduceNeg, Int.reduceToNat] <;> (first | rfl | exact ⟨rfl, rfl⟩ | exact ⟨rfl, rfl, rfl⟩ | exact ⟨rfl, rfl, rfl, rfl⟩ | exact ⟨rfl, rfl, rfl, rfl, rfl⟩ | exact ⟨⟨rfl, rfl⟩, rfl⟩ | simp))
  rintro ⟨k, F⟩ ⟨hk, hI⟩
  simp only at hk hI ⊢
  have hFl := hI.2.1
  have hFn := hI.2.2
  by_cases hlt : k < (partsOf s).length
  · have h1 := rowAt_map encS ((partsOf s).map bts) k (by simpa using hlt)
    rw [List.getElem_map] at h1
    have hsz := parts_size s hlt
    have hpc := partF_cut (partsOf s)[k]
    have hbd : (bts (partsOf s)[k]).data.toList = (partsOf s)[k] := by simp [bts]
    have h58 : (⟨#[58]⟩ : ByteArray).data.toList = [58] := rfl
    have hc2 : (bts (Lib.cut (partsOf s)[k] [58]).2.1).size ≤ s.size := by
      rw [bts_size] at hsz ⊢
      unfold Lib.cut
      split
      · simp; omega
      · simp
    generalize hcc : Lib.cut (partsOf s)[k] [58] = c at hpc hc2
    cases hu : parseU (bts c.2.1) with
    | none =>
      rw [hu, Option.map_none] at hpc
      have hno := pInv_none hI hlt hpc
      (repeat' (first | refine WP.seq ?_ | refine WP.block ?_ | ((first | refine WP.region ?_ | refine WP.condW ?_ | refine WP.ret ?_ | refine WP.exit ?_ | refine WP.skip ?_); simp only [go_sem, h1, encS, hbd, h58, hcc, hu, tyAll, Nat.reduceAdd, Nat.reduceLT, Nat.reduceLeDiff, Nat.reduceEqDiff, Nat.reduceMul, Nat.reduceSub, Nat.reduceGT, reduceIte, Int.reduceNeg, Int.reduceToNat]) |  refine And.intro ?_ ?_ | intro _))
      all_goals first | omega | exact ⟨_, _, by rw [hno]; rfl⟩ | (rw [hno]; rfl) | skip
    | some v =>
      rw [hu, Option.map_some] at hpc
      have hyes := pInv_some hI hlt hpc
      have had := addF F ⟨bts c.1, (v : Int)⟩
      (repeat' (first | refine WP.seq ?_ | refine WP.block ?_ | ((first | refine WP.region ?_ | refine WP.condW ?_ | refine WP.ret ?_ | refine WP.exit ?_ | refine WP.skip ?_); simp only [go_sem, h1, encS, hbd, h58, hcc, hu, had, tyAll, Nat.reduceAdd, Nat.reduceLT, Nat.reduceLeDiff, Nat.reduceEqDiff, Nat.reduceMul, Nat.reduceSub, Nat.reduceGT, reduceIte, Int.reduceNeg, Int.reduceToNat]) |  refine And.intro ?_ ?_ | intro _))
      all_goals first | omega | exact ⟨(k + 1, F ++ [⟨bts c.1, (v : Int)⟩]), ⟨by simp only; omega, hyes⟩, by simp only; omega, by (first | rfl | exact ⟨rfl, rfl⟩ | exact ⟨rfl, rfl, rfl⟩ | exact ⟨rfl, rfl, rfl, rfl⟩ | exact ⟨rfl, rfl, rfl, rfl, rfl⟩ | exact ⟨⟨rfl, rfl⟩, rfl⟩ | simp)⟩ | skip
  · have hbF : ∀ f ∈ F, f.name.size ≤ 1099511627776 := fun f hf => by have := hFn f hf; omega
    (repeat' (first | refine WP.seq ?_ | refine WP.block ?_ | ((first | refine WP.region ?_ | refine WP.condW ?_ | refine WP.ret ?_ | refine WP.exit ?_ | refine WP.skip ?_); simp only [go_sem, tyAll, Nat.reduceAdd, Nat.reduceLT, Nat.reduceLeDiff, Nat.reduceEqDiff, Nat.reduceMul, Nat.reduceSub, Nat.reduceGT, reduceIte, Int.reduceNeg, Int.reduceToNat]) |  refine And.intro ?_ ?_ | intro _))
    all_goals first | omega | exact hbF _ ‹_› | contradiction | skip
    · rename_i hc; exact ⟨_, _, by rw [pEnd_no hI (by omega) hc]; rfl⟩
    · rename_i hc; rw [pEnd_no hI (by omega) hc]; rfl
    · rename_i hc; rw [pEnd_yes hI (by omega) hc]; rfl
    · rename_i hc; rw [pEnd_yes hI (by omega) hc]; rfl

end
end
section
open Go.Vc
set_option linter.unusedSimpArgs false
set_option linter.unusedVariables false
set_option maxHeartbeats 1000000
set_option maxRecDepth 10000
attribute [local irreducible] Go.Vc.WP
attribute [local go_sem] cx0_t cx0_c
attribute [local go_sem] decNode_enc decFrame_enc oneFrame_enc stkA oneFrame_ab oneNode_abc decI_enc decS_enc aU
section
noncomputable def cxPaS : Cx := { P := Tryz.prog, tys := tys, C := [(107, kL22), (108, kParseU), (83, kFmtF)], hty := tysOk, hC := COk.cons cL22 (COk.cons cParseUS (COk.cons cFmtFS (COk.nil _))) }
theorem cxPaS_t : cxPaS.tys = tys := rfl
theorem cxPaS_c : cxPaS.C = [(107, kL22), (108, kParseU), (83, kFmtF)] := rfl
attribute [local go_sem] cxPaS_t cxPaS_c kL22 kParseU kFmtF
theorem partF_len {p : List UInt8} (h : ¬ ((cutL 58 p).length : Int) = 2) : partF p = none := by
  unfold partF
  split
  · rename_i n d hc; rw [hc] at h; simp at h
  · rfl
theorem partF_two {p : List UInt8} (h : ((cutL 58 p).length : Int) = 2) : ∃ n d, cutL 58 p = [n, d] := by
  match hc : cutL 58 p with
  | [n, d] => exact ⟨n, d, rfl⟩
  | [] => rw [hc] at h; simp at h
  | [_] => rw [hc] at h; simp at h
  | _ :: _ :: _ :: _ => rw [hc] at h; simp at h; omega
theorem cParseFS : Cn Tryz.prog 85 kParseF := by
  refine Cn.pur Tryz.func85 (by kernel_rfl) rfl fun d x hx => ?_
  rename ByteArray => s
  refine Holds.go (c := cxPaS) Tryz.func85 rfl Tryz.results85 Tryz.ntmps85 (by omega) (by simp) rfl ?_
  intro X0 w0
  have hpl := parts_len s
  have u59 : UInt8.ofNat 59 = 59 := rfl
  have u58 : UInt8.ofNat 58 = 58 := rfl
  have n59 : ((59 : UInt8).toNat : Int) = 59 := rfl
  have n58 : ((58 : UInt8).toNat : Int) = 58 := rfl
  have hps : cutL 59 s.data.toList = partsOf s := rfl
  (repeat' (first | refine WP.seq ?_ | refine WP.block ?_ | ((first | refine WP.region ?_ | refine WP.condW ?_ | refine WP.ret ?_ | refine WP.exit ?_ | refine WP.skip ?_); simp only [go_sem, u59, n59, hps, tyAll, Nat.reduceAdd, Nat.reduceLT, Nat.reduceLeDiff, Nat.reduceEqDiff, Nat.reduceMul, Nat.reduceSub, Nat.reduceGT, reduceIte, Int.reduceNeg, Int.reduceToNat]) |  refine And.intro ?_ ?_ | intro _))
  all_goals first | omega | exact ⟨_, _, _, rfl⟩ | skip
  refine WP.prep [12] [] rfl ?_
  refine WP.loop (fun q : Nat × List Frame => ⟨[(0, .v (.string s)), (4, .own 10), (5, .sl 1 (((partsOf s).map bts).map encS)), (6, .v (.int .i64 q.1))], [(10, .sl 33 2 (q.2.map encFrame))]⟩) (fun q => q.1 ≤ (partsOf s).length ∧ pInv s q.1 q.2) (fun q => (partsOf s).length - q.1) (0, []) ⟨by simp, pInv_zero s⟩ ?_ ?_
  · (simp only [go_sem, tyAll, Nat.reduceAdd, Nat.reduceLT, Nat.reduceLeDiff, Nat.reduceEqDiff, Nat.reduceMul, Nat.reduceSub, Nat.reduceGT, reduceIte, Int.reduceNeg, Int.reduceToNat] <;> (first | rfl | exact ⟨rfl, rfl⟩ | exact ⟨rfl, rfl, rfl⟩ | exact ⟨rfl, rfl, rfl, rfl⟩ | exact ⟨rfl, rfl, rfl, rfl, rfl⟩ | exact ⟨⟨rfl, rfl⟩, rfl⟩ | simp))
  rintro ⟨k, F⟩ ⟨hk, hI⟩
  simp only at hk hI ⊢
  have hFl := hI.2.1
  have hFn := hI.2.2
  by_cases hlt : k < (partsOf s).length
  · have hli : (k : Int) < (partsOf s).length := by omega
    have h1 := rowAt_map encS ((partsOf s).map bts) k (by simpa using hlt)
    rw [List.getElem_map] at h1
    have hsz := parts_size s hlt
    have hbd : (bts (partsOf s)[k]).data.toList = (partsOf s)[k] := by simp [bts]
    by_cases h2 : ((cutL 58 (partsOf s)[k]).length : Int) = 2
    · obtain ⟨n, d, hc⟩ := partF_two h2
      have hpc : partF (partsOf s)[k] = Option.map (fun (v : Nat) => (⟨bts n, (v : Int)⟩ : Frame)) (parseU (bts d)) := by unfold partF; rw [hc]
      have hdz : (bts d).size ≤ s.size := by
        rw [bts_size] at hsz ⊢
        have := cutL_mem 58 (l := (partsOf s)[k]) (x := d) (by rw [hc]; simp)
        omega
      have r0 : ∀ a b : List SV, Go.Vc.rowAt [a, b] 0 = a := fun _ _ => rfl
      have r1 : ∀ a b : List SV, Go.Vc.rowAt [a, b] 1 = b := fun _ _ => rfl
      have i1 : ((1 : Int)).toNat = 1 := rfl
      have i0 : ((0 : Int)).toNat = 0 := rfl
      cases hu : parseU (bts d) with
      | none =>
        rw [hu, Option.map_none] at hpc
        have hno := pInv_none hI hlt hpc
        (repeat' (first | refine WP.seq ?_ | refine WP.block ?_ | ((first | refine WP.region ?_ | refine WP.condW ?_ | refine WP.ret ?_ | refine WP.exit ?_ | refine WP.skip ?_); simp only [go_sem, hli, h1, encS, hbd, u58, n58, hc, r0, r1, i0, i1, hu, tyAll, Nat.reduceAdd, Nat.reduceLT, Nat.reduceLeDiff, Nat.reduceEqDiff, Nat.reduceMul, Nat.reduceSub, Nat.reduceGT, reduceIte, Int.reduceNeg, Int.reduceToNat]) |  refine And.intro ?_ ?_ | intro _))
        all_goals first | omega | exact ⟨_, _, _, rfl⟩ | simp only [hno, Option.getD_none, Option.isSome_none, List.map_nil] | skip
      | some v =>
        rw [hu, Option.map_some] at hpc
        have hyes := pInv_some hI hlt hpc
        have had := addF F ⟨bts n, (v : Int)⟩
        (repeat' (first | refine WP.seq ?_ | refine WP.block ?_ | ((first | refine WP.region ?_ | refine WP.condW ?_ | refine WP.ret ?_ | refine WP.exit ?_ | refine WP.skip ?_); simp only [go_sem, hli, h1, encS, hbd, u58, n58, hc, r0, r1, i0, i1, hu, had, tyAll, Nat.reduceAdd, Nat.reduceLT, Nat.reduceLeDiff, Nat.reduceEqDiff, Nat.reduceMul, Nat.reduceSub, Nat.reduceGT, reduceIte, Int.reduceNeg, Int.reduceToNat]) |  refine And.intro ?_ ?_ | intro _))
        all_goals first | omega | exact ⟨_, _, _, rfl⟩ | skip
        exact ⟨(k + 1, F ++ [⟨bts n, (v : Int)⟩]), ⟨by simp only; omega, hyes⟩, by simp only; omega, by (first | rfl | exact ⟨rfl, rfl⟩ | exact ⟨rfl, rfl, rfl⟩ | exact ⟨rfl, rfl, rfl, rfl⟩ | exact ⟨rfl, rfl, rfl, rfl, rfl⟩ | exact ⟨⟨rfl, rfl⟩, rfl⟩ | simp)⟩
    · have hno := pInv_none hI hlt (partF_len h2)
      (repeat' (first | refine WP.seq ?_ | refine WP.block ?_ | ((first | refine WP.region ?_ | refine WP.condW ?_ | refine WP.ret ?_ | refine WP.exit ?_ | refine WP.skip ?_); simp only [go_sem, hli, h1, encS, hbd, u58, n58, h2, tyAll, Nat.reduceAdd, Nat.reduceLT, Nat.reduceLeDiff, Nat.reduceEqDiff, Nat.reduceMul, Nat.reduceSub, Nat.reduceGT, reduceIte, Int.reduceNeg, Int.reduceToNat]) |  refine And.intro ?_ ?_ | intro _))
      all_goals first | omega | exact ⟨_, _, _, rfl⟩ | simp only [hno, Option.getD_none, Option.isSome_none, List.map_nil] | skip
  · have hbF : ∀ f ∈ F, f.name.size ≤ 1099511627776 := fun f hf => by have := hFn f hf; omega
    clear n58 n59 u58 u59
    have hge : ¬ (k : Int) < (partsOf s).length := by omega
    (repeat' (first | refine WP.seq ?_ | refine WP.block ?_ | ((first | refine WP.region ?_ | refine WP.condW ?_ | refine WP.ret ?_ | refine WP.exit ?_ | refine WP.skip ?_); simp only [go_sem, hge, tyAll, Nat.reduceAdd, Nat.reduceLT, Nat.reduceLeDiff, Nat.reduceEqDiff, Nat.reduceMul, Nat.reduceSub, Nat.reduceGT, reduceIte, Int.reduceNeg, Int.reduceToNat]) |  refine And.intro ?_ ?_ | intro _))
    all_goals first | omega | exact hbF _ ‹_› | exact absurd ‹s = ⟨#[]⟩› ‹¬ s = ⟨#[]⟩› | skip
    · rename_i hc; rw [pEnd_no hI (by omega) hc]; rfl
    · rename_i hc; rw [pEnd_no hI (by omega) hc]; rfl
    · rename_i hc; rw [pEnd_yes hI (by omega) hc]; rfl
    · rename_i hc; rw [pEnd_yes hI (by omega) hc]; rfl
end
end
section
open Go.Vc
set_option linter.unusedSimpArgs false
set_option linter.unusedVariables false
set_option maxHeartbeats 1000000
set_option maxRecDepth 10000
attribute [local irreducible] Go.Vc.WP
attribute [local go_sem] cx0_t cx0_c
attribute [local go_sem] isV_Node isV_It isV_Entry decNode_enc decFrame_enc oneFrame_enc stkA oneFrame_ab oneNode_abc decI_enc decS_enc aU prA decEntry_enc St.ado St.adoptB St.adoptS rp isNil
/-- entries that can be read without growing past all bounds -/
def wfE (L : List Entry) : Prop := L.length ≤ 1048576 ∧ ∀ e ∈ L, e.stack.size ≤ 12582912
theorem parseF_small {s : ByteArray} {F : List Frame} (h : parseF s = some F) : 4 * F.length ≤ s.size + 1 ∧ ∀ f ∈ F, f.name.size ≤ 8 := by
  obtain ⟨h1, h2, h3⟩ := parseF_some h
  constructor
  · have h4 : ∀ (L : List Frame), L.all frOk = true → L ≠ [] → 4 * L.length ≤ (joinL 59 (L.map frTxt)).length + 1 := by
      intro L
      induction L with
      | nil => intro _ h; exact absurd rfl h
      | cons f L ih =>
        intro ha _
        simp only [List.all_cons, Bool.and_eq_true] at ha
        have hf := (frTxt_len ha.1).1
        match L, ih, ha with
        | [], _, _ => simp only [List.map_cons, List.map_nil, joinL, List.length_cons, List.length_nil]; omega
        | g :: L, ih, ha =>
          have := ih ha.2 (by simp)
          simp only [List.map_cons, joinL, List.length_append, List.length_cons] at this ⊢
          omega
    have h5 := h4 F h3 h2
    have h6 : (fmtF F).size = (joinL 59 (F.map frTxt)).length := by unfold fmtF; rw [if_pos h3, bts_size]
    rw [h1] at h6
    omega
  · intro f hf
    have := (frOk_iff.1 (List.all_eq_true.1 h3 f hf)).1
    exact (nameOk_letters this).2.2
def kProfOf : Ctr := pur (fun args => decEntry (aR args 0)) (fun L => [.sl 2 (L.map encEntry)]) wfE
  (fun d L => .tup [.agg [.own d, .own (d + 1000)], .v (.bool (profileOf L).isSome)]) (fun d L => [(d, .sl 132 3 (((profileOf L).getD ([], [])).1.map encNode)), (d + 1000, .sl 3 1 (((profileOf L).getD ([], [])).2.map encI))])
/-- what the profile is like when k entries are in it -/
def eInv (L : List Entry) (k : Nat) (s : List Node × List Int) : Prop := profileOf L = profGo (L.drop k) s ∧ s.1.length ≤ 3145729 * k ∧ s.2.length ≤ 3145729 * k ∧ ∀ x ∈ s.1, x.name.size ≤ 8
theorem eInv_zero (L : List Entry) : eInv L 0 ([], []) := ⟨rfl, by simp, by simp, by simp⟩
theorem eInv_none {L : List Entry} {k : Nat} {s : List Node × List Int} (h : eInv L k s) (hk : k < L.length) (hp : parseF L[k].stack = none) : profileOf L = none := by
  rw [h.1, List.drop_eq_getElem_cons hk, profGo_no hp]
theorem eInv_bad {L : List Entry} {k : Nat} {s : List Node × List Int} {f : List Frame} (h : eInv L k s) (hk : k < L.length) (hp : parseF L[k].stack = some f) (hb : (addStack s.1 s.2 f L[k].count).2 = false) : profileOf L = none := by
  rw [h.1, List.drop_eq_getElem_cons hk, profGo_bad hp hb]
theorem eInv_ok {L : List Entry} {k : Nat} {s : List Node × List Int} {f : List Frame} (hL : wfE L) (h : eInv L k s) (hk : k < L.length) (hp : parseF L[k].stack = some f) (hb : (addStack s.1 s.2 f L[k].count).2 = true) : eInv L (k + 1) (addStack s.1 s.2 f L[k].count).1 := by
  obtain ⟨h1, h2, h3, h4⟩ := h
  obtain ⟨h5, h6⟩ := parseF_small hp
  have h7 := hL.2 _ (List.getElem_mem hk)
  have h8 := addStack_len s.1 s.2 f L[k].count
  refine ⟨?_, by omega, by omega, addStack_names h4 h6⟩
  rw [h1, List.drop_eq_getElem_cons hk, profGo_ok hp hb]
theorem eInv_end {L : List Entry} {k : Nat} {s : List Node × List Int} (h : eInv L k s) (hk : L.length ≤ k) : profileOf L = some s := by
  rw [h.1, List.drop_of_length_le hk, profGo]
theorem addStack_nil (N : List Node) (C : List Int) (n : Int) : addStack N C [] n = ((N, C), false) := by
  unfold addStack
  rw [if_neg]
  rintro ⟨_, _, _, h, _⟩
  unfold intern at h
  rw [if_neg (by simp)] at h
  simp at h
section
noncomputable def cxPfI : Cx := { P := Tryz.prog, tys := tys, C := [(37, kParseF), (34, kAddStack)], hty := tysOk, hC := COk.cons cParseFI (COk.cons cAddStackI (COk.nil _)) }
theorem cxPfI_t : cxPfI.tys = tys := rfl
theorem cxPfI_c : cxPfI.C = [(37, kParseF), (34, kAddStack)] := rfl
attribute [local go_sem] cxPfI_t cxPfI_c kParseF kAddStack
end
end
section
open Go.Vc
set_option linter.unusedSimpArgs false
set_option linter.unusedVariables false
set_option maxHeartbeats 1000000
set_option maxRecDepth 10000
attribute [local irreducible] Go.Vc.WP
attribute [local go_sem] cx0_t cx0_c
attribute [local go_sem] isV_Node isV_It isV_Entry decNode_enc decFrame_enc oneFrame_enc stkA oneFrame_ab oneNode_abc decI_enc decS_enc aU prA decEntry_enc St.ado St.adoptB St.adoptS rp isNil St.fzS addL behind
section
noncomputable def cxPfS : Cx := { P := Tryz.prog, tys := tys, C := [(85, kParseF), (78, kAddStack)], hty := tysOk, hC := COk.cons cParseFS (COk.cons cAddStackS (COk.nil _)) }
theorem cxPfS_t : cxPfS.tys = tys := rfl
theorem cxPfS_c : cxPfS.C = [(85, kParseF), (78, kAddStack)] := rfl
attribute [local go_sem] cxPfS_t cxPfS_c kParseF kAddStack
end
end
section
open Go.Vc
set_option linter.unusedSimpArgs false
set_option linter.unusedVariables false
set_option maxHeartbeats 1000000
set_option maxRecDepth 10000
attribute [local irreducible] Go.Vc.WP
attribute [local go_sem] cx0_t cx0_c
attribute [local go_sem] decNode_enc oneFrame_enc stkA oneFrame_ab oneNode_abc
def kStackAt : Ctr := pur (fun args => (stkA args 0, aI args 1)) (fun x => [.agg [.sl 3 (x.1.map encNode)], .v (.int .i64 x.2)]) (fun x => wfN x.1) (fun d _ => .own d) (fun d x => [(d, .sl 33 2 ((stackAt x.1 x.2).map encFrame))])
section
noncomputable def cxSaS : Cx := { P := Tryz.prog, tys := tys, C := [(77, kStOk)], hty := tysOk, hC := COk.cons cStOkS (COk.nil _) }
theorem cxSaS_t : cxSaS.tys = tys := rfl
theorem cxSaS_c : cxSaS.C = [(77, kStOk)] := rfl
attribute [local go_sem] cxSaS_t cxSaS_c kStOk
theorem cStackAtS : Cn Tryz.prog 84 kStackAt := by
  refine Cn.pur Tryz.func84 (by kernel_rfl) rfl fun d x hx => ?_
  obtain ⟨N, k⟩ := x
  simp only at hx ⊢
  have hN := hx.1
  refine Holds.go (c := cxSaS) Tryz.func84 rfl Tryz.results84 Tryz.ntmps84 (by omega) (by simp) rfl ?_
  intro X0 w0
  (repeat' (first | refine WP.seq ?_ | refine WP.block ?_ | ((first | refine WP.region ?_ | refine WP.condW ?_ | refine WP.ret ?_ | refine WP.exit ?_ | refine WP.skip ?_); simp only [go_sem, tyAll, Nat.reduceAdd, Nat.reduceLT, Nat.reduceLeDiff, Nat.reduceEqDiff, Nat.reduceMul, Nat.reduceSub, Nat.reduceGT, reduceIte, Int.reduceNeg, Int.reduceToNat]) |  refine And.intro ?_ ?_ | intro _))
  all_goals first | omega | exact hx.2 _ ‹_› | skip
  · rename_i h
    have he : stackAt N k = [] := if_neg (fun hc => by
      rcases h with h | h
      · rw [hc.1] at h; cases h
      · omega)
    rw [he]; (first | rfl | exact ⟨rfl, rfl⟩ | exact ⟨rfl, rfl, rfl⟩ | exact ⟨rfl, rfl, rfl, rfl⟩ | exact ⟨rfl, rfl, rfl, rfl, rfl⟩ | exact ⟨⟨rfl, rfl⟩, rfl⟩ | simp)
  rename_i hok'
  obtain ⟨hok, hkl⟩ := hok'
  by_cases hk0 : 0 ≤ k
  · refine WP.prep [] [(6, 5)] rfl ?_
    have hp : stackAt N k = (upF N (k.toNat + 1) k).reverse := if_pos ⟨hok, hk0, by omega⟩
    refine WP.loopP [] [(26, 5)] rfl (fun s : Int × Nat × List Frame => ⟨[(1, .v (.int .i64 s.1)), (2, .ptr 2 0 0 0), (5, .own 5)], [(2, .box 37 [.sl 3 (N.map encNode)]), (5, .sl 33 2 (s.2.2.map encFrame))]⟩)
      (fun s => -1 ≤ s.1 ∧ s.1 < N.length ∧ s.1 < s.2.1 ∧ (upF N s.2.1 s.1).reverse ++ s.2.2 = stackAt N k ∧ s.2.2.length + s.2.1 ≤ N.length) (fun s => (s.1 + 1).toNat) (k, k.toNat + 1, []) ⟨by simp only; omega, by simp only; omega, by simp only; omega, by simp [hp], by simp only [List.length_nil]; omega⟩ ?_ ?_
    · (simp only [go_sem, tyAll, Nat.reduceAdd, Nat.reduceLT, Nat.reduceLeDiff, Nat.reduceEqDiff, Nat.reduceMul, Nat.reduceSub, Nat.reduceGT, reduceIte, Int.reduceNeg, Int.reduceToNat] <;> (first | rfl | exact ⟨rfl, rfl⟩ | exact ⟨rfl, rfl, rfl⟩ | exact ⟨rfl, rfl, rfl, rfl⟩ | exact ⟨rfl, rfl, rfl, rfl, rfl⟩ | exact ⟨⟨rfl, rfl⟩, rfl⟩ | simp))
    rintro ⟨q, f, out⟩ ⟨h0, h1, h2, h3, h4⟩
    simp only at h0 h1 h2 h3 h4 ⊢
    rcases Int.lt_or_le q 0 with hneg | hpos
    · rw [upF_neg N f q hneg] at h3
      have h3 : out = stackAt N k := h3
      (repeat' (first | refine WP.seq ?_ | refine WP.block ?_ | ((first | refine WP.region ?_ | refine WP.condW ?_ | refine WP.ret ?_ | refine WP.exit ?_ | refine WP.skip ?_); simp only [go_sem, tyAll, Nat.reduceAdd, Nat.reduceLT, Nat.reduceLeDiff, Nat.reduceEqDiff, Nat.reduceMul, Nat.reduceSub, Nat.reduceGT, reduceIte, Int.reduceNeg, Int.reduceToNat]) |  refine And.intro ?_ ?_ | intro _))
      all_goals first | omega | skip
      all_goals rw [h3]
    · obtain ⟨q, rfl⟩ := Int.eq_ofNat_of_zero_le hpos
      have hq : q < N.length := by omega
      have h5 := rowAt_map encNode N q hq
      have h6 := stNode_iff.1 (stacksOk_at hok q hq)
      rw [upF_pos N f q hq (by omega)] at h3
      (repeat' (first | refine WP.seq ?_ | refine WP.block ?_ | ((first | refine WP.region ?_ | refine WP.condW ?_ | refine WP.ret ?_ | refine WP.exit ?_ | refine WP.skip ?_); simp only [go_sem, h5, encNode, tyAll, Nat.reduceAdd, Nat.reduceLT, Nat.reduceLeDiff, Nat.reduceEqDiff, Nat.reduceMul, Nat.reduceSub, Nat.reduceGT, reduceIte, Int.reduceNeg, Int.reduceToNat]) |  refine And.intro ?_ ?_ | intro _))
      all_goals first | omega | exact rlFrame ‹_› | skip
      exact ⟨(N[q].parent, f - 1, nodeFr N[q] :: out), ⟨by simp only; omega, by simp only; omega, by simp only; omega, by simp only; rw [← h3]; simp, by simp only [List.length_cons]; omega⟩, by simp only; omega, by (first | rfl | exact ⟨rfl, rfl⟩ | exact ⟨rfl, rfl, rfl⟩ | exact ⟨rfl, rfl, rfl, rfl⟩ | exact ⟨rfl, rfl, rfl, rfl, rfl⟩ | exact ⟨⟨rfl, rfl⟩, rfl⟩ | simp)⟩
  · have hp : stackAt N k = [] := if_neg fun hc => hk0 hc.2.1
    refine WP.loop (fun _ : Unit => ⟨[(1, .v (.int .i64 k)), (5, .own 6)], [(6, .sl 33 2 [])]⟩) (fun _ => True) (fun _ => 0) () trivial ?_ ?_
    · (simp only [go_sem, tyAll, Nat.reduceAdd, Nat.reduceLT, Nat.reduceLeDiff, Nat.reduceEqDiff, Nat.reduceMul, Nat.reduceSub, Nat.reduceGT, reduceIte, Int.reduceNeg, Int.reduceToNat] <;> (first | rfl | exact ⟨rfl, rfl⟩ | exact ⟨rfl, rfl, rfl⟩ | exact ⟨rfl, rfl, rfl, rfl⟩ | exact ⟨rfl, rfl, rfl, rfl, rfl⟩ | exact ⟨⟨rfl, rfl⟩, rfl⟩ | simp))
    intro _ _
    (repeat' (first | refine WP.seq ?_ | refine WP.block ?_ | ((first | refine WP.region ?_ | refine WP.condW ?_ | refine WP.ret ?_ | refine WP.exit ?_ | refine WP.skip ?_); simp only [go_sem, hp, tyAll, Nat.reduceAdd, Nat.reduceLT, Nat.reduceLeDiff, Nat.reduceEqDiff, Nat.reduceMul, Nat.reduceSub, Nat.reduceGT, reduceIte, Int.reduceNeg, Int.reduceToNat]) |  refine And.intro ?_ ?_ | intro _))
    all_goals first | omega | skip
end
section
noncomputable def cxSaI : Cx := { P := Tryz.prog, tys := tys, C := [(79, kStOk), (44, k60)], hty := tysOk, hC := COk.cons cStOkI (COk.cons c60 (COk.nil _)) }
theorem cxSaI_t : cxSaI.tys = tys := rfl
theorem cxSaI_c : cxSaI.C = [(79, kStOk), (44, k60)] := rfl
attribute [local go_sem] cxSaI_t cxSaI_c kStOk k60
theorem cStackAtI : Cn Tryz.prog 68 kStackAt := by
  refine Cn.pur Tryz.func68 (by kernel_rfl) rfl fun d x hx => ?_
  obtain ⟨N, k⟩ := x
  simp only at hx ⊢
  have hN := hx.1
  refine Holds.go (c := cxSaI) Tryz.func68 rfl Tryz.results68 Tryz.ntmps68 (by omega) (by simp) rfl ?_
  intro X0 w0
  (repeat' (first | refine WP.seq ?_ | refine WP.block ?_ | ((first | refine WP.region ?_ | refine WP.condW ?_ | refine WP.ret ?_ | refine WP.exit ?_ | refine WP.skip ?_); simp only [go_sem, tyAll, Nat.reduceAdd, Nat.reduceLT, Nat.reduceLeDiff, Nat.reduceEqDiff, Nat.reduceMul, Nat.reduceSub, Nat.reduceGT, reduceIte, Int.reduceNeg, Int.reduceToNat]) |  refine And.intro ?_ ?_ | intro _))
  all_goals first | omega | exact hx.2 _ ‹_› | skip
  · rename_i h
    have he : stackAt N k = [] := if_neg (fun hc => by
      rcases h with h | h
      · rw [hc.1] at h; cases h
      · omega)
    rw [he]; exact ⟨_, _, rfl⟩
  rename_i hok'
  obtain ⟨hok, hk0, hk1⟩ := hok'
  refine WP.prep [] [(18, 5)] rfl ?_
  have hp : stackAt N k = (upF N (k.toNat + 1) k).reverse := if_pos ⟨hok, hk0, by omega⟩
  refine WP.loopP [] [(33, 5)] rfl (fun s : Int × Nat × List Frame => ⟨[(1, .v (.int .i64 s.1)), (2, .ptr 2 0 0 0), (5, .own 5)], [(2, .box 37 [.sl 3 (N.map encNode)]), (5, .sl 33 2 (s.2.2.map encFrame))]⟩)
    (fun s => -1 ≤ s.1 ∧ s.1 < N.length ∧ s.1 < s.2.1 ∧ (upF N s.2.1 s.1).reverse ++ s.2.2 = stackAt N k ∧ s.2.2.length + s.2.1 ≤ N.length) (fun s => (s.1 + 1).toNat) (k, k.toNat + 1, []) ⟨by simp only; omega, by simp only; omega, by simp only; omega, by simp [hp], by simp only [List.length_nil]; omega⟩ ?_ ?_
  · (simp only [go_sem, tyAll, Nat.reduceAdd, Nat.reduceLT, Nat.reduceLeDiff, Nat.reduceEqDiff, Nat.reduceMul, Nat.reduceSub, Nat.reduceGT, reduceIte, Int.reduceNeg, Int.reduceToNat] <;> (first | rfl | exact ⟨rfl, rfl⟩ | exact ⟨rfl, rfl, rfl⟩ | exact ⟨rfl, rfl, rfl, rfl⟩ | exact ⟨rfl, rfl, rfl, rfl, rfl⟩ | exact ⟨⟨rfl, rfl⟩, rfl⟩ | simp))
  rintro ⟨q, f, out⟩ ⟨h0, h1, h2, h3, h4⟩
  simp only at h0 h1 h2 h3 h4 ⊢
  rcases Int.lt_or_le q 0 with hneg | hpos
  · rw [upF_neg N f q hneg] at h3
    have h3 : out = stackAt N k := h3
    (repeat' (first | refine WP.seq ?_ | refine WP.block ?_ | ((first | refine WP.region ?_ | refine WP.condW ?_ | refine WP.ret ?_ | refine WP.exit ?_ | refine WP.skip ?_); simp only [go_sem, tyAll, Nat.reduceAdd, Nat.reduceLT, Nat.reduceLeDiff, Nat.reduceEqDiff, Nat.reduceMul, Nat.reduceSub, Nat.reduceGT, reduceIte, Int.reduceNeg, Int.reduceToNat]) |  refine And.intro ?_ ?_ | intro _))
    all_goals first | omega | skip
    all_goals rw [h3]
  · obtain ⟨q, rfl⟩ := Int.eq_ofNat_of_zero_le hpos
    have hq : q < N.length := by omega
    have h5 := rowAt_map encNode N q hq
    have h6 := stNode_iff.1 (stacksOk_at hok q hq)
    rw [upF_pos N f q hq (by omega)] at h3
    (repeat' (first | refine WP.seq ?_ | refine WP.block ?_ | ((first | refine WP.region ?_ | refine WP.condW ?_ | refine WP.ret ?_ | refine WP.exit ?_ | refine WP.skip ?_); simp only [go_sem, h5, encNode, tyAll, Nat.reduceAdd, Nat.reduceLT, Nat.reduceLeDiff, Nat.reduceEqDiff, Nat.reduceMul, Nat.reduceSub, Nat.reduceGT, reduceIte, Int.reduceNeg, Int.reduceToNat]) |  refine And.intro ?_ ?_ | intro _))
    all_goals first | omega | exact rlFrame ‹_› | skip
    exact ⟨(N[q].parent, f - 1, nodeFr N[q] :: out), ⟨by simp only; omega, by simp only; omega, by simp only; omega, by simp only; rw [← h3]; simp, by simp only [List.length_cons]; omega⟩, by simp only; omega, by (first | rfl | exact ⟨rfl, rfl⟩ | exact ⟨rfl, rfl, rfl⟩ | exact ⟨rfl, rfl, rfl, rfl⟩ | exact ⟨rfl, rfl, rfl, rfl, rfl⟩ | exact ⟨⟨rfl, rfl⟩, rfl⟩ | simp)⟩
end
end
section
open Go.Vc
set_option linter.unusedSimpArgs false
set_option linter.unusedVariables false
set_option maxHeartbeats 1000000
set_option maxRecDepth 10000
attribute [local irreducible] Go.Vc.WP
attribute [local go_sem] cx0_t cx0_c
def fl23fde0757d : List Go.Vc.Fp := [⟨[1], [], [], [6, 30], [], []⟩, ⟨[27], [0], [], [6, 30], [], []⟩, ⟨[5], [], [], [6, 30], [], []⟩, ⟨[28, 29], [0, 1, 2], [], [6], [], [30]⟩, ⟨[30], [0, 1, 2, 3], [], [6], [], []⟩, ⟨[1], [], [], [6, 30], [], []⟩, ⟨[32], [5], [], [6, 30], [], []⟩, ⟨[5], [], [], [6, 30], [], []⟩, ⟨[33, 34], [5, 6, 7], [], [6, 30], [], []⟩, ⟨[35], [5, 6, 7, 8], [], [6, 30], [], []⟩, ⟨[31, 36], [0, 1, 2, 3, 4, 5, 6, 7, 8, 9], [], [6], [], []⟩, ⟨[], [], [], [30], [], [6]⟩, ⟨[], [0, 1, 2, 3, 4, 5, 6, 7, 8, 9, 10, 11], [], [], [], []⟩]
def fl1c6bae4db1 : List Go.Vc.Fp := [⟨[], [], [], [58, 60, 61], [], [54]⟩, ⟨[3], [], [], [54, 58, 60, 61], [], []⟩, ⟨[7], [], [], [54, 58, 60, 61], [], []⟩, ⟨[55, 56], [1, 2], [], [54, 58, 60, 61], [], []⟩, ⟨[54, 57], [0, 1, 2, 3], [], [60, 61], [54], [58]⟩, ⟨[6], [], [54], [54, 58, 60, 61], [], []⟩, ⟨[59], [5], [54], [54, 58, 61], [], [60]⟩, ⟨[58, 60], [0, 1, 2, 3, 4, 5, 6], [54], [], [58], [61]⟩, ⟨[3], [], [54, 58], [54, 58, 60, 61], [], []⟩, ⟨[7], [], [54, 58], [54, 58, 60, 61], [], []⟩, ⟨[62, 63], [8, 9], [54, 58], [54, 58, 60, 61], [], []⟩, ⟨[], [0, 1, 2, 3, 4, 5, 6, 7, 8, 9, 10], [], [], [], []⟩, ⟨[], [0, 1, 2, 3, 4, 5, 6, 7, 8, 9, 10, 11], [], [], [], []⟩]
attribute [local go_sem] fl23fde0757d fl1c6bae4db1
open Go.Pl
attribute [local go_sem] isV_Node isV_It isV_Entry decNode_enc decFrame_enc oneFrame_enc stkA oneFrame_ab oneNode_abc decI_enc decS_enc aU prA decEntry_enc St.ado St.adoptB St.adoptS rp isNil St.fzS
theorem ins_at {α : Type} {lt : α → α → Bool} {x : α} : ∀ {L : List α} {n : Nat}, n ≤ L.length → (∀ j (hj : j < L.length), j < n → lt L[j] x = true) → (∀ hn : n < L.length, lt L[n] x = false) → ins lt x L = L.take n ++ x :: L.drop n
  | [], n, h1, _, _ => by
    have : n = 0 := by simpa using h1
    subst this; rfl
  | y :: L, 0, _, _, h3 => by
    have := h3 (by simp)
    simp only [List.getElem_cons_zero] at this
    simp [ins, List.takeWhile, List.dropWhile, this]
  | y :: L, n + 1, h1, h2, h3 => by
    have hy := h2 0 (by simp) (by omega)
    simp only [List.getElem_cons_zero] at hy
    have ih := ins_at (lt := lt) (x := x) (L := L) (n := n) (by simpa using h1) (fun j hj hjn => h2 (j + 1) (Nat.succ_lt_succ hj) (by omega)) (fun hn => h3 (Nat.succ_lt_succ hn))
    unfold ins at ih ⊢
    simp only [List.takeWhile_cons, List.dropWhile_cons, hy, if_true, List.cons_append, List.take_succ_cons, List.drop_succ_cons, ih]
def wfQ (x : List Node × List Int) : Prop := (x.1.length ≤ 1099511627776 ∧ ∀ n ∈ x.1, n.name.size ≤ 4194304) ∧ x.2.length ≤ 1099511627776
def kEnt : Ctr := pur (fun args => prA args 0) (fun x => [.agg [.sl 3 (x.1.map encNode), .sl 1 (x.2.map encI)]]) wfQ (fun d _ => .own d) (fun d x => [(d, .sl 79 2 ((entriesOf x.1 x.2).map encEntry))])
theorem wfFr_at (N : List Node) (k : Int) : ∀ f ∈ stackAt N k, f.name.size ≤ 1099511627776 := fun f hf => by
  have h2 := (nameOk_letters (frOk_iff.1 (List.all_eq_true.1 (stackAt_ok N k) f hf)).1).2.2
  omega
/-- the entries found in the first k nodes, sorted -/
def entsK (N : List Node) (C : List Int) (k : Nat) : List Entry := insAll ltE (rawE N C k)
theorem entsK_len (N : List Node) (C : List Int) (k : Nat) : (entsK N C k).length ≤ k := by unfold entsK; rw [insAll_len]; exact rawE_len N C k
theorem entsK_zero (N : List Node) (C : List Int) : entsK N C 0 = [] := rfl
theorem entsK_skip {N : List Node} {C : List Int} {k : Nat} (hk : k < C.length) (h : C[k] = 0) : entsK N C (k + 1) = entsK N C k := by
  unfold entsK
  rw [rawE_succ, show entAt N C k = none from if_pos (by rw [List.getD_eq_getElem?_getD, List.getElem?_eq_getElem hk]; exact h)]
  simp
theorem entsK_new {N : List Node} {C : List Int} {k : Nat} (hk : k < C.length) (h : ¬ C[k] = 0) : entsK N C (k + 1) = ins ltE ⟨fmtF (stackAt N k), C[k]⟩ (entsK N C k) := by
  unfold entsK
  have e : C.getD k 0 = C[k] := by rw [List.getD_eq_getElem?_getD, List.getElem?_eq_getElem hk]; rfl
  rw [rawE_succ, show entAt N C k = some ⟨fmtF (stackAt N k), C[k]⟩ by unfold entAt; rw [e, if_neg h]]
  exact insAll_snoc _ _
section
noncomputable def cxEoS : Cx := { P := Tryz.prog, tys := tys, C := [(39, kPrOk), (84, kStackAt), (83, kFmtF)], hty := tysOk, hC := COk.cons cPrOkS (COk.cons cStackAtS (COk.cons cFmtFS (COk.nil _))) }
theorem cxEoS_t : cxEoS.tys = tys := rfl
theorem cxEoS_c : cxEoS.C = [(39, kPrOk), (84, kStackAt), (83, kFmtF)] := rfl
attribute [local go_sem] cxEoS_t cxEoS_c kPrOk kStackAt kFmtF
theorem cEntS : Cn Tryz.prog 49 kEnt := by
  refine Cn.pur Tryz.func49 (by kernel_rfl) rfl fun d x hx => ?_
  obtain ⟨N, C⟩ := x
  obtain ⟨⟨hN, hs⟩, hC⟩ := hx
  simp only at hN hs hC ⊢
  refine Holds.go (c := cxEoS) Tryz.func49 rfl Tryz.results49 Tryz.ntmps49 (by omega) (by simp) rfl ?_
  intro X0 w0
  (repeat' (first | refine WP.seq ?_ | refine WP.block ?_ | ((first | refine WP.region ?_ | refine WP.condW ?_ | refine WP.ret ?_ | refine WP.exit ?_ | refine WP.skip ?_); simp only [go_sem, tyAll, Nat.reduceAdd, Nat.reduceLT, Nat.reduceLeDiff, Nat.reduceEqDiff, Nat.reduceMul, Nat.reduceSub, Nat.reduceGT, reduceIte, Int.reduceNeg, Int.reduceToNat]) | ((first | refine WP.flowW 12 fl23fde0757d [6, 27, 28, 29, 30, 31, 32, 33, 34, 35, 36, 37] [6, 30] [] (by decide +kernel) (by kernel_rfl) (by kernel_rfl) (by kernel_rfl) ?_ | refine WP.flowZ [3] 11 fl1c6bae4db1 [54, 55, 56, 57, 58, 59, 60, 61, 62, 63, 64] [54, 58, 60, 61] [54, 58] (by decide +kernel) (by kernel_rfl) (by kernel_rfl) (by kernel_rfl) ?_ | refine WP.flowW 11 fl1c6bae4db1 [54, 55, 56, 57, 58, 59, 60, 61, 62, 63, 64] [54, 58, 60, 61] [54, 58] (by decide +kernel) (by kernel_rfl) (by kernel_rfl) (by kernel_rfl) ?_ | refine WP.drawW 14 (by decide +kernel) (by kernel_rfl) ?_); simp only [go_sem, tyAll, Nat.reduceAdd, Nat.reduceLT, Nat.reduceLeDiff, Nat.reduceEqDiff, Nat.reduceMul, Nat.reduceSub, Nat.reduceGT, reduceIte, Int.reduceNeg, Int.reduceToNat]) |  refine And.intro ?_ ?_ | intro _))
  all_goals first | omega | (simp only; omega) | exact Nat.le_trans (hs _ ‹_›) (by omega) | skip
  refine WP.prep [] [(8, 61)] rfl ?_
  refine WP.loop (fun k : Nat => ⟨[(1, .ptr 1 0 0 0), (3, .own 61), (4, .v (.bool (profileOk N C))), (5, .v (.int .i64 k))], [(1, .box 39 [.sl 3 (N.map encNode), .sl 1 (C.map encI)]), (61, .sl 79 2 ((entsK N C k).map encEntry))]⟩)
    (fun k => k ≤ C.length ∧ (profileOk N C = false → k = 0)) (fun k => C.length - k) 0 (by simp) ?_ ?_
  · (simp only [go_sem, tyAll, Nat.reduceAdd, Nat.reduceLT, Nat.reduceLeDiff, Nat.reduceEqDiff, Nat.reduceMul, Nat.reduceSub, Nat.reduceGT, reduceIte, Int.reduceNeg, Int.reduceToNat] <;> (first | rfl | exact ⟨rfl, rfl⟩ | exact ⟨rfl, rfl, rfl⟩ | exact ⟨rfl, rfl, rfl, rfl⟩ | exact ⟨rfl, rfl, rfl, rfl, rfl⟩ | exact ⟨⟨rfl, rfl⟩, rfl⟩ | simp))
  intro k ⟨hk, hk0⟩
  have hlen := entsK_len N C k
  cases hp : profileOk N C with
  | false =>
    have h0 := hk0 hp
    subst h0
    have he : entriesOf N C = [] := if_neg (by rw [hp]; simp)
    (repeat' (first | refine WP.seq ?_ | refine WP.block ?_ | ((first | refine WP.region ?_ | refine WP.condW ?_ | refine WP.ret ?_ | refine WP.exit ?_ | refine WP.skip ?_); simp only [go_sem, he, entsK_zero, tyAll, Nat.reduceAdd, Nat.reduceLT, Nat.reduceLeDiff, Nat.reduceEqDiff, Nat.reduceMul, Nat.reduceSub, Nat.reduceGT, reduceIte, Int.reduceNeg, Int.reduceToNat]) | ((first | refine WP.flowW 12 fl23fde0757d [6, 27, 28, 29, 30, 31, 32, 33, 34, 35, 36, 37] [6, 30] [] (by decide +kernel) (by kernel_rfl) (by kernel_rfl) (by kernel_rfl) ?_ | refine WP.flowZ [3] 11 fl1c6bae4db1 [54, 55, 56, 57, 58, 59, 60, 61, 62, 63, 64] [54, 58, 60, 61] [54, 58] (by decide +kernel) (by kernel_rfl) (by kernel_rfl) (by kernel_rfl) ?_ | refine WP.flowW 11 fl1c6bae4db1 [54, 55, 56, 57, 58, 59, 60, 61, 62, 63, 64] [54, 58, 60, 61] [54, 58] (by decide +kernel) (by kernel_rfl) (by kernel_rfl) (by kernel_rfl) ?_ | refine WP.drawW 14 (by decide +kernel) (by kernel_rfl) ?_); simp only [go_sem, he, entsK_zero, tyAll, Nat.reduceAdd, Nat.reduceLT, Nat.reduceLeDiff, Nat.reduceEqDiff, Nat.reduceMul, Nat.reduceSub, Nat.reduceGT, reduceIte, Int.reduceNeg, Int.reduceToNat]) |  refine And.intro ?_ ?_ | intro _))
    all_goals first | omega | skip
  | true =>
    by_cases hlt : k < C.length
    · have hli : (k : Int) < C.length := by omega
      have h1 := rowAt_map encI C k hlt
      by_cases hz : C[k] = 0
      · have hsk := entsK_skip (N := N) hlt hz
        (repeat' (first | refine WP.seq ?_ | refine WP.block ?_ | ((first | refine WP.region ?_ | refine WP.condW ?_ | refine WP.ret ?_ | refine WP.exit ?_ | refine WP.skip ?_); simp only [go_sem, hli, h1, encI, hz, tyAll, Nat.reduceAdd, Nat.reduceLT, Nat.reduceLeDiff, Nat.reduceEqDiff, Nat.reduceMul, Nat.reduceSub, Nat.reduceGT, reduceIte, Int.reduceNeg, Int.reduceToNat]) | ((first | refine WP.flowW 12 fl23fde0757d [6, 27, 28, 29, 30, 31, 32, 33, 34, 35, 36, 37] [6, 30] [] (by decide +kernel) (by kernel_rfl) (by kernel_rfl) (by kernel_rfl) ?_ | refine WP.flowZ [3] 11 fl1c6bae4db1 [54, 55, 56, 57, 58, 59, 60, 61, 62, 63, 64] [54, 58, 60, 61] [54, 58] (by decide +kernel) (by kernel_rfl) (by kernel_rfl) (by kernel_rfl) ?_ | refine WP.flowW 11 fl1c6bae4db1 [54, 55, 56, 57, 58, 59, 60, 61, 62, 63, 64] [54, 58, 60, 61] [54, 58] (by decide +kernel) (by kernel_rfl) (by kernel_rfl) (by kernel_rfl) ?_ | refine WP.drawW 14 (by decide +kernel) (by kernel_rfl) ?_); simp only [go_sem, hli, h1, encI, hz, tyAll, Nat.reduceAdd, Nat.reduceLT, Nat.reduceLeDiff, Nat.reduceEqDiff, Nat.reduceMul, Nat.reduceSub, Nat.reduceGT, reduceIte, Int.reduceNeg, Int.reduceToNat]) |  refine And.intro ?_ ?_ | intro _))
        all_goals first | omega | skip
        exact ⟨k + 1, by omega, by omega, rfl, by rw [hsk]⟩
      · have hnw := entsK_new (N := N) hlt hz
        have hfr := wfFr_at N k
        have hsl := stackAt_len N k
        (repeat' (first | refine WP.seq ?_ | refine WP.block ?_ | ((first | refine WP.region ?_ | refine WP.condW ?_ | refine WP.ret ?_ | refine WP.exit ?_ | refine WP.skip ?_); simp only [go_sem, hli, h1, encI, hz, tyAll, Nat.reduceAdd, Nat.reduceLT, Nat.reduceLeDiff, Nat.reduceEqDiff, Nat.reduceMul, Nat.reduceSub, Nat.reduceGT, reduceIte, Int.reduceNeg, Int.reduceToNat]) | ((first | refine WP.flowW 12 fl23fde0757d [6, 27, 28, 29, 30, 31, 32, 33, 34, 35, 36, 37] [6, 30] [] (by decide +kernel) (by kernel_rfl) (by kernel_rfl) (by kernel_rfl) ?_ | refine WP.flowZ [3] 11 fl1c6bae4db1 [54, 55, 56, 57, 58, 59, 60, 61, 62, 63, 64] [54, 58, 60, 61] [54, 58] (by decide +kernel) (by kernel_rfl) (by kernel_rfl) (by kernel_rfl) ?_ | refine WP.flowW 11 fl1c6bae4db1 [54, 55, 56, 57, 58, 59, 60, 61, 62, 63, 64] [54, 58, 60, 61] [54, 58] (by decide +kernel) (by kernel_rfl) (by kernel_rfl) (by kernel_rfl) ?_ | refine WP.drawW 14 (by decide +kernel) (by kernel_rfl) ?_); simp only [go_sem, hli, h1, encI, hz, tyAll, Nat.reduceAdd, Nat.reduceLT, Nat.reduceLeDiff, Nat.reduceEqDiff, Nat.reduceMul, Nat.reduceSub, Nat.reduceGT, reduceIte, Int.reduceNeg, Int.reduceToNat]) |  refine And.intro ?_ ?_ | intro _))
        all_goals first | omega | (simp only; omega) | exact Nat.le_trans (hs _ ‹_›) (by omega) | exact hfr _ ‹_› | exact ⟨_, _, _, rfl⟩ | skip
        refine WP.loop (fun q : Nat => ⟨[(1, .ptr 1 0 0 0), (3, .own 61), (4, .v (.bool true)), (5, .v (.int .i64 k)), (6, .ptr 6 0 0 0), (7, .v (.int .i64 q))],
          [(1, .box 39 [.sl 3 (N.map encNode), .sl 1 (C.map encI)]), (6, .box 79 [.v (.string (fmtF (stackAt N k))), .v (.int .i64 C[k])]), (61, .sl 79 2 ((entsK N C k).map encEntry))]⟩)
          (fun q => q ≤ (entsK N C k).length ∧ ∀ j (hj : j < (entsK N C k).length), j < q → ltE (entsK N C k)[j] ⟨fmtF (stackAt N k), C[k]⟩ = true) (fun q => (entsK N C k).length - q) 0 (by simp) ?_ ?_
        · (simp only [go_sem, tyAll, Nat.reduceAdd, Nat.reduceLT, Nat.reduceLeDiff, Nat.reduceEqDiff, Nat.reduceMul, Nat.reduceSub, Nat.reduceGT, reduceIte, Int.reduceNeg, Int.reduceToNat] <;> (first | rfl | exact ⟨rfl, rfl⟩ | exact ⟨rfl, rfl, rfl⟩ | exact ⟨rfl, rfl, rfl, rfl⟩ | exact ⟨rfl, rfl, rfl, rfl, rfl⟩ | exact ⟨⟨rfl, rfl⟩, rfl⟩ | simp))
        intro q ⟨hq, hf⟩
        by_cases hql : q < (entsK N C k).length
        · have hqi : (q : Int) < (entsK N C k).length := by omega
          have h2 := rowAt_map encEntry (entsK N C k) q hql
          cases hl : ltS (entsK N C k)[q].stack (fmtF (stackAt N k)) with
          | true =>
            (repeat' (first | refine WP.seq ?_ | refine WP.block ?_ | ((first | refine WP.region ?_ | refine WP.condW ?_ | refine WP.ret ?_ | refine WP.exit ?_ | refine WP.skip ?_); simp only [go_sem, hqi, h2, encEntry, ltS_def, hl, tyAll, Nat.reduceAdd, Nat.reduceLT, Nat.reduceLeDiff, Nat.reduceEqDiff, Nat.reduceMul, Nat.reduceSub, Nat.reduceGT, reduceIte, Int.reduceNeg, Int.reduceToNat]) | ((first | refine WP.flowW 12 fl23fde0757d [6, 27, 28, 29, 30, 31, 32, 33, 34, 35, 36, 37] [6, 30] [] (by decide +kernel) (by kernel_rfl) (by kernel_rfl) (by kernel_rfl) ?_ | refine WP.flowZ [3] 11 fl1c6bae4db1 [54, 55, 56, 57, 58, 59, 60, 61, 62, 63, 64] [54, 58, 60, 61] [54, 58] (by decide +kernel) (by kernel_rfl) (by kernel_rfl) (by kernel_rfl) ?_ | refine WP.flowW 11 fl1c6bae4db1 [54, 55, 56, 57, 58, 59, 60, 61, 62, 63, 64] [54, 58, 60, 61] [54, 58] (by decide +kernel) (by kernel_rfl) (by kernel_rfl) (by kernel_rfl) ?_ | refine WP.drawW 14 (by decide +kernel) (by kernel_rfl) ?_); simp only [go_sem, hqi, h2, encEntry, ltS_def, hl, tyAll, Nat.reduceAdd, Nat.reduceLT, Nat.reduceLeDiff, Nat.reduceEqDiff, Nat.reduceMul, Nat.reduceSub, Nat.reduceGT, reduceIte, Int.reduceNeg, Int.reduceToNat]) |  refine And.intro ?_ ?_ | intro _))
            all_goals first | omega | skip
            refine ⟨q + 1, ⟨by omega, fun j hj hjq => ?_⟩, by omega, by (first | rfl | exact ⟨rfl, rfl⟩ | exact ⟨rfl, rfl, rfl⟩ | exact ⟨rfl, rfl, rfl, rfl⟩ | exact ⟨rfl, rfl, rfl, rfl, rfl⟩ | exact ⟨⟨rfl, rfl⟩, rfl⟩ | simp)⟩
            rcases Nat.lt_or_ge j q with h | h
            · exact hf j hj h
            · have : j = q := by omega
              subst this; exact hl
          | false =>
            have hin := ins_at (lt := ltE) (x := ⟨fmtF (stackAt N k), C[k]⟩) hq hf (fun _ => hl)
            (repeat' (first | refine WP.seq ?_ | refine WP.block ?_ | ((first | refine WP.region ?_ | refine WP.condW ?_ | refine WP.ret ?_ | refine WP.exit ?_ | refine WP.skip ?_); simp only [go_sem, hqi, h2, encEntry, ltS_def, hl, tyAll, Nat.reduceAdd, Nat.reduceLT, Nat.reduceLeDiff, Nat.reduceEqDiff, Nat.reduceMul, Nat.reduceSub, Nat.reduceGT, reduceIte, Int.reduceNeg, Int.reduceToNat]) | ((first | refine WP.flowW 12 fl23fde0757d [6, 27, 28, 29, 30, 31, 32, 33, 34, 35, 36, 37] [6, 30] [] (by decide +kernel) (by kernel_rfl) (by kernel_rfl) (by kernel_rfl) ?_ | refine WP.flowZ [3] 11 fl1c6bae4db1 [54, 55, 56, 57, 58, 59, 60, 61, 62, 63, 64] [54, 58, 60, 61] [54, 58] (by decide +kernel) (by kernel_rfl) (by kernel_rfl) (by kernel_rfl) ?_ | refine WP.flowW 11 fl1c6bae4db1 [54, 55, 56, 57, 58, 59, 60, 61, 62, 63, 64] [54, 58, 60, 61] [54, 58] (by decide +kernel) (by kernel_rfl) (by kernel_rfl) (by kernel_rfl) ?_ | refine WP.drawW 14 (by decide +kernel) (by kernel_rfl) ?_); simp only [go_sem, hqi, h2, encEntry, ltS_def, hl, tyAll, Nat.reduceAdd, Nat.reduceLT, Nat.reduceLeDiff, Nat.reduceEqDiff, Nat.reduceMul, Nat.reduceSub, Nat.reduceGT, reduceIte, Int.reduceNeg, Int.reduceToNat]) |  refine And.intro ?_ ?_ | intro _))
            all_goals first | omega | exact rlEntry (List.mem_of_mem_take ‹_›) | exact rlEntry (List.mem_of_mem_drop ‹_›) | (simp only [List.length_append, List.length_take, List.length_drop, List.length_map, List.length_cons, List.length_nil]; omega) | skip
            exact ⟨k + 1, by omega, by omega, rfl, by rw [hnw, hin, List.map_append, List.map_cons, List.map_take, List.map_drop]; simp [encEntry]⟩
        · have hqe : ¬ (q : Int) < (entsK N C k).length := by omega
          have hin := ins_at (lt := ltE) (x := ⟨fmtF (stackAt N k), C[k]⟩) hq hf (fun h => absurd h hql)
          have hr0 : Go.Vc.rowAt ((entsK N C k).map encEntry) q = [] := by unfold Go.Vc.rowAt; rw [List.getElem?_eq_none (by rw [List.length_map]; omega)]; rfl
          (repeat' (first | refine WP.seq ?_ | refine WP.block ?_ | ((first | refine WP.region ?_ | refine WP.condW ?_ | refine WP.ret ?_ | refine WP.exit ?_ | refine WP.skip ?_); simp only [go_sem, hqe, hr0, tyAll, Nat.reduceAdd, Nat.reduceLT, Nat.reduceLeDiff, Nat.reduceEqDiff, Nat.reduceMul, Nat.reduceSub, Nat.reduceGT, reduceIte, Int.reduceNeg, Int.reduceToNat]) | ((first | refine WP.flowW 12 fl23fde0757d [6, 27, 28, 29, 30, 31, 32, 33, 34, 35, 36, 37] [6, 30] [] (by decide +kernel) (by kernel_rfl) (by kernel_rfl) (by kernel_rfl) ?_ | refine WP.flowZ [3] 11 fl1c6bae4db1 [54, 55, 56, 57, 58, 59, 60, 61, 62, 63, 64] [54, 58, 60, 61] [54, 58] (by decide +kernel) (by kernel_rfl) (by kernel_rfl) (by kernel_rfl) ?_ | refine WP.flowW 11 fl1c6bae4db1 [54, 55, 56, 57, 58, 59, 60, 61, 62, 63, 64] [54, 58, 60, 61] [54, 58] (by decide +kernel) (by kernel_rfl) (by kernel_rfl) (by kernel_rfl) ?_ | refine WP.drawW 14 (by decide +kernel) (by kernel_rfl) ?_); simp only [go_sem, hqe, hr0, tyAll, Nat.reduceAdd, Nat.reduceLT, Nat.reduceLeDiff, Nat.reduceEqDiff, Nat.reduceMul, Nat.reduceSub, Nat.reduceGT, reduceIte, Int.reduceNeg, Int.reduceToNat]) |  refine And.intro ?_ ?_ | intro _))
          all_goals first | omega | exact rlEntry (List.mem_of_mem_take ‹_›) | exact rlEntry (List.mem_of_mem_drop ‹_›) | (simp only [List.length_append, List.length_take, List.length_drop, List.length_map, List.length_cons, List.length_nil]; omega) | skip
          exact ⟨k + 1, by omega, by omega, rfl, by rw [hnw, hin, List.map_append, List.map_cons, List.map_take, List.map_drop]; simp [encEntry]⟩
    · have hge : ¬ (k : Int) < C.length := by omega
      have he : entriesOf N C = entsK N C C.length := if_pos hp
      (repeat' (first | refine WP.seq ?_ | refine WP.block ?_ | ((first | refine WP.region ?_ | refine WP.condW ?_ | refine WP.ret ?_ | refine WP.exit ?_ | refine WP.skip ?_); simp only [go_sem, hge, he, tyAll, Nat.reduceAdd, Nat.reduceLT, Nat.reduceLeDiff, Nat.reduceEqDiff, Nat.reduceMul, Nat.reduceSub, Nat.reduceGT, reduceIte, Int.reduceNeg, Int.reduceToNat]) | ((first | refine WP.flowW 12 fl23fde0757d [6, 27, 28, 29, 30, 31, 32, 33, 34, 35, 36, 37] [6, 30] [] (by decide +kernel) (by kernel_rfl) (by kernel_rfl) (by kernel_rfl) ?_ | refine WP.flowZ [3] 11 fl1c6bae4db1 [54, 55, 56, 57, 58, 59, 60, 61, 62, 63, 64] [54, 58, 60, 61] [54, 58] (by decide +kernel) (by kernel_rfl) (by kernel_rfl) (by kernel_rfl) ?_ | refine WP.flowW 11 fl1c6bae4db1 [54, 55, 56, 57, 58, 59, 60, 61, 62, 63, 64] [54, 58, 60, 61] [54, 58] (by decide +kernel) (by kernel_rfl) (by kernel_rfl) (by kernel_rfl) ?_ | refine WP.drawW 14 (by decide +kernel) (by kernel_rfl) ?_); simp only [go_sem, hge, he, tyAll, Nat.reduceAdd, Nat.reduceLT, Nat.reduceLeDiff, Nat.reduceEqDiff, Nat.reduceMul, Nat.reduceSub, Nat.reduceGT, reduceIte, Int.reduceNeg, Int.reduceToNat]) |  refine And.intro ?_ ?_ | intro _))
      all_goals first | omega | skip
      rw [show k = C.length by omega]
end
end
section
open Go.Vc
set_option linter.unusedSimpArgs false
set_option linter.unusedVariables false
set_option maxHeartbeats 1000000
set_option maxRecDepth 10000
attribute [local irreducible] Go.Vc.WP
attribute [local go_sem] cx0_t cx0_c
attribute [local go_sem] isV_Node isV_It isV_Entry decNode_enc decFrame_enc oneFrame_enc stkA oneFrame_ab oneNode_abc decI_enc decS_enc aU prA decEntry_enc St.fzS addL behind
theorem allV_map {α : Type} {en : α → List SV} (h : ∀ x, ∀ c ∈ en x, ∃ v, c = .v v) (L : List α) : allV (L.map en) := fun row hr c hc => by
  obtain ⟨x, _, rfl⟩ := List.mem_map.1 hr
  exact h x c hc
theorem allV_Frame (L : List Frame) : allV (L.map encFrame) := allV_map (fun x c hc => by
  simp only [encFrame, List.mem_cons, List.not_mem_nil, or_false] at hc
  rcases hc with rfl | rfl <;> exact ⟨_, rfl⟩) L
theorem allV_Entry (L : List Entry) : allV (L.map encEntry) := allV_map (fun x c hc => by
  simp only [encEntry, List.mem_cons, List.not_mem_nil, or_false] at hc
  rcases hc with rfl | rfl <;> exact ⟨_, rfl⟩) L
/-- what is parsed, to be read only -/
def kParseZ : Ctr := pur (fun args => aS args 0) (fun s => [.v (.string s)]) (fun s => s.size ≤ 2147483648) (fun _ s => .tup [.sl 2 (((parseF s).getD []).map encFrame), .v (.bool (parseF s).isSome)]) (fun _ _ => [])
theorem cParseZS : Cn Tryz.prog 85 kParseZ := Cn.frozenT (fun s => allV_Frame _) cParseFS
def kEntZ : Ctr := pur (fun args => prA args 0) (fun x => [.agg [.sl 3 (x.1.map encNode), .sl 1 (x.2.map encI)]]) wfQ (fun _ x => .sl 2 ((entriesOf x.1 x.2).map encEntry)) (fun _ _ => [])
theorem cEntZS : Cn Tryz.prog 49 kEntZ := Cn.frozen (fun s => allV_Entry _) cEntS
def kIdxF : Ctr := pur (fun args => (decFrame (aR args 0), aS args 1)) (fun x => [.sl 2 (x.1.map encFrame), .v (.string x.2)]) (fun x => x.1.length ≤ 4398046511104) (fun _ x => .v (.int .i64 (idxF x.2 x.1))) (fun _ _ => [])
section
noncomputable def cxIxS : Cx := { P := Tryz.prog, tys := tys, C := [], hty := tysOk, hC := COk.nil _ }
theorem cxIxS_t : cxIxS.tys = tys := rfl
theorem cxIxS_c : cxIxS.C = [] := rfl
attribute [local go_sem] cxIxS_t cxIxS_c 
end
/-- what is known of the entries of a profile -/
theorem ent_sizes {N : List Node} {C : List Int} (hN : N.length ≤ 1048576) {e : Entry} (h : e ∈ entriesOf N C) : e.stack.size ≤ 12582912 ∧ (frsE e).length ≤ 1048576 ∧ ∀ f ∈ frsE e, f.name.size ≤ 8 := by
  have h1 := entriesOf_size h
  obtain ⟨_, _, _, h2, h3⟩ := ent_frs h
  have h4 := (parseF_small h3).2
  exact ⟨by omega, by omega, h4⟩
theorem wfE_filter {N : List Node} {C : List Int} (hN : N.length ≤ 1048576) (hC : C.length ≤ 1048576) (p : Entry → Bool) : wfE ((entriesOf N C).filter p) := by
  have h1 := entriesOf_len N C
  have h2 := List.length_filter_le p (entriesOf N C)
  refine ⟨by omega, fun e he => (ent_sizes hN ((List.mem_filter.1 he).1)).1⟩
theorem wfE_map {N : List Node} {C : List Int} (hN : N.length ≤ 1048576) (hC : C.length ≤ 1048576) {g : List Frame → List Frame} (hg : ∀ L, (g L).length ≤ L.length) : wfE ((entriesOf N C).filterMap (mapG g)) := by
  have h1 := entriesOf_len N C
  have h2 := List.length_filterMap_le (mapG g) (entriesOf N C)
  refine ⟨by omega, fun e he => ?_⟩
  obtain ⟨x, hx, hm⟩ := List.mem_filterMap.1 he
  unfold mapG at hm
  split at hm
  · cases hm
  · cases hm
    have h3 := fmtF_size (g (frsE x))
    have h4 := hg (frsE x)
    have h5 := (ent_sizes hN hx).2.1
    simp only; omega
def pR (d : Nat) : SV := .agg [.own d, .own (d + 1000)]
def kKeep : Ctr := pur (fun args => (prA args 0, aS args 1, aB args 2)) (fun x => [.agg [.sl 3 (x.1.1.map encNode), .sl 1 (x.1.2.map encI)], .v (.string x.2.1), .v (.bool x.2.2)])
  (fun x => (x.1.1.length ≤ 1048576 ∧ ∀ n ∈ x.1.1, n.name.size ≤ 1048576) ∧ x.1.2.length ≤ 1048576) (fun d _ => .agg [.own d, .own (d + 1000)])
  (fun d x => [(d, .sl 132 3 ((mapP (pick x.2.1 x.2.2) x.1.1 x.1.2).1.map encNode)), (d + 1000, .sl 3 1 ((mapP (pick x.2.1 x.2.2) x.1.1 x.1.2).2.map encI))])
section
noncomputable def cxKpS : Cx := { P := Tryz.prog, tys := tys, C := [(49, kEntZ), (85, kParseZ)], hty := tysOk, hC := COk.cons cEntZS (COk.cons cParseZS (COk.nil _)) }
theorem cxKpS_t : cxKpS.tys = tys := rfl
theorem cxKpS_c : cxKpS.C = [(49, kEntZ), (85, kParseZ)] := rfl
attribute [local go_sem] cxKpS_t cxKpS_c kEntZ kParseZ
end
def kFocT : Ctr := pur (fun args => (prA args 0, aS args 1)) (fun x => [.agg [.sl 3 (x.1.1.map encNode), .sl 1 (x.1.2.map encI)], .v (.string x.2)])
  (fun x => (x.1.1.length ≤ 1048576 ∧ ∀ n ∈ x.1.1, n.name.size ≤ 1048576) ∧ x.1.2.length ≤ 1048576) (fun d _ => .agg [.own d, .own (d + 1000)])
  (fun d x => [(d, .sl 132 3 ((mapP (pick x.2 true) x.1.1 x.1.2).1.map encNode)), (d + 1000, .sl 3 1 ((mapP (pick x.2 true) x.1.1 x.1.2).2.map encI))])
def kFocF : Ctr := pur (fun args => (prA args 0, aS args 1)) (fun x => [.agg [.sl 3 (x.1.1.map encNode), .sl 1 (x.1.2.map encI)], .v (.string x.2)])
  (fun x => (x.1.1.length ≤ 1048576 ∧ ∀ n ∈ x.1.1, n.name.size ≤ 1048576) ∧ x.1.2.length ≤ 1048576) (fun d _ => .agg [.own d, .own (d + 1000)])
  (fun d x => [(d, .sl 132 3 ((mapP (pick x.2 false) x.1.1 x.1.2).1.map encNode)), (d + 1000, .sl 3 1 ((mapP (pick x.2 false) x.1.1 x.1.2).2.map encI))])
section
noncomputable def cxFoS : Cx := { P := Tryz.prog, tys := tys, C := [], hty := tysOk, hC := COk.nil _ }
theorem cxFoS_t : cxFoS.tys = tys := rfl
theorem cxFoS_c : cxFoS.C = [] := rfl
attribute [local go_sem] cxFoS_t cxFoS_c 
end
def topP (n : Int) (N : List Node) (C : List Int) : List Node × List Int := if n < 1 then ([], []) else mapP (topF n) N C
def kTop : Ctr := pur (fun args => (prA args 0, aI args 1)) (fun x => [.agg [.sl 3 (x.1.1.map encNode), .sl 1 (x.1.2.map encI)], .v (.int .i64 x.2)])
  (fun x => (x.1.1.length ≤ 1048576 ∧ ∀ n ∈ x.1.1, n.name.size ≤ 1048576) ∧ x.1.2.length ≤ 1048576) (fun d _ => .agg [.own d, .own (d + 1000)])
  (fun d x => [(d, .sl 132 3 ((topP x.2 x.1.1 x.1.2).1.map encNode)), (d + 1000, .sl 3 1 ((topP x.2 x.1.1 x.1.2).2.map encI))])
theorem take_min (n : Int) (L : List Frame) : L.take (if (L.length : Int) < n then (L.length : Int) else n).toNat = topF n L := by
  unfold topF
  split
  · rw [Int.toNat_natCast, List.take_length, List.take_of_length_le (by omega)]
  · rfl
theorem take_enc (m : Nat) (L : List Frame) : (L.map encFrame).take m = (L.take m).map encFrame := List.map_take.symm
theorem wfFr_top {N : List Node} {C : List Int} (hN : N.length ≤ 1048576) {e : Entry} (h : e ∈ entriesOf N C) (n : Int) : ∀ f ∈ topF n (frsE e), f.name.size ≤ 1099511627776 := fun f hf => by
  have := (ent_sizes hN h).2.2 f (List.mem_of_mem_take hf)
  omega
section
noncomputable def cxTpS : Cx := { P := Tryz.prog, tys := tys, C := [(49, kEntZ), (85, kParseZ), (83, kFmtF)], hty := tysOk, hC := COk.cons cEntZS (COk.cons cParseZS (COk.cons cFmtFS (COk.nil _))) }
theorem cxTpS_t : cxTpS.tys = tys := rfl
theorem cxTpS_c : cxTpS.C = [(49, kEntZ), (85, kParseZ), (83, kFmtF)] := rfl
attribute [local go_sem] cxTpS_t cxTpS_c kEntZ kParseZ kFmtF
end
end
section
open Go.Vc
set_option linter.unusedSimpArgs false
set_option linter.unusedVariables false
set_option maxHeartbeats 1000000
set_option maxRecDepth 10000
attribute [local irreducible] Go.Vc.WP
attribute [local go_sem] cx0_t cx0_c
attribute [local go_sem] isV_Node isV_It isV_Entry decNode_enc decFrame_enc oneFrame_enc stkA oneFrame_ab oneNode_abc decI_enc decS_enc aU prA decEntry_enc St.fzS addL behind decU_enc
def kBig : Ctr := pur (fun args => decU (aR args 0)) (fun b => [.sl 1 (b.map encU)]) (fun b => b.length ≤ 9223372036854775807) (fun _ b => .v (.bool (decide (1048576 < (b.length : Int))))) (fun _ _ => [])
section
noncomputable def cxBig : Cx := { P := Tryz.prog, tys := tys, C := [], hty := tysOk, hC := COk.nil _ }
theorem cxBig_t : cxBig.tys = tys := rfl
theorem cxBig_c : cxBig.C = [] := rfl
attribute [local go_sem] cxBig_t cxBig_c 
theorem cBig : Cn Tryz.prog 6 kBig := by
  refine Cn.pur Tryz.func6 (by kernel_rfl) rfl fun d x hx => ?_
  rename List Int => b
  refine Holds.go (c := cxBig) Tryz.func6 rfl Tryz.results6 Tryz.ntmps6 (by omega) (by simp) rfl ?_
  intro X0 w0
  (repeat' (first | refine WP.seq ?_ | refine WP.block ?_ | ((first | refine WP.region ?_ | refine WP.condW ?_ | refine WP.ret ?_ | refine WP.exit ?_ | refine WP.skip ?_); simp only [go_sem, tyAll, Nat.reduceAdd, Nat.reduceLT, Nat.reduceLeDiff, Nat.reduceEqDiff, Nat.reduceMul, Nat.reduceSub, Nat.reduceGT, reduceIte, Int.reduceNeg, Int.reduceToNat]) |  refine And.intro ?_ ?_ | intro _))
  all_goals first | omega | skip
end
def atV (b : List Int) (i : Int) : Int := if b.length = 0 then 0 else b.getD ((i * 5 + 1).tmod b.length).toNat 0
theorem atV_bd {b : List Int} (h : ∀ z ∈ b, 0 ≤ z ∧ z ≤ 255) (i : Int) : 0 ≤ atV b i ∧ atV b i ≤ 255 := by
  unfold atV
  split
  · omega
  · rw [List.getD_eq_getElem?_getD]
    cases hq : b[((i * 5 + 1).tmod b.length).toNat]? with
    | none => simp
    | some z => exact h z (List.mem_of_getElem? hq)
def kAt : Ctr := pur (fun args => (decU (aR args 0), aI args 1)) (fun x => [.sl 1 (x.1.map encU), .v (.int .i64 x.2)]) (fun x => (x.1.length ≤ 1048576 ∧ 0 ≤ x.2 ∧ x.2 ≤ 1000) ∧ ∀ z ∈ x.1, 0 ≤ z ∧ z ≤ 255) (fun _ x => .v (.int .i64 (atV x.1 x.2))) (fun _ _ => [])
section
noncomputable def cxAt : Cx := { P := Tryz.prog, tys := tys, C := [], hty := tysOk, hC := COk.nil _ }
theorem cxAt_t : cxAt.tys = tys := rfl
theorem cxAt_c : cxAt.C = [] := rfl
attribute [local go_sem] cxAt_t cxAt_c 
end
def kDrawZ : Ctr := pur (fun args => decU (aR args 0)) (fun b => [.sl 1 (b.map encU)]) (fun b => b.length ≤ 1048576 ∧ ∀ z ∈ b, 0 ≤ z ∧ z ≤ 255) (fun _ b => .tup [.agg [.sl 3 ((drA b).1.map encNode), .sl 1 ((drA b).2.map encI)], .agg [.sl 3 ((drB b).1.map encNode), .sl 1 ((drB b).2.map encI)]]) (fun _ _ => [])
theorem allV_Node (L : List Node) : allV (L.map encNode) := allV_map (fun x c hc => by
  simp only [encNode, List.mem_cons, List.not_mem_nil, or_false] at hc
  rcases hc with rfl | rfl | rfl <;> exact ⟨_, rfl⟩) L
theorem allV_I (L : List Int) : allV (L.map encI) := allV_map (fun x c hc => by
  simp only [encI, List.mem_cons, List.not_mem_nil, or_false] at hc
  exact ⟨_, hc⟩) L
theorem cDrawZ : Cn Tryz.prog 14 kDrawZ := Cn.frz cDraw (fun d b id e s rows h => by
    have hm := lk_mem h
    simp only [List.mem_cons, List.not_mem_nil, or_false, Prod.mk.injEq, Ob.sl.injEq] at hm
    rcases hm with ⟨_, _, _, rfl⟩ | ⟨_, _, _, rfl⟩ | ⟨_, _, _, rfl⟩ | ⟨_, _, _, rfl⟩
    · exact allV_Node _
    · exact allV_I _
    · exact allV_Node _
    · exact allV_I _) (fun d b => by simp [SV.up, SV.up2, fz1m, lk])
/-! ## the same -/
def sameP (x y : List Node × List Int) : Bool := profileOk x.1 x.2 && profileOk y.1 y.2 && decide (entriesOf x.1 x.2 = entriesOf y.1 y.2)
def kSameE : Ctr := pur (fun args => (decEntry (aR args 0), decEntry (aR args 1))) (fun x => [.sl 2 (x.1.map encEntry), .sl 2 (x.2.map encEntry)]) (fun x => x.1.length ≤ 4398046511104) (fun _ x => .v (.bool (decide (x.1 = x.2)))) (fun _ _ => [])
section
noncomputable def cxSaE : Cx := { P := Tryz.prog, tys := tys, C := [], hty := tysOk, hC := COk.nil _ }
theorem cxSaE_t : cxSaE.tys = tys := rfl
theorem cxSaE_c : cxSaE.C = [] := rfl
attribute [local go_sem] cxSaE_t cxSaE_c 
end
def kSame : Ctr := pur (fun args => (prA args 0, prA args 1)) (fun x => [.agg [.sl 3 (x.1.1.map encNode), .sl 1 (x.1.2.map encI)], .agg [.sl 3 (x.2.1.map encNode), .sl 1 (x.2.2.map encI)]]) (fun x => wfQ x.1 ∧ wfQ x.2)
  (fun _ x => .v (.bool (sameP x.1 x.2))) (fun _ _ => [])
section
noncomputable def cxSaP : Cx := { P := Tryz.prog, tys := tys, C := [(39, kPrOk), (49, kEntZ)], hty := tysOk, hC := COk.cons cPrOkS (COk.cons cEntZS (COk.nil _)) }
theorem cxSaP_t : cxSaP.tys = tys := rfl
theorem cxSaP_c : cxSaP.C = [(39, kPrOk), (49, kEntZ)] := rfl
attribute [local go_sem] cxSaP_t cxSaP_c kPrOk kEntZ
end
end
end Go.Proofs.YtahcfcimfcjhhaaGreatDoor
