/-
  DERIVED. Several texts of ours in one: VtFmt, VtTkOk, VtEx, VtPt, VtPtS, VtPe, VtLnOk, VtPg2I, VtPg2S, VpPrg2.
-/
import Derived.Test.YtdhkhapbldkkdaaGreatDoorVy0
import Derived.Test.YtdhkhapbldkkdaaGreatDoorVy1
import Derived.Test.YtdhkhapbldkkdaaGreatDoorVy2
import Derived.Test.YtdhkhapbldkkdaaGreatDoorVy3
import Derived.Test.YtdhkhapbldkkdaaGreatDoorVy4
import Derived.Test.YtdhkhapbldkkdaaGreatDoorVy5
import Derived.Test.YtdhkhapbldkkdaaGreatDoorVy6
set_option linter.unusedSimpArgs false
set_option linter.unusedVariables false
namespace Go.Proofs.YtdhkhapbldkkdaaGreatDoor
open Go.Vc
attribute [local go_sem] St.runR St.runW St.stepV offV St.step St.stepU St.stepG mkCond guardB St.prK St.pr St.prLen St.eff St.callE St.callD St.callF St.callL aI aS aR aC St.isM St.argL Ctr.pure Ctr.lend Ctr.move Ctr.isL Ctr.wri pur len lentBy St.lentV St.lent1 nthS argsR restOf obsR pairs swapL unObs backL St.resL erL SV.ren1 SV.up SV.up2 Ob.up St.fzL cellIds partIds St.intoRow SV.ownId St.fz SV.fz1 St.prep St.mvL St.mv SV.re1 rnOk St.prEq vals eqCells scEq Value.kd St.prStr St.prCut cutR St.bnd St.prMin St.bld isShift outL retL outJ oR SV.upq SV.isSl SV.shut St.deepK St.dpArg St.deepQ absC Ob.pl St.ev St.get St.put St.new St.kill SV.kill SV.kill1 Ob.kill St.app St.wrt St.rowsOf St.res St.killL lk er argsL SV.strip SV.need SV.share SV.share1 SV.owns SV.owns1 SV.owns2 SV.good SV.good1 SV.rok SV.rok1 SV.rok2 SV.isV SV.isV2 nodupN SV.cells SV.one SV.pur Ob.pb partsIn rowsIn splice cellsAt dstOk scal2 scal1 thenK blockK retK outK outs okC okL okA okT nilC nilL nilA nilT keepC keepL keepA keepT St.runG St.dltK St.least St.clean St.final St.hide offK badS badO SV.refs SV.leaf SV.leaf2 Ob.refs dlOk fpAt Go.Vc.cover tups SV.ofAgg St.out outC subL St.has rng wr Value.oneCell' Option.isSome_some Option.isSome_none List.nil_append Bool.false_eq_true List.map_cons List.map_nil List.all_cons List.all_nil List.length_cons List.length_nil List.drop_zero List.drop_succ_cons List.take_succ_cons List.take_zero List.drop_nil List.take_nil List.getElem?_cons_zero List.getElem?_cons_succ List.getElem?_nil List.cons_append List.nil_append List.append_nil List.append_assoc List.flatMap_cons List.flatMap_nil List.contains_cons List.contains_nil List.set_cons_zero List.set_cons_succ List.getElem?_toArray Option.getD_some Option.getD_none Option.map_some Option.map_none Option.bind_some Option.some.injEq Prod.mk.injEq if_true if_false true_and and_true and_self and_false false_and Bool.and_false Bool.false_and Bool.or_true Bool.true_or Bool.or_false Bool.false_or ne_eq not_true_eq_false not_false_eq_true decide_true decide_false List.mem_cons List.not_mem_nil List.filter_cons List.filter_nil List.any_cons List.any_nil List.isEmpty_nil List.isEmpty_cons Option.getD_none or_false false_or true_or or_true forall_eq_or_imp forall_eq reduceCtorEq exists_eq exists_eq' exists_eq_left' exists_eq_left exists_eq_right exists_eq_right' imp_self implies_true Bool.and_true Bool.true_and Bool.and_self beq_self_eq_true List.replicate_succ List.replicate_zero forall_const false_implies pickB_or pickB_and beqT beqF Int.toNat_natCast List.length_map List.length_replicate ge_iff_le gt_iff_lt decide_eq_true_eq decide_eq_false_iff_not Bool.and_eq_true Bool.or_eq_true Bool.not_eq_true' Bool.not_eq_false' condG List.toList_toArray Bool.or_eq_false_iff Bool.and_eq_false_iff Int.not_lt Int.not_le beq_iff_eq beq_eq_false_iff_ne bne_iff_ne bne_eq_false_iff_eq ne_eq Bool.not_true Bool.not_false exists_and_left Nat.reduceAdd Nat.reduceLT Nat.reduceLeDiff Nat.reduceEqDiff Nat.reduceMul Nat.reduceSub Nat.reduceGT reduceIte Int.reduceNeg Int.reduceToNat
section
open Go.Vc
set_option linter.unusedSimpArgs false
set_option linter.unusedVariables false
set_option maxHeartbeats 1000000
set_option maxRecDepth 10000
attribute [local irreducible] Go.Vc.WP
attribute [local go_sem] cx0_t cx0_c
def fl32661023ff : List Go.Vc.Fp := [⟨[3], [], [], [24], [], []⟩, ⟨[5], [], [], [24], [], []⟩, ⟨[17], [1], [], [24], [], []⟩, ⟨[18], [1, 2], [], [24], [], []⟩, ⟨[5], [], [], [24], [], []⟩, ⟨[20], [4], [], [24], [], []⟩, ⟨[21], [4, 5], [], [24], [], []⟩, ⟨[19, 22], [1, 2, 3, 4, 5, 6], [], [24], [], []⟩, ⟨[23], [1, 2, 3, 4, 5, 6, 7], [], [], [], [24]⟩, ⟨[], [0, 1, 2, 3, 4, 5, 6, 7, 8], [], [], [], []⟩, ⟨[], [0, 1, 2, 3, 4, 5, 6, 7, 8, 9], [], [], [], []⟩]
attribute [local go_sem] fl32661023ff
attribute [local go_sem] decNode_enc decFrame_enc oneFrame_enc stkA oneFrame_ab oneNode_abc decI_enc decS_enc
section
noncomputable def cxFiI : Cx := { P := Tryz.prog, tys := tys, C := [(74, kItoa)], hty := tysOk, hC := COk.cons cItoa (COk.nil _) }
theorem cxFiI_t : cxFiI.tys = tys := rfl
theorem cxFiI_c : cxFiI.C = [(74, kItoa)] := rfl
attribute [local go_sem] cxFiI_t cxFiI_c kItoa
theorem cFmtI : Cn Tryz.prog 33 kFmt := by
  refine Cn.pur Tryz.func33 (by kernel_rfl) rfl fun d x hx => ?_
  refine Holds.go (c := cxFiI) Tryz.func33 rfl Tryz.results33 Tryz.ntmps33 (by omega) (by simp) rfl ?_
  intro X0 w0
  (repeat' (first | refine WP.seq ?_ | refine WP.block ?_ | ((first | refine WP.region ?_ | refine WP.condW ?_ | refine WP.ret ?_ | refine WP.exit ?_ | refine WP.skip ?_); simp only [go_sem, tyAll]) |  refine And.intro ?_ ?_ | intro _))
  all_goals first | omega | skip
end
theorem ba_nil (s : ByteArray) : ⟨#[]⟩ ++ s = s := by
  apply ByteArray.ext
  simp
theorem fmtF_bad {L : List Frame} {k : Nat} (hk : k < L.length) (h : frOk L[k] = false) : fmtF L = ⟨#[]⟩ := by
  unfold fmtF
  rw [if_neg]
  intro ha
  rw [List.all_eq_true] at ha
  rw [ha _ (List.getElem_mem hk)] at h; cases h
theorem frOk_no {f : Frame} (h : frOk f = false) : nameOk f.name = false ∨ f.line < 0 ∨ 59 < f.line := by
  cases hn : nameOk f.name with
  | false => exact .inl rfl
  | true =>
    right
    rcases Int.lt_or_le f.line 0 with h0 | h0
    · exact .inl h0
    · rcases Int.lt_or_le 59 f.line with h1 | h1
      · exact .inr h1
      · rw [frOk_iff.2 ⟨hn, h0, h1⟩] at h; cases h
theorem fmtF_all {L : List Frame} (h : ∀ j (hj : j < L.length), frOk L[j] = true) : fmtF L = bts (joinL 59 (L.map frTxt)) := by
  unfold fmtF
  rw [if_pos]
  rw [List.all_eq_true]
  intro f hf
  obtain ⟨j, hj, rfl⟩ := List.mem_iff_getElem.1 hf
  exact h j hj
theorem joinL_take (L : List Frame) (k : Nat) (hk : k < L.length) : bts (joinL 59 ((L.take (k + 1)).map frTxt)) = (if k = 0 then bts (frTxt L[k]) else bts (joinL 59 ((L.take k).map frTxt)) ++ ⟨#[59]⟩ ++ bts (frTxt L[k])) := by
  rw [List.take_succ_eq_append_getElem hk, List.map_append, List.map_cons, List.map_nil, joinL_snoc]
  by_cases h0 : k = 0
  · subst h0; rw [if_pos (by simp), if_pos rfl]
  · rw [if_neg (by
      intro e
      have := congrArg List.length e
      rw [List.length_map, List.length_take, List.length_nil] at this; omega), if_neg h0, show (⟨#[59]⟩ : ByteArray) = bts [59] from rfl, bts_append, bts_append]
    congr 1
    simp
theorem frTxt_bts (f : Frame) : bts (frTxt f) = f.name ++ ⟨#[58]⟩ ++ bts (fmtL f.line.toNat) := by
  unfold frTxt
  rw [show (58 : UInt8) :: fmtL f.line.toNat = [58] ++ fmtL f.line.toNat from rfl, ← bts_append, ← bts_append, bts_list, ← ByteArray.append_assoc]; rfl
theorem lenJ (L : List Frame) (k : Nat) (hk : k ≤ L.length) (h : ∀ j (hj : j < L.length), j < k → frOk L[j] = true) : (bts (joinL 59 ((L.take k).map frTxt))).size ≤ 12 * k := by
  rw [bts_size]
  have := joinL_len ((L.take k).map frTxt) 11 (fun x hx => by
    obtain ⟨f, hf, rfl⟩ := List.mem_map.1 hx
    rw [List.mem_take_iff_getElem] at hf
    obtain ⟨j, hj, rfl⟩ := hf
    exact (frTxt_len (h j (by omega) (by omega))).2)
  simp only [List.length_map, List.length_take] at this
  omega
def wfFr (L : List Frame) : Prop := L.length ≤ 1099511627776 ∧ ∀ f ∈ L, f.name.size ≤ 1099511627776
def kFmtF : Ctr := pur (fun args => decFrame (aR args 0)) (fun L => [.sl 2 (L.map encFrame)]) (fun L => wfFr L) (fun _ L => .v (.string (fmtF L))) (fun _ _ => [])
section
noncomputable def cxFfS : Cx := { P := Tryz.prog, tys := tys, C := [(94, kNameOk), (57, k60), (26, kFmt)], hty := tysOk, hC := COk.cons cNameOkS (COk.cons c58 (COk.cons cFmtS (COk.nil _))) }
theorem cxFfS_t : cxFfS.tys = tys := rfl
theorem cxFfS_c : cxFfS.C = [(94, kNameOk), (57, k60), (26, kFmt)] := rfl
attribute [local go_sem] cxFfS_t cxFfS_c kNameOk k60 kFmt
theorem cFmtFS : Cn Tryz.prog 109 kFmtF := by
  refine Cn.pur Tryz.func109 (by kernel_rfl) rfl fun d x hx => ?_
  rename List Frame => L
  have hL := hx.1
  refine Holds.go (c := cxFfS) Tryz.func109 rfl Tryz.results109 Tryz.ntmps109 (by omega) (by simp) rfl ?_
  intro X0 w0
  (repeat' (first | refine WP.seq ?_ | refine WP.block ?_ | ((first | refine WP.region ?_ | refine WP.condW ?_ | refine WP.ret ?_ | refine WP.exit ?_ | refine WP.skip ?_); simp only [go_sem, tyAll]) | ((first | refine WP.drawW 15 (by decide +kernel) (by kernel_rfl) ?_); simp only [go_sem, tyAll]) |  refine And.intro ?_ ?_ | intro _))
  refine WP.loop (fun k : Nat => ⟨[(0, .sl 2 (L.map encFrame)), (3, .v (.string (bts (joinL 59 ((L.take k).map frTxt))))), (4, .v (.int .i64 k))], []⟩) (fun k => k ≤ L.length ∧ ∀ j (hj : j < L.length), j < k → frOk L[j] = true) (fun k => L.length - k) 0 (by simp) ?_ ?_
  · have e0 : bts (joinL 59 ((L.take 0).map frTxt)) = ⟨#[]⟩ := rfl
    (simp only [go_sem, e0, tyAll] <;> (first | rfl | exact ⟨rfl, rfl⟩ | exact ⟨rfl, rfl, rfl⟩ | exact ⟨rfl, rfl, rfl, rfl⟩ | exact ⟨rfl, rfl, rfl, rfl, rfl⟩ | exact ⟨⟨rfl, rfl⟩, rfl⟩ | simp))
  intro k ⟨hk, hf⟩
  have hz := lenJ L k hk hf
  by_cases hlt : k < L.length
  · have h1 := rowAt_map encFrame L k hlt
    have hnm := hx.2 _ (List.getElem_mem hlt)
    have hj := joinL_take L k hlt
    rw [frTxt_bts] at hj
    have z58 : ByteArray.size ⟨#[58]⟩ = 1 := rfl
    have z59 : ByteArray.size ⟨#[59]⟩ = 1 := rfl
    cases hok : frOk L[k] with
    | false =>
      have hno := frOk_no hok
      (repeat' (first | refine WP.seq ?_ | refine WP.block ?_ | ((first | refine WP.region ?_ | refine WP.condW ?_ | refine WP.ret ?_ | refine WP.exit ?_ | refine WP.skip ?_); simp only [go_sem, h1, encFrame, tyAll]) | ((first | refine WP.drawW 15 (by decide +kernel) (by kernel_rfl) ?_); simp only [go_sem, h1, encFrame, tyAll]) |  refine And.intro ?_ ?_ | intro _))
      all_goals first | omega | (rw [fmtF_bad hlt hok]) | (exfalso; have hcc : frOk L[k] = true := frOk_iff.2 ‹nameOk L[k].name = true ∧ 0 ≤ L[k].line ∧ L[k].line ≤ 59›; rw [hok] at hcc; cases hcc) | skip
    | true =>
      obtain ⟨g1, g2, g3⟩ := frOk_iff.1 hok
      have g4 := (nameOk_letters g1).2.2
      have g5 : (bts (fmtL L[k].line.toNat)).size ≤ 2 := by rw [bts_size]; exact fmtL_len 2 _ (by omega) (by omega)
      have hnext : ∀ j (hj : j < L.length), j < k + 1 → frOk L[j] = true := fun j hjl hjk => by
        rcases Nat.lt_or_ge j k with hh | hh
        · exact hf j hjl hh
        · have : j = k := by omega
          subst this; exact hok
      have hT0 : k = 0 → bts (joinL 59 ((L.take k).map frTxt)) = ⟨#[]⟩ := fun e => by subst e; rfl
      generalize bts (joinL 59 ((L.take k).map frTxt)) = T at *
      (repeat' (first | refine WP.seq ?_ | refine WP.block ?_ | ((first | refine WP.region ?_ | refine WP.condW ?_ | refine WP.ret ?_ | refine WP.exit ?_ | refine WP.skip ?_); simp only [go_sem, h1, encFrame, g1, g2, g3, ByteArray.size_append, z58, z59, tyAll]) | ((first | refine WP.drawW 15 (by decide +kernel) (by kernel_rfl) ?_); simp only [go_sem, h1, encFrame, g1, g2, g3, ByteArray.size_append, z58, z59, tyAll]) |  refine And.intro ?_ ?_ | intro _))
      all_goals first | omega | skip
      · refine ⟨k + 1, ⟨by omega, hnext⟩, by omega, ?_⟩
        rw [hj, if_neg (by omega), ← ByteArray.append_assoc, ← ByteArray.append_assoc]; (first | rfl | exact ⟨rfl, rfl⟩ | exact ⟨rfl, rfl, rfl⟩ | exact ⟨rfl, rfl, rfl, rfl⟩ | exact ⟨rfl, rfl, rfl, rfl, rfl⟩ | exact ⟨⟨rfl, rfl⟩, rfl⟩ | simp)
      · refine ⟨k + 1, ⟨by omega, hnext⟩, by omega, ?_⟩
        rw [hj, if_pos (by omega), hT0 (by omega), ba_nil]; (first | rfl | exact ⟨rfl, rfl⟩ | exact ⟨rfl, rfl, rfl⟩ | exact ⟨rfl, rfl, rfl, rfl⟩ | exact ⟨rfl, rfl, rfl, rfl, rfl⟩ | exact ⟨⟨rfl, rfl⟩, rfl⟩ | simp)
  · rw [List.take_of_length_le (by omega), ← fmtF_all fun j hj => hf j hj (by omega)]
    (repeat' (first | refine WP.seq ?_ | refine WP.block ?_ | ((first | refine WP.region ?_ | refine WP.condW ?_ | refine WP.ret ?_ | refine WP.exit ?_ | refine WP.skip ?_); simp only [go_sem, tyAll]) | ((first | refine WP.drawW 15 (by decide +kernel) (by kernel_rfl) ?_); simp only [go_sem, tyAll]) |  refine And.intro ?_ ?_ | intro _))
    all_goals first | omega | skip
end
section
noncomputable def cxFfI : Cx := { P := Tryz.prog, tys := tys, C := [(124, kFrOk), (33, kFmt), (77, kJoin)], hty := tysOk, hC := COk.cons cFrOkI (COk.cons cFmtI (COk.cons cJoin (COk.nil _))) }
theorem cxFfI_t : cxFfI.tys = tys := rfl
theorem cxFfI_c : cxFfI.C = [(124, kFrOk), (33, kFmt), (77, kJoin)] := rfl
attribute [local go_sem] cxFfI_t cxFfI_c kFrOk kFmt kJoin
theorem mapData (L : List Frame) (k : Nat) : (((L.take k).map fun f => bts (frTxt f)).map (·.data.toList)) = (L.take k).map frTxt := by
  rw [List.map_map]
  exact List.map_congr_left fun f _ => by simp [bts]
theorem takeS (L : List Frame) (k : Nat) (hk : k < L.length) : ((L.take k).map fun f => bts (frTxt f)).map encS ++ [[SV.v (.string (L[k].name ++ ⟨#[58]⟩ ++ bts (fmtL L[k].line.toNat)))]] = ((L.take (k + 1)).map fun f => bts (frTxt f)).map encS := by
  rw [List.take_succ_eq_append_getElem hk, List.map_append, List.map_append, List.map_cons, List.map_nil, frTxt_bts]; rfl
theorem cFmtFI : Cn Tryz.prog 88 kFmtF := by
  refine Cn.pur Tryz.func88 (by kernel_rfl) rfl fun d x hx => ?_
  rename List Frame => L
  have hL := hx.1
  refine Holds.go (c := cxFfI) Tryz.func88 rfl Tryz.results88 Tryz.ntmps88 (by omega) (by simp) rfl ?_
  intro X0 w0
  (repeat' (first | refine WP.seq ?_ | refine WP.block ?_ | ((first | refine WP.region ?_ | refine WP.condW ?_ | refine WP.ret ?_ | refine WP.exit ?_ | refine WP.skip ?_); simp only [go_sem, tyAll]) | ((first | refine WP.flowW 9 fl32661023ff [16, 17, 18, 19, 20, 21, 22, 23, 24] [24] [] (by decide +kernel) (by kernel_rfl) (by kernel_rfl) (by kernel_rfl) ?_); simp only [go_sem, tyAll]) |  refine And.intro ?_ ?_ | intro _))
  all_goals first | omega | skip
  refine WP.prep [] [(6, 3)] rfl ?_
  refine WP.loop (fun k : Nat => ⟨[(3, .own 3), (7, .sl 2 (L.map encFrame)), (8, .v (.int .i64 L.length)), (9, .v (.int .i64 k))], [(3, .sl 9 1 (((L.take k).map fun f => bts (frTxt f)).map encS))]⟩) (fun k => k ≤ L.length ∧ ∀ j (hj : j < L.length), j < k → frOk L[j] = true) (fun k => L.length - k) 0 (by simp) ?_ ?_
  · (simp only [go_sem, tyAll] <;> (first | rfl | exact ⟨rfl, rfl⟩ | exact ⟨rfl, rfl, rfl⟩ | exact ⟨rfl, rfl, rfl, rfl⟩ | exact ⟨rfl, rfl, rfl, rfl, rfl⟩ | exact ⟨⟨rfl, rfl⟩, rfl⟩ | simp))
  intro k ⟨hk, hf⟩
  have hz := lenJ L k hk hf
  rw [bts_size] at hz
  have hlk : ((L.take k).map fun f => bts (frTxt f)).length = k := by rw [List.length_map, List.length_take]; omega
  by_cases hlt : k < L.length
  · have h1 := rowAt_map encFrame L k hlt
    have hnm := hx.2 _ (List.getElem_mem hlt)
    have htk := takeS L k hlt
    have z58 : ByteArray.size ⟨#[58]⟩ = 1 := rfl
    cases hok : frOk L[k] with
    | false =>
      have hok' : frOk ⟨L[k].name, L[k].line⟩ = false := hok
      (repeat' (first | refine WP.seq ?_ | refine WP.block ?_ | ((first | refine WP.region ?_ | refine WP.condW ?_ | refine WP.ret ?_ | refine WP.exit ?_ | refine WP.skip ?_); simp only [go_sem, h1, encFrame, hok', tyAll]) | ((first | refine WP.flowW 9 fl32661023ff [16, 17, 18, 19, 20, 21, 22, 23, 24] [24] [] (by decide +kernel) (by kernel_rfl) (by kernel_rfl) (by kernel_rfl) ?_); simp only [go_sem, h1, encFrame, hok', tyAll]) |  refine And.intro ?_ ?_ | intro _))
      all_goals first | omega | (rw [fmtF_bad hlt hok]) | skip
    | true =>
      have hok' : frOk ⟨L[k].name, L[k].line⟩ = true := hok
      obtain ⟨g1, g2, g3⟩ := frOk_iff.1 hok
      have g4 := (nameOk_letters g1).2.2
      have g5 : (bts (fmtL L[k].line.toNat)).size ≤ 2 := by rw [bts_size]; exact fmtL_len 2 _ (by omega) (by omega)
      have hnext : ∀ j (hj : j < L.length), j < k + 1 → frOk L[j] = true := fun j hjl hjk => by
        rcases Nat.lt_or_ge j k with hh | hh
        · exact hf j hjl hh
        · have : j = k := by omega
          subst this; exact hok
      (repeat' (first | refine WP.seq ?_ | refine WP.block ?_ | ((first | refine WP.region ?_ | refine WP.condW ?_ | refine WP.ret ?_ | refine WP.exit ?_ | refine WP.skip ?_); simp only [go_sem, h1, encFrame, hok', g2, g3, ByteArray.size_append, z58, hlk, htk, tyAll]) | ((first | refine WP.flowW 9 fl32661023ff [16, 17, 18, 19, 20, 21, 22, 23, 24] [24] [] (by decide +kernel) (by kernel_rfl) (by kernel_rfl) (by kernel_rfl) ?_); simp only [go_sem, h1, encFrame, hok', g2, g3, ByteArray.size_append, z58, hlk, htk, tyAll]) |  refine And.intro ?_ ?_ | intro _))
      all_goals first | omega | skip
      all_goals exact ⟨k + 1, ⟨by omega, hnext⟩, by omega, by (first | rfl | exact ⟨rfl, rfl⟩ | exact ⟨rfl, rfl, rfl⟩ | exact ⟨rfl, rfl, rfl, rfl⟩ | exact ⟨rfl, rfl, rfl, rfl, rfl⟩ | exact ⟨⟨rfl, rfl⟩, rfl⟩ | simp)⟩
  · have hall : fmtF L = bts (joinL 59 (L.map frTxt)) := fmtF_all fun j hj => hf j hj (by omega)
    have hmd := mapData L k
    have h59 : (⟨#[59]⟩ : ByteArray)[0]! = 59 := rfl
    have z59 : ByteArray.size ⟨#[59]⟩ = 1 := rfl
    (repeat' (first | refine WP.seq ?_ | refine WP.block ?_ | ((first | refine WP.region ?_ | refine WP.condW ?_ | refine WP.ret ?_ | refine WP.exit ?_ | refine WP.skip ?_); simp only [go_sem, hlk, hmd, h59, z59, tyAll]) | ((first | refine WP.flowW 9 fl32661023ff [16, 17, 18, 19, 20, 21, 22, 23, 24] [24] [] (by decide +kernel) (by kernel_rfl) (by kernel_rfl) (by kernel_rfl) ?_); simp only [go_sem, hlk, hmd, h59, z59, tyAll]) |  refine And.intro ?_ ?_ | intro _))
    all_goals first | omega | skip
    rw [hall, List.take_of_length_le (by omega)]
end
end
section
open Go.Vc
set_option linter.unusedSimpArgs false
set_option linter.unusedVariables false
set_option maxHeartbeats 1000000
set_option maxRecDepth 10000
attribute [local irreducible] Go.Vc.WP
attribute [local go_sem] cx0_t cx0_c
attribute [local go_sem] decTok_enc
theorem oneTok_f (k n : Int) (s : ByteArray) : oneTok [.v (.int .i64 k), .v (.int .i64 n), .v (.string s)] = ⟨k, n, s⟩ := rfl
attribute [local go_sem] oneTok_f
def smTok (t : Tok) : Prop := t.name.size ≤ 1099511627776
def smToks (L : List Tok) : Prop := L.length ≤ 1048576 ∧ ∀ t ∈ L, smTok t
def kTokOk : Ctr := pur (fun args => oneTok (aC args 0)) (fun x => [.agg [.v (.int .i64 x.kind), .v (.int .i64 x.num), .v (.string x.name)]]) smTok (fun _ x => .v (.bool (tokOk x))) (fun _ _ => [])
def kArity : Ctr := pur (fun args => oneTok (aC args 0)) (fun x => [.agg [.v (.int .i64 x.kind), .v (.int .i64 x.num), .v (.string x.name)]]) smTok (fun _ x => .v (.int .i64 (arity x))) (fun _ _ => [])
def kEnd : Ctr := pur (fun args => (decTok (aR args 0), aI args 1)) (fun x => [.sl 3 (x.1.map encTok), .v (.int .i64 x.2)]) (fun x => smToks x.1) (fun _ x => .v (.int .i64 (exprEnd x.1 x.2))) (fun _ _ => [])
def kExOk : Ctr := pur (fun args => decTok (aR args 0)) (fun x => [.sl 3 (x.map encTok)]) smToks (fun _ x => .v (.bool (exprOk x))) (fun _ _ => [])
def kFmtT : Ctr := pur (fun args => oneTok (aC args 0)) (fun x => [.agg [.v (.int .i64 x.kind), .v (.int .i64 x.num), .v (.string x.name)]]) smTok (fun _ x => .v (.string (fmtTok x))) (fun _ _ => [])
theorem tokOk_0 (n : Int) (s : ByteArray) : tokOk ⟨0, n, s⟩ = (decide (0 ≤ n) && decide (n ≤ 999) && decide (s = ⟨#[]⟩)) := rfl
theorem tokOk_1 (n : Int) (s : ByteArray) : tokOk ⟨1, n, s⟩ = ((n == 0) && nameOk s) := rfl
theorem tokOk_7 (n : Int) (s : ByteArray) : tokOk ⟨7, n, s⟩ = (decide (0 ≤ n) && decide (n ≤ 4) && nameOk s) := rfl
theorem tokOk_o {k n : Int} {s : ByteArray} (h0 : ¬ k = 0) (h1 : ¬ k = 1) (h7 : ¬ k = 7) : tokOk ⟨k, n, s⟩ = (decide (2 ≤ k) && decide (k ≤ 6) && (n == 0) && decide (s = ⟨#[]⟩)) := by
  unfold tokOk; rw [if_neg h0, if_neg h1, if_neg h7]; rfl
section
noncomputable def cxTkI : Cx := { P := Tryz.prog, tys := tys, C := [(41, k60), (116, kNameOk)], hty := tysOk, hC := COk.cons c60 (COk.cons cNameOkI (COk.nil _)) }
theorem cxTkI_t : cxTkI.tys = tys := rfl
theorem cxTkI_c : cxTkI.C = [(41, k60), (116, kNameOk)] := rfl
attribute [local go_sem] cxTkI_t cxTkI_c k60 kNameOk
theorem cTokOkI : Cn Tryz.prog 149 kTokOk := by
  refine Cn.pur Tryz.func149 (by kernel_rfl) rfl fun d x hx => ?_
  obtain ⟨k, n, s⟩ := x
  unfold smTok at hx
  simp only at hx
  refine Holds.go (c := cxTkI) Tryz.func149 rfl Tryz.results149 Tryz.ntmps149 (by omega) (by simp) rfl ?_
  intro X0 w0
  by_cases h0 : k = 0
  · subst h0
    rw [tokOk_0]
    (repeat' (first | refine WP.seq ?_ | refine WP.block ?_ | ((first | refine WP.region ?_ | refine WP.condW ?_ | refine WP.ret ?_ | refine WP.exit ?_ | refine WP.skip ?_); simp only [go_sem, tyAll]) |  refine And.intro ?_ ?_ | intro _))
    all_goals first | omega | skip
  · by_cases h7 : k = 7
    · subst h7
      rw [tokOk_7]
      (repeat' (first | refine WP.seq ?_ | refine WP.block ?_ | ((first | refine WP.region ?_ | refine WP.condW ?_ | refine WP.ret ?_ | refine WP.exit ?_ | refine WP.skip ?_); simp only [go_sem, tyAll]) |  refine And.intro ?_ ?_ | intro _))
      all_goals first | omega | skip
    · by_cases h1 : k = 1
      · subst h1
        rw [tokOk_1]
        (repeat' (first | refine WP.seq ?_ | refine WP.block ?_ | ((first | refine WP.region ?_ | refine WP.condW ?_ | refine WP.ret ?_ | refine WP.exit ?_ | refine WP.skip ?_); simp only [go_sem, tyAll]) |  refine And.intro ?_ ?_ | intro _))
        all_goals first | omega | skip
      · rw [tokOk_o h0 h1 h7]
        (repeat' (first | refine WP.seq ?_ | refine WP.block ?_ | ((first | refine WP.region ?_ | refine WP.condW ?_ | refine WP.ret ?_ | refine WP.exit ?_ | refine WP.skip ?_); simp only [go_sem, h0, h1, h7, tyAll]) |  refine And.intro ?_ ?_ | intro _))
        all_goals first | omega | skip
end
section
noncomputable def cxTkS : Cx := { P := Tryz.prog, tys := tys, C := [(57, k60), (94, kNameOk)], hty := tysOk, hC := COk.cons c58 (COk.cons cNameOkS (COk.nil _)) }
theorem cxTkS_t : cxTkS.tys = tys := rfl
theorem cxTkS_c : cxTkS.C = [(57, k60), (94, kNameOk)] := rfl
attribute [local go_sem] cxTkS_t cxTkS_c k60 kNameOk
theorem cTokOkS : Cn Tryz.prog 144 kTokOk := by
  refine Cn.pur Tryz.func144 (by kernel_rfl) rfl fun d x hx => ?_
  obtain ⟨k, n, s⟩ := x
  unfold smTok at hx
  simp only at hx
  refine Holds.go (c := cxTkS) Tryz.func144 rfl Tryz.results144 Tryz.ntmps144 (by omega) (by simp) rfl ?_
  intro X0 w0
  by_cases h0 : k = 0
  · subst h0
    rw [tokOk_0]
    (repeat' (first | refine WP.seq ?_ | refine WP.block ?_ | ((first | refine WP.region ?_ | refine WP.condW ?_ | refine WP.ret ?_ | refine WP.exit ?_ | refine WP.skip ?_); simp only [go_sem, tyAll]) |  refine And.intro ?_ ?_ | intro _))
    all_goals first | omega | skip
  · by_cases h7 : k = 7
    · subst h7
      rw [tokOk_7]
      (repeat' (first | refine WP.seq ?_ | refine WP.block ?_ | ((first | refine WP.region ?_ | refine WP.condW ?_ | refine WP.ret ?_ | refine WP.exit ?_ | refine WP.skip ?_); simp only [go_sem, tyAll]) |  refine And.intro ?_ ?_ | intro _))
      all_goals first | omega | skip
    · by_cases h1 : k = 1
      · subst h1
        rw [tokOk_1]
        (repeat' (first | refine WP.seq ?_ | refine WP.block ?_ | ((first | refine WP.region ?_ | refine WP.condW ?_ | refine WP.ret ?_ | refine WP.exit ?_ | refine WP.skip ?_); simp only [go_sem, tyAll]) |  refine And.intro ?_ ?_ | intro _))
        all_goals first | omega | skip
      · rw [tokOk_o h0 h1 h7]
        by_cases hr : 0 ≤ k ∧ k ≤ 7
        · have e1 : decide (2 ≤ k) = true := by simp; omega
          have e2 : decide (k ≤ 6) = true := by simp; omega
          have e3 := hr.1
          have e4 := hr.2
          rw [e1, e2]
          (repeat' (first | refine WP.seq ?_ | refine WP.block ?_ | ((first | refine WP.region ?_ | refine WP.condW ?_ | refine WP.ret ?_ | refine WP.exit ?_ | refine WP.skip ?_); simp only [go_sem, h0, h1, h7, e3, e4, tyAll]) |  refine And.intro ?_ ?_ | intro _))
          all_goals first | omega | skip
        · have e : (decide (2 ≤ k) && decide (k ≤ 6)) = false := by simp; omega
          have e3 : (decide (0 ≤ k) && decide (k ≤ 7)) = false := by simp; omega
          rw [e]
          (repeat' (first | refine WP.seq ?_ | refine WP.block ?_ | ((first | refine WP.region ?_ | refine WP.condW ?_ | refine WP.ret ?_ | refine WP.exit ?_ | refine WP.skip ?_); simp only [go_sem, h0, h1, h7, e3, tyAll]) |  refine And.intro ?_ ?_ | intro _))
          all_goals first | omega | skip
end
section
noncomputable def cxArI : Cx := { P := Tryz.prog, tys := tys, C := [(149, kTokOk)], hty := tysOk, hC := COk.cons cTokOkI (COk.nil _) }
theorem cxArI_t : cxArI.tys = tys := rfl
theorem cxArI_c : cxArI.C = [(149, kTokOk)] := rfl
attribute [local go_sem] cxArI_t cxArI_c kTokOk
theorem cArityI : Cn Tryz.prog 174 kArity := by
  refine Cn.pur Tryz.func174 (by kernel_rfl) rfl fun d x hx => ?_
  obtain ⟨k, n, s⟩ := x
  unfold smTok at hx
  simp only at hx
  refine Holds.go (c := cxArI) Tryz.func174 rfl Tryz.results174 Tryz.ntmps174 (by omega) (by simp) rfl ?_
  intro X0 w0
  cases h : tokOk ⟨k, n, s⟩ with
  | false =>
    have e : arity ⟨k, n, s⟩ = -1 := by unfold arity; rw [h]; rfl
    rw [e]
    (repeat' (first | refine WP.seq ?_ | refine WP.block ?_ | ((first | refine WP.region ?_ | refine WP.condW ?_ | refine WP.ret ?_ | refine WP.exit ?_ | refine WP.skip ?_); simp only [go_sem, h, tyAll]) |  refine And.intro ?_ ?_ | intro _))
    all_goals first | omega | exact hx | skip
  | true =>
    have e : arity ⟨k, n, s⟩ = (arN ⟨k, n, s⟩ : Int) := by unfold arity; rw [h]; rfl
    rw [e]
    have hc := tokOk_cases h
    simp only at hc
    by_cases h7 : k = 7
    · have e2 : (arN ⟨k, n, s⟩ : Int) = n := by unfold arN; rw [if_pos h7]; show ((n.toNat : Nat) : Int) = n; omega
      rw [e2]
      subst h7
      (repeat' (first | refine WP.seq ?_ | refine WP.block ?_ | ((first | refine WP.region ?_ | refine WP.condW ?_ | refine WP.ret ?_ | refine WP.exit ?_ | refine WP.skip ?_); simp only [go_sem, h, tyAll]) |  refine And.intro ?_ ?_ | intro _))
      all_goals first | omega | exact hx | skip
    · by_cases h01 : k = 0 ∨ k = 1
      · have e2 : (arN ⟨k, n, s⟩ : Int) = 0 := by unfold arN; rw [if_neg h7, if_pos h01]; rfl
        rw [e2]
        (repeat' (first | refine WP.seq ?_ | refine WP.block ?_ | ((first | refine WP.region ?_ | refine WP.condW ?_ | refine WP.ret ?_ | refine WP.exit ?_ | refine WP.skip ?_); simp only [go_sem, h, h7, h01, tyAll]) |  refine And.intro ?_ ?_ | intro _))
        all_goals first | omega | exact hx | skip
      · have e2 : (arN ⟨k, n, s⟩ : Int) = 2 := by unfold arN; rw [if_neg h7, if_neg h01]; rfl
        rw [e2]
        (repeat' (first | refine WP.seq ?_ | refine WP.block ?_ | ((first | refine WP.region ?_ | refine WP.condW ?_ | refine WP.ret ?_ | refine WP.exit ?_ | refine WP.skip ?_); simp only [go_sem, h, h7, h01, tyAll]) |  refine And.intro ?_ ?_ | intro _))
        all_goals first | omega | exact hx | skip
end
section
noncomputable def cxArS : Cx := { P := Tryz.prog, tys := tys, C := [(144, kTokOk)], hty := tysOk, hC := COk.cons cTokOkS (COk.nil _) }
theorem cxArS_t : cxArS.tys = tys := rfl
theorem cxArS_c : cxArS.C = [(144, kTokOk)] := rfl
attribute [local go_sem] cxArS_t cxArS_c kTokOk
theorem cArityS : Cn Tryz.prog 169 kArity := by
  refine Cn.pur Tryz.func169 (by kernel_rfl) rfl fun d x hx => ?_
  obtain ⟨k, n, s⟩ := x
  unfold smTok at hx
  simp only at hx
  refine Holds.go (c := cxArS) Tryz.func169 rfl Tryz.results169 Tryz.ntmps169 (by omega) (by simp) rfl ?_
  intro X0 w0
  cases h : tokOk ⟨k, n, s⟩ with
  | false =>
    have e : arity ⟨k, n, s⟩ = -1 := by unfold arity; rw [h]; rfl
    rw [e]
    (repeat' (first | refine WP.seq ?_ | refine WP.block ?_ | ((first | refine WP.region ?_ | refine WP.condW ?_ | refine WP.ret ?_ | refine WP.exit ?_ | refine WP.skip ?_); simp only [go_sem, h, tyAll]) |  refine And.intro ?_ ?_ | intro _))
    all_goals first | omega | exact hx | skip
  | true =>
    have e : arity ⟨k, n, s⟩ = (arN ⟨k, n, s⟩ : Int) := by unfold arity; rw [h]; rfl
    rw [e]
    have hc := tokOk_cases h
    simp only at hc
    by_cases h7 : k = 7
    · have e2 : (arN ⟨k, n, s⟩ : Int) = n := by unfold arN; rw [if_pos h7]; show ((n.toNat : Nat) : Int) = n; omega
      rw [e2]
      subst h7
      (repeat' (first | refine WP.seq ?_ | refine WP.block ?_ | ((first | refine WP.region ?_ | refine WP.condW ?_ | refine WP.ret ?_ | refine WP.exit ?_ | refine WP.skip ?_); simp only [go_sem, h, tyAll]) |  refine And.intro ?_ ?_ | intro _))
      all_goals first | omega | exact hx | skip
    · by_cases h01 : k = 0 ∨ k = 1
      · have e2 : (arN ⟨k, n, s⟩ : Int) = 0 := by unfold arN; rw [if_neg h7, if_pos h01]; rfl
        rw [e2]
        (repeat' (first | refine WP.seq ?_ | refine WP.block ?_ | ((first | refine WP.region ?_ | refine WP.condW ?_ | refine WP.ret ?_ | refine WP.exit ?_ | refine WP.skip ?_); simp only [go_sem, h, h7, h01, tyAll]) |  refine And.intro ?_ ?_ | intro _))
        all_goals first | omega | exact hx | skip
      · have e2 : (arN ⟨k, n, s⟩ : Int) = 2 := by unfold arN; rw [if_neg h7, if_neg h01]; rfl
        rw [e2]
        (repeat' (first | refine WP.seq ?_ | refine WP.block ?_ | ((first | refine WP.region ?_ | refine WP.condW ?_ | refine WP.ret ?_ | refine WP.exit ?_ | refine WP.skip ?_); simp only [go_sem, h, h7, h01, tyAll]) |  refine And.intro ?_ ?_ | intro _))
        all_goals first | omega | exact hx | skip
end
theorem op_cut {k : Int} (a : 2 ≤ k) (b : k ≤ 6) : (⟨#[43, 45, 42, 60, 61]⟩ : ByteArray).extract (k - 2).toNat (k - 2 + 1).toNat = bts [opB k] := by
  rcases op_case a b with q | q | q | q | q <;> rw [q] <;> decide
theorem bts_name (s : ByteArray) (l : List UInt8) : s ++ bts l = bts (s.data.toList ++ l) := by
  conv => lhs; rw [← bts_list s]
  rw [bts_append]
theorem b47 : (⟨#[47]⟩ : ByteArray) = bts [47] := rfl
section
noncomputable def cxFtI : Cx := { P := Tryz.prog, tys := tys, C := [(149, kTokOk), (33, kFmt)], hty := tysOk, hC := COk.cons cTokOkI (COk.cons cFmtI (COk.nil _)) }
theorem cxFtI_t : cxFtI.tys = tys := rfl
theorem cxFtI_c : cxFtI.C = [(149, kTokOk), (33, kFmt)] := rfl
attribute [local go_sem] cxFtI_t cxFtI_c kTokOk kFmt
theorem cFmtTI : Cn Tryz.prog 126 kFmtT := by
  refine Cn.pur Tryz.func126 (by kernel_rfl) rfl fun d x hx => ?_
  obtain ⟨k, n, s⟩ := x
  unfold smTok at hx
  simp only at hx
  refine Holds.go (c := cxFtI) Tryz.func126 rfl Tryz.results126 Tryz.ntmps126 (by omega) (by simp) rfl ?_
  intro X0 w0
  cases h : tokOk ⟨k, n, s⟩ with
  | false =>
    have e : fmtTok ⟨k, n, s⟩ = ⟨#[]⟩ := by unfold fmtTok; rw [h]; rfl
    rw [e]
    (repeat' (first | refine WP.seq ?_ | refine WP.block ?_ | ((first | refine WP.region ?_ | refine WP.condW ?_ | refine WP.ret ?_ | refine WP.exit ?_ | refine WP.skip ?_); simp only [go_sem, h, tyAll]) | ((first | refine WP.drawW 7 (by decide +kernel) (by kernel_rfl) ?_); simp only [go_sem, h, tyAll]) |  refine And.intro ?_ ?_ | intro _))
    all_goals first | omega | exact hx | skip
  | true =>
    have e : fmtTok ⟨k, n, s⟩ = bts (tokL ⟨k, n, s⟩) := by unfold fmtTok; rw [h]; rfl
    rw [e]
    rcases tokOk_cases h with ⟨a, b, c, d⟩ | ⟨a, b, c⟩ | ⟨a, b, c, d⟩ | ⟨a, b, c, d⟩
    · simp only at a b c d
      have e2 : tokL ⟨k, n, s⟩ = fmtL n.toNat := by unfold tokL; rw [if_pos a]
      rw [e2]
      subst a
      (repeat' (first | refine WP.seq ?_ | refine WP.block ?_ | ((first | refine WP.region ?_ | refine WP.condW ?_ | refine WP.ret ?_ | refine WP.exit ?_ | refine WP.skip ?_); simp only [go_sem, h, tyAll]) | ((first | refine WP.drawW 7 (by decide +kernel) (by kernel_rfl) ?_); simp only [go_sem, h, tyAll]) |  refine And.intro ?_ ?_ | intro _))
      all_goals first | omega | exact hx | skip
    · simp only at a b c
      have e2 : tokL ⟨k, n, s⟩ = s.data.toList := by subst a; rfl
      rw [e2, bts_list]
      subst a
      (repeat' (first | refine WP.seq ?_ | refine WP.block ?_ | ((first | refine WP.region ?_ | refine WP.condW ?_ | refine WP.ret ?_ | refine WP.exit ?_ | refine WP.skip ?_); simp only [go_sem, h, tyAll]) | ((first | refine WP.drawW 7 (by decide +kernel) (by kernel_rfl) ?_); simp only [go_sem, h, tyAll]) |  refine And.intro ?_ ?_ | intro _))
      all_goals first | omega | exact hx | skip
    · simp only at a b c d
      have e2 : tokL ⟨k, n, s⟩ = s.data.toList ++ 47 :: fmtL n.toNat := by subst a; rfl
      rw [e2]
      subst a
      have hl := fmtL_len 1 n.toNat (by omega) (by omega)
      have hz := bts_size (fmtL n.toNat)
      have hz2 := bts_size (s.data.toList ++ [47])
      have hcc : s ++ (⟨#[47]⟩ : ByteArray) = bts (s.data.toList ++ [47]) := by rw [b47, bts_name]
      have hcd := bts_append (s.data.toList ++ [47]) (fmtL n.toNat)
      have hsl : s.data.toList.length = s.size := by simp
      have hn8 := (nameOk_letters d).2.2
      have hz1 : (⟨#[47]⟩ : ByteArray).size = 1 := rfl
      simp only [List.length_append, List.length_cons, List.length_nil] at hz2
      rw [show s.data.toList ++ 47 :: fmtL n.toNat = s.data.toList ++ [47] ++ fmtL n.toNat by simp]
      (repeat' (first | refine WP.seq ?_ | refine WP.block ?_ | ((first | refine WP.region ?_ | refine WP.condW ?_ | refine WP.ret ?_ | refine WP.exit ?_ | refine WP.skip ?_); simp only [go_sem, h, hcc, hcd, hz, hz1, hz2, tyAll]) | ((first | refine WP.drawW 7 (by decide +kernel) (by kernel_rfl) ?_); simp only [go_sem, h, hcc, hcd, hz, hz1, hz2, tyAll]) |  refine And.intro ?_ ?_ | intro _))
      all_goals first | omega | exact hx | skip
    · simp only at a b c d
      have e2 : tokL ⟨k, n, s⟩ = [opB k] := by unfold tokL; rw [if_neg (show ¬ k = 0 by omega), if_neg (show ¬ k = 1 by omega), if_neg (show ¬ k = 7 by omega)]
      rw [e2]
      have a0 : ¬ k = 0 := by omega
      have a1 : ¬ k = 1 := by omega
      have a7 : ¬ k = 7 := by omega
      have hc := op_cut a b
      have hz : (⟨#[43, 45, 42, 60, 61]⟩ : ByteArray).size = 5 := rfl
      (repeat' (first | refine WP.seq ?_ | refine WP.block ?_ | ((first | refine WP.region ?_ | refine WP.condW ?_ | refine WP.ret ?_ | refine WP.exit ?_ | refine WP.skip ?_); simp only [go_sem, h, a0, a1, a7, hc, hz, tyAll]) | ((first | refine WP.drawW 7 (by decide +kernel) (by kernel_rfl) ?_); simp only [go_sem, h, a0, a1, a7, hc, hz, tyAll]) |  refine And.intro ?_ ?_ | intro _))
      all_goals first | omega | exact hx | skip
end
section
noncomputable def cxFtS : Cx := { P := Tryz.prog, tys := tys, C := [(144, kTokOk), (26, kFmt)], hty := tysOk, hC := COk.cons cTokOkS (COk.cons cFmtS (COk.nil _)) }
theorem cxFtS_t : cxFtS.tys = tys := rfl
theorem cxFtS_c : cxFtS.C = [(144, kTokOk), (26, kFmt)] := rfl
attribute [local go_sem] cxFtS_t cxFtS_c kTokOk kFmt
theorem cFmtTS : Cn Tryz.prog 113 kFmtT := by
  refine Cn.pur Tryz.func113 (by kernel_rfl) rfl fun d x hx => ?_
  obtain ⟨k, n, s⟩ := x
  unfold smTok at hx
  simp only at hx
  refine Holds.go (c := cxFtS) Tryz.func113 rfl Tryz.results113 Tryz.ntmps113 (by omega) (by simp) rfl ?_
  intro X0 w0
  cases h : tokOk ⟨k, n, s⟩ with
  | false =>
    have e : fmtTok ⟨k, n, s⟩ = ⟨#[]⟩ := by unfold fmtTok; rw [h]; rfl
    rw [e]
    (repeat' (first | refine WP.seq ?_ | refine WP.block ?_ | ((first | refine WP.region ?_ | refine WP.condW ?_ | refine WP.ret ?_ | refine WP.exit ?_ | refine WP.skip ?_); simp only [go_sem, h, tyAll]) | ((first | refine WP.drawW 7 (by decide +kernel) (by kernel_rfl) ?_); simp only [go_sem, h, tyAll]) |  refine And.intro ?_ ?_ | intro _))
    all_goals first | omega | exact hx | skip
  | true =>
    have e : fmtTok ⟨k, n, s⟩ = bts (tokL ⟨k, n, s⟩) := by unfold fmtTok; rw [h]; rfl
    rw [e]
    rcases tokOk_cases h with ⟨a, b, c, d⟩ | ⟨a, b, c⟩ | ⟨a, b, c, d⟩ | ⟨a, b, c, d⟩
    · simp only at a b c d
      have e2 : tokL ⟨k, n, s⟩ = fmtL n.toNat := by unfold tokL; rw [if_pos a]
      rw [e2]
      subst a
      (repeat' (first | refine WP.seq ?_ | refine WP.block ?_ | ((first | refine WP.region ?_ | refine WP.condW ?_ | refine WP.ret ?_ | refine WP.exit ?_ | refine WP.skip ?_); simp only [go_sem, h, tyAll]) | ((first | refine WP.drawW 7 (by decide +kernel) (by kernel_rfl) ?_); simp only [go_sem, h, tyAll]) |  refine And.intro ?_ ?_ | intro _))
      all_goals first | omega | exact hx | skip
    · simp only at a b c
      have e2 : tokL ⟨k, n, s⟩ = s.data.toList := by subst a; rfl
      rw [e2, bts_list]
      subst a
      (repeat' (first | refine WP.seq ?_ | refine WP.block ?_ | ((first | refine WP.region ?_ | refine WP.condW ?_ | refine WP.ret ?_ | refine WP.exit ?_ | refine WP.skip ?_); simp only [go_sem, h, tyAll]) | ((first | refine WP.drawW 7 (by decide +kernel) (by kernel_rfl) ?_); simp only [go_sem, h, tyAll]) |  refine And.intro ?_ ?_ | intro _))
      all_goals first | omega | exact hx | skip
    · simp only at a b c d
      have e2 : tokL ⟨k, n, s⟩ = s.data.toList ++ 47 :: fmtL n.toNat := by subst a; rfl
      rw [e2]
      subst a
      have hl := fmtL_len 1 n.toNat (by omega) (by omega)
      have hz := bts_size (fmtL n.toNat)
      have hz2 := bts_size (s.data.toList ++ [47])
      have hcc : s ++ (⟨#[47]⟩ : ByteArray) = bts (s.data.toList ++ [47]) := by rw [b47, bts_name]
      have hcd := bts_append (s.data.toList ++ [47]) (fmtL n.toNat)
      have hsl : s.data.toList.length = s.size := by simp
      have hn8 := (nameOk_letters d).2.2
      have hz1 : (⟨#[47]⟩ : ByteArray).size = 1 := rfl
      simp only [List.length_append, List.length_cons, List.length_nil] at hz2
      rw [show s.data.toList ++ 47 :: fmtL n.toNat = s.data.toList ++ [47] ++ fmtL n.toNat by simp]
      (repeat' (first | refine WP.seq ?_ | refine WP.block ?_ | ((first | refine WP.region ?_ | refine WP.condW ?_ | refine WP.ret ?_ | refine WP.exit ?_ | refine WP.skip ?_); simp only [go_sem, h, hcc, hcd, hz, hz1, hz2, tyAll]) | ((first | refine WP.drawW 7 (by decide +kernel) (by kernel_rfl) ?_); simp only [go_sem, h, hcc, hcd, hz, hz1, hz2, tyAll]) |  refine And.intro ?_ ?_ | intro _))
      all_goals first | omega | exact hx | skip
    · simp only at a b c d
      have e2 : tokL ⟨k, n, s⟩ = [opB k] := by unfold tokL; rw [if_neg (show ¬ k = 0 by omega), if_neg (show ¬ k = 1 by omega), if_neg (show ¬ k = 7 by omega)]
      rw [e2]
      have a0 : ¬ k = 0 := by omega
      have a1 : ¬ k = 1 := by omega
      have a7 : ¬ k = 7 := by omega
      have hc := op_cut a b
      have hz : (⟨#[43, 45, 42, 60, 61]⟩ : ByteArray).size = 5 := rfl
      (repeat' (first | refine WP.seq ?_ | refine WP.block ?_ | ((first | refine WP.region ?_ | refine WP.condW ?_ | refine WP.ret ?_ | refine WP.exit ?_ | refine WP.skip ?_); simp only [go_sem, h, a0, a1, a7, hc, hz, tyAll]) | ((first | refine WP.drawW 7 (by decide +kernel) (by kernel_rfl) ?_); simp only [go_sem, h, a0, a1, a7, hc, hz, tyAll]) |  refine And.intro ?_ ?_ | intro _))
      all_goals first | omega | exact hx | skip
end
end
section
open Go.Vc
set_option linter.unusedSimpArgs false
set_option linter.unusedVariables false
set_option maxHeartbeats 1000000
set_option maxRecDepth 10000
attribute [local irreducible] Go.Vc.WP
attribute [local go_sem] cx0_t cx0_c
attribute [local go_sem] decTok_enc oneTok_f decS_enc St.fzS addL behind St.runO St.stepO
theorem exprEnd_out {L : List Tok} {a : Int} (h : a < 0 ∨ (L.length : Int) ≤ a) : exprEnd L a = -1 := by
  unfold exprEnd
  split
  · rw [List.drop_eq_nil_of_le (by omega), endGo_nil _ (by omega)]
  · rfl
theorem exprEnd_in {L : List Tok} {a : Int} (h : 0 ≤ a) : exprEnd L a = endGo (L.drop a.toNat) 1 a.toNat := if_pos h
theorem endGo_row {L : List Tok} {j n : Nat} (hj : j < L.length) (hn : 0 < n) : endGo (L.drop j) n j = if tokOk L[j] = true then endGo (L.drop (j + 1)) (n - 1 + arN L[j]) (j + 1) else -1 := by
  rw [List.drop_eq_getElem_cons hj]
  split
  · rename_i h; exact endGo_ok hn h
  · rename_i h; exact endGo_bad hn (by simpa using h)
section
noncomputable def cxEnI : Cx := { P := Tryz.prog, tys := tys, C := [(41, k60), (149, kTokOk), (174, kArity)], hty := tysOk, hC := COk.cons c60 (COk.cons cTokOkI (COk.cons cArityI (COk.nil _))) }
theorem cxEnI_t : cxEnI.tys = tys := rfl
theorem cxEnI_c : cxEnI.C = [(41, k60), (149, kTokOk), (174, kArity)] := rfl
attribute [local go_sem] cxEnI_t cxEnI_c k60 kTokOk kArity
theorem cEndI : Cn Tryz.prog 147 kEnd := by
  refine Cn.pur Tryz.func147 (by kernel_rfl) rfl fun d x hx => ?_
  obtain ⟨L, a⟩ := x
  obtain ⟨hL, hs⟩ := hx
  simp only at hL hs ⊢
  refine Holds.go (c := cxEnI) Tryz.func147 rfl Tryz.results147 Tryz.ntmps147 (by omega) (by simp) rfl ?_
  intro X0 w0
  by_cases ha : 0 ≤ a ∧ a ≤ (L.length : Int) - 1
  · have ha0 := ha.1
    have ha1 := ha.2
    rw [exprEnd_in ha0]
    (repeat' (first | refine WP.seq ?_ | refine WP.block ?_ | ((first | refine WP.region ?_ | refine WP.condW ?_ | refine WP.ret ?_ | refine WP.exit ?_ | refine WP.skip ?_); simp only [go_sem, ha0, ha1, tyAll]) |  refine And.intro ?_ ?_ | intro _))
    all_goals first | omega | skip
    refine WP.loop (fun p : Nat × Nat => ⟨[(0, .sl 3 (L.map encTok)), (1, .v (.int .i64 p.1)), (5, .v (.int .i64 p.2))], []⟩) (fun p => p.1 ≤ L.length ∧ p.2 ≤ 4 * p.1 + 1 ∧ endGo (L.drop a.toNat) 1 a.toNat = endGo (L.drop p.1) p.2 p.1) (fun p => L.length - p.1) (a.toNat, 1) ⟨by simp only; omega, by simp only; omega, rfl⟩ ?_ ?_
    · have e : ((a.toNat : Nat) : Int) = a := by omega
      have e1 : ((1 : Nat) : Int) = 1 := rfl
      (simp only [go_sem, e, e1, tyAll] <;> (first | rfl | exact ⟨rfl, rfl⟩ | exact ⟨rfl, rfl, rfl⟩ | exact ⟨rfl, rfl, rfl, rfl⟩ | exact ⟨rfl, rfl, rfl, rfl, rfl⟩ | exact ⟨⟨rfl, rfl⟩, rfl⟩ | simp))
    rintro ⟨j, n⟩ ⟨hj, hn, he⟩
    simp only at hj hn he ⊢
    rw [he]
    by_cases hn0 : 0 < n
    · have hn0i : (0 : Int) < n := by omega
      by_cases hlt : j < L.length
      · have hlti : (j : Int) < L.length := by omega
        have h1 := rowAt_map encTok L j hlt
        have h2 := endGo_row hlt hn0
        have h3 := hs _ (List.getElem_mem hlt)
        rw [h2]
        generalize L[j] = y at h1 h2 h3
        obtain ⟨yk, yn, ys⟩ := y
        rw [encTok] at h1
        simp only at h1
        cases hk : tokOk ⟨yk, yn, ys⟩ with
        | false =>
          rw [if_neg (by simp)]
          (repeat' (first | refine WP.seq ?_ | refine WP.block ?_ | ((first | refine WP.region ?_ | refine WP.condW ?_ | refine WP.ret ?_ | refine WP.exit ?_ | refine WP.skip ?_); simp only [go_sem, h1, hk, hn0i, hlti, tyAll]) |  refine And.intro ?_ ?_ | intro _))
          all_goals first | omega | exact h3 | skip
        | true =>
          have har : arity ⟨yk, yn, ys⟩ = (arN ⟨yk, yn, ys⟩ : Int) := by unfold arity; rw [hk]; rfl
          have hle := arN_le hk
          rw [if_pos rfl]
          (repeat' (first | refine WP.seq ?_ | refine WP.block ?_ | ((first | refine WP.region ?_ | refine WP.condW ?_ | refine WP.ret ?_ | refine WP.exit ?_ | refine WP.skip ?_); simp only [go_sem, h1, hk, hn0i, hlti, har, tyAll]) |  refine And.intro ?_ ?_ | intro _))
          all_goals first | omega | exact h3 | skip
          refine ⟨(j + 1, n - 1 + arN ⟨yk, yn, ys⟩), ⟨by simp only; omega, by simp only; omega, by first | rfl | rw [he, h2, if_pos hk]⟩, by simp only; omega, ?_⟩
          rw [show ((n : Int) + ((arN ⟨yk, yn, ys⟩ : Int) - 1)) = ((n - 1 + arN ⟨yk, yn, ys⟩ : Nat) : Int) by omega, show ((j : Int) + 1) = ((j + 1 : Nat) : Int) by omega]
          (first | rfl | exact ⟨rfl, rfl⟩ | exact ⟨rfl, rfl, rfl⟩ | exact ⟨rfl, rfl, rfl, rfl⟩ | exact ⟨rfl, rfl, rfl, rfl, rfl⟩ | exact ⟨⟨rfl, rfl⟩, rfl⟩ | simp)
      · have hge : ¬ (j : Int) < L.length := by omega
        have e : endGo (L.drop j) n j = -1 := by rw [List.drop_eq_nil_of_le (by omega), endGo_nil _ hn0]
        rw [e]
        have h0 : lk 0 tys = none := rfl
        have hro : Go.Vc.rowAt (L.map encTok) j = [] := by unfold Go.Vc.rowAt; rw [List.getElem?_eq_none (by rw [List.length_map]; omega)]; rfl
        have hle : (L.length : Int) ≤ j := by omega
        (repeat' (first | (refine WP.regionO (id := 6) ?_; simp only [go_sem, hn0i, hle, h0, hro, tyAll]) | refine WP.seq ?_ | refine WP.block ?_ | ((first | refine WP.region ?_ | refine WP.condW ?_ | refine WP.ret ?_ | refine WP.exit ?_ | refine WP.skip ?_); simp only [go_sem, hn0i, hle, h0, hro, tyAll]) |  refine And.intro ?_ ?_ | intro _))
        all_goals first | omega | skip
    · have hn1 : n = 0 := by omega
      subst hn1
      rw [endGo_zero]
      (repeat' (first | refine WP.seq ?_ | refine WP.block ?_ | ((first | refine WP.region ?_ | refine WP.condW ?_ | refine WP.ret ?_ | refine WP.exit ?_ | refine WP.skip ?_); simp only [go_sem, tyAll]) |  refine And.intro ?_ ?_ | intro _))
      all_goals first | omega | skip
  · rw [exprEnd_out (by omega)]
    have hb : (decide (0 ≤ a) && decide (a ≤ (L.length : Int) - 1)) = false := by simp; omega
    (repeat' (first | refine WP.seq ?_ | refine WP.block ?_ | ((first | refine WP.region ?_ | refine WP.condW ?_ | refine WP.ret ?_ | refine WP.exit ?_ | refine WP.skip ?_); simp only [go_sem, hb, tyAll]) |  refine And.intro ?_ ?_ | intro _))
    all_goals first | omega | skip
end
section
noncomputable def cxEnS : Cx := { P := Tryz.prog, tys := tys, C := [(144, kTokOk), (169, kArity)], hty := tysOk, hC := COk.cons cTokOkS (COk.cons cArityS (COk.nil _)) }
theorem cxEnS_t : cxEnS.tys = tys := rfl
theorem cxEnS_c : cxEnS.C = [(144, kTokOk), (169, kArity)] := rfl
attribute [local go_sem] cxEnS_t cxEnS_c kTokOk kArity
theorem cEndS : Cn Tryz.prog 140 kEnd := by
  refine Cn.pur Tryz.func140 (by kernel_rfl) rfl fun d x hx => ?_
  obtain ⟨L, a⟩ := x
  obtain ⟨hL, hs⟩ := hx
  simp only at hL hs ⊢
  refine Holds.go (c := cxEnS) Tryz.func140 rfl Tryz.results140 Tryz.ntmps140 (by omega) (by simp) rfl ?_
  intro X0 w0
  by_cases ha0 : 0 ≤ a
  · have hna : ¬ a < 0 := by omega
    rw [exprEnd_in ha0]
    (repeat' (first | refine WP.seq ?_ | refine WP.block ?_ | ((first | refine WP.region ?_ | refine WP.condW ?_ | refine WP.ret ?_ | refine WP.exit ?_ | refine WP.skip ?_); simp only [go_sem, hna, tyAll]) |  refine And.intro ?_ ?_ | intro _))
    all_goals first | omega | skip
    refine WP.loop (fun p : Nat × Nat => ⟨[(0, .sl 3 (L.map encTok)), (1, .v (.int .i64 p.1)), (5, .v (.int .i64 p.2))], []⟩) (fun p => (p.2 = 1 ∨ p.1 ≤ L.length) ∧ p.2 ≤ 4 * p.1 + 1 ∧ endGo (L.drop a.toNat) 1 a.toNat = endGo (L.drop p.1) p.2 p.1) (fun p => L.length - p.1) (a.toNat, 1) ⟨.inl rfl, by simp only; omega, rfl⟩ ?_ ?_
    · have e : ((a.toNat : Nat) : Int) = a := by omega
      have e1 : ((1 : Nat) : Int) = 1 := rfl
      (simp only [go_sem, e, e1, tyAll] <;> (first | rfl | exact ⟨rfl, rfl⟩ | exact ⟨rfl, rfl, rfl⟩ | exact ⟨rfl, rfl, rfl, rfl⟩ | exact ⟨rfl, rfl, rfl, rfl, rfl⟩ | exact ⟨⟨rfl, rfl⟩, rfl⟩ | simp))
    rintro ⟨j, n⟩ ⟨hj, hn, he⟩
    simp only at hj hn he ⊢
    rw [he]
    by_cases hn0 : 0 < n
    · have hn0i : (0 : Int) < n := by omega
      by_cases hlt : j < L.length
      · have hlti : (j : Int) < L.length := by omega
        have h1 := rowAt_map encTok L j hlt
        have h2 := endGo_row hlt hn0
        have h3 := hs _ (List.getElem_mem hlt)
        rw [h2]
        generalize L[j] = y at h1 h2 h3
        obtain ⟨yk, yn, ys⟩ := y
        rw [encTok] at h1
        simp only at h1
        cases hk : tokOk ⟨yk, yn, ys⟩ with
        | false =>
          rw [if_neg (by simp)]
          (repeat' (first | refine WP.seq ?_ | refine WP.block ?_ | ((first | refine WP.region ?_ | refine WP.condW ?_ | refine WP.ret ?_ | refine WP.exit ?_ | refine WP.skip ?_); simp only [go_sem, h1, hk, hn0i, hlti, tyAll]) |  refine And.intro ?_ ?_ | intro _))
          all_goals first | omega | exact h3 | skip
        | true =>
          have har : arity ⟨yk, yn, ys⟩ = (arN ⟨yk, yn, ys⟩ : Int) := by unfold arity; rw [hk]; rfl
          have hle := arN_le hk
          rw [if_pos rfl]
          (repeat' (first | refine WP.seq ?_ | refine WP.block ?_ | ((first | refine WP.region ?_ | refine WP.condW ?_ | refine WP.ret ?_ | refine WP.exit ?_ | refine WP.skip ?_); simp only [go_sem, h1, hk, hn0i, hlti, har, tyAll]) |  refine And.intro ?_ ?_ | intro _))
          all_goals first | omega | exact h3 | skip
          refine ⟨(j + 1, n - 1 + arN ⟨yk, yn, ys⟩), ⟨.inr (by simp only; omega), by simp only; omega, by first | rfl | rw [he, h2, if_pos hk]⟩, by simp only; omega, ?_⟩
          rw [show ((n : Int) - 1 + (arN ⟨yk, yn, ys⟩ : Int)) = ((n - 1 + arN ⟨yk, yn, ys⟩ : Nat) : Int) by omega, show ((j : Int) + 1) = ((j + 1 : Nat) : Int) by omega]
          (first | rfl | exact ⟨rfl, rfl⟩ | exact ⟨rfl, rfl, rfl⟩ | exact ⟨rfl, rfl, rfl, rfl⟩ | exact ⟨rfl, rfl, rfl, rfl, rfl⟩ | exact ⟨⟨rfl, rfl⟩, rfl⟩ | simp)
      · have hge : ¬ (j : Int) < L.length := by omega
        have e : endGo (L.drop j) n j = -1 := by rw [List.drop_eq_nil_of_le (by omega), endGo_nil _ hn0]
        rw [e]
        have h0 : lk 0 tys = none := rfl
        have hro : Go.Vc.rowAt (L.map encTok) j = [] := by unfold Go.Vc.rowAt; rw [List.getElem?_eq_none (by rw [List.length_map]; omega)]; rfl
        have hle : (L.length : Int) ≤ j := by omega
        (repeat' (first | (refine WP.regionO (id := 6) ?_; simp only [go_sem, hn0i, hle, h0, hro, tyAll]) | refine WP.seq ?_ | refine WP.block ?_ | ((first | refine WP.region ?_ | refine WP.condW ?_ | refine WP.ret ?_ | refine WP.exit ?_ | refine WP.skip ?_); simp only [go_sem, hn0i, hle, h0, hro, tyAll]) |  refine And.intro ?_ ?_ | intro _))
        all_goals first | omega | skip
    · have hn1 : n = 0 := by omega
      subst hn1
      rw [endGo_zero]
      (repeat' (first | refine WP.seq ?_ | refine WP.block ?_ | ((first | refine WP.region ?_ | refine WP.condW ?_ | refine WP.ret ?_ | refine WP.exit ?_ | refine WP.skip ?_); simp only [go_sem, tyAll]) |  refine And.intro ?_ ?_ | intro _))
      all_goals first | omega | skip
  · rw [exprEnd_out (by omega)]
    have hna : a < 0 := by omega
    (repeat' (first | refine WP.seq ?_ | refine WP.block ?_ | ((first | refine WP.region ?_ | refine WP.condW ?_ | refine WP.ret ?_ | refine WP.exit ?_ | refine WP.skip ?_); simp only [go_sem, hna, tyAll]) |  refine And.intro ?_ ?_ | intro _))
    all_goals first | omega | skip
end
theorem exprOk_eq (L : List Tok) : exprOk L = (decide ((L.length : Int) ≤ 20) && decide ((0 : Int) < L.length) && (exprEnd L 0 == (L.length : Int))) := by
  rw [Bool.eq_iff_iff, exprOk_iff]
  simp only [Bool.and_eq_true, decide_eq_true_eq, beq_iff_eq, ← List.length_pos_iff]
  omega
section
noncomputable def cxEoI : Cx := { P := Tryz.prog, tys := tys, C := [(147, kEnd)], hty := tysOk, hC := COk.cons cEndI (COk.nil _) }
theorem cxEoI_t : cxEoI.tys = tys := rfl
theorem cxEoI_c : cxEoI.C = [(147, kEnd)] := rfl
attribute [local go_sem] cxEoI_t cxEoI_c kEnd
theorem cExOkI : Cn Tryz.prog 119 kExOk := by
  refine Cn.pur Tryz.func119 (by kernel_rfl) rfl fun d x hx => ?_
  rename List Tok => L
  have hL := hx.1
  refine Holds.go (c := cxEoI) Tryz.func119 rfl Tryz.results119 Tryz.ntmps119 (by omega) (by simp) rfl ?_
  intro X0 w0
  rw [exprOk_eq]
  (repeat' (first | refine WP.seq ?_ | refine WP.block ?_ | ((first | refine WP.region ?_ | refine WP.condW ?_ | refine WP.ret ?_ | refine WP.exit ?_ | refine WP.skip ?_); simp only [go_sem, tyAll]) |  refine And.intro ?_ ?_ | intro _))
  all_goals first | omega | exact hx | exact hx.2 _ ‹_› | skip
end
section
noncomputable def cxEoS : Cx := { P := Tryz.prog, tys := tys, C := [(140, kEnd)], hty := tysOk, hC := COk.cons cEndS (COk.nil _) }
theorem cxEoS_t : cxEoS.tys = tys := rfl
theorem cxEoS_c : cxEoS.C = [(140, kEnd)] := rfl
attribute [local go_sem] cxEoS_t cxEoS_c kEnd
theorem cExOkS : Cn Tryz.prog 96 kExOk := by
  refine Cn.pur Tryz.func96 (by kernel_rfl) rfl fun d x hx => ?_
  rename List Tok => L
  have hL := hx.1
  refine Holds.go (c := cxEoS) Tryz.func96 rfl Tryz.results96 Tryz.ntmps96 (by omega) (by simp) rfl ?_
  intro X0 w0
  rw [exprOk_eq, Bool.and_comm (decide ((L.length : Int) ≤ 20))]
  (repeat' (first | refine WP.seq ?_ | refine WP.block ?_ | ((first | refine WP.region ?_ | refine WP.condW ?_ | refine WP.ret ?_ | refine WP.exit ?_ | refine WP.skip ?_); simp only [go_sem, tyAll]) |  refine And.intro ?_ ?_ | intro _))
  all_goals first | omega | exact hx | exact hx.2 _ ‹_› | skip
end
def kFmtE : Ctr := pur (fun args => decTok (aR args 0)) (fun x => [.sl 3 (x.map encTok)]) smToks (fun _ x => .v (.string (fmtExpr x))) (fun _ _ => [])
theorem fmtTok_ok {t : Tok} (h : tokOk t = true) : fmtTok t = bts (tokL t) := by unfold fmtTok; rw [if_pos h]
theorem fmtExpr_bad {L : List Tok} (h : exprOk L = false) : fmtExpr L = ⟨#[]⟩ := by unfold fmtExpr; rw [h]; rfl
theorem fmtExpr_ok {L : List Tok} (h : exprOk L = true) : fmtExpr L = bts (joinL 32 (L.map tokL)) := by unfold fmtExpr; rw [if_pos h]
theorem joinT_len {L : List Tok} (h : ∀ t ∈ L, tokOk t = true) (k : Nat) : (joinL 32 ((L.take k).map tokL)).length ≤ 11 * L.length := by
  have := joinL_len' 32 ((L.take k).map tokL) 10 fun x hx => by
    obtain ⟨t, ht, rfl⟩ := List.mem_map.1 hx
    exact (tokL_chars (h t (List.mem_of_mem_take ht))).2.2
  simp only [List.length_map, List.length_take] at this
  omega
theorem joinT_take (L : List Tok) (k : Nat) (hk : k < L.length) : bts (joinL 32 ((L.take (k + 1)).map tokL)) = (if k = 0 then bts (tokL L[k]) else bts (joinL 32 ((L.take k).map tokL)) ++ ⟨#[32]⟩ ++ bts (tokL L[k])) := by
  rw [List.take_succ_eq_append_getElem hk, List.map_append, List.map_cons, List.map_nil, joinL_snoc]
  by_cases h0 : k = 0
  · subst h0; rw [if_pos (by simp), if_pos rfl]
  · rw [if_neg (by
      intro e
      have := congrArg List.length e
      rw [List.length_map, List.length_take, List.length_nil] at this; omega), if_neg h0, show (⟨#[32]⟩ : ByteArray) = bts [32] from rfl, bts_append, bts_append]
    congr 1
    simp
theorem mapT (L : List Tok) (k : Nat) : (((L.take k).map fun t => bts (tokL t)).map (·.data.toList)) = (L.take k).map tokL := by
  rw [List.map_map]
  exact List.map_congr_left fun f _ => by simp [bts]
theorem takeT (L : List Tok) (k : Nat) (hk : k < L.length) : ((L.take k).map fun t => bts (tokL t)).map encS ++ [[SV.v (.string (bts (tokL L[k])))]] = ((L.take (k + 1)).map fun t => bts (tokL t)).map encS := by
  rw [List.take_succ_eq_append_getElem hk, List.map_append, List.map_append, List.map_cons, List.map_nil]; rfl
section
noncomputable def cxFeI : Cx := { P := Tryz.prog, tys := tys, C := [(119, kExOk), (126, kFmtT), (77, kJoin)], hty := tysOk, hC := COk.cons cExOkI (COk.cons cFmtTI (COk.cons cJoin (COk.nil _))) }
theorem cxFeI_t : cxFeI.tys = tys := rfl
theorem cxFeI_c : cxFeI.C = [(119, kExOk), (126, kFmtT), (77, kJoin)] := rfl
attribute [local go_sem] cxFeI_t cxFeI_c kExOk kFmtT kJoin
theorem cFmtEI : Cn Tryz.prog 76 kFmtE := by
  refine Cn.pur Tryz.func76 (by kernel_rfl) rfl fun d x hx => ?_
  rename List Tok => L
  have hL := hx.1
  refine Holds.go (c := cxFeI) Tryz.func76 rfl Tryz.results76 Tryz.ntmps76 (by omega) (by simp) rfl ?_
  intro X0 w0
  cases hok : exprOk L with
  | false =>
    rw [fmtExpr_bad hok]
    (repeat' (first | refine WP.seq ?_ | refine WP.block ?_ | ((first | refine WP.region ?_ | refine WP.condW ?_ | refine WP.ret ?_ | refine WP.exit ?_ | refine WP.skip ?_); simp only [go_sem, hok, tyAll]) |  refine And.intro ?_ ?_ | intro _))
    all_goals first | omega | exact hx | exact hx.2 _ ‹_› | skip
  | true =>
    have hT := exprOk_toks hok
    have hl20 := (exprOk_iff.1 hok).1
    rw [fmtExpr_ok hok]
    (repeat' (first | refine WP.seq ?_ | refine WP.block ?_ | ((first | refine WP.region ?_ | refine WP.condW ?_ | refine WP.ret ?_ | refine WP.exit ?_ | refine WP.skip ?_); simp only [go_sem, hok, tyAll]) |  refine And.intro ?_ ?_ | intro _))
    all_goals first | omega | exact hx | exact hx.2 _ ‹_› | skip
    refine WP.prep [] [(9, 3)] rfl ?_
    refine WP.loop (fun k : Nat => ⟨[(3, .own 3), (10, .sl 3 (L.map encTok)), (11, .v (.int .i64 L.length)), (12, .v (.int .i64 k))], [(3, .sl 9 1 (((L.take k).map fun t => bts (tokL t)).map encS))]⟩) (fun k => k ≤ L.length) (fun k => L.length - k) 0 (by simp) ?_ ?_
    · (simp only [go_sem, tyAll] <;> (first | rfl | exact ⟨rfl, rfl⟩ | exact ⟨rfl, rfl, rfl⟩ | exact ⟨rfl, rfl, rfl, rfl⟩ | exact ⟨rfl, rfl, rfl, rfl, rfl⟩ | exact ⟨⟨rfl, rfl⟩, rfl⟩ | simp))
    intro k hk
    have hlk : ((L.take k).map fun t => bts (tokL t)).length = k := by rw [List.length_map, List.length_take]; omega
    by_cases hlt : k < L.length
    · have hlti : (k : Int) < L.length := by omega
      have h1 := rowAt_map encTok L k hlt
      have htk := takeT L k hlt
      have hf := fmtTok_ok (hT _ (List.getElem_mem hlt))
      have h3 := hx.2 _ (List.getElem_mem hlt)
      generalize L[k] = y at h1 htk hf h3
      obtain ⟨yk, yn, ys⟩ := y
      rw [encTok] at h1
      simp only at h1
      (repeat' (first | refine WP.seq ?_ | refine WP.block ?_ | ((first | refine WP.region ?_ | refine WP.condW ?_ | refine WP.ret ?_ | refine WP.exit ?_ | refine WP.skip ?_); simp only [go_sem, h1, hlti, hf, hlk, tyAll]) |  refine And.intro ?_ ?_ | intro _))
      all_goals first | omega | exact h3 | exact ⟨k + 1, by omega, by omega, by rw [htk]; (first | rfl | exact ⟨rfl, rfl⟩ | exact ⟨rfl, rfl, rfl⟩ | exact ⟨rfl, rfl, rfl, rfl⟩ | exact ⟨rfl, rfl, rfl, rfl, rfl⟩ | exact ⟨⟨rfl, rfl⟩, rfl⟩ | simp)⟩ | skip
    · have hge : ¬ (k : Int) < L.length := by omega
      have hkl : k = L.length := by omega
      have hm := mapT L k
      have hjl := joinT_len hT k
      have e32 : (⟨#[32]⟩ : ByteArray)[0]! = 32 := rfl
      have z32 : ByteArray.size ⟨#[32]⟩ = 1 := rfl
      have htl : L.take k = L := by rw [hkl, List.take_length]
      rw [htl] at hm hlk hjl ⊢
      (repeat' (first | refine WP.seq ?_ | refine WP.block ?_ | ((first | refine WP.region ?_ | refine WP.condW ?_ | refine WP.ret ?_ | refine WP.exit ?_ | refine WP.skip ?_); simp only [go_sem, hge, hm, hlk, e32, z32, tyAll]) |  refine And.intro ?_ ?_ | intro _))
      all_goals first | omega | skip
end
section
noncomputable def cxFeS : Cx := { P := Tryz.prog, tys := tys, C := [(96, kExOk), (113, kFmtT)], hty := tysOk, hC := COk.cons cExOkS (COk.cons cFmtTS (COk.nil _)) }
theorem cxFeS_t : cxFeS.tys = tys := rfl
theorem cxFeS_c : cxFeS.C = [(96, kExOk), (113, kFmtT)] := rfl
attribute [local go_sem] cxFeS_t cxFeS_c kExOk kFmtT
theorem cFmtES : Cn Tryz.prog 62 kFmtE := by
  refine Cn.pur Tryz.func62 (by kernel_rfl) rfl fun d x hx => ?_
  rename List Tok => L
  have hL := hx.1
  refine Holds.go (c := cxFeS) Tryz.func62 rfl Tryz.results62 Tryz.ntmps62 (by omega) (by simp) rfl ?_
  intro X0 w0
  cases hok : exprOk L with
  | false =>
    rw [fmtExpr_bad hok]
    (repeat' (first | refine WP.seq ?_ | refine WP.block ?_ | ((first | refine WP.region ?_ | refine WP.condW ?_ | refine WP.ret ?_ | refine WP.exit ?_ | refine WP.skip ?_); simp only [go_sem, tyAll]) |  refine And.intro ?_ ?_ | intro _))
    all_goals first | omega | exact hx | exact hx.2 _ ‹_› | skip
    refine WP.loop (fun _ : Unit => ⟨[(0, .sl 3 (L.map encTok)), (3, .v (.string ⟨#[]⟩)), (4, .v (.int .i64 0))], []⟩) (fun _ => True) (fun _ => 0) () trivial ?_ ?_
    · (simp only [go_sem, tyAll] <;> (first | rfl | exact ⟨rfl, rfl⟩ | exact ⟨rfl, rfl, rfl⟩ | exact ⟨rfl, rfl, rfl, rfl⟩ | exact ⟨rfl, rfl, rfl, rfl, rfl⟩ | exact ⟨⟨rfl, rfl⟩, rfl⟩ | simp))
    intro _ _
    (repeat' (first | refine WP.seq ?_ | refine WP.block ?_ | ((first | refine WP.region ?_ | refine WP.condW ?_ | refine WP.ret ?_ | refine WP.exit ?_ | refine WP.skip ?_); simp only [go_sem, hok, tyAll]) |  refine And.intro ?_ ?_ | intro _))
    all_goals first | omega | exact hx | exact hx.2 _ ‹_› | skip
  | true =>
    have hT := exprOk_toks hok
    have hl20 := (exprOk_iff.1 hok).1
    rw [fmtExpr_ok hok]
    (repeat' (first | refine WP.seq ?_ | refine WP.block ?_ | ((first | refine WP.region ?_ | refine WP.condW ?_ | refine WP.ret ?_ | refine WP.exit ?_ | refine WP.skip ?_); simp only [go_sem, tyAll]) |  refine And.intro ?_ ?_ | intro _))
    all_goals first | omega | exact hx | exact hx.2 _ ‹_› | skip
    refine WP.loop (fun k : Nat => ⟨[(0, .sl 3 (L.map encTok)), (3, .v (.string (bts (joinL 32 ((L.take k).map tokL))))), (4, .v (.int .i64 k))], []⟩) (fun k => k ≤ L.length) (fun k => L.length - k) 0 (by simp) ?_ ?_
    · have e0 : bts (joinL 32 ((L.take 0).map tokL)) = ⟨#[]⟩ := rfl
      (simp only [go_sem, e0, tyAll] <;> (first | rfl | exact ⟨rfl, rfl⟩ | exact ⟨rfl, rfl, rfl⟩ | exact ⟨rfl, rfl, rfl, rfl⟩ | exact ⟨rfl, rfl, rfl, rfl, rfl⟩ | exact ⟨⟨rfl, rfl⟩, rfl⟩ | simp))
    intro k hk
    have hjl := joinT_len hT k
    rw [← bts_size] at hjl
    by_cases hlt : k < L.length
    · have hlti : (k : Int) < L.length := by omega
      have h1 := rowAt_map encTok L k hlt
      have hj := joinT_take L k hlt
      have hf := fmtTok_ok (hT _ (List.getElem_mem hlt))
      have h3 := hx.2 _ (List.getElem_mem hlt)
      have htl := (tokL_chars (hT _ (List.getElem_mem hlt))).2.2
      rw [← bts_size] at htl
      have z32 : ByteArray.size ⟨#[32]⟩ = 1 := rfl
      have hT0 : k = 0 → bts (joinL 32 ((L.take k).map tokL)) = ⟨#[]⟩ := fun e => by subst e; rfl
      generalize bts (joinL 32 ((L.take k).map tokL)) = T at *
      generalize L[k] = y at h1 hj hf h3 htl
      obtain ⟨yk, yn, ys⟩ := y
      rw [encTok] at h1
      simp only at h1
      (repeat' (first | refine WP.seq ?_ | refine WP.block ?_ | ((first | refine WP.region ?_ | refine WP.condW ?_ | refine WP.ret ?_ | refine WP.exit ?_ | refine WP.skip ?_); simp only [go_sem, h1, hlti, hok, hf, ByteArray.size_append, z32, tyAll]) |  refine And.intro ?_ ?_ | intro _))
      all_goals first | omega | exact hx | exact hx.2 _ ‹_› | exact h3 | skip
      · refine ⟨k + 1, by omega, by omega, ?_⟩
        rw [hj, if_neg (by omega)]; (first | rfl | exact ⟨rfl, rfl⟩ | exact ⟨rfl, rfl, rfl⟩ | exact ⟨rfl, rfl, rfl, rfl⟩ | exact ⟨rfl, rfl, rfl, rfl, rfl⟩ | exact ⟨⟨rfl, rfl⟩, rfl⟩ | simp)
      · refine ⟨k + 1, by omega, by omega, ?_⟩
        rw [hj, if_pos (by omega), hT0 (by omega), ba_nil]; (first | rfl | exact ⟨rfl, rfl⟩ | exact ⟨rfl, rfl, rfl⟩ | exact ⟨rfl, rfl, rfl, rfl⟩ | exact ⟨rfl, rfl, rfl, rfl, rfl⟩ | exact ⟨⟨rfl, rfl⟩, rfl⟩ | simp)
    · have hge : ¬ (k : Int) < L.length := by omega
      rw [List.take_of_length_le (by omega)]
      (repeat' (first | refine WP.seq ?_ | refine WP.block ?_ | ((first | refine WP.region ?_ | refine WP.condW ?_ | refine WP.ret ?_ | refine WP.exit ?_ | refine WP.skip ?_); simp only [go_sem, hge, tyAll]) |  refine And.intro ?_ ?_ | intro _))
      all_goals first | omega | skip
end
end
end Go.Proofs.YtdhkhapbldkkdaaGreatDoor
namespace Go.Proofs.YtdhkhapbldkkdaaGreatDoor
open Go.Vc
attribute [local go_sem] St.runR St.runW St.stepV offV St.step St.stepU St.stepG mkCond guardB St.prK St.pr St.prLen St.eff St.callE St.callD St.callF St.callL aI aS aR aC St.isM St.argL Ctr.pure Ctr.lend Ctr.move Ctr.isL Ctr.wri pur len lentBy St.lentV St.lent1 nthS argsR restOf obsR pairs swapL unObs backL St.resL erL SV.ren1 SV.up SV.up2 Ob.up St.fzL cellIds partIds St.intoRow SV.ownId St.fz SV.fz1 St.prep St.mvL St.mv SV.re1 rnOk St.prEq vals eqCells scEq Value.kd St.prStr St.prCut cutR St.bnd St.prMin St.bld isShift outL retL outJ oR SV.upq SV.isSl SV.shut St.deepK St.dpArg St.deepQ absC Ob.pl St.ev St.get St.put St.new St.kill SV.kill SV.kill1 Ob.kill St.app St.wrt St.rowsOf St.res St.killL lk er argsL SV.strip SV.need SV.share SV.share1 SV.owns SV.owns1 SV.owns2 SV.good SV.good1 SV.rok SV.rok1 SV.rok2 SV.isV SV.isV2 nodupN SV.cells SV.one SV.pur Ob.pb partsIn rowsIn splice cellsAt dstOk scal2 scal1 thenK blockK retK outK outs okC okL okA okT nilC nilL nilA nilT keepC keepL keepA keepT St.runG St.dltK St.least St.clean St.final St.hide offK badS badO SV.refs SV.leaf SV.leaf2 Ob.refs dlOk fpAt Go.Vc.cover tups SV.ofAgg St.out outC subL St.has rng wr Value.oneCell' Option.isSome_some Option.isSome_none List.nil_append Bool.false_eq_true List.map_cons List.map_nil List.all_cons List.all_nil List.length_cons List.length_nil List.drop_zero List.drop_succ_cons List.take_succ_cons List.take_zero List.drop_nil List.take_nil List.getElem?_cons_zero List.getElem?_cons_succ List.getElem?_nil List.cons_append List.nil_append List.append_nil List.append_assoc List.flatMap_cons List.flatMap_nil List.contains_cons List.contains_nil List.set_cons_zero List.set_cons_succ List.getElem?_toArray Option.getD_some Option.getD_none Option.map_some Option.map_none Option.bind_some Option.some.injEq Prod.mk.injEq if_true if_false true_and and_true and_self and_false false_and Bool.and_false Bool.false_and Bool.or_true Bool.true_or Bool.or_false Bool.false_or ne_eq not_true_eq_false not_false_eq_true decide_true decide_false List.mem_cons List.not_mem_nil List.filter_cons List.filter_nil List.any_cons List.any_nil List.isEmpty_nil List.isEmpty_cons Option.getD_none or_false false_or true_or or_true forall_eq_or_imp forall_eq reduceCtorEq exists_eq exists_eq' exists_eq_left' exists_eq_left exists_eq_right exists_eq_right' imp_self implies_true Bool.and_true Bool.true_and Bool.and_self beq_self_eq_true List.replicate_succ List.replicate_zero forall_const false_implies pickB_or pickB_and beqT beqF Int.toNat_natCast List.length_map List.length_replicate ge_iff_le gt_iff_lt decide_eq_true_eq decide_eq_false_iff_not Bool.and_eq_true Bool.or_eq_true Bool.not_eq_true' Bool.not_eq_false' condG List.toList_toArray Bool.or_eq_false_iff Bool.and_eq_false_iff Int.not_lt Int.not_le beq_iff_eq beq_eq_false_iff_ne bne_iff_ne bne_eq_false_iff_eq ne_eq Bool.not_true Bool.not_false exists_and_left
section
open Go.Vc
set_option linter.unusedSimpArgs false
set_option linter.unusedVariables false
set_option maxHeartbeats 1000000
set_option maxRecDepth 10000
attribute [local irreducible] Go.Vc.WP
attribute [local go_sem] cx0_t cx0_c
attribute [local go_sem] decTok_enc oneTok_f decS_enc St.fzS addL behind St.runO St.stepO aU
section
attribute [local go_sem] kCut kParseU kFmtT
end
end
section
open Go.Vc
set_option linter.unusedSimpArgs false
set_option linter.unusedVariables false
set_option maxHeartbeats 1000000
set_option maxRecDepth 10000
attribute [local irreducible] Go.Vc.WP
attribute [local go_sem] cx0_t cx0_c
attribute [local go_sem] decTok_enc oneTok_f decS_enc St.fzS addL behind St.runO St.stepO aU
section
set_option maxHeartbeats 8000000
attribute [local go_sem] kParseU kTokOk kFmtT
end
end
section
open Go.Vc
set_option linter.unusedSimpArgs false
set_option linter.unusedVariables false
set_option maxHeartbeats 1000000
set_option maxRecDepth 10000
attribute [local irreducible] Go.Vc.WP
attribute [local go_sem] cx0_t cx0_c
attribute [local go_sem] decTok_enc oneTok_f decS_enc St.fzS addL behind St.runO St.stepO
def wfW (W : List ByteArray) : Prop := W.length ≤ 1048576 ∧ ∀ w ∈ W, w.size ≤ 1048576
section
attribute [local go_sem] kExOk
end
section
attribute [local go_sem] kExOk
end
end
end Go.Proofs.YtdhkhapbldkkdaaGreatDoor
namespace Go.Proofs.YtdhkhapbldkkdaaGreatDoor
open Go.Vc
attribute [local go_sem] St.runR St.runW St.stepV offV St.step St.stepU St.stepG mkCond guardB St.prK St.pr St.prLen St.eff St.callE St.callD St.callF St.callL aI aS aR aC St.isM St.argL Ctr.pure Ctr.lend Ctr.move Ctr.isL Ctr.wri pur len lentBy St.lentV St.lent1 nthS argsR restOf obsR pairs swapL unObs backL St.resL erL SV.ren1 SV.up SV.up2 Ob.up St.fzL cellIds partIds St.intoRow SV.ownId St.fz SV.fz1 St.prep St.mvL St.mv SV.re1 rnOk St.prEq vals eqCells scEq Value.kd St.prStr St.prCut cutR St.bnd St.prMin St.bld isShift outL retL outJ oR SV.upq SV.isSl SV.shut St.deepK St.dpArg St.deepQ absC Ob.pl St.ev St.get St.put St.new St.kill SV.kill SV.kill1 Ob.kill St.app St.wrt St.rowsOf St.res St.killL lk er argsL SV.strip SV.need SV.share SV.share1 SV.owns SV.owns1 SV.owns2 SV.good SV.good1 SV.rok SV.rok1 SV.rok2 SV.isV SV.isV2 nodupN SV.cells SV.one SV.pur Ob.pb partsIn rowsIn splice cellsAt dstOk scal2 scal1 thenK blockK retK outK outs okC okL okA okT nilC nilL nilA nilT keepC keepL keepA keepT St.runG St.dltK St.least St.clean St.final St.hide offK badS badO SV.refs SV.leaf SV.leaf2 Ob.refs dlOk fpAt Go.Vc.cover tups SV.ofAgg St.out outC subL St.has rng wr Value.oneCell' Option.isSome_some Option.isSome_none List.nil_append Bool.false_eq_true List.map_cons List.map_nil List.all_cons List.all_nil List.length_cons List.length_nil List.drop_zero List.drop_succ_cons List.take_succ_cons List.take_zero List.drop_nil List.take_nil List.getElem?_cons_zero List.getElem?_cons_succ List.getElem?_nil List.cons_append List.nil_append List.append_nil List.append_assoc List.flatMap_cons List.flatMap_nil List.contains_cons List.contains_nil List.set_cons_zero List.set_cons_succ List.getElem?_toArray Option.getD_some Option.getD_none Option.map_some Option.map_none Option.bind_some Option.some.injEq Prod.mk.injEq if_true if_false true_and and_true and_self and_false false_and Bool.and_false Bool.false_and Bool.or_true Bool.true_or Bool.or_false Bool.false_or ne_eq not_true_eq_false not_false_eq_true decide_true decide_false List.mem_cons List.not_mem_nil List.filter_cons List.filter_nil List.any_cons List.any_nil List.isEmpty_nil List.isEmpty_cons Option.getD_none or_false false_or true_or or_true forall_eq_or_imp forall_eq reduceCtorEq exists_eq exists_eq' exists_eq_left' exists_eq_left exists_eq_right exists_eq_right' imp_self implies_true Bool.and_true Bool.true_and Bool.and_self beq_self_eq_true List.replicate_succ List.replicate_zero forall_const false_implies pickB_or pickB_and beqT beqF Int.toNat_natCast List.length_map List.length_replicate ge_iff_le gt_iff_lt decide_eq_true_eq decide_eq_false_iff_not Bool.and_eq_true Bool.or_eq_true Bool.not_eq_true' Bool.not_eq_false' condG List.toList_toArray Bool.or_eq_false_iff Bool.and_eq_false_iff Int.not_lt Int.not_le beq_iff_eq beq_eq_false_iff_ne bne_iff_ne bne_eq_false_iff_eq ne_eq Bool.not_true Bool.not_false exists_and_left Nat.reduceAdd Nat.reduceLT Nat.reduceLeDiff Nat.reduceEqDiff Nat.reduceMul Nat.reduceSub Nat.reduceGT reduceIte Int.reduceNeg Int.reduceToNat
section
open Go.Vc
set_option linter.unusedSimpArgs false
set_option linter.unusedVariables false
set_option maxHeartbeats 1000000
set_option maxRecDepth 10000
attribute [local irreducible] Go.Vc.WP
attribute [local go_sem] cx0_t cx0_c
attribute [local go_sem] decTok_enc oneTok_f decS_enc oneLine_f line_eta St.fzS addL behind St.runO St.stepO
def hasEx3 (k : Int) : Bool := decide (k ≠ 0) && decide (k ≠ 4) && decide (k ≠ 7)
theorem hasEx3_eq {k : Int} (h : 0 ≤ k) (h' : k ≤ 7) : hasEx3 k = hasEx k := by
  rcases kw_case h h' with e | e | e | e | e | e | e | e <;> rw [e] <;> decide
def kHasEx : Ctr := pur (fun args => aI args 0) (fun k => [.v (.int .i64 k)]) (fun _ => True) (fun _ k => .v (.bool (hasEx k))) (fun _ _ => [])
def kHasEx3 : Ctr := pur (fun args => aI args 0) (fun k => [.v (.int .i64 k)]) (fun _ => True) (fun _ k => .v (.bool (hasEx3 k))) (fun _ _ => [])
theorem cHasExI : Cn Tryz.prog 118 kHasEx := by
  refine Cn.pur Tryz.func118 (by kernel_rfl) rfl fun d x hx => ?_
  rename Int => k
  refine Holds.go (c := cx0) Tryz.func118 rfl Tryz.results118 Tryz.ntmps118 (by omega) (by simp) rfl ?_
  intro X0 w0
  have e : hasEx k = ((k == 1) || (k == 2) || (k == 3) || (k == 5) || (k == 6)) := rfl
  rw [e]
  (repeat' (first | refine WP.seq ?_ | refine WP.block ?_ | ((first | refine WP.region ?_ | refine WP.condW ?_ | refine WP.ret ?_ | refine WP.exit ?_ | refine WP.skip ?_); simp only [go_sem, tyAll]) |  refine And.intro ?_ ?_ | intro _))
  all_goals first | omega | skip
theorem cHasExS : Cn Tryz.prog 95 kHasEx3 := by
  refine Cn.pur Tryz.func95 (by kernel_rfl) rfl fun d x hx => ?_
  rename Int => k
  refine Holds.go (c := cx0) Tryz.func95 rfl Tryz.results95 Tryz.ntmps95 (by omega) (by simp) rfl ?_
  intro X0 w0
  have e : hasEx3 k = ((k != 0) && (k != 4) && (k != 7)) := by
    unfold hasEx3
    rw [show (k != 0) = decide (k ≠ 0) by simp [bne]; rfl, show (k != 4) = decide (k ≠ 4) by simp [bne]; rfl, show (k != 7) = decide (k ≠ 7) by simp [bne]; rfl]
  rw [e]
  (repeat' (first | refine WP.seq ?_ | refine WP.block ?_ | ((first | refine WP.region ?_ | refine WP.condW ?_ | refine WP.ret ?_ | refine WP.exit ?_ | refine WP.skip ?_); simp only [go_sem, tyAll]) |  refine And.intro ?_ ?_ | intro _))
  all_goals first | omega | skip
def ArgsP (L : List ByteArray) : Prop := (∀ s ∈ L, nameOk s = true) ∧ L.Nodup ∧ L.length ≤ 4
instance (L : List ByteArray) : Decidable (ArgsP L) := by unfold ArgsP; infer_instance
theorem nodup_take {L : List ByteArray} {k : Nat} (hk : k < L.length) (h : (L.take k).Nodup) (hn : L[k] ∉ L.take k) : (L.take (k + 1)).Nodup := by
  rw [List.take_succ_eq_append_getElem hk, List.nodup_append]
  refine ⟨h, by simp, fun a ha b hb => ?_⟩
  simp only [List.mem_cons, List.not_mem_nil, or_false] at hb
  subst hb
  exact fun e => hn (e ▸ ha)
theorem nodup_no {L : List ByteArray} {k : Nat} (hk : k < L.length) (hn : L[k] ∈ L.take k) : ¬ L.Nodup := fun h => by
  have h2 : (L.take (k + 1)).Nodup := h.sublist (List.take_sublist _ _)
  rw [List.take_succ_eq_append_getElem hk, List.nodup_append] at h2
  exact h2.2.2 _ hn _ (by simp) rfl
def kArArgs : Ctr := pur (fun args => decS (aR args 0)) (fun L => [.sl 1 (L.map encS)]) wfW (fun _ L => .v (.bool (decide (ArgsP L)))) (fun _ _ => [])
section
noncomputable def cxAr : Cx := { P := Tryz.prog, tys := tys, C := [(116, kNameOk), (146, kHasS)], hty := tysOk, hC := COk.cons cNameOkI (COk.cons cHasS (COk.nil _)) }
theorem cxAr_t : cxAr.tys = tys := rfl
theorem cxAr_c : cxAr.C = [(116, kNameOk), (146, kHasS)] := rfl
attribute [local go_sem] cxAr_t cxAr_c kNameOk kHasS
theorem cArArgs : Cn Tryz.prog 117 kArArgs := by
  refine Cn.pur Tryz.func117 (by kernel_rfl) rfl fun d x hx => ?_
  rename List ByteArray => L
  have hL := hx.1
  refine Holds.go (c := cxAr) Tryz.func117 rfl Tryz.results117 Tryz.ntmps117 (by omega) (by simp) rfl ?_
  intro X0 w0
  (repeat' (first | refine WP.seq ?_ | refine WP.block ?_ | ((first | refine WP.region ?_ | refine WP.condW ?_ | refine WP.ret ?_ | refine WP.exit ?_ | refine WP.skip ?_); simp only [go_sem, tyAll]) |  refine And.intro ?_ ?_ | intro _))
  all_goals first | omega | skip
  refine WP.loop (fun k : Nat => ⟨[(0, .sl 1 (L.map encS)), (5, .sl 1 (L.map encS)), (6, .v (.int .i64 L.length)), (7, .v (.int .i64 k))], []⟩) (fun k => k ≤ L.length ∧ (∀ i (hi : i < L.length), i < k → nameOk L[i] = true) ∧ (L.take k).Nodup) (fun k => L.length - k) 0 (by simp) ?_ ?_
  · (simp only [go_sem, tyAll] <;> (first | rfl | exact ⟨rfl, rfl⟩ | exact ⟨rfl, rfl, rfl⟩ | exact ⟨rfl, rfl, rfl, rfl⟩ | exact ⟨rfl, rfl, rfl, rfl, rfl⟩ | exact ⟨⟨rfl, rfl⟩, rfl⟩ | simp))
  rintro k ⟨hk, hf, hd⟩
  by_cases hlt : k < L.length
  · have hli : (k : Int) < L.length := by omega
    have h1 := rowAt_map encS L k hlt
    have h2 := hx.2 _ (List.getElem_mem hlt)
    have hcut : (L.map encS).take k = (L.take k).map encS := (List.map_take ..).symm
    have hcl : (L.take k).length = k := by rw [List.length_take]; omega
    cases hn : nameOk L[k] with
    | false =>
      have hno : decide (ArgsP L) = false := decide_eq_false fun q => by rw [q.1 _ (List.getElem_mem hlt)] at hn; cases hn
      rw [hno]
      (repeat' (first | (refine WP.regionO (id := 4) ?_; simp only [go_sem, hli, h1, encS, hn, hcut, hcl, tyAll]) | refine WP.seq ?_ | refine WP.block ?_ | ((first | refine WP.region ?_ | refine WP.condW ?_ | refine WP.ret ?_ | refine WP.exit ?_ | refine WP.skip ?_); simp only [go_sem, hli, h1, encS, hn, hcut, hcl, tyAll]) |  refine And.intro ?_ ?_ | intro _))
      all_goals first | omega | skip
    | true =>
      by_cases hm : L[k] ∈ L.take k
      · have hno : decide (ArgsP L) = false := decide_eq_false fun q => nodup_no hlt hm q.2.1
        rw [hno]
        (repeat' (first | refine WP.seq ?_ | refine WP.block ?_ | ((first | refine WP.region ?_ | refine WP.condW ?_ | refine WP.ret ?_ | refine WP.exit ?_ | refine WP.skip ?_); simp only [go_sem, hli, h1, encS, hn, hcut, hcl, hm, tyAll]) |  refine And.intro ?_ ?_ | intro _))
        all_goals first | omega | skip
      · have hnx : ∀ i (hi : i < L.length), i < k + 1 → nameOk L[i] = true := fun i hi hik => by
          rcases Nat.lt_or_ge i k with q | q
          · exact hf i hi q
          · have : i = k := by omega
            subst this; exact hn
        (repeat' (first | refine WP.seq ?_ | refine WP.block ?_ | ((first | refine WP.region ?_ | refine WP.condW ?_ | refine WP.ret ?_ | refine WP.exit ?_ | refine WP.skip ?_); simp only [go_sem, hli, h1, encS, hn, hcut, hcl, hm, tyAll]) |  refine And.intro ?_ ?_ | intro _))
        all_goals first | omega | exact ⟨k + 1, ⟨by omega, hnx, nodup_take hlt hd hm⟩, by omega, by (first | rfl | exact ⟨rfl, rfl⟩ | exact ⟨rfl, rfl, rfl⟩ | exact ⟨rfl, rfl, rfl, rfl⟩ | exact ⟨rfl, rfl, rfl, rfl, rfl⟩ | exact ⟨⟨rfl, rfl⟩, rfl⟩ | simp)⟩ | skip
  · have hge : ¬ (k : Int) < L.length := by omega
    have e : decide (ArgsP L) = decide ((L.length : Int) ≤ 4) := decide_eq_decide.2 ⟨fun q => by have := q.2.2; omega, fun q => ⟨fun s hs => by
      obtain ⟨i, hi, rfl⟩ := List.mem_iff_getElem.1 hs
      exact hf i hi (by omega), by rwa [List.take_of_length_le (by omega)] at hd, by omega⟩⟩
    rw [e]
    (repeat' (first | refine WP.seq ?_ | refine WP.block ?_ | ((first | refine WP.region ?_ | refine WP.condW ?_ | refine WP.ret ?_ | refine WP.exit ?_ | refine WP.skip ?_); simp only [go_sem, hge, tyAll]) |  refine And.intro ?_ ?_ | intro _))
    all_goals first | omega | skip
end
def smLine (x : Line) : Prop := x.name.size ≤ 1048576 ∧ wfW x.args ∧ smToks x.expr
def kLnOk : Ctr := pur (fun args => oneLine (aC args 0)) (fun x => [.agg [.v (.int .i64 x.kind), .v (.string x.name), .sl 1 (x.args.map encS), .sl 3 (x.expr.map encTok)]]) smLine (fun _ x => .v (.bool (decide (LineP x)))) (fun _ _ => [])
def lastP (x : Line) : Prop := (hasEx x.kind = true → exprOk x.expr = true) ∧ (hasEx x.kind = false → x.expr = [])
theorem decide_bool {p : Prop} [Decidable p] {b : Bool} (h : p ↔ b = true) : decide p = b := by
  cases b with
  | false => exact decide_eq_false fun e => by simpa using h.1 e
  | true => exact decide_eq_true (h.2 rfl)
theorem len0_eq (E : List Tok) : ((E.length : Int) == 0) = decide (E = []) := by
  cases E with
  | nil => rfl
  | cons a l => simp; omega
section
noncomputable def cxLoI : Cx := { P := Tryz.prog, tys := tys, C := [(41, k60), (116, kNameOk), (117, kArArgs), (118, kHasEx), (119, kExOk)], hty := tysOk, hC := COk.cons c60 (COk.cons cNameOkI (COk.cons cArArgs (COk.cons cHasExI (COk.cons cExOkI (COk.nil _))))) }
theorem cxLoI_t : cxLoI.tys = tys := rfl
theorem cxLoI_c : cxLoI.C = [(41, k60), (116, kNameOk), (117, kArArgs), (118, kHasEx), (119, kExOk)] := rfl
attribute [local go_sem] cxLoI_t cxLoI_c k60 kNameOk kArArgs kHasEx kExOk
theorem cLnOkI : Cn Tryz.prog 67 kLnOk := by
  refine Cn.pur Tryz.func67 (by kernel_rfl) rfl fun d x hx => ?_
  obtain ⟨k, n, A, E⟩ := x
  obtain ⟨hn, hA, hE⟩ := hx
  have hAl := hA.1
  have hEl := hE.1
  simp only at hn hAl hEl hA hE ⊢
  refine Holds.go (c := cxLoI) Tryz.func67 rfl Tryz.results67 Tryz.ntmps67 (by omega) (by simp) rfl ?_
  intro X0 w0
  by_cases hk : 0 ≤ k ∧ k ≤ 7
  · have hk0 := hk.1
    have hk7 := hk.2
    by_cases h01 : k = 0 ∨ k = 1
    · cases hnm : nameOk n with
      | false =>
        have hno : decide (LineP ⟨k, n, A, E⟩) = false := decide_eq_false fun q => by rw [q.name h01] at hnm; cases hnm
        rw [hno]
        (repeat' (first | refine WP.seq ?_ | refine WP.block ?_ | ((first | refine WP.region ?_ | refine WP.condW ?_ | refine WP.ret ?_ | refine WP.exit ?_ | refine WP.skip ?_); simp only [go_sem, hk0, hk7, h01, hnm, tyAll]) |  refine And.intro ?_ ?_ | intro _))
        all_goals first | omega | exact hA | exact hE | exact hA.2 _ ‹_› | exact hE.2 _ ‹_› | skip
      | true =>
        by_cases h0 : k = 0
        · subst h0
          by_cases hap : ArgsP A
          · have he : decide (LineP ⟨0, n, A, E⟩) = decide (E = []) := decide_eq_decide.2 ⟨fun q => q.noExpr rfl, fun q => ⟨hk, hap.2.2, hap.1, hap.2.1, fun h => absurd rfl h, fun _ => hnm, fun h => absurd (.inl rfl) h, fun h => absurd (show hasEx 0 = true from h) (by decide), fun _ => q⟩⟩
            have hx0 : hasEx 0 = false := rfl
            have hl0 := len0_eq E
            rw [he]
            (repeat' (first | refine WP.seq ?_ | refine WP.block ?_ | ((first | refine WP.region ?_ | refine WP.condW ?_ | refine WP.ret ?_ | refine WP.exit ?_ | refine WP.skip ?_); simp only [go_sem, hnm, hap, hx0, hl0, tyAll]) |  refine And.intro ?_ ?_ | intro _))
            all_goals first | omega | exact hA | exact hE | exact hA.2 _ ‹_› | exact hE.2 _ ‹_› | skip
          · have hno : decide (LineP ⟨0, n, A, E⟩) = false := decide_eq_false fun q => hap ⟨q.names, q.apart, q.few⟩
            rw [hno]
            (repeat' (first | refine WP.seq ?_ | refine WP.block ?_ | ((first | refine WP.region ?_ | refine WP.condW ?_ | refine WP.ret ?_ | refine WP.exit ?_ | refine WP.skip ?_); simp only [go_sem, hnm, hap, tyAll]) |  refine And.intro ?_ ?_ | intro _))
            all_goals first | omega | exact hA | exact hE | exact hA.2 _ ‹_› | exact hE.2 _ ‹_› | skip
        · have h1 : k = 1 := by omega
          subst h1
          by_cases hA0 : A = []
          · have he : decide (LineP ⟨1, n, A, E⟩) = exprOk E := by
              exact decide_bool ⟨fun q => q.expr rfl, fun q => ⟨hk, by rw [hA0]; show (0 : Nat) ≤ 4; decide, by rw [hA0]; simp, by rw [hA0]; simp, fun _ => hA0, fun _ => hnm, fun h => absurd (.inr rfl) h, fun _ => q, fun h => absurd (show hasEx 1 = false from h) (by decide)⟩⟩
            have hx0 : hasEx 1 = true := rfl
            have hl0 : (A.length : Int) = 0 := by rw [hA0]; rfl
            rw [he]
            (repeat' (first | refine WP.seq ?_ | refine WP.block ?_ | ((first | refine WP.region ?_ | refine WP.condW ?_ | refine WP.ret ?_ | refine WP.exit ?_ | refine WP.skip ?_); simp only [go_sem, hnm, hx0, hl0, tyAll]) |  refine And.intro ?_ ?_ | intro _))
            all_goals first | omega | exact hA | exact hE | exact hA.2 _ ‹_› | exact hE.2 _ ‹_› | skip
          · have hno : decide (LineP ⟨1, n, A, E⟩) = false := decide_eq_false fun q => hA0 (q.noArgs (show (1 : Int) ≠ 0 by decide))
            have hl0 : (0 : Int) < A.length := by have := List.length_pos_iff.2 hA0; omega
            rw [hno]
            (repeat' (first | refine WP.seq ?_ | refine WP.block ?_ | ((first | refine WP.region ?_ | refine WP.condW ?_ | refine WP.ret ?_ | refine WP.exit ?_ | refine WP.skip ?_); simp only [go_sem, hnm, hl0, tyAll]) |  refine And.intro ?_ ?_ | intro _))
            all_goals first | omega | exact hA | exact hE | exact hA.2 _ ‹_› | exact hE.2 _ ‹_› | skip
    · have h0 : ¬ k = 0 := fun e => h01 (.inl e)
      have h1 : ¬ k = 1 := fun e => h01 (.inr e)
      by_cases hne : n = ⟨#[]⟩
      · by_cases hA0 : A = []
        · have hl0 : (A.length : Int) = 0 := by rw [hA0]; rfl
          have hneT : (n = ⟨#[]⟩) = True := eq_true hne
          have hneF : (n ≠ ⟨#[]⟩) = False := eq_false fun h => h hne
          have hz : LineP ⟨k, n, A, E⟩ ↔ lastP ⟨k, n, A, E⟩ := ⟨fun q => ⟨q.expr, q.noExpr⟩, fun q => ⟨hk, by rw [hA0]; show (0 : Nat) ≤ 4; decide, by rw [hA0]; simp, by rw [hA0]; simp, fun _ => hA0, fun h => absurd h h01, fun _ => hne, q.1, q.2⟩⟩
          cases hex : hasEx k with
          | true =>
            have he : decide (LineP ⟨k, n, A, E⟩) = exprOk E := by
              exact decide_bool (hz.trans ⟨fun q => q.1 hex, fun q => ⟨fun _ => q, fun h => by rw [hex] at h; cases h⟩⟩)
            rw [he]
            (repeat' (first | refine WP.seq ?_ | refine WP.block ?_ | ((first | refine WP.region ?_ | refine WP.condW ?_ | refine WP.ret ?_ | refine WP.exit ?_ | refine WP.skip ?_); simp only [go_sem, hk0, hk7, h0, h1, hneT, hl0, hex, tyAll]) |  refine And.intro ?_ ?_ | intro _))
            all_goals first | omega | exact hA | exact hE | exact hA.2 _ ‹_› | exact hE.2 _ ‹_› | skip
          | false =>
            have he : decide (LineP ⟨k, n, A, E⟩) = decide (E = []) := decide_eq_decide.2 (hz.trans ⟨fun q => q.2 hex, fun q => ⟨fun h => (by rw [hex] at h; cases h), fun _ => q⟩⟩)
            have hle := len0_eq E
            rw [he]
            (repeat' (first | refine WP.seq ?_ | refine WP.block ?_ | ((first | refine WP.region ?_ | refine WP.condW ?_ | refine WP.ret ?_ | refine WP.exit ?_ | refine WP.skip ?_); simp only [go_sem, hk0, hk7, h0, h1, hneT, hl0, hex, hle, tyAll]) |  refine And.intro ?_ ?_ | intro _))
            all_goals first | omega | exact hA | exact hE | exact hA.2 _ ‹_› | exact hE.2 _ ‹_› | skip
        · have hno : decide (LineP ⟨k, n, A, E⟩) = false := decide_eq_false fun q => hA0 (q.noArgs h0)
          have hl0 : (0 : Int) < A.length := by have := List.length_pos_iff.2 hA0; omega
          have hneT : (n = ⟨#[]⟩) = True := eq_true hne
          rw [hno]
          (repeat' (first | refine WP.seq ?_ | refine WP.block ?_ | ((first | refine WP.region ?_ | refine WP.condW ?_ | refine WP.ret ?_ | refine WP.exit ?_ | refine WP.skip ?_); simp only [go_sem, hk0, hk7, h0, h1, hneT, hl0, tyAll]) |  refine And.intro ?_ ?_ | intro _))
          all_goals first | omega | exact hA | exact hE | exact hA.2 _ ‹_› | exact hE.2 _ ‹_› | skip
      · have hno : decide (LineP ⟨k, n, A, E⟩) = false := decide_eq_false fun q => hne (q.noName h01)
        rw [hno]
        (repeat' (first | refine WP.seq ?_ | refine WP.block ?_ | ((first | refine WP.region ?_ | refine WP.condW ?_ | refine WP.ret ?_ | refine WP.exit ?_ | refine WP.skip ?_); simp only [go_sem, hk0, hk7, h0, h1, hne, tyAll]) |  refine And.intro ?_ ?_ | intro _))
        all_goals first | omega | exact hA | exact hE | exact hA.2 _ ‹_› | exact hE.2 _ ‹_› | skip
  · have hno : decide (LineP ⟨k, n, A, E⟩) = false := decide_eq_false fun q => hk q.kind
    have hb : (decide (0 ≤ k) && decide (k ≤ 7)) = false := by simp; omega
    rw [hno]
    (repeat' (first | refine WP.seq ?_ | refine WP.block ?_ | ((first | refine WP.region ?_ | refine WP.condW ?_ | refine WP.ret ?_ | refine WP.exit ?_ | refine WP.skip ?_); simp only [go_sem, hb, tyAll]) |  refine And.intro ?_ ?_ | intro _))
    all_goals first | omega | exact hA | exact hE | exact hA.2 _ ‹_› | exact hE.2 _ ‹_› | skip
end
end
section
open Go.Vc
set_option linter.unusedSimpArgs false
set_option linter.unusedVariables false
set_option maxHeartbeats 1000000
set_option maxRecDepth 10000
attribute [local irreducible] Go.Vc.WP
attribute [local go_sem] cx0_t cx0_c
attribute [local go_sem] decS_enc decTok_enc decLine_enc oneLine_f line_eta oneTok_f aPk St.fzS addL behind St.runO St.stepO
theorem rowS_ln {L : List ByteArray} {r : List SV} (h : r ∈ L.map encS) : r.length = 1 := by obtain ⟨n, _, rfl⟩ := List.mem_map.1 h; rfl
theorem locGo_succ (P : List Line) {e i : Nat} (h : i < e) (A : List ByteArray) : locGo P (e - i) i A = locGo P (e - (i + 1)) (i + 1) (if kd P i = 1 ∧ nameAt P i ∉ A then A ++ [nameAt P i] else A) := by
  rw [show e - i = (e - (i + 1)) + 1 by omega, locGo]
def kLcl : Ctr := pur aPk (fun x => [.sl 4 (x.1.map encLine), .v (.int .i64 x.2)]) (fun x => x.1.length ≤ 1048576 ∧ ∀ y ∈ x.1, shLine y) (fun d _ => .own d) (fun d x => [(d, .sl 9 1 ((localsOf x.1 x.2).map encS))])
theorem localsOf_neg {P : List Line} {k : Int} (h : endOf P k < 0) : localsOf P k = [] := if_pos (.inl h)
theorem localsOf_kd {P : List Line} {n : Nat} (h : n < P.length) (h3 : ¬ P[n].kind = 0) : localsOf P n = [] := if_pos (.inr (by rw [Int.toNat_natCast, kd_lt h]; exact h3))
theorem localsOf_go {P : List Line} {n e : Nat} (h : n < P.length) (h3 : P[n].kind = 0) (he : endOf P n = (e : Int)) : localsOf P n = locGo P (e - n) n P[n].args := by
  unfold localsOf
  rw [Int.toNat_natCast, kd_lt h, he, Int.toNat_natCast, if_neg (by omega), argsAt_lt h]
section
attribute [local irreducible] shLine
noncomputable def cxLclI : Cx := { P := Tryz.prog, tys := tys, C := [(68, kBlk), (146, kHasS)], hty := tysOk, hC := COk.cons cBlkI (COk.cons cHasS (COk.nil _)) }
theorem cxLclI_t : cxLclI.tys = tys := rfl
theorem cxLclI_c : cxLclI.C = [(68, kBlk), (146, kHasS)] := rfl
attribute [local go_sem] cxLclI_t cxLclI_c kBlk kHasS
set_option maxHeartbeats 8000000
theorem cLclI : Cn Tryz.prog 121 kLcl := by
  refine Cn.pur Tryz.func121 (by kernel_rfl) rfl fun d x hx => ?_
  obtain ⟨P, k⟩ := x
  obtain ⟨hx, hsh⟩ := hx
  simp only at hx hsh ⊢
  refine Holds.go (c := cxLclI) Tryz.func121 rfl Tryz.results121 Tryz.ntmps121 (by omega) (by simp) rfl ?_
  intro X0 w0
  have lk0 : lk 0 tys = none := rfl
  by_cases hneg : endOf P k < 0
  · rw [localsOf_neg hneg]
    (repeat' (first | (refine WP.regionO (id := 2) ?_; simp only [go_sem, hneg, tyAll]) | refine WP.seq ?_ | refine WP.block ?_ | ((first | refine WP.region ?_ | refine WP.condW ?_ | refine WP.ret ?_ | refine WP.exit ?_ | refine WP.skip ?_); simp only [go_sem, hneg, tyAll]) |  refine And.intro ?_ ?_ | intro _))
    all_goals first | omega | rfl | exact ⟨_, _, rfl⟩ | exact ⟨_, _, _, rfl⟩ | skip
  have hin := endOf_opens (P := P) (k := k) (by omega)
  obtain ⟨n, rfl⟩ := Int.eq_ofNat_of_zero_le hin.1
  have hn : n < P.length := by omega
  obtain ⟨e, he, hE, hne⟩ := endOf_nn (P := P) (k := n) (by omega)
  have hel := hE.lt
  have h1 := rowAt_map encLine P n hn
  have he0 : ¬ (e : Int) < 0 := by omega
  by_cases h3 : P[n].kind = 0
  rotate_left
  · rw [localsOf_kd hn h3]
    (repeat' (first | refine WP.seq ?_ | refine WP.block ?_ | ((first | refine WP.region ?_ | refine WP.condW ?_ | refine WP.ret ?_ | refine WP.exit ?_ | refine WP.skip ?_); simp only [go_sem, h1, encLine, h3, he, he0, tyAll]) |  refine And.intro ?_ ?_ | intro _))
    all_goals first | omega | rfl | exact ⟨_, _, rfl⟩ | exact ⟨_, _, _, rfl⟩ | skip
  rw [localsOf_go hn h3 he]
  have hsn : P[n].args.length ≤ 1048576 := by have := hsh _ (List.getElem_mem hn); unfold shLine at this; exact this.1
  generalize hA0 : P[n].args = A0 at hsn
  rw [encLine, hA0] at h1
  have hnn : (0 : Nat) + A0.length = A0.length := by omega
  (repeat' (first | refine WP.seq ?_ | refine WP.block ?_ | ((first | refine WP.region ?_ | refine WP.condW ?_ | refine WP.ret ?_ | refine WP.exit ?_ | refine WP.skip ?_); simp only [go_sem, h1, h3, he, he0, tyAll]) |  refine And.intro ?_ ?_ | intro _))
  all_goals first | omega | exact rowS_ln ‹_› | skip
  generalize hG : locGo P (e - n) n A0 = G
  refine WP.loop (fun s : Nat × List ByteArray => ⟨[(0, .sl 4 (P.map encLine)), (5, .v (.int .i64 e)), (6, .own 21), (7, .v (.int .i64 s.1))], [(21, .sl 9 1 (s.2.map encS))]⟩)
    (fun s => n ≤ s.1 ∧ s.1 ≤ e ∧ s.2.length ≤ A0.length + s.1 ∧ locGo P (e - s.1) s.1 s.2 = G) (fun s => e - s.1) (n, A0) ⟨by simp only; omega, by simp only; omega, by simp only; omega, hG⟩ ?_ ?_
  · (simp only [go_sem, tyAll] <;> (first | rfl | exact ⟨rfl, rfl⟩ | exact ⟨rfl, rfl, rfl⟩ | exact ⟨rfl, rfl, rfl, rfl⟩ | exact ⟨rfl, rfl, rfl, rfl, rfl⟩ | exact ⟨⟨rfl, rfl⟩, rfl⟩ | simp))
  rintro ⟨i, A⟩ ⟨hi0, hi1, hA, hF⟩
  simp only at hi0 hi1 hA hF ⊢
  by_cases hlt : i < e
  · have hli : (i : Int) < (e : Int) := by omega
    have hiP : i < P.length := by omega
    have h2 := rowAt_map encLine P i hiP
    rw [encLine] at h2
    have hkd := kd_lt hiP
    have hnm := nameAt_lt hiP
    rw [locGo_succ P hlt, hkd, hnm] at hF
    generalize P[i].kind = kk at h2 hF
    generalize P[i].name = nn at h2 hF
    by_cases h1k : kk = 1
    · by_cases hm : nn ∈ A
      · have hmi : (nn ∈ A) = True := eq_true hm
        rw [if_neg (fun q => q.2 hm)] at hF
        (repeat' (first | refine WP.seq ?_ | refine WP.block ?_ | ((first | refine WP.region ?_ | refine WP.condW ?_ | refine WP.ret ?_ | refine WP.exit ?_ | refine WP.skip ?_); simp only [go_sem, hli, h2, h1k, hmi, tyAll]) |  refine And.intro ?_ ?_ | intro _))
        all_goals first | omega | exact ⟨(i + 1, A), ⟨by simp only; omega, by simp only; omega, by simp only; omega, hF⟩, by simp only; omega, by (first | rfl | exact ⟨rfl, rfl⟩ | exact ⟨rfl, rfl, rfl⟩ | exact ⟨rfl, rfl, rfl, rfl⟩ | exact ⟨rfl, rfl, rfl, rfl, rfl⟩ | exact ⟨⟨rfl, rfl⟩, rfl⟩ | simp)⟩ | skip
      · have hmi : (nn ∈ A) = False := eq_false hm
        rw [if_pos ⟨h1k, hm⟩] at hF
        (repeat' (first | refine WP.seq ?_ | refine WP.block ?_ | ((first | refine WP.region ?_ | refine WP.condW ?_ | refine WP.ret ?_ | refine WP.exit ?_ | refine WP.skip ?_); simp only [go_sem, hli, h2, h1k, hmi, tyAll]) |  refine And.intro ?_ ?_ | intro _))
        all_goals first | omega | exact ⟨(i + 1, A ++ [nn]), ⟨by simp only; omega, by simp only; omega, by simp only [List.length_append, List.length_cons, List.length_nil]; omega, hF⟩, by simp only; omega, by simp only [List.map_append, List.map_cons, List.map_nil, encS]; (first | rfl | exact ⟨rfl, rfl⟩ | exact ⟨rfl, rfl, rfl⟩ | exact ⟨rfl, rfl, rfl, rfl⟩ | exact ⟨rfl, rfl, rfl, rfl, rfl⟩ | exact ⟨⟨rfl, rfl⟩, rfl⟩ | simp)⟩ | skip
    · rw [if_neg (fun q => h1k q.1)] at hF
      (repeat' (first | refine WP.seq ?_ | refine WP.block ?_ | ((first | refine WP.region ?_ | refine WP.condW ?_ | refine WP.ret ?_ | refine WP.exit ?_ | refine WP.skip ?_); simp only [go_sem, hli, h2, h1k, tyAll]) |  refine And.intro ?_ ?_ | intro _))
      all_goals first | omega | exact ⟨(i + 1, A), ⟨by simp only; omega, by simp only; omega, by simp only; omega, hF⟩, by simp only; omega, by (first | rfl | exact ⟨rfl, rfl⟩ | exact ⟨rfl, rfl, rfl⟩ | exact ⟨rfl, rfl, rfl, rfl⟩ | exact ⟨rfl, rfl, rfl, rfl, rfl⟩ | exact ⟨⟨rfl, rfl⟩, rfl⟩ | simp)⟩ | skip
  · have hge : ¬ (i : Int) < (e : Int) := by omega
    rw [show e - i = 0 by omega, locGo] at hF
    subst hF
    (repeat' (first | refine WP.seq ?_ | refine WP.block ?_ | ((first | refine WP.region ?_ | refine WP.condW ?_ | refine WP.ret ?_ | refine WP.exit ?_ | refine WP.skip ?_); simp only [go_sem, hge, tyAll]) |  refine And.intro ?_ ?_ | intro _))
    all_goals first | omega | rfl | skip
end
def kKnown : Ctr := pur (fun args => (decLine (aR args 0), decS (aR args 1), decTok (aR args 2))) (fun x => [.sl 4 (x.1.map encLine), .sl 1 (x.2.1.map encS), .sl 3 (x.2.2.map encTok)]) (fun x => x.1.length ≤ 1048576 ∧ x.2.1.length ≤ 1048576 ∧ x.2.2.length ≤ 1048576 ∧ ∀ y ∈ x.1, shLine y)
  (fun _ x => .v (.bool (knownE x.1 x.2.1 x.2.2))) (fun _ _ => [])
theorem knownE_no {P : List Line} {A : List ByteArray} {E : List Tok} {i : Nat} (h : i < E.length) (hk : knownT P A E[i] = false) : knownE P A E = false := by
  cases hb : knownE P A E with
  | false => rfl
  | true => rw [List.all_eq_true.1 hb _ (List.getElem_mem h)] at hk; cases hk
theorem knownE_yes {P : List Line} {A : List ByteArray} {E : List Tok} (h : ∀ i (hi : i < E.length), knownT P A E[i] = true) : knownE P A E = true :=
  List.all_eq_true.2 fun x hx => by obtain ⟨i, hi, rfl⟩ := List.mem_iff_getElem.1 hx; exact h i hi
theorem knownE_nx {P : List Line} {A : List ByteArray} {E : List Tok} {i : Nat} (h : i < E.length) (hk : knownT P A E[i] = true) (hb : ∀ j (hj : j < E.length), j < i → knownT P A E[j] = true) : ∀ j (hj : j < E.length), j < i + 1 → knownT P A E[j] = true := fun j hj hji => by
  rcases Nat.lt_or_ge j i with q | q
  · exact hb j hj q
  · have : j = i := by omega
    subst this; exact hk
theorem findFn_form (P : List Line) (s : ByteArray) : findFn P s = -1 ∨ ∃ f : Nat, f < P.length ∧ findFn P s = (f : Int) := by
  rcases Int.lt_or_le (findFn P s) 0 with h | h
  · left
    rcases firstIdx_bound (isFn s) P with q | q
    · unfold findFn at h ⊢; omega
    · exact q
  · obtain ⟨f, hf, h1, _⟩ := firstIdx_pos (p := isFn s) (L := P) (by unfold findFn at h; omega)
    exact .inr ⟨f, hf, h1⟩
section
attribute [local irreducible] shLine
noncomputable def cxKnI : Cx := { P := Tryz.prog, tys := tys, C := [(146, kHasS), (69, kFind)], hty := tysOk, hC := COk.cons cHasS (COk.cons cFindI (COk.nil _)) }
theorem cxKnI_t : cxKnI.tys = tys := rfl
theorem cxKnI_c : cxKnI.C = [(146, kHasS), (69, kFind)] := rfl
attribute [local go_sem] cxKnI_t cxKnI_c kHasS kFind
set_option maxHeartbeats 8000000
theorem cKnownI : Cn Tryz.prog 122 kKnown := by
  refine Cn.pur Tryz.func122 (by kernel_rfl) rfl fun d x hx => ?_
  obtain ⟨P, A, E⟩ := x
  obtain ⟨hx, hA, hEl, hsh⟩ := hx
  simp only at hx hA hEl hsh ⊢
  refine Holds.go (c := cxKnI) Tryz.func122 rfl Tryz.results122 Tryz.ntmps122 (by omega) (by simp) rfl ?_
  intro X0 w0
  have lk0 : lk 0 tys = none := rfl
  (repeat' (first | refine WP.seq ?_ | refine WP.block ?_ | ((first | refine WP.region ?_ | refine WP.condW ?_ | refine WP.ret ?_ | refine WP.exit ?_ | refine WP.skip ?_); simp only [go_sem, tyAll]) | ((first | refine WP.drawW 13 (by decide +kernel) (by kernel_rfl) ?_); simp only [go_sem, tyAll]) |  refine And.intro ?_ ?_ | intro _))
  all_goals first | omega | skip
  refine WP.loop (fun i : Nat => ⟨[(0, .sl 4 (P.map encLine)), (1, .sl 1 (A.map encS)), (10, .sl 3 (E.map encTok)), (11, .v (.int .i64 E.length)), (12, .v (.int .i64 i))], []⟩)
    (fun i => i ≤ E.length ∧ ∀ j (hj : j < E.length), j < i → knownT P A E[j] = true) (fun i => E.length - i) 0 ⟨by omega, fun j hj h => by omega⟩ ?_ ?_
  · (simp only [go_sem, tyAll] <;> (first | rfl | exact ⟨rfl, rfl⟩ | exact ⟨rfl, rfl, rfl⟩ | exact ⟨rfl, rfl, rfl, rfl⟩ | exact ⟨rfl, rfl, rfl, rfl, rfl⟩ | exact ⟨⟨rfl, rfl⟩, rfl⟩ | simp))
  rintro i ⟨hi, hb⟩
  by_cases hlt : i < E.length
  · have hli : (i : Int) < E.length := by omega
    have h2 := rowAt_map encTok E i hlt
    have hno := knownE_no (P := P) (A := A) hlt
    have hnx := fun q => knownE_nx (P := P) (A := A) hlt q hb
    generalize E[i] = t at h2 hno hnx
    obtain ⟨tk, tn, ts⟩ := t
    rw [encTok] at h2
    simp only at h2
    by_cases h1 : tk = 1
    · subst h1
      by_cases hm : ts ∈ A
      · have hmi : (ts ∈ A) = True := eq_true hm
        have hkt : knownT P A ⟨1, tn, ts⟩ = true := by simp [knownT, hm]
        have hq := hnx hkt
        (repeat' (first | refine WP.seq ?_ | refine WP.block ?_ | ((first | refine WP.region ?_ | refine WP.condW ?_ | refine WP.ret ?_ | refine WP.exit ?_ | refine WP.skip ?_); simp only [go_sem, hli, h2, hmi, tyAll]) | ((first | refine WP.drawW 13 (by decide +kernel) (by kernel_rfl) ?_); simp only [go_sem, hli, h2, hmi, tyAll]) |  refine And.intro ?_ ?_ | intro _))
        all_goals first | omega | exact ⟨i + 1, ⟨by omega, hq⟩, by omega, by (first | rfl | exact ⟨rfl, rfl⟩ | exact ⟨rfl, rfl, rfl⟩ | exact ⟨rfl, rfl, rfl, rfl⟩ | exact ⟨rfl, rfl, rfl, rfl, rfl⟩ | exact ⟨⟨rfl, rfl⟩, rfl⟩ | simp)⟩ | skip
      · have hmi : (ts ∈ A) = False := eq_false hm
        rw [hno (by simp [knownT, hm])]
        (repeat' (first | refine WP.seq ?_ | refine WP.block ?_ | ((first | refine WP.region ?_ | refine WP.condW ?_ | refine WP.ret ?_ | refine WP.exit ?_ | refine WP.skip ?_); simp only [go_sem, hli, h2, hmi, tyAll]) | ((first | refine WP.drawW 13 (by decide +kernel) (by kernel_rfl) ?_); simp only [go_sem, hli, h2, hmi, tyAll]) |  refine And.intro ?_ ?_ | intro _))
        all_goals first | omega | rfl | skip
    by_cases h7 : tk = 7
    rotate_left
    · have hq := hnx (by simp [knownT, h1, h7])
      (repeat' (first | refine WP.seq ?_ | refine WP.block ?_ | ((first | refine WP.region ?_ | refine WP.condW ?_ | refine WP.ret ?_ | refine WP.exit ?_ | refine WP.skip ?_); simp only [go_sem, hli, h2, h1, h7, tyAll]) | ((first | refine WP.drawW 13 (by decide +kernel) (by kernel_rfl) ?_); simp only [go_sem, hli, h2, h1, h7, tyAll]) |  refine And.intro ?_ ?_ | intro _))
      all_goals first | omega | exact ⟨i + 1, ⟨by omega, hq⟩, by omega, by (first | rfl | exact ⟨rfl, rfl⟩ | exact ⟨rfl, rfl, rfl⟩ | exact ⟨rfl, rfl, rfl, rfl⟩ | exact ⟨rfl, rfl, rfl, rfl, rfl⟩ | exact ⟨⟨rfl, rfl⟩, rfl⟩ | simp)⟩ | skip
    subst h7
    rcases findFn_form P ts with hf | ⟨f, hf, hff⟩
    · rw [hno (by simp [knownT, hf])]
      by_cases hP : 0 < P.length
      · have h3 := rowAt_map encLine P 0 hP
        rw [encLine] at h3
        (repeat' (first | refine WP.seq ?_ | refine WP.block ?_ | ((first | refine WP.region ?_ | refine WP.condW ?_ | refine WP.ret ?_ | refine WP.exit ?_ | refine WP.skip ?_); simp only [go_sem, hli, h2, hf, h3, tyAll]) | ((first | refine WP.drawW 13 (by decide +kernel) (by kernel_rfl) ?_); simp only [go_sem, hli, h2, hf, h3, tyAll]) |  refine And.intro ?_ ?_ | intro _))
        all_goals first | omega | rfl | skip
      · have h3 : Go.Vc.rowAt (P.map encLine) 0 = [] := by unfold Go.Vc.rowAt; rw [List.getElem?_eq_none (by rw [List.length_map]; omega)]; rfl
        (repeat' (first | refine WP.seq ?_ | refine WP.block ?_ | ((first | refine WP.region ?_ | refine WP.condW ?_ | refine WP.ret ?_ | refine WP.exit ?_ | refine WP.skip ?_); simp only [go_sem, hli, h2, hf, h3, tyAll]) | ((first | refine WP.drawW 13 (by decide +kernel) (by kernel_rfl) ?_); simp only [go_sem, hli, h2, hf, h3, tyAll]) |  refine And.intro ?_ ?_ | intro _))
        all_goals first | omega | rfl | skip
    · have h3 := rowAt_map encLine P f hf
      rw [encLine] at h3
      have hal := argsAt_lt hf
      have hf0 : ¬ (f : Int) < 0 := by omega
      have hkt : knownT P A ⟨7, tn, ts⟩ = decide ((P[f].args.length : Int) = tn) := by simp [knownT, hff, hal]
      have hsl : P[f].args.length ≤ 1048576 := by have := hsh _ (List.getElem_mem hf); unfold shLine at this; exact this.1
      generalize P[f].args = AA at h3 hkt hsl
      by_cases hc : (AA.length : Int) = tn
      · have hq := hnx (by rw [hkt]; exact decide_eq_true hc)
        (repeat' (first | refine WP.seq ?_ | refine WP.block ?_ | ((first | refine WP.region ?_ | refine WP.condW ?_ | refine WP.ret ?_ | refine WP.exit ?_ | refine WP.skip ?_); simp only [go_sem, hli, h2, hff, hf0, h3, hc, tyAll]) | ((first | refine WP.drawW 13 (by decide +kernel) (by kernel_rfl) ?_); simp only [go_sem, hli, h2, hff, hf0, h3, hc, tyAll]) |  refine And.intro ?_ ?_ | intro _))
        all_goals first | omega | exact ⟨i + 1, ⟨by omega, hq⟩, by omega, by (first | rfl | exact ⟨rfl, rfl⟩ | exact ⟨rfl, rfl, rfl⟩ | exact ⟨rfl, rfl, rfl, rfl⟩ | exact ⟨rfl, rfl, rfl, rfl, rfl⟩ | exact ⟨⟨rfl, rfl⟩, rfl⟩ | simp)⟩ | skip
      · rw [hno (by rw [hkt]; exact decide_eq_false hc)]
        (repeat' (first | refine WP.seq ?_ | refine WP.block ?_ | ((first | refine WP.region ?_ | refine WP.condW ?_ | refine WP.ret ?_ | refine WP.exit ?_ | refine WP.skip ?_); simp only [go_sem, hli, h2, hff, hf0, h3, hc, tyAll]) | ((first | refine WP.drawW 13 (by decide +kernel) (by kernel_rfl) ?_); simp only [go_sem, hli, h2, hff, hf0, h3, hc, tyAll]) |  refine And.intro ?_ ?_ | intro _))
        all_goals first | omega | rfl | skip
  · have hge : ¬ (i : Int) < E.length := by omega
    rw [knownE_yes fun j hj => hb j hj (by omega)]
    (repeat' (first | refine WP.seq ?_ | refine WP.block ?_ | ((first | refine WP.region ?_ | refine WP.condW ?_ | refine WP.ret ?_ | refine WP.exit ?_ | refine WP.skip ?_); simp only [go_sem, hge, tyAll]) | ((first | refine WP.drawW 13 (by decide +kernel) (by kernel_rfl) ?_); simp only [go_sem, hge, tyAll]) |  refine And.intro ?_ ?_ | intro _))
    all_goals first | omega | rfl | skip
end
end
section
open Go.Vc
set_option linter.unusedSimpArgs false
set_option linter.unusedVariables false
set_option maxHeartbeats 1000000
set_option maxRecDepth 10000
attribute [local irreducible] Go.Vc.WP
attribute [local go_sem] cx0_t cx0_c
attribute [local go_sem] decS_enc decTok_enc decLine_enc oneLine_f line_eta oneTok_f aPk St.fzS addL behind St.runO St.stepO
section
attribute [local irreducible] shLine
noncomputable def cxLclS : Cx := { P := Tryz.prog, tys := tys, C := [(47, kBlk), (100, kIdxS)], hty := tysOk, hC := COk.cons cBlkS (COk.cons cIdxSS (COk.nil _)) }
theorem cxLclS_t : cxLclS.tys = tys := rfl
theorem cxLclS_c : cxLclS.C = [(47, kBlk), (100, kIdxS)] := rfl
attribute [local go_sem] cxLclS_t cxLclS_c kBlk kIdxS
set_option maxHeartbeats 8000000
theorem cLclS : Cn Tryz.prog 98 kLcl := by
  refine Cn.pur Tryz.func98 (by kernel_rfl) rfl fun d x hx => ?_
  obtain ⟨P, k⟩ := x
  obtain ⟨hx, hsh⟩ := hx
  simp only at hx hsh ⊢
  refine Holds.go (c := cxLclS) Tryz.func98 rfl Tryz.results98 Tryz.ntmps98 (by omega) (by simp) rfl ?_
  intro X0 w0
  have lk0 : lk 0 tys = none := rfl
  by_cases hneg : endOf P k < 0
  · rw [localsOf_neg hneg]
    (repeat' (first | (refine WP.regionO (id := 2) ?_; simp only [go_sem, hneg, tyAll]) | refine WP.seq ?_ | refine WP.block ?_ | ((first | refine WP.region ?_ | refine WP.condW ?_ | refine WP.ret ?_ | refine WP.exit ?_ | refine WP.skip ?_); simp only [go_sem, hneg, tyAll]) |  refine And.intro ?_ ?_ | intro _))
    all_goals first | omega | rfl | exact ⟨_, _, rfl⟩ | exact ⟨_, _, _, rfl⟩ | skip
  have hin := endOf_opens (P := P) (k := k) (by omega)
  obtain ⟨n, rfl⟩ := Int.eq_ofNat_of_zero_le hin.1
  have hn : n < P.length := by omega
  obtain ⟨e, he, hE, hne⟩ := endOf_nn (P := P) (k := n) (by omega)
  have hel := hE.lt
  have h1 := rowAt_map encLine P n hn
  have he0 : ¬ (e : Int) < 0 := by omega
  by_cases h3 : P[n].kind = 0
  rotate_left
  · rw [localsOf_kd hn h3]
    (repeat' (first | refine WP.seq ?_ | refine WP.block ?_ | ((first | refine WP.region ?_ | refine WP.condW ?_ | refine WP.ret ?_ | refine WP.exit ?_ | refine WP.skip ?_); simp only [go_sem, h1, encLine, h3, he, he0, tyAll]) |  refine And.intro ?_ ?_ | intro _))
    all_goals first | omega | rfl | exact ⟨_, _, rfl⟩ | exact ⟨_, _, _, rfl⟩ | skip
  rw [localsOf_go hn h3 he]
  have hsn : P[n].args.length ≤ 1048576 := by have := hsh _ (List.getElem_mem hn); unfold shLine at this; exact this.1
  generalize hA0 : P[n].args = A0 at hsn
  rw [encLine, hA0] at h1
  have hnn : (0 : Nat) + A0.length = A0.length := by omega
  (repeat' (first | refine WP.seq ?_ | refine WP.block ?_ | ((first | refine WP.region ?_ | refine WP.condW ?_ | refine WP.ret ?_ | refine WP.exit ?_ | refine WP.skip ?_); simp only [go_sem, h1, h3, he, he0, tyAll]) |  refine And.intro ?_ ?_ | intro _))
  all_goals first | omega | exact rowS_ln ‹_› | skip
  generalize hG : locGo P (e - n) n A0 = G
  refine WP.loop (fun s : Nat × List ByteArray => ⟨[(0, .sl 4 (P.map encLine)), (5, .v (.int .i64 e)), (6, .own 22), (7, .v (.int .i64 s.1))], [(22, .sl 9 1 (s.2.map encS))]⟩)
    (fun s => n ≤ s.1 ∧ s.1 ≤ e ∧ s.2.length ≤ A0.length + s.1 ∧ locGo P (e - s.1) s.1 s.2 = G) (fun s => e - s.1) (n, A0) ⟨by simp only; omega, by simp only; omega, by simp only; omega, hG⟩ ?_ ?_
  · (simp only [go_sem, tyAll] <;> (first | rfl | exact ⟨rfl, rfl⟩ | exact ⟨rfl, rfl, rfl⟩ | exact ⟨rfl, rfl, rfl, rfl⟩ | exact ⟨rfl, rfl, rfl, rfl, rfl⟩ | exact ⟨⟨rfl, rfl⟩, rfl⟩ | simp))
  rintro ⟨i, A⟩ ⟨hi0, hi1, hA, hF⟩
  simp only at hi0 hi1 hA hF ⊢
  by_cases hlt : i < e
  · have hli : (i : Int) < (e : Int) := by omega
    have hiP : i < P.length := by omega
    have h2 := rowAt_map encLine P i hiP
    rw [encLine] at h2
    have hkd := kd_lt hiP
    have hnm := nameAt_lt hiP
    rw [locGo_succ P hlt, hkd, hnm] at hF
    generalize P[i].kind = kk at h2 hF
    generalize P[i].name = nn at h2 hF
    by_cases h1k : kk = 1
    · by_cases hm : nn ∈ A
      · have hmi : ¬ firstIdx (strIs nn) A < 0 := by have := hm; rw [← firstIdx_mem] at this; omega
        rw [if_neg (fun q => q.2 hm)] at hF
        (repeat' (first | refine WP.seq ?_ | refine WP.block ?_ | ((first | refine WP.region ?_ | refine WP.condW ?_ | refine WP.ret ?_ | refine WP.exit ?_ | refine WP.skip ?_); simp only [go_sem, hli, h2, h1k, hmi, tyAll]) |  refine And.intro ?_ ?_ | intro _))
        all_goals first | omega | exact ⟨(i + 1, A), ⟨by simp only; omega, by simp only; omega, by simp only; omega, hF⟩, by simp only; omega, by (first | rfl | exact ⟨rfl, rfl⟩ | exact ⟨rfl, rfl, rfl⟩ | exact ⟨rfl, rfl, rfl, rfl⟩ | exact ⟨rfl, rfl, rfl, rfl, rfl⟩ | exact ⟨⟨rfl, rfl⟩, rfl⟩ | simp)⟩ | skip
      · have hmi : firstIdx (strIs nn) A < 0 := by have := hm; rw [← firstIdx_mem] at this; omega
        rw [if_pos ⟨h1k, hm⟩] at hF
        (repeat' (first | refine WP.seq ?_ | refine WP.block ?_ | ((first | refine WP.region ?_ | refine WP.condW ?_ | refine WP.ret ?_ | refine WP.exit ?_ | refine WP.skip ?_); simp only [go_sem, hli, h2, h1k, hmi, tyAll]) |  refine And.intro ?_ ?_ | intro _))
        all_goals first | omega | exact ⟨(i + 1, A ++ [nn]), ⟨by simp only; omega, by simp only; omega, by simp only [List.length_append, List.length_cons, List.length_nil]; omega, hF⟩, by simp only; omega, by simp only [List.map_append, List.map_cons, List.map_nil, encS]; (first | rfl | exact ⟨rfl, rfl⟩ | exact ⟨rfl, rfl, rfl⟩ | exact ⟨rfl, rfl, rfl, rfl⟩ | exact ⟨rfl, rfl, rfl, rfl, rfl⟩ | exact ⟨⟨rfl, rfl⟩, rfl⟩ | simp)⟩ | skip
    · rw [if_neg (fun q => h1k q.1)] at hF
      (repeat' (first | refine WP.seq ?_ | refine WP.block ?_ | ((first | refine WP.region ?_ | refine WP.condW ?_ | refine WP.ret ?_ | refine WP.exit ?_ | refine WP.skip ?_); simp only [go_sem, hli, h2, h1k, tyAll]) |  refine And.intro ?_ ?_ | intro _))
      all_goals first | omega | exact ⟨(i + 1, A), ⟨by simp only; omega, by simp only; omega, by simp only; omega, hF⟩, by simp only; omega, by (first | rfl | exact ⟨rfl, rfl⟩ | exact ⟨rfl, rfl, rfl⟩ | exact ⟨rfl, rfl, rfl, rfl⟩ | exact ⟨rfl, rfl, rfl, rfl, rfl⟩ | exact ⟨⟨rfl, rfl⟩, rfl⟩ | simp)⟩ | skip
  · have hge : ¬ (i : Int) < (e : Int) := by omega
    rw [show e - i = 0 by omega, locGo] at hF
    subst hF
    (repeat' (first | refine WP.seq ?_ | refine WP.block ?_ | ((first | refine WP.region ?_ | refine WP.condW ?_ | refine WP.ret ?_ | refine WP.exit ?_ | refine WP.skip ?_); simp only [go_sem, hge, tyAll]) |  refine And.intro ?_ ?_ | intro _))
    all_goals first | omega | rfl | skip
end
end
end Go.Proofs.YtdhkhapbldkkdaaGreatDoor
namespace Go.Proofs.YtdhkhapbldkkdaaGreatDoor
set_option linter.unusedVariables false
def popR (i : Int) : List Int → List Int
  | [] => []
  | x :: R => if x < i then popR i R else x :: R
def popL (i : Int) (L : List Int) : List Int := (popR i L.reverse).reverse
theorem popL_lt {i x : Int} (L : List Int) (h : x < i) : popL i (L ++ [x]) = popL i L := by
  unfold popL
  rw [List.reverse_append, List.reverse_singleton, List.singleton_append, popR, if_pos h]
theorem popL_ge {i x : Int} (L : List Int) (h : ¬ x < i) : popL i (L ++ [x]) = L ++ [x] := by
  unfold popL
  rw [List.reverse_append, List.reverse_singleton, List.singleton_append, popR, if_neg h, List.reverse_cons, List.reverse_reverse]
inductive Stk (P : List Line) (b : Int) : Nat → List Int → Prop
  | nil {i : Nat} (h : sumTo P i = b) : Stk P b i []
  | snoc {i j x : Nat} {L : List Int} (hL : Stk P b j L) (ho : opensK (kd P j) = true) (hE : IsEnd P j x) (hji : j < i) (hix : i ≤ x) (hs : sumTo P i = sumTo P j + 1) : Stk P b i (L ++ [(x : Int)])
theorem Stk.len {P : List Line} {b : Int} {i : Nat} {L : List Int} (h : Stk P b i L) : (L.length : Int) = sumTo P i - b := by
  induction h with
  | nil h => simp only [List.length_nil]; omega
  | snoc hL ho hE hji hix hs ih => simp only [List.length_append, List.length_cons, List.length_nil]; omega
theorem Stk.pop {P : List Line} {b : Int} {i : Nat} {L : List Int} (h : Stk P b i L) : popL i L = L := by
  cases h with
  | nil h => rfl
  | snoc hL ho hE hji hix hs => exact popL_ge _ (by omega)
theorem Stk.next {P : List Line} {k e i : Nat} {L : List Int} (hk : kd P k = 0) (he : IsEnd P k e) (h1 : k < i) (h2 : i < e) (hki : kd P i ≠ 0) (h : Stk P (sumTo P (k + 1)) i L) :
    Stk P (sumTo P (k + 1)) (i + 1) (popL ((i + 1 : Nat) : Int) (if kd P i = 3 ∨ kd P i = 5 then L ++ [endOf P i] else L)) := by
  have hs1 : sumTo P (k + 1) = sumTo P k + 1 := by rw [sumTo, hk]; rfl
  by_cases ho : kd P i = 3 ∨ kd P i = 5
  · rw [if_pos ho]
    have hop : opensK (kd P i) = true := opensK_iff.2 (.inr ho)
    obtain ⟨e', a, b, c, d⟩ := he.nest (opens_of (.inl hk)) h1 h2 hop
    rw [a, popL_ge _ (by omega)]
    exact .snoc h hop b (by omega) (by omega) (by rw [sumTo, delta_open hop])
  · rw [if_neg ho]
    have hnop : opensK (kd P i) = false := by
      cases hb : opensK (kd P i) with
      | false => rfl
      | true => rcases opensK_iff.1 hb with q | q | q
                · exact absurd q hki
                · exact absurd (.inl q) ho
                · exact absurd (.inr q) ho
    by_cases h7 : kd P i = 7
    · have hs : sumTo P (i + 1) = sumTo P i - 1 := by rw [sumTo, h7, delta_end]; omega
      cases h with
      | nil h => exact absurd (show sumTo P (i + 1) = sumTo P k by omega) (he.least i (by omega) h2)
      | @snoc _ j x L0 hL hoj hE hji hix hsj =>
        have hxi : x = i := by
          rcases Nat.lt_or_ge i x with q | q
          · exact absurd (show sumTo P (i + 1) = sumTo P j by omega) (hE.least i (by omega) q)
          · omega
        subst hxi
        rw [popL_lt _ (by omega)]
        have hn : Stk P (sumTo P (k + 1)) (x + 1) L0 := by
          cases hL with
          | nil h => exact .nil (by omega)
          | @snoc _ j' y L1 hL1 hoj' hE' hj' hjy hsj' =>
            refine .snoc hL1 hoj' hE' (by omega) ?_ (by omega)
            rcases Nat.lt_or_ge x y with q | q
            · omega
            · exfalso
              have hsy := hE'.sum
              rcases Nat.lt_or_ge y x with q2 | q2
              · have := hE.inside hoj (show j < y + 1 by omega) (by omega)
                omega
              · rw [show y = x by omega] at hsy; omega
        rw [hn.pop]; exact hn
    · have hs : sumTo P (i + 1) = sumTo P i := by rw [sumTo, delta_else hnop h7]; omega
      have hn : Stk P (sumTo P (k + 1)) (i + 1) L := by
        cases h with
        | nil h => exact .nil (by omega)
        | @snoc _ j x L0 hL hoj hE hji hix hsj =>
          have hx7 := hE.kind hoj (by omega)
          refine .snoc hL hoj hE (by omega) ?_ (by omega)
          rcases Nat.lt_or_ge i x with q | q
          · omega
          · rw [show x = i by omega] at hx7; exact absurd hx7 h7
      rw [hn.pop]; exact hn
noncomputable def bodyIB (P : List Line) (k e : Nat) : Bool := @decide (bodyI P k e) (Classical.propDecidable _)
theorem bodyIB_yes {P : List Line} {k e : Nat} (h : bodyI P k e) : bodyIB P k e = true := by unfold bodyIB; exact @decide_eq_true _ (Classical.propDecidable _) h
theorem bodyIB_no {P : List Line} {k e : Nat} (h : ¬ bodyI P k e) : bodyIB P k e = false := by unfold bodyIB; exact @decide_eq_false _ (Classical.propDecidable _) h
theorem bodyIB_of {P : List Line} {k e : Nat} (h : bodyIB P k e = true) : bodyI P k e := by unfold bodyIB at h; exact @of_decide_eq_true _ (Classical.propDecidable _) h
noncomputable def bodySB (P : List Line) (k e : Nat) : Bool := @decide (bodyS P k e) (Classical.propDecidable _)
theorem bodySB_yes {P : List Line} {k e : Nat} (h : bodyS P k e) : bodySB P k e = true := by unfold bodySB; exact @decide_eq_true _ (Classical.propDecidable _) h
theorem bodySB_no {P : List Line} {k e : Nat} (h : ¬ bodyS P k e) : bodySB P k e = false := by unfold bodySB; exact @decide_eq_false _ (Classical.propDecidable _) h
theorem bodySB_of {P : List Line} {k e : Nat} (h : bodySB P k e = true) : bodyS P k e := by unfold bodySB at h; exact @of_decide_eq_true _ (Classical.propDecidable _) h
def condI (P : List Line) (k i : Nat) : Prop := kd P i ≠ 0 ∧ sumTo P i - sumTo P (k + 1) + (if kd P i = 3 ∨ kd P i = 5 then 1 else 0) ≤ 4 ∧ knownE P (localsOf P k) (exprAt P i) = true
def condS (P : List Line) (k i : Nat) : Prop := kd P i ≠ 0 ∧ (kd P i = 4 → ∃ j : Nat, k ≤ j ∧ j < i ∧ elseOf P j = (i : Int)) ∧ sumTo P (i + 1) - sumTo P (k + 1) ≤ 4 ∧ knownE P (localsOf P k) (exprAt P i) = true
theorem condI.kn {P : List Line} {k i : Nat} (h : condI P k i) : kd P i ≠ 0 := h.1
theorem condS.kn {P : List Line} {k i : Nat} (h : condS P k i) : kd P i ≠ 0 := h.1
theorem condS.el {P : List Line} {k i : Nat} (h : condS P k i) : kd P i = 4 → ∃ j : Nat, k ≤ j ∧ j < i ∧ elseOf P j = (i : Int) := h.2.1
theorem condS.dp {P : List Line} {k i : Nat} (h : condS P k i) : sumTo P (i + 1) - sumTo P (k + 1) ≤ 4 := h.2.2.1
theorem condS.kw {P : List Line} {k i : Nat} (h : condS P k i) : knownE P (localsOf P k) (exprAt P i) = true := h.2.2.2
theorem condI_no {P : List Line} {k e i : Nat} (h1 : k < i) (h2 : i ≤ e) (h : ¬ condI P k i) : bodyIB P k e = false := bodyIB_no fun q => h (q.2 i h1 h2)
theorem condS_no {P : List Line} {k e i : Nat} (h1 : k < i) (h2 : i < e) (h : ¬ condS P k i) : bodySB P k e = false := bodySB_no fun q => h (q.2 i h1 h2)
end Go.Proofs.YtdhkhapbldkkdaaGreatDoor

