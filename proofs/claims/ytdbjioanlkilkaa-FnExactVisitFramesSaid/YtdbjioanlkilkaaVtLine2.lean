/-
  DERIVED. Copies of lines that own what is in them; whether lines are the same; their marks.
-/
import Derived.Test.YtdbjioanlkilkaaVtLine
import Derived.Test.YtdbjioanlkilkaaVpNest
namespace Go.Proofs.Ytdbjioanlkilkaa
open Go.Vc
set_option linter.unusedSimpArgs false
set_option linter.unusedVariables false
set_option maxHeartbeats 1000000
set_option maxRecDepth 10000
attribute [local go_sem] St.runR St.runW St.stepV offV St.step St.stepU St.stepG mkCond guardB St.prK St.pr St.prLen St.eff St.callE St.callD St.callF St.callL aI aB aS aR aC St.isM St.argL Ctr.pure Ctr.lend Ctr.move Ctr.isL Ctr.wri pur len lentBy St.lentV St.lent1 nthS argsR restOf obsR pairs swapL unObs backL St.resL erL SV.ren1 SV.up SV.up2 Ob.up St.fzL cellIds partIds St.intoRow SV.ownId St.fz SV.fz1 St.prep St.mvL St.mv SV.re1 rnOk St.prEq vals eqCells scEq Value.kd St.prStr St.prCut cutR St.bnd St.prMin St.bld isShift outL retL outJ oR oC oE oD SV.upq SV.isSl SV.shut St.ev St.get St.put St.new St.kill SV.kill SV.kill1 Ob.kill St.app St.wrt St.rowsOf St.res St.killL lk er argsL SV.strip SV.need SV.share SV.share1 SV.owns SV.owns1 SV.owns2 SV.good SV.good1 SV.rok SV.rok1 SV.rok2 SV.isV SV.isV2 nodupN SV.cells SV.one SV.pur Ob.pb partsIn rowsIn splice cellsAt dstOk scal2 scal1 thenK blockK retK outK outs okC okL okA okT nilC nilL nilA nilT keepC keepL keepA keepT St.runG St.dltK St.least St.clean St.final St.hide offK badS badO SV.refs SV.leaf SV.leaf2 Ob.refs dlOk fpAt Go.Vc.cover tups SV.ofAgg St.out outC subL St.has rng wr Value.oneCell' Option.isSome_some Option.isSome_none List.nil_append Bool.false_eq_true List.map_cons List.map_nil List.all_cons List.all_nil List.length_cons List.length_nil List.drop_zero List.drop_succ_cons List.take_succ_cons List.take_zero List.drop_nil List.take_nil List.getElem?_cons_zero List.getElem?_cons_succ List.getElem?_nil List.cons_append List.nil_append List.append_nil List.append_assoc List.flatMap_cons List.flatMap_nil List.contains_cons List.contains_nil List.set_cons_zero List.set_cons_succ List.getElem?_toArray Option.getD_some Option.getD_none Option.map_some Option.map_none Option.bind_some Option.some.injEq Prod.mk.injEq if_true if_false true_and and_true and_self and_false false_and Bool.and_false Bool.false_and Bool.or_true Bool.true_or Bool.or_false Bool.false_or ne_eq not_true_eq_false not_false_eq_true decide_true decide_false List.mem_cons List.not_mem_nil List.filter_cons List.filter_nil List.any_cons List.any_nil List.isEmpty_nil List.isEmpty_cons Option.getD_none or_false false_or true_or or_true forall_eq_or_imp forall_eq reduceCtorEq exists_eq exists_eq' exists_eq_left' exists_eq_left exists_eq_right exists_eq_right' imp_self implies_true Bool.and_true Bool.true_and Bool.and_self beq_self_eq_true List.replicate_succ List.replicate_zero forall_const false_implies pickB_or pickB_and beqT beqF Int.toNat_natCast List.length_map List.length_replicate ge_iff_le gt_iff_lt decide_eq_true_eq decide_eq_false_iff_not Bool.and_eq_true Bool.or_eq_true Bool.not_eq_true' Bool.not_eq_false' condG List.toList_toArray Bool.or_eq_false_iff Bool.and_eq_false_iff Int.not_lt Int.not_le beq_iff_eq beq_eq_false_iff_ne bne_iff_ne bne_eq_false_iff_eq ne_eq Bool.not_true Bool.not_false exists_and_left
attribute [local irreducible] Go.Vc.WP
attribute [local go_sem] cx0_t cx0_c
attribute [local go_sem] decS_enc decTok_enc decLine_enc oneLine_f line_eta ghoK St.gho St.gh SV.flat
theorem allVs_map {α : Type} {en : α → List SV} (h : ∀ x, ∀ c ∈ en x, ∃ v, c = SV.v v) (L : List α) : allVs (L.map en) ↔ True := iff_true_intro (by
  intro row hr c hc
  obtain ⟨n, _, rfl⟩ := List.mem_map.1 hr
  exact h n c hc)
theorem allVs_S (L : List ByteArray) : allVs (L.map encS) ↔ True := allVs_map (fun x c hc => by simp only [encS, List.mem_cons, List.not_mem_nil, or_false] at hc; exact ⟨_, hc⟩) L
theorem allVs_Tok (L : List Tok) : allVs (L.map encTok) ↔ True := allVs_map (fun x c hc => by simp only [encTok, List.mem_cons, List.not_mem_nil, or_false] at hc; rcases hc with rfl | rfl | rfl <;> exact ⟨_, rfl⟩) L
theorem allVs_rep {n : Nat} {z : List SV} (h : ∀ c ∈ z, ∃ v, c = SV.v v) : allVs (List.replicate n z) := fun row hr c hc => by
  rw [List.eq_of_mem_replicate hr] at hc
  exact h c hc
attribute [local go_sem] allVs_S allVs_Tok
def ktoLineO : Ctr := pur (fun args => decLine (aR args 0)) (fun L => [.sl 4 (L.map encLine)]) (fun L => L.length ≤ 1048576 ∧ ∀ x ∈ L, shLine x) (fun d _ => .own d) (fun d L => [(d, .dp 103 4 (L.map encLine))])
section
noncomputable def cxTls : Cx := { P := Try.prog, tys := tys, C := [(42, ktoLine)], hty := tysOk, hC := COk.cons ctoLine (COk.nil _) }
theorem cxTls_t : cxTls.tys = tys := rfl
theorem cxTls_c : cxTls.C = [(42, ktoLine)] := rfl
attribute [local go_sem] cxTls_t cxTls_c ktoLine
theorem ctoLineO : Cn Try.prog 9 ktoLineO := by
  refine Cn.pur Try.func9 (by kernel_rfl) rfl fun d x hx => ?_
  rename List Line => L
  obtain ⟨hL, hY⟩ := hx
  refine Holds.go (c := cxTls) Try.func9 rfl Try.results9 Try.ntmps9 (by omega) (by simp) rfl ?_
  intro X0 w0
  (repeat' (first | refine WP.seq ?_ | refine WP.block ?_ | ((first | refine WP.region ?_ | refine WP.condW ?_ | refine WP.ret ?_ | refine WP.exit ?_ | refine WP.skip ?_); simp only [go_sem, tyAll, Nat.reduceAdd, Nat.reduceLT, Nat.reduceLeDiff, Nat.reduceEqDiff, Nat.reduceMul, Nat.reduceSub, Nat.reduceGT, reduceIte, Int.reduceNeg, Int.reduceToNat]) |  refine And.intro ?_ ?_ | intro _))
  all_goals first | omega | skip
  refine WP.gho [.dp 7] ?_
  simp only [go_sem, tyAll, Nat.reduceAdd, Nat.reduceLT, Nat.reduceLeDiff, Nat.reduceEqDiff, Nat.reduceMul, Nat.reduceSub, Nat.reduceGT, reduceIte, Int.reduceNeg, Int.reduceToNat]
  refine ⟨allVs_rep (by simp), ?_⟩
  refine WP.loop (fun k : Nat => ⟨[(0, .sl 4 (L.map encLine)), (3, .own 7), (4, .v (.int .i64 k))], [(7, .dp 103 4 (filled encLine zerLine L k))]⟩) (fun k => k ≤ L.length) (fun k => L.length - k) 0 (by omega) ?_ ?_
  · rw [filled_zero]; simp only [go_sem, tyAll, Nat.reduceAdd, Nat.reduceLT, Nat.reduceLeDiff, Nat.reduceEqDiff, Nat.reduceMul, Nat.reduceSub, Nat.reduceGT, reduceIte, Int.reduceNeg, Int.reduceToNat]; first | exact ⟨rfl, rfl⟩ | rfl
  intro k hk
  by_cases hlt : k < L.length
  · have h0 := hY _ (List.getElem_mem hlt)
    have h1 := rowAt_map encLine L k hlt
    have h2 := filled_len encLine zerLine L k hk
    have h3 : Go.Vc.rowAt (filled encLine zerLine L k) k = [.v (.int .i64 0), .v (.string ⟨#[]⟩), .v (.slice none 0 0), .v (.slice none 0 0)] := filled_row encLine zerLine L k hlt
    have h4 := filled_set encLine zerLine L k hlt
    rw [encLine] at h4
    refine WP.post [.abs 7 2, .abs 7 3, .fld 7] ?_
    refine WP.gho [.opn 7 k] ?_
    simp only [go_sem, h2, h3, tyAll, Nat.reduceAdd, Nat.reduceLT, Nat.reduceLeDiff, Nat.reduceEqDiff, Nat.reduceMul, Nat.reduceSub, Nat.reduceGT, reduceIte, Int.reduceNeg, Int.reduceToNat]
    refine ⟨hlt, ?_⟩
    (repeat' (first | refine WP.seq ?_ | refine WP.block ?_ | ((first | refine WP.region ?_ | refine WP.condW ?_ | refine WP.ret ?_ | refine WP.exit ?_ | refine WP.skip ?_); simp only [go_sem, h1, h2, h3, h4, encLine, tyAll, Nat.reduceAdd, Nat.reduceLT, Nat.reduceLeDiff, Nat.reduceEqDiff, Nat.reduceMul, Nat.reduceSub, Nat.reduceGT, reduceIte, Int.reduceNeg, Int.reduceToNat]) |  refine And.intro ?_ ?_ | intro _))
    all_goals first | omega | exact h0.1 | exact h0.2 | exact ⟨k + 1, by omega, by omega, rfl, rfl⟩ | skip
    all_goals trace_state
  · have h2 := filled_len encLine zerLine L k hk
    have h5 : filled encLine zerLine L k = L.map encLine := by rw [show k = L.length by omega]; exact filled_all _ _ _
    (repeat' (first | refine WP.seq ?_ | refine WP.block ?_ | ((first | refine WP.region ?_ | refine WP.condW ?_ | refine WP.ret ?_ | refine WP.exit ?_ | refine WP.skip ?_); simp only [go_sem, h2, h5, tyAll, Nat.reduceAdd, Nat.reduceLT, Nat.reduceLeDiff, Nat.reduceEqDiff, Nat.reduceMul, Nat.reduceSub, Nat.reduceGT, reduceIte, Int.reduceNeg, Int.reduceToNat]) |  refine And.intro ?_ ?_ | intro _))
    all_goals first | omega | skip
    all_goals trace_state
end

def ktoLineZ : Ctr := pur (fun args => decLine (aR args 0)) (fun L => [.sl 4 (L.map encLine)]) (fun L => L.length ≤ 1048576 ∧ ∀ x ∈ L, shLine x) (fun _ L => .sl 4 (L.map encLine)) (fun _ _ => [])
theorem ctoLineZ : Cn Try.prog 9 ktoLineZ := ⟨ctoLineO.call, fun d args ha => (ctoLineO.holds d args ha).frozenD, fun _ _ _ h => h.elim⟩

/-! ## the same? (of two that are) -/
def kqLine : Ctr := pur (fun args => oneLine (aC args 0)) (fun x => [.agg [.v (.int .i64 x.kind), .v (.string x.name), .sl 1 (x.args.map encS), .sl 3 (x.expr.map encTok)], .agg [.v (.int .i64 x.kind), .v (.string x.name), .sl 1 (x.args.map encS), .sl 3 (x.expr.map encTok)]]) shLine (fun _ _ => .v (.bool true)) (fun _ _ => [])
section
noncomputable def cxQln : Cx := { P := Try.prog, tys := tys, C := [(86, keqS), (87, keqTokS)], hty := tysOk, hC := COk.cons ceqS (COk.cons ceqTokS (COk.nil _)) }
theorem cxQln_t : cxQln.tys = tys := rfl
theorem cxQln_c : cxQln.C = [(86, keqS), (87, keqTokS)] := rfl
attribute [local go_sem] cxQln_t cxQln_c keqS keqTokS
theorem cqLine : Cn Try.prog 45 kqLine := by
  refine Cn.pur Try.func45 (by kernel_rfl) rfl fun d x hx => ?_
  obtain ⟨k, n, A, E⟩ := x
  unfold shLine at hx
  obtain ⟨hA, hE⟩ := hx
  simp only at hA hE ⊢
  refine Holds.go (c := cxQln) Try.func45 rfl Try.results45 Try.ntmps45 (by omega) (by simp) rfl ?_
  intro X0 w0
  (repeat' (first | refine WP.seq ?_ | refine WP.block ?_ | ((first | refine WP.region ?_ | refine WP.condW ?_ | refine WP.ret ?_ | refine WP.exit ?_ | refine WP.skip ?_); simp only [go_sem, tyAll, Nat.reduceAdd, Nat.reduceLT, Nat.reduceLeDiff, Nat.reduceEqDiff, Nat.reduceMul, Nat.reduceSub, Nat.reduceGT, reduceIte, Int.reduceNeg, Int.reduceToNat]) |  refine And.intro ?_ ?_ | intro _))
  all_goals first | omega | skip
  all_goals trace_state
end
def kqLineS : Ctr := pur (fun args => decLine (aR args 0)) (fun L => [.sl 4 (L.map encLine), .sl 4 (L.map encLine)]) (fun L => L.length ≤ 1048576 ∧ ∀ x ∈ L, shLine x) (fun _ _ => .v (.bool true)) (fun _ _ => [])
section
attribute [local irreducible] shLine
noncomputable def cxQls : Cx := { P := Try.prog, tys := tys, C := [(45, kqLine)], hty := tysOk, hC := COk.cons cqLine (COk.nil _) }
theorem cxQls_t : cxQls.tys = tys := rfl
theorem cxQls_c : cxQls.C = [(45, kqLine)] := rfl
attribute [local go_sem] cxQls_t cxQls_c kqLine
theorem cqLineS : Cn Try.prog 13 kqLineS := by
  refine Cn.pur Try.func13 (by kernel_rfl) rfl fun d x hx => ?_
  rename List Line => L
  obtain ⟨hL, hY⟩ := hx
  refine Holds.go (c := cxQls) Try.func13 rfl Try.results13 Try.ntmps13 (by omega) (by simp) rfl ?_
  intro X0 w0
  (repeat' (first | refine WP.seq ?_ | refine WP.block ?_ | ((first | refine WP.region ?_ | refine WP.condW ?_ | refine WP.ret ?_ | refine WP.exit ?_ | refine WP.skip ?_); simp only [go_sem, tyAll, Nat.reduceAdd, Nat.reduceLT, Nat.reduceLeDiff, Nat.reduceEqDiff, Nat.reduceMul, Nat.reduceSub, Nat.reduceGT, reduceIte, Int.reduceNeg, Int.reduceToNat]) | ((first | refine WP.drawW 10 (by decide +kernel) (by kernel_rfl) ?_); simp only [go_sem, tyAll, Nat.reduceAdd, Nat.reduceLT, Nat.reduceLeDiff, Nat.reduceEqDiff, Nat.reduceMul, Nat.reduceSub, Nat.reduceGT, reduceIte, Int.reduceNeg, Int.reduceToNat]) |  refine And.intro ?_ ?_ | intro _))
  all_goals first | omega | skip
  refine WP.loop (fun k : Nat => ⟨[(0, .sl 4 (L.map encLine)), (1, .sl 4 (L.map encLine)), (5, .v (.int .i64 k))], []⟩) (fun k => k ≤ L.length) (fun k => L.length - k) 0 (by simp) ?_ ?_
  · simp only [go_sem, tyAll, Nat.reduceAdd, Nat.reduceLT, Nat.reduceLeDiff, Nat.reduceEqDiff, Nat.reduceMul, Nat.reduceSub, Nat.reduceGT, reduceIte, Int.reduceNeg, Int.reduceToNat]; first | exact ⟨rfl, rfl⟩ | rfl
  intro k hk
  by_cases hlt : k < L.length
  · have h1 := rowAt_map encLine L k hlt
    have h0 := hY _ (List.getElem_mem hlt)
    (repeat' (first | refine WP.seq ?_ | refine WP.block ?_ | ((first | refine WP.region ?_ | refine WP.condW ?_ | refine WP.ret ?_ | refine WP.exit ?_ | refine WP.skip ?_); simp only [go_sem, h1, encLine, tyAll, Nat.reduceAdd, Nat.reduceLT, Nat.reduceLeDiff, Nat.reduceEqDiff, Nat.reduceMul, Nat.reduceSub, Nat.reduceGT, reduceIte, Int.reduceNeg, Int.reduceToNat]) | ((first | refine WP.drawW 10 (by decide +kernel) (by kernel_rfl) ?_); simp only [go_sem, h1, encLine, tyAll, Nat.reduceAdd, Nat.reduceLT, Nat.reduceLeDiff, Nat.reduceEqDiff, Nat.reduceMul, Nat.reduceSub, Nat.reduceGT, reduceIte, Int.reduceNeg, Int.reduceToNat]) |  refine And.intro ?_ ?_ | intro _))
    all_goals first | omega | exact h0 | exact ⟨k + 1, by omega, by omega, rfl⟩ | exact ⟨k + 1, by omega, by omega, rfl, rfl⟩ | skip
    all_goals trace_state
  · (repeat' (first | refine WP.seq ?_ | refine WP.block ?_ | ((first | refine WP.region ?_ | refine WP.condW ?_ | refine WP.ret ?_ | refine WP.exit ?_ | refine WP.skip ?_); simp only [go_sem, tyAll, Nat.reduceAdd, Nat.reduceLT, Nat.reduceLeDiff, Nat.reduceEqDiff, Nat.reduceMul, Nat.reduceSub, Nat.reduceGT, reduceIte, Int.reduceNeg, Int.reduceToNat]) | ((first | refine WP.drawW 10 (by decide +kernel) (by kernel_rfl) ?_); simp only [go_sem, tyAll, Nat.reduceAdd, Nat.reduceLT, Nat.reduceLeDiff, Nat.reduceEqDiff, Nat.reduceMul, Nat.reduceSub, Nat.reduceGT, reduceIte, Int.reduceNeg, Int.reduceToNat]) |  refine And.intro ?_ ?_ | intro _))
    all_goals first | omega | skip
    all_goals trace_state
end

/-! ## marks -/
def cntLine (x : Line) : Nat := 2 + x.args.length + 3 * x.expr.length
def mrkLine (k : Int) (x : Line) : Line := ⟨k, markT (k + 1), marksS (k + 1 + 1) x.args.length, marksTok (k + 1 + 1 + (x.args.length : Int)) x.expr.length⟩
theorem cntLine_le {x : Line} (h : shLine x) : cntLine x ≤ 8388608 := by unfold cntLine; have := h.1; have := h.2; omega
def kmarkLineS : Ctr := len [0] [] (fun args obs => (decLine (oD obs 1000000), aI args 1, oE obs 1000000)) (fun x => [.own 1000000, .v (.int .i64 x.2.1)]) (fun x => [(1000000, .dp x.2.2 4 (x.1.map encLine))]) (fun x => x.1.length ≤ 1048576 ∧ (∀ y ∈ x.1, shLine y) ∧ 0 ≤ x.2.1 ∧ x.2.1 ≤ 100000000000000)
  (fun _ x => .v (.int .i64 (x.2.1 + (cntA cntLine x.1 : Int)))) (fun _ _ => []) (fun x => [(1000000, .dp x.2.2 4 ((mkA cntLine mrkLine x.2.1 x.1).map encLine))])
section
noncomputable def cxMln : Cx := { P := Try.prog, tys := tys, C := [(46, kmarkT), (47, kmarkSE), (48, kmarkTokE)], hty := tysOk, hC := COk.cons cmarkT (COk.cons cmarkSE (COk.cons cmarkTokE (COk.nil _))) }
theorem cxMln_t : cxMln.tys = tys := rfl
theorem cxMln_c : cxMln.C = [(46, kmarkT), (47, kmarkSE), (48, kmarkTokE)] := rfl
attribute [local go_sem] cxMln_t cxMln_c kmarkT kmarkSE kmarkTokE
theorem cmarkLineS : Cn Try.prog 15 kmarkLineS := by
  refine Cn.len Try.func15 (by kernel_rfl) rfl fun d x hd hx => ?_
  obtain ⟨L, k0, ee⟩ := x
  obtain ⟨hL, hY, h0, h1⟩ := hx
  simp only at hL hY h0 h1 ⊢
  have hcnt : cntA cntLine L ≤ 8796093022208 := Nat.le_trans (cntA_le L 8388608 fun x hx => cntLine_le (hY x hx)) (Nat.le_trans (Nat.mul_le_mul_right _ hL) (by decide))
  refine HoldsL.go (c := cxMln) Try.func15 rfl Try.results15 Try.ntmps15 (by omega) (by simp) rfl (by simp <;> omega) (by simp [SV.owns2, SV.owns, SV.owns1]) (by simp) rfl rfl (by simp) ?_
  intro X0 M w0
  (repeat' (first | refine WP.seq ?_ | refine WP.block ?_ | ((first | refine WP.region ?_ | refine WP.condW ?_ | refine WP.ret ?_ | refine WP.exit ?_ | refine WP.skip ?_); simp only [go_sem, tyAll, Nat.reduceAdd, Nat.reduceLT, Nat.reduceLeDiff, Nat.reduceEqDiff, Nat.reduceMul, Nat.reduceSub, Nat.reduceGT, reduceIte, Int.reduceNeg, Int.reduceToNat]) |  refine And.intro ?_ ?_ | intro _))
  refine WP.loop (fun k : Nat => ⟨[(0, .own 1000000), (1, .v (.int .i64 (k0 + (cntA cntLine (L.take k) : Int)))), (5, .v (.int .i64 k))], [(1000000, .dp ee 4 ((hfA cntLine mrkLine k0 L k).map encLine))]⟩) (fun k => k ≤ L.length) (fun k => L.length - k) 0 (by omega) ?_ ?_
  · have e2 : cntA cntLine (L.take 0) = 0 := rfl
    rw [hfA_zero, e2]; (simp only [go_sem, tyAll, Nat.reduceAdd, Nat.reduceLT, Nat.reduceLeDiff, Nat.reduceEqDiff, Nat.reduceMul, Nat.reduceSub, Nat.reduceGT, reduceIte, Int.reduceNeg, Int.reduceToNat] <;> (first | rfl | exact ⟨rfl, rfl⟩ | exact ⟨rfl, rfl, rfl⟩ | exact ⟨rfl, rfl, rfl, rfl⟩ | exact ⟨rfl, rfl, rfl, rfl, rfl⟩ | exact ⟨⟨rfl, rfl⟩, rfl⟩ | simp))
  intro k hk
  have h2 := hfA_len (cnt := cntLine) (mrk := mrkLine) L k0 k hk
  have hc2 := cntA_take_le (cnt := cntLine) L k
  by_cases hlt : k < L.length
  · have h3 := hfA_set (cnt := cntLine) (mrk := mrkLine) (en := encLine) L k0 k hlt
    have h4 := hfA_row (cnt := cntLine) (mrk := mrkLine) (en := encLine) L k0 k hlt
    have hsh := hY _ (List.getElem_mem hlt)
    have hc3 := cntA_take (cnt := cntLine) L k hlt
    have hc4 := cntA_take_le (cnt := cntLine) L (k + 1)
    generalize L[k] = y at h3 h4 hsh hc3
    obtain ⟨yk, yn, yA, yE⟩ := y
    obtain ⟨hA, hE⟩ := hsh
    generalize hkk : k0 + (cntA cntLine (L.take k) : Int) = kk at h3
    rw [encLine, mrkLine] at h3
    rw [encLine] at h4
    simp only at h3 h4 hA hE
    rw [show cntLine ⟨yk, yn, yA, yE⟩ = 2 + yA.length + 3 * yE.length from rfl] at hc3
    refine WP.post [.abs 1000000 2, .abs 1000000 3, .fld 1000000] ?_
    refine WP.gho [.opn 1000000 k, .borV 1000000 2 500, .borV 1000000 3 501] ?_
    simp only [go_sem, h2, h4, tyAll, Nat.reduceAdd, Nat.reduceLT, Nat.reduceLeDiff, Nat.reduceEqDiff, Nat.reduceMul, Nat.reduceSub, Nat.reduceGT, reduceIte, Int.reduceNeg, Int.reduceToNat]
    refine ⟨hlt, fun e1 e2 => ?_⟩
    (repeat' (first | refine WP.seq ?_ | refine WP.block ?_ | ((first | refine WP.region ?_ | refine WP.condW ?_ | refine WP.ret ?_ | refine WP.exit ?_ | refine WP.skip ?_); simp only [go_sem, h2, h3, h4, tyAll, Nat.reduceAdd, Nat.reduceLT, Nat.reduceLeDiff, Nat.reduceEqDiff, Nat.reduceMul, Nat.reduceSub, Nat.reduceGT, reduceIte, Int.reduceNeg, Int.reduceToNat]) |  refine And.intro ?_ ?_ | intro _))
    all_goals first | omega | skip
    refine ⟨k + 1, by omega, by omega, ⟨?_, rfl⟩, rfl⟩
    rw [show kk + 1 + 1 + (yA.length : Int) + 3 * (yE.length : Int) = k0 + (cntA cntLine (List.take (k + 1) L) : Int) by omega]
  · have h5 : hfA cntLine mrkLine k0 L k = mkA cntLine mrkLine k0 L := by rw [show k = L.length by omega]; exact hfA_all _ _
    have h6 := mkA_len (cnt := cntLine) (mrk := mrkLine) L k0
    (repeat' (first | refine WP.seq ?_ | refine WP.block ?_ | ((first | refine WP.region ?_ | refine WP.condW ?_ | refine WP.ret ?_ | refine WP.exit ?_ | refine WP.skip ?_); simp only [go_sem, h2, h5, h6, tyAll, Nat.reduceAdd, Nat.reduceLT, Nat.reduceLeDiff, Nat.reduceEqDiff, Nat.reduceMul, Nat.reduceSub, Nat.reduceGT, reduceIte, Int.reduceNeg, Int.reduceToNat]) |  refine And.intro ?_ ?_ | intro _))
    all_goals first | omega | skip
    all_goals rw [show k = L.length by omega, List.take_length]
end
end Go.Proofs.Ytdbjioanlkilkaa
