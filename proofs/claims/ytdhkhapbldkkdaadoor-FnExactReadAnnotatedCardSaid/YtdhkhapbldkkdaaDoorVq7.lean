/-
  DERIVED. Several texts of ours in one: VtFmt, VtTkOk, VcRo, VcX, VcZ, VtEx, VtPt.
-/
import Derived.Test.YtdhkhapbldkkdaaDoorVq0
import Derived.Test.YtdhkhapbldkkdaaDoorVq1
import Derived.Test.YtdhkhapbldkkdaaDoorVq2
import Derived.Test.YtdhkhapbldkkdaaDoorVq3
import Derived.Test.YtdhkhapbldkkdaaDoorVq4
import Derived.Test.YtdhkhapbldkkdaaDoorVq5
import Derived.Test.YtdhkhapbldkkdaaDoorVq6
import Derived.Orders
set_option linter.unusedSimpArgs false
set_option linter.unusedVariables false
namespace Go.Proofs.YtdhkhapbldkkdaaDoor
open Go.Vc
attribute [local go_sem] St.runR St.runW St.stepV offV St.step St.stepU St.stepG mkCond guardB St.prK St.pr St.prLen St.eff St.callE St.callD St.callF St.callL aI aB aS aR aC St.isM St.argL Ctr.pure Ctr.lend Ctr.move Ctr.isL Ctr.wri pur len lentBy St.lentV St.lent1 nthS argsR restOf obsR pairs swapL unObs backL St.resL erL SV.ren1 SV.up SV.up2 Ob.up St.fzL cellIds partIds St.intoRow SV.ownId St.fz SV.fz1 St.prep St.mvL St.mv SV.re1 rnOk St.prEq vals eqCells scEq Value.kd St.prStr St.prCut cutR St.bnd St.prMin St.bld isShift outL retL outJ oR oC oE oD SV.upq SV.isSl SV.shut St.deepK St.dpArg St.deepQ absC Ob.pl St.ev St.get St.put St.new St.kill SV.kill SV.kill1 Ob.kill St.app St.wrt St.rowsOf St.res St.killL lk er argsL SV.strip SV.need SV.share SV.share1 SV.owns SV.owns1 SV.owns2 SV.good SV.good1 SV.rok SV.rok1 SV.rok2 SV.isV SV.isV2 nodupN SV.cells SV.one SV.pur Ob.pb partsIn rowsIn splice cellsAt dstOk scal2 scal1 thenK blockK retK outK outs okC okL okA okT nilC nilL nilA nilT keepC keepL keepA keepT St.runG St.dltK St.least St.clean St.final St.hide offK badS badO SV.refs SV.leaf SV.leaf2 Ob.refs dlOk fpAt Go.Vc.cover tups SV.ofAgg St.out outC subL St.has rng wr Value.oneCell' Option.isSome_some Option.isSome_none List.nil_append Bool.false_eq_true List.map_cons List.map_nil List.all_cons List.all_nil List.length_cons List.length_nil List.drop_zero List.drop_succ_cons List.take_succ_cons List.take_zero List.drop_nil List.take_nil List.getElem?_cons_zero List.getElem?_cons_succ List.getElem?_nil List.cons_append List.nil_append List.append_nil List.append_assoc List.flatMap_cons List.flatMap_nil List.contains_cons List.contains_nil List.set_cons_zero List.set_cons_succ List.getElem?_toArray Option.getD_some Option.getD_none Option.map_some Option.map_none Option.bind_some Option.some.injEq Prod.mk.injEq if_true if_false true_and and_true and_self and_false false_and Bool.and_false Bool.false_and Bool.or_true Bool.true_or Bool.or_false Bool.false_or ne_eq not_true_eq_false not_false_eq_true decide_true decide_false List.mem_cons List.not_mem_nil List.filter_cons List.filter_nil List.any_cons List.any_nil List.isEmpty_nil List.isEmpty_cons Option.getD_none or_false false_or true_or or_true forall_eq_or_imp forall_eq reduceCtorEq exists_eq exists_eq' exists_eq_left' exists_eq_left exists_eq_right exists_eq_right' imp_self implies_true Bool.and_true Bool.true_and Bool.and_self beq_self_eq_true List.replicate_succ List.replicate_zero forall_const false_implies pickB_or pickB_and beqT beqF Int.toNat_natCast List.length_map List.length_replicate ge_iff_le gt_iff_lt decide_eq_true_eq decide_eq_false_iff_not Bool.and_eq_true Bool.or_eq_true Bool.not_eq_true' Bool.not_eq_false' condG List.toList_toArray Bool.or_eq_false_iff Bool.and_eq_false_iff Int.not_lt Int.not_le beq_iff_eq beq_eq_false_iff_ne bne_iff_ne bne_eq_false_iff_eq ne_eq Bool.not_true Bool.not_false exists_and_left
section
open Go.Vc
set_option linter.unusedSimpArgs false
set_option linter.unusedVariables false
set_option maxHeartbeats 1000000
set_option maxRecDepth 10000
attribute [local irreducible] Go.Vc.WP
attribute [local go_sem] cx0_t cx0_c
attribute [local go_sem] decNode_enc decFrame_enc oneFrame_enc stkA oneFrame_ab oneNode_abc decI_enc decS_enc
section
noncomputable def cxFiI : Cx := { P := Tryd.prog, tys := tys, C := [(86, kItoa)], hty := tysOk, hC := COk.cons cItoa (COk.nil _) }
theorem cxFiI_t : cxFiI.tys = tys := rfl
theorem cxFiI_c : cxFiI.C = [(86, kItoa)] := rfl
attribute [local go_sem] cxFiI_t cxFiI_c kItoa
theorem cFmtI : Cn Tryd.prog 80 kFmt := by
  refine Cn.pur Tryd.func80 (by kernel_rfl) rfl fun d x hx => ?_
  refine Holds.go (c := cxFiI) Tryd.func80 rfl Tryd.results80 Tryd.ntmps80 (by omega) (by simp) rfl ?_
  intro X0 w0
  (repeat' (first | refine WP.seq ?_ | refine WP.block ?_ | ((first | refine WP.region ?_ | refine WP.condW ?_ | refine WP.ret ?_ | refine WP.exit ?_ | refine WP.skip ?_); simp only [go_sem, tyAll, Nat.reduceAdd, Nat.reduceLT, Nat.reduceLeDiff, Nat.reduceEqDiff, Nat.reduceMul, Nat.reduceSub, Nat.reduceGT, reduceIte, Int.reduceNeg, Int.reduceToNat]) |  refine And.intro ?_ ?_ | intro _))
  all_goals first | omega | skip
end
theorem ba_nil (s : ByteArray) : ⟨#[]⟩ ++ s = s := by
  apply ByteArray.ext
  simp
theorem fmtF_bad {L : List Frame} {k : Nat} (hk : k < L.length) (h : frOk L[k] = false) : fmtF L = ⟨#[]⟩ := by
  unfold fmtF
  rw [if_neg]
  intro ha
  rw [List.all_eq_true] at ha
  rw [ha _ (List.getElem_mem hk)] at h; cases h
theorem frOk_no {f : Frame} (h : frOk f = false) : nameOk f.name = false ∨ f.line < 0 ∨ 59 < f.line := by
  cases hn : nameOk f.name with
  | false => exact .inl rfl
  | true =>
    right
    rcases Int.lt_or_le f.line 0 with h0 | h0
    · exact .inl h0
    · rcases Int.lt_or_le 59 f.line with h1 | h1
      · exact .inr h1
      · rw [frOk_iff.2 ⟨hn, h0, h1⟩] at h; cases h
theorem fmtF_all {L : List Frame} (h : ∀ j (hj : j < L.length), frOk L[j] = true) : fmtF L = bts (joinL 59 (L.map frTxt)) := by
  unfold fmtF
  rw [if_pos]
  rw [List.all_eq_true]
  intro f hf
  obtain ⟨j, hj, rfl⟩ := List.mem_iff_getElem.1 hf
  exact h j hj
theorem joinL_take (L : List Frame) (k : Nat) (hk : k < L.length) : bts (joinL 59 ((L.take (k + 1)).map frTxt)) = (if k = 0 then bts (frTxt L[k]) else bts (joinL 59 ((L.take k).map frTxt)) ++ ⟨#[59]⟩ ++ bts (frTxt L[k])) := by
  rw [List.take_succ_eq_append_getElem hk, List.map_append, List.map_cons, List.map_nil, joinL_snoc]
  by_cases h0 : k = 0
  · subst h0; rw [if_pos (by simp), if_pos rfl]
  · rw [if_neg (by
      intro e
      have := congrArg List.length e
      rw [List.length_map, List.length_take, List.length_nil] at this; omega), if_neg h0, show (⟨#[59]⟩ : ByteArray) = bts [59] from rfl, bts_append, bts_append]
    congr 1
    simp
theorem frTxt_bts (f : Frame) : bts (frTxt f) = f.name ++ ⟨#[58]⟩ ++ bts (fmtL f.line.toNat) := by
  unfold frTxt
  rw [show (58 : UInt8) :: fmtL f.line.toNat = [58] ++ fmtL f.line.toNat from rfl, ← bts_append, ← bts_append, bts_list, ← ByteArray.append_assoc]; rfl
theorem lenJ (L : List Frame) (k : Nat) (hk : k ≤ L.length) (h : ∀ j (hj : j < L.length), j < k → frOk L[j] = true) : (bts (joinL 59 ((L.take k).map frTxt))).size ≤ 12 * k := by
  rw [bts_size]
  have := joinL_len ((L.take k).map frTxt) 11 (fun x hx => by
    obtain ⟨f, hf, rfl⟩ := List.mem_map.1 hx
    rw [List.mem_take_iff_getElem] at hf
    obtain ⟨j, hj, rfl⟩ := hf
    exact (frTxt_len (h j (by omega) (by omega))).2)
  simp only [List.length_map, List.length_take] at this
  omega
def wfFr (L : List Frame) : Prop := L.length ≤ 1099511627776 ∧ ∀ f ∈ L, f.name.size ≤ 1099511627776
def kFmtF : Ctr := pur (fun args => decFrame (aR args 0)) (fun L => [.sl 2 (L.map encFrame)]) (fun L => wfFr L) (fun _ L => .v (.string (fmtF L))) (fun _ _ => [])
section
noncomputable def cxFfS : Cx := { P := Tryd.prog, tys := tys, C := [(42, kNameOk), (41, k60), (38, kFmt)], hty := tysOk, hC := COk.cons cNameOkS (COk.cons c58 (COk.cons cFmtS (COk.nil _))) }
theorem cxFfS_t : cxFfS.tys = tys := rfl
theorem cxFfS_c : cxFfS.C = [(42, kNameOk), (41, k60), (38, kFmt)] := rfl
attribute [local go_sem] cxFfS_t cxFfS_c kNameOk k60 kFmt
end
section
noncomputable def cxFfI : Cx := { P := Tryd.prog, tys := tys, C := [(80, kFmt), (51, kJoin)], hty := tysOk, hC := COk.cons cFmtI (COk.cons cJoin (COk.nil _)) }
theorem cxFfI_t : cxFfI.tys = tys := rfl
theorem cxFfI_c : cxFfI.C = [(80, kFmt), (51, kJoin)] := rfl
attribute [local go_sem] cxFfI_t cxFfI_c kFmt kJoin
theorem mapData (L : List Frame) (k : Nat) : (((L.take k).map fun f => bts (frTxt f)).map (·.data.toList)) = (L.take k).map frTxt := by
  rw [List.map_map]
  exact List.map_congr_left fun f _ => by simp [bts]
theorem takeS (L : List Frame) (k : Nat) (hk : k < L.length) : ((L.take k).map fun f => bts (frTxt f)).map encS ++ [[SV.v (.string (L[k].name ++ ⟨#[58]⟩ ++ bts (fmtL L[k].line.toNat)))]] = ((L.take (k + 1)).map fun f => bts (frTxt f)).map encS := by
  rw [List.take_succ_eq_append_getElem hk, List.map_append, List.map_append, List.map_cons, List.map_nil, frTxt_bts]; rfl
end
end
section
open Go.Vc
set_option linter.unusedSimpArgs false
set_option linter.unusedVariables false
set_option maxHeartbeats 1000000
set_option maxRecDepth 10000
attribute [local irreducible] Go.Vc.WP
attribute [local go_sem] cx0_t cx0_c
attribute [local go_sem] decTok_enc
theorem oneTok_f (k n : Int) (s : ByteArray) : oneTok [.v (.int .i64 k), .v (.int .i64 n), .v (.string s)] = ⟨k, n, s⟩ := rfl
attribute [local go_sem] oneTok_f
def smTok (t : Tok) : Prop := t.name.size ≤ 1099511627776
def smToks (L : List Tok) : Prop := L.length ≤ 1048576 ∧ ∀ t ∈ L, smTok t
def kTokOk : Ctr := pur (fun args => oneTok (aC args 0)) (fun x => [.agg [.v (.int .i64 x.kind), .v (.int .i64 x.num), .v (.string x.name)]]) smTok (fun _ x => .v (.bool (tokOk x))) (fun _ _ => [])
def kArity : Ctr := pur (fun args => oneTok (aC args 0)) (fun x => [.agg [.v (.int .i64 x.kind), .v (.int .i64 x.num), .v (.string x.name)]]) smTok (fun _ x => .v (.int .i64 (arity x))) (fun _ _ => [])
def kEnd : Ctr := pur (fun args => (decTok (aR args 0), aI args 1)) (fun x => [.sl 3 (x.1.map encTok), .v (.int .i64 x.2)]) (fun x => smToks x.1) (fun _ x => .v (.int .i64 (exprEnd x.1 x.2))) (fun _ _ => [])
def kExOk : Ctr := pur (fun args => decTok (aR args 0)) (fun x => [.sl 3 (x.map encTok)]) smToks (fun _ x => .v (.bool (exprOk x))) (fun _ _ => [])
def kFmtT : Ctr := pur (fun args => oneTok (aC args 0)) (fun x => [.agg [.v (.int .i64 x.kind), .v (.int .i64 x.num), .v (.string x.name)]]) smTok (fun _ x => .v (.string (fmtTok x))) (fun _ _ => [])
theorem tokOk_0 (n : Int) (s : ByteArray) : tokOk ⟨0, n, s⟩ = (decide (0 ≤ n) && decide (n ≤ 999) && decide (s = ⟨#[]⟩)) := rfl
theorem tokOk_1 (n : Int) (s : ByteArray) : tokOk ⟨1, n, s⟩ = ((n == 0) && nameOk s) := rfl
theorem tokOk_7 (n : Int) (s : ByteArray) : tokOk ⟨7, n, s⟩ = (decide (0 ≤ n) && decide (n ≤ 4) && nameOk s) := rfl
theorem tokOk_o {k n : Int} {s : ByteArray} (h0 : ¬ k = 0) (h1 : ¬ k = 1) (h7 : ¬ k = 7) : tokOk ⟨k, n, s⟩ = (decide (2 ≤ k) && decide (k ≤ 6) && (n == 0) && decide (s = ⟨#[]⟩)) := by
  unfold tokOk; rw [if_neg h0, if_neg h1, if_neg h7]; rfl
section
noncomputable def cxTkI : Cx := { P := Tryd.prog, tys := tys, C := [(66, k60), (67, kNameOk)], hty := tysOk, hC := COk.cons c60 (COk.cons cNameOkI (COk.nil _)) }
theorem cxTkI_t : cxTkI.tys = tys := rfl
theorem cxTkI_c : cxTkI.C = [(66, k60), (67, kNameOk)] := rfl
attribute [local go_sem] cxTkI_t cxTkI_c k60 kNameOk
theorem cTokOkI : Cn Tryd.prog 79 kTokOk := by
  refine Cn.pur Tryd.func79 (by kernel_rfl) rfl fun d x hx => ?_
  obtain ⟨k, n, s⟩ := x
  unfold smTok at hx
  simp only at hx
  refine Holds.go (c := cxTkI) Tryd.func79 rfl Tryd.results79 Tryd.ntmps79 (by omega) (by simp) rfl ?_
  intro X0 w0
  by_cases h0 : k = 0
  · subst h0
    rw [tokOk_0]
    (repeat' (first | refine WP.seq ?_ | refine WP.block ?_ | ((first | refine WP.region ?_ | refine WP.condW ?_ | refine WP.ret ?_ | refine WP.exit ?_ | refine WP.skip ?_); simp only [go_sem, tyAll, Nat.reduceAdd, Nat.reduceLT, Nat.reduceLeDiff, Nat.reduceEqDiff, Nat.reduceMul, Nat.reduceSub, Nat.reduceGT, reduceIte, Int.reduceNeg, Int.reduceToNat]) |  refine And.intro ?_ ?_ | intro _))
    all_goals first | omega | skip
    all_goals trace_state
  · by_cases h7 : k = 7
    · subst h7
      rw [tokOk_7]
      (repeat' (first | refine WP.seq ?_ | refine WP.block ?_ | ((first | refine WP.region ?_ | refine WP.condW ?_ | refine WP.ret ?_ | refine WP.exit ?_ | refine WP.skip ?_); simp only [go_sem, tyAll, Nat.reduceAdd, Nat.reduceLT, Nat.reduceLeDiff, Nat.reduceEqDiff, Nat.reduceMul, Nat.reduceSub, Nat.reduceGT, reduceIte, Int.reduceNeg, Int.reduceToNat]) |  refine And.intro ?_ ?_ | intro _))
      all_goals first | omega | skip
      all_goals trace_state
    · by_cases h1 : k = 1
      · subst h1
        rw [tokOk_1]
        (repeat' (first | refine WP.seq ?_ | refine WP.block ?_ | ((first | refine WP.region ?_ | refine WP.condW ?_ | refine WP.ret ?_ | refine WP.exit ?_ | refine WP.skip ?_); simp only [go_sem, tyAll, Nat.reduceAdd, Nat.reduceLT, Nat.reduceLeDiff, Nat.reduceEqDiff, Nat.reduceMul, Nat.reduceSub, Nat.reduceGT, reduceIte, Int.reduceNeg, Int.reduceToNat]) |  refine And.intro ?_ ?_ | intro _))
        all_goals first | omega | skip
        all_goals trace_state
      · rw [tokOk_o h0 h1 h7]
        (repeat' (first | refine WP.seq ?_ | refine WP.block ?_ | ((first | refine WP.region ?_ | refine WP.condW ?_ | refine WP.ret ?_ | refine WP.exit ?_ | refine WP.skip ?_); simp only [go_sem, h0, h1, h7, tyAll, Nat.reduceAdd, Nat.reduceLT, Nat.reduceLeDiff, Nat.reduceEqDiff, Nat.reduceMul, Nat.reduceSub, Nat.reduceGT, reduceIte, Int.reduceNeg, Int.reduceToNat]) |  refine And.intro ?_ ?_ | intro _))
        all_goals first | omega | skip
        all_goals trace_state
end
section
noncomputable def cxTkS : Cx := { P := Tryd.prog, tys := tys, C := [(41, k60), (42, kNameOk)], hty := tysOk, hC := COk.cons c58 (COk.cons cNameOkS (COk.nil _)) }
theorem cxTkS_t : cxTkS.tys = tys := rfl
theorem cxTkS_c : cxTkS.C = [(41, k60), (42, kNameOk)] := rfl
attribute [local go_sem] cxTkS_t cxTkS_c k60 kNameOk
theorem cTokOkS : Cn Tryd.prog 54 kTokOk := by
  refine Cn.pur Tryd.func54 (by kernel_rfl) rfl fun d x hx => ?_
  obtain ⟨k, n, s⟩ := x
  unfold smTok at hx
  simp only at hx
  refine Holds.go (c := cxTkS) Tryd.func54 rfl Tryd.results54 Tryd.ntmps54 (by omega) (by simp) rfl ?_
  intro X0 w0
  by_cases h0 : k = 0
  · subst h0
    rw [tokOk_0]
    (repeat' (first | refine WP.seq ?_ | refine WP.block ?_ | ((first | refine WP.region ?_ | refine WP.condW ?_ | refine WP.ret ?_ | refine WP.exit ?_ | refine WP.skip ?_); simp only [go_sem, tyAll, Nat.reduceAdd, Nat.reduceLT, Nat.reduceLeDiff, Nat.reduceEqDiff, Nat.reduceMul, Nat.reduceSub, Nat.reduceGT, reduceIte, Int.reduceNeg, Int.reduceToNat]) |  refine And.intro ?_ ?_ | intro _))
    all_goals first | omega | skip
    all_goals trace_state
  · by_cases h7 : k = 7
    · subst h7
      rw [tokOk_7]
      (repeat' (first | refine WP.seq ?_ | refine WP.block ?_ | ((first | refine WP.region ?_ | refine WP.condW ?_ | refine WP.ret ?_ | refine WP.exit ?_ | refine WP.skip ?_); simp only [go_sem, tyAll, Nat.reduceAdd, Nat.reduceLT, Nat.reduceLeDiff, Nat.reduceEqDiff, Nat.reduceMul, Nat.reduceSub, Nat.reduceGT, reduceIte, Int.reduceNeg, Int.reduceToNat]) |  refine And.intro ?_ ?_ | intro _))
      all_goals first | omega | skip
      all_goals trace_state
    · by_cases h1 : k = 1
      · subst h1
        rw [tokOk_1]
        (repeat' (first | refine WP.seq ?_ | refine WP.block ?_ | ((first | refine WP.region ?_ | refine WP.condW ?_ | refine WP.ret ?_ | refine WP.exit ?_ | refine WP.skip ?_); simp only [go_sem, tyAll, Nat.reduceAdd, Nat.reduceLT, Nat.reduceLeDiff, Nat.reduceEqDiff, Nat.reduceMul, Nat.reduceSub, Nat.reduceGT, reduceIte, Int.reduceNeg, Int.reduceToNat]) |  refine And.intro ?_ ?_ | intro _))
        all_goals first | omega | skip
        all_goals trace_state
      · rw [tokOk_o h0 h1 h7]
        by_cases hr : 0 ≤ k ∧ k ≤ 7
        · have e1 : decide (2 ≤ k) = true := by simp; omega
          have e2 : decide (k ≤ 6) = true := by simp; omega
          have e3 := hr.1
          have e4 := hr.2
          rw [e1, e2]
          (repeat' (first | refine WP.seq ?_ | refine WP.block ?_ | ((first | refine WP.region ?_ | refine WP.condW ?_ | refine WP.ret ?_ | refine WP.exit ?_ | refine WP.skip ?_); simp only [go_sem, h0, h1, h7, e3, e4, tyAll, Nat.reduceAdd, Nat.reduceLT, Nat.reduceLeDiff, Nat.reduceEqDiff, Nat.reduceMul, Nat.reduceSub, Nat.reduceGT, reduceIte, Int.reduceNeg, Int.reduceToNat]) |  refine And.intro ?_ ?_ | intro _))
          all_goals first | omega | skip
          all_goals trace_state
        · have e : (decide (2 ≤ k) && decide (k ≤ 6)) = false := by simp; omega
          have e3 : (decide (0 ≤ k) && decide (k ≤ 7)) = false := by simp; omega
          rw [e]
          (repeat' (first | refine WP.seq ?_ | refine WP.block ?_ | ((first | refine WP.region ?_ | refine WP.condW ?_ | refine WP.ret ?_ | refine WP.exit ?_ | refine WP.skip ?_); simp only [go_sem, h0, h1, h7, e3, tyAll, Nat.reduceAdd, Nat.reduceLT, Nat.reduceLeDiff, Nat.reduceEqDiff, Nat.reduceMul, Nat.reduceSub, Nat.reduceGT, reduceIte, Int.reduceNeg, Int.reduceToNat]) |  refine And.intro ?_ ?_ | intro _))
          all_goals first | omega | skip
          all_goals trace_state
end
section
noncomputable def cxArI : Cx := { P := Tryd.prog, tys := tys, C := [(79, kTokOk)], hty := tysOk, hC := COk.cons cTokOkI (COk.nil _) }
theorem cxArI_t : cxArI.tys = tys := rfl
theorem cxArI_c : cxArI.C = [(79, kTokOk)] := rfl
attribute [local go_sem] cxArI_t cxArI_c kTokOk
theorem cArityI : Cn Tryd.prog 81 kArity := by
  refine Cn.pur Tryd.func81 (by kernel_rfl) rfl fun d x hx => ?_
  obtain ⟨k, n, s⟩ := x
  unfold smTok at hx
  simp only at hx
  refine Holds.go (c := cxArI) Tryd.func81 rfl Tryd.results81 Tryd.ntmps81 (by omega) (by simp) rfl ?_
  intro X0 w0
  cases h : tokOk ⟨k, n, s⟩ with
  | false =>
    have e : arity ⟨k, n, s⟩ = -1 := by unfold arity; rw [h]; rfl
    rw [e]
    (repeat' (first | refine WP.seq ?_ | refine WP.block ?_ | ((first | refine WP.region ?_ | refine WP.condW ?_ | refine WP.ret ?_ | refine WP.exit ?_ | refine WP.skip ?_); simp only [go_sem, h, tyAll, Nat.reduceAdd, Nat.reduceLT, Nat.reduceLeDiff, Nat.reduceEqDiff, Nat.reduceMul, Nat.reduceSub, Nat.reduceGT, reduceIte, Int.reduceNeg, Int.reduceToNat]) |  refine And.intro ?_ ?_ | intro _))
    all_goals first | omega | exact hx | skip
    all_goals trace_state
  | true =>
    have e : arity ⟨k, n, s⟩ = (arN ⟨k, n, s⟩ : Int) := by unfold arity; rw [h]; rfl
    rw [e]
    have hc := tokOk_cases h
    simp only at hc
    by_cases h7 : k = 7
    · have e2 : (arN ⟨k, n, s⟩ : Int) = n := by unfold arN; rw [if_pos h7]; show ((n.toNat : Nat) : Int) = n; omega
      rw [e2]
      subst h7
      (repeat' (first | refine WP.seq ?_ | refine WP.block ?_ | ((first | refine WP.region ?_ | refine WP.condW ?_ | refine WP.ret ?_ | refine WP.exit ?_ | refine WP.skip ?_); simp only [go_sem, h, tyAll, Nat.reduceAdd, Nat.reduceLT, Nat.reduceLeDiff, Nat.reduceEqDiff, Nat.reduceMul, Nat.reduceSub, Nat.reduceGT, reduceIte, Int.reduceNeg, Int.reduceToNat]) |  refine And.intro ?_ ?_ | intro _))
      all_goals first | omega | exact hx | skip
      all_goals trace_state
    · by_cases h01 : k = 0 ∨ k = 1
      · have e2 : (arN ⟨k, n, s⟩ : Int) = 0 := by unfold arN; rw [if_neg h7, if_pos h01]; rfl
        rw [e2]
        (repeat' (first | refine WP.seq ?_ | refine WP.block ?_ | ((first | refine WP.region ?_ | refine WP.condW ?_ | refine WP.ret ?_ | refine WP.exit ?_ | refine WP.skip ?_); simp only [go_sem, h, h7, h01, tyAll, Nat.reduceAdd, Nat.reduceLT, Nat.reduceLeDiff, Nat.reduceEqDiff, Nat.reduceMul, Nat.reduceSub, Nat.reduceGT, reduceIte, Int.reduceNeg, Int.reduceToNat]) |  refine And.intro ?_ ?_ | intro _))
        all_goals first | omega | exact hx | skip
        all_goals trace_state
      · have e2 : (arN ⟨k, n, s⟩ : Int) = 2 := by unfold arN; rw [if_neg h7, if_neg h01]; rfl
        rw [e2]
        (repeat' (first | refine WP.seq ?_ | refine WP.block ?_ | ((first | refine WP.region ?_ | refine WP.condW ?_ | refine WP.ret ?_ | refine WP.exit ?_ | refine WP.skip ?_); simp only [go_sem, h, h7, h01, tyAll, Nat.reduceAdd, Nat.reduceLT, Nat.reduceLeDiff, Nat.reduceEqDiff, Nat.reduceMul, Nat.reduceSub, Nat.reduceGT, reduceIte, Int.reduceNeg, Int.reduceToNat]) |  refine And.intro ?_ ?_ | intro _))
        all_goals first | omega | exact hx | skip
        all_goals trace_state
end
section
noncomputable def cxArS : Cx := { P := Tryd.prog, tys := tys, C := [(54, kTokOk)], hty := tysOk, hC := COk.cons cTokOkS (COk.nil _) }
theorem cxArS_t : cxArS.tys = tys := rfl
theorem cxArS_c : cxArS.C = [(54, kTokOk)] := rfl
attribute [local go_sem] cxArS_t cxArS_c kTokOk
theorem cArityS : Cn Tryd.prog 73 kArity := by
  refine Cn.pur Tryd.func73 (by kernel_rfl) rfl fun d x hx => ?_
  obtain ⟨k, n, s⟩ := x
  unfold smTok at hx
  simp only at hx
  refine Holds.go (c := cxArS) Tryd.func73 rfl Tryd.results73 Tryd.ntmps73 (by omega) (by simp) rfl ?_
  intro X0 w0
  cases h : tokOk ⟨k, n, s⟩ with
  | false =>
    have e : arity ⟨k, n, s⟩ = -1 := by unfold arity; rw [h]; rfl
    rw [e]
    (repeat' (first | refine WP.seq ?_ | refine WP.block ?_ | ((first | refine WP.region ?_ | refine WP.condW ?_ | refine WP.ret ?_ | refine WP.exit ?_ | refine WP.skip ?_); simp only [go_sem, h, tyAll, Nat.reduceAdd, Nat.reduceLT, Nat.reduceLeDiff, Nat.reduceEqDiff, Nat.reduceMul, Nat.reduceSub, Nat.reduceGT, reduceIte, Int.reduceNeg, Int.reduceToNat]) |  refine And.intro ?_ ?_ | intro _))
    all_goals first | omega | exact hx | skip
    all_goals trace_state
  | true =>
    have e : arity ⟨k, n, s⟩ = (arN ⟨k, n, s⟩ : Int) := by unfold arity; rw [h]; rfl
    rw [e]
    have hc := tokOk_cases h
    simp only at hc
    by_cases h7 : k = 7
    · have e2 : (arN ⟨k, n, s⟩ : Int) = n := by unfold arN; rw [if_pos h7]; show ((n.toNat : Nat) : Int) = n; omega
      rw [e2]
      subst h7
      (repeat' (first | refine WP.seq ?_ | refine WP.block ?_ | ((first | refine WP.region ?_ | refine WP.condW ?_ | refine WP.ret ?_ | refine WP.exit ?_ | refine WP.skip ?_); simp only [go_sem, h, tyAll, Nat.reduceAdd, Nat.reduceLT, Nat.reduceLeDiff, Nat.reduceEqDiff, Nat.reduceMul, Nat.reduceSub, Nat.reduceGT, reduceIte, Int.reduceNeg, Int.reduceToNat]) |  refine And.intro ?_ ?_ | intro _))
      all_goals first | omega | exact hx | skip
      all_goals trace_state
    · by_cases h01 : k = 0 ∨ k = 1
      · have e2 : (arN ⟨k, n, s⟩ : Int) = 0 := by unfold arN; rw [if_neg h7, if_pos h01]; rfl
        rw [e2]
        (repeat' (first | refine WP.seq ?_ | refine WP.block ?_ | ((first | refine WP.region ?_ | refine WP.condW ?_ | refine WP.ret ?_ | refine WP.exit ?_ | refine WP.skip ?_); simp only [go_sem, h, h7, h01, tyAll, Nat.reduceAdd, Nat.reduceLT, Nat.reduceLeDiff, Nat.reduceEqDiff, Nat.reduceMul, Nat.reduceSub, Nat.reduceGT, reduceIte, Int.reduceNeg, Int.reduceToNat]) |  refine And.intro ?_ ?_ | intro _))
        all_goals first | omega | exact hx | skip
        all_goals trace_state
      · have e2 : (arN ⟨k, n, s⟩ : Int) = 2 := by unfold arN; rw [if_neg h7, if_neg h01]; rfl
        rw [e2]
        (repeat' (first | refine WP.seq ?_ | refine WP.block ?_ | ((first | refine WP.region ?_ | refine WP.condW ?_ | refine WP.ret ?_ | refine WP.exit ?_ | refine WP.skip ?_); simp only [go_sem, h, h7, h01, tyAll, Nat.reduceAdd, Nat.reduceLT, Nat.reduceLeDiff, Nat.reduceEqDiff, Nat.reduceMul, Nat.reduceSub, Nat.reduceGT, reduceIte, Int.reduceNeg, Int.reduceToNat]) |  refine And.intro ?_ ?_ | intro _))
        all_goals first | omega | exact hx | skip
        all_goals trace_state
end
theorem op_cut {k : Int} (a : 2 ≤ k) (b : k ≤ 6) : (⟨#[43, 45, 42, 60, 61]⟩ : ByteArray).extract (k - 2).toNat (k - 2 + 1).toNat = bts [opB k] := by
  rcases op_case a b with q | q | q | q | q <;> rw [q] <;> decide
theorem bts_name (s : ByteArray) (l : List UInt8) : s ++ bts l = bts (s.data.toList ++ l) := by
  conv => lhs; rw [← bts_list s]
  rw [bts_append]
theorem b47 : (⟨#[47]⟩ : ByteArray) = bts [47] := rfl
section
noncomputable def cxFtI : Cx := { P := Tryd.prog, tys := tys, C := [(79, kTokOk), (80, kFmt)], hty := tysOk, hC := COk.cons cTokOkI (COk.cons cFmtI (COk.nil _)) }
theorem cxFtI_t : cxFtI.tys = tys := rfl
theorem cxFtI_c : cxFtI.C = [(79, kTokOk), (80, kFmt)] := rfl
attribute [local go_sem] cxFtI_t cxFtI_c kTokOk kFmt
theorem cFmtTI : Cn Tryd.prog 64 kFmtT := by
  refine Cn.pur Tryd.func64 (by kernel_rfl) rfl fun d x hx => ?_
  obtain ⟨k, n, s⟩ := x
  unfold smTok at hx
  simp only at hx
  refine Holds.go (c := cxFtI) Tryd.func64 rfl Tryd.results64 Tryd.ntmps64 (by omega) (by simp) rfl ?_
  intro X0 w0
  cases h : tokOk ⟨k, n, s⟩ with
  | false =>
    have e : fmtTok ⟨k, n, s⟩ = ⟨#[]⟩ := by unfold fmtTok; rw [h]; rfl
    rw [e]
    (repeat' (first | refine WP.seq ?_ | refine WP.block ?_ | ((first | refine WP.region ?_ | refine WP.condW ?_ | refine WP.ret ?_ | refine WP.exit ?_ | refine WP.skip ?_); simp only [go_sem, h, tyAll, Nat.reduceAdd, Nat.reduceLT, Nat.reduceLeDiff, Nat.reduceEqDiff, Nat.reduceMul, Nat.reduceSub, Nat.reduceGT, reduceIte, Int.reduceNeg, Int.reduceToNat]) | ((first | refine WP.drawW 7 (by decide +kernel) (by kernel_rfl) ?_); simp only [go_sem, h, tyAll, Nat.reduceAdd, Nat.reduceLT, Nat.reduceLeDiff, Nat.reduceEqDiff, Nat.reduceMul, Nat.reduceSub, Nat.reduceGT, reduceIte, Int.reduceNeg, Int.reduceToNat]) |  refine And.intro ?_ ?_ | intro _))
    all_goals first | omega | exact hx | skip
    all_goals trace_state
  | true =>
    have e : fmtTok ⟨k, n, s⟩ = bts (tokL ⟨k, n, s⟩) := by unfold fmtTok; rw [h]; rfl
    rw [e]
    rcases tokOk_cases h with ⟨a, b, c, d⟩ | ⟨a, b, c⟩ | ⟨a, b, c, d⟩ | ⟨a, b, c, d⟩
    · simp only at a b c d
      have e2 : tokL ⟨k, n, s⟩ = fmtL n.toNat := by unfold tokL; rw [if_pos a]
      rw [e2]
      subst a
      (repeat' (first | refine WP.seq ?_ | refine WP.block ?_ | ((first | refine WP.region ?_ | refine WP.condW ?_ | refine WP.ret ?_ | refine WP.exit ?_ | refine WP.skip ?_); simp only [go_sem, h, tyAll, Nat.reduceAdd, Nat.reduceLT, Nat.reduceLeDiff, Nat.reduceEqDiff, Nat.reduceMul, Nat.reduceSub, Nat.reduceGT, reduceIte, Int.reduceNeg, Int.reduceToNat]) | ((first | refine WP.drawW 7 (by decide +kernel) (by kernel_rfl) ?_); simp only [go_sem, h, tyAll, Nat.reduceAdd, Nat.reduceLT, Nat.reduceLeDiff, Nat.reduceEqDiff, Nat.reduceMul, Nat.reduceSub, Nat.reduceGT, reduceIte, Int.reduceNeg, Int.reduceToNat]) |  refine And.intro ?_ ?_ | intro _))
      all_goals first | omega | exact hx | skip
      all_goals trace_state
    · simp only at a b c
      have e2 : tokL ⟨k, n, s⟩ = s.data.toList := by subst a; rfl
      rw [e2, bts_list]
      subst a
      (repeat' (first | refine WP.seq ?_ | refine WP.block ?_ | ((first | refine WP.region ?_ | refine WP.condW ?_ | refine WP.ret ?_ | refine WP.exit ?_ | refine WP.skip ?_); simp only [go_sem, h, tyAll, Nat.reduceAdd, Nat.reduceLT, Nat.reduceLeDiff, Nat.reduceEqDiff, Nat.reduceMul, Nat.reduceSub, Nat.reduceGT, reduceIte, Int.reduceNeg, Int.reduceToNat]) | ((first | refine WP.drawW 7 (by decide +kernel) (by kernel_rfl) ?_); simp only [go_sem, h, tyAll, Nat.reduceAdd, Nat.reduceLT, Nat.reduceLeDiff, Nat.reduceEqDiff, Nat.reduceMul, Nat.reduceSub, Nat.reduceGT, reduceIte, Int.reduceNeg, Int.reduceToNat]) |  refine And.intro ?_ ?_ | intro _))
      all_goals first | omega | exact hx | skip
      all_goals trace_state
    · simp only at a b c d
      have e2 : tokL ⟨k, n, s⟩ = s.data.toList ++ 47 :: fmtL n.toNat := by subst a; rfl
      rw [e2]
      subst a
      have hl := fmtL_len 1 n.toNat (by omega) (by omega)
      have hz := bts_size (fmtL n.toNat)
      have hz2 := bts_size (s.data.toList ++ [47])
      have hcc : s ++ (⟨#[47]⟩ : ByteArray) = bts (s.data.toList ++ [47]) := by rw [b47, bts_name]
      have hcd := bts_append (s.data.toList ++ [47]) (fmtL n.toNat)
      have hsl : s.data.toList.length = s.size := by simp
      have hn8 := (nameOk_letters d).2.2
      have hz1 : (⟨#[47]⟩ : ByteArray).size = 1 := rfl
      simp only [List.length_append, List.length_cons, List.length_nil] at hz2
      rw [show s.data.toList ++ 47 :: fmtL n.toNat = s.data.toList ++ [47] ++ fmtL n.toNat by simp]
      (repeat' (first | refine WP.seq ?_ | refine WP.block ?_ | ((first | refine WP.region ?_ | refine WP.condW ?_ | refine WP.ret ?_ | refine WP.exit ?_ | refine WP.skip ?_); simp only [go_sem, h, hcc, hcd, hz, hz1, hz2, tyAll, Nat.reduceAdd, Nat.reduceLT, Nat.reduceLeDiff, Nat.reduceEqDiff, Nat.reduceMul, Nat.reduceSub, Nat.reduceGT, reduceIte, Int.reduceNeg, Int.reduceToNat]) | ((first | refine WP.drawW 7 (by decide +kernel) (by kernel_rfl) ?_); simp only [go_sem, h, hcc, hcd, hz, hz1, hz2, tyAll, Nat.reduceAdd, Nat.reduceLT, Nat.reduceLeDiff, Nat.reduceEqDiff, Nat.reduceMul, Nat.reduceSub, Nat.reduceGT, reduceIte, Int.reduceNeg, Int.reduceToNat]) |  refine And.intro ?_ ?_ | intro _))
      all_goals first | omega | exact hx | skip
      all_goals trace_state
    · simp only at a b c d
      have e2 : tokL ⟨k, n, s⟩ = [opB k] := by unfold tokL; rw [if_neg (show ¬ k = 0 by omega), if_neg (show ¬ k = 1 by omega), if_neg (show ¬ k = 7 by omega)]
      rw [e2]
      have a0 : ¬ k = 0 := by omega
      have a1 : ¬ k = 1 := by omega
      have a7 : ¬ k = 7 := by omega
      have hc := op_cut a b
      have hz : (⟨#[43, 45, 42, 60, 61]⟩ : ByteArray).size = 5 := rfl
      (repeat' (first | refine WP.seq ?_ | refine WP.block ?_ | ((first | refine WP.region ?_ | refine WP.condW ?_ | refine WP.ret ?_ | refine WP.exit ?_ | refine WP.skip ?_); simp only [go_sem, h, a0, a1, a7, hc, hz, tyAll, Nat.reduceAdd, Nat.reduceLT, Nat.reduceLeDiff, Nat.reduceEqDiff, Nat.reduceMul, Nat.reduceSub, Nat.reduceGT, reduceIte, Int.reduceNeg, Int.reduceToNat]) | ((first | refine WP.drawW 7 (by decide +kernel) (by kernel_rfl) ?_); simp only [go_sem, h, a0, a1, a7, hc, hz, tyAll, Nat.reduceAdd, Nat.reduceLT, Nat.reduceLeDiff, Nat.reduceEqDiff, Nat.reduceMul, Nat.reduceSub, Nat.reduceGT, reduceIte, Int.reduceNeg, Int.reduceToNat]) |  refine And.intro ?_ ?_ | intro _))
      all_goals first | omega | exact hx | skip
      all_goals trace_state
end
section
noncomputable def cxFtS : Cx := { P := Tryd.prog, tys := tys, C := [(54, kTokOk), (38, kFmt)], hty := tysOk, hC := COk.cons cTokOkS (COk.cons cFmtS (COk.nil _)) }
theorem cxFtS_t : cxFtS.tys = tys := rfl
theorem cxFtS_c : cxFtS.C = [(54, kTokOk), (38, kFmt)] := rfl
attribute [local go_sem] cxFtS_t cxFtS_c kTokOk kFmt
theorem cFmtTS : Cn Tryd.prog 55 kFmtT := by
  refine Cn.pur Tryd.func55 (by kernel_rfl) rfl fun d x hx => ?_
  obtain ⟨k, n, s⟩ := x
  unfold smTok at hx
  simp only at hx
  refine Holds.go (c := cxFtS) Tryd.func55 rfl Tryd.results55 Tryd.ntmps55 (by omega) (by simp) rfl ?_
  intro X0 w0
  cases h : tokOk ⟨k, n, s⟩ with
  | false =>
    have e : fmtTok ⟨k, n, s⟩ = ⟨#[]⟩ := by unfold fmtTok; rw [h]; rfl
    rw [e]
    (repeat' (first | refine WP.seq ?_ | refine WP.block ?_ | ((first | refine WP.region ?_ | refine WP.condW ?_ | refine WP.ret ?_ | refine WP.exit ?_ | refine WP.skip ?_); simp only [go_sem, h, tyAll, Nat.reduceAdd, Nat.reduceLT, Nat.reduceLeDiff, Nat.reduceEqDiff, Nat.reduceMul, Nat.reduceSub, Nat.reduceGT, reduceIte, Int.reduceNeg, Int.reduceToNat]) | ((first | refine WP.drawW 7 (by decide +kernel) (by kernel_rfl) ?_); simp only [go_sem, h, tyAll, Nat.reduceAdd, Nat.reduceLT, Nat.reduceLeDiff, Nat.reduceEqDiff, Nat.reduceMul, Nat.reduceSub, Nat.reduceGT, reduceIte, Int.reduceNeg, Int.reduceToNat]) |  refine And.intro ?_ ?_ | intro _))
    all_goals first | omega | exact hx | skip
    all_goals trace_state
  | true =>
    have e : fmtTok ⟨k, n, s⟩ = bts (tokL ⟨k, n, s⟩) := by unfold fmtTok; rw [h]; rfl
    rw [e]
    rcases tokOk_cases h with ⟨a, b, c, d⟩ | ⟨a, b, c⟩ | ⟨a, b, c, d⟩ | ⟨a, b, c, d⟩
    · simp only at a b c d
      have e2 : tokL ⟨k, n, s⟩ = fmtL n.toNat := by unfold tokL; rw [if_pos a]
      rw [e2]
      subst a
      (repeat' (first | refine WP.seq ?_ | refine WP.block ?_ | ((first | refine WP.region ?_ | refine WP.condW ?_ | refine WP.ret ?_ | refine WP.exit ?_ | refine WP.skip ?_); simp only [go_sem, h, tyAll, Nat.reduceAdd, Nat.reduceLT, Nat.reduceLeDiff, Nat.reduceEqDiff, Nat.reduceMul, Nat.reduceSub, Nat.reduceGT, reduceIte, Int.reduceNeg, Int.reduceToNat]) | ((first | refine WP.drawW 7 (by decide +kernel) (by kernel_rfl) ?_); simp only [go_sem, h, tyAll, Nat.reduceAdd, Nat.reduceLT, Nat.reduceLeDiff, Nat.reduceEqDiff, Nat.reduceMul, Nat.reduceSub, Nat.reduceGT, reduceIte, Int.reduceNeg, Int.reduceToNat]) |  refine And.intro ?_ ?_ | intro _))
      all_goals first | omega | exact hx | skip
      all_goals trace_state
    · simp only at a b c
      have e2 : tokL ⟨k, n, s⟩ = s.data.toList := by subst a; rfl
      rw [e2, bts_list]
      subst a
      (repeat' (first | refine WP.seq ?_ | refine WP.block ?_ | ((first | refine WP.region ?_ | refine WP.condW ?_ | refine WP.ret ?_ | refine WP.exit ?_ | refine WP.skip ?_); simp only [go_sem, h, tyAll, Nat.reduceAdd, Nat.reduceLT, Nat.reduceLeDiff, Nat.reduceEqDiff, Nat.reduceMul, Nat.reduceSub, Nat.reduceGT, reduceIte, Int.reduceNeg, Int.reduceToNat]) | ((first | refine WP.drawW 7 (by decide +kernel) (by kernel_rfl) ?_); simp only [go_sem, h, tyAll, Nat.reduceAdd, Nat.reduceLT, Nat.reduceLeDiff, Nat.reduceEqDiff, Nat.reduceMul, Nat.reduceSub, Nat.reduceGT, reduceIte, Int.reduceNeg, Int.reduceToNat]) |  refine And.intro ?_ ?_ | intro _))
      all_goals first | omega | exact hx | skip
      all_goals trace_state
    · simp only at a b c d
      have e2 : tokL ⟨k, n, s⟩ = s.data.toList ++ 47 :: fmtL n.toNat := by subst a; rfl
      rw [e2]
      subst a
      have hl := fmtL_len 1 n.toNat (by omega) (by omega)
      have hz := bts_size (fmtL n.toNat)
      have hz2 := bts_size (s.data.toList ++ [47])
      have hcc : s ++ (⟨#[47]⟩ : ByteArray) = bts (s.data.toList ++ [47]) := by rw [b47, bts_name]
      have hcd := bts_append (s.data.toList ++ [47]) (fmtL n.toNat)
      have hsl : s.data.toList.length = s.size := by simp
      have hn8 := (nameOk_letters d).2.2
      have hz1 : (⟨#[47]⟩ : ByteArray).size = 1 := rfl
      simp only [List.length_append, List.length_cons, List.length_nil] at hz2
      rw [show s.data.toList ++ 47 :: fmtL n.toNat = s.data.toList ++ [47] ++ fmtL n.toNat by simp]
      (repeat' (first | refine WP.seq ?_ | refine WP.block ?_ | ((first | refine WP.region ?_ | refine WP.condW ?_ | refine WP.ret ?_ | refine WP.exit ?_ | refine WP.skip ?_); simp only [go_sem, h, hcc, hcd, hz, hz1, hz2, tyAll, Nat.reduceAdd, Nat.reduceLT, Nat.reduceLeDiff, Nat.reduceEqDiff, Nat.reduceMul, Nat.reduceSub, Nat.reduceGT, reduceIte, Int.reduceNeg, Int.reduceToNat]) | ((first | refine WP.drawW 7 (by decide +kernel) (by kernel_rfl) ?_); simp only [go_sem, h, hcc, hcd, hz, hz1, hz2, tyAll, Nat.reduceAdd, Nat.reduceLT, Nat.reduceLeDiff, Nat.reduceEqDiff, Nat.reduceMul, Nat.reduceSub, Nat.reduceGT, reduceIte, Int.reduceNeg, Int.reduceToNat]) |  refine And.intro ?_ ?_ | intro _))
      all_goals first | omega | exact hx | skip
      all_goals trace_state
    · simp only at a b c d
      have e2 : tokL ⟨k, n, s⟩ = [opB k] := by unfold tokL; rw [if_neg (show ¬ k = 0 by omega), if_neg (show ¬ k = 1 by omega), if_neg (show ¬ k = 7 by omega)]
      rw [e2]
      have a0 : ¬ k = 0 := by omega
      have a1 : ¬ k = 1 := by omega
      have a7 : ¬ k = 7 := by omega
      have hc := op_cut a b
      have hz : (⟨#[43, 45, 42, 60, 61]⟩ : ByteArray).size = 5 := rfl
      (repeat' (first | refine WP.seq ?_ | refine WP.block ?_ | ((first | refine WP.region ?_ | refine WP.condW ?_ | refine WP.ret ?_ | refine WP.exit ?_ | refine WP.skip ?_); simp only [go_sem, h, a0, a1, a7, hc, hz, tyAll, Nat.reduceAdd, Nat.reduceLT, Nat.reduceLeDiff, Nat.reduceEqDiff, Nat.reduceMul, Nat.reduceSub, Nat.reduceGT, reduceIte, Int.reduceNeg, Int.reduceToNat]) | ((first | refine WP.drawW 7 (by decide +kernel) (by kernel_rfl) ?_); simp only [go_sem, h, a0, a1, a7, hc, hz, tyAll, Nat.reduceAdd, Nat.reduceLT, Nat.reduceLeDiff, Nat.reduceEqDiff, Nat.reduceMul, Nat.reduceSub, Nat.reduceGT, reduceIte, Int.reduceNeg, Int.reduceToNat]) |  refine And.intro ?_ ?_ | intro _))
      all_goals first | omega | exact hx | skip
      all_goals trace_state
end
end
end Go.Proofs.YtdhkhapbldkkdaaDoor
/-
  DERIVED. A region with a fixed order, in which an operation that is not wanted may be taken to yield anything.
-/
namespace Go.Vc
set_option linter.unusedVariables false
def St.stepO (tys : List (Nat × TyD)) (C : List (FuncId × Ctr)) (N : Nat) (ops : Array Oper) (o : Oper) (st : St) (K : St → Prop) : Prop :=
  match o.guard with
  | none => st.step tys C N ops o K
  | some (j, want) => match (ops[j]?).bind (·.dst) with
    | some t => match guardB want (st.get t) with
      | some false => dstOk N o.dst = true ∧ K (st.put o.dst (.cond false (offV tys o)))
      | _ => st.step tys C N ops o K
    | none => False
def St.runO (tys : List (Nat × TyD)) (C : List (FuncId × Ctr)) (N : Nat) (ops : Array Oper) : List Oper → St → (St → Prop) → Prop
  | [], st, K => K st
  | o :: l, st, K => st.stepO tys C N ops o fun st' => St.runO tys C N ops l st' K
section
variable {P : Program} {tys : List (Nat × TyD)} {C : List (FuncId × Ctr)} {N : Nat} {X0 : Nat → Prop} {M : Nat → BV → Prop} {w0 : World} {st : St} {β : Nat → BV} {a : Act} {w : World}
theorem wanted_eq (h : Sim N X0 M w0 st β a w) {ops : Array Oper} {o : Oper} {j t : Nat} {want g : Bool} (hg : o.guard = some (j, want)) (ht : (ops[j]?).bind (·.dst) = some t) (hc : guardB want (st.get t) = some g) : Region.wanted o (yielded ops a.tmps) = g := by
  have hR : R w (XX X0 β st.hp) β (st.get t) (a.eval (.tmp t)) := St.ev_ok h (.tmp t)
  have hy : yielded ops a.tmps j = (match a.tmps.getD t undef with | .bool b => some b | _ => none) := by
    unfold yielded
    rw [ht]
    simp only [Option.bind_some]
    rw [Array.getD_eq_getD_getElem?]
    cases hq : a.tmps[t]? with
    | none => rfl
    | some v => cases v <;> rfl
  simp only [Region.wanted, hg, hy]
  generalize st.get t = y at hc hR
  unfold guardB at hc
  split at hc
  · rename_i b
    have hv : a.tmps.getD t undef = .bool b := hR.v_inv
    rw [hv]
    cases hc
    cases b <;> cases want <;> rfl
  · rename_i g' b
    cases hc
    cases g' with
    | false =>
      have hv : a.tmps.getD t undef = undef := hR.cond_undef rfl
      rw [hv]; rfl
    | true =>
      have hv : a.tmps.getD t undef = .bool b := (hR.cond_inv rfl).v_inv
      rw [hv]
      cases b <;> cases want <;> rfl
  · cases hc
theorem stepO_sound (hA : Ap P X0 M w0) (hty : ∀ T d, lk T tys = some d → TyOk P T d) (hC : COk P C) (h : Sim N X0 M w0 st β a w) {ops : Array Oper} {o : Oper} {K : St → Prop} (hw : st.stepO tys C N ops o K) {Q : Exit → Act → World → Prop} :
    if Region.wanted o (yielded ops a.tmps) then o.wp P a w (Ok N X0 M w0 K) Q else Ok N X0 M w0 K (a.put o.dst undef) w := by
  unfold St.stepO at hw
  cases hg : o.guard with
  | none => rw [hg] at hw; exact step_sound hA hty hC h hw
  | some gw =>
    obtain ⟨j, want⟩ := gw
    rw [hg] at hw
    simp only at hw
    split at hw
    case h_2 => exact hw.elim
    case h_1 _ t ht =>
      split at hw
      case h_2 => exact step_sound hA hty hC h hw
      case h_1 _ hc =>
        have hwt := wanted_eq h hg ht hc
        rw [hwt, if_neg (by simp)]
        obtain ⟨hd, hK⟩ := hw
        cases hdd : o.dst with
        | none => rw [hdd] at hK; exact ⟨_, β, hK, h⟩
        | some d => rw [hdd] at hK hd; exact ⟨_, β, hK, h.put (by simpa [dstOk] using hd) (.cond (fun hh => by cases hh) fun _ => rfl)⟩
theorem runO_sound (hA : Ap P X0 M w0) (hty : ∀ T d, lk T tys = some d → TyOk P T d) (hC : COk P C) {ops : Array Oper} {K : St → Prop} {Q : Exit → Act → World → Prop} (hQ : ∀ a w, Ok N X0 M w0 K a w → Q .normal a w) :
    ∀ (l : List Oper) {st : St} {β : Nat → BV} {a : Act} {w : World}, Sim N X0 M w0 st β a w → St.runO tys C N ops l st K → wpList P ops Q l a w
  | [], st, β, a, w, h, hw => hQ a w ⟨st, β, hw, h⟩
  | o :: l, st, β, a, w, h, hw => by
    have h1 := stepO_sound (Q := Q) hA hty hC h hw
    unfold wpList
    split
    · rename_i hwt
      rw [if_pos hwt] at h1
      exact .inl (Oper.wp_mono (fun a' w' ⟨st', β', h2, h3⟩ => runO_sound hA hty hC hQ l h3 h2) h1)
    · rename_i hwt
      rw [if_neg hwt] at h1
      obtain ⟨st', β', h2, h3⟩ := h1
      exact runO_sound hA hty hC hQ l h3 h2
end
section
variable {c : Cx} {N : Nat} {X0 : Nat → Prop} {M : Nat → BV → Prop} {w0 : World} {st : St} {K : Exit → St → Prop}
theorem WP.regionO {id : Nat} {l : List Oper} (h : St.runO c.tys c.C N l.toArray l st (K .normal)) : WP c N X0 M w0 (.region id l.toArray false) st K := fun hA β a w hs =>
  wp_region_lit (runO_sound hA c.hty c.hC (fun a w hk => hk) l hs h)
end
/-! ## sums and products that wrap -/
def wrapI (op : BinOp) (a b : Int) : Int := match op with
  | .add => IntKind.i64.wrap (a + b)
  | .sub => IntKind.i64.wrap (a - b)
  | .mul => IntKind.i64.wrap (a * b)
  | _ => 0
def isArith : BinOp → Bool
  | .add => true
  | .sub => true
  | .mul => true
  | _ => false
def St.stepWr (tys : List (Nat × TyD)) (C : List (FuncId × Ctr)) (N : Nat) (ops : Array Oper) (o : Oper) (st : St) (K : St → Prop) : Prop :=
  match o.op with
  | .binOp op T x y U => match st.ev x, st.ev y with
    | .v (.int .i64 a), .v (.int .i64 b) => if isArith op = true ∧ o.guard.isNone = true then dstOk N o.dst = true ∧ K (st.put o.dst (.v (.int .i64 (wrapI op a b)))) else st.step tys C N ops o K
    | _, _ => st.step tys C N ops o K
  | _ => st.step tys C N ops o K
def St.runWr (tys : List (Nat × TyD)) (C : List (FuncId × Ctr)) (N : Nat) (ops : Array Oper) : List Oper → St → (St → Prop) → Prop
  | [], st, K => K st
  | o :: l, st, K => st.stepWr tys C N ops o fun st' => St.runWr tys C N ops l st' K
theorem wrap_run {P : Program} {op : BinOp} {T : Nat} {a b : Int} (h : isArith op = true) (ox oy : Operand) (w : World) :
    (do eqGuard op T ox oy (.int .i64 a) (.int .i64 b); binOp op T (.int .i64 a) (.int .i64 b) : Sem Value).run P w = .ok (.int .i64 (wrapI op a b)) w := by
  cases op <;> first | (cases h; done) | simp [eqGuard, binOp, Op.intArith, wrapI]
section
variable {P : Program} {tys : List (Nat × TyD)} {C : List (FuncId × Ctr)} {N : Nat} {X0 : Nat → Prop} {M : Nat → BV → Prop} {w0 : World} {st : St} {β : Nat → BV} {a : Act} {w : World}
theorem stepWr_sound (hA : Ap P X0 M w0) (hty : ∀ T d, lk T tys = some d → TyOk P T d) (hC : COk P C) (h : Sim N X0 M w0 st β a w) {ops : Array Oper} {o : Oper} {K : St → Prop} (hw : st.stepWr tys C N ops o K) {Q : Exit → Act → World → Prop} :
    if Region.wanted o (yielded ops a.tmps) then o.wp P a w (Ok N X0 M w0 K) Q else Ok N X0 M w0 K (a.put o.dst undef) w := by
  unfold St.stepWr at hw
  split at hw
  case h_2 => exact step_sound hA hty hC h hw
  case h_1 _ op T x y U ho =>
    split at hw
    case h_2 => exact step_sound hA hty hC h hw
    case h_1 _ _ p q hx hy =>
      split at hw
      case isFalse => exact step_sound hA hty hC h hw
      case isTrue hc =>
        obtain ⟨h1, h2⟩ := hc
        obtain ⟨hd, hK⟩ := hw
        have hg : o.guard = none := by simpa using h2
        have hwt : Region.wanted o (yielded ops a.tmps) = true := by simp [Region.wanted, hg]
        rw [if_pos hwt]
        have e1 : a.eval x = .int .i64 p := (hx ▸ St.ev_ok h x : R w _ β (.v (.int .i64 p)) (a.eval x)).v_inv
        have e2 : a.eval y = .int .i64 q := (hy ▸ St.ev_ok h y : R w _ β (.v (.int .i64 q)) (a.eval y)).v_inv
        have hr := wrap_run (P := P) (T := T) (a := p) (b := q) h1 x y w
        refine wp_of_Yl h hd ⟨.int .i64 (wrapI op p q), ?_, .p (.v _)⟩ hK
        simp only [Sem.run_bind] at hr
        simp only [execOp, ho, e1, e2, Sem.run_bind, hr, Result.andThen_ok, Sem.run_pure]
theorem runWr_sound (hA : Ap P X0 M w0) (hty : ∀ T d, lk T tys = some d → TyOk P T d) (hC : COk P C) {ops : Array Oper} {K : St → Prop} {Q : Exit → Act → World → Prop} (hQ : ∀ a w, Ok N X0 M w0 K a w → Q .normal a w) :
    ∀ (l : List Oper) {st : St} {β : Nat → BV} {a : Act} {w : World}, Sim N X0 M w0 st β a w → St.runWr tys C N ops l st K → wpList P ops Q l a w
  | [], st, β, a, w, h, hw => hQ a w ⟨st, β, hw, h⟩
  | o :: l, st, β, a, w, h, hw => by
    have h1 := stepWr_sound (Q := Q) hA hty hC h hw
    unfold wpList
    split
    · rename_i hwt
      rw [if_pos hwt] at h1
      exact .inl (Oper.wp_mono (fun a' w' ⟨st', β', h2, h3⟩ => runWr_sound hA hty hC hQ l h3 h2) h1)
    · rename_i hwt
      rw [if_neg hwt] at h1
      obtain ⟨st', β', h2, h3⟩ := h1
      exact runWr_sound hA hty hC hQ l h3 h2
end
section
variable {c : Cx} {N : Nat} {X0 : Nat → Prop} {M : Nat → BV → Prop} {w0 : World} {st : St} {K : Exit → St → Prop}
theorem WP.regionWr {id : Nat} {l : List Oper} (h : St.runWr c.tys c.C N l.toArray l st (K .normal)) : WP c N X0 M w0 (.region id l.toArray false) st K := fun hA β a w hs =>
  wp_region_lit (runWr_sound hA c.hty c.hC (fun a w hk => hk) l hs h)
end
end Go.Vc

/-
  DERIVED. As WP.flowW, the lists that are sliced there first given up as lists of one's own.
-/
namespace Go.Vc
def St.fzS : St → List Nat → St
  | st, [] => st
  | st, s :: l => ((st.fzL (st.ev (.tmp s)).strip.ownId)).fzS l
theorem Sim.fzS {P : Program} {X0 : Nat → Prop} {M : Nat → BV → Prop} {w0 : World} {N : Nat} {β : Nat → BV} {a : Act} {w : World} (hA : Ap P X0 M w0) : ∀ (l : List Nat) {st : St}, Sim N X0 M w0 st β a w → Sim N X0 M w0 (st.fzS l) β a w
  | [], _, h => h
  | _ :: l, _, h => Sim.fzS hA l (h.fzL hA _)
theorem WP.flowZ {c : Cx} {N : Nat} {X0 : Nat → Prop} {M : Nat → BV → Prop} {w0 : World} {K : Exit → St → Prop} {id : Nat} {l : List Oper} {st : St} (zs : List Nat) (m : Nat) (fl : List Fp) (ds mks gs : List Nat) (hB : flowB l.toArray m fl = true)
    (hD : ((List.range m).all fun k => match dstAt l.toArray k with | some d => ds.contains d | none => false) = true)
    (hM : ((List.range m).all fun k => ((fpAt fl k).mks.all fun d => mks.contains d) && ((fpAt fl k).gn.all fun d => gs.contains d)) = true) (hm : c.P.follows .mixedOrders = true)
    (h : St.runG c.tys c.C N l.toArray fl ((st.fzS zs).clean ds mks) (l.take m) 0 [] fun acc => St.runR c.tys c.C N l.toArray (l.drop m) (((st.fzS zs).clean ds mks).final acc gs) (K .normal)) : WP c N X0 M w0 (.region id l.toArray true) st K := by
  intro hA β a w hs
  exact WP.flowW m fl ds mks gs hB hD hM hm h hA β a w (hs.fzS hA zs)
end Go.Vc

/-
  DERIVED. A region whose order is open: one of its value operations may be taken as soon as it can be.
-/
namespace Go.Vc
set_option linter.unusedVariables false
section
variable {P : Program} {Q : Exit → Act → World → Prop} {s q : Nat} {ops : Array Oper}
def behind (o : Oper) (q : Nat) : Oper := { o with after := o.after.push ⟨q, .data⟩ }
def addE (s q : Nat) (ops : Array Oper) : Array Oper := ops.modify s fun o => behind o q
theorem addE_get (i : Nat) : (addE s q ops)[i]? = (ops[i]?).map fun o => if i = s then behind o q else o := by
  unfold addE
  rw [Array.getElem?_modify]
  by_cases h : s = i
  · rw [if_pos h]; subst h; simp
  · rw [if_neg h]
    have : ¬ i = s := fun e => h e.symm
    simp [this]
theorem yielded_addE (tmps : Array Value) : yielded (addE s q ops) tmps = yielded ops tmps := by
  funext j
  unfold yielded
  rw [addE_get]
  cases ops[j]? with
  | none => rfl
  | some o =>
    simp only [Option.map_some, Option.bind_some]
    by_cases hj : j = s
    · rw [if_pos hj]; rfl
    · rw [if_neg hj]
theorem wpOp_addE {i : Nat} {K : Act → World → Prop} {a : Act} {w : World} (h : wpOp P (addE s q ops) Q i K a w) : wpOp P ops Q i K a w := by
  unfold wpOp at h ⊢
  rw [addE_get, yielded_addE] at h
  cases ho : ops[i]? with
  | none => rw [ho] at h; exact h
  | some o =>
    rw [ho] at h
    simp only [Option.map_some] at h ⊢
    by_cases hi : i = s
    · rw [if_pos hi] at h; exact h
    · rw [if_neg hi] at h; exact h
theorem ready_addE {i : Nat} {listed : Array Bool} : i ∈ Region.ready .any (addE s q ops) listed ↔ i ∈ Region.ready .any ops listed ∧ (i = s → listed.getD q false = true) := by
  rw [mem_ready', mem_ready', addE_get, show (addE s q ops).size = ops.size by unfold addE; rw [Array.size_modify]]
  constructor
  · rintro ⟨h1, h2, o', ho', h3⟩
    cases ho : ops[i]? with
    | none => rw [ho] at ho'; cases ho'
    | some o =>
      rw [ho] at ho'
      simp only [Option.map_some, Option.some.injEq] at ho'
      by_cases hi : i = s
      · rw [if_pos hi] at ho'
        subst ho'
        refine ⟨⟨h1, h2, o, rfl, fun e he hb => h3 e (by unfold behind; simp [he]) hb⟩, fun _ => h3 ⟨q, .data⟩ (by unfold behind; simp) rfl⟩
      · rw [if_neg hi] at ho'
        subst ho'
        exact ⟨⟨h1, h2, o, rfl, h3⟩, fun e => absurd e hi⟩
  · rintro ⟨⟨h1, h2, o, ho, h3⟩, h4⟩
    rw [ho]
    simp only [Option.map_some, Option.some.injEq]
    refine ⟨h1, h2, _, rfl, fun e he hb => ?_⟩
    by_cases hi : i = s
    · rw [if_pos hi] at he
      unfold behind at he
      simp only [Array.mem_push] at he
      rcases he with he | rfl
      · exact h3 e he hb
      · exact h4 hi
    · rw [if_neg hi] at he
      exact h3 e he hb

/-- what the place of q asks: s waits for all that q waits for, every other operation waits for q or is apart from it -/
structure EdgeOk (ops : Array Oper) (s q : Nat) (oq : Oper) : Prop where
  ne : s ≠ q
  at_q : ops[q]? = some oq
  sel : ∀ (j : Nat) (o : Oper) cs b, ops[j]? = some o → o.op ≠ .select cs b
  deps : ∀ os, ops[s]? = some os → ∀ e ∈ oq.after, Region.binds .any e = true → ∃ e' ∈ os.after, Region.binds .any e' = true ∧ e'.on = e.on
  apart : ∀ j oj, ops[j]? = some oj → j ≠ q → (∀ e ∈ oq.after, Region.binds .any e = true → e.on ≠ j) → (∀ e ∈ oj.after, Region.binds .any e = true → e.on ≠ q) → oq.apart ops oj = true
  guard : oq.guard = none
  pure : ∀ (a : Act) (w : World) (K : Act → World → Prop) (Q : Exit → Act → World → Prop), (∀ e a w, e ≠ .normal → ¬ Q e a w) → oq.wp P a w K Q → ∃ v, (∀ w, (execOp a.eval oq).run P w = .ok (.value v) w) ∧ K (a.put oq.dst v) w

theorem wpAny_edge {oq : Oper} (hE : EdgeOk (P := P) ops s q oq) (hQ : ∀ e a w, e ≠ .normal → ¬ Q e a w) : ∀ (fuel : Nat) (listed : Array Bool) (a : Act) (w : World), listed.size = ops.size → wpAny P .any (addE s q ops) Q fuel listed a w → wpAny P .any ops Q fuel listed a w := by
  have hq2 : ∀ {listed : Array Bool}, q ∈ Region.ready .any ops listed → q ∈ Region.ready .any (addE s q ops) listed := fun {listed} h => ready_addE.2 ⟨h, fun e => absurd e.symm hE.ne⟩
  have early : ∀ {listed : Array Bool} {i : Nat}, listed.size = ops.size → i ∈ Region.ready .any ops listed → i ∉ Region.ready .any (addE s q ops) listed → q ∈ Region.ready .any ops listed := fun {listed i} hsz h1 h2 => by
    have his : i = s := Classical.byContradiction fun hn => h2 (ready_addE.2 ⟨h1, fun e => absurd e hn⟩)
    subst his
    have hql : listed.getD q false = false := by
      cases hh : listed.getD q false with
      | true => exact absurd (ready_addE.2 ⟨h1, fun _ => hh⟩) h2
      | false => rfl
    obtain ⟨g1, g2, os, ho, g3⟩ := mem_ready'.1 h1
    have hqs : q < ops.size := (Array.getElem?_eq_some_iff.1 hE.at_q).1
    have hqt : listed.getD q true = false := by
      rw [Array.getD_eq_getD_getElem?, Array.getElem?_eq_getElem (by omega)] at hql ⊢
      exact hql
    refine mem_ready'.2 ⟨hqs, hqt, oq, hE.at_q, fun e he hb => ?_⟩
    obtain ⟨e', he', hb', hon⟩ := hE.deps os ho e he hb
    rw [← hon]
    exact g3 e' he' hb'
  intro fuel
  induction fuel with
  | zero =>
    intro listed a w hsz h
    refine ⟨?_, h.2⟩
    rcases hr : Region.ready .any ops listed with _ | ⟨i, l⟩
    · rfl
    · exfalso
      have hi : i ∈ Region.ready .any ops listed := by rw [hr]; simp
      have hn : ∀ j, j ∉ Region.ready .any (addE s q ops) listed := fun j hj => by rw [h.1] at hj; cases hj
      exact hn q (hq2 (early hsz hi (hn i)))
  | succ fuel ih =>
    intro listed a w hsz H
    by_cases hq : q ∈ Region.ready .any ops listed
    · have h1 := wpOp_addE (H.2 q (hq2 hq))
      unfold wpOp at h1
      rw [hE.at_q] at h1
      have hw : Region.wanted oq (yielded ops a.tmps) = true := by simp [Region.wanted, hE.guard]
      simp only [hw, if_true] at h1
      rcases h1 with h1 | ⟨_, x, y, h1⟩
      · obtain ⟨v, hrun, hK⟩ := hE.pure a w _ _ hQ h1
        exact wpAny_first hE.at_q hE.sel (fun c a w h => absurd h (hQ _ _ _ (by simp))) fuel listed a w (fun j oj hj hne hl hw' => hE.apart j oj hj hne (fun e he hb hj' => by
          obtain ⟨_, _, o2, ho2, h3⟩ := mem_ready'.1 hq
          rw [hE.at_q] at ho2
          obtain rfl := Option.some.inj ho2
          have h4 := h3 e he hb
          rw [hj'] at h4
          have hjs : j < ops.size := (Array.getElem?_eq_some_iff.1 hj).1
          rw [Array.getD_eq_getD_getElem?, Array.getElem?_eq_getElem (by omega)] at hl h4
          simp only [Option.getD_some] at hl h4
          rw [hl] at h4; cases h4) hw') hq (.inl ⟨hw, hrun⟩) (ih _ _ _ (by simpa using hsz) hK)
      · exact absurd h1 (hQ _ _ _ (by simp))
    · refine ⟨fun he => H.1 ?_, fun i hi => ?_⟩
      · rcases hr : Region.ready .any (addE s q ops) listed with _ | ⟨i, l⟩
        · rfl
        · have hi : i ∈ Region.ready .any (addE s q ops) listed := by rw [hr]; simp
          have := (ready_addE.1 hi).1
          rw [he] at this; cases this
      · have hi' : i ∈ Region.ready .any (addE s q ops) listed := Classical.byContradiction fun hn => hq (early hsz hi hn)
        exact wpOp_mono (fun a' w' h => ih _ _ _ (by simpa using hsz) h) (wpOp_addE (H.2 i hi'))
theorem pure_extract {oq : Oper} {x : Operand} {i : Nat} (ho : oq.op = .extract x i) (a : Act) (w : World) (K : Act → World → Prop) (Q : Exit → Act → World → Prop) (hQ : ∀ e a w, e ≠ .normal → ¬ Q e a w) (h : oq.wp P a w K Q) :
    ∃ v, (∀ w, (execOp a.eval oq).run P w = .ok (.value v) w) ∧ K (a.put oq.dst v) w := by
  unfold Oper.wp at h
  cases hx : a.eval x with
  | tuple us =>
    cases hu : us[i]? with
    | some v =>
      refine ⟨v, fun w => by simp [execOp, ho, hx, Instr.extract, hu], ?_⟩
      simpa [execOp, ho, hx, Instr.extract, hu, Oper.upon] using h
    | none => simp [execOp, ho, hx, Instr.extract, hu, Oper.upon, stuck] at h
  | _ => simp [execOp, ho, hx, Instr.extract, Oper.upon, stuck] at h
def isExtract : Op → Bool
  | .extract _ _ => true
  | _ => false
def isSelect : Op → Bool
  | .select _ _ => true
  | _ => false
def edgeB (ops : Array Oper) (s q : Nat) : Bool := s != q && match ops[q]?, ops[s]? with
  | some oq, some os => isExtract oq.op && oq.guard.isNone &&
    (oq.after.toList.all fun e => !Region.binds .any e || os.after.toList.any fun e' => Region.binds .any e' && e'.on == e.on) &&
    (List.range ops.size).all fun j => match ops[j]? with
      | some oj => !isSelect oj.op && (j == q || (oq.after.toList.any fun e => Region.binds .any e && e.on == j) || (oj.after.toList.any fun e => Region.binds .any e && e.on == q) || oq.apart ops oj)
      | none => true
  | _, _ => false
theorem edgeB_ok (h : edgeB ops s q = true) : ∃ oq, EdgeOk (P := P) ops s q oq := by
  unfold edgeB at h
  rw [Bool.and_eq_true] at h
  obtain ⟨h0, h⟩ := h
  split at h
  case h_2 => cases h
  case h_1 _ _ oq os hoq hos =>
    simp only [Bool.and_eq_true] at h
    obtain ⟨⟨⟨h1, h2⟩, h3⟩, h4⟩ := h
    have key : ∀ j oj, ops[j]? = some oj → isSelect oj.op = false ∧ (j = q ∨ (∃ e ∈ oq.after, Region.binds .any e = true ∧ e.on = j) ∨ (∃ e ∈ oj.after, Region.binds .any e = true ∧ e.on = q) ∨ oq.apart ops oj = true) := fun j oj hj => by
      have := List.all_eq_true.1 h4 j (List.mem_range.2 (Array.getElem?_eq_some_iff.1 hj).1)
      rw [hj] at this
      simp only [Bool.and_eq_true, Bool.not_eq_true', Bool.or_eq_true, beq_iff_eq, List.any_eq_true, Array.mem_toList_iff] at this
      refine ⟨this.1, ?_⟩
      rcases this.2 with ((h | h) | h) | h
      · exact .inl h
      · exact .inr (.inl h)
      · exact .inr (.inr (.inl h))
      · exact .inr (.inr (.inr h))
    refine ⟨oq, ⟨by simpa using h0, hoq, fun j o cs b hj hsel => ?_, fun os' hos' e he hb => ?_, fun j oj hj hne hd hw => ?_, by simpa using h2, ?_⟩⟩
    · have := (key j o hj).1
      rw [hsel] at this; cases this
    · obtain rfl := Option.some.inj (hos.symm.trans hos')
      have := List.all_eq_true.1 h3 e (by simpa using he)
      rw [hb] at this
      simp only [Bool.not_true, Bool.false_or, List.any_eq_true, Bool.and_eq_true, beq_iff_eq] at this
      obtain ⟨e', he', h5, h6⟩ := this
      exact ⟨e', by simpa using he', h5, h6⟩
    · rcases (key j oj hj).2 with h | ⟨e, he, hb, ho⟩ | ⟨e, he, hb, ho⟩ | h
      · exact absurd h hne
      · exact absurd ho (hd e he hb)
      · exact absurd ho (hw e he hb)
      · exact h
    · intro a w K Q hQ hh
      cases hop : oq.op with
      | extract x i => exact pure_extract hop a w K Q hQ hh
      | _ => rw [hop] at h1; cases h1
theorem upon_Q {o : Oper} {a : Act} {K : Act → World → Prop} {Q' Q : Exit → Act → World → Prop} (h : ∀ e a w, Q' e a w → Q e a w) {r : Result Next} (hh : o.upon P a K Q' r) : o.upon P a K Q r := by
  cases r with
  | ok n w' =>
    cases n <;> simp only [Oper.upon] at hh ⊢ <;> first
      | exact hh
      | exact Calls.mono hh fun e w'' he => by
          cases e with
          | returned v => exact he
          | panicked c => exact h _ _ _ he
          | outgrown => obtain ⟨x, y, hxy⟩ := he; exact ⟨x, y, h _ _ _ hxy⟩
  | halt x w' => cases x <;> simp only [Oper.upon] at hh ⊢ <;> first | exact h _ _ _ hh | exact hh.elim
theorem wpOp_Q {i : Nat} {a : Act} {w : World} {K K' : Act → World → Prop} {Q' Q : Exit → Act → World → Prop} (h : ∀ e a w, Q' e a w → Q e a w) (hK : ∀ a w, K' a w → K a w) (hh : wpOp P ops Q' i K' a w) : wpOp P ops Q i K a w := by
  have hh := wpOp_mono hK hh
  unfold wpOp at hh ⊢
  split
  · rename_i ho; rw [ho] at hh; exact hh
  · rename_i o ho
    rw [ho] at hh
    simp only at hh
    split
    · rename_i hw
      rw [if_pos hw] at hh
      rcases hh with hh | ⟨h1, x, y, h2⟩
      · exact .inl (upon_Q h hh)
      · exact .inr ⟨h1, x, y, h _ _ _ h2⟩
    · rename_i hw
      rw [if_neg hw] at hh
      exact hh
theorem wpAny_Q {Q' Q : Exit → Act → World → Prop} (h : ∀ e a w, Q' e a w → Q e a w) : ∀ (fuel : Nat) (listed : Array Bool) (a : Act) (w : World), wpAny P .any ops Q' fuel listed a w → wpAny P .any ops Q fuel listed a w
  | 0, _, _, _, hh => ⟨hh.1, h _ _ _ hh.2⟩
  | fuel + 1, _, _, _, hh => ⟨fun he => h _ _ _ (hh.1 he), fun i hi => wpOp_Q h (fun a' w' h' => wpAny_Q h fuel _ a' w' h') (hh.2 i hi)⟩
end
def addL : Nat → Nat → List Oper → List Oper
  | _, _, [] => []
  | 0, q, o :: l => behind o q :: l
  | s + 1, q, o :: l => o :: addL s q l
theorem addL_get : ∀ (s q : Nat) (l : List Oper) (i : Nat), (addL s q l)[i]? = (l[i]?).map fun o => if i = s then behind o q else o
  | _, _, [], i => by simp [addL]
  | 0, q, o :: l, 0 => by simp [addL]
  | 0, q, o :: l, i + 1 => by simp [addL]
  | s + 1, q, o :: l, 0 => by simp [addL]
  | s + 1, q, o :: l, i + 1 => by simp [addL, addL_get s q l i]
theorem addL_arr (s q : Nat) (l : List Oper) : (addL s q l).toArray = addE s q l.toArray := by
  apply Array.ext_getElem?
  intro i
  rw [addE_get]
  simp [addL_get]
section
variable {c : Cx} {N : Nat} {X0 : Nat → Prop} {M : Nat → BV → Prop} {w0 : World} {K : Exit → St → Prop}
def onlyN (K : Exit → St → Prop) : Exit → St → Prop
  | .normal, st => K .normal st
  | _, _ => False
theorem WP.flowE {id : Nat} {l : List Oper} {st : St} (s q : Nat) (zs : List Nat) (m : Nat) (fl : List Fp) (ds mks gs : List Nat) (hE : edgeB l.toArray s q = true) (hB : flowB (addL s q l).toArray m fl = true)
    (hD : ((List.range m).all fun k => match dstAt (addL s q l).toArray k with | some d => ds.contains d | none => false) = true)
    (hM : ((List.range m).all fun k => ((fpAt fl k).mks.all fun d => mks.contains d) && ((fpAt fl k).gn.all fun d => gs.contains d)) = true) (hm : c.P.follows .mixedOrders = true)
    (h : St.runG c.tys c.C N (addL s q l).toArray fl ((st.fzS zs).clean ds mks) ((addL s q l).take m) 0 [] fun acc => St.runR c.tys c.C N (addL s q l).toArray ((addL s q l).drop m) (((st.fzS zs).clean ds mks).final acc gs) (K .normal)) : WP c N X0 M w0 (.region id l.toArray true) st K := by
  intro hA β a w hs0
  have hs := Sim.fzS hA zs hs0
  generalize st.fzS zs = st at hs h
  have hD0 := flowB_ok hB
  obtain ⟨F, h1, h2⟩ := runF_acc _ _ _ (runF_of_runG _ _ _ h)
  have harr := addL_arr s q l
  have hlen : ((addL s q l).take m).length = m := by
    have := hD0.le
    simp at this ⊢
    omega
  rw [hlen] at h1
  simp only [List.nil_append, Nat.zero_add] at h1 h2
  have hcl0 : ∀ t x, lk t (st.clean ds mks).fr = some x → lk t st.fr = some x ∧ t ∉ ds ∧ ∀ d ∈ mks, x.kill d = x := fun t x hx => by
    obtain ⟨e1, e2⟩ := hide_fr hx
    obtain ⟨e3, e4⟩ := offK_lk e1
    exact ⟨e3, e4, e2⟩
  have hMk : ∀ k, k < m → (∀ d ∈ (fpAt fl k).mks, d ∈ mks) ∧ ∀ d ∈ (fpAt fl k).gn, d ∈ gs := fun k hk => by
    have := List.all_eq_true.1 hM k (List.mem_range.2 hk)
    simp only [Bool.and_eq_true, List.all_eq_true] at this
    exact ⟨fun d hd => List.contains_iff_mem.1 (this.1 d hd), fun d hd => List.contains_iff_mem.1 (this.2 d hd)⟩
  obtain ⟨oq, hEo⟩ := edgeB_ok (P := c.P) hE
  have hsz : (addL s q l).toArray.size = l.toArray.size := by rw [harr]; unfold addE; rw [Array.size_modify]
  refine wp_region_any hm (wpAny_Q (Q' := fun e a' w' => Ok N X0 M w0 (onlyN K e) a' w') (fun e a' w' hk => ?_) _ _ _ _ (wpAny_edge hEo (fun e a' w' hne hk => ?_) _ _ _ _ (by simp) ?_))
  · cases e with
    | normal => exact hk
    | _ => obtain ⟨_, _, hf, _⟩ := hk; exact hf.elim
  · cases e with
    | normal => exact hne rfl
    | _ => obtain ⟨_, _, hf, _⟩ := hk; exact hf.elim
  rw [← harr, ← hsz]
  refine (flow_head (c := c) (K := onlyN K) hA hD0 (base := st.clean ds mks) (F := F) (gs := gs) (fun k o hk ho => ?_) (fun t x hx => ⟨fun k hk e => ?_, fun k hk d hd => (hcl0 t x hx).2.2 d ((hMk k hk).1 d hd)⟩) (fun t ob hx k hk d hd => (hide_hp hx).2 d ((hMk k hk).1 d hd)) (fun k hk => (hMk k hk).2) ?_
    (addL s q l).toArray.size (Array.replicate (addL s q l).toArray.size false) (st.clean ds mks) β a _ (by simp) (fun j _ hj => ?_) ?_ (fun b hb hl => ?_) ?_ (fun t x hx _ => hx) (fun k hk hl => ?_) (fun t ob hx _ => hx) (fun k hk hl => ?_))
  · have : ((addL s q l).take m)[k]? = some o := by rw [List.getElem?_take_of_lt hk]; simpa using ho
    exact h2 k o this
  · have := List.all_eq_true.1 hD k (List.mem_range.2 hk)
    rw [e] at this
    exact (hcl0 t x hx).2.1 (List.contains_iff_mem.1 this)
  · exact h1
  · rw [Array.getD_eq_getD_getElem?, Array.getElem?_replicate]; split <;> rfl
  · have : (List.range (addL s q l).toArray.size).countP (fun j => !(Array.replicate (addL s q l).toArray.size false).getD j false) = (List.range (addL s q l).toArray.size).countP (fun _ => true) := by
      apply List.countP_congr
      intro j hj
      rw [Array.getD_eq_getD_getElem?, Array.getElem?_replicate]; split <;> simp
    rw [this]; simp
  · rw [Array.getD_eq_getD_getElem?, Array.getElem?_replicate] at hl
    split at hl <;> cases hl
  · exact (hs.grow ((Go.RowKit.Below.refl _ _).drew) (fun b _ hb => .inl hb) hs.x0).less (fun t x hx => (hcl0 t x hx).1) (fun t ob hx => (hide_hp hx).1)
  · rw [Array.getD_eq_getD_getElem?, Array.getElem?_replicate] at hl
    split at hl <;> cases hl
  · rw [Array.getD_eq_getD_getElem?, Array.getElem?_replicate] at hl
    split at hl <;> cases hl
end
end Go.Vc

namespace Go.Proofs.YtdhkhapbldkkdaaDoor
open Go.Vc
attribute [local go_sem] St.runR St.runW St.stepV offV St.step St.stepU St.stepG mkCond guardB St.prK St.pr St.prLen St.eff St.callE St.callD St.callF St.callL aI aB aS aR aC St.isM St.argL Ctr.pure Ctr.lend Ctr.move Ctr.isL Ctr.wri pur len lentBy St.lentV St.lent1 nthS argsR restOf obsR pairs swapL unObs backL St.resL erL SV.ren1 SV.up SV.up2 Ob.up St.fzL cellIds partIds St.intoRow SV.ownId St.fz SV.fz1 St.prep St.mvL St.mv SV.re1 rnOk St.prEq vals eqCells scEq Value.kd St.prStr St.prCut cutR St.bnd St.prMin St.bld isShift outL retL outJ oR oC oE oD SV.upq SV.isSl SV.shut St.deepK St.dpArg St.deepQ absC Ob.pl St.ev St.get St.put St.new St.kill SV.kill SV.kill1 Ob.kill St.app St.wrt St.rowsOf St.res St.killL lk er argsL SV.strip SV.need SV.share SV.share1 SV.owns SV.owns1 SV.owns2 SV.good SV.good1 SV.rok SV.rok1 SV.rok2 SV.isV SV.isV2 nodupN SV.cells SV.one SV.pur Ob.pb partsIn rowsIn splice cellsAt dstOk scal2 scal1 thenK blockK retK outK outs okC okL okA okT nilC nilL nilA nilT keepC keepL keepA keepT St.runG St.dltK St.least St.clean St.final St.hide offK badS badO SV.refs SV.leaf SV.leaf2 Ob.refs dlOk fpAt Go.Vc.cover tups SV.ofAgg St.out outC subL St.has rng wr Value.oneCell' Option.isSome_some Option.isSome_none List.nil_append Bool.false_eq_true List.map_cons List.map_nil List.all_cons List.all_nil List.length_cons List.length_nil List.drop_zero List.drop_succ_cons List.take_succ_cons List.take_zero List.drop_nil List.take_nil List.getElem?_cons_zero List.getElem?_cons_succ List.getElem?_nil List.cons_append List.nil_append List.append_nil List.append_assoc List.flatMap_cons List.flatMap_nil List.contains_cons List.contains_nil List.set_cons_zero List.set_cons_succ List.getElem?_toArray Option.getD_some Option.getD_none Option.map_some Option.map_none Option.bind_some Option.some.injEq Prod.mk.injEq if_true if_false true_and and_true and_self and_false false_and Bool.and_false Bool.false_and Bool.or_true Bool.true_or Bool.or_false Bool.false_or ne_eq not_true_eq_false not_false_eq_true decide_true decide_false List.mem_cons List.not_mem_nil List.filter_cons List.filter_nil List.any_cons List.any_nil List.isEmpty_nil List.isEmpty_cons Option.getD_none or_false false_or true_or or_true forall_eq_or_imp forall_eq reduceCtorEq exists_eq exists_eq' exists_eq_left' exists_eq_left exists_eq_right exists_eq_right' imp_self implies_true Bool.and_true Bool.true_and Bool.and_self beq_self_eq_true List.replicate_succ List.replicate_zero forall_const false_implies pickB_or pickB_and beqT beqF Int.toNat_natCast List.length_map List.length_replicate ge_iff_le gt_iff_lt decide_eq_true_eq decide_eq_false_iff_not Bool.and_eq_true Bool.or_eq_true Bool.not_eq_true' Bool.not_eq_false' condG List.toList_toArray Bool.or_eq_false_iff Bool.and_eq_false_iff Int.not_lt Int.not_le beq_iff_eq beq_eq_false_iff_ne bne_iff_ne bne_eq_false_iff_eq ne_eq Bool.not_true Bool.not_false exists_and_left
section
open Go.Vc
set_option linter.unusedSimpArgs false
set_option linter.unusedVariables false
set_option maxHeartbeats 1000000
set_option maxRecDepth 10000
attribute [local irreducible] Go.Vc.WP
attribute [local go_sem] cx0_t cx0_c
attribute [local go_sem] decTok_enc oneTok_f decS_enc St.fzS addL behind St.runO St.stepO
theorem exprEnd_out {L : List Tok} {a : Int} (h : a < 0 ∨ (L.length : Int) ≤ a) : exprEnd L a = -1 := by
  unfold exprEnd
  split
  · rw [List.drop_eq_nil_of_le (by omega), endGo_nil _ (by omega)]
  · rfl
theorem exprEnd_in {L : List Tok} {a : Int} (h : 0 ≤ a) : exprEnd L a = endGo (L.drop a.toNat) 1 a.toNat := if_pos h
theorem endGo_row {L : List Tok} {j n : Nat} (hj : j < L.length) (hn : 0 < n) : endGo (L.drop j) n j = if tokOk L[j] = true then endGo (L.drop (j + 1)) (n - 1 + arN L[j]) (j + 1) else -1 := by
  rw [List.drop_eq_getElem_cons hj]
  split
  · rename_i h; exact endGo_ok hn h
  · rename_i h; exact endGo_bad hn (by simpa using h)
section
noncomputable def cxEnI : Cx := { P := Tryd.prog, tys := tys, C := [(66, k60), (79, kTokOk), (81, kArity)], hty := tysOk, hC := COk.cons c60 (COk.cons cTokOkI (COk.cons cArityI (COk.nil _))) }
theorem cxEnI_t : cxEnI.tys = tys := rfl
theorem cxEnI_c : cxEnI.C = [(66, k60), (79, kTokOk), (81, kArity)] := rfl
attribute [local go_sem] cxEnI_t cxEnI_c k60 kTokOk kArity
theorem cEndI : Cn Tryd.prog 65 kEnd := by
  refine Cn.pur Tryd.func65 (by kernel_rfl) rfl fun d x hx => ?_
  obtain ⟨L, a⟩ := x
  obtain ⟨hL, hs⟩ := hx
  simp only at hL hs ⊢
  refine Holds.go (c := cxEnI) Tryd.func65 rfl Tryd.results65 Tryd.ntmps65 (by omega) (by simp) rfl ?_
  intro X0 w0
  by_cases ha : 0 ≤ a ∧ a ≤ (L.length : Int) - 1
  · have ha0 := ha.1
    have ha1 := ha.2
    rw [exprEnd_in ha0]
    (repeat' (first | refine WP.seq ?_ | refine WP.block ?_ | ((first | refine WP.region ?_ | refine WP.condW ?_ | refine WP.ret ?_ | refine WP.exit ?_ | refine WP.skip ?_); simp only [go_sem, ha0, ha1, tyAll, Nat.reduceAdd, Nat.reduceLT, Nat.reduceLeDiff, Nat.reduceEqDiff, Nat.reduceMul, Nat.reduceSub, Nat.reduceGT, reduceIte, Int.reduceNeg, Int.reduceToNat]) |  refine And.intro ?_ ?_ | intro _))
    all_goals first | omega | skip
    refine WP.loop (fun p : Nat × Nat => ⟨[(0, .sl 3 (L.map encTok)), (1, .v (.int .i64 p.1)), (5, .v (.int .i64 p.2))], []⟩) (fun p => p.1 ≤ L.length ∧ p.2 ≤ 4 * p.1 + 1 ∧ endGo (L.drop a.toNat) 1 a.toNat = endGo (L.drop p.1) p.2 p.1) (fun p => L.length - p.1) (a.toNat, 1) ⟨by simp only; omega, by simp only; omega, rfl⟩ ?_ ?_
    · have e : ((a.toNat : Nat) : Int) = a := by omega
      have e1 : ((1 : Nat) : Int) = 1 := rfl
      (simp only [go_sem, e, e1, tyAll, Nat.reduceAdd, Nat.reduceLT, Nat.reduceLeDiff, Nat.reduceEqDiff, Nat.reduceMul, Nat.reduceSub, Nat.reduceGT, reduceIte, Int.reduceNeg, Int.reduceToNat] <;> (first | rfl | exact ⟨rfl, rfl⟩ | exact ⟨rfl, rfl, rfl⟩ | exact ⟨rfl, rfl, rfl, rfl⟩ | exact ⟨rfl, rfl, rfl, rfl, rfl⟩ | exact ⟨⟨rfl, rfl⟩, rfl⟩ | simp))
    rintro ⟨j, n⟩ ⟨hj, hn, he⟩
    simp only at hj hn he ⊢
    rw [he]
    by_cases hn0 : 0 < n
    · have hn0i : (0 : Int) < n := by omega
      by_cases hlt : j < L.length
      · have hlti : (j : Int) < L.length := by omega
        have h1 := rowAt_map encTok L j hlt
        have h2 := endGo_row hlt hn0
        have h3 := hs _ (List.getElem_mem hlt)
        rw [h2]
        generalize L[j] = y at h1 h2 h3
        obtain ⟨yk, yn, ys⟩ := y
        rw [encTok] at h1
        simp only at h1
        cases hk : tokOk ⟨yk, yn, ys⟩ with
        | false =>
          rw [if_neg (by simp)]
          (repeat' (first | refine WP.seq ?_ | refine WP.block ?_ | ((first | refine WP.region ?_ | refine WP.condW ?_ | refine WP.ret ?_ | refine WP.exit ?_ | refine WP.skip ?_); simp only [go_sem, h1, hk, hn0i, hlti, tyAll, Nat.reduceAdd, Nat.reduceLT, Nat.reduceLeDiff, Nat.reduceEqDiff, Nat.reduceMul, Nat.reduceSub, Nat.reduceGT, reduceIte, Int.reduceNeg, Int.reduceToNat]) |  refine And.intro ?_ ?_ | intro _))
          all_goals first | omega | exact h3 | skip
          all_goals trace_state
        | true =>
          have har : arity ⟨yk, yn, ys⟩ = (arN ⟨yk, yn, ys⟩ : Int) := by unfold arity; rw [hk]; rfl
          have hle := arN_le hk
          rw [if_pos rfl]
          (repeat' (first | refine WP.seq ?_ | refine WP.block ?_ | ((first | refine WP.region ?_ | refine WP.condW ?_ | refine WP.ret ?_ | refine WP.exit ?_ | refine WP.skip ?_); simp only [go_sem, h1, hk, hn0i, hlti, har, tyAll, Nat.reduceAdd, Nat.reduceLT, Nat.reduceLeDiff, Nat.reduceEqDiff, Nat.reduceMul, Nat.reduceSub, Nat.reduceGT, reduceIte, Int.reduceNeg, Int.reduceToNat]) |  refine And.intro ?_ ?_ | intro _))
          all_goals first | omega | exact h3 | skip
          refine ⟨(j + 1, n - 1 + arN ⟨yk, yn, ys⟩), ⟨by simp only; omega, by simp only; omega, by first | rfl | rw [he, h2, if_pos hk]⟩, by simp only; omega, ?_⟩
          rw [show ((n : Int) + ((arN ⟨yk, yn, ys⟩ : Int) - 1)) = ((n - 1 + arN ⟨yk, yn, ys⟩ : Nat) : Int) by omega, show ((j : Int) + 1) = ((j + 1 : Nat) : Int) by omega]
          (first | rfl | exact ⟨rfl, rfl⟩ | exact ⟨rfl, rfl, rfl⟩ | exact ⟨rfl, rfl, rfl, rfl⟩ | exact ⟨rfl, rfl, rfl, rfl, rfl⟩ | exact ⟨⟨rfl, rfl⟩, rfl⟩ | simp)
      · have hge : ¬ (j : Int) < L.length := by omega
        have e : endGo (L.drop j) n j = -1 := by rw [List.drop_eq_nil_of_le (by omega), endGo_nil _ hn0]
        rw [e]
        have h0 : lk 0 tys = none := rfl
        have hro : Go.Vc.rowAt (L.map encTok) j = [] := by unfold Go.Vc.rowAt; rw [List.getElem?_eq_none (by rw [List.length_map]; omega)]; rfl
        have hle : (L.length : Int) ≤ j := by omega
        (repeat' (first | (refine WP.regionO (id := 6) ?_; simp only [go_sem, hn0i, hle, h0, hro, tyAll, Nat.reduceAdd, Nat.reduceLT, Nat.reduceLeDiff, Nat.reduceEqDiff, Nat.reduceMul, Nat.reduceSub, Nat.reduceGT, reduceIte, Int.reduceNeg, Int.reduceToNat]) | refine WP.seq ?_ | refine WP.block ?_ | ((first | refine WP.region ?_ | refine WP.condW ?_ | refine WP.ret ?_ | refine WP.exit ?_ | refine WP.skip ?_); simp only [go_sem, hn0i, hle, h0, hro, tyAll, Nat.reduceAdd, Nat.reduceLT, Nat.reduceLeDiff, Nat.reduceEqDiff, Nat.reduceMul, Nat.reduceSub, Nat.reduceGT, reduceIte, Int.reduceNeg, Int.reduceToNat]) |  refine And.intro ?_ ?_ | intro _))
        all_goals first | omega | skip
        all_goals trace_state
    · have hn1 : n = 0 := by omega
      subst hn1
      rw [endGo_zero]
      (repeat' (first | refine WP.seq ?_ | refine WP.block ?_ | ((first | refine WP.region ?_ | refine WP.condW ?_ | refine WP.ret ?_ | refine WP.exit ?_ | refine WP.skip ?_); simp only [go_sem, tyAll, Nat.reduceAdd, Nat.reduceLT, Nat.reduceLeDiff, Nat.reduceEqDiff, Nat.reduceMul, Nat.reduceSub, Nat.reduceGT, reduceIte, Int.reduceNeg, Int.reduceToNat]) |  refine And.intro ?_ ?_ | intro _))
      all_goals first | omega | skip
      all_goals trace_state
  · rw [exprEnd_out (by omega)]
    have hb : (decide (0 ≤ a) && decide (a ≤ (L.length : Int) - 1)) = false := by simp; omega
    (repeat' (first | refine WP.seq ?_ | refine WP.block ?_ | ((first | refine WP.region ?_ | refine WP.condW ?_ | refine WP.ret ?_ | refine WP.exit ?_ | refine WP.skip ?_); simp only [go_sem, hb, tyAll, Nat.reduceAdd, Nat.reduceLT, Nat.reduceLeDiff, Nat.reduceEqDiff, Nat.reduceMul, Nat.reduceSub, Nat.reduceGT, reduceIte, Int.reduceNeg, Int.reduceToNat]) |  refine And.intro ?_ ?_ | intro _))
    all_goals first | omega | skip
    all_goals trace_state
end
section
noncomputable def cxEnS : Cx := { P := Tryd.prog, tys := tys, C := [(54, kTokOk), (73, kArity)], hty := tysOk, hC := COk.cons cTokOkS (COk.cons cArityS (COk.nil _)) }
theorem cxEnS_t : cxEnS.tys = tys := rfl
theorem cxEnS_c : cxEnS.C = [(54, kTokOk), (73, kArity)] := rfl
attribute [local go_sem] cxEnS_t cxEnS_c kTokOk kArity
theorem cEndS : Cn Tryd.prog 56 kEnd := by
  refine Cn.pur Tryd.func56 (by kernel_rfl) rfl fun d x hx => ?_
  obtain ⟨L, a⟩ := x
  obtain ⟨hL, hs⟩ := hx
  simp only at hL hs ⊢
  refine Holds.go (c := cxEnS) Tryd.func56 rfl Tryd.results56 Tryd.ntmps56 (by omega) (by simp) rfl ?_
  intro X0 w0
  by_cases ha0 : 0 ≤ a
  · have hna : ¬ a < 0 := by omega
    rw [exprEnd_in ha0]
    (repeat' (first | refine WP.seq ?_ | refine WP.block ?_ | ((first | refine WP.region ?_ | refine WP.condW ?_ | refine WP.ret ?_ | refine WP.exit ?_ | refine WP.skip ?_); simp only [go_sem, hna, tyAll, Nat.reduceAdd, Nat.reduceLT, Nat.reduceLeDiff, Nat.reduceEqDiff, Nat.reduceMul, Nat.reduceSub, Nat.reduceGT, reduceIte, Int.reduceNeg, Int.reduceToNat]) |  refine And.intro ?_ ?_ | intro _))
    all_goals first | omega | skip
    refine WP.loop (fun p : Nat × Nat => ⟨[(0, .sl 3 (L.map encTok)), (1, .v (.int .i64 p.1)), (5, .v (.int .i64 p.2))], []⟩) (fun p => (p.2 = 1 ∨ p.1 ≤ L.length) ∧ p.2 ≤ 4 * p.1 + 1 ∧ endGo (L.drop a.toNat) 1 a.toNat = endGo (L.drop p.1) p.2 p.1) (fun p => L.length - p.1) (a.toNat, 1) ⟨.inl rfl, by simp only; omega, rfl⟩ ?_ ?_
    · have e : ((a.toNat : Nat) : Int) = a := by omega
      have e1 : ((1 : Nat) : Int) = 1 := rfl
      (simp only [go_sem, e, e1, tyAll, Nat.reduceAdd, Nat.reduceLT, Nat.reduceLeDiff, Nat.reduceEqDiff, Nat.reduceMul, Nat.reduceSub, Nat.reduceGT, reduceIte, Int.reduceNeg, Int.reduceToNat] <;> (first | rfl | exact ⟨rfl, rfl⟩ | exact ⟨rfl, rfl, rfl⟩ | exact ⟨rfl, rfl, rfl, rfl⟩ | exact ⟨rfl, rfl, rfl, rfl, rfl⟩ | exact ⟨⟨rfl, rfl⟩, rfl⟩ | simp))
    rintro ⟨j, n⟩ ⟨hj, hn, he⟩
    simp only at hj hn he ⊢
    rw [he]
    by_cases hn0 : 0 < n
    · have hn0i : (0 : Int) < n := by omega
      by_cases hlt : j < L.length
      · have hlti : (j : Int) < L.length := by omega
        have h1 := rowAt_map encTok L j hlt
        have h2 := endGo_row hlt hn0
        have h3 := hs _ (List.getElem_mem hlt)
        rw [h2]
        generalize L[j] = y at h1 h2 h3
        obtain ⟨yk, yn, ys⟩ := y
        rw [encTok] at h1
        simp only at h1
        cases hk : tokOk ⟨yk, yn, ys⟩ with
        | false =>
          rw [if_neg (by simp)]
          (repeat' (first | refine WP.seq ?_ | refine WP.block ?_ | ((first | refine WP.region ?_ | refine WP.condW ?_ | refine WP.ret ?_ | refine WP.exit ?_ | refine WP.skip ?_); simp only [go_sem, h1, hk, hn0i, hlti, tyAll, Nat.reduceAdd, Nat.reduceLT, Nat.reduceLeDiff, Nat.reduceEqDiff, Nat.reduceMul, Nat.reduceSub, Nat.reduceGT, reduceIte, Int.reduceNeg, Int.reduceToNat]) |  refine And.intro ?_ ?_ | intro _))
          all_goals first | omega | exact h3 | skip
          all_goals trace_state
        | true =>
          have har : arity ⟨yk, yn, ys⟩ = (arN ⟨yk, yn, ys⟩ : Int) := by unfold arity; rw [hk]; rfl
          have hle := arN_le hk
          rw [if_pos rfl]
          (repeat' (first | refine WP.seq ?_ | refine WP.block ?_ | ((first | refine WP.region ?_ | refine WP.condW ?_ | refine WP.ret ?_ | refine WP.exit ?_ | refine WP.skip ?_); simp only [go_sem, h1, hk, hn0i, hlti, har, tyAll, Nat.reduceAdd, Nat.reduceLT, Nat.reduceLeDiff, Nat.reduceEqDiff, Nat.reduceMul, Nat.reduceSub, Nat.reduceGT, reduceIte, Int.reduceNeg, Int.reduceToNat]) |  refine And.intro ?_ ?_ | intro _))
          all_goals first | omega | exact h3 | skip
          refine ⟨(j + 1, n - 1 + arN ⟨yk, yn, ys⟩), ⟨.inr (by simp only; omega), by simp only; omega, by first | rfl | rw [he, h2, if_pos hk]⟩, by simp only; omega, ?_⟩
          rw [show ((n : Int) - 1 + (arN ⟨yk, yn, ys⟩ : Int)) = ((n - 1 + arN ⟨yk, yn, ys⟩ : Nat) : Int) by omega, show ((j : Int) + 1) = ((j + 1 : Nat) : Int) by omega]
          (first | rfl | exact ⟨rfl, rfl⟩ | exact ⟨rfl, rfl, rfl⟩ | exact ⟨rfl, rfl, rfl, rfl⟩ | exact ⟨rfl, rfl, rfl, rfl, rfl⟩ | exact ⟨⟨rfl, rfl⟩, rfl⟩ | simp)
      · have hge : ¬ (j : Int) < L.length := by omega
        have e : endGo (L.drop j) n j = -1 := by rw [List.drop_eq_nil_of_le (by omega), endGo_nil _ hn0]
        rw [e]
        have h0 : lk 0 tys = none := rfl
        have hro : Go.Vc.rowAt (L.map encTok) j = [] := by unfold Go.Vc.rowAt; rw [List.getElem?_eq_none (by rw [List.length_map]; omega)]; rfl
        have hle : (L.length : Int) ≤ j := by omega
        (repeat' (first | (refine WP.regionO (id := 6) ?_; simp only [go_sem, hn0i, hle, h0, hro, tyAll, Nat.reduceAdd, Nat.reduceLT, Nat.reduceLeDiff, Nat.reduceEqDiff, Nat.reduceMul, Nat.reduceSub, Nat.reduceGT, reduceIte, Int.reduceNeg, Int.reduceToNat]) | refine WP.seq ?_ | refine WP.block ?_ | ((first | refine WP.region ?_ | refine WP.condW ?_ | refine WP.ret ?_ | refine WP.exit ?_ | refine WP.skip ?_); simp only [go_sem, hn0i, hle, h0, hro, tyAll, Nat.reduceAdd, Nat.reduceLT, Nat.reduceLeDiff, Nat.reduceEqDiff, Nat.reduceMul, Nat.reduceSub, Nat.reduceGT, reduceIte, Int.reduceNeg, Int.reduceToNat]) |  refine And.intro ?_ ?_ | intro _))
        all_goals first | omega | skip
        all_goals trace_state
    · have hn1 : n = 0 := by omega
      subst hn1
      rw [endGo_zero]
      (repeat' (first | refine WP.seq ?_ | refine WP.block ?_ | ((first | refine WP.region ?_ | refine WP.condW ?_ | refine WP.ret ?_ | refine WP.exit ?_ | refine WP.skip ?_); simp only [go_sem, tyAll, Nat.reduceAdd, Nat.reduceLT, Nat.reduceLeDiff, Nat.reduceEqDiff, Nat.reduceMul, Nat.reduceSub, Nat.reduceGT, reduceIte, Int.reduceNeg, Int.reduceToNat]) |  refine And.intro ?_ ?_ | intro _))
      all_goals first | omega | skip
      all_goals trace_state
  · rw [exprEnd_out (by omega)]
    have hna : a < 0 := by omega
    (repeat' (first | refine WP.seq ?_ | refine WP.block ?_ | ((first | refine WP.region ?_ | refine WP.condW ?_ | refine WP.ret ?_ | refine WP.exit ?_ | refine WP.skip ?_); simp only [go_sem, hna, tyAll, Nat.reduceAdd, Nat.reduceLT, Nat.reduceLeDiff, Nat.reduceEqDiff, Nat.reduceMul, Nat.reduceSub, Nat.reduceGT, reduceIte, Int.reduceNeg, Int.reduceToNat]) |  refine And.intro ?_ ?_ | intro _))
    all_goals first | omega | skip
    all_goals trace_state
end
theorem exprOk_yes {L : List Tok} (h : exprOk L = true) : (L.length : Int) ≤ 20 ∧ (0 : Int) < L.length ∧ exprEnd L 0 = (L.length : Int) := by
  obtain ⟨a, b, c⟩ := exprOk_iff.1 h
  have := List.length_pos_iff.2 b
  exact ⟨by omega, by omega, c⟩
theorem exprOk_eq (L : List Tok) : exprOk L = (decide ((L.length : Int) ≤ 20) && decide ((0 : Int) < L.length) && (exprEnd L 0 == (L.length : Int))) := by
  rw [Bool.eq_iff_iff, exprOk_iff]
  simp only [Bool.and_eq_true, decide_eq_true_eq, beq_iff_eq, ← List.length_pos_iff]
  omega
section
noncomputable def cxEoI : Cx := { P := Tryd.prog, tys := tys, C := [(65, kEnd)], hty := tysOk, hC := COk.cons cEndI (COk.nil _) }
theorem cxEoI_t : cxEoI.tys = tys := rfl
theorem cxEoI_c : cxEoI.C = [(65, kEnd)] := rfl
attribute [local go_sem] cxEoI_t cxEoI_c kEnd
theorem cExOkI : Cn Tryd.prog 48 kExOk := by
  refine Cn.pur Tryd.func48 (by kernel_rfl) rfl fun d x hx => ?_
  rename List Tok => L
  have hL := hx.1
  refine Holds.go (c := cxEoI) Tryd.func48 rfl Tryd.results48 Tryd.ntmps48 (by omega) (by simp) rfl ?_
  intro X0 w0
  rw [exprOk_eq]
  (repeat' (first | refine WP.seq ?_ | refine WP.block ?_ | ((first | refine WP.region ?_ | refine WP.condW ?_ | refine WP.ret ?_ | refine WP.exit ?_ | refine WP.skip ?_); simp only [go_sem, tyAll, Nat.reduceAdd, Nat.reduceLT, Nat.reduceLeDiff, Nat.reduceEqDiff, Nat.reduceMul, Nat.reduceSub, Nat.reduceGT, reduceIte, Int.reduceNeg, Int.reduceToNat]) |  refine And.intro ?_ ?_ | intro _))
  all_goals first | omega | exact hx | exact hx.2 _ ‹_› | skip
  all_goals trace_state
end
section
noncomputable def cxEoS : Cx := { P := Tryd.prog, tys := tys, C := [(56, kEnd)], hty := tysOk, hC := COk.cons cEndS (COk.nil _) }
theorem cxEoS_t : cxEoS.tys = tys := rfl
theorem cxEoS_c : cxEoS.C = [(56, kEnd)] := rfl
attribute [local go_sem] cxEoS_t cxEoS_c kEnd
theorem cExOkS : Cn Tryd.prog 40 kExOk := by
  refine Cn.pur Tryd.func40 (by kernel_rfl) rfl fun d x hx => ?_
  rename List Tok => L
  have hL := hx.1
  refine Holds.go (c := cxEoS) Tryd.func40 rfl Tryd.results40 Tryd.ntmps40 (by omega) (by simp) rfl ?_
  intro X0 w0
  rw [exprOk_eq, Bool.and_comm (decide ((L.length : Int) ≤ 20))]
  (repeat' (first | refine WP.seq ?_ | refine WP.block ?_ | ((first | refine WP.region ?_ | refine WP.condW ?_ | refine WP.ret ?_ | refine WP.exit ?_ | refine WP.skip ?_); simp only [go_sem, tyAll, Nat.reduceAdd, Nat.reduceLT, Nat.reduceLeDiff, Nat.reduceEqDiff, Nat.reduceMul, Nat.reduceSub, Nat.reduceGT, reduceIte, Int.reduceNeg, Int.reduceToNat]) |  refine And.intro ?_ ?_ | intro _))
  all_goals first | omega | exact hx | exact hx.2 _ ‹_› | skip
  all_goals trace_state
end
def kFmtE : Ctr := pur (fun args => decTok (aR args 0)) (fun x => [.sl 3 (x.map encTok)]) smToks (fun _ x => .v (.string (fmtExpr x))) (fun _ _ => [])
theorem fmtTok_ok {t : Tok} (h : tokOk t = true) : fmtTok t = bts (tokL t) := by unfold fmtTok; rw [if_pos h]
theorem fmtExpr_bad {L : List Tok} (h : exprOk L = false) : fmtExpr L = ⟨#[]⟩ := by unfold fmtExpr; rw [h]; rfl
theorem fmtExpr_ok {L : List Tok} (h : exprOk L = true) : fmtExpr L = bts (joinL 32 (L.map tokL)) := by unfold fmtExpr; rw [if_pos h]
theorem joinT_len {L : List Tok} (h : ∀ t ∈ L, tokOk t = true) (k : Nat) : (joinL 32 ((L.take k).map tokL)).length ≤ 11 * L.length := by
  have := joinL_len' 32 ((L.take k).map tokL) 10 fun x hx => by
    obtain ⟨t, ht, rfl⟩ := List.mem_map.1 hx
    exact (tokL_chars (h t (List.mem_of_mem_take ht))).2.2
  simp only [List.length_map, List.length_take] at this
  omega
theorem joinT_take (L : List Tok) (k : Nat) (hk : k < L.length) : bts (joinL 32 ((L.take (k + 1)).map tokL)) = (if k = 0 then bts (tokL L[k]) else bts (joinL 32 ((L.take k).map tokL)) ++ ⟨#[32]⟩ ++ bts (tokL L[k])) := by
  rw [List.take_succ_eq_append_getElem hk, List.map_append, List.map_cons, List.map_nil, joinL_snoc]
  by_cases h0 : k = 0
  · subst h0; rw [if_pos (by simp), if_pos rfl]
  · rw [if_neg (by
      intro e
      have := congrArg List.length e
      rw [List.length_map, List.length_take, List.length_nil] at this; omega), if_neg h0, show (⟨#[32]⟩ : ByteArray) = bts [32] from rfl, bts_append, bts_append]
    congr 1
    simp
theorem mapT (L : List Tok) (k : Nat) : (((L.take k).map fun t => bts (tokL t)).map (·.data.toList)) = (L.take k).map tokL := by
  rw [List.map_map]
  exact List.map_congr_left fun f _ => by simp [bts]
theorem takeT (L : List Tok) (k : Nat) (hk : k < L.length) : ((L.take k).map fun t => bts (tokL t)).map encS ++ [[SV.v (.string (bts (tokL L[k])))]] = ((L.take (k + 1)).map fun t => bts (tokL t)).map encS := by
  rw [List.take_succ_eq_append_getElem hk, List.map_append, List.map_append, List.map_cons, List.map_nil]; rfl
section
noncomputable def cxFeI : Cx := { P := Tryd.prog, tys := tys, C := [(48, kExOk), (64, kFmtT), (51, kJoin)], hty := tysOk, hC := COk.cons cExOkI (COk.cons cFmtTI (COk.cons cJoin (COk.nil _))) }
theorem cxFeI_t : cxFeI.tys = tys := rfl
theorem cxFeI_c : cxFeI.C = [(48, kExOk), (64, kFmtT), (51, kJoin)] := rfl
attribute [local go_sem] cxFeI_t cxFeI_c kExOk kFmtT kJoin
theorem cFmtEI : Cn Tryd.prog 50 kFmtE := by
  refine Cn.pur Tryd.func50 (by kernel_rfl) rfl fun d x hx => ?_
  rename List Tok => L
  have hL := hx.1
  refine Holds.go (c := cxFeI) Tryd.func50 rfl Tryd.results50 Tryd.ntmps50 (by omega) (by simp) rfl ?_
  intro X0 w0
  cases hok : exprOk L with
  | false =>
    rw [fmtExpr_bad hok]
    (repeat' (first | refine WP.seq ?_ | refine WP.block ?_ | ((first | refine WP.region ?_ | refine WP.condW ?_ | refine WP.ret ?_ | refine WP.exit ?_ | refine WP.skip ?_); simp only [go_sem, hok, tyAll, Nat.reduceAdd, Nat.reduceLT, Nat.reduceLeDiff, Nat.reduceEqDiff, Nat.reduceMul, Nat.reduceSub, Nat.reduceGT, reduceIte, Int.reduceNeg, Int.reduceToNat]) |  refine And.intro ?_ ?_ | intro _))
    all_goals first | omega | exact hx | exact hx.2 _ ‹_› | skip
    all_goals trace_state
  | true =>
    have hT := exprOk_toks hok
    have hl20 := (exprOk_iff.1 hok).1
    rw [fmtExpr_ok hok]
    (repeat' (first | refine WP.seq ?_ | refine WP.block ?_ | ((first | refine WP.region ?_ | refine WP.condW ?_ | refine WP.ret ?_ | refine WP.exit ?_ | refine WP.skip ?_); simp only [go_sem, hok, tyAll, Nat.reduceAdd, Nat.reduceLT, Nat.reduceLeDiff, Nat.reduceEqDiff, Nat.reduceMul, Nat.reduceSub, Nat.reduceGT, reduceIte, Int.reduceNeg, Int.reduceToNat]) |  refine And.intro ?_ ?_ | intro _))
    all_goals first | omega | exact hx | exact hx.2 _ ‹_› | skip
    refine WP.prep [] [(9, 3)] rfl ?_
    refine WP.loop (fun k : Nat => ⟨[(3, .own 3), (10, .sl 3 (L.map encTok)), (11, .v (.int .i64 L.length)), (12, .v (.int .i64 k))], [(3, .sl 9 1 (((L.take k).map fun t => bts (tokL t)).map encS))]⟩) (fun k => k ≤ L.length) (fun k => L.length - k) 0 (by simp) ?_ ?_
    · (simp only [go_sem, tyAll, Nat.reduceAdd, Nat.reduceLT, Nat.reduceLeDiff, Nat.reduceEqDiff, Nat.reduceMul, Nat.reduceSub, Nat.reduceGT, reduceIte, Int.reduceNeg, Int.reduceToNat] <;> (first | rfl | exact ⟨rfl, rfl⟩ | exact ⟨rfl, rfl, rfl⟩ | exact ⟨rfl, rfl, rfl, rfl⟩ | exact ⟨rfl, rfl, rfl, rfl, rfl⟩ | exact ⟨⟨rfl, rfl⟩, rfl⟩ | simp))
    intro k hk
    have hlk : ((L.take k).map fun t => bts (tokL t)).length = k := by rw [List.length_map, List.length_take]; omega
    by_cases hlt : k < L.length
    · have hlti : (k : Int) < L.length := by omega
      have h1 := rowAt_map encTok L k hlt
      have htk := takeT L k hlt
      have hf := fmtTok_ok (hT _ (List.getElem_mem hlt))
      have h3 := hx.2 _ (List.getElem_mem hlt)
      generalize L[k] = y at h1 htk hf h3
      obtain ⟨yk, yn, ys⟩ := y
      rw [encTok] at h1
      simp only at h1
      (repeat' (first | refine WP.seq ?_ | refine WP.block ?_ | ((first | refine WP.region ?_ | refine WP.condW ?_ | refine WP.ret ?_ | refine WP.exit ?_ | refine WP.skip ?_); simp only [go_sem, h1, hlti, hf, hlk, tyAll, Nat.reduceAdd, Nat.reduceLT, Nat.reduceLeDiff, Nat.reduceEqDiff, Nat.reduceMul, Nat.reduceSub, Nat.reduceGT, reduceIte, Int.reduceNeg, Int.reduceToNat]) |  refine And.intro ?_ ?_ | intro _))
      all_goals first | omega | exact h3 | exact ⟨k + 1, by omega, by omega, by rw [htk]; (first | rfl | exact ⟨rfl, rfl⟩ | exact ⟨rfl, rfl, rfl⟩ | exact ⟨rfl, rfl, rfl, rfl⟩ | exact ⟨rfl, rfl, rfl, rfl, rfl⟩ | exact ⟨⟨rfl, rfl⟩, rfl⟩ | simp)⟩ | skip
      all_goals trace_state
    · have hge : ¬ (k : Int) < L.length := by omega
      have hkl : k = L.length := by omega
      have hm := mapT L k
      have hjl := joinT_len hT k
      have e32 : (⟨#[32]⟩ : ByteArray)[0]! = 32 := rfl
      have z32 : ByteArray.size ⟨#[32]⟩ = 1 := rfl
      have htl : L.take k = L := by rw [hkl, List.take_length]
      rw [htl] at hm hlk hjl ⊢
      (repeat' (first | refine WP.seq ?_ | refine WP.block ?_ | ((first | refine WP.region ?_ | refine WP.condW ?_ | refine WP.ret ?_ | refine WP.exit ?_ | refine WP.skip ?_); simp only [go_sem, hge, hm, hlk, e32, z32, tyAll, Nat.reduceAdd, Nat.reduceLT, Nat.reduceLeDiff, Nat.reduceEqDiff, Nat.reduceMul, Nat.reduceSub, Nat.reduceGT, reduceIte, Int.reduceNeg, Int.reduceToNat]) |  refine And.intro ?_ ?_ | intro _))
      all_goals first | omega | skip
      all_goals trace_state
end
section
noncomputable def cxFeS : Cx := { P := Tryd.prog, tys := tys, C := [(40, kExOk), (55, kFmtT)], hty := tysOk, hC := COk.cons cExOkS (COk.cons cFmtTS (COk.nil _)) }
theorem cxFeS_t : cxFeS.tys = tys := rfl
theorem cxFeS_c : cxFeS.C = [(40, kExOk), (55, kFmtT)] := rfl
attribute [local go_sem] cxFeS_t cxFeS_c kExOk kFmtT
theorem cFmtES : Cn Tryd.prog 44 kFmtE := by
  refine Cn.pur Tryd.func44 (by kernel_rfl) rfl fun d x hx => ?_
  rename List Tok => L
  have hL := hx.1
  refine Holds.go (c := cxFeS) Tryd.func44 rfl Tryd.results44 Tryd.ntmps44 (by omega) (by simp) rfl ?_
  intro X0 w0
  cases hok : exprOk L with
  | false =>
    rw [fmtExpr_bad hok]
    (repeat' (first | refine WP.seq ?_ | refine WP.block ?_ | ((first | refine WP.region ?_ | refine WP.condW ?_ | refine WP.ret ?_ | refine WP.exit ?_ | refine WP.skip ?_); simp only [go_sem, tyAll, Nat.reduceAdd, Nat.reduceLT, Nat.reduceLeDiff, Nat.reduceEqDiff, Nat.reduceMul, Nat.reduceSub, Nat.reduceGT, reduceIte, Int.reduceNeg, Int.reduceToNat]) |  refine And.intro ?_ ?_ | intro _))
    all_goals first | omega | exact hx | exact hx.2 _ ‹_› | skip
    refine WP.loop (fun _ : Unit => ⟨[(0, .sl 3 (L.map encTok)), (3, .v (.string ⟨#[]⟩)), (4, .v (.int .i64 0))], []⟩) (fun _ => True) (fun _ => 0) () trivial ?_ ?_
    · (simp only [go_sem, tyAll, Nat.reduceAdd, Nat.reduceLT, Nat.reduceLeDiff, Nat.reduceEqDiff, Nat.reduceMul, Nat.reduceSub, Nat.reduceGT, reduceIte, Int.reduceNeg, Int.reduceToNat] <;> (first | rfl | exact ⟨rfl, rfl⟩ | exact ⟨rfl, rfl, rfl⟩ | exact ⟨rfl, rfl, rfl, rfl⟩ | exact ⟨rfl, rfl, rfl, rfl, rfl⟩ | exact ⟨⟨rfl, rfl⟩, rfl⟩ | simp))
    intro _ _
    (repeat' (first | refine WP.seq ?_ | refine WP.block ?_ | ((first | refine WP.region ?_ | refine WP.condW ?_ | refine WP.ret ?_ | refine WP.exit ?_ | refine WP.skip ?_); simp only [go_sem, hok, tyAll, Nat.reduceAdd, Nat.reduceLT, Nat.reduceLeDiff, Nat.reduceEqDiff, Nat.reduceMul, Nat.reduceSub, Nat.reduceGT, reduceIte, Int.reduceNeg, Int.reduceToNat]) |  refine And.intro ?_ ?_ | intro _))
    all_goals first | omega | exact hx | exact hx.2 _ ‹_› | skip
    all_goals trace_state
  | true =>
    have hT := exprOk_toks hok
    have hl20 := (exprOk_iff.1 hok).1
    rw [fmtExpr_ok hok]
    (repeat' (first | refine WP.seq ?_ | refine WP.block ?_ | ((first | refine WP.region ?_ | refine WP.condW ?_ | refine WP.ret ?_ | refine WP.exit ?_ | refine WP.skip ?_); simp only [go_sem, tyAll, Nat.reduceAdd, Nat.reduceLT, Nat.reduceLeDiff, Nat.reduceEqDiff, Nat.reduceMul, Nat.reduceSub, Nat.reduceGT, reduceIte, Int.reduceNeg, Int.reduceToNat]) |  refine And.intro ?_ ?_ | intro _))
    all_goals first | omega | exact hx | exact hx.2 _ ‹_› | skip
    refine WP.loop (fun k : Nat => ⟨[(0, .sl 3 (L.map encTok)), (3, .v (.string (bts (joinL 32 ((L.take k).map tokL))))), (4, .v (.int .i64 k))], []⟩) (fun k => k ≤ L.length) (fun k => L.length - k) 0 (by simp) ?_ ?_
    · have e0 : bts (joinL 32 ((L.take 0).map tokL)) = ⟨#[]⟩ := rfl
      (simp only [go_sem, e0, tyAll, Nat.reduceAdd, Nat.reduceLT, Nat.reduceLeDiff, Nat.reduceEqDiff, Nat.reduceMul, Nat.reduceSub, Nat.reduceGT, reduceIte, Int.reduceNeg, Int.reduceToNat] <;> (first | rfl | exact ⟨rfl, rfl⟩ | exact ⟨rfl, rfl, rfl⟩ | exact ⟨rfl, rfl, rfl, rfl⟩ | exact ⟨rfl, rfl, rfl, rfl, rfl⟩ | exact ⟨⟨rfl, rfl⟩, rfl⟩ | simp))
    intro k hk
    have hjl := joinT_len hT k
    rw [← bts_size] at hjl
    by_cases hlt : k < L.length
    · have hlti : (k : Int) < L.length := by omega
      have h1 := rowAt_map encTok L k hlt
      have hj := joinT_take L k hlt
      have hf := fmtTok_ok (hT _ (List.getElem_mem hlt))
      have h3 := hx.2 _ (List.getElem_mem hlt)
      have htl := (tokL_chars (hT _ (List.getElem_mem hlt))).2.2
      rw [← bts_size] at htl
      have z32 : ByteArray.size ⟨#[32]⟩ = 1 := rfl
      have hT0 : k = 0 → bts (joinL 32 ((L.take k).map tokL)) = ⟨#[]⟩ := fun e => by subst e; rfl
      generalize bts (joinL 32 ((L.take k).map tokL)) = T at *
      generalize L[k] = y at h1 hj hf h3 htl
      obtain ⟨yk, yn, ys⟩ := y
      rw [encTok] at h1
      simp only at h1
      (repeat' (first | refine WP.seq ?_ | refine WP.block ?_ | ((first | refine WP.region ?_ | refine WP.condW ?_ | refine WP.ret ?_ | refine WP.exit ?_ | refine WP.skip ?_); simp only [go_sem, h1, hlti, hok, hf, ByteArray.size_append, z32, tyAll, Nat.reduceAdd, Nat.reduceLT, Nat.reduceLeDiff, Nat.reduceEqDiff, Nat.reduceMul, Nat.reduceSub, Nat.reduceGT, reduceIte, Int.reduceNeg, Int.reduceToNat]) |  refine And.intro ?_ ?_ | intro _))
      all_goals first | omega | exact hx | exact hx.2 _ ‹_› | exact h3 | skip
      · refine ⟨k + 1, by omega, by omega, ?_⟩
        rw [hj, if_neg (by omega)]; (first | rfl | exact ⟨rfl, rfl⟩ | exact ⟨rfl, rfl, rfl⟩ | exact ⟨rfl, rfl, rfl, rfl⟩ | exact ⟨rfl, rfl, rfl, rfl, rfl⟩ | exact ⟨⟨rfl, rfl⟩, rfl⟩ | simp)
      · refine ⟨k + 1, by omega, by omega, ?_⟩
        rw [hj, if_pos (by omega), hT0 (by omega), ba_nil]; (first | rfl | exact ⟨rfl, rfl⟩ | exact ⟨rfl, rfl, rfl⟩ | exact ⟨rfl, rfl, rfl, rfl⟩ | exact ⟨rfl, rfl, rfl, rfl, rfl⟩ | exact ⟨⟨rfl, rfl⟩, rfl⟩ | simp)
    · have hge : ¬ (k : Int) < L.length := by omega
      rw [List.take_of_length_le (by omega)]
      (repeat' (first | refine WP.seq ?_ | refine WP.block ?_ | ((first | refine WP.region ?_ | refine WP.condW ?_ | refine WP.ret ?_ | refine WP.exit ?_ | refine WP.skip ?_); simp only [go_sem, hge, tyAll, Nat.reduceAdd, Nat.reduceLT, Nat.reduceLeDiff, Nat.reduceEqDiff, Nat.reduceMul, Nat.reduceSub, Nat.reduceGT, reduceIte, Int.reduceNeg, Int.reduceToNat]) |  refine And.intro ?_ ?_ | intro _))
      all_goals first | omega | skip
      all_goals trace_state
end
end
section
open Go.Vc
set_option linter.unusedSimpArgs false
set_option linter.unusedVariables false
set_option maxHeartbeats 1000000
set_option maxRecDepth 10000
attribute [local irreducible] Go.Vc.WP
attribute [local go_sem] cx0_t cx0_c
attribute [local go_sem] decTok_enc oneTok_f decS_enc St.fzS addL behind St.runO St.stepO aU
def kPT : Ctr := pur (fun args => aS args 0) (fun s => [.v (.string s)]) (fun s => s.size ≤ 1048576) (fun _ s => .tup [.agg [.v (.int .i64 (tokD s).kind), .v (.int .i64 (tokD s).num), .v (.string (tokD s).name)], .v (.bool (tokOf s).isSome)]) (fun _ _ => [])
theorem tokD_no {s : ByteArray} (h : tokOf s = none) : tokD s = ⟨0, 0, ⟨#[]⟩⟩ := by unfold tokD; rw [h]; rfl
theorem tokD_yes {s : ByteArray} {t : Tok} (h : tokOf s = some t) : tokD s = t := by unfold tokD; rw [h]; rfl
section
noncomputable def cxPtI : Cx := { P := Tryd.prog, tys := tys, C := [(14, kCut), (15, kParseU), (63, kIndex), (64, kFmtT)], hty := tysOk, hC := COk.cons cCut (COk.cons cParseUI (COk.cons cIndex (COk.cons cFmtTI (COk.nil _)))) }
theorem cxPtI_t : cxPtI.tys = tys := rfl
theorem cxPtI_c : cxPtI.C = [(14, kCut), (15, kParseU), (63, kIndex), (64, kFmtT)] := rfl
attribute [local go_sem] cxPtI_t cxPtI_c kCut kParseU kIndex kFmtT
theorem cPTI : Cn Tryd.prog 47 kPT := by
  refine Cn.pur Tryd.func47 (by kernel_rfl) rfl fun d x hx => ?_
  rename ByteArray => s
  refine Holds.go (c := cxPtI) Tryd.func47 rfl Tryd.results47 Tryd.ntmps47 (by omega) (by simp) rfl ?_
  intro X0 w0
  have h47 : (⟨#[47]⟩ : ByteArray).data.toList = [47] := rfl
  have h5 : (⟨#[43, 45, 42, 60, 61]⟩ : ByteArray).data.toList = [43, 45, 42, 60, 61] := rfl
  have z5 : (⟨#[43, 45, 42, 60, 61]⟩ : ByteArray).size = 5 := rfl
  have hcs := cut_size s.data.toList
  have hsl : s.data.toList.length = s.size := by simp
  have hno := @tokOf_no s
  have hyes := @tokOf_yes s
  by_cases hz : s = ⟨#[]⟩
  · have hn := hno (.inl hz)
    subst hz
    rw [hn, tokD_no hn]
    have hu : parseU ⟨#[]⟩ = none := rfl
    have hop : (((ByteArray.size ⟨#[]⟩ : Nat) : Int) == 1) = false := rfl
    have hcb : Lib.cut [] [47] = ([], [], false) := rfl
    have hd : (ByteArray.mk #[]).data.toList = [] := rfl
    have hix : Lib.index [43, 45, 42, 60, 61] [] = 0 := rfl
    have hz0 : ByteArray.size ⟨#[]⟩ = 0 := rfl
    have hbn : bts [] = ⟨#[]⟩ := rfl
    (repeat' (first | (refine WP.regionO (id := 12) ?_; simp only [go_sem, h47, h5, z5, hu, hop, hcb, hd, hix, hz0, hbn, tyAll, Nat.reduceAdd, Nat.reduceLT, Nat.reduceLeDiff, Nat.reduceEqDiff, Nat.reduceMul, Nat.reduceSub, Nat.reduceGT, reduceIte, Int.reduceNeg, Int.reduceToNat]) | refine WP.seq ?_ | refine WP.block ?_ | ((first | refine WP.region ?_ | refine WP.condW ?_ | refine WP.ret ?_ | refine WP.exit ?_ | refine WP.skip ?_); simp only [go_sem, h47, h5, z5, hu, hop, hcb, hd, hix, hz0, hbn, tyAll, Nat.reduceAdd, Nat.reduceLT, Nat.reduceLeDiff, Nat.reduceEqDiff, Nat.reduceMul, Nat.reduceSub, Nat.reduceGT, reduceIte, Int.reduceNeg, Int.reduceToNat]) |  refine And.intro ?_ ?_ | intro _))
    all_goals first | omega | rfl | exact ⟨_, _, rfl, _, _, rfl, rfl⟩ | skip
    all_goals trace_state
  cases hu : parseU s with
  | some n =>
    have hc := candI_num hu
    have hsm : smTok ⟨0, (n : Int), ⟨#[]⟩⟩ := by unfold smTok; show ByteArray.size ⟨#[]⟩ ≤ _; decide
    rw [hc] at hno hyes
    by_cases hq : fmtTok ⟨0, (n : Int), ⟨#[]⟩⟩ = s
    · have hy := hyes hz hq
      rw [hy, tokD_yes hy]
      (repeat' (first | refine WP.seq ?_ | refine WP.block ?_ | ((first | refine WP.region ?_ | refine WP.condW ?_ | refine WP.ret ?_ | refine WP.exit ?_ | refine WP.skip ?_); simp only [go_sem, h47, h5, z5, hu, hz, hq, tyAll, Nat.reduceAdd, Nat.reduceLT, Nat.reduceLeDiff, Nat.reduceEqDiff, Nat.reduceMul, Nat.reduceSub, Nat.reduceGT, reduceIte, Int.reduceNeg, Int.reduceToNat]) |  refine And.intro ?_ ?_ | intro _))
      all_goals first | omega | exact hsm | rfl | exact ⟨_, _, rfl, _, _, rfl, rfl⟩ | skip
      all_goals trace_state
    · have hn := hno (.inr hq)
      rw [hn, tokD_no hn]
      (repeat' (first | refine WP.seq ?_ | refine WP.block ?_ | ((first | refine WP.region ?_ | refine WP.condW ?_ | refine WP.ret ?_ | refine WP.exit ?_ | refine WP.skip ?_); simp only [go_sem, h47, h5, z5, hu, hz, hq, tyAll, Nat.reduceAdd, Nat.reduceLT, Nat.reduceLeDiff, Nat.reduceEqDiff, Nat.reduceMul, Nat.reduceSub, Nat.reduceGT, reduceIte, Int.reduceNeg, Int.reduceToNat]) |  refine And.intro ?_ ?_ | intro _))
      all_goals first | omega | exact hsm | rfl | exact ⟨_, _, rfl, _, _, rfl, rfl⟩ | skip
      all_goals trace_state
  | none =>
    by_cases ho : s.size = 1 ∧ 0 ≤ Lib.index [43, 45, 42, 60, 61] s.data.toList
    · have hc := candI_op hu ho
      have ho1 := ho.1
      have ho2 := ho.2
      have hob : Lib.index [43, 45, 42, 60, 61] s.data.toList ≤ 5 := idx_le5 _
      have e1 : ((1 : Nat) : Int) = 1 := rfl
      obtain ⟨ix, hix⟩ : ∃ ix, Lib.index [43, 45, 42, 60, 61] s.data.toList = ix := ⟨_, rfl⟩
      rw [hix] at hc ho2 hob
      have hsm : smTok ⟨2 + ix, 0, ⟨#[]⟩⟩ := by unfold smTok; show ByteArray.size ⟨#[]⟩ ≤ _; decide
      rw [hc] at hno hyes
      by_cases hq : fmtTok ⟨2 + ix, 0, ⟨#[]⟩⟩ = s
      · have hy := hyes hz hq
        rw [hy, tokD_yes hy]
        (repeat' (first | refine WP.seq ?_ | refine WP.block ?_ | ((first | refine WP.region ?_ | refine WP.condW ?_ | refine WP.ret ?_ | refine WP.exit ?_ | refine WP.skip ?_); simp only [go_sem, h47, h5, z5, hu, ho1, ho2, hix, e1, hz, hq, tyAll, Nat.reduceAdd, Nat.reduceLT, Nat.reduceLeDiff, Nat.reduceEqDiff, Nat.reduceMul, Nat.reduceSub, Nat.reduceGT, reduceIte, Int.reduceNeg, Int.reduceToNat]) |  refine And.intro ?_ ?_ | intro _))
        all_goals first | omega | exact hsm | rfl | exact ⟨_, _, rfl, _, _, rfl, rfl⟩ | skip
        all_goals trace_state
      · have hn := hno (.inr hq)
        rw [hn, tokD_no hn]
        (repeat' (first | refine WP.seq ?_ | refine WP.block ?_ | ((first | refine WP.region ?_ | refine WP.condW ?_ | refine WP.ret ?_ | refine WP.exit ?_ | refine WP.skip ?_); simp only [go_sem, h47, h5, z5, hu, ho1, ho2, hix, e1, hz, hq, tyAll, Nat.reduceAdd, Nat.reduceLT, Nat.reduceLeDiff, Nat.reduceEqDiff, Nat.reduceMul, Nat.reduceSub, Nat.reduceGT, reduceIte, Int.reduceNeg, Int.reduceToNat]) |  refine And.intro ?_ ?_ | intro _))
        all_goals first | omega | exact hsm | rfl | exact ⟨_, _, rfl, _, _, rfl, rfl⟩ | skip
        all_goals trace_state
    · have hop : ((s.size : Int) == 1 && decide (0 ≤ Lib.index [43, 45, 42, 60, 61] s.data.toList)) = false := by simp; omega
      have hcb : Lib.cut s.data.toList [47] = ((Lib.cut s.data.toList [47]).1, (Lib.cut s.data.toList [47]).2.1, (Lib.cut s.data.toList [47]).2.2) := rfl
      cases hb : (Lib.cut s.data.toList [47]).2.2 with
      | true =>
        cases hv : parseU (bts (Lib.cut s.data.toList [47]).2.1) with
        | some n =>
          have hc := candI_call hu ho hb hv
          obtain ⟨nm, hnm⟩ : ∃ nm, (Lib.cut s.data.toList [47]).1 = nm := ⟨_, rfl⟩
          rw [hnm] at hc hcs
          have hsm : smTok ⟨7, (n : Int), bts nm⟩ := by unfold smTok; simp only; omega
          rw [hc] at hno hyes
          by_cases hq : fmtTok ⟨7, (n : Int), bts nm⟩ = s
          · have hy := hyes hz hq
            rw [hy, tokD_yes hy]
            (repeat' (first | refine WP.seq ?_ | refine WP.block ?_ | ((first | refine WP.region ?_ | refine WP.condW ?_ | refine WP.ret ?_ | refine WP.exit ?_ | refine WP.skip ?_); simp only [go_sem, h47, h5, z5, hu, hop, hb, hv, hnm, hz, hq, tyAll, Nat.reduceAdd, Nat.reduceLT, Nat.reduceLeDiff, Nat.reduceEqDiff, Nat.reduceMul, Nat.reduceSub, Nat.reduceGT, reduceIte, Int.reduceNeg, Int.reduceToNat]) |  refine And.intro ?_ ?_ | intro _))
            all_goals first | omega | exact hsm | rfl | exact ⟨_, _, rfl, _, _, rfl, rfl⟩ | skip
            all_goals trace_state
          · have hn := hno (.inr hq)
            rw [hn, tokD_no hn]
            (repeat' (first | refine WP.seq ?_ | refine WP.block ?_ | ((first | refine WP.region ?_ | refine WP.condW ?_ | refine WP.ret ?_ | refine WP.exit ?_ | refine WP.skip ?_); simp only [go_sem, h47, h5, z5, hu, hop, hb, hv, hnm, hz, hq, tyAll, Nat.reduceAdd, Nat.reduceLT, Nat.reduceLeDiff, Nat.reduceEqDiff, Nat.reduceMul, Nat.reduceSub, Nat.reduceGT, reduceIte, Int.reduceNeg, Int.reduceToNat]) |  refine And.intro ?_ ?_ | intro _))
            all_goals first | omega | exact hsm | rfl | exact ⟨_, _, rfl, _, _, rfl, rfl⟩ | skip
            all_goals trace_state
        | none =>
          have hc := candI_var hu ho (.inr hv)
          have hsm : smTok ⟨1, 0, s⟩ := by unfold smTok; simp only; omega
          rw [hc] at hno hyes
          by_cases hq : fmtTok ⟨1, 0, s⟩ = s
          · have hy := hyes hz hq
            rw [hy, tokD_yes hy]
            (repeat' (first | refine WP.seq ?_ | refine WP.block ?_ | ((first | refine WP.region ?_ | refine WP.condW ?_ | refine WP.ret ?_ | refine WP.exit ?_ | refine WP.skip ?_); simp only [go_sem, h47, h5, z5, hu, hop, hb, hv, hz, hq, tyAll, Nat.reduceAdd, Nat.reduceLT, Nat.reduceLeDiff, Nat.reduceEqDiff, Nat.reduceMul, Nat.reduceSub, Nat.reduceGT, reduceIte, Int.reduceNeg, Int.reduceToNat]) |  refine And.intro ?_ ?_ | intro _))
            all_goals first | omega | exact hsm | rfl | exact ⟨_, _, rfl, _, _, rfl, rfl⟩ | skip
            all_goals trace_state
          · have hn := hno (.inr hq)
            rw [hn, tokD_no hn]
            (repeat' (first | refine WP.seq ?_ | refine WP.block ?_ | ((first | refine WP.region ?_ | refine WP.condW ?_ | refine WP.ret ?_ | refine WP.exit ?_ | refine WP.skip ?_); simp only [go_sem, h47, h5, z5, hu, hop, hb, hv, hz, hq, tyAll, Nat.reduceAdd, Nat.reduceLT, Nat.reduceLeDiff, Nat.reduceEqDiff, Nat.reduceMul, Nat.reduceSub, Nat.reduceGT, reduceIte, Int.reduceNeg, Int.reduceToNat]) |  refine And.intro ?_ ?_ | intro _))
            all_goals first | omega | exact hsm | rfl | exact ⟨_, _, rfl, _, _, rfl, rfl⟩ | skip
            all_goals trace_state
      | false =>
        have hc := candI_var hu ho (.inl hb)
        have hsm : smTok ⟨1, 0, s⟩ := by unfold smTok; simp only; omega
        rw [hc] at hno hyes
        by_cases hq : fmtTok ⟨1, 0, s⟩ = s
        · have hy := hyes hz hq
          rw [hy, tokD_yes hy]
          (repeat' (first | refine WP.seq ?_ | refine WP.block ?_ | ((first | refine WP.region ?_ | refine WP.condW ?_ | refine WP.ret ?_ | refine WP.exit ?_ | refine WP.skip ?_); simp only [go_sem, h47, h5, z5, hu, hop, hb, hz, hq, tyAll, Nat.reduceAdd, Nat.reduceLT, Nat.reduceLeDiff, Nat.reduceEqDiff, Nat.reduceMul, Nat.reduceSub, Nat.reduceGT, reduceIte, Int.reduceNeg, Int.reduceToNat]) |  refine And.intro ?_ ?_ | intro _))
          all_goals first | omega | exact hsm | rfl | exact ⟨_, _, rfl, _, _, rfl, rfl⟩ | skip
          all_goals trace_state
        · have hn := hno (.inr hq)
          rw [hn, tokD_no hn]
          (repeat' (first | refine WP.seq ?_ | refine WP.block ?_ | ((first | refine WP.region ?_ | refine WP.condW ?_ | refine WP.ret ?_ | refine WP.exit ?_ | refine WP.skip ?_); simp only [go_sem, h47, h5, z5, hu, hop, hb, hz, hq, tyAll, Nat.reduceAdd, Nat.reduceLT, Nat.reduceLeDiff, Nat.reduceEqDiff, Nat.reduceMul, Nat.reduceSub, Nat.reduceGT, reduceIte, Int.reduceNeg, Int.reduceToNat]) |  refine And.intro ?_ ?_ | intro _))
          all_goals first | omega | exact hsm | rfl | exact ⟨_, _, rfl, _, _, rfl, rfl⟩ | skip
          all_goals trace_state
end
end
end Go.Proofs.YtdhkhapbldkkdaaDoor
