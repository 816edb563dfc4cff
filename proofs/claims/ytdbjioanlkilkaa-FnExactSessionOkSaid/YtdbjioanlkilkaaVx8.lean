/-
  DERIVED. Several texts of ours in one: VtSeQ, VtSessL, VcY, VcYw.
-/
import Derived.Test.YtdbjioanlkilkaaVx0
import Derived.Test.YtdbjioanlkilkaaVx1
import Derived.Test.YtdbjioanlkilkaaVx2
import Derived.Test.YtdbjioanlkilkaaVx3
import Derived.Test.YtdbjioanlkilkaaVx4
import Derived.Test.YtdbjioanlkilkaaVx5
import Derived.Test.YtdbjioanlkilkaaVx6
import Derived.Test.YtdbjioanlkilkaaVx7
import Derived.Deep.Strs
import Derived.Lib.SmallJoins
set_option linter.unusedSimpArgs false
set_option linter.unusedVariables false
namespace Go.Proofs.Ytdbjioanlkilkaa
open Go.Vc
attribute [local go_sem] St.runR St.runW St.stepV offV St.step St.stepU St.stepG mkCond guardB St.prK St.pr St.prLen St.eff St.callE St.callD St.callF St.callL aI aB aS aR aC St.isM St.argL Ctr.pure Ctr.lend Ctr.move Ctr.isL Ctr.wri pur len lentBy St.lentV St.lent1 nthS argsR restOf obsR pairs swapL unObs backL St.resL erL SV.ren1 SV.up SV.up2 Ob.up St.fzL cellIds partIds St.intoRow SV.ownId St.fz SV.fz1 St.prep St.mvL St.mv SV.re1 rnOk St.prEq vals eqCells scEq Value.kd St.prStr St.prCut cutR St.bnd St.prMin St.bld isShift outL retL outJ oR oC St.ev St.get St.put St.new St.kill SV.kill SV.kill1 Ob.kill St.app St.wrt St.rowsOf St.res St.killL lk er argsL SV.strip SV.need SV.share SV.share1 SV.owns SV.owns1 SV.owns2 SV.good SV.good1 SV.rok SV.rok1 SV.rok2 SV.isV SV.isV2 nodupN SV.cells SV.one SV.pur Ob.pb partsIn rowsIn splice cellsAt dstOk scal2 scal1 thenK blockK retK outK outs okC okL okA okT nilC nilL nilA nilT keepC keepL keepA keepT St.runG St.dltK St.least St.clean St.final St.hide offK badS badO SV.refs SV.leaf SV.leaf2 Ob.refs dlOk fpAt Go.Vc.cover tups SV.ofAgg St.out outC subL St.has rng wr Value.oneCell' Option.isSome_some Option.isSome_none List.nil_append Bool.false_eq_true List.map_cons List.map_nil List.all_cons List.all_nil List.length_cons List.length_nil List.drop_zero List.drop_succ_cons List.take_succ_cons List.take_zero List.drop_nil List.take_nil List.getElem?_cons_zero List.getElem?_cons_succ List.getElem?_nil List.cons_append List.nil_append List.append_nil List.append_assoc List.flatMap_cons List.flatMap_nil List.contains_cons List.contains_nil List.set_cons_zero List.set_cons_succ List.getElem?_toArray Option.getD_some Option.getD_none Option.map_some Option.map_none Option.bind_some Option.some.injEq Prod.mk.injEq if_true if_false true_and and_true and_self and_false false_and Bool.and_false Bool.false_and Bool.or_true Bool.true_or Bool.or_false Bool.false_or ne_eq not_true_eq_false not_false_eq_true decide_true decide_false List.mem_cons List.not_mem_nil List.filter_cons List.filter_nil List.any_cons List.any_nil List.isEmpty_nil List.isEmpty_cons Option.getD_none or_false false_or true_or or_true forall_eq_or_imp forall_eq reduceCtorEq exists_eq exists_eq' exists_eq_left' exists_eq_left exists_eq_right exists_eq_right' imp_self implies_true Bool.and_true Bool.true_and Bool.and_self beq_self_eq_true List.replicate_succ List.replicate_zero forall_const false_implies pickB_or pickB_and beqT beqF Int.toNat_natCast List.length_map List.length_replicate ge_iff_le gt_iff_lt decide_eq_true_eq decide_eq_false_iff_not Bool.and_eq_true Bool.or_eq_true Bool.not_eq_true' Bool.not_eq_false' condG List.toList_toArray Bool.or_eq_false_iff Bool.and_eq_false_iff Int.not_lt Int.not_le beq_iff_eq beq_eq_false_iff_ne bne_iff_ne bne_eq_false_iff_eq ne_eq Bool.not_true Bool.not_false exists_and_left
section
open Go.Vc
set_option linter.unusedSimpArgs false
set_option linter.unusedVariables false
set_option maxHeartbeats 1000000
set_option maxRecDepth 10000
attribute [local irreducible] Go.Vc.WP
attribute [local go_sem] cx0_t cx0_c
open Go.Pl
attribute [local go_sem] decI_enc decImage_enc spA decS_enc decMach_enc oneMach_f mach_eta pcA rgA seA decSymbol_enc tmA tm_eta
def shImg (x : Image) : Prop := x.symbols.length ≤ 2097152
def kqImg : Ctr := pur (fun args => oneImage (aC args 0)) (fun x => [.agg [.v (.string x.code), .sl 3 (x.symbols.map encSymbol)], .agg [.v (.string x.code), .sl 3 (x.symbols.map encSymbol)]]) shImg (fun _ _ => .v (.bool true)) (fun _ _ => [])
section
attribute [local go_sem] oneImage
noncomputable def cxQim : Cx := { P := Try.prog, tys := tys, C := [(158, keqSymbolS)], hty := tysOk, hC := COk.cons ceqSymbolS (COk.nil _) }
theorem cxQim_t : cxQim.tys = tys := rfl
theorem cxQim_c : cxQim.C = [(158, keqSymbolS)] := rfl
attribute [local go_sem] cxQim_t cxQim_c keqSymbolS
theorem cqImg : Cn Try.prog 153 kqImg := by
  refine Cn.pur Try.func153 (by kernel_rfl) rfl fun d x hx => ?_
  obtain ⟨c, Y⟩ := x
  unfold shImg at hx
  simp only at hx ⊢
  refine Holds.go (c := cxQim) Try.func153 rfl Try.results153 Try.ntmps153 (by omega) (by simp) rfl ?_
  intro X0 w0
  (repeat' (first | refine WP.seq ?_ | refine WP.block ?_ | ((first | refine WP.region ?_ | refine WP.condW ?_ | refine WP.ret ?_ | refine WP.exit ?_ | refine WP.skip ?_); simp only [go_sem, tyAll, Nat.reduceAdd, Nat.reduceLT, Nat.reduceLeDiff, Nat.reduceEqDiff, Nat.reduceMul, Nat.reduceSub, Nat.reduceGT, reduceIte, Int.reduceNeg, Int.reduceToNat]) |  refine And.intro ?_ ?_ | intro _))
  all_goals first | omega | skip
  all_goals trace_state
end
def kqMach : Ctr := pur (fun args => oneMach (aC args 0)) (fun x => [.agg [.v (.int .i64 x.pc), .v (.int .i64 x.sp), .v (.int .i64 x.fp), .sl 1 (x.stack.map encI), .sl 1 (x.out.map encI), .v (.int .i64 x.state), .v (.int .i64 x.value)], .agg [.v (.int .i64 x.pc), .v (.int .i64 x.sp), .v (.int .i64 x.fp), .sl 1 (x.stack.map encI), .sl 1 (x.out.map encI), .v (.int .i64 x.state), .v (.int .i64 x.value)]]) shMach (fun _ _ => .v (.bool true)) (fun _ _ => [])
section
noncomputable def cxQma : Cx := { P := Try.prog, tys := tys, C := [(14, k17)], hty := tysOk, hC := COk.cons c17 (COk.nil _) }
theorem cxQma_t : cxQma.tys = tys := rfl
theorem cxQma_c : cxQma.C = [(14, k17)] := rfl
attribute [local go_sem] cxQma_t cxQma_c k17
theorem cqMach : Cn Try.prog 147 kqMach := by
  refine Cn.pur Try.func147 (by kernel_rfl) rfl fun d x hx => ?_
  obtain ⟨a, b, c, s, o, d2, e2⟩ := x
  unfold shMach at hx
  obtain ⟨hs, ho⟩ := hx
  simp only at hs ho ⊢
  refine Holds.go (c := cxQma) Try.func147 rfl Try.results147 Try.ntmps147 (by omega) (by simp) rfl ?_
  intro X0 w0
  (repeat' (first | refine WP.seq ?_ | refine WP.block ?_ | ((first | refine WP.region ?_ | refine WP.condW ?_ | refine WP.ret ?_ | refine WP.exit ?_ | refine WP.skip ?_); simp only [go_sem, tyAll, Nat.reduceAdd, Nat.reduceLT, Nat.reduceLeDiff, Nat.reduceEqDiff, Nat.reduceMul, Nat.reduceSub, Nat.reduceGT, reduceIte, Int.reduceNeg, Int.reduceToNat]) |  refine And.intro ?_ ?_ | intro _))
  all_goals first | omega | skip
  all_goals trace_state
end

def kqImgS : Ctr := pur (fun args => decImage (aR args 0)) (fun L => [.sl 2 (L.map encImage), .sl 2 (L.map encImage)]) (fun L => L.length ≤ 2097152 ∧ ∀ x ∈ L, shImg x) (fun _ _ => .v (.bool true)) (fun _ _ => [])
section
attribute [local go_sem] oneImage
attribute [local irreducible] shImg
noncomputable def cxQis : Cx := { P := Try.prog, tys := tys, C := [(153, kqImg)], hty := tysOk, hC := COk.cons cqImg (COk.nil _) }
theorem cxQis_t : cxQis.tys = tys := rfl
theorem cxQis_c : cxQis.C = [(153, kqImg)] := rfl
attribute [local go_sem] cxQis_t cxQis_c kqImg
theorem cqImgS : Cn Try.prog 146 kqImgS := by
  refine Cn.pur Try.func146 (by kernel_rfl) rfl fun d x hx => ?_
  rename List Image => L
  obtain ⟨hL, hY⟩ := hx
  refine Holds.go (c := cxQis) Try.func146 rfl Try.results146 Try.ntmps146 (by omega) (by simp) rfl ?_
  intro X0 w0
  (repeat' (first | refine WP.seq ?_ | refine WP.block ?_ | ((first | refine WP.region ?_ | refine WP.condW ?_ | refine WP.ret ?_ | refine WP.exit ?_ | refine WP.skip ?_); simp only [go_sem, tyAll, Nat.reduceAdd, Nat.reduceLT, Nat.reduceLeDiff, Nat.reduceEqDiff, Nat.reduceMul, Nat.reduceSub, Nat.reduceGT, reduceIte, Int.reduceNeg, Int.reduceToNat]) | ((first | refine WP.drawW 10 (by decide +kernel) (by kernel_rfl) ?_); simp only [go_sem, tyAll, Nat.reduceAdd, Nat.reduceLT, Nat.reduceLeDiff, Nat.reduceEqDiff, Nat.reduceMul, Nat.reduceSub, Nat.reduceGT, reduceIte, Int.reduceNeg, Int.reduceToNat]) |  refine And.intro ?_ ?_ | intro _))
  all_goals first | omega | skip
  refine WP.loop (fun k : Nat => ⟨[(0, .sl 2 (L.map encImage)), (1, .sl 2 (L.map encImage)), (5, .v (.int .i64 k))], []⟩) (fun k => k ≤ L.length) (fun k => L.length - k) 0 (by simp) ?_ ?_
  · simp only [go_sem, tyAll, Nat.reduceAdd, Nat.reduceLT, Nat.reduceLeDiff, Nat.reduceEqDiff, Nat.reduceMul, Nat.reduceSub, Nat.reduceGT, reduceIte, Int.reduceNeg, Int.reduceToNat]; first | exact ⟨rfl, rfl⟩ | rfl
  intro k hk
  by_cases hlt : k < L.length
  · have h1 := rowAt_map encImage L k hlt
    have h0 := hY _ (List.getElem_mem hlt)
    (repeat' (first | refine WP.seq ?_ | refine WP.block ?_ | ((first | refine WP.region ?_ | refine WP.condW ?_ | refine WP.ret ?_ | refine WP.exit ?_ | refine WP.skip ?_); simp only [go_sem, h1, encImage, tyAll, Nat.reduceAdd, Nat.reduceLT, Nat.reduceLeDiff, Nat.reduceEqDiff, Nat.reduceMul, Nat.reduceSub, Nat.reduceGT, reduceIte, Int.reduceNeg, Int.reduceToNat]) | ((first | refine WP.drawW 10 (by decide +kernel) (by kernel_rfl) ?_); simp only [go_sem, h1, encImage, tyAll, Nat.reduceAdd, Nat.reduceLT, Nat.reduceLeDiff, Nat.reduceEqDiff, Nat.reduceMul, Nat.reduceSub, Nat.reduceGT, reduceIte, Int.reduceNeg, Int.reduceToNat]) |  refine And.intro ?_ ?_ | intro _))
    all_goals first | omega | exact h0 | exact ⟨k + 1, by omega, by omega, rfl⟩ | exact ⟨k + 1, by omega, by omega, rfl, rfl⟩ | skip
    all_goals trace_state
  · (repeat' (first | refine WP.seq ?_ | refine WP.block ?_ | ((first | refine WP.region ?_ | refine WP.condW ?_ | refine WP.ret ?_ | refine WP.exit ?_ | refine WP.skip ?_); simp only [go_sem, tyAll, Nat.reduceAdd, Nat.reduceLT, Nat.reduceLeDiff, Nat.reduceEqDiff, Nat.reduceMul, Nat.reduceSub, Nat.reduceGT, reduceIte, Int.reduceNeg, Int.reduceToNat]) | ((first | refine WP.drawW 10 (by decide +kernel) (by kernel_rfl) ?_); simp only [go_sem, tyAll, Nat.reduceAdd, Nat.reduceLT, Nat.reduceLeDiff, Nat.reduceEqDiff, Nat.reduceMul, Nat.reduceSub, Nat.reduceGT, reduceIte, Int.reduceNeg, Int.reduceToNat]) |  refine And.intro ?_ ?_ | intro _))
    all_goals first | omega | skip
    all_goals trace_state
end

def kqMachS : Ctr := pur (fun args => decMach (aR args 0)) (fun L => [.sl 7 (L.map encMach), .sl 7 (L.map encMach)]) (fun L => L.length ≤ 1048576 ∧ ∀ x ∈ L, shMach x) (fun _ _ => .v (.bool true)) (fun _ _ => [])
section
attribute [local go_sem] oneMach
attribute [local irreducible] shMach
noncomputable def cxQms : Cx := { P := Try.prog, tys := tys, C := [(147, kqMach)], hty := tysOk, hC := COk.cons cqMach (COk.nil _) }
theorem cxQms_t : cxQms.tys = tys := rfl
theorem cxQms_c : cxQms.C = [(147, kqMach)] := rfl
attribute [local go_sem] cxQms_t cxQms_c kqMach
theorem cqMachS : Cn Try.prog 118 kqMachS := by
  refine Cn.pur Try.func118 (by kernel_rfl) rfl fun d x hx => ?_
  rename List Mach => L
  obtain ⟨hL, hY⟩ := hx
  refine Holds.go (c := cxQms) Try.func118 rfl Try.results118 Try.ntmps118 (by omega) (by simp) rfl ?_
  intro X0 w0
  (repeat' (first | refine WP.seq ?_ | refine WP.block ?_ | ((first | refine WP.region ?_ | refine WP.condW ?_ | refine WP.ret ?_ | refine WP.exit ?_ | refine WP.skip ?_); simp only [go_sem, tyAll, Nat.reduceAdd, Nat.reduceLT, Nat.reduceLeDiff, Nat.reduceEqDiff, Nat.reduceMul, Nat.reduceSub, Nat.reduceGT, reduceIte, Int.reduceNeg, Int.reduceToNat]) | ((first | refine WP.drawW 10 (by decide +kernel) (by kernel_rfl) ?_); simp only [go_sem, tyAll, Nat.reduceAdd, Nat.reduceLT, Nat.reduceLeDiff, Nat.reduceEqDiff, Nat.reduceMul, Nat.reduceSub, Nat.reduceGT, reduceIte, Int.reduceNeg, Int.reduceToNat]) |  refine And.intro ?_ ?_ | intro _))
  all_goals first | omega | skip
  refine WP.loop (fun k : Nat => ⟨[(0, .sl 7 (L.map encMach)), (1, .sl 7 (L.map encMach)), (5, .v (.int .i64 k))], []⟩) (fun k => k ≤ L.length) (fun k => L.length - k) 0 (by simp) ?_ ?_
  · simp only [go_sem, tyAll, Nat.reduceAdd, Nat.reduceLT, Nat.reduceLeDiff, Nat.reduceEqDiff, Nat.reduceMul, Nat.reduceSub, Nat.reduceGT, reduceIte, Int.reduceNeg, Int.reduceToNat]; first | exact ⟨rfl, rfl⟩ | rfl
  intro k hk
  by_cases hlt : k < L.length
  · have h1 := rowAt_map encMach L k hlt
    have h0 := hY _ (List.getElem_mem hlt)
    (repeat' (first | refine WP.seq ?_ | refine WP.block ?_ | ((first | refine WP.region ?_ | refine WP.condW ?_ | refine WP.ret ?_ | refine WP.exit ?_ | refine WP.skip ?_); simp only [go_sem, h1, encMach, tyAll, Nat.reduceAdd, Nat.reduceLT, Nat.reduceLeDiff, Nat.reduceEqDiff, Nat.reduceMul, Nat.reduceSub, Nat.reduceGT, reduceIte, Int.reduceNeg, Int.reduceToNat]) | ((first | refine WP.drawW 10 (by decide +kernel) (by kernel_rfl) ?_); simp only [go_sem, h1, encMach, tyAll, Nat.reduceAdd, Nat.reduceLT, Nat.reduceLeDiff, Nat.reduceEqDiff, Nat.reduceMul, Nat.reduceSub, Nat.reduceGT, reduceIte, Int.reduceNeg, Int.reduceToNat]) |  refine And.intro ?_ ?_ | intro _))
    all_goals first | omega | exact h0 | exact ⟨k + 1, by omega, by omega, rfl⟩ | exact ⟨k + 1, by omega, by omega, rfl, rfl⟩ | skip
    all_goals trace_state
  · (repeat' (first | refine WP.seq ?_ | refine WP.block ?_ | ((first | refine WP.region ?_ | refine WP.condW ?_ | refine WP.ret ?_ | refine WP.exit ?_ | refine WP.skip ?_); simp only [go_sem, tyAll, Nat.reduceAdd, Nat.reduceLT, Nat.reduceLeDiff, Nat.reduceEqDiff, Nat.reduceMul, Nat.reduceSub, Nat.reduceGT, reduceIte, Int.reduceNeg, Int.reduceToNat]) | ((first | refine WP.drawW 10 (by decide +kernel) (by kernel_rfl) ?_); simp only [go_sem, tyAll, Nat.reduceAdd, Nat.reduceLT, Nat.reduceLeDiff, Nat.reduceEqDiff, Nat.reduceMul, Nat.reduceSub, Nat.reduceGT, reduceIte, Int.reduceNeg, Int.reduceToNat]) |  refine And.intro ?_ ?_ | intro _))
    all_goals first | omega | skip
    all_goals trace_state
end

def kqSp : Ctr := pur (fun args => spA args 0) (fun x => [.agg [.sl 2 (x.1.map encImage), .sl 1 (x.2.1.map encI), .sl 1 (x.2.2.map encI)], .agg [.sl 2 (x.1.map encImage), .sl 1 (x.2.1.map encI), .sl 1 (x.2.2.map encI)]]) shSp (fun _ _ => .v (.bool true)) (fun _ _ => [])
section
attribute [local irreducible] shImg
noncomputable def cxQsp : Cx := { P := Try.prog, tys := tys, C := [(14, k17), (146, kqImgS)], hty := tysOk, hC := COk.cons c17 (COk.cons cqImgS (COk.nil _)) }
theorem cxQsp_t : cxQsp.tys = tys := rfl
theorem cxQsp_c : cxQsp.C = [(14, k17), (146, kqImgS)] := rfl
attribute [local go_sem] cxQsp_t cxQsp_c k17 kqImgS
theorem cqSp : Cn Try.prog 117 kqSp := by
  refine Cn.pur Try.func117 (by kernel_rfl) rfl fun d x hx => ?_
  obtain ⟨I, B, E⟩ := x
  obtain ⟨⟨hI, hIm⟩, hB, hE⟩ := hx
  have hIm2 : ∀ i ∈ I, shImg i := fun i hi => by unfold shImg; exact hIm i hi
  simp only at hI hIm hB hE ⊢
  refine Holds.go (c := cxQsp) Try.func117 rfl Try.results117 Try.ntmps117 (by omega) (by simp) rfl ?_
  intro X0 w0
  (repeat' (first | refine WP.seq ?_ | refine WP.block ?_ | ((first | refine WP.region ?_ | refine WP.condW ?_ | refine WP.ret ?_ | refine WP.exit ?_ | refine WP.skip ?_); simp only [go_sem, tyAll, Nat.reduceAdd, Nat.reduceLT, Nat.reduceLeDiff, Nat.reduceEqDiff, Nat.reduceMul, Nat.reduceSub, Nat.reduceGT, reduceIte, Int.reduceNeg, Int.reduceToNat]) |  refine And.intro ?_ ?_ | intro _))
  all_goals first | omega | exact hIm2 _ ‹_› | skip
  all_goals trace_state
end
def kqPc : Ctr := pur (fun args => pcA args 0) (fun x => [.agg (aggPc x), .agg (aggPc x)]) shPc (fun _ _ => .v (.bool true)) (fun _ _ => [])
section
attribute [local go_sem] aggPc
attribute [local irreducible] shMach
noncomputable def cxQpc : Cx := { P := Try.prog, tys := tys, C := [(117, kqSp), (118, kqMachS)], hty := tysOk, hC := COk.cons cqSp (COk.cons cqMachS (COk.nil _)) }
theorem cxQpc_t : cxQpc.tys = tys := rfl
theorem cxQpc_c : cxQpc.C = [(117, kqSp), (118, kqMachS)] := rfl
attribute [local go_sem] cxQpc_t cxQpc_c kqSp kqMachS
set_option maxHeartbeats 3000000 in
theorem cqPc : Cn Try.prog 79 kqPc := by
  refine Cn.pur Try.func79 (by kernel_rfl) rfl fun d x hx => ?_
  obtain ⟨⟨I, B, E⟩, T, tu, le, sl⟩ := x
  obtain ⟨hsp, hT, hTs⟩ := hx
  have hsp2 := hsp
  obtain ⟨⟨hI, hIm⟩, hB, hE⟩ := hsp2
  simp only [aggPc] at hT hTs hI hIm hB hE ⊢
  refine Holds.go (c := cxQpc) Try.func79 rfl Try.results79 Try.ntmps79 (by omega) (by simp) rfl ?_
  intro X0 w0
  (repeat' (first | refine WP.seq ?_ | refine WP.block ?_ | ((first | refine WP.region ?_ | refine WP.condW ?_ | refine WP.ret ?_ | refine WP.exit ?_ | refine WP.skip ?_); simp only [go_sem, tyAll, Nat.reduceAdd, Nat.reduceLT, Nat.reduceLeDiff, Nat.reduceEqDiff, Nat.reduceMul, Nat.reduceSub, Nat.reduceGT, reduceIte, Int.reduceNeg, Int.reduceToNat]) |  refine And.intro ?_ ?_ | intro _))
  all_goals first | omega | exact hIm _ ‹_› | exact hTs _ ‹_› | exact hsp | skip
  all_goals trace_state
end
def kqTm : Ctr := pur (fun args => tmA args 0) (fun x => [.agg (aggTm x), .agg (aggTm x)]) (fun _ => True) (fun _ _ => .v (.bool true)) (fun _ _ => [])
section
attribute [local go_sem] aggTm
noncomputable def cxQti : Cx := { P := Try.prog, tys := tys, C := [], hty := tysOk, hC := COk.nil _ }
theorem cxQti_t : cxQti.tys = tys := rfl
theorem cxQti_c : cxQti.C = [] := rfl
attribute [local go_sem] cxQti_t cxQti_c 
theorem cqTm : Cn Try.prog 80 kqTm := by
  refine Cn.pur Try.func80 (by kernel_rfl) rfl fun d x hx => ?_
  obtain ⟨p, q, l, st⟩ := x
  simp only [aggTm]
  refine Holds.go (c := cxQti) Try.func80 rfl Try.results80 Try.ntmps80 (by omega) (by simp) rfl ?_
  intro X0 w0
  (repeat' (first | refine WP.seq ?_ | refine WP.block ?_ | ((first | refine WP.region ?_ | refine WP.condW ?_ | refine WP.ret ?_ | refine WP.exit ?_ | refine WP.skip ?_); simp only [go_sem, tyAll, Nat.reduceAdd, Nat.reduceLT, Nat.reduceLeDiff, Nat.reduceEqDiff, Nat.reduceMul, Nat.reduceSub, Nat.reduceGT, reduceIte, Int.reduceNeg, Int.reduceToNat]) |  refine And.intro ?_ ?_ | intro _))
  all_goals first | omega | skip
  all_goals trace_state
end
def kqStr : Ctr := pur (fun args => (decS (aR args 0), decS (aR args 1))) (fun x => [.sl 1 (x.1.map encS), .sl 1 (x.2.map encS)]) (fun x => x.1.length ≤ 4398046511104) (fun _ x => .v (.bool (decide (x.1 = x.2)))) (fun _ _ => [])
theorem cqStr : Cn Try.prog 86 kqStr := by
  refine Cn.pur Try.func86 (by kernel_rfl) rfl fun d x hx => ?_
  obtain ⟨L, M⟩ := x
  simp only at hx ⊢
  refine Holds.go (c := cx0) Try.func86 rfl Try.results86 Try.ntmps86 (by omega) (by simp) rfl ?_
  intro X0 w0
  (repeat' (first | refine WP.seq ?_ | refine WP.block ?_ | ((first | refine WP.region ?_ | refine WP.condW ?_ | refine WP.ret ?_ | refine WP.exit ?_ | refine WP.skip ?_); simp only [go_sem, tyAll, Nat.reduceAdd, Nat.reduceLT, Nat.reduceLeDiff, Nat.reduceEqDiff, Nat.reduceMul, Nat.reduceSub, Nat.reduceGT, reduceIte, Int.reduceNeg, Int.reduceToNat]) | ((first | refine WP.drawW 9 (by decide +kernel) (by kernel_rfl) ?_); simp only [go_sem, tyAll, Nat.reduceAdd, Nat.reduceLT, Nat.reduceLeDiff, Nat.reduceEqDiff, Nat.reduceMul, Nat.reduceSub, Nat.reduceGT, reduceIte, Int.reduceNeg, Int.reduceToNat]) |  refine And.intro ?_ ?_ | intro _))
  · simp; intro h; subst h; simp_all
  have hlen : L.length = M.length := by omega
  refine WP.loop (fun k : Nat => ⟨[(0, .sl 1 (L.map encS)), (1, .sl 1 (M.map encS)), (5, .v (.int .i64 k))], []⟩) (fun k => k ≤ L.length ∧ L.take k = M.take k) (fun k => L.length - k) 0 (by simp) ?_ ?_
  · (simp only [go_sem, tyAll, Nat.reduceAdd, Nat.reduceLT, Nat.reduceLeDiff, Nat.reduceEqDiff, Nat.reduceMul, Nat.reduceSub, Nat.reduceGT, reduceIte, Int.reduceNeg, Int.reduceToNat] <;> (first | rfl | exact ⟨rfl, rfl⟩ | exact ⟨rfl, rfl, rfl⟩ | exact ⟨rfl, rfl, rfl, rfl⟩ | exact ⟨rfl, rfl, rfl, rfl, rfl⟩ | exact ⟨⟨rfl, rfl⟩, rfl⟩ | simp))
  intro k ⟨hk, ht⟩
  by_cases hlt : k < L.length
  · have h1 := rowAt_map encS L k hlt
    have h2 := rowAt_map encS M k (by omega)
    (repeat' (first | refine WP.seq ?_ | refine WP.block ?_ | ((first | refine WP.region ?_ | refine WP.condW ?_ | refine WP.ret ?_ | refine WP.exit ?_ | refine WP.skip ?_); simp only [go_sem, h1, h2, encS, tyAll, Nat.reduceAdd, Nat.reduceLT, Nat.reduceLeDiff, Nat.reduceEqDiff, Nat.reduceMul, Nat.reduceSub, Nat.reduceGT, reduceIte, Int.reduceNeg, Int.reduceToNat]) | ((first | refine WP.drawW 9 (by decide +kernel) (by kernel_rfl) ?_); simp only [go_sem, h1, h2, encS, tyAll, Nat.reduceAdd, Nat.reduceLT, Nat.reduceLeDiff, Nat.reduceEqDiff, Nat.reduceMul, Nat.reduceSub, Nat.reduceGT, reduceIte, Int.reduceNeg, Int.reduceToNat]) |  refine And.intro ?_ ?_ | intro _))
    all_goals first | omega | skip
    · rename_i hne
      rw [show decide (L = M) = false from decide_eq_false fun e => by subst e; exact hne rfl]
    · rename_i he
      refine ⟨k + 1, ⟨by omega, ?_⟩, by omega, rfl⟩
      rw [List.take_succ_eq_append_getElem hlt, List.take_succ_eq_append_getElem (by omega : k < M.length), ht, he]
  · (repeat' (first | refine WP.seq ?_ | refine WP.block ?_ | ((first | refine WP.region ?_ | refine WP.condW ?_ | refine WP.ret ?_ | refine WP.exit ?_ | refine WP.skip ?_); simp only [go_sem, tyAll, Nat.reduceAdd, Nat.reduceLT, Nat.reduceLeDiff, Nat.reduceEqDiff, Nat.reduceMul, Nat.reduceSub, Nat.reduceGT, reduceIte, Int.reduceNeg, Int.reduceToNat]) | ((first | refine WP.drawW 9 (by decide +kernel) (by kernel_rfl) ?_); simp only [go_sem, tyAll, Nat.reduceAdd, Nat.reduceLT, Nat.reduceLeDiff, Nat.reduceEqDiff, Nat.reduceMul, Nat.reduceSub, Nat.reduceGT, reduceIte, Int.reduceNeg, Int.reduceToNat]) |  refine And.intro ?_ ?_ | intro _))
    all_goals first | omega | skip
    rw [show decide (L = M) = true from decide_eq_true ?_]
    rw [show k = L.length by omega, List.take_length, hlen, List.take_length] at ht
    exact ht

def kqRg : Ctr := pur (fun args => rgA args 0) (fun x => [.agg (aggRg x), .agg (aggRg x)]) (fun x => x.2.1.length ≤ 2097152) (fun _ _ => .v (.bool true)) (fun _ _ => [])
section
attribute [local go_sem] aggRg
noncomputable def cxQrg : Cx := { P := Try.prog, tys := tys, C := [(86, kqStr)], hty := tysOk, hC := COk.cons cqStr (COk.nil _) }
theorem cxQrg_t : cxQrg.tys = tys := rfl
theorem cxQrg_c : cxQrg.C = [(86, kqStr)] := rfl
attribute [local go_sem] cxQrg_t cxQrg_c kqStr
theorem cqRg : Cn Try.prog 81 kqRg := by
  refine Cn.pur Try.func81 (by kernel_rfl) rfl fun d x hx => ?_
  obtain ⟨cp, R, wr, lo⟩ := x
  simp only [aggRg] at hx ⊢
  refine Holds.go (c := cxQrg) Try.func81 rfl Try.results81 Try.ntmps81 (by omega) (by simp) rfl ?_
  intro X0 w0
  (repeat' (first | refine WP.seq ?_ | refine WP.block ?_ | ((first | refine WP.region ?_ | refine WP.condW ?_ | refine WP.ret ?_ | refine WP.exit ?_ | refine WP.skip ?_); simp only [go_sem, tyAll, Nat.reduceAdd, Nat.reduceLT, Nat.reduceLeDiff, Nat.reduceEqDiff, Nat.reduceMul, Nat.reduceSub, Nat.reduceGT, reduceIte, Int.reduceNeg, Int.reduceToNat]) |  refine And.intro ?_ ?_ | intro _))
  all_goals first | omega | skip
  all_goals trace_state
end
def kqSe : Ctr := pur (fun args => seA args 0) (fun x => [.agg (aggSe x), .agg (aggSe x)]) shSe (fun _ _ => .v (.bool true)) (fun _ _ => [])
section
attribute [local go_sem] aggSe aggPc aggTm aggRg
attribute [local irreducible] shMach
noncomputable def cxQse : Cx := { P := Try.prog, tys := tys, C := [(79, kqPc), (80, kqTm), (81, kqRg)], hty := tysOk, hC := COk.cons cqPc (COk.cons cqTm (COk.cons cqRg (COk.nil _))) }
theorem cxQse_t : cxQse.tys = tys := rfl
theorem cxQse_c : cxQse.C = [(79, kqPc), (80, kqTm), (81, kqRg)] := rfl
attribute [local go_sem] cxQse_t cxQse_c kqPc kqTm kqRg
set_option maxHeartbeats 3000000 in
theorem cqSe : Cn Try.prog 39 kqSe := by
  refine Cn.pur Try.func39 (by kernel_rfl) rfl fun d x hx => ?_
  obtain ⟨⟨⟨I, B, E⟩, T, tu, le, sl⟩, ⟨p, q, l, st⟩, ⟨cp, R, wr, lo⟩, mo, sp, fi⟩ := x
  obtain ⟨hP, hR⟩ := hx
  have hP2 := hP
  obtain ⟨⟨⟨hI, hIm⟩, hB, hE⟩, hT, hTs⟩ := hP2
  simp only [aggSe] at hI hIm hB hE hT hTs hR ⊢
  refine Holds.go (c := cxQse) Try.func39 rfl Try.results39 Try.ntmps39 (by omega) (by simp) rfl ?_
  intro X0 w0
  (repeat' (first | refine WP.seq ?_ | refine WP.block ?_ | ((first | refine WP.region ?_ | refine WP.condW ?_ | refine WP.ret ?_ | refine WP.exit ?_ | refine WP.skip ?_); simp only [go_sem, tyAll, Nat.reduceAdd, Nat.reduceLT, Nat.reduceLeDiff, Nat.reduceEqDiff, Nat.reduceMul, Nat.reduceSub, Nat.reduceGT, reduceIte, Int.reduceNeg, Int.reduceToNat]) |  refine And.intro ?_ ?_ | intro _))
  all_goals first | omega | exact hIm _ ‹_› | exact hTs _ ‹_› | exact hP | skip
  all_goals trace_state
end
end
section
open Go.Vc
set_option linter.unusedSimpArgs false
set_option linter.unusedVariables false
set_option maxHeartbeats 1000000
set_option maxRecDepth 10000
attribute [local irreducible] Go.Vc.WP
attribute [local go_sem] cx0_t cx0_c
def flbcfaf158de : List Go.Vc.Fp := [⟨[5], [], [], [24, 1024, 2024, 3024, 4024], [], []⟩, ⟨[1], [], [], [24, 1024, 2024, 3024, 4024], [], []⟩, ⟨[23], [1], [], [], [], [24, 1024, 2024, 3024, 4024]⟩, ⟨[], [0, 1, 2], [], [], [], []⟩, ⟨[], [0, 1, 2, 3], [], [], [], []⟩]
attribute [local go_sem] flbcfaf158de
open Go.Pl
attribute [local go_sem] decI_enc decImage_enc spA decS_enc decMach_enc oneMach_f mach_eta pcA rgA seA decSymbol_enc tmA tm_eta
theorem szA_ok {n : Nat} {l : Int} (h : 0 ≤ szA n l) : (n : Int) ≤ l := by
  unfold szA at h
  split at h <;> omega
theorem szvImg_ok {x : Image} {l : Int} (h0 : 0 ≤ l) (h1 : l ≤ 1048576) (h : 0 ≤ szvImg x l) : x.code.size ≤ 1048576 ∧ x.symbols.length ≤ 1048576 ∧ ∀ y ∈ x.symbols, y.name.size ≤ 1048576 := by
  obtain ⟨a, b, c⟩ := szT_ok (szA_f _) h0 h
  have e := szA_ok a
  obtain ⟨f, g⟩ := szvSymbol_ok' c
  exact ⟨by omega, by omega, fun y hy => by have := g y hy; omega⟩
theorem szvImageS_ok {L : List Image} {l : Int} (h1 : l ≤ 1048576) (h : 0 ≤ szvImageS L l) : L.length ≤ 1048576 ∧ ∀ x ∈ L, x.code.size ≤ 1048576 ∧ x.symbols.length ≤ 1048576 ∧ ∀ y ∈ x.symbols, y.name.size ≤ 1048576 := by
  obtain ⟨a, b⟩ := szList_ok (by simp only [List.mem_map]; rintro _ ⟨x, _, rfl⟩; exact szvImg_f x) h
  rw [List.length_map] at a
  refine ⟨by omega, fun x hx => ?_⟩
  obtain ⟨r, r0, r1, r2⟩ := b _ (List.mem_map.2 ⟨x, hx, rfl⟩)
  exact szvImg_ok r0 (by omega) r2
theorem szvMachS_ok {L : List Mach} {l : Int} (h1 : l ≤ 1048576) (h : 0 ≤ szvMachS L l) : L.length ≤ 1048576 ∧ ∀ x ∈ L, x.stack.length ≤ 1048576 ∧ x.out.length ≤ 1048576 := by
  obtain ⟨a, b⟩ := szList_ok (by simp only [List.mem_map]; rintro _ ⟨x, _, rfl⟩; exact szvMach_f x) h
  rw [List.length_map] at a
  refine ⟨by omega, fun x hx => ?_⟩
  obtain ⟨r, r0, r1, r2⟩ := b _ (List.mem_map.2 ⟨x, hx, rfl⟩)
  obtain ⟨c, d, e⟩ := szT_ok (szA_f _) r0 r2
  have := szA_ok c
  have := szA_ok e
  omega
theorem szvStr_ok {L : List ByteArray} {l : Int} (h1 : l ≤ 1048576) (h : 0 ≤ szvStr L l) : L.length ≤ 1048576 ∧ ∀ x ∈ L, x.size ≤ 1048576 := by
  obtain ⟨a, b⟩ := szList_ok (by simp only [List.mem_map]; rintro _ ⟨x, _, rfl⟩; exact szA_f x.size) h
  rw [List.length_map] at a
  refine ⟨by omega, fun x hx => ?_⟩
  obtain ⟨r, r0, r1, r2⟩ := b _ (List.mem_map.2 ⟨x, hx, rfl⟩)
  have := szA_ok r2
  omega
theorem sum_le_mul : ∀ (L : List Nat) (m : Nat), (∀ n ∈ L, n ≤ m) → L.sum ≤ L.length * m
  | [], m, _ => by simp
  | n :: L, m, h => by
    have h1 := h n List.mem_cons_self
    have h2 := sum_le_mul L m fun k hk => h k (List.mem_cons_of_mem _ hk)
    rw [List.sum_cons, List.length_cons, Nat.add_mul]
    omega
theorem sizS_max {R : List ByteArray} (h : R.length ≤ 1048576) (hs : ∀ x ∈ R, x.size ≤ 1048576) : sizS R R.length ≤ 1099511627776 := by
  unfold sizS
  rw [List.take_length]
  have := sum_le_mul (R.map (·.size)) 1048576 (by simp only [List.mem_map]; rintro _ ⟨x, hx, rfl⟩; exact hs x hx)
  rw [List.length_map] at this
  exact Nat.le_trans this (Nat.le_trans (Nat.mul_le_mul_right _ h) (by decide))
theorem szvSe_ok {x : SeX} (h : 0 ≤ szvSe x 1048576) : preSe x ∧ shSe x := by
  obtain ⟨⟨⟨I, B, E⟩, T, tu, le, sl⟩, ⟨p, q, l, st⟩, ⟨cp, R, wr, lo⟩, mo, sp, fi⟩ := x
  obtain ⟨hP, hPl, hR⟩ := szT_ok (szvPc_f _) (by omega) h
  obtain ⟨hS, hSl, hT⟩ := szT_ok (szvSp_f _) (by omega) hP
  obtain ⟨hI, hIl, hBE⟩ := szT_ok (szvImageS_f _) (by omega) hS
  obtain ⟨hB, hBl, hE⟩ := szT_ok (szA_f _) (by omega) hBE
  obtain ⟨i1, i2⟩ := szvImageS_ok (by omega) hI
  have b1 := szA_ok hB
  have e1 := szA_ok hE
  obtain ⟨t1, t2⟩ := szvMachS_ok (by omega) hT
  obtain ⟨r1, r2⟩ := szvStr_ok (by omega) hR
  simp only at i1 i2 b1 e1 t1 t2 r1 r2 hIl hBl hSl hPl
  refine ⟨⟨⟨⟨⟨?_, fun i hi => ⟨?_, ?_, fun y hy => ?_⟩⟩, ?_, ?_⟩, ?_, fun m hm => ?_⟩, ?_, sizS_max r1 r2⟩, ⟨⟨⟨?_, fun i hi => ?_⟩, ?_, ?_⟩, t1, fun m hm => ⟨?_, ?_⟩⟩, ?_⟩
  all_goals try simp only
  · omega
  · have := (i2 i hi).1; omega
  · have := (i2 i hi).2.1; omega
  · have := (i2 i hi).2.2 y hy; omega
  · omega
  · omega
  · omega
  · have := (t2 m hm).1; omega
  · omega
  · omega
  · have := (i2 i hi).2.1; omega
  · omega
  · omega
  · have := (t2 m hm).1; omega
  · have := (t2 m hm).2; omega
  · omega
section
attribute [local go_sem] aggSe
attribute [local irreducible] bigSe preSe shSe
noncomputable def cxSeL : Cx := { P := Try.prog, tys := tys, C := [(35, kszSe), (37, ktoSe), (39, kqSe), (36, kSeOk), (38, kSeOk)], hty := tysOk, hC := COk.cons cszSe (COk.cons ctoSe (COk.cons cqSe (COk.cons cSeOkS (COk.cons cSeOkI (COk.nil _))))) }
theorem cxSeL_t : cxSeL.tys = tys := rfl
theorem cxSeL_c : cxSeL.C = [(35, kszSe), (37, ktoSe), (39, kqSe), (36, kSeOk), (38, kSeOk)] := rfl
attribute [local go_sem] cxSeL_t cxSeL_c kszSe ktoSe kqSe kSeOk
set_option maxHeartbeats 4000000 in
theorem lawSessionOk (x : SeX) (hx : bigSe x) : Holds Try.prog 6 [.agg (aggSe x)] (.v (.bool true)) [] := by
  have hk := @szvSe_ok x
  obtain ⟨⟨⟨I, B, E⟩, T, tu, le, sl⟩, ⟨p, q, l, st⟩, ⟨cp, R, wr, lo⟩, mo, sp, fi⟩ := x
  generalize hz : szvSe (((I, B, E), T, tu, le, sl), ⟨p, q, l, st⟩, (cp, R, wr, lo), mo, sp, fi) 1048576 = z at hk
  simp only [aggSe]
  refine Holds.go (c := cxSeL) Try.func6 rfl Try.results6 Try.ntmps6 (by omega) (by simp) rfl ?_
  intro X0 w0
  by_cases h5 : z < 0
  · (repeat' (first | refine WP.seq ?_ | refine WP.block ?_ | ((first | refine WP.region ?_ | refine WP.condW ?_ | refine WP.ret ?_ | refine WP.exit ?_ | refine WP.skip ?_); simp only [go_sem, hz, h5, tyAll, Nat.reduceAdd, Nat.reduceLT, Nat.reduceLeDiff, Nat.reduceEqDiff, Nat.reduceMul, Nat.reduceSub, Nat.reduceGT, reduceIte, Int.reduceNeg, Int.reduceToNat]) | ((first | refine WP.flowW 3 flbcfaf158de [22, 23, 24] [24, 1024, 2024, 3024, 4024] [] (by decide +kernel) (by kernel_rfl) (by kernel_rfl) (by kernel_rfl) ?_); simp only [go_sem, hz, h5, tyAll, Nat.reduceAdd, Nat.reduceLT, Nat.reduceLeDiff, Nat.reduceEqDiff, Nat.reduceMul, Nat.reduceSub, Nat.reduceGT, reduceIte, Int.reduceNeg, Int.reduceToNat]) |  refine And.intro ?_ ?_ | intro _))
    all_goals first | omega | exact hx | skip
    all_goals trace_state
  · obtain ⟨hp, hs⟩ := hk (by omega)
    (repeat' (first | refine WP.seq ?_ | refine WP.block ?_ | ((first | refine WP.region ?_ | refine WP.condW ?_ | refine WP.ret ?_ | refine WP.exit ?_ | refine WP.skip ?_); simp only [go_sem, hz, h5, tyAll, Nat.reduceAdd, Nat.reduceLT, Nat.reduceLeDiff, Nat.reduceEqDiff, Nat.reduceMul, Nat.reduceSub, Nat.reduceGT, reduceIte, Int.reduceNeg, Int.reduceToNat]) | (refine WP.drawW 5 (by kernel_rfl) (by kernel_rfl) ?_; simp only [go_sem, hz, h5, tyAll, Nat.reduceAdd, Nat.reduceLT, Nat.reduceLeDiff, Nat.reduceEqDiff, Nat.reduceMul, Nat.reduceSub, Nat.reduceGT, reduceIte, Int.reduceNeg, Int.reduceToNat]) | ((first | refine WP.flowW 3 flbcfaf158de [22, 23, 24] [24, 1024, 2024, 3024, 4024] [] (by decide +kernel) (by kernel_rfl) (by kernel_rfl) (by kernel_rfl) ?_); simp only [go_sem, hz, h5, tyAll, Nat.reduceAdd, Nat.reduceLT, Nat.reduceLeDiff, Nat.reduceEqDiff, Nat.reduceMul, Nat.reduceSub, Nat.reduceGT, reduceIte, Int.reduceNeg, Int.reduceToNat]) |  refine And.intro ?_ ?_ | intro _))
    all_goals first | omega | exact hx | exact hp | exact hs | exact ⟨_, _, rfl, _, _, rfl, rfl⟩ | skip
    all_goals trace_state
end
end
end Go.Proofs.Ytdbjioanlkilkaa
/-
  DERIVED. What is read of a struct, field by field, stands for what its fields stand for.
-/
namespace Go.Vc
open Go.RowKit Go.WideShapes Go.ChangeShapes Go.Deep
set_option linter.unusedVariables false
section
variable {H : Type} {enc : TypeId × Value → H} {P : Program} {w : World}
theorem Cells.append {r1 r2 : List SV} {c1 c2 : List Value} (h1 : Cells w r1 c1) (h2 : Cells w r2 c2) : Cells w (r1 ++ r2) (c1 ++ c2) := by
  refine ⟨by rw [List.length_append, List.length_append, h1.1, h2.1], fun k c u hc hu => ?_⟩
  rw [List.getElem?_append] at hc hu
  by_cases hk : k < r1.length
  · rw [if_pos hk] at hc
    rw [if_pos (by rw [← h1.1]; exact hk)] at hu
    exact h1.2 k c u hc hu
  · rw [if_neg hk] at hc
    rw [if_neg (by rw [← h1.1]; exact hk), ← h1.1] at hu
    exact h2.2 _ c u hc hu
theorem Dec.map {t : TypeId} {α β : Type} {e : α → List SV} {wf : α → Prop} {e' : β → List SV} {wf' : β → Prop} (hd : Dec H enc P w t e wf) (g : α → β) (he : ∀ a, e' (g a) = e a) (hw : ∀ a, wf a → wf' (g a)) : Dec H enc P w t e' wf' := by
  intro base sp held n cs y h
  obtain ⟨a, ha, hc⟩ := hd _ _ _ _ _ _ h
  exact ⟨g a, hw a ha, by rw [he]; exact hc⟩
theorem Dec.struct1 {t : TypeId} {f0 : Field} {k0 : Nat} {α : Type} {e : α → List SV} {wf : α → Prop} (ht : P.underlying t = some (.struct #[f0])) (o0 : f0.offset = 0) (h0 : P.cellsOf f0.type = k0) (hC : P.cellsOf t = k0) (hd : Dec H enc P w f0.type e wf) : Dec H enc P w t e wf := by
  intro base sp held n cs y h
  obtain ⟨y0, m, _, hl, g0⟩ := trod_struct1 ht h
  obtain ⟨a, ha, hc⟩ := hd _ _ _ _ _ _ g0
  rw [o0, h0, List.drop_zero, List.take_of_length_le (by omega)] at hc
  exact ⟨a, ha, hc⟩
theorem Dec.struct2 {t : TypeId} {f0 f1 : Field} {k0 k1 : Nat} {α β : Type} {e0 : α → List SV} {w0 : α → Prop} {e1 : β → List SV} {w1 : β → Prop} (ht : P.underlying t = some (.struct #[f0, f1])) (o0 : f0.offset = 0) (h0 : P.cellsOf f0.type = k0) (o1 : f1.offset = k0) (h1 : P.cellsOf f1.type = k1) (hC : P.cellsOf t = k0 + k1)
    (d0 : Dec H enc P w f0.type e0 w0) (d1 : Dec H enc P w f1.type e1 w1) : Dec H enc P w t (fun x : α × β => e0 x.1 ++ e1 x.2) (fun x => w0 x.1 ∧ w1 x.2) := by
  intro base sp held n cs y h
  obtain ⟨y0, y1, m, _, hl, g0, g1⟩ := trod_struct2 ht h
  obtain ⟨a, ha, hc⟩ := d0 _ _ _ _ _ _ g0
  obtain ⟨b, hb, hd⟩ := d1 _ _ _ _ _ _ g1
  rw [o0, h0, List.drop_zero] at hc
  rw [o1, h1, List.take_of_length_le (by rw [List.length_drop]; omega)] at hd
  refine ⟨(a, b), ⟨ha, hb⟩, ?_⟩
  have := hc.append hd
  rwa [List.take_append_drop] at this
theorem Dec.struct3 {t : TypeId} {f0 f1 f2 : Field} {k0 k1 k2 : Nat} {α β γ : Type} {e0 : α → List SV} {w0 : α → Prop} {e1 : β → List SV} {w1 : β → Prop} {e2 : γ → List SV} {w2 : γ → Prop} (ht : P.underlying t = some (.struct #[f0, f1, f2])) (o0 : f0.offset = 0) (h0 : P.cellsOf f0.type = k0) (o1 : f1.offset = k0) (h1 : P.cellsOf f1.type = k1) (o2 : f2.offset = k0 + k1) (h2 : P.cellsOf f2.type = k2) (hC : P.cellsOf t = k0 + k1 + k2)
    (d0 : Dec H enc P w f0.type e0 w0) (d1 : Dec H enc P w f1.type e1 w1) (d2 : Dec H enc P w f2.type e2 w2) : Dec H enc P w t (fun x : α × β × γ => e0 x.1 ++ (e1 x.2.1 ++ e2 x.2.2)) (fun x => w0 x.1 ∧ w1 x.2.1 ∧ w2 x.2.2) := by
  intro base sp held n cs y h
  obtain ⟨y0, y1, y2, m, _, hl, g0, g1, g2⟩ := trod_struct3 ht h
  obtain ⟨a, ha, hc⟩ := d0 _ _ _ _ _ _ g0
  obtain ⟨b, hb, hd⟩ := d1 _ _ _ _ _ _ g1
  obtain ⟨c, hc', he⟩ := d2 _ _ _ _ _ _ g2
  rw [o0, h0, List.drop_zero] at hc
  rw [o1, h1] at hd
  rw [o2, h2, List.take_of_length_le (by rw [List.length_drop]; omega), ← List.drop_drop] at he
  refine ⟨(a, b, c), ⟨ha, hb, hc'⟩, ?_⟩
  have := hc.append (hd.append he)
  rwa [List.take_append_drop, List.take_append_drop] at this
end
end Go.Vc

/-
  DERIVED. What is read of a struct of four to seven fields stands for what its fields stand for.
-/
namespace Go.Vc
open Go.RowKit Go.WideShapes Go.ChangeShapes Go.Deep
set_option linter.unusedVariables false
section
variable {H : Type} {enc : TypeId × Value → H} {P : Program} {w : World}
theorem take_drop_join (cs : List Value) (a b : Nat) : (cs.drop a).take b ++ cs.drop (a + b) = cs.drop a := by
  rw [← List.drop_drop, List.take_append_drop]
theorem Dec.struct4 {t : TypeId} {f0 f1 f2 f3 : Field} {k0 k1 k2 k3 : Nat} {α0 α1 α2 α3 : Type} {e0 : α0 → List SV} {w0 : α0 → Prop} {e1 : α1 → List SV} {w1 : α1 → Prop} {e2 : α2 → List SV} {w2 : α2 → Prop} {e3 : α3 → List SV} {w3 : α3 → Prop} (ht : P.underlying t = some (.struct #[f0, f1, f2, f3])) (o0 : f0.offset = 0) (h0 : P.cellsOf f0.type = k0) (o1 : f1.offset = k0) (h1 : P.cellsOf f1.type = k1) (o2 : f2.offset = k0 + k1) (h2 : P.cellsOf f2.type = k2) (o3 : f3.offset = k0 + k1 + k2) (h3 : P.cellsOf f3.type = k3) (hC : P.cellsOf t = k0 + k1 + k2 + k3)
    (d0 : Dec H enc P w f0.type e0 w0) (d1 : Dec H enc P w f1.type e1 w1) (d2 : Dec H enc P w f2.type e2 w2) (d3 : Dec H enc P w f3.type e3 w3) : Dec H enc P w t (fun x : α0 × α1 × α2 × α3 => e0 x.1 ++ (e1 x.2.1 ++ (e2 x.2.2.1 ++ e3 x.2.2.2))) (fun x => w0 x.1 ∧ w1 x.2.1 ∧ w2 x.2.2.1 ∧ w3 x.2.2.2) := by
  intro base sp held n cs y h
  obtain ⟨xs, m, _, rfl, hl, hlen, hf⟩ := DataW.trod_struct ht h
  match xs, hlen with
  | [y0, y1, y2, y3], _ =>
    have g0 : DataW.trod enc P w base sp held m f0.type ((cs.drop f0.offset).take (P.cellsOf f0.type)) = some y0 := by simpa using hf 0 f0 rfl
    obtain ⟨a0, v0, c0⟩ := d0 _ _ _ _ _ _ g0
    rw [o0, h0] at c0
    have g1 : DataW.trod enc P w base sp held m f1.type ((cs.drop f1.offset).take (P.cellsOf f1.type)) = some y1 := by simpa using hf 1 f1 rfl
    obtain ⟨a1, v1, c1⟩ := d1 _ _ _ _ _ _ g1
    rw [o1, h1] at c1
    have g2 : DataW.trod enc P w base sp held m f2.type ((cs.drop f2.offset).take (P.cellsOf f2.type)) = some y2 := by simpa using hf 2 f2 rfl
    obtain ⟨a2, v2, c2⟩ := d2 _ _ _ _ _ _ g2
    rw [o2, h2] at c2
    have g3 : DataW.trod enc P w base sp held m f3.type ((cs.drop f3.offset).take (P.cellsOf f3.type)) = some y3 := by simpa using hf 3 f3 rfl
    obtain ⟨a3, v3, c3⟩ := d3 _ _ _ _ _ _ g3
    rw [o3, h3] at c3
    rw [List.take_of_length_le (by rw [List.length_drop]; omega)] at c3
    refine ⟨(a0, a1, a2, a3), ⟨v0, v1, v2, v3⟩, ?_⟩
    have := c0.append (c1.append (c2.append c3))
    rw [take_drop_join, take_drop_join, List.drop_zero, List.take_append_drop] at this
    exact this
theorem Dec.struct5 {t : TypeId} {f0 f1 f2 f3 f4 : Field} {k0 k1 k2 k3 k4 : Nat} {α0 α1 α2 α3 α4 : Type} {e0 : α0 → List SV} {w0 : α0 → Prop} {e1 : α1 → List SV} {w1 : α1 → Prop} {e2 : α2 → List SV} {w2 : α2 → Prop} {e3 : α3 → List SV} {w3 : α3 → Prop} {e4 : α4 → List SV} {w4 : α4 → Prop} (ht : P.underlying t = some (.struct #[f0, f1, f2, f3, f4])) (o0 : f0.offset = 0) (h0 : P.cellsOf f0.type = k0) (o1 : f1.offset = k0) (h1 : P.cellsOf f1.type = k1) (o2 : f2.offset = k0 + k1) (h2 : P.cellsOf f2.type = k2) (o3 : f3.offset = k0 + k1 + k2) (h3 : P.cellsOf f3.type = k3) (o4 : f4.offset = k0 + k1 + k2 + k3) (h4 : P.cellsOf f4.type = k4) (hC : P.cellsOf t = k0 + k1 + k2 + k3 + k4)
    (d0 : Dec H enc P w f0.type e0 w0) (d1 : Dec H enc P w f1.type e1 w1) (d2 : Dec H enc P w f2.type e2 w2) (d3 : Dec H enc P w f3.type e3 w3) (d4 : Dec H enc P w f4.type e4 w4) : Dec H enc P w t (fun x : α0 × α1 × α2 × α3 × α4 => e0 x.1 ++ (e1 x.2.1 ++ (e2 x.2.2.1 ++ (e3 x.2.2.2.1 ++ e4 x.2.2.2.2)))) (fun x => w0 x.1 ∧ w1 x.2.1 ∧ w2 x.2.2.1 ∧ w3 x.2.2.2.1 ∧ w4 x.2.2.2.2) := by
  intro base sp held n cs y h
  obtain ⟨xs, m, _, rfl, hl, hlen, hf⟩ := DataW.trod_struct ht h
  match xs, hlen with
  | [y0, y1, y2, y3, y4], _ =>
    have g0 : DataW.trod enc P w base sp held m f0.type ((cs.drop f0.offset).take (P.cellsOf f0.type)) = some y0 := by simpa using hf 0 f0 rfl
    obtain ⟨a0, v0, c0⟩ := d0 _ _ _ _ _ _ g0
    rw [o0, h0] at c0
    have g1 : DataW.trod enc P w base sp held m f1.type ((cs.drop f1.offset).take (P.cellsOf f1.type)) = some y1 := by simpa using hf 1 f1 rfl
    obtain ⟨a1, v1, c1⟩ := d1 _ _ _ _ _ _ g1
    rw [o1, h1] at c1
    have g2 : DataW.trod enc P w base sp held m f2.type ((cs.drop f2.offset).take (P.cellsOf f2.type)) = some y2 := by simpa using hf 2 f2 rfl
    obtain ⟨a2, v2, c2⟩ := d2 _ _ _ _ _ _ g2
    rw [o2, h2] at c2
    have g3 : DataW.trod enc P w base sp held m f3.type ((cs.drop f3.offset).take (P.cellsOf f3.type)) = some y3 := by simpa using hf 3 f3 rfl
    obtain ⟨a3, v3, c3⟩ := d3 _ _ _ _ _ _ g3
    rw [o3, h3] at c3
    have g4 : DataW.trod enc P w base sp held m f4.type ((cs.drop f4.offset).take (P.cellsOf f4.type)) = some y4 := by simpa using hf 4 f4 rfl
    obtain ⟨a4, v4, c4⟩ := d4 _ _ _ _ _ _ g4
    rw [o4, h4] at c4
    rw [List.take_of_length_le (by rw [List.length_drop]; omega)] at c4
    refine ⟨(a0, a1, a2, a3, a4), ⟨v0, v1, v2, v3, v4⟩, ?_⟩
    have := c0.append (c1.append (c2.append (c3.append c4)))
    rw [take_drop_join, take_drop_join, take_drop_join, List.drop_zero, List.take_append_drop] at this
    exact this
theorem Dec.struct6 {t : TypeId} {f0 f1 f2 f3 f4 f5 : Field} {k0 k1 k2 k3 k4 k5 : Nat} {α0 α1 α2 α3 α4 α5 : Type} {e0 : α0 → List SV} {w0 : α0 → Prop} {e1 : α1 → List SV} {w1 : α1 → Prop} {e2 : α2 → List SV} {w2 : α2 → Prop} {e3 : α3 → List SV} {w3 : α3 → Prop} {e4 : α4 → List SV} {w4 : α4 → Prop} {e5 : α5 → List SV} {w5 : α5 → Prop} (ht : P.underlying t = some (.struct #[f0, f1, f2, f3, f4, f5])) (o0 : f0.offset = 0) (h0 : P.cellsOf f0.type = k0) (o1 : f1.offset = k0) (h1 : P.cellsOf f1.type = k1) (o2 : f2.offset = k0 + k1) (h2 : P.cellsOf f2.type = k2) (o3 : f3.offset = k0 + k1 + k2) (h3 : P.cellsOf f3.type = k3) (o4 : f4.offset = k0 + k1 + k2 + k3) (h4 : P.cellsOf f4.type = k4) (o5 : f5.offset = k0 + k1 + k2 + k3 + k4) (h5 : P.cellsOf f5.type = k5) (hC : P.cellsOf t = k0 + k1 + k2 + k3 + k4 + k5)
    (d0 : Dec H enc P w f0.type e0 w0) (d1 : Dec H enc P w f1.type e1 w1) (d2 : Dec H enc P w f2.type e2 w2) (d3 : Dec H enc P w f3.type e3 w3) (d4 : Dec H enc P w f4.type e4 w4) (d5 : Dec H enc P w f5.type e5 w5) : Dec H enc P w t (fun x : α0 × α1 × α2 × α3 × α4 × α5 => e0 x.1 ++ (e1 x.2.1 ++ (e2 x.2.2.1 ++ (e3 x.2.2.2.1 ++ (e4 x.2.2.2.2.1 ++ e5 x.2.2.2.2.2))))) (fun x => w0 x.1 ∧ w1 x.2.1 ∧ w2 x.2.2.1 ∧ w3 x.2.2.2.1 ∧ w4 x.2.2.2.2.1 ∧ w5 x.2.2.2.2.2) := by
  intro base sp held n cs y h
  obtain ⟨xs, m, _, rfl, hl, hlen, hf⟩ := DataW.trod_struct ht h
  match xs, hlen with
  | [y0, y1, y2, y3, y4, y5], _ =>
    have g0 : DataW.trod enc P w base sp held m f0.type ((cs.drop f0.offset).take (P.cellsOf f0.type)) = some y0 := by simpa using hf 0 f0 rfl
    obtain ⟨a0, v0, c0⟩ := d0 _ _ _ _ _ _ g0
    rw [o0, h0] at c0
    have g1 : DataW.trod enc P w base sp held m f1.type ((cs.drop f1.offset).take (P.cellsOf f1.type)) = some y1 := by simpa using hf 1 f1 rfl
    obtain ⟨a1, v1, c1⟩ := d1 _ _ _ _ _ _ g1
    rw [o1, h1] at c1
    have g2 : DataW.trod enc P w base sp held m f2.type ((cs.drop f2.offset).take (P.cellsOf f2.type)) = some y2 := by simpa using hf 2 f2 rfl
    obtain ⟨a2, v2, c2⟩ := d2 _ _ _ _ _ _ g2
    rw [o2, h2] at c2
    have g3 : DataW.trod enc P w base sp held m f3.type ((cs.drop f3.offset).take (P.cellsOf f3.type)) = some y3 := by simpa using hf 3 f3 rfl
    obtain ⟨a3, v3, c3⟩ := d3 _ _ _ _ _ _ g3
    rw [o3, h3] at c3
    have g4 : DataW.trod enc P w base sp held m f4.type ((cs.drop f4.offset).take (P.cellsOf f4.type)) = some y4 := by simpa using hf 4 f4 rfl
    obtain ⟨a4, v4, c4⟩ := d4 _ _ _ _ _ _ g4
    rw [o4, h4] at c4
    have g5 : DataW.trod enc P w base sp held m f5.type ((cs.drop f5.offset).take (P.cellsOf f5.type)) = some y5 := by simpa using hf 5 f5 rfl
    obtain ⟨a5, v5, c5⟩ := d5 _ _ _ _ _ _ g5
    rw [o5, h5] at c5
    rw [List.take_of_length_le (by rw [List.length_drop]; omega)] at c5
    refine ⟨(a0, a1, a2, a3, a4, a5), ⟨v0, v1, v2, v3, v4, v5⟩, ?_⟩
    have := c0.append (c1.append (c2.append (c3.append (c4.append c5))))
    rw [take_drop_join, take_drop_join, take_drop_join, take_drop_join, List.drop_zero, List.take_append_drop] at this
    exact this
theorem Dec.struct7 {t : TypeId} {f0 f1 f2 f3 f4 f5 f6 : Field} {k0 k1 k2 k3 k4 k5 k6 : Nat} {α0 α1 α2 α3 α4 α5 α6 : Type} {e0 : α0 → List SV} {w0 : α0 → Prop} {e1 : α1 → List SV} {w1 : α1 → Prop} {e2 : α2 → List SV} {w2 : α2 → Prop} {e3 : α3 → List SV} {w3 : α3 → Prop} {e4 : α4 → List SV} {w4 : α4 → Prop} {e5 : α5 → List SV} {w5 : α5 → Prop} {e6 : α6 → List SV} {w6 : α6 → Prop} (ht : P.underlying t = some (.struct #[f0, f1, f2, f3, f4, f5, f6])) (o0 : f0.offset = 0) (h0 : P.cellsOf f0.type = k0) (o1 : f1.offset = k0) (h1 : P.cellsOf f1.type = k1) (o2 : f2.offset = k0 + k1) (h2 : P.cellsOf f2.type = k2) (o3 : f3.offset = k0 + k1 + k2) (h3 : P.cellsOf f3.type = k3) (o4 : f4.offset = k0 + k1 + k2 + k3) (h4 : P.cellsOf f4.type = k4) (o5 : f5.offset = k0 + k1 + k2 + k3 + k4) (h5 : P.cellsOf f5.type = k5) (o6 : f6.offset = k0 + k1 + k2 + k3 + k4 + k5) (h6 : P.cellsOf f6.type = k6) (hC : P.cellsOf t = k0 + k1 + k2 + k3 + k4 + k5 + k6)
    (d0 : Dec H enc P w f0.type e0 w0) (d1 : Dec H enc P w f1.type e1 w1) (d2 : Dec H enc P w f2.type e2 w2) (d3 : Dec H enc P w f3.type e3 w3) (d4 : Dec H enc P w f4.type e4 w4) (d5 : Dec H enc P w f5.type e5 w5) (d6 : Dec H enc P w f6.type e6 w6) : Dec H enc P w t (fun x : α0 × α1 × α2 × α3 × α4 × α5 × α6 => e0 x.1 ++ (e1 x.2.1 ++ (e2 x.2.2.1 ++ (e3 x.2.2.2.1 ++ (e4 x.2.2.2.2.1 ++ (e5 x.2.2.2.2.2.1 ++ e6 x.2.2.2.2.2.2)))))) (fun x => w0 x.1 ∧ w1 x.2.1 ∧ w2 x.2.2.1 ∧ w3 x.2.2.2.1 ∧ w4 x.2.2.2.2.1 ∧ w5 x.2.2.2.2.2.1 ∧ w6 x.2.2.2.2.2.2) := by
  intro base sp held n cs y h
  obtain ⟨xs, m, _, rfl, hl, hlen, hf⟩ := DataW.trod_struct ht h
  match xs, hlen with
  | [y0, y1, y2, y3, y4, y5, y6], _ =>
    have g0 : DataW.trod enc P w base sp held m f0.type ((cs.drop f0.offset).take (P.cellsOf f0.type)) = some y0 := by simpa using hf 0 f0 rfl
    obtain ⟨a0, v0, c0⟩ := d0 _ _ _ _ _ _ g0
    rw [o0, h0] at c0
    have g1 : DataW.trod enc P w base sp held m f1.type ((cs.drop f1.offset).take (P.cellsOf f1.type)) = some y1 := by simpa using hf 1 f1 rfl
    obtain ⟨a1, v1, c1⟩ := d1 _ _ _ _ _ _ g1
    rw [o1, h1] at c1
    have g2 : DataW.trod enc P w base sp held m f2.type ((cs.drop f2.offset).take (P.cellsOf f2.type)) = some y2 := by simpa using hf 2 f2 rfl
    obtain ⟨a2, v2, c2⟩ := d2 _ _ _ _ _ _ g2
    rw [o2, h2] at c2
    have g3 : DataW.trod enc P w base sp held m f3.type ((cs.drop f3.offset).take (P.cellsOf f3.type)) = some y3 := by simpa using hf 3 f3 rfl
    obtain ⟨a3, v3, c3⟩ := d3 _ _ _ _ _ _ g3
    rw [o3, h3] at c3
    have g4 : DataW.trod enc P w base sp held m f4.type ((cs.drop f4.offset).take (P.cellsOf f4.type)) = some y4 := by simpa using hf 4 f4 rfl
    obtain ⟨a4, v4, c4⟩ := d4 _ _ _ _ _ _ g4
    rw [o4, h4] at c4
    have g5 : DataW.trod enc P w base sp held m f5.type ((cs.drop f5.offset).take (P.cellsOf f5.type)) = some y5 := by simpa using hf 5 f5 rfl
    obtain ⟨a5, v5, c5⟩ := d5 _ _ _ _ _ _ g5
    rw [o5, h5] at c5
    have g6 : DataW.trod enc P w base sp held m f6.type ((cs.drop f6.offset).take (P.cellsOf f6.type)) = some y6 := by simpa using hf 6 f6 rfl
    obtain ⟨a6, v6, c6⟩ := d6 _ _ _ _ _ _ g6
    rw [o6, h6] at c6
    rw [List.take_of_length_le (by rw [List.length_drop]; omega)] at c6
    refine ⟨(a0, a1, a2, a3, a4, a5, a6), ⟨v0, v1, v2, v3, v4, v5, v6⟩, ?_⟩
    have := c0.append (c1.append (c2.append (c3.append (c4.append (c5.append c6)))))
    rw [take_drop_join, take_drop_join, take_drop_join, take_drop_join, take_drop_join, List.drop_zero, List.take_append_drop] at this
    exact this
end
end Go.Vc

