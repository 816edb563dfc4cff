/-
  DERIVED. Several texts of ours in one: VtIE, VtSeM, VtSeM2, VtSessL, VtNewS, VcX, VcZ, VtNewL, VcY, VcYw.
-/
import Derived.Test.YtoomncljmgcidaaVz0
import Derived.Test.YtoomncljmgcidaaVz1
import Derived.Test.YtoomncljmgcidaaVz2
import Derived.Test.YtoomncljmgcidaaVz3
import Derived.Test.YtoomncljmgcidaaVz4
import Derived.Test.YtoomncljmgcidaaVz5
import Derived.Test.YtoomncljmgcidaaVz6
import Derived.Test.YtoomncljmgcidaaVz7
import Derived.Test.YtoomncljmgcidaaVz8
import Derived.Test.YtoomncljmgcidaaVz9
import Derived.Orders
import Derived.Deep.Strs
import Derived.Lib.SmallJoins
set_option linter.unusedSimpArgs false
set_option linter.unusedVariables false
namespace Go.Proofs.Ytoomncljmgcidaa
open Go.Vc
attribute [local go_sem] St.runR St.runW St.stepV offV St.step St.stepU St.stepG mkCond guardB St.prK St.pr St.prLen St.eff St.callE St.callD St.callF St.callL aI aB aS aR aC St.isM St.argL Ctr.pure Ctr.lend Ctr.move Ctr.isL Ctr.wri pur len lentBy St.lentV St.lent1 nthS argsR restOf obsR pairs swapL unObs backL St.resL erL SV.ren1 SV.up SV.up2 Ob.up St.fzL cellIds partIds St.intoRow SV.ownId St.fz SV.fz1 St.prep St.mvL St.mv SV.re1 rnOk St.prEq vals eqCells scEq Value.kd St.prStr St.prCut cutR St.bnd St.prMin St.bld isShift outL retL outJ oR oC oE oD SV.upq SV.isSl SV.shut St.deepK St.dpArg St.deepQ absC Ob.pl St.ev St.get St.put St.new St.kill SV.kill SV.kill1 Ob.kill St.app St.wrt St.rowsOf St.res St.killL lk er argsL SV.strip SV.need SV.share SV.share1 SV.owns SV.owns1 SV.owns2 SV.good SV.good1 SV.rok SV.rok1 SV.rok2 SV.isV SV.isV2 nodupN SV.cells SV.one SV.pur Ob.pb partsIn rowsIn splice cellsAt dstOk scal2 scal1 thenK blockK retK outK outs okC okL okA okT nilC nilL nilA nilT keepC keepL keepA keepT St.runG St.dltK St.least St.clean St.final St.hide offK badS badO SV.refs SV.leaf SV.leaf2 Ob.refs dlOk fpAt Go.Vc.cover tups SV.ofAgg St.out outC subL St.has rng wr Value.oneCell' Option.isSome_some Option.isSome_none List.nil_append Bool.false_eq_true List.map_cons List.map_nil List.all_cons List.all_nil List.length_cons List.length_nil List.drop_zero List.drop_succ_cons List.take_succ_cons List.take_zero List.drop_nil List.take_nil List.getElem?_cons_zero List.getElem?_cons_succ List.getElem?_nil List.cons_append List.nil_append List.append_nil List.append_assoc List.flatMap_cons List.flatMap_nil List.contains_cons List.contains_nil List.set_cons_zero List.set_cons_succ List.getElem?_toArray Option.getD_some Option.getD_none Option.map_some Option.map_none Option.bind_some Option.some.injEq Prod.mk.injEq if_true if_false true_and and_true and_self and_false false_and Bool.and_false Bool.false_and Bool.or_true Bool.true_or Bool.or_false Bool.false_or ne_eq not_true_eq_false not_false_eq_true decide_true decide_false List.mem_cons List.not_mem_nil List.filter_cons List.filter_nil List.any_cons List.any_nil List.isEmpty_nil List.isEmpty_cons Option.getD_none or_false false_or true_or or_true forall_eq_or_imp forall_eq reduceCtorEq exists_eq exists_eq' exists_eq_left' exists_eq_left exists_eq_right exists_eq_right' imp_self implies_true Bool.and_true Bool.true_and Bool.and_self beq_self_eq_true List.replicate_succ List.replicate_zero forall_const false_implies pickB_or pickB_and beqT beqF Int.toNat_natCast List.length_map List.length_replicate ge_iff_le gt_iff_lt decide_eq_true_eq decide_eq_false_iff_not Bool.and_eq_true Bool.or_eq_true Bool.not_eq_true' Bool.not_eq_false' condG List.toList_toArray Bool.or_eq_false_iff Bool.and_eq_false_iff Int.not_lt Int.not_le beq_iff_eq beq_eq_false_iff_ne bne_iff_ne bne_eq_false_iff_eq ne_eq Bool.not_true Bool.not_false exists_and_left
section
open Go.Vc
set_option linter.unusedSimpArgs false
set_option linter.unusedVariables false
set_option maxHeartbeats 1000000
attribute [local irreducible] Go.Vc.WP
attribute [local go_sem] cx0_t cx0_c
def k18E : Ctr := len [0] [] (fun args obs => (decI (oR obs 1000000), aI args 1, oE obs 1000000)) (fun x => [.own 1000000, .v (.int .i64 x.2.1)]) (fun x => [(1000000, .sl x.2.2 1 (x.1.map encI))]) (fun x => x.1.length ≤ 4398046511104 ∧ 0 ≤ x.2.1 ∧ x.2.1 ≤ 500000000000000)
  (fun _ x => .v (.int .i64 (x.2.1 + x.1.length))) (fun _ _ => []) (fun x => [(1000000, .sl x.2.2 1 ((marksI x.2.1 x.1.length).map encI))])
theorem c18E : Cn Try.prog 55 k18E := by
  refine Cn.len Try.func55 (by kernel_rfl) rfl fun d x hd h => ?_
  obtain ⟨L, k0, ee⟩ := x
  obtain ⟨hL, h0, h1⟩ := h
  simp only at hL h0 h1 ⊢
  refine HoldsL.go (c := cx0) Try.func55 rfl Try.results55 Try.ntmps55 (by omega) (by simp) rfl (by simp) (by simp [SV.owns2, SV.owns, SV.owns1]) (by simp) rfl rfl (by simp) ?_
  intro X0 M w0
  (repeat' (first | refine WP.seq ?_ | refine WP.block ?_ | ((first | refine WP.region ?_ | refine WP.condW ?_ | refine WP.ret ?_ | refine WP.exit ?_ | refine WP.skip ?_); simp only [go_sem, tyAll, Nat.reduceAdd, Nat.reduceLT, Nat.reduceLeDiff, Nat.reduceEqDiff, Nat.reduceMul, Nat.reduceSub, Nat.reduceGT, reduceIte, Int.reduceNeg, Int.reduceToNat]) |  refine And.intro ?_ ?_ | intro _))
  refine WP.loop (fun k : Nat => ⟨[(0, .own 1000000), (1, .v (.int .i64 (k0 + k))), (5, .v (.int .i64 k))], [(1000000, .sl ee 1 ((halfI L k0 k).map encI))]⟩) (fun k => k ≤ L.length) (fun k => L.length - k) 0 (by omega) ?_ ?_
  · have e : halfI L k0 0 = L := by simp [halfI, marksI]
    rw [e]; simp only [go_sem, tyAll, Nat.reduceAdd, Nat.reduceLT, Nat.reduceLeDiff, Nat.reduceEqDiff, Nat.reduceMul, Nat.reduceSub, Nat.reduceGT, reduceIte, Int.reduceNeg, Int.reduceToNat]; simp
  intro k hk
  have h2 := halfI_len L k0 k hk
  by_cases hlt : k < L.length
  · have h3 := halfI_set L k0 k hlt
    rw [encI] at h3
    have h4 := rowAt_map encI (halfI L k0 k) k (by omega)
    (repeat' (first | refine WP.seq ?_ | refine WP.block ?_ | ((first | refine WP.region ?_ | refine WP.condW ?_ | refine WP.ret ?_ | refine WP.exit ?_ | refine WP.skip ?_); simp only [go_sem, h2, h3, h4, encI, tyAll, Nat.reduceAdd, Nat.reduceLT, Nat.reduceLeDiff, Nat.reduceEqDiff, Nat.reduceMul, Nat.reduceSub, Nat.reduceGT, reduceIte, Int.reduceNeg, Int.reduceToNat]) |  refine And.intro ?_ ?_ | intro _))
    all_goals first | omega | skip
    refine ⟨k + 1, by omega, by omega, ⟨?_, rfl⟩, rfl⟩
    rw [show k0 + (k : Int) + 1 = k0 + ((k + 1 : Nat) : Int) by omega]
  · have h5 : halfI L k0 k = marksI k0 L.length := by rw [show k = L.length by omega]; simp [halfI]
    have h6 := marksI_len k0 L.length
    (repeat' (first | refine WP.seq ?_ | refine WP.block ?_ | ((first | refine WP.region ?_ | refine WP.condW ?_ | refine WP.ret ?_ | refine WP.exit ?_ | refine WP.skip ?_); simp only [go_sem, h2, h5, h6, tyAll, Nat.reduceAdd, Nat.reduceLT, Nat.reduceLeDiff, Nat.reduceEqDiff, Nat.reduceMul, Nat.reduceSub, Nat.reduceGT, reduceIte, Int.reduceNeg, Int.reduceToNat]) |  refine And.intro ?_ ?_ | intro _))
    all_goals first | omega | skip
    rw [show k = L.length by omega]
end
section
open Go.Vc
set_option linter.unusedSimpArgs false
set_option linter.unusedVariables false
set_option maxHeartbeats 1000000
set_option maxRecDepth 10000
attribute [local irreducible] Go.Vc.WP
attribute [local go_sem] cx0_t cx0_c
attribute [local go_sem] decI_enc decImage_enc spA decS_enc decMach_enc oneMach_f mach_eta pcA rgA seA decSymbol_enc tmA tm_eta ghoK St.gho St.gh SV.flat allVs_I allVs_Symbol
def cntImg (x : Image) : Nat := 1 + 3 * x.symbols.length
def mrkImg (k : Int) (x : Image) : Image := ⟨markT k, marksSymbol (k + 1) x.symbols.length⟩
def cntMach (x : Mach) : Nat := 5 + x.stack.length + x.out.length
def mrkMach (k : Int) (x : Mach) : Mach := ⟨k, k + 1, k + 1 + 1, marksI (k + 1 + 1 + 1) x.stack.length, marksI (k + 1 + 1 + 1 + (x.stack.length : Int)) x.out.length, k + 1 + 1 + 1 + (x.stack.length : Int) + (x.out.length : Int), k + 1 + 1 + 1 + (x.stack.length : Int) + (x.out.length : Int) + 1⟩
theorem cntImg_le {I : List Image} (hL : I.length ≤ 2097152) (hY : ∀ x ∈ I, x.symbols.length ≤ 2097152) : cntA cntImg I ≤ 17592186044416 :=
  Nat.le_trans (cntA_le I 8388608 fun x hx => by have := hY x hx; unfold cntImg; omega) (Nat.le_trans (Nat.mul_le_mul_right _ hL) (by decide))
theorem cntMach_le {T : List Mach} (hL : T.length ≤ 1048576) (hY : ∀ x ∈ T, shMach x) : cntA cntMach T ≤ 17592186044416 :=
  Nat.le_trans (cntA_le T 8388608 fun x hx => by have := hY x hx; unfold shMach at this; unfold cntMach; omega) (Nat.le_trans (Nat.mul_le_mul_right _ hL) (by decide))
def kmarkImgS : Ctr := len [0] [] (fun args obs => (decImage (oD obs 1000000), aI args 1, oE obs 1000000)) (fun x => [.own 1000000, .v (.int .i64 x.2.1)]) (fun x => [(1000000, .dp x.2.2 2 (x.1.map encImage))]) (fun x => (x.1.length ≤ 2097152 ∧ ∀ y ∈ x.1, y.symbols.length ≤ 2097152) ∧ 0 ≤ x.2.1 ∧ x.2.1 ≤ 300000000000000)
  (fun _ x => .v (.int .i64 (x.2.1 + (cntA cntImg x.1 : Int)))) (fun _ _ => []) (fun x => [(1000000, .dp x.2.2 2 ((mkA cntImg mrkImg x.2.1 x.1).map encImage))])
section
noncomputable def cxMim : Cx := { P := Try.prog, tys := tys, C := [(70, kmarkT), (71, kmarkSymbolE)], hty := tysOk, hC := COk.cons cmarkT (COk.cons cmarkSymbolE (COk.nil _)) }
theorem cxMim_t : cxMim.tys = tys := rfl
theorem cxMim_c : cxMim.C = [(70, kmarkT), (71, kmarkSymbolE)] := rfl
attribute [local go_sem] cxMim_t cxMim_c kmarkT kmarkSymbolE
theorem cmarkImgS : Cn Try.prog 54 kmarkImgS := by
  refine Cn.len Try.func54 (by kernel_rfl) rfl fun d x hd hx => ?_
  obtain ⟨L, k0, ee⟩ := x
  obtain ⟨⟨hL, hY⟩, h0, h1⟩ := hx
  simp only at hL hY h0 h1 ⊢
  have hcnt := cntImg_le hL hY
  refine HoldsL.go (c := cxMim) Try.func54 rfl Try.results54 Try.ntmps54 (by omega) (by simp) rfl (by simp <;> omega) (by simp [SV.owns2, SV.owns, SV.owns1]) (by simp) rfl rfl (by simp) ?_
  intro X0 M w0
  (repeat' (first | refine WP.seq ?_ | refine WP.block ?_ | ((first | refine WP.region ?_ | refine WP.condW ?_ | refine WP.ret ?_ | refine WP.exit ?_ | refine WP.skip ?_); simp only [go_sem, tyAll, Nat.reduceAdd, Nat.reduceLT, Nat.reduceLeDiff, Nat.reduceEqDiff, Nat.reduceMul, Nat.reduceSub, Nat.reduceGT, reduceIte, Int.reduceNeg, Int.reduceToNat]) |  refine And.intro ?_ ?_ | intro _))
  refine WP.loop (fun k : Nat => ⟨[(0, .own 1000000), (1, .v (.int .i64 (k0 + (cntA cntImg (L.take k) : Int)))), (5, .v (.int .i64 k))], [(1000000, .dp ee 2 ((hfA cntImg mrkImg k0 L k).map encImage))]⟩) (fun k => k ≤ L.length) (fun k => L.length - k) 0 (by omega) ?_ ?_
  · have e2 : cntA cntImg (L.take 0) = 0 := rfl
    rw [hfA_zero, e2]; (simp only [go_sem, tyAll, Nat.reduceAdd, Nat.reduceLT, Nat.reduceLeDiff, Nat.reduceEqDiff, Nat.reduceMul, Nat.reduceSub, Nat.reduceGT, reduceIte, Int.reduceNeg, Int.reduceToNat] <;> (first | rfl | exact ⟨rfl, rfl⟩ | exact ⟨rfl, rfl, rfl⟩ | exact ⟨rfl, rfl, rfl, rfl⟩ | exact ⟨rfl, rfl, rfl, rfl, rfl⟩ | exact ⟨⟨rfl, rfl⟩, rfl⟩ | simp))
  intro k hk
  have h2 := hfA_len (cnt := cntImg) (mrk := mrkImg) L k0 k hk
  have hc2 := cntA_take_le (cnt := cntImg) L k
  by_cases hlt : k < L.length
  · have h3 := hfA_set (cnt := cntImg) (mrk := mrkImg) (en := encImage) L k0 k hlt
    have h4 := hfA_row (cnt := cntImg) (mrk := mrkImg) (en := encImage) L k0 k hlt
    have hsh := hY _ (List.getElem_mem hlt)
    have hc3 := cntA_take (cnt := cntImg) L k hlt
    have hc4 := cntA_take_le (cnt := cntImg) L (k + 1)
    generalize L[k] = y at h3 h4 hsh hc3
    obtain ⟨yc, yY⟩ := y
    generalize hkk : k0 + (cntA cntImg (L.take k) : Int) = kk at h3
    rw [encImage, mrkImg] at h3
    rw [encImage] at h4
    simp only at h3 h4 hsh
    rw [show cntImg ⟨yc, yY⟩ = 1 + 3 * yY.length from rfl] at hc3
    refine WP.post [.abs 1000000 1, .fld 1000000] ?_
    refine WP.gho [.opn 1000000 k, .borV 1000000 1 500] ?_
    simp only [go_sem, h2, h4, tyAll, Nat.reduceAdd, Nat.reduceLT, Nat.reduceLeDiff, Nat.reduceEqDiff, Nat.reduceMul, Nat.reduceSub, Nat.reduceGT, reduceIte, Int.reduceNeg, Int.reduceToNat]
    refine ⟨hlt, fun e1 => ?_⟩
    (repeat' (first | refine WP.seq ?_ | refine WP.block ?_ | ((first | refine WP.region ?_ | refine WP.condW ?_ | refine WP.ret ?_ | refine WP.exit ?_ | refine WP.skip ?_); simp only [go_sem, h2, h3, h4, tyAll, Nat.reduceAdd, Nat.reduceLT, Nat.reduceLeDiff, Nat.reduceEqDiff, Nat.reduceMul, Nat.reduceSub, Nat.reduceGT, reduceIte, Int.reduceNeg, Int.reduceToNat]) |  refine And.intro ?_ ?_ | intro _))
    all_goals first | omega | skip
    refine ⟨k + 1, by omega, by omega, ⟨?_, rfl⟩, rfl⟩
    rw [show kk + 1 + 3 * (yY.length : Int) = k0 + (cntA cntImg (List.take (k + 1) L) : Int) by omega]
  · have h5 : hfA cntImg mrkImg k0 L k = mkA cntImg mrkImg k0 L := by rw [show k = L.length by omega]; exact hfA_all _ _
    have h6 := mkA_len (cnt := cntImg) (mrk := mrkImg) L k0
    (repeat' (first | refine WP.seq ?_ | refine WP.block ?_ | ((first | refine WP.region ?_ | refine WP.condW ?_ | refine WP.ret ?_ | refine WP.exit ?_ | refine WP.skip ?_); simp only [go_sem, h2, h5, h6, tyAll, Nat.reduceAdd, Nat.reduceLT, Nat.reduceLeDiff, Nat.reduceEqDiff, Nat.reduceMul, Nat.reduceSub, Nat.reduceGT, reduceIte, Int.reduceNeg, Int.reduceToNat]) |  refine And.intro ?_ ?_ | intro _))
    all_goals first | omega | skip
    all_goals rw [show k = L.length by omega, List.take_length]
end
def kmarkMachS : Ctr := len [0] [] (fun args obs => (decMach (oD obs 1000000), aI args 1, oE obs 1000000)) (fun x => [.own 1000000, .v (.int .i64 x.2.1)]) (fun x => [(1000000, .dp x.2.2 7 (x.1.map encMach))]) (fun x => (x.1.length ≤ 1048576 ∧ ∀ y ∈ x.1, shMach y) ∧ 0 ≤ x.2.1 ∧ x.2.1 ≤ 300000000000000)
  (fun _ x => .v (.int .i64 (x.2.1 + (cntA cntMach x.1 : Int)))) (fun _ _ => []) (fun x => [(1000000, .dp x.2.2 7 ((mkA cntMach mrkMach x.2.1 x.1).map encMach))])
section
noncomputable def cxMma : Cx := { P := Try.prog, tys := tys, C := [(55, k18E)], hty := tysOk, hC := COk.cons c18E (COk.nil _) }
theorem cxMma_t : cxMma.tys = tys := rfl
theorem cxMma_c : cxMma.C = [(55, k18E)] := rfl
attribute [local go_sem] cxMma_t cxMma_c k18E
set_option maxHeartbeats 3000000 in
theorem cmarkMachS : Cn Try.prog 27 kmarkMachS := by
  refine Cn.len Try.func27 (by kernel_rfl) rfl fun d x hd hx => ?_
  obtain ⟨L, k0, ee⟩ := x
  obtain ⟨⟨hL, hY⟩, h0, h1⟩ := hx
  simp only at hL hY h0 h1 ⊢
  have hcnt := cntMach_le hL hY
  refine HoldsL.go (c := cxMma) Try.func27 rfl Try.results27 Try.ntmps27 (by omega) (by simp) rfl (by simp <;> omega) (by simp [SV.owns2, SV.owns, SV.owns1]) (by simp) rfl rfl (by simp) ?_
  intro X0 M w0
  (repeat' (first | refine WP.seq ?_ | refine WP.block ?_ | ((first | refine WP.region ?_ | refine WP.condW ?_ | refine WP.ret ?_ | refine WP.exit ?_ | refine WP.skip ?_); simp only [go_sem, tyAll, Nat.reduceAdd, Nat.reduceLT, Nat.reduceLeDiff, Nat.reduceEqDiff, Nat.reduceMul, Nat.reduceSub, Nat.reduceGT, reduceIte, Int.reduceNeg, Int.reduceToNat]) |  refine And.intro ?_ ?_ | intro _))
  refine WP.loop (fun k : Nat => ⟨[(0, .own 1000000), (1, .v (.int .i64 (k0 + (cntA cntMach (L.take k) : Int)))), (5, .v (.int .i64 k))], [(1000000, .dp ee 7 ((hfA cntMach mrkMach k0 L k).map encMach))]⟩) (fun k => k ≤ L.length) (fun k => L.length - k) 0 (by omega) ?_ ?_
  · have e2 : cntA cntMach (L.take 0) = 0 := rfl
    rw [hfA_zero, e2]; (simp only [go_sem, tyAll, Nat.reduceAdd, Nat.reduceLT, Nat.reduceLeDiff, Nat.reduceEqDiff, Nat.reduceMul, Nat.reduceSub, Nat.reduceGT, reduceIte, Int.reduceNeg, Int.reduceToNat] <;> (first | rfl | exact ⟨rfl, rfl⟩ | exact ⟨rfl, rfl, rfl⟩ | exact ⟨rfl, rfl, rfl, rfl⟩ | exact ⟨rfl, rfl, rfl, rfl, rfl⟩ | exact ⟨⟨rfl, rfl⟩, rfl⟩ | simp))
  intro k hk
  have h2 := hfA_len (cnt := cntMach) (mrk := mrkMach) L k0 k hk
  have hc2 := cntA_take_le (cnt := cntMach) L k
  by_cases hlt : k < L.length
  · have h3 := hfA_set (cnt := cntMach) (mrk := mrkMach) (en := encMach) L k0 k hlt
    have h4 := hfA_row (cnt := cntMach) (mrk := mrkMach) (en := encMach) L k0 k hlt
    have hsh := hY _ (List.getElem_mem hlt)
    have hc3 := cntA_take (cnt := cntMach) L k hlt
    have hc4 := cntA_take_le (cnt := cntMach) L (k + 1)
    generalize L[k] = y at h3 h4 hsh hc3
    obtain ⟨y1, y2, y3, yS, yO, y6, y7⟩ := y
    obtain ⟨hS, hO⟩ := hsh
    generalize hkk : k0 + (cntA cntMach (L.take k) : Int) = kk at h3
    rw [encMach, mrkMach] at h3
    rw [encMach] at h4
    simp only at h3 h4 hS hO
    rw [show cntMach ⟨y1, y2, y3, yS, yO, y6, y7⟩ = 5 + yS.length + yO.length from rfl] at hc3
    refine WP.post [.abs 1000000 3, .abs 1000000 4, .fld 1000000] ?_
    refine WP.gho [.opn 1000000 k, .borV 1000000 3 500, .borV 1000000 4 501] ?_
    simp only [go_sem, h2, h4, tyAll, Nat.reduceAdd, Nat.reduceLT, Nat.reduceLeDiff, Nat.reduceEqDiff, Nat.reduceMul, Nat.reduceSub, Nat.reduceGT, reduceIte, Int.reduceNeg, Int.reduceToNat]
    refine ⟨hlt, fun e1 e2 => ?_⟩
    (repeat' (first | refine WP.seq ?_ | refine WP.block ?_ | ((first | refine WP.region ?_ | refine WP.condW ?_ | refine WP.ret ?_ | refine WP.exit ?_ | refine WP.skip ?_); simp only [go_sem, h2, h3, h4, tyAll, Nat.reduceAdd, Nat.reduceLT, Nat.reduceLeDiff, Nat.reduceEqDiff, Nat.reduceMul, Nat.reduceSub, Nat.reduceGT, reduceIte, Int.reduceNeg, Int.reduceToNat]) |  refine And.intro ?_ ?_ | intro _))
    all_goals first | omega | skip
    refine ⟨k + 1, by omega, by omega, ⟨?_, rfl⟩, rfl⟩
    rw [show kk + 1 + 1 + 1 + (yS.length : Int) + (yO.length : Int) + 1 + 1 = k0 + (cntA cntMach (List.take (k + 1) L) : Int) by omega]
  · have h5 : hfA cntMach mrkMach k0 L k = mkA cntMach mrkMach k0 L := by rw [show k = L.length by omega]; exact hfA_all _ _
    have h6 := mkA_len (cnt := cntMach) (mrk := mrkMach) L k0
    (repeat' (first | refine WP.seq ?_ | refine WP.block ?_ | ((first | refine WP.region ?_ | refine WP.condW ?_ | refine WP.ret ?_ | refine WP.exit ?_ | refine WP.skip ?_); simp only [go_sem, h2, h5, h6, tyAll, Nat.reduceAdd, Nat.reduceLT, Nat.reduceLeDiff, Nat.reduceEqDiff, Nat.reduceMul, Nat.reduceSub, Nat.reduceGT, reduceIte, Int.reduceNeg, Int.reduceToNat]) |  refine And.intro ?_ ?_ | intro _))
    all_goals first | omega | skip
    all_goals rw [show k = L.length by omega, List.take_length]
end
/-! ## held -/
def kheldImgS : Ctr := pur (fun args => (decImage (aR args 0), aI args 1)) (fun x => [.sl 2 (x.1.map encImage), .v (.int .i64 x.2)]) (fun x => (x.1.length ≤ 2097152 ∧ ∀ y ∈ x.1, y.symbols.length ≤ 2097152) ∧ (0 ≤ x.2 ∧ x.2 ≤ 300000000000000) ∧ mkA cntImg mrkImg x.2 x.1 = x.1) (fun _ x => .v (.int .i64 (x.2 + (cntA cntImg x.1 : Int)))) (fun _ _ => [])
section
noncomputable def cxHim : Cx := { P := Try.prog, tys := tys, C := [(70, kmarkT), (82, kheldSymbolS)], hty := tysOk, hC := COk.cons cmarkT (COk.cons cheldSymbolS (COk.nil _)) }
theorem cxHim_t : cxHim.tys = tys := rfl
theorem cxHim_c : cxHim.C = [(70, kmarkT), (82, kheldSymbolS)] := rfl
attribute [local go_sem] cxHim_t cxHim_c kmarkT kheldSymbolS
theorem cheldImgS : Cn Try.prog 72 kheldImgS := by
  refine Cn.pur Try.func72 (by kernel_rfl) rfl fun d x hx => ?_
  obtain ⟨L, k0⟩ := x
  obtain ⟨⟨hL, hY⟩, ⟨h0, h1⟩, hmk⟩ := hx
  simp only at hL hY h0 h1 hmk ⊢
  have hcnt := cntImg_le hL hY
  refine Holds.go (c := cxHim) Try.func72 rfl Try.results72 Try.ntmps72 (by omega) (by simp) rfl ?_
  intro X0 w0
  (repeat' (first | refine WP.seq ?_ | refine WP.block ?_ | ((first | refine WP.region ?_ | refine WP.condW ?_ | refine WP.ret ?_ | refine WP.exit ?_ | refine WP.skip ?_); simp only [go_sem, tyAll, Nat.reduceAdd, Nat.reduceLT, Nat.reduceLeDiff, Nat.reduceEqDiff, Nat.reduceMul, Nat.reduceSub, Nat.reduceGT, reduceIte, Int.reduceNeg, Int.reduceToNat]) | ((first | refine WP.drawW 8 (by decide +kernel) (by kernel_rfl) ?_); simp only [go_sem, tyAll, Nat.reduceAdd, Nat.reduceLT, Nat.reduceLeDiff, Nat.reduceEqDiff, Nat.reduceMul, Nat.reduceSub, Nat.reduceGT, reduceIte, Int.reduceNeg, Int.reduceToNat]) |  refine And.intro ?_ ?_ | intro _))
  refine WP.loop (fun k : Nat => ⟨[(0, .sl 2 (L.map encImage)), (1, .v (.int .i64 (k0 + (cntA cntImg (L.take k) : Int)))), (5, .v (.int .i64 k))], []⟩) (fun k => k ≤ L.length) (fun k => L.length - k) 0 (by omega) ?_ ?_
  · have e2 : cntA cntImg (L.take 0) = 0 := rfl
    rw [e2]; (simp only [go_sem, tyAll, Nat.reduceAdd, Nat.reduceLT, Nat.reduceLeDiff, Nat.reduceEqDiff, Nat.reduceMul, Nat.reduceSub, Nat.reduceGT, reduceIte, Int.reduceNeg, Int.reduceToNat] <;> (first | rfl | exact ⟨rfl, rfl⟩ | exact ⟨rfl, rfl, rfl⟩ | exact ⟨rfl, rfl, rfl, rfl⟩ | exact ⟨rfl, rfl, rfl, rfl, rfl⟩ | exact ⟨⟨rfl, rfl⟩, rfl⟩ | simp))
  intro k hk
  have hc2 := cntA_take_le (cnt := cntImg) L k
  by_cases hlt : k < L.length
  · have h1r := rowAt_map encImage L k hlt
    have hsh := hY _ (List.getElem_mem hlt)
    have hc3 := cntA_take (cnt := cntImg) L k hlt
    have hc4 := cntA_take_le (cnt := cntImg) L (k + 1)
    have hg : L[k] = mrkImg (k0 + (cntA cntImg (L.take k) : Int)) L[k] := by
      have := mkA_get (cnt := cntImg) (mrk := mrkImg) L k0 k hlt
      rw [← this]; congr 1; exact hmk.symm
    generalize L[k] = y at h1r hsh hc3 hg
    obtain ⟨yc, yY⟩ := y
    generalize hkk : k0 + (cntA cntImg (L.take k) : Int) = kk at hg
    rw [mrkImg] at hg
    simp only [Image.mk.injEq] at hg
    obtain ⟨g1, g2⟩ := hg
    rw [encImage] at h1r
    simp only at h1r hsh
    rw [show cntImg ⟨yc, yY⟩ = 1 + 3 * yY.length from rfl] at hc3
    subst g1
    have g3 : (if yY = marksSymbol (kk + 1) yY.length then kk + 1 + 3 * (yY.length : Int) else -1) = kk + 1 + 3 * (yY.length : Int) := if_pos g2
    (repeat' (first | refine WP.seq ?_ | refine WP.block ?_ | ((first | refine WP.region ?_ | refine WP.condW ?_ | refine WP.ret ?_ | refine WP.exit ?_ | refine WP.skip ?_); simp only [go_sem, h1r, g3, tyAll, Nat.reduceAdd, Nat.reduceLT, Nat.reduceLeDiff, Nat.reduceEqDiff, Nat.reduceMul, Nat.reduceSub, Nat.reduceGT, reduceIte, Int.reduceNeg, Int.reduceToNat]) | ((first | refine WP.drawW 8 (by decide +kernel) (by kernel_rfl) ?_); simp only [go_sem, h1r, g3, tyAll, Nat.reduceAdd, Nat.reduceLT, Nat.reduceLeDiff, Nat.reduceEqDiff, Nat.reduceMul, Nat.reduceSub, Nat.reduceGT, reduceIte, Int.reduceNeg, Int.reduceToNat]) |  refine And.intro ?_ ?_ | intro _))
    all_goals first | omega | skip
    all_goals first | (refine ⟨k + 1, by omega, by omega, ?_, rfl⟩; rw [show kk + 1 + 3 * (yY.length : Int) = k0 + (cntA cntImg (List.take (k + 1) L) : Int) by omega]) | skip
    all_goals trace_state
  · (repeat' (first | refine WP.seq ?_ | refine WP.block ?_ | ((first | refine WP.region ?_ | refine WP.condW ?_ | refine WP.ret ?_ | refine WP.exit ?_ | refine WP.skip ?_); simp only [go_sem, tyAll, Nat.reduceAdd, Nat.reduceLT, Nat.reduceLeDiff, Nat.reduceEqDiff, Nat.reduceMul, Nat.reduceSub, Nat.reduceGT, reduceIte, Int.reduceNeg, Int.reduceToNat]) | ((first | refine WP.drawW 8 (by decide +kernel) (by kernel_rfl) ?_); simp only [go_sem, tyAll, Nat.reduceAdd, Nat.reduceLT, Nat.reduceLeDiff, Nat.reduceEqDiff, Nat.reduceMul, Nat.reduceSub, Nat.reduceGT, reduceIte, Int.reduceNeg, Int.reduceToNat]) |  refine And.intro ?_ ?_ | intro _))
    all_goals first | omega | skip
    all_goals rw [show k = L.length by omega, List.take_length]
end
def kheldMachS : Ctr := pur (fun args => (decMach (aR args 0), aI args 1)) (fun x => [.sl 7 (x.1.map encMach), .v (.int .i64 x.2)]) (fun x => (x.1.length ≤ 1048576 ∧ ∀ y ∈ x.1, shMach y) ∧ (0 ≤ x.2 ∧ x.2 ≤ 300000000000000) ∧ mkA cntMach mrkMach x.2 x.1 = x.1) (fun _ x => .v (.int .i64 (x.2 + (cntA cntMach x.1 : Int)))) (fun _ _ => [])
section
noncomputable def cxHma : Cx := { P := Try.prog, tys := tys, C := [(73, k19)], hty := tysOk, hC := COk.cons c19 (COk.nil _) }
theorem cxHma_t : cxHma.tys = tys := rfl
theorem cxHma_c : cxHma.C = [(73, k19)] := rfl
attribute [local go_sem] cxHma_t cxHma_c k19
set_option maxHeartbeats 3000000 in
theorem cheldMachS : Cn Try.prog 58 kheldMachS := by
  refine Cn.pur Try.func58 (by kernel_rfl) rfl fun d x hx => ?_
  obtain ⟨L, k0⟩ := x
  obtain ⟨⟨hL, hY⟩, ⟨h0, h1⟩, hmk⟩ := hx
  simp only at hL hY h0 h1 hmk ⊢
  have hcnt := cntMach_le hL hY
  refine Holds.go (c := cxHma) Try.func58 rfl Try.results58 Try.ntmps58 (by omega) (by simp) rfl ?_
  intro X0 w0
  (repeat' (first | refine WP.seq ?_ | refine WP.block ?_ | ((first | refine WP.region ?_ | refine WP.condW ?_ | refine WP.ret ?_ | refine WP.exit ?_ | refine WP.skip ?_); simp only [go_sem, tyAll, Nat.reduceAdd, Nat.reduceLT, Nat.reduceLeDiff, Nat.reduceEqDiff, Nat.reduceMul, Nat.reduceSub, Nat.reduceGT, reduceIte, Int.reduceNeg, Int.reduceToNat]) |  refine And.intro ?_ ?_ | intro _))
  refine WP.loop (fun k : Nat => ⟨[(0, .sl 7 (L.map encMach)), (1, .v (.int .i64 (k0 + (cntA cntMach (L.take k) : Int)))), (5, .v (.int .i64 k))], []⟩) (fun k => k ≤ L.length) (fun k => L.length - k) 0 (by omega) ?_ ?_
  · have e2 : cntA cntMach (L.take 0) = 0 := rfl
    rw [e2]; (simp only [go_sem, tyAll, Nat.reduceAdd, Nat.reduceLT, Nat.reduceLeDiff, Nat.reduceEqDiff, Nat.reduceMul, Nat.reduceSub, Nat.reduceGT, reduceIte, Int.reduceNeg, Int.reduceToNat] <;> (first | rfl | exact ⟨rfl, rfl⟩ | exact ⟨rfl, rfl, rfl⟩ | exact ⟨rfl, rfl, rfl, rfl⟩ | exact ⟨rfl, rfl, rfl, rfl, rfl⟩ | exact ⟨⟨rfl, rfl⟩, rfl⟩ | simp))
  intro k hk
  have hc2 := cntA_take_le (cnt := cntMach) L k
  by_cases hlt : k < L.length
  · have h1r := rowAt_map encMach L k hlt
    have hsh := hY _ (List.getElem_mem hlt)
    have hc3 := cntA_take (cnt := cntMach) L k hlt
    have hc4 := cntA_take_le (cnt := cntMach) L (k + 1)
    have hg : L[k] = mrkMach (k0 + (cntA cntMach (L.take k) : Int)) L[k] := by
      have := mkA_get (cnt := cntMach) (mrk := mrkMach) L k0 k hlt
      rw [← this]; congr 1; exact hmk.symm
    generalize L[k] = y at h1r hsh hc3 hg
    obtain ⟨y1, y2, y3, yS, yO, y6, y7⟩ := y
    obtain ⟨hS, hO⟩ := hsh
    generalize hkk : k0 + (cntA cntMach (L.take k) : Int) = kk at hg
    rw [mrkMach] at hg
    simp only [Mach.mk.injEq] at hg
    obtain ⟨g1, g2, g3, g4, g5, g6, g7⟩ := hg
    rw [encMach] at h1r
    simp only at h1r hS hO
    rw [show cntMach ⟨y1, y2, y3, yS, yO, y6, y7⟩ = 5 + yS.length + yO.length from rfl] at hc3
    subst y1 y2 y3 y6 y7
    have g8 : (if yS = marksI (kk + 1 + 1 + 1) yS.length then kk + 1 + 1 + 1 + (yS.length : Int) else -1) = kk + 1 + 1 + 1 + (yS.length : Int) := if_pos g4
    have g9 : (if yO = marksI (kk + 1 + 1 + 1 + (yS.length : Int)) yO.length then kk + 1 + 1 + 1 + (yS.length : Int) + (yO.length : Int) else -1) = kk + 1 + 1 + 1 + (yS.length : Int) + (yO.length : Int) := if_pos g5
    (repeat' (first | refine WP.seq ?_ | refine WP.block ?_ | ((first | refine WP.region ?_ | refine WP.condW ?_ | refine WP.ret ?_ | refine WP.exit ?_ | refine WP.skip ?_); simp only [go_sem, h1r, g8, g9, tyAll, Nat.reduceAdd, Nat.reduceLT, Nat.reduceLeDiff, Nat.reduceEqDiff, Nat.reduceMul, Nat.reduceSub, Nat.reduceGT, reduceIte, Int.reduceNeg, Int.reduceToNat]) |  refine And.intro ?_ ?_ | intro _))
    all_goals first | omega | skip
    all_goals first | (refine ⟨k + 1, by omega, by omega, ?_, rfl⟩; rw [show kk + 1 + 1 + 1 + (yS.length : Int) + (yO.length : Int) + 1 + 1 = k0 + (cntA cntMach (List.take (k + 1) L) : Int) by omega]) | skip
    all_goals trace_state
  · (repeat' (first | refine WP.seq ?_ | refine WP.block ?_ | ((first | refine WP.region ?_ | refine WP.condW ?_ | refine WP.ret ?_ | refine WP.exit ?_ | refine WP.skip ?_); simp only [go_sem, tyAll, Nat.reduceAdd, Nat.reduceLT, Nat.reduceLeDiff, Nat.reduceEqDiff, Nat.reduceMul, Nat.reduceSub, Nat.reduceGT, reduceIte, Int.reduceNeg, Int.reduceToNat]) |  refine And.intro ?_ ?_ | intro _))
    all_goals first | omega | skip
    all_goals rw [show k = L.length by omega, List.take_length]
end
end
section
open Go.Vc
set_option linter.unusedSimpArgs false
set_option linter.unusedVariables false
set_option maxHeartbeats 1000000
set_option maxRecDepth 10000
attribute [local irreducible] Go.Vc.WP
attribute [local go_sem] cx0_t cx0_c
attribute [local go_sem] decI_enc decImage_enc spA decS_enc decMach_enc oneMach_f mach_eta pcA rgA seA decSymbol_enc tmA tm_eta
section
variable {α : Type} {cnt : α → Nat} {mrk : Int → α → α}
theorem cntA_mkA (hc : ∀ k x, cnt (mrk k x) = cnt x) : ∀ (L : List α) (k : Int), cntA cnt (mkA cnt mrk k L) = cntA cnt L
  | [], _ => rfl
  | x :: L, k => by
    have := cntA_mkA hc L (k + (cnt x : Int))
    simp only [mkA, cntA, List.map_cons, List.sum_cons, hc] at this ⊢
    rw [this]
theorem mkA_idem (hc : ∀ k x, cnt (mrk k x) = cnt x) (hm : ∀ k x, mrk k (mrk k x) = mrk k x) : ∀ (L : List α) (k : Int), mkA cnt mrk k (mkA cnt mrk k L) = mkA cnt mrk k L
  | [], _ => rfl
  | x :: L, k => by simp only [mkA, hc, hm, mkA_idem hc hm L]
end
theorem cntImg_mrk (k : Int) (x : Image) : cntImg (mrkImg k x) = cntImg x := by simp [cntImg, mrkImg, marksSymbol_len]
theorem mrkImg_idem (k : Int) (x : Image) : mrkImg k (mrkImg k x) = mrkImg k x := by simp [mrkImg, marksSymbol_len]
theorem cntMach_mrk (k : Int) (x : Mach) : cntMach (mrkMach k x) = cntMach x := by simp [cntMach, mrkMach, marksI_len]
theorem mrkMach_idem (k : Int) (x : Mach) : mrkMach k (mrkMach k x) = mrkMach k x := by simp [mrkMach, marksI_len]
def eSp (k : Int) (x : SpX) : Int := k + (cntA cntImg x.1 : Int) + (x.2.1.length : Int) + (x.2.2.length : Int)
def mkSp (k : Int) (x : SpX) : SpX := (mkA cntImg mrkImg k x.1, marksI (k + (cntA cntImg x.1 : Int)) x.2.1.length, marksI (k + (cntA cntImg x.1 : Int) + (x.2.1.length : Int)) x.2.2.length)
def ePc (k : Int) (x : PcX) : Int := eSp k x.1 + (cntA cntMach x.2.1 : Int)
def mkPc (k : Int) (x : PcX) : PcX := (mkSp k x.1, mkA cntMach mrkMach (eSp k x.1) x.2.1, x.2.2)
def eRg (k : Int) (x : RgX) : Int := k + (x.2.1.length : Int)
def mkRg (k : Int) (x : RgX) : RgX := (x.1, marksS k x.2.1.length, x.2.2)
def eSe (k : Int) (x : SeX) : Int := eRg (ePc k x.1) x.2.2.1
def mkSe (k : Int) (x : SeX) : SeX := (mkPc k x.1, x.2.1, mkRg (ePc k x.1) x.2.2.1, x.2.2.2)
theorem eSp_mk (k : Int) (x : SpX) : eSp k (mkSp k x) = eSp k x := by simp [eSp, mkSp, cntA_mkA cntImg_mrk, marksI_len]
theorem mkSp_idem (k : Int) (x : SpX) : mkSp k (mkSp k x) = mkSp k x := by simp [mkSp, cntA_mkA cntImg_mrk, mkA_idem cntImg_mrk mrkImg_idem, marksI_len]
theorem ePc_mk (k : Int) (x : PcX) : ePc k (mkPc k x) = ePc k x := by simp [ePc, mkPc, eSp_mk, cntA_mkA cntMach_mrk]
theorem mkPc_idem (k : Int) (x : PcX) : mkPc k (mkPc k x) = mkPc k x := by simp [mkPc, eSp_mk, mkSp_idem, mkA_idem cntMach_mrk mrkMach_idem]
theorem eSe_mk (k : Int) (x : SeX) : eSe k (mkSe k x) = eSe k x := by simp [eSe, mkSe, ePc_mk, eRg, mkRg, marksS_len]
theorem mkSe_idem (k : Int) (x : SeX) : mkSe k (mkSe k x) = mkSe k x := by simp [mkSe, ePc_mk, mkPc_idem, mkRg, marksS_len]
theorem mem_mkA {α : Type} {cnt : α → Nat} {mrk : Int → α → α} {p : α → Prop} (hp : ∀ k x, p x → p (mrk k x)) : ∀ (L : List α) (k : Int), (∀ x ∈ L, p x) → ∀ y ∈ mkA cnt mrk k L, p y
  | [], _, _, y, hy => by simp [mkA] at hy
  | x :: L, k, h, y, hy => by
    simp only [mkA, List.mem_cons] at hy
    rcases hy with rfl | hy
    · exact hp k x (h x List.mem_cons_self)
    · exact mem_mkA hp L _ (fun z hz => h z (List.mem_cons_of_mem _ hz)) y hy
theorem shSp_mk {x : SpX} (h : shSp x) (k : Int) : shSp (mkSp k x) := by
  obtain ⟨⟨h1, h2⟩, h3, h4⟩ := h
  exact ⟨⟨by simpa [mkSp, mkA_len] using h1, mem_mkA (p := fun i : Image => i.symbols.length ≤ 2097152) (fun k x h => by simpa [mrkImg, marksSymbol_len] using h) _ _ h2⟩, by simpa [mkSp, marksI_len] using h3, by simpa [mkSp, marksI_len] using h4⟩
theorem shPc_mk {x : PcX} (h : shPc x) (k : Int) : shPc (mkPc k x) := by
  obtain ⟨h1, h2, h3⟩ := h
  exact ⟨shSp_mk h1 k, by simpa [mkPc, mkA_len] using h2, mem_mkA (p := shMach) (fun k x h => by simpa [shMach, mrkMach, marksI_len] using h) _ _ h3⟩
theorem shSe_mk {x : SeX} (h : shSe x) (k : Int) : shSe (mkSe k x) := ⟨shPc_mk h.1 k, by simpa [mkSe, mkRg, marksS_len] using h.2⟩
theorem eSp_le {x : SpX} (h : shSp x) (k : Int) : k ≤ eSp k x ∧ eSp k x ≤ k + 17592190238720 := by
  have h1 := cntImg_le h.1.1 h.1.2
  have := h.2.1
  have := h.2.2
  unfold eSp
  omega
theorem ePc_le {x : PcX} (h : shPc x) (k : Int) : k ≤ ePc k x ∧ ePc k x ≤ k + 35184376283136 := by
  have h1 := eSp_le h.1 k
  have h2 := cntMach_le h.2.1 h.2.2
  unfold ePc
  omega

def pcI (args : List SV) : Int × Int × Int := match (args[0]? : Option SV) with
  | some (.agg [_, _, _, _, .v (.int _ a), .v (.int _ b), .v (.int _ c)]) => (a, b, c)
  | _ => (0, 0, 0)
def rgI (args : List SV) : Int × Int × Int := match (args[0]? : Option SV) with
  | some (.agg [.v (.int _ a), _, .v (.int _ b), .v (.int _ c)]) => (a, b, c)
  | _ => (0, 0, 0)
def kmarkSp : Ctr := len [0] [] (fun args obs => (((decImage (oD obs 1000000), decI (oR obs 1000001), decI (oR obs 1000002)) : SpX), aI args 1)) (fun x => [.agg [.own 1000000, .own 1000001, .own 1000002], .v (.int .i64 x.2)])
  (fun x => [(1000000, .dp 93 2 (x.1.1.map encImage)), (1000001, .sl 3 1 (x.1.2.1.map encI)), (1000002, .sl 3 1 (x.1.2.2.map encI))]) (fun x => shSp x.1 ∧ 0 ≤ x.2 ∧ x.2 ≤ 100000000000000)
  (fun _ x => .v (.int .i64 (eSp x.2 x.1))) (fun _ _ => []) (fun x => [(1000000, .dp 93 2 ((mkSp x.2 x.1).1.map encImage)), (1000001, .sl 3 1 ((mkSp x.2 x.1).2.1.map encI)), (1000002, .sl 3 1 ((mkSp x.2 x.1).2.2.map encI))])
section
attribute [local go_sem] eSp mkSp
noncomputable def cxMsp : Cx := { P := Try.prog, tys := tys, C := [(54, kmarkImgS), (55, k18E)], hty := tysOk, hC := COk.cons cmarkImgS (COk.cons c18E (COk.nil _)) }
theorem cxMsp_t : cxMsp.tys = tys := rfl
theorem cxMsp_c : cxMsp.C = [(54, kmarkImgS), (55, k18E)] := rfl
attribute [local go_sem] cxMsp_t cxMsp_c kmarkImgS k18E
theorem cmarkSp : Cn Try.prog 26 kmarkSp := by
  refine Cn.len Try.func26 (by kernel_rfl) rfl fun d x hd hx => ?_
  obtain ⟨⟨I, B, E⟩, k⟩ := x
  obtain ⟨⟨⟨hI, hIm⟩, hB, hE⟩, h0, h1⟩ := hx
  simp only at hI hIm hB hE h0 h1 ⊢
  have hcnt := cntImg_le hI hIm
  refine HoldsL.go (c := cxMsp) Try.func26 rfl Try.results26 Try.ntmps26 (by omega) (by simp) rfl (by simp <;> omega) (by simp [SV.owns2, SV.owns, SV.owns1]) (by simp) rfl rfl (by simp) ?_
  intro X0 M w0
  (repeat' (first | refine WP.seq ?_ | refine WP.block ?_ | ((first | refine WP.region ?_ | refine WP.condW ?_ | refine WP.ret ?_ | refine WP.exit ?_ | refine WP.skip ?_); simp only [go_sem, tyAll, Nat.reduceAdd, Nat.reduceLT, Nat.reduceLeDiff, Nat.reduceEqDiff, Nat.reduceMul, Nat.reduceSub, Nat.reduceGT, reduceIte, Int.reduceNeg, Int.reduceToNat]) |  refine And.intro ?_ ?_ | intro _))
  all_goals first | omega | exact hIm _ ‹_› | skip
  all_goals trace_state
end
def kmarkPc : Ctr := len [0] [] (fun args obs => ((((decImage (oD obs 1000000), decI (oR obs 1000001), decI (oR obs 1000002)), decMach (oD obs 1000003), pcI args) : PcX), aI args 1)) (fun x => [.agg [.own 1000000, .own 1000001, .own 1000002, .own 1000003, .v (.int .i64 x.1.2.2.1), .v (.int .i64 x.1.2.2.2.1), .v (.int .i64 x.1.2.2.2.2)], .v (.int .i64 x.2)])
  (fun x => [(1000000, .dp 93 2 (x.1.1.1.map encImage)), (1000001, .sl 3 1 (x.1.1.2.1.map encI)), (1000002, .sl 3 1 (x.1.1.2.2.map encI)), (1000003, .dp 72 7 (x.1.2.1.map encMach))]) (fun x => shPc x.1 ∧ 0 ≤ x.2 ∧ x.2 ≤ 100000000000000)
  (fun _ x => .v (.int .i64 (ePc x.2 x.1))) (fun _ _ => []) (fun x => [(1000000, .dp 93 2 ((mkPc x.2 x.1).1.1.map encImage)), (1000001, .sl 3 1 ((mkPc x.2 x.1).1.2.1.map encI)), (1000002, .sl 3 1 ((mkPc x.2 x.1).1.2.2.map encI)), (1000003, .dp 72 7 ((mkPc x.2 x.1).2.1.map encMach))])
section
attribute [local go_sem] ePc mkPc pcI
attribute [local irreducible] shMach
noncomputable def cxMpc : Cx := { P := Try.prog, tys := tys, C := [(26, kmarkSp), (27, kmarkMachS)], hty := tysOk, hC := COk.cons cmarkSp (COk.cons cmarkMachS (COk.nil _)) }
theorem cxMpc_t : cxMpc.tys = tys := rfl
theorem cxMpc_c : cxMpc.C = [(26, kmarkSp), (27, kmarkMachS)] := rfl
attribute [local go_sem] cxMpc_t cxMpc_c kmarkSp kmarkMachS
set_option maxHeartbeats 3000000 in
theorem cmarkPc : Cn Try.prog 11 kmarkPc := by
  refine Cn.len Try.func11 (by kernel_rfl) rfl fun d x hd hx => ?_
  obtain ⟨⟨⟨I, B, E⟩, T, tu, le, sl⟩, k⟩ := x
  obtain ⟨⟨hsp, hT, hTs⟩, h0, h1⟩ := hx
  have hsp2 := hsp
  obtain ⟨⟨hI, hIm⟩, hB, hE⟩ := hsp2
  simp only at hT hTs hI hIm hB hE h0 h1 ⊢
  have hle : k ≤ eSp k (I, B, E) ∧ eSp k (I, B, E) ≤ k + 17592190238720 := eSp_le hsp k
  have hcnt := cntMach_le hT hTs
  refine HoldsL.go (c := cxMpc) Try.func11 rfl Try.results11 Try.ntmps11 (by omega) (by simp) rfl (by simp <;> omega) (by simp [SV.owns2, SV.owns, SV.owns1]) (by simp) rfl rfl (by simp) ?_
  intro X0 M w0
  (repeat' (first | refine WP.seq ?_ | refine WP.block ?_ | ((first | refine WP.region ?_ | refine WP.condW ?_ | refine WP.ret ?_ | refine WP.exit ?_ | refine WP.skip ?_); simp only [go_sem, tyAll, Nat.reduceAdd, Nat.reduceLT, Nat.reduceLeDiff, Nat.reduceEqDiff, Nat.reduceMul, Nat.reduceSub, Nat.reduceGT, reduceIte, Int.reduceNeg, Int.reduceToNat]) |  refine And.intro ?_ ?_ | intro _))
  all_goals first | omega | exact hIm _ ‹_› | exact hTs _ ‹_› | exact hsp | skip
  all_goals trace_state
end
def kmarkRg : Ctr := len [0] [] (fun args obs => ((((rgI args).1, decS (oR obs 1000000), (rgI args).2) : RgX), aI args 1)) (fun x => [.agg [.v (.int .i64 x.1.1), .own 1000000, .v (.int .i64 x.1.2.2.1), .v (.int .i64 x.1.2.2.2)], .v (.int .i64 x.2)])
  (fun x => [(1000000, .sl 9 1 (x.1.2.1.map encS))]) (fun x => x.1.2.1.length ≤ 2097152 ∧ 0 ≤ x.2 ∧ x.2 ≤ 200000000000000)
  (fun _ x => .v (.int .i64 (eRg x.2 x.1))) (fun _ _ => []) (fun x => [(1000000, .sl 9 1 ((mkRg x.2 x.1).2.1.map encS))])
section
attribute [local go_sem] eRg mkRg rgI
noncomputable def cxMrg : Cx := { P := Try.prog, tys := tys, C := [(56, kmarkSE)], hty := tysOk, hC := COk.cons cmarkSE (COk.nil _) }
theorem cxMrg_t : cxMrg.tys = tys := rfl
theorem cxMrg_c : cxMrg.C = [(56, kmarkSE)] := rfl
attribute [local go_sem] cxMrg_t cxMrg_c kmarkSE
theorem cmarkRg : Cn Try.prog 28 kmarkRg := by
  refine Cn.len Try.func28 (by kernel_rfl) rfl fun d x hd hx => ?_
  obtain ⟨⟨cp, R, wr, lo⟩, k⟩ := x
  obtain ⟨hR, h0, h1⟩ := hx
  simp only at hR h0 h1 ⊢
  refine HoldsL.go (c := cxMrg) Try.func28 rfl Try.results28 Try.ntmps28 (by omega) (by simp) rfl (by simp <;> omega) (by simp [SV.owns2, SV.owns, SV.owns1]) (by simp) rfl rfl (by simp) ?_
  intro X0 M w0
  (repeat' (first | refine WP.seq ?_ | refine WP.block ?_ | ((first | refine WP.region ?_ | refine WP.condW ?_ | refine WP.ret ?_ | refine WP.exit ?_ | refine WP.skip ?_); simp only [go_sem, tyAll, Nat.reduceAdd, Nat.reduceLT, Nat.reduceLeDiff, Nat.reduceEqDiff, Nat.reduceMul, Nat.reduceSub, Nat.reduceGT, reduceIte, Int.reduceNeg, Int.reduceToNat]) |  refine And.intro ?_ ?_ | intro _))
  all_goals first | omega | skip
  all_goals trace_state
end
def seI (args : List SV) : (Int × Int × Int) × Tm × (Int × Int × Int) × Int × Int × Int := match (args[0]? : Option SV) with
  | some (.agg [_, _, _, _, .v (.int _ a), .v (.int _ b), .v (.int _ c), .v (.int _ p), .v (.int _ q), .v (.int _ l), .v (.int _ st), .v (.int _ cp), _, .v (.int _ wr), .v (.int _ lo), .v (.int _ mo), .v (.int _ sp), .v (.int _ fi)]) => ((a, b, c), ⟨p, q, l, st⟩, (cp, wr, lo), mo, sp, fi)
  | _ => ((0, 0, 0), ⟨0, 0, 0, 0⟩, (0, 0, 0), 0, 0, 0)
def kmarkSe : Ctr := len [0] [] (fun args obs => (((((decImage (oD obs 1000000), decI (oR obs 1000001), decI (oR obs 1000002)), decMach (oD obs 1000003), (seI args).1), (seI args).2.1, ((seI args).2.2.1.1, decS (oR obs 1000004), (seI args).2.2.1.2), (seI args).2.2.2) : SeX), aI args 1))
  (fun x => [.agg [.own 1000000, .own 1000001, .own 1000002, .own 1000003, .v (.int .i64 x.1.1.2.2.1), .v (.int .i64 x.1.1.2.2.2.1), .v (.int .i64 x.1.1.2.2.2.2), .v (.int .i64 x.1.2.1.period), .v (.int .i64 x.1.2.1.spread), .v (.int .i64 x.1.2.1.left), .v (.int .i64 x.1.2.1.state),
    .v (.int .i64 x.1.2.2.1.1), .own 1000004, .v (.int .i64 x.1.2.2.1.2.2.1), .v (.int .i64 x.1.2.2.1.2.2.2), .v (.int .i64 x.1.2.2.2.1), .v (.int .i64 x.1.2.2.2.2.1), .v (.int .i64 x.1.2.2.2.2.2)], .v (.int .i64 x.2)])
  (fun x => [(1000000, .dp 93 2 (x.1.1.1.1.map encImage)), (1000001, .sl 3 1 (x.1.1.1.2.1.map encI)), (1000002, .sl 3 1 (x.1.1.1.2.2.map encI)), (1000003, .dp 72 7 (x.1.1.2.1.map encMach)), (1000004, .sl 9 1 (x.1.2.2.1.2.1.map encS))]) (fun x => shSe x.1 ∧ 0 ≤ x.2 ∧ x.2 ≤ 100000000000000)
  (fun _ x => .v (.int .i64 (eSe x.2 x.1))) (fun _ _ => []) (fun x => [(1000000, .dp 93 2 ((mkSe x.2 x.1).1.1.1.map encImage)), (1000001, .sl 3 1 ((mkSe x.2 x.1).1.1.2.1.map encI)), (1000002, .sl 3 1 ((mkSe x.2 x.1).1.1.2.2.map encI)), (1000003, .dp 72 7 ((mkSe x.2 x.1).1.2.1.map encMach)), (1000004, .sl 9 1 ((mkSe x.2 x.1).2.2.1.2.1.map encS))])
section
attribute [local go_sem] eSe mkSe pcI rgI seI
attribute [local irreducible] shMach shPc
noncomputable def cxMsess : Cx := { P := Try.prog, tys := tys, C := [(11, kmarkPc), (28, kmarkRg)], hty := tysOk, hC := COk.cons cmarkPc (COk.cons cmarkRg (COk.nil _)) }
theorem cxMsess_t : cxMsess.tys = tys := rfl
theorem cxMsess_c : cxMsess.C = [(11, kmarkPc), (28, kmarkRg)] := rfl
attribute [local go_sem] cxMsess_t cxMsess_c kmarkPc kmarkRg
set_option maxHeartbeats 4000000 in
theorem cmarkSe : Cn Try.prog 12 kmarkSe := by
  refine Cn.len Try.func12 (by kernel_rfl) rfl fun d x hd hx => ?_
  obtain ⟨⟨⟨⟨I, B, E⟩, T, tu, le, sl⟩, ⟨p, q, l, st⟩, ⟨cp, R, wr, lo⟩, mo, sp, fi⟩, k⟩ := x
  obtain ⟨⟨hpc, hR⟩, h0, h1⟩ := hx
  simp only at hR h0 h1 ⊢
  have hle : k ≤ ePc k ((I, B, E), T, tu, le, sl) ∧ ePc k ((I, B, E), T, tu, le, sl) ≤ k + 35184376283136 := ePc_le hpc k
  refine HoldsL.go (c := cxMsess) Try.func12 rfl Try.results12 Try.ntmps12 (by omega) (by simp) rfl (by simp <;> omega) (by simp [SV.owns2, SV.owns, SV.owns1]) (by simp) rfl rfl (by simp) ?_
  intro X0 M w0
  (repeat' (first | refine WP.seq ?_ | refine WP.block ?_ | ((first | refine WP.region ?_ | refine WP.condW ?_ | refine WP.ret ?_ | refine WP.exit ?_ | refine WP.skip ?_); simp only [go_sem, tyAll, Nat.reduceAdd, Nat.reduceLT, Nat.reduceLeDiff, Nat.reduceEqDiff, Nat.reduceMul, Nat.reduceSub, Nat.reduceGT, reduceIte, Int.reduceNeg, Int.reduceToNat]) |  refine And.intro ?_ ?_ | intro _))
  all_goals first | omega | exact hpc | skip
  all_goals trace_state
end
/-! ## held -/
def kheldSp : Ctr := pur (fun args => (spA args 0, aI args 1)) (fun x => [.agg [.sl 2 (x.1.1.map encImage), .sl 1 (x.1.2.1.map encI), .sl 1 (x.1.2.2.map encI)], .v (.int .i64 x.2)]) (fun x => shSp x.1 ∧ (0 ≤ x.2 ∧ x.2 ≤ 100000000000000) ∧ mkSp x.2 x.1 = x.1) (fun _ x => .v (.int .i64 (eSp x.2 x.1))) (fun _ _ => [])
section
attribute [local go_sem] eSp
noncomputable def cxHsp : Cx := { P := Try.prog, tys := tys, C := [(72, kheldImgS), (73, k19)], hty := tysOk, hC := COk.cons cheldImgS (COk.cons c19 (COk.nil _)) }
theorem cxHsp_t : cxHsp.tys = tys := rfl
theorem cxHsp_c : cxHsp.C = [(72, kheldImgS), (73, k19)] := rfl
attribute [local go_sem] cxHsp_t cxHsp_c kheldImgS k19
theorem cheldSp : Cn Try.prog 57 kheldSp := by
  refine Cn.pur Try.func57 (by kernel_rfl) rfl fun d x hx => ?_
  obtain ⟨⟨I, B, E⟩, k⟩ := x
  obtain ⟨⟨⟨hI, hIm⟩, hB, hE⟩, ⟨h0, h1⟩, hmk⟩ := hx
  simp only [mkSp, Prod.mk.injEq] at hI hIm hB hE h0 h1 hmk ⊢
  obtain ⟨m1, m2, m3⟩ := hmk
  have hcnt := cntImg_le hI hIm
  have g2 : (if B = marksI (k + (cntA cntImg I : Int)) B.length then k + (cntA cntImg I : Int) + (B.length : Int) else -1) = k + (cntA cntImg I : Int) + (B.length : Int) := if_pos m2.symm
  have g3 : (if E = marksI (k + (cntA cntImg I : Int) + (B.length : Int)) E.length then k + (cntA cntImg I : Int) + (B.length : Int) + (E.length : Int) else -1) = k + (cntA cntImg I : Int) + (B.length : Int) + (E.length : Int) := if_pos m3.symm
  refine Holds.go (c := cxHsp) Try.func57 rfl Try.results57 Try.ntmps57 (by omega) (by simp) rfl ?_
  intro X0 w0
  (repeat' (first | refine WP.seq ?_ | refine WP.block ?_ | ((first | refine WP.region ?_ | refine WP.condW ?_ | refine WP.ret ?_ | refine WP.exit ?_ | refine WP.skip ?_); simp only [go_sem, g2, g3, tyAll, Nat.reduceAdd, Nat.reduceLT, Nat.reduceLeDiff, Nat.reduceEqDiff, Nat.reduceMul, Nat.reduceSub, Nat.reduceGT, reduceIte, Int.reduceNeg, Int.reduceToNat]) |  refine And.intro ?_ ?_ | intro _))
  all_goals first | omega | exact hIm _ ‹_› | exact m1 | skip
  all_goals trace_state
end
def kheldPc : Ctr := pur (fun args => (pcA args 0, aI args 1)) (fun x => [.agg (aggPc x.1), .v (.int .i64 x.2)]) (fun x => shPc x.1 ∧ (0 ≤ x.2 ∧ x.2 ≤ 100000000000000) ∧ mkPc x.2 x.1 = x.1) (fun _ x => .v (.int .i64 (ePc x.2 x.1))) (fun _ _ => [])
section
attribute [local go_sem] ePc aggPc
attribute [local irreducible] shMach shSp
noncomputable def cxHpc : Cx := { P := Try.prog, tys := tys, C := [(57, kheldSp), (58, kheldMachS)], hty := tysOk, hC := COk.cons cheldSp (COk.cons cheldMachS (COk.nil _)) }
theorem cxHpc_t : cxHpc.tys = tys := rfl
theorem cxHpc_c : cxHpc.C = [(57, kheldSp), (58, kheldMachS)] := rfl
attribute [local go_sem] cxHpc_t cxHpc_c kheldSp kheldMachS
set_option maxHeartbeats 3000000 in
theorem cheldPc : Cn Try.prog 29 kheldPc := by
  refine Cn.pur Try.func29 (by kernel_rfl) rfl fun d x hx => ?_
  obtain ⟨⟨⟨I, B, E⟩, T, tu, le, sl⟩, k⟩ := x
  obtain ⟨⟨hsp, hT, hTs⟩, ⟨h0, h1⟩, hmk⟩ := hx
  have m1 : mkSp k (I, B, E) = (I, B, E) := congrArg Prod.fst hmk
  have m2 : mkA cntMach mrkMach (eSp k (I, B, E)) T = T := congrArg (fun y : PcX => y.2.1) hmk
  simp only at hT hTs h0 h1 ⊢
  have hle : k ≤ eSp k (I, B, E) ∧ eSp k (I, B, E) ≤ k + 17592190238720 := eSp_le hsp k
  have hcnt := cntMach_le hT hTs
  refine Holds.go (c := cxHpc) Try.func29 rfl Try.results29 Try.ntmps29 (by omega) (by simp) rfl ?_
  intro X0 w0
  (repeat' (first | refine WP.seq ?_ | refine WP.block ?_ | ((first | refine WP.region ?_ | refine WP.condW ?_ | refine WP.ret ?_ | refine WP.exit ?_ | refine WP.skip ?_); simp only [go_sem, tyAll, Nat.reduceAdd, Nat.reduceLT, Nat.reduceLeDiff, Nat.reduceEqDiff, Nat.reduceMul, Nat.reduceSub, Nat.reduceGT, reduceIte, Int.reduceNeg, Int.reduceToNat]) |  refine And.intro ?_ ?_ | intro _))
  all_goals first | omega | exact hTs _ ‹_› | exact hsp | exact m1 | exact m2 | skip
  all_goals trace_state
end
def kheldRg : Ctr := pur (fun args => (rgA args 0, aI args 1)) (fun x => [.agg (aggRg x.1), .v (.int .i64 x.2)]) (fun x => x.1.2.1.length ≤ 2097152 ∧ (0 ≤ x.2 ∧ x.2 ≤ 200000000000000) ∧ marksS x.2 x.1.2.1.length = x.1.2.1) (fun _ x => .v (.int .i64 (eRg x.2 x.1))) (fun _ _ => [])
section
attribute [local go_sem] eRg aggRg
noncomputable def cxHrg : Cx := { P := Try.prog, tys := tys, C := [(59, kheldS)], hty := tysOk, hC := COk.cons cheldS (COk.nil _) }
theorem cxHrg_t : cxHrg.tys = tys := rfl
theorem cxHrg_c : cxHrg.C = [(59, kheldS)] := rfl
attribute [local go_sem] cxHrg_t cxHrg_c kheldS
theorem cheldRg : Cn Try.prog 30 kheldRg := by
  refine Cn.pur Try.func30 (by kernel_rfl) rfl fun d x hx => ?_
  obtain ⟨⟨cp, R, wr, lo⟩, k⟩ := x
  obtain ⟨hR, ⟨h0, h1⟩, hmk⟩ := hx
  simp only at hR h0 h1 hmk ⊢
  have g : (if R = marksS k R.length then k + (R.length : Int) else -1) = k + (R.length : Int) := if_pos hmk.symm
  refine Holds.go (c := cxHrg) Try.func30 rfl Try.results30 Try.ntmps30 (by omega) (by simp) rfl ?_
  intro X0 w0
  (repeat' (first | refine WP.seq ?_ | refine WP.block ?_ | ((first | refine WP.region ?_ | refine WP.condW ?_ | refine WP.ret ?_ | refine WP.exit ?_ | refine WP.skip ?_); simp only [go_sem, g, tyAll, Nat.reduceAdd, Nat.reduceLT, Nat.reduceLeDiff, Nat.reduceEqDiff, Nat.reduceMul, Nat.reduceSub, Nat.reduceGT, reduceIte, Int.reduceNeg, Int.reduceToNat]) |  refine And.intro ?_ ?_ | intro _))
  all_goals first | omega | skip
  all_goals trace_state
end
def kheldSe : Ctr := pur (fun args => (seA args 0, aI args 1)) (fun x => [.agg (aggSe x.1), .v (.int .i64 x.2)]) (fun x => shSe x.1 ∧ (0 ≤ x.2 ∧ x.2 ≤ 100000000000000) ∧ mkSe x.2 x.1 = x.1) (fun _ x => .v (.int .i64 (eSe x.2 x.1))) (fun _ _ => [])
section
attribute [local go_sem] eSe aggSe aggPc aggRg
attribute [local irreducible] shMach shPc
noncomputable def cxHse : Cx := { P := Try.prog, tys := tys, C := [(29, kheldPc), (30, kheldRg)], hty := tysOk, hC := COk.cons cheldPc (COk.cons cheldRg (COk.nil _)) }
theorem cxHse_t : cxHse.tys = tys := rfl
theorem cxHse_c : cxHse.C = [(29, kheldPc), (30, kheldRg)] := rfl
attribute [local go_sem] cxHse_t cxHse_c kheldPc kheldRg
set_option maxHeartbeats 4000000 in
theorem cheldSe : Cn Try.prog 13 kheldSe := by
  refine Cn.pur Try.func13 (by kernel_rfl) rfl fun d x hx => ?_
  obtain ⟨⟨⟨⟨I, B, E⟩, T, tu, le, sl⟩, ⟨p, q, l, st⟩, ⟨cp, R, wr, lo⟩, mo, sp, fi⟩, k⟩ := x
  obtain ⟨⟨hpc, hR⟩, ⟨h0, h1⟩, hmk⟩ := hx
  have m1 : mkPc k ((I, B, E), T, tu, le, sl) = ((I, B, E), T, tu, le, sl) := congrArg Prod.fst hmk
  have m2 : marksS (ePc k ((I, B, E), T, tu, le, sl)) R.length = R := congrArg (fun y : SeX => y.2.2.1.2.1) hmk
  simp only at hR h0 h1 ⊢
  have hle : k ≤ ePc k ((I, B, E), T, tu, le, sl) ∧ ePc k ((I, B, E), T, tu, le, sl) ≤ k + 35184376283136 := ePc_le hpc k
  have hrg : eRg (ePc k ((I, B, E), T, tu, le, sl)) (cp, R, wr, lo) = ePc k ((I, B, E), T, tu, le, sl) + (R.length : Int) := rfl
  refine Holds.go (c := cxHse) Try.func13 rfl Try.results13 Try.ntmps13 (by omega) (by simp) rfl ?_
  intro X0 w0
  (repeat' (first | refine WP.seq ?_ | refine WP.block ?_ | ((first | refine WP.region ?_ | refine WP.condW ?_ | refine WP.ret ?_ | refine WP.exit ?_ | refine WP.skip ?_); simp only [go_sem, tyAll, Nat.reduceAdd, Nat.reduceLT, Nat.reduceLeDiff, Nat.reduceEqDiff, Nat.reduceMul, Nat.reduceSub, Nat.reduceGT, reduceIte, Int.reduceNeg, Int.reduceToNat]) |  refine And.intro ?_ ?_ | intro _))
  all_goals first | omega | exact hpc | exact m1 | exact m2 | skip
  all_goals trace_state
end
end
section
open Go.Vc
set_option linter.unusedSimpArgs false
set_option linter.unusedVariables false
set_option maxHeartbeats 1000000
set_option maxRecDepth 10000
attribute [local irreducible] Go.Vc.WP
attribute [local go_sem] cx0_t cx0_c
open Go.Pl
attribute [local go_sem] decI_enc decImage_enc spA decS_enc decMach_enc oneMach_f mach_eta pcA rgA seA decSymbol_enc tmA tm_eta
theorem szA_ok {n : Nat} {l : Int} (h : 0 ≤ szA n l) : (n : Int) ≤ l := by
  unfold szA at h
  split at h <;> omega
theorem szvImg_ok {x : Image} {l : Int} (h0 : 0 ≤ l) (h1 : l ≤ 1048576) (h : 0 ≤ szvImg x l) : x.code.size ≤ 1048576 ∧ x.symbols.length ≤ 1048576 ∧ ∀ y ∈ x.symbols, y.name.size ≤ 1048576 := by
  obtain ⟨a, b, c⟩ := szT_ok (szA_f _) h0 h
  have e := szA_ok a
  obtain ⟨f, g⟩ := szvSymbol_ok' c
  exact ⟨by omega, by omega, fun y hy => by have := g y hy; omega⟩
theorem szvImageS_ok {L : List Image} {l : Int} (h1 : l ≤ 1048576) (h : 0 ≤ szvImageS L l) : L.length ≤ 1048576 ∧ ∀ x ∈ L, x.code.size ≤ 1048576 ∧ x.symbols.length ≤ 1048576 ∧ ∀ y ∈ x.symbols, y.name.size ≤ 1048576 := by
  obtain ⟨a, b⟩ := szList_ok (by simp only [List.mem_map]; rintro _ ⟨x, _, rfl⟩; exact szvImg_f x) h
  rw [List.length_map] at a
  refine ⟨by omega, fun x hx => ?_⟩
  obtain ⟨r, r0, r1, r2⟩ := b _ (List.mem_map.2 ⟨x, hx, rfl⟩)
  exact szvImg_ok r0 (by omega) r2
theorem szvMachS_ok {L : List Mach} {l : Int} (h1 : l ≤ 1048576) (h : 0 ≤ szvMachS L l) : L.length ≤ 1048576 ∧ ∀ x ∈ L, x.stack.length ≤ 1048576 ∧ x.out.length ≤ 1048576 := by
  obtain ⟨a, b⟩ := szList_ok (by simp only [List.mem_map]; rintro _ ⟨x, _, rfl⟩; exact szvMach_f x) h
  rw [List.length_map] at a
  refine ⟨by omega, fun x hx => ?_⟩
  obtain ⟨r, r0, r1, r2⟩ := b _ (List.mem_map.2 ⟨x, hx, rfl⟩)
  obtain ⟨c, d, e⟩ := szT_ok (szA_f _) r0 r2
  have := szA_ok c
  have := szA_ok e
  omega
theorem szvStr_ok {L : List ByteArray} {l : Int} (h1 : l ≤ 1048576) (h : 0 ≤ szvStr L l) : L.length ≤ 1048576 ∧ ∀ x ∈ L, x.size ≤ 1048576 := by
  obtain ⟨a, b⟩ := szList_ok (by simp only [List.mem_map]; rintro _ ⟨x, _, rfl⟩; exact szA_f x.size) h
  rw [List.length_map] at a
  refine ⟨by omega, fun x hx => ?_⟩
  obtain ⟨r, r0, r1, r2⟩ := b _ (List.mem_map.2 ⟨x, hx, rfl⟩)
  have := szA_ok r2
  omega
theorem sum_le_mul : ∀ (L : List Nat) (m : Nat), (∀ n ∈ L, n ≤ m) → L.sum ≤ L.length * m
  | [], m, _ => by simp
  | n :: L, m, h => by
    have h1 := h n List.mem_cons_self
    have h2 := sum_le_mul L m fun k hk => h k (List.mem_cons_of_mem _ hk)
    rw [List.sum_cons, List.length_cons, Nat.add_mul]
    omega
theorem sizS_max {R : List ByteArray} (h : R.length ≤ 1048576) (hs : ∀ x ∈ R, x.size ≤ 1048576) : sizS R R.length ≤ 1099511627776 := by
  unfold sizS
  rw [List.take_length]
  have := sum_le_mul (R.map (·.size)) 1048576 (by simp only [List.mem_map]; rintro _ ⟨x, hx, rfl⟩; exact hs x hx)
  rw [List.length_map] at this
  exact Nat.le_trans this (Nat.le_trans (Nat.mul_le_mul_right _ h) (by decide))
theorem szvSe_ok {x : SeX} (h : 0 ≤ szvSe x 1048576) : preSe x ∧ shSe x := by
  obtain ⟨⟨⟨I, B, E⟩, T, tu, le, sl⟩, ⟨p, q, l, st⟩, ⟨cp, R, wr, lo⟩, mo, sp, fi⟩ := x
  obtain ⟨hP, hPl, hR⟩ := szT_ok (szvPc_f _) (by omega) h
  obtain ⟨hS, hSl, hT⟩ := szT_ok (szvSp_f _) (by omega) hP
  obtain ⟨hI, hIl, hBE⟩ := szT_ok (szvImageS_f _) (by omega) hS
  obtain ⟨hB, hBl, hE⟩ := szT_ok (szA_f _) (by omega) hBE
  obtain ⟨i1, i2⟩ := szvImageS_ok (by omega) hI
  have b1 := szA_ok hB
  have e1 := szA_ok hE
  obtain ⟨t1, t2⟩ := szvMachS_ok (by omega) hT
  obtain ⟨r1, r2⟩ := szvStr_ok (by omega) hR
  simp only at i1 i2 b1 e1 t1 t2 r1 r2 hIl hBl hSl hPl
  refine ⟨⟨⟨⟨⟨?_, fun i hi => ⟨?_, ?_, fun y hy => ?_⟩⟩, ?_, ?_⟩, ?_, fun m hm => ?_⟩, ?_, sizS_max r1 r2⟩, ⟨⟨⟨?_, fun i hi => ?_⟩, ?_, ?_⟩, t1, fun m hm => ⟨?_, ?_⟩⟩, ?_⟩
  all_goals try simp only
  · omega
  · have := (i2 i hi).1; omega
  · have := (i2 i hi).2.1; omega
  · have := (i2 i hi).2.2 y hy; omega
  · omega
  · omega
  · omega
  · have := (t2 m hm).1; omega
  · omega
  · omega
  · have := (i2 i hi).2.1; omega
  · omega
  · omega
  · have := (t2 m hm).1; omega
  · have := (t2 m hm).2; omega
  · omega
section
attribute [local go_sem] aggSe
attribute [local irreducible] bigSe preSe shSe
noncomputable def cxSeL : Cx := { P := Try.prog, tys := tys, C := [(9, kqSe), (17, kSeOk), (21, kSeOk)], hty := tysOk, hC := COk.cons cqSe (COk.cons cSeOkS (COk.cons cSeOkI (COk.nil _))) }
theorem cxSeL_t : cxSeL.tys = tys := rfl
theorem cxSeL_c : cxSeL.C = [(9, kqSe), (17, kSeOk), (21, kSeOk)] := rfl
attribute [local go_sem] cxSeL_t cxSeL_c kqSe kSeOk
set_option maxHeartbeats 4000000 in
end
end
section
open Go.Vc
set_option linter.unusedSimpArgs false
set_option linter.unusedVariables false
set_option maxHeartbeats 1000000
set_option maxRecDepth 10000
attribute [local irreducible] Go.Vc.WP
attribute [local go_sem] cx0_t cx0_c
def flf5a92dc373 : List Go.Vc.Fp := [⟨[4], [], [], [10, 12, 1012, 2012, 3012], [], []⟩, ⟨[11], [0], [], [10], [], [12, 1012, 2012, 3012]⟩, ⟨[5], [], [], [10, 12, 1012, 2012, 3012], [], []⟩, ⟨[2], [], [], [10, 12, 1012, 2012, 3012], [], []⟩, ⟨[14], [3], [], [10, 12, 1012, 2012, 3012], [], []⟩, ⟨[3], [], [], [10, 12, 1012, 2012, 3012], [], []⟩, ⟨[12, 13, 15, 16], [0, 1, 2, 3, 4, 5], [], [10], [], []⟩, ⟨[], [], [], [12, 1012, 2012, 3012], [], [10]⟩, ⟨[], [0, 1, 2, 3, 4, 5, 6, 7], [], [], [], []⟩]
attribute [local go_sem] flf5a92dc373
attribute [local go_sem] decI_enc decImage_enc spA decS_enc decMach_enc oneMach_f mach_eta pcA rgA seA decSymbol_enc tmA tm_eta
theorem Holds.reobs {P : Program} {f : FuncId} {args : List SV} {res : SV} {robs robs' : List (Nat × Ob)} (h : Holds P f args res robs)
    (hk : ∀ id ob', lk id robs' = some ob' → ∃ ob, lk id robs = some ob ∧ ∀ (w : World) (X : Nat → Prop) (β : Nat → BV) (v : BV), ObR w X β v ob → ObR w X β v ob') : Holds P f args res robs' := by
  intro w X vs hG hX hl ha
  refine (h w X vs hG hX hl ha).mono fun en w' ⟨v, β, he, hb, hβ, hR, hO, hn⟩ => ?_
  have hXX : ∀ b, XX X β robs' b → XX X β robs b := fun b hx => by
    rcases hx with hx | ⟨id, ob', hi, hf⟩
    · exact .inl hx
    · obtain ⟨ob, h1, _⟩ := hk id ob' hi
      exact .inr ⟨id, ob, h1, hf⟩
  have hS : Same (XX X β robs) w' w' := ⟨Nat.le_refl _, fun _ _ _ => rfl⟩
  refine ⟨v, β, he, hb, hβ, hR.mono hS fun b _ hx => hXX b hx, ⟨fun id ob' hi => ?_, fun i j oi oj b hi hj => ?_⟩, fun id ob' b hi hf => ?_⟩
  · obtain ⟨ob, h1, h2⟩ := hk id ob' hi
    exact (h2 _ _ _ _ (hO.1 id ob h1)).mono ⟨Nat.le_refl _, fun _ _ _ => rfl⟩ (fun b _ hx => hXX b hx) (fun _ _ => rfl)
  · obtain ⟨o1, h1, _⟩ := hk i oi hi
    obtain ⟨o2, h2, _⟩ := hk j oj hj
    exact hO.2 i j o1 o2 b h1 h2
  · obtain ⟨ob, h1, _⟩ := hk id ob' hi
    exact hn id ob b h1 hf
theorem isV_nil {e s : Nat} : (Ob.sl e s []).isV ↔ True := iff_true_intro (by intro r hr; cases hr)
def zeSe : SeX := ((([], [], []), [], 0, 0, 0), ⟨0, 0, 0, 0⟩, (0, [], 0, 0), 0, 0, 0)
def rawS (x : PcX) (t : Tm) (cap most : Int) : SeX := (x, t, (cap, [], 0, 0), most, 0, 0)
def newS (x : PcX) (t : Tm) (cap most : Int) : SeX := if sessOk (rawS x t cap most) = true then rawS x t cap most else zeSe
def ownSe (d : Nat) (G : SeX) : List SV := [.own d, .own (d + 1000), .own (d + 2000), .own (d + 3000), .v (.int .i64 G.1.2.2.1), .v (.int .i64 G.1.2.2.2.1), .v (.int .i64 G.1.2.2.2.2), .v (.int .i64 G.2.1.period), .v (.int .i64 G.2.1.spread), .v (.int .i64 G.2.1.left), .v (.int .i64 G.2.1.state),
  .v (.int .i64 G.2.2.1.1), .own (d + 4000), .v (.int .i64 G.2.2.1.2.2.1), .v (.int .i64 G.2.2.1.2.2.2), .v (.int .i64 G.2.2.2.1), .v (.int .i64 G.2.2.2.2.1), .v (.int .i64 G.2.2.2.2.2)]
def obSe (d : Nat) (G : SeX) : List (Nat × Ob) := [(d, .dp 93 2 (G.1.1.1.map encImage)), (d + 1000, .sl 3 1 (G.1.1.2.1.map encI)), (d + 2000, .sl 3 1 (G.1.1.2.2.map encI)), (d + 3000, .dp 72 7 (G.1.2.1.map encMach)), (d + 4000, .sl 9 1 (G.2.2.1.2.1.map encS))]
def obSe0 (d : Nat) : List (Nat × Ob) := [(d, .sl 93 2 []), (d + 1000, .sl 3 1 []), (d + 2000, .sl 3 1 []), (d + 3000, .sl 72 7 []), (d + 4000, .sl 9 1 [])]
abbrev NsX := PcX × Tm × Int × Int
def aNs (x : NsX) : List SV := [.agg (aggPc x.1), .agg (aggTm x.2.1), .v (.int .i64 x.2.2.1), .v (.int .i64 x.2.2.2)]
def preNs (x : NsX) : Prop := preSe (rawS x.1 x.2.1 x.2.2.1 x.2.2.2) ∧ shPc x.1
def kNewS0 : Ctr := pur (fun args => ((pcA args 0, tmA args 1, aI args 2, aI args 3) : NsX)) aNs preNs
  (fun d x => .tup [.agg (ownSe d (newS x.1 x.2.1 x.2.2.1 x.2.2.2)), .v (.bool (sessOk (rawS x.1 x.2.1 x.2.2.1 x.2.2.2)))]) (fun d x => if sessOk (rawS x.1 x.2.1 x.2.2.1 x.2.2.2) = true then obSe d (rawS x.1 x.2.1 x.2.2.1 x.2.2.2) else obSe0 d)
def kNewS : Ctr := pur (fun args => ((pcA args 0, tmA args 1, aI args 2, aI args 3) : NsX)) aNs preNs
  (fun d x => .tup [.agg (ownSe d (newS x.1 x.2.1 x.2.2.1 x.2.2.2)), .v (.bool (sessOk (rawS x.1 x.2.1 x.2.2.1 x.2.2.2)))]) (fun d x => obSe d (newS x.1 x.2.1 x.2.2.1 x.2.2.2))
theorem Cn.nsOf {f : FuncId} (h : Cn Try.prog f kNewS0) : Cn Try.prog f kNewS := ⟨h.call, fun d args ha => Holds.reobs (h.holds d args ha) (fun id ob' hi => by
    simp only [kNewS, pur, newS] at hi
    simp only [kNewS0, pur]
    split at hi
    · rename_i hok
      rw [if_pos hok]
      exact ⟨ob', hi, fun _ _ _ _ h => h⟩
    · rename_i hok
      rw [if_neg hok]
      simp only [obSe, obSe0, zeSe, List.map_nil, lk] at hi ⊢
      have nv : ∀ (e s : Nat) (w : World) (X : Nat → Prop) (β : Nat → BV) (v : BV), ObR w X β v (.sl e s []) → ObR w X β v (.dp e s []) := fun e s w X β v hO => hO.sl_dp fun r hr => by cases hr
      split at hi
      · rename_i he; cases hi; exact ⟨_, by simp [*], fun w X β v hO => nv _ _ w X β v hO⟩
      · split at hi
        · cases hi; exact ⟨_, by simp [*], fun _ _ _ _ h => h⟩
        · split at hi
          · cases hi; exact ⟨_, by simp [*], fun _ _ _ _ h => h⟩
          · split at hi
            · cases hi; exact ⟨_, by simp [*], fun w X β v hO => nv _ _ w X β v hO⟩
            · split at hi
              · cases hi; exact ⟨_, by simp [*], fun _ _ _ _ h => h⟩
              · cases hi), fun _ _ _ h => h.elim⟩
/-- a session whose ring holds no list yet -/
def aggSeN (x : NsX) : List SV := [.sl 2 (x.1.1.1.map encImage), .sl 1 (x.1.1.2.1.map encI), .sl 1 (x.1.1.2.2.map encI), .sl 7 (x.1.2.1.map encMach), .v (.int .i64 x.1.2.2.1), .v (.int .i64 x.1.2.2.2.1), .v (.int .i64 x.1.2.2.2.2), .v (.int .i64 x.2.1.period), .v (.int .i64 x.2.1.spread), .v (.int .i64 x.2.1.left), .v (.int .i64 x.2.1.state),
  .v (.int .i64 x.2.2.1), .v (.slice none 0 0), .v (.int .i64 0), .v (.int .i64 0), .v (.int .i64 x.2.2.2), .v (.int .i64 0), .v (.int .i64 0)]
def seNA (args : List SV) : NsX := match (args[0]? : Option SV) with
  | some (.agg [.sl _ a, .sl _ b, .sl _ c, .sl _ t, .v (.int _ x), .v (.int _ y), .v (.int _ z), .v (.int _ p), .v (.int _ q), .v (.int _ l), .v (.int _ st), .v (.int _ cp), _, _, _, .v (.int _ m), _, _]) => (((decImage a, decI b, decI c), decMach t, x, y, z), ⟨p, q, l, st⟩, cp, m)
  | _ => ((([], [], []), [], 0, 0, 0), ⟨0, 0, 0, 0⟩, 0, 0)
def kSeOkN : Ctr := pur seNA (fun x => [.agg (aggSeN x)]) (fun x => preSe (rawS x.1 x.2.1 x.2.2.1 x.2.2.2)) (fun _ x => .v (.bool (sessOk (rawS x.1 x.2.1 x.2.2.1 x.2.2.2)))) (fun _ _ => [])
theorem Holds.argImp {P : Program} {f : FuncId} {args args' : List SV} {res : SV} {robs : List (Nat × Ob)} (h : Holds P f args' res robs) (hl : args'.length = args.length)
    (hi : ∀ (w : World) (X : Nat → Prop) (β : Nat → BV) (i : Nat) (c' : SV) (u : Value), args'[i]? = some c' → (∃ c, args[i]? = some c ∧ R w X β c u) → R w X β c' u) : Holds P f args res robs := by
  intro w X vs hG hX hvl ha
  refine h w X vs hG hX (hvl.trans hl.symm) fun i c' u hc' hu => hi w X _ i c' u hc' ?_
  have hlt : i < args.length := by rw [← hl]; exact (List.getElem?_eq_some_iff.1 hc').1
  have hc : args[i]? = some (args[i]'hlt) := List.getElem?_eq_getElem hlt
  exact ⟨_, hc, ha i _ u hc hu⟩
theorem cSeOkN {f : FuncId} (h : Cn Try.prog f kSeOk) : Cn Try.prog f kSeOkN := ⟨h.call, fun d args ha => by
    obtain ⟨he, hpre⟩ := ha
    rw [he]
    generalize seNA args = x at hpre he
    show Holds Try.prog f [.agg (aggSeN x)] (kSeOkN.pure d [.agg (aggSeN x)]).2.1 []
    have e1 : seNA [.agg (aggSeN x)] = x := by simp only [seNA, aggSeN, List.getElem?_cons_zero, decImage_enc, decI_enc, decMach_enc]
    have e2 : seA [.agg (aggSe (rawS x.1 x.2.1 x.2.2.1 x.2.2.2))] 0 = rawS x.1 x.2.1 x.2.2.1 x.2.2.2 := by simp only [seA, aggSe, rawS, List.getElem?_cons_zero, decImage_enc, decI_enc, decMach_enc, decS_enc]
    have hh := h.holds d [.agg (aggSe (rawS x.1 x.2.1 x.2.2.1 x.2.2.2))] ⟨by show _ = [SV.agg (aggSe (seA [.agg (aggSe (rawS x.1 x.2.1 x.2.2.1 x.2.2.2))] 0))]; rw [e2], by show preSe (seA [.agg (aggSe (rawS x.1 x.2.1 x.2.2.1 x.2.2.2))] 0); rw [e2]; exact hpre⟩
    have hr : (kSeOk.pure d [.agg (aggSe (rawS x.1 x.2.1 x.2.2.1 x.2.2.2))]).2.1 = (kSeOkN.pure d [.agg (aggSeN x)]).2.1 := by
      show SV.v (.bool (sessOk (seA [.agg (aggSe (rawS x.1 x.2.1 x.2.2.1 x.2.2.2))] 0))) = SV.v (.bool (sessOk (rawS (seNA [.agg (aggSeN x)]).1 _ _ _)))
      rw [e2, e1]
    rw [← hr]
    refine Holds.argImp hh rfl fun w X β i c' u hc' ⟨c, hc, hR⟩ => ?_
    match i, hc', hc with
    | 0, hc', hc =>
      simp only [List.getElem?_cons_zero, Option.some.injEq] at hc hc'
      subst hc hc'
      obtain ⟨us, rfl, hl, hk⟩ := hR.agg_inv
      refine .agg (by rw [← hl]; rfl) fun k c u hc hu => ?_
      by_cases h12 : k = 12
      · subst h12
        have hc2 : SV.sl 1 [] = c := by simpa [aggSe, rawS] using hc
        subst hc2
        have := (hk 12 (.v (.slice none 0 0)) u rfl hu).v_inv
        subst this
        exact .p (.nil 1 _ _)
      · refine hk k c u ?_ hu
        rw [← hc]
        match k, h12 with
        | 0, _ | 1, _ | 2, _ | 3, _ | 4, _ | 5, _ | 6, _ | 7, _ | 8, _ | 9, _ | 10, _ | 11, _ | 13, _ | 14, _ | 15, _ | 16, _ | 17, _ => rfl
        | (n + 18), _ => rfl
    | (i + 1), hc', hc => simp at hc', fun _ _ _ h => h.elim⟩
theorem cSeOkIN : Cn Try.prog 21 kSeOkN := cSeOkN cSeOkI
theorem cSeOkSN : Cn Try.prog 17 kSeOkN := cSeOkN cSeOkS
section
attribute [local go_sem] aggSe aggPc aggTm aggRg ownSe aggSeN seNA rawS
attribute [local irreducible] shMach shPc preSe
noncomputable def cxNsI : Cx := { P := Try.prog, tys := tys, C := [(20, ktoPcD), (21, kSeOkN)], hty := tysOk, hC := COk.cons ccpPcI (COk.cons cSeOkIN (COk.nil _)) }
theorem cxNsI_t : cxNsI.tys = tys := rfl
theorem cxNsI_c : cxNsI.C = [(20, ktoPcD), (21, kSeOkN)] := rfl
attribute [local go_sem] cxNsI_t cxNsI_c ktoPcD kSeOkN
set_option maxHeartbeats 4000000 in
theorem hNewSIT (d : Nat) (I : List Image) (B E : List Int) (T : List Mach) (tu le sl p q l st cap most : Int) (hpre : preSe (((I, B, E), T, tu, le, sl), ⟨p, q, l, st⟩, (cap, [], 0, 0), most, 0, 0)) (hsh : shPc ((I, B, E), T, tu, le, sl)) (hb : sessOk (((I, B, E), T, tu, le, sl), ⟨p, q, l, st⟩, (cap, [], 0, 0), most, 0, 0) = true) :
    Holds Try.prog 8 (aNs (((I, B, E), T, tu, le, sl), ⟨p, q, l, st⟩, cap, most)) (.tup [.agg (ownSe d (((I, B, E), T, tu, le, sl), ⟨p, q, l, st⟩, (cap, [], 0, 0), most, 0, 0)), .v (.bool true)]) (obSe d (((I, B, E), T, tu, le, sl), ⟨p, q, l, st⟩, (cap, [], 0, 0), most, 0, 0)) := by
  have hd0 : decS [] = [] := rfl
  have hm0 : ([] : List ByteArray).map encS = [] := rfl
  simp only [aNs, obSe]
  refine Holds.go (c := cxNsI) Try.func8 rfl Try.results8 Try.ntmps8 (by omega) (by simp) rfl ?_
  intro X0 w0
  (repeat' (first | refine WP.seq ?_ | refine WP.block ?_ | ((first | refine WP.region ?_ | refine WP.condW ?_ | refine WP.ret ?_ | refine WP.exit ?_ | refine WP.skip ?_); simp only [go_sem, hb, hd0, hm0, tyAll, Nat.reduceAdd, Nat.reduceLT, Nat.reduceLeDiff, Nat.reduceEqDiff, Nat.reduceMul, Nat.reduceSub, Nat.reduceGT, reduceIte, Int.reduceNeg, Int.reduceToNat]) | ((first | refine WP.flowW 8 flf5a92dc373 [10, 11, 12, 13, 14, 15, 16, 17] [10, 12, 1012, 2012, 3012] [] (by decide +kernel) (by kernel_rfl) (by kernel_rfl) (by kernel_rfl) ?_); simp only [go_sem, hb, hd0, hm0, tyAll, Nat.reduceAdd, Nat.reduceLT, Nat.reduceLeDiff, Nat.reduceEqDiff, Nat.reduceMul, Nat.reduceSub, Nat.reduceGT, reduceIte, Int.reduceNeg, Int.reduceToNat]) |  refine And.intro ?_ ?_ | intro _))
  all_goals first | omega | exact hsh | exact hpre | exact ⟨_, _, rfl, _, _, rfl, rfl⟩ | exact if_neg (by omega) | (rw [if_neg (by omega), if_neg (by omega)]; done) | (rw [if_neg (by omega), if_neg (by omega), if_neg (by omega)]; done) | (rw [if_neg (by omega), if_neg (by omega), if_neg (by omega), if_neg (by omega)]; done) | exact ⟨_, _, if_neg (by omega)⟩ | exact ⟨_, _, by rw [if_neg (by omega), if_neg (by omega)]⟩ | exact ⟨_, _, by rw [if_neg (by omega), if_neg (by omega), if_neg (by omega)]⟩ | exact ⟨_, _, by rw [if_neg (by omega), if_neg (by omega), if_neg (by omega), if_neg (by omega)]⟩ | skip
  all_goals trace_state
set_option maxHeartbeats 4000000 in
theorem hNewSIF (d : Nat) (I : List Image) (B E : List Int) (T : List Mach) (tu le sl p q l st cap most : Int) (hpre : preSe (((I, B, E), T, tu, le, sl), ⟨p, q, l, st⟩, (cap, [], 0, 0), most, 0, 0)) (hsh : shPc ((I, B, E), T, tu, le, sl)) (hb : sessOk (((I, B, E), T, tu, le, sl), ⟨p, q, l, st⟩, (cap, [], 0, 0), most, 0, 0) = false) :
    Holds Try.prog 8 (aNs (((I, B, E), T, tu, le, sl), ⟨p, q, l, st⟩, cap, most)) (.tup [.agg (ownSe d zeSe), .v (.bool false)]) (obSe0 d) := by
  have hd0 : decS [] = [] := rfl
  have hm0 : ([] : List ByteArray).map encS = [] := rfl
  simp only [aNs, obSe0, zeSe]
  refine Holds.go (c := cxNsI) Try.func8 rfl Try.results8 Try.ntmps8 (by omega) (by simp) rfl ?_
  intro X0 w0
  (repeat' (first | refine WP.seq ?_ | refine WP.block ?_ | ((first | refine WP.region ?_ | refine WP.condW ?_ | refine WP.ret ?_ | refine WP.exit ?_ | refine WP.skip ?_); simp only [go_sem, hb, hd0, hm0, tyAll, Nat.reduceAdd, Nat.reduceLT, Nat.reduceLeDiff, Nat.reduceEqDiff, Nat.reduceMul, Nat.reduceSub, Nat.reduceGT, reduceIte, Int.reduceNeg, Int.reduceToNat]) | ((first | refine WP.flowW 8 flf5a92dc373 [10, 11, 12, 13, 14, 15, 16, 17] [10, 12, 1012, 2012, 3012] [] (by decide +kernel) (by kernel_rfl) (by kernel_rfl) (by kernel_rfl) ?_); simp only [go_sem, hb, hd0, hm0, tyAll, Nat.reduceAdd, Nat.reduceLT, Nat.reduceLeDiff, Nat.reduceEqDiff, Nat.reduceMul, Nat.reduceSub, Nat.reduceGT, reduceIte, Int.reduceNeg, Int.reduceToNat]) |  refine And.intro ?_ ?_ | intro _))
  all_goals first | omega | exact hsh | exact hpre | exact ⟨_, _, rfl, _, _, rfl, rfl⟩ | exact ⟨_, _, rfl⟩ | exact if_neg (by omega) | (rw [if_neg (by omega), if_neg (by omega)]; done) | (rw [if_neg (by omega), if_neg (by omega), if_neg (by omega)]; done) | (rw [if_neg (by omega), if_neg (by omega), if_neg (by omega), if_neg (by omega)]; done) | exact ⟨_, _, if_neg (by omega)⟩ | exact ⟨_, _, by rw [if_neg (by omega), if_neg (by omega)]⟩ | exact ⟨_, _, by rw [if_neg (by omega), if_neg (by omega), if_neg (by omega)]⟩ | exact ⟨_, _, by rw [if_neg (by omega), if_neg (by omega), if_neg (by omega), if_neg (by omega)]⟩ | skip
  all_goals trace_state
theorem cNewSI0 : Cn Try.prog 8 kNewS0 := by
  refine Cn.pur Try.func8 (by kernel_rfl) rfl fun d x hx => ?_
  obtain ⟨⟨⟨I, B, E⟩, T, tu, le, sl⟩, ⟨p, q, l, st⟩, cap, most⟩ := x
  obtain ⟨hpre, hsh⟩ := hx
  have hraw : rawS ((I, B, E), T, tu, le, sl) ⟨p, q, l, st⟩ cap most = (((I, B, E), T, tu, le, sl), ⟨p, q, l, st⟩, (cap, [], 0, 0), most, 0, 0) := rfl
  cases hb : sessOk (((I, B, E), T, tu, le, sl), ⟨p, q, l, st⟩, (cap, [], 0, 0), most, 0, 0) with
  | true =>
    have hn : newS ((I, B, E), T, tu, le, sl) ⟨p, q, l, st⟩ cap most = (((I, B, E), T, tu, le, sl), ⟨p, q, l, st⟩, (cap, [], 0, 0), most, 0, 0) := by unfold newS; rw [hraw, if_pos hb]
    simp only [hn, hraw, hb, if_true]
    exact hNewSIT d I B E T tu le sl p q l st cap most hpre hsh hb
  | false =>
    have hn : newS ((I, B, E), T, tu, le, sl) ⟨p, q, l, st⟩ cap most = zeSe := by unfold newS; rw [hraw, hb]; rfl
    simp only [hn, hraw, hb, Bool.false_eq_true, if_false]
    exact hNewSIF d I B E T tu le sl p q l st cap most hpre hsh hb
end
section
attribute [local go_sem] aggSe aggPc aggTm aggRg ownSe aggSeN seNA rawS
attribute [local irreducible] shMach shPc preSe
noncomputable def cxNsS : Cx := { P := Try.prog, tys := tys, C := [(16, ktoPcD), (17, kSeOkN)], hty := tysOk, hC := COk.cons ccpPcS (COk.cons cSeOkSN (COk.nil _)) }
theorem cxNsS_t : cxNsS.tys = tys := rfl
theorem cxNsS_c : cxNsS.C = [(16, ktoPcD), (17, kSeOkN)] := rfl
attribute [local go_sem] cxNsS_t cxNsS_c ktoPcD kSeOkN
set_option maxHeartbeats 4000000 in
theorem hNewSST (d : Nat) (I : List Image) (B E : List Int) (T : List Mach) (tu le sl p q l st cap most : Int) (hpre : preSe (((I, B, E), T, tu, le, sl), ⟨p, q, l, st⟩, (cap, [], 0, 0), most, 0, 0)) (hsh : shPc ((I, B, E), T, tu, le, sl)) (hb : sessOk (((I, B, E), T, tu, le, sl), ⟨p, q, l, st⟩, (cap, [], 0, 0), most, 0, 0) = true) :
    Holds Try.prog 5 (aNs (((I, B, E), T, tu, le, sl), ⟨p, q, l, st⟩, cap, most)) (.tup [.agg (ownSe d (((I, B, E), T, tu, le, sl), ⟨p, q, l, st⟩, (cap, [], 0, 0), most, 0, 0)), .v (.bool true)]) (obSe d (((I, B, E), T, tu, le, sl), ⟨p, q, l, st⟩, (cap, [], 0, 0), most, 0, 0)) := by
  have hd0 : decS [] = [] := rfl
  have hm0 : ([] : List ByteArray).map encS = [] := rfl
  simp only [aNs, obSe]
  refine Holds.go (c := cxNsS) Try.func5 rfl Try.results5 Try.ntmps5 (by omega) (by simp) rfl ?_
  intro X0 w0
  (repeat' (first | refine WP.seq ?_ | refine WP.block ?_ | ((first | refine WP.region ?_ | refine WP.condW ?_ | refine WP.ret ?_ | refine WP.exit ?_ | refine WP.skip ?_); simp only [go_sem, hb, hd0, hm0, tyAll, Nat.reduceAdd, Nat.reduceLT, Nat.reduceLeDiff, Nat.reduceEqDiff, Nat.reduceMul, Nat.reduceSub, Nat.reduceGT, reduceIte, Int.reduceNeg, Int.reduceToNat]) | ((first | refine WP.flowW 8 flf5a92dc373 [10, 11, 12, 13, 14, 15, 16, 17] [10, 12, 1012, 2012, 3012] [] (by decide +kernel) (by kernel_rfl) (by kernel_rfl) (by kernel_rfl) ?_); simp only [go_sem, hb, hd0, hm0, tyAll, Nat.reduceAdd, Nat.reduceLT, Nat.reduceLeDiff, Nat.reduceEqDiff, Nat.reduceMul, Nat.reduceSub, Nat.reduceGT, reduceIte, Int.reduceNeg, Int.reduceToNat]) |  refine And.intro ?_ ?_ | intro _))
  all_goals first | omega | exact hsh | exact hpre | exact ⟨_, _, rfl, _, _, rfl, rfl⟩ | exact if_neg (by omega) | (rw [if_neg (by omega), if_neg (by omega)]; done) | (rw [if_neg (by omega), if_neg (by omega), if_neg (by omega)]; done) | (rw [if_neg (by omega), if_neg (by omega), if_neg (by omega), if_neg (by omega)]; done) | exact ⟨_, _, if_neg (by omega)⟩ | exact ⟨_, _, by rw [if_neg (by omega), if_neg (by omega)]⟩ | exact ⟨_, _, by rw [if_neg (by omega), if_neg (by omega), if_neg (by omega)]⟩ | exact ⟨_, _, by rw [if_neg (by omega), if_neg (by omega), if_neg (by omega), if_neg (by omega)]⟩ | skip
  all_goals trace_state
set_option maxHeartbeats 4000000 in
theorem hNewSSF (d : Nat) (I : List Image) (B E : List Int) (T : List Mach) (tu le sl p q l st cap most : Int) (hpre : preSe (((I, B, E), T, tu, le, sl), ⟨p, q, l, st⟩, (cap, [], 0, 0), most, 0, 0)) (hsh : shPc ((I, B, E), T, tu, le, sl)) (hb : sessOk (((I, B, E), T, tu, le, sl), ⟨p, q, l, st⟩, (cap, [], 0, 0), most, 0, 0) = false) :
    Holds Try.prog 5 (aNs (((I, B, E), T, tu, le, sl), ⟨p, q, l, st⟩, cap, most)) (.tup [.agg (ownSe d zeSe), .v (.bool false)]) (obSe0 d) := by
  have hd0 : decS [] = [] := rfl
  have hm0 : ([] : List ByteArray).map encS = [] := rfl
  simp only [aNs, obSe0, zeSe]
  refine Holds.go (c := cxNsS) Try.func5 rfl Try.results5 Try.ntmps5 (by omega) (by simp) rfl ?_
  intro X0 w0
  (repeat' (first | refine WP.seq ?_ | refine WP.block ?_ | ((first | refine WP.region ?_ | refine WP.condW ?_ | refine WP.ret ?_ | refine WP.exit ?_ | refine WP.skip ?_); simp only [go_sem, hb, hd0, hm0, tyAll, Nat.reduceAdd, Nat.reduceLT, Nat.reduceLeDiff, Nat.reduceEqDiff, Nat.reduceMul, Nat.reduceSub, Nat.reduceGT, reduceIte, Int.reduceNeg, Int.reduceToNat]) | ((first | refine WP.flowW 8 flf5a92dc373 [10, 11, 12, 13, 14, 15, 16, 17] [10, 12, 1012, 2012, 3012] [] (by decide +kernel) (by kernel_rfl) (by kernel_rfl) (by kernel_rfl) ?_); simp only [go_sem, hb, hd0, hm0, tyAll, Nat.reduceAdd, Nat.reduceLT, Nat.reduceLeDiff, Nat.reduceEqDiff, Nat.reduceMul, Nat.reduceSub, Nat.reduceGT, reduceIte, Int.reduceNeg, Int.reduceToNat]) |  refine And.intro ?_ ?_ | intro _))
  all_goals first | omega | exact hsh | exact hpre | exact ⟨_, _, rfl, _, _, rfl, rfl⟩ | exact ⟨_, _, rfl⟩ | exact if_neg (by omega) | (rw [if_neg (by omega), if_neg (by omega)]; done) | (rw [if_neg (by omega), if_neg (by omega), if_neg (by omega)]; done) | (rw [if_neg (by omega), if_neg (by omega), if_neg (by omega), if_neg (by omega)]; done) | exact ⟨_, _, if_neg (by omega)⟩ | exact ⟨_, _, by rw [if_neg (by omega), if_neg (by omega)]⟩ | exact ⟨_, _, by rw [if_neg (by omega), if_neg (by omega), if_neg (by omega)]⟩ | exact ⟨_, _, by rw [if_neg (by omega), if_neg (by omega), if_neg (by omega), if_neg (by omega)]⟩ | skip
  all_goals trace_state
theorem cNewSS0 : Cn Try.prog 5 kNewS0 := by
  refine Cn.pur Try.func5 (by kernel_rfl) rfl fun d x hx => ?_
  obtain ⟨⟨⟨I, B, E⟩, T, tu, le, sl⟩, ⟨p, q, l, st⟩, cap, most⟩ := x
  obtain ⟨hpre, hsh⟩ := hx
  have hraw : rawS ((I, B, E), T, tu, le, sl) ⟨p, q, l, st⟩ cap most = (((I, B, E), T, tu, le, sl), ⟨p, q, l, st⟩, (cap, [], 0, 0), most, 0, 0) := rfl
  cases hb : sessOk (((I, B, E), T, tu, le, sl), ⟨p, q, l, st⟩, (cap, [], 0, 0), most, 0, 0) with
  | true =>
    have hn : newS ((I, B, E), T, tu, le, sl) ⟨p, q, l, st⟩ cap most = (((I, B, E), T, tu, le, sl), ⟨p, q, l, st⟩, (cap, [], 0, 0), most, 0, 0) := by unfold newS; rw [hraw, if_pos hb]
    simp only [hn, hraw, hb, if_true]
    exact hNewSST d I B E T tu le sl p q l st cap most hpre hsh hb
  | false =>
    have hn : newS ((I, B, E), T, tu, le, sl) ⟨p, q, l, st⟩ cap most = zeSe := by unfold newS; rw [hraw, hb]; rfl
    simp only [hn, hraw, hb, Bool.false_eq_true, if_false]
    exact hNewSSF d I B E T tu le sl p q l st cap most hpre hsh hb
end
theorem cNewSI : Cn Try.prog 8 kNewS := Cn.nsOf cNewSI0
theorem cNewSS : Cn Try.prog 5 kNewS := Cn.nsOf cNewSS0
end
end Go.Proofs.Ytoomncljmgcidaa
/-
  DERIVED. As WP.flowW, the lists that are sliced there first given up as lists of one's own.
-/
namespace Go.Vc
def St.fzS : St → List Nat → St
  | st, [] => st
  | st, s :: l => ((st.fzL (st.ev (.tmp s)).strip.ownId)).fzS l
theorem Sim.fzS {P : Program} {X0 : Nat → Prop} {M : Nat → BV → Prop} {w0 : World} {N : Nat} {β : Nat → BV} {a : Act} {w : World} (hA : Ap P X0 M w0) : ∀ (l : List Nat) {st : St}, Sim N X0 M w0 st β a w → Sim N X0 M w0 (st.fzS l) β a w
  | [], _, h => h
  | _ :: l, _, h => Sim.fzS hA l (h.fzL hA _)
theorem WP.flowZ {c : Cx} {N : Nat} {X0 : Nat → Prop} {M : Nat → BV → Prop} {w0 : World} {K : Exit → St → Prop} {id : Nat} {l : List Oper} {st : St} (zs : List Nat) (m : Nat) (fl : List Fp) (ds mks gs : List Nat) (hB : flowB l.toArray m fl = true)
    (hD : ((List.range m).all fun k => match dstAt l.toArray k with | some d => ds.contains d | none => false) = true)
    (hM : ((List.range m).all fun k => ((fpAt fl k).mks.all fun d => mks.contains d) && ((fpAt fl k).gn.all fun d => gs.contains d)) = true) (hm : c.P.follows .mixedOrders = true)
    (h : St.runG c.tys c.C N l.toArray fl ((st.fzS zs).clean ds mks) (l.take m) 0 [] fun acc => St.runR c.tys c.C N l.toArray (l.drop m) (((st.fzS zs).clean ds mks).final acc gs) (K .normal)) : WP c N X0 M w0 (.region id l.toArray true) st K := by
  intro hA β a w hs
  exact WP.flowW m fl ds mks gs hB hD hM hm h hA β a w (hs.fzS hA zs)
end Go.Vc

/-
  DERIVED. A region whose order is open: one of its value operations may be taken as soon as it can be.
-/
namespace Go.Vc
set_option linter.unusedVariables false
section
variable {P : Program} {Q : Exit → Act → World → Prop} {s q : Nat} {ops : Array Oper}
def behind (o : Oper) (q : Nat) : Oper := { o with after := o.after.push ⟨q, .data⟩ }
def addE (s q : Nat) (ops : Array Oper) : Array Oper := ops.modify s fun o => behind o q
theorem addE_get (i : Nat) : (addE s q ops)[i]? = (ops[i]?).map fun o => if i = s then behind o q else o := by
  unfold addE
  rw [Array.getElem?_modify]
  by_cases h : s = i
  · rw [if_pos h]; subst h; simp
  · rw [if_neg h]
    have : ¬ i = s := fun e => h e.symm
    simp [this]
theorem yielded_addE (tmps : Array Value) : yielded (addE s q ops) tmps = yielded ops tmps := by
  funext j
  unfold yielded
  rw [addE_get]
  cases ops[j]? with
  | none => rfl
  | some o =>
    simp only [Option.map_some, Option.bind_some]
    by_cases hj : j = s
    · rw [if_pos hj]; rfl
    · rw [if_neg hj]
theorem wpOp_addE {i : Nat} {K : Act → World → Prop} {a : Act} {w : World} (h : wpOp P (addE s q ops) Q i K a w) : wpOp P ops Q i K a w := by
  unfold wpOp at h ⊢
  rw [addE_get, yielded_addE] at h
  cases ho : ops[i]? with
  | none => rw [ho] at h; exact h
  | some o =>
    rw [ho] at h
    simp only [Option.map_some] at h ⊢
    by_cases hi : i = s
    · rw [if_pos hi] at h; exact h
    · rw [if_neg hi] at h; exact h
theorem ready_addE {i : Nat} {listed : Array Bool} : i ∈ Region.ready .any (addE s q ops) listed ↔ i ∈ Region.ready .any ops listed ∧ (i = s → listed.getD q false = true) := by
  rw [mem_ready', mem_ready', addE_get, show (addE s q ops).size = ops.size by unfold addE; rw [Array.size_modify]]
  constructor
  · rintro ⟨h1, h2, o', ho', h3⟩
    cases ho : ops[i]? with
    | none => rw [ho] at ho'; cases ho'
    | some o =>
      rw [ho] at ho'
      simp only [Option.map_some, Option.some.injEq] at ho'
      by_cases hi : i = s
      · rw [if_pos hi] at ho'
        subst ho'
        refine ⟨⟨h1, h2, o, rfl, fun e he hb => h3 e (by unfold behind; simp [he]) hb⟩, fun _ => h3 ⟨q, .data⟩ (by unfold behind; simp) rfl⟩
      · rw [if_neg hi] at ho'
        subst ho'
        exact ⟨⟨h1, h2, o, rfl, h3⟩, fun e => absurd e hi⟩
  · rintro ⟨⟨h1, h2, o, ho, h3⟩, h4⟩
    rw [ho]
    simp only [Option.map_some, Option.some.injEq]
    refine ⟨h1, h2, _, rfl, fun e he hb => ?_⟩
    by_cases hi : i = s
    · rw [if_pos hi] at he
      unfold behind at he
      simp only [Array.mem_push] at he
      rcases he with he | rfl
      · exact h3 e he hb
      · exact h4 hi
    · rw [if_neg hi] at he
      exact h3 e he hb

/-- what the place of q asks: s waits for all that q waits for, every other operation waits for q or is apart from it -/
structure EdgeOk (ops : Array Oper) (s q : Nat) (oq : Oper) : Prop where
  ne : s ≠ q
  at_q : ops[q]? = some oq
  sel : ∀ (j : Nat) (o : Oper) cs b, ops[j]? = some o → o.op ≠ .select cs b
  deps : ∀ os, ops[s]? = some os → ∀ e ∈ oq.after, Region.binds .any e = true → ∃ e' ∈ os.after, Region.binds .any e' = true ∧ e'.on = e.on
  apart : ∀ j oj, ops[j]? = some oj → j ≠ q → (∀ e ∈ oq.after, Region.binds .any e = true → e.on ≠ j) → (∀ e ∈ oj.after, Region.binds .any e = true → e.on ≠ q) → oq.apart ops oj = true
  guard : oq.guard = none
  pure : ∀ (a : Act) (w : World) (K : Act → World → Prop) (Q : Exit → Act → World → Prop), (∀ e a w, e ≠ .normal → ¬ Q e a w) → oq.wp P a w K Q → ∃ v, (∀ w, (execOp a.eval oq).run P w = .ok (.value v) w) ∧ K (a.put oq.dst v) w

theorem wpAny_edge {oq : Oper} (hE : EdgeOk (P := P) ops s q oq) (hQ : ∀ e a w, e ≠ .normal → ¬ Q e a w) : ∀ (fuel : Nat) (listed : Array Bool) (a : Act) (w : World), listed.size = ops.size → wpAny P .any (addE s q ops) Q fuel listed a w → wpAny P .any ops Q fuel listed a w := by
  have hq2 : ∀ {listed : Array Bool}, q ∈ Region.ready .any ops listed → q ∈ Region.ready .any (addE s q ops) listed := fun {listed} h => ready_addE.2 ⟨h, fun e => absurd e.symm hE.ne⟩
  have early : ∀ {listed : Array Bool} {i : Nat}, listed.size = ops.size → i ∈ Region.ready .any ops listed → i ∉ Region.ready .any (addE s q ops) listed → q ∈ Region.ready .any ops listed := fun {listed i} hsz h1 h2 => by
    have his : i = s := Classical.byContradiction fun hn => h2 (ready_addE.2 ⟨h1, fun e => absurd e hn⟩)
    subst his
    have hql : listed.getD q false = false := by
      cases hh : listed.getD q false with
      | true => exact absurd (ready_addE.2 ⟨h1, fun _ => hh⟩) h2
      | false => rfl
    obtain ⟨g1, g2, os, ho, g3⟩ := mem_ready'.1 h1
    have hqs : q < ops.size := (Array.getElem?_eq_some_iff.1 hE.at_q).1
    have hqt : listed.getD q true = false := by
      rw [Array.getD_eq_getD_getElem?, Array.getElem?_eq_getElem (by omega)] at hql ⊢
      exact hql
    refine mem_ready'.2 ⟨hqs, hqt, oq, hE.at_q, fun e he hb => ?_⟩
    obtain ⟨e', he', hb', hon⟩ := hE.deps os ho e he hb
    rw [← hon]
    exact g3 e' he' hb'
  intro fuel
  induction fuel with
  | zero =>
    intro listed a w hsz h
    refine ⟨?_, h.2⟩
    rcases hr : Region.ready .any ops listed with _ | ⟨i, l⟩
    · rfl
    · exfalso
      have hi : i ∈ Region.ready .any ops listed := by rw [hr]; simp
      have hn : ∀ j, j ∉ Region.ready .any (addE s q ops) listed := fun j hj => by rw [h.1] at hj; cases hj
      exact hn q (hq2 (early hsz hi (hn i)))
  | succ fuel ih =>
    intro listed a w hsz H
    by_cases hq : q ∈ Region.ready .any ops listed
    · have h1 := wpOp_addE (H.2 q (hq2 hq))
      unfold wpOp at h1
      rw [hE.at_q] at h1
      have hw : Region.wanted oq (yielded ops a.tmps) = true := by simp [Region.wanted, hE.guard]
      simp only [hw, if_true] at h1
      rcases h1 with h1 | ⟨_, x, y, h1⟩
      · obtain ⟨v, hrun, hK⟩ := hE.pure a w _ _ hQ h1
        exact wpAny_first hE.at_q hE.sel (fun c a w h => absurd h (hQ _ _ _ (by simp))) fuel listed a w (fun j oj hj hne hl hw' => hE.apart j oj hj hne (fun e he hb hj' => by
          obtain ⟨_, _, o2, ho2, h3⟩ := mem_ready'.1 hq
          rw [hE.at_q] at ho2
          obtain rfl := Option.some.inj ho2
          have h4 := h3 e he hb
          rw [hj'] at h4
          have hjs : j < ops.size := (Array.getElem?_eq_some_iff.1 hj).1
          rw [Array.getD_eq_getD_getElem?, Array.getElem?_eq_getElem (by omega)] at hl h4
          simp only [Option.getD_some] at hl h4
          rw [hl] at h4; cases h4) hw') hq (.inl ⟨hw, hrun⟩) (ih _ _ _ (by simpa using hsz) hK)
      · exact absurd h1 (hQ _ _ _ (by simp))
    · refine ⟨fun he => H.1 ?_, fun i hi => ?_⟩
      · rcases hr : Region.ready .any (addE s q ops) listed with _ | ⟨i, l⟩
        · rfl
        · have hi : i ∈ Region.ready .any (addE s q ops) listed := by rw [hr]; simp
          have := (ready_addE.1 hi).1
          rw [he] at this; cases this
      · have hi' : i ∈ Region.ready .any (addE s q ops) listed := Classical.byContradiction fun hn => hq (early hsz hi hn)
        exact wpOp_mono (fun a' w' h => ih _ _ _ (by simpa using hsz) h) (wpOp_addE (H.2 i hi'))
theorem pure_extract {oq : Oper} {x : Operand} {i : Nat} (ho : oq.op = .extract x i) (a : Act) (w : World) (K : Act → World → Prop) (Q : Exit → Act → World → Prop) (hQ : ∀ e a w, e ≠ .normal → ¬ Q e a w) (h : oq.wp P a w K Q) :
    ∃ v, (∀ w, (execOp a.eval oq).run P w = .ok (.value v) w) ∧ K (a.put oq.dst v) w := by
  unfold Oper.wp at h
  cases hx : a.eval x with
  | tuple us =>
    cases hu : us[i]? with
    | some v =>
      refine ⟨v, fun w => by simp [execOp, ho, hx, Instr.extract, hu], ?_⟩
      simpa [execOp, ho, hx, Instr.extract, hu, Oper.upon] using h
    | none => simp [execOp, ho, hx, Instr.extract, hu, Oper.upon, stuck] at h
  | _ => simp [execOp, ho, hx, Instr.extract, Oper.upon, stuck] at h
def isExtract : Op → Bool
  | .extract _ _ => true
  | _ => false
def isSelect : Op → Bool
  | .select _ _ => true
  | _ => false
def edgeB (ops : Array Oper) (s q : Nat) : Bool := s != q && match ops[q]?, ops[s]? with
  | some oq, some os => isExtract oq.op && oq.guard.isNone &&
    (oq.after.toList.all fun e => !Region.binds .any e || os.after.toList.any fun e' => Region.binds .any e' && e'.on == e.on) &&
    (List.range ops.size).all fun j => match ops[j]? with
      | some oj => !isSelect oj.op && (j == q || (oq.after.toList.any fun e => Region.binds .any e && e.on == j) || (oj.after.toList.any fun e => Region.binds .any e && e.on == q) || oq.apart ops oj)
      | none => true
  | _, _ => false
theorem edgeB_ok (h : edgeB ops s q = true) : ∃ oq, EdgeOk (P := P) ops s q oq := by
  unfold edgeB at h
  rw [Bool.and_eq_true] at h
  obtain ⟨h0, h⟩ := h
  split at h
  case h_2 => cases h
  case h_1 _ _ oq os hoq hos =>
    simp only [Bool.and_eq_true] at h
    obtain ⟨⟨⟨h1, h2⟩, h3⟩, h4⟩ := h
    have key : ∀ j oj, ops[j]? = some oj → isSelect oj.op = false ∧ (j = q ∨ (∃ e ∈ oq.after, Region.binds .any e = true ∧ e.on = j) ∨ (∃ e ∈ oj.after, Region.binds .any e = true ∧ e.on = q) ∨ oq.apart ops oj = true) := fun j oj hj => by
      have := List.all_eq_true.1 h4 j (List.mem_range.2 (Array.getElem?_eq_some_iff.1 hj).1)
      rw [hj] at this
      simp only [Bool.and_eq_true, Bool.not_eq_true', Bool.or_eq_true, beq_iff_eq, List.any_eq_true, Array.mem_toList_iff] at this
      refine ⟨this.1, ?_⟩
      rcases this.2 with ((h | h) | h) | h
      · exact .inl h
      · exact .inr (.inl h)
      · exact .inr (.inr (.inl h))
      · exact .inr (.inr (.inr h))
    refine ⟨oq, ⟨by simpa using h0, hoq, fun j o cs b hj hsel => ?_, fun os' hos' e he hb => ?_, fun j oj hj hne hd hw => ?_, by simpa using h2, ?_⟩⟩
    · have := (key j o hj).1
      rw [hsel] at this; cases this
    · obtain rfl := Option.some.inj (hos.symm.trans hos')
      have := List.all_eq_true.1 h3 e (by simpa using he)
      rw [hb] at this
      simp only [Bool.not_true, Bool.false_or, List.any_eq_true, Bool.and_eq_true, beq_iff_eq] at this
      obtain ⟨e', he', h5, h6⟩ := this
      exact ⟨e', by simpa using he', h5, h6⟩
    · rcases (key j oj hj).2 with h | ⟨e, he, hb, ho⟩ | ⟨e, he, hb, ho⟩ | h
      · exact absurd h hne
      · exact absurd ho (hd e he hb)
      · exact absurd ho (hw e he hb)
      · exact h
    · intro a w K Q hQ hh
      cases hop : oq.op with
      | extract x i => exact pure_extract hop a w K Q hQ hh
      | _ => rw [hop] at h1; cases h1
theorem upon_Q {o : Oper} {a : Act} {K : Act → World → Prop} {Q' Q : Exit → Act → World → Prop} (h : ∀ e a w, Q' e a w → Q e a w) {r : Result Next} (hh : o.upon P a K Q' r) : o.upon P a K Q r := by
  cases r with
  | ok n w' =>
    cases n <;> simp only [Oper.upon] at hh ⊢ <;> first
      | exact hh
      | exact Calls.mono hh fun e w'' he => by
          cases e with
          | returned v => exact he
          | panicked c => exact h _ _ _ he
          | outgrown => obtain ⟨x, y, hxy⟩ := he; exact ⟨x, y, h _ _ _ hxy⟩
  | halt x w' => cases x <;> simp only [Oper.upon] at hh ⊢ <;> first | exact h _ _ _ hh | exact hh.elim
theorem wpOp_Q {i : Nat} {a : Act} {w : World} {K K' : Act → World → Prop} {Q' Q : Exit → Act → World → Prop} (h : ∀ e a w, Q' e a w → Q e a w) (hK : ∀ a w, K' a w → K a w) (hh : wpOp P ops Q' i K' a w) : wpOp P ops Q i K a w := by
  have hh := wpOp_mono hK hh
  unfold wpOp at hh ⊢
  split
  · rename_i ho; rw [ho] at hh; exact hh
  · rename_i o ho
    rw [ho] at hh
    simp only at hh
    split
    · rename_i hw
      rw [if_pos hw] at hh
      rcases hh with hh | ⟨h1, x, y, h2⟩
      · exact .inl (upon_Q h hh)
      · exact .inr ⟨h1, x, y, h _ _ _ h2⟩
    · rename_i hw
      rw [if_neg hw] at hh
      exact hh
theorem wpAny_Q {Q' Q : Exit → Act → World → Prop} (h : ∀ e a w, Q' e a w → Q e a w) : ∀ (fuel : Nat) (listed : Array Bool) (a : Act) (w : World), wpAny P .any ops Q' fuel listed a w → wpAny P .any ops Q fuel listed a w
  | 0, _, _, _, hh => ⟨hh.1, h _ _ _ hh.2⟩
  | fuel + 1, _, _, _, hh => ⟨fun he => h _ _ _ (hh.1 he), fun i hi => wpOp_Q h (fun a' w' h' => wpAny_Q h fuel _ a' w' h') (hh.2 i hi)⟩
end
def addL : Nat → Nat → List Oper → List Oper
  | _, _, [] => []
  | 0, q, o :: l => behind o q :: l
  | s + 1, q, o :: l => o :: addL s q l
theorem addL_get : ∀ (s q : Nat) (l : List Oper) (i : Nat), (addL s q l)[i]? = (l[i]?).map fun o => if i = s then behind o q else o
  | _, _, [], i => by simp [addL]
  | 0, q, o :: l, 0 => by simp [addL]
  | 0, q, o :: l, i + 1 => by simp [addL]
  | s + 1, q, o :: l, 0 => by simp [addL]
  | s + 1, q, o :: l, i + 1 => by simp [addL, addL_get s q l i]
theorem addL_arr (s q : Nat) (l : List Oper) : (addL s q l).toArray = addE s q l.toArray := by
  apply Array.ext_getElem?
  intro i
  rw [addE_get]
  simp [addL_get]
section
variable {c : Cx} {N : Nat} {X0 : Nat → Prop} {M : Nat → BV → Prop} {w0 : World} {K : Exit → St → Prop}
def onlyN (K : Exit → St → Prop) : Exit → St → Prop
  | .normal, st => K .normal st
  | _, _ => False
theorem WP.flowE {id : Nat} {l : List Oper} {st : St} (s q : Nat) (zs : List Nat) (m : Nat) (fl : List Fp) (ds mks gs : List Nat) (hE : edgeB l.toArray s q = true) (hB : flowB (addL s q l).toArray m fl = true)
    (hD : ((List.range m).all fun k => match dstAt (addL s q l).toArray k with | some d => ds.contains d | none => false) = true)
    (hM : ((List.range m).all fun k => ((fpAt fl k).mks.all fun d => mks.contains d) && ((fpAt fl k).gn.all fun d => gs.contains d)) = true) (hm : c.P.follows .mixedOrders = true)
    (h : St.runG c.tys c.C N (addL s q l).toArray fl ((st.fzS zs).clean ds mks) ((addL s q l).take m) 0 [] fun acc => St.runR c.tys c.C N (addL s q l).toArray ((addL s q l).drop m) (((st.fzS zs).clean ds mks).final acc gs) (K .normal)) : WP c N X0 M w0 (.region id l.toArray true) st K := by
  intro hA β a w hs0
  have hs := Sim.fzS hA zs hs0
  generalize st.fzS zs = st at hs h
  have hD0 := flowB_ok hB
  obtain ⟨F, h1, h2⟩ := runF_acc _ _ _ (runF_of_runG _ _ _ h)
  have harr := addL_arr s q l
  have hlen : ((addL s q l).take m).length = m := by
    have := hD0.le
    simp at this ⊢
    omega
  rw [hlen] at h1
  simp only [List.nil_append, Nat.zero_add] at h1 h2
  have hcl0 : ∀ t x, lk t (st.clean ds mks).fr = some x → lk t st.fr = some x ∧ t ∉ ds ∧ ∀ d ∈ mks, x.kill d = x := fun t x hx => by
    obtain ⟨e1, e2⟩ := hide_fr hx
    obtain ⟨e3, e4⟩ := offK_lk e1
    exact ⟨e3, e4, e2⟩
  have hMk : ∀ k, k < m → (∀ d ∈ (fpAt fl k).mks, d ∈ mks) ∧ ∀ d ∈ (fpAt fl k).gn, d ∈ gs := fun k hk => by
    have := List.all_eq_true.1 hM k (List.mem_range.2 hk)
    simp only [Bool.and_eq_true, List.all_eq_true] at this
    exact ⟨fun d hd => List.contains_iff_mem.1 (this.1 d hd), fun d hd => List.contains_iff_mem.1 (this.2 d hd)⟩
  obtain ⟨oq, hEo⟩ := edgeB_ok (P := c.P) hE
  have hsz : (addL s q l).toArray.size = l.toArray.size := by rw [harr]; unfold addE; rw [Array.size_modify]
  refine wp_region_any hm (wpAny_Q (Q' := fun e a' w' => Ok N X0 M w0 (onlyN K e) a' w') (fun e a' w' hk => ?_) _ _ _ _ (wpAny_edge hEo (fun e a' w' hne hk => ?_) _ _ _ _ (by simp) ?_))
  · cases e with
    | normal => exact hk
    | _ => obtain ⟨_, _, hf, _⟩ := hk; exact hf.elim
  · cases e with
    | normal => exact hne rfl
    | _ => obtain ⟨_, _, hf, _⟩ := hk; exact hf.elim
  rw [← harr, ← hsz]
  refine (flow_head (c := c) (K := onlyN K) hA hD0 (base := st.clean ds mks) (F := F) (gs := gs) (fun k o hk ho => ?_) (fun t x hx => ⟨fun k hk e => ?_, fun k hk d hd => (hcl0 t x hx).2.2 d ((hMk k hk).1 d hd)⟩) (fun t ob hx k hk d hd => (hide_hp hx).2 d ((hMk k hk).1 d hd)) (fun k hk => (hMk k hk).2) ?_
    (addL s q l).toArray.size (Array.replicate (addL s q l).toArray.size false) (st.clean ds mks) β a _ (by simp) (fun j _ hj => ?_) ?_ (fun b hb hl => ?_) ?_ (fun t x hx _ => hx) (fun k hk hl => ?_) (fun t ob hx _ => hx) (fun k hk hl => ?_))
  · have : ((addL s q l).take m)[k]? = some o := by rw [List.getElem?_take_of_lt hk]; simpa using ho
    exact h2 k o this
  · have := List.all_eq_true.1 hD k (List.mem_range.2 hk)
    rw [e] at this
    exact (hcl0 t x hx).2.1 (List.contains_iff_mem.1 this)
  · exact h1
  · rw [Array.getD_eq_getD_getElem?, Array.getElem?_replicate]; split <;> rfl
  · have : (List.range (addL s q l).toArray.size).countP (fun j => !(Array.replicate (addL s q l).toArray.size false).getD j false) = (List.range (addL s q l).toArray.size).countP (fun _ => true) := by
      apply List.countP_congr
      intro j hj
      rw [Array.getD_eq_getD_getElem?, Array.getElem?_replicate]; split <;> simp
    rw [this]; simp
  · rw [Array.getD_eq_getD_getElem?, Array.getElem?_replicate] at hl
    split at hl <;> cases hl
  · exact (hs.grow ((Go.RowKit.Below.refl _ _).drew) (fun b _ hb => .inl hb) hs.x0).less (fun t x hx => (hcl0 t x hx).1) (fun t ob hx => (hide_hp hx).1)
  · rw [Array.getD_eq_getD_getElem?, Array.getElem?_replicate] at hl
    split at hl <;> cases hl
  · rw [Array.getD_eq_getD_getElem?, Array.getElem?_replicate] at hl
    split at hl <;> cases hl
end
end Go.Vc

namespace Go.Proofs.Ytoomncljmgcidaa
open Go.Vc
attribute [local go_sem] St.runR St.runW St.stepV offV St.step St.stepU St.stepG mkCond guardB St.prK St.pr St.prLen St.eff St.callE St.callD St.callF St.callL aI aB aS aR aC St.isM St.argL Ctr.pure Ctr.lend Ctr.move Ctr.isL Ctr.wri pur len lentBy St.lentV St.lent1 nthS argsR restOf obsR pairs swapL unObs backL St.resL erL SV.ren1 SV.up SV.up2 Ob.up St.fzL cellIds partIds St.intoRow SV.ownId St.fz SV.fz1 St.prep St.mvL St.mv SV.re1 rnOk St.prEq vals eqCells scEq Value.kd St.prStr St.prCut cutR St.bnd St.prMin St.bld isShift outL retL outJ oR oC oE oD SV.upq SV.isSl SV.shut St.deepK St.dpArg St.deepQ absC Ob.pl St.ev St.get St.put St.new St.kill SV.kill SV.kill1 Ob.kill St.app St.wrt St.rowsOf St.res St.killL lk er argsL SV.strip SV.need SV.share SV.share1 SV.owns SV.owns1 SV.owns2 SV.good SV.good1 SV.rok SV.rok1 SV.rok2 SV.isV SV.isV2 nodupN SV.cells SV.one SV.pur Ob.pb partsIn rowsIn splice cellsAt dstOk scal2 scal1 thenK blockK retK outK outs okC okL okA okT nilC nilL nilA nilT keepC keepL keepA keepT St.runG St.dltK St.least St.clean St.final St.hide offK badS badO SV.refs SV.leaf SV.leaf2 Ob.refs dlOk fpAt Go.Vc.cover tups SV.ofAgg St.out outC subL St.has rng wr Value.oneCell' Option.isSome_some Option.isSome_none List.nil_append Bool.false_eq_true List.map_cons List.map_nil List.all_cons List.all_nil List.length_cons List.length_nil List.drop_zero List.drop_succ_cons List.take_succ_cons List.take_zero List.drop_nil List.take_nil List.getElem?_cons_zero List.getElem?_cons_succ List.getElem?_nil List.cons_append List.nil_append List.append_nil List.append_assoc List.flatMap_cons List.flatMap_nil List.contains_cons List.contains_nil List.set_cons_zero List.set_cons_succ List.getElem?_toArray Option.getD_some Option.getD_none Option.map_some Option.map_none Option.bind_some Option.some.injEq Prod.mk.injEq if_true if_false true_and and_true and_self and_false false_and Bool.and_false Bool.false_and Bool.or_true Bool.true_or Bool.or_false Bool.false_or ne_eq not_true_eq_false not_false_eq_true decide_true decide_false List.mem_cons List.not_mem_nil List.filter_cons List.filter_nil List.any_cons List.any_nil List.isEmpty_nil List.isEmpty_cons Option.getD_none or_false false_or true_or or_true forall_eq_or_imp forall_eq reduceCtorEq exists_eq exists_eq' exists_eq_left' exists_eq_left exists_eq_right exists_eq_right' imp_self implies_true Bool.and_true Bool.true_and Bool.and_self beq_self_eq_true List.replicate_succ List.replicate_zero forall_const false_implies pickB_or pickB_and beqT beqF Int.toNat_natCast List.length_map List.length_replicate ge_iff_le gt_iff_lt decide_eq_true_eq decide_eq_false_iff_not Bool.and_eq_true Bool.or_eq_true Bool.not_eq_true' Bool.not_eq_false' condG List.toList_toArray Bool.or_eq_false_iff Bool.and_eq_false_iff Int.not_lt Int.not_le beq_iff_eq beq_eq_false_iff_ne bne_iff_ne bne_eq_false_iff_eq ne_eq Bool.not_true Bool.not_false exists_and_left
section
open Go.Vc
set_option linter.unusedSimpArgs false
set_option linter.unusedVariables false
set_option maxHeartbeats 1000000
set_option maxRecDepth 10000
attribute [local irreducible] Go.Vc.WP
attribute [local go_sem] cx0_t cx0_c
def flc19ebcf2e7 : List Go.Vc.Fp := [⟨[4], [], [], [10, 27, 32, 1027, 1032, 2027, 2032, 3027, 3032, 4032], [], []⟩, ⟨[26], [0], [], [10, 32, 1032, 2032, 3032, 4032], [], [27, 1027, 2027, 3027]⟩, ⟨[5], [], [], [10, 27, 32, 1027, 1032, 2027, 2032, 3027, 3032, 4032], [], []⟩, ⟨[28], [0, 1, 2], [], [10, 32, 1032, 2032, 3032, 4032], [], []⟩, ⟨[2], [], [], [10, 27, 32, 1027, 1032, 2027, 2032, 3027, 3032, 4032], [], []⟩, ⟨[3], [], [], [10, 27, 32, 1027, 1032, 2027, 2032, 3027, 3032, 4032], [], []⟩, ⟨[27, 29, 30, 31], [0, 1, 2, 3, 4, 5], [], [10], [], [32, 1032, 2032, 3032, 4032]⟩, ⟨[32], [0, 1, 2, 3, 4, 5, 6], [], [10], [], []⟩, ⟨[25], [0, 1, 2, 3, 4, 5, 6, 7], [], [10], [], []⟩, ⟨[25], [0, 1, 2, 3, 4, 5, 6, 7], [], [10], [], []⟩, ⟨[], [], [], [27, 32, 1027, 1032, 2027, 2032, 3027, 3032, 4032], [], [10]⟩, ⟨[], [0, 1, 2, 3, 4, 5, 6, 7, 8, 9, 10], [], [], [], []⟩, ⟨[], [0, 1, 2, 3, 4, 5, 6, 7, 8, 9, 10, 11], [], [], [], []⟩]
def flf55c352a46 : List Go.Vc.Fp := [⟨[12], [], [], [13, 43, 1043, 2043, 3043, 4043], [], []⟩, ⟨[5], [], [], [13, 43, 1043, 2043, 3043, 4043], [], []⟩, ⟨[39], [1], [], [13, 43, 1043, 2043, 3043, 4043], [], []⟩, ⟨[2], [], [], [13, 43, 1043, 2043, 3043, 4043], [], []⟩, ⟨[3], [], [], [13, 43, 1043, 2043, 3043, 4043], [], []⟩, ⟨[38, 40, 41, 42], [0, 1, 2, 3, 4], [], [13], [], [43, 1043, 2043, 3043, 4043]⟩, ⟨[43], [0, 1, 2, 3, 4, 5], [], [13], [], []⟩, ⟨[37], [0, 1, 2, 3, 4, 5, 6], [], [13], [], []⟩, ⟨[37], [0, 1, 2, 3, 4, 5, 6], [], [13], [], []⟩, ⟨[], [], [], [43, 1043, 2043, 3043, 4043], [], [13]⟩, ⟨[], [0, 1, 2, 3, 4, 5, 6, 7, 8, 9], [], [], [], []⟩, ⟨[], [0, 1, 2, 3, 4, 5, 6, 7, 8, 9, 10], [], [], [], []⟩]
def fl9c5fc6875f : List Go.Vc.Fp := [⟨[12], [], [], [57, 1057, 2057, 3057], [], []⟩, ⟨[4], [], [], [57, 1057, 2057, 3057], [], []⟩, ⟨[56], [1], [], [], [], [57, 1057, 2057, 3057]⟩, ⟨[], [0, 1, 2], [], [], [], []⟩, ⟨[], [0, 1, 2, 3], [], [], [], []⟩]
def fl1e3aaef9db : List Go.Vc.Fp := [⟨[4], [], [], [18, 89, 94, 1089, 1094, 2089, 2094, 3089, 3094, 4094], [], []⟩, ⟨[88], [0], [], [18, 94, 1094, 2094, 3094, 4094], [], [89, 1089, 2089, 3089]⟩, ⟨[5], [], [], [18, 89, 94, 1089, 1094, 2089, 2094, 3089, 3094, 4094], [], []⟩, ⟨[90], [0, 1, 2], [], [18, 94, 1094, 2094, 3094, 4094], [], []⟩, ⟨[2], [], [], [18, 89, 94, 1089, 1094, 2089, 2094, 3089, 3094, 4094], [], []⟩, ⟨[3], [], [], [18, 89, 94, 1089, 1094, 2089, 2094, 3089, 3094, 4094], [], []⟩, ⟨[89, 91, 92, 93], [0, 1, 2, 3, 4, 5], [], [18], [], [94, 1094, 2094, 3094, 4094]⟩, ⟨[94], [0, 1, 2, 3, 4, 5, 6], [], [18], [], []⟩, ⟨[87], [0, 1, 2, 3, 4, 5, 6, 7], [], [18], [], []⟩, ⟨[87], [0, 1, 2, 3, 4, 5, 6, 7], [], [18], [], []⟩, ⟨[], [], [], [89, 94, 1089, 1094, 2089, 2094, 3089, 3094, 4094], [], [18]⟩, ⟨[], [0, 1, 2, 3, 4, 5, 6, 7, 8, 9, 10], [], [], [], []⟩, ⟨[], [0, 1, 2, 3, 4, 5, 6, 7, 8, 9, 10, 11], [], [], [], []⟩]
attribute [local go_sem] flc19ebcf2e7 flf55c352a46 fl9c5fc6875f fl1e3aaef9db
attribute [local go_sem] decI_enc decImage_enc spA decS_enc decMach_enc oneMach_f mach_eta pcA rgA seA decSymbol_enc tmA tm_eta isV_It isV_nil
theorem isV_St {e s : Nat} (L : List ByteArray) : (Ob.sl e s (L.map encS)).isV ↔ True := iff_true_intro (by
  intro row hr c hc
  obtain ⟨n, _, rfl⟩ := List.mem_map.1 hr
  simp only [encS, List.mem_cons, List.not_mem_nil, or_false] at hc
  exact ⟨_, hc⟩)
theorem isV_dp {e s : Nat} {rows : List (List SV)} : (Ob.dp e s rows).isV ↔ True := iff_true_intro trivial
attribute [local go_sem] isV_St isV_dp St.ado St.adoptB St.adoptS rp isNil St.fzS addL behind
theorem szvRaw (x : PcX) (t : Tm) (cap most l : Int) (h : 0 ≤ szvPc x l) : szvSe (rawS x t cap most) l = szvPc x l := by
  show (if szvPc x l < 0 then -1 else szvRg (cap, [], 0, 0) (szvPc x l)) = _
  rw [if_neg (by omega)]
  show szList [] (szvPc x l) = _
  unfold szList
  rw [if_neg (by simp; omega)]
  simp [szL]
theorem szvPc_ok {x : PcX} (t : Tm) (cap most : Int) (h : 0 ≤ szvPc x 1048576) : preNs (x, t, cap, most) := by
  have := @szvSe_ok (rawS x t cap most) (by rw [szvRaw x t cap most _ h]; exact h)
  exact ⟨this.1, this.2.1⟩
theorem shSe_new {x : PcX} (t : Tm) (cap most : Int) (h : shPc x) : shSe (newS x t cap most) := by
  unfold newS
  split
  · exact ⟨h, by simp [rawS]⟩
  · exact ⟨⟨⟨⟨by simp [zeSe], by simp [zeSe]⟩, by simp [zeSe], by simp [zeSe]⟩, by simp [zeSe], by simp [zeSe]⟩, by simp [zeSe]⟩
theorem eSe_le {x : SeX} (h : shSe x) : 1 ≤ eSe 1 x := by
  have := (ePc_le h.1 1).1
  unfold eSe eRg
  omega
section
attribute [local go_sem] aggSe aggPc aggTm ownSe obSe aNs pcI seI
attribute [local irreducible] bigPc shPc shSe preSe preNs eSe mkSe ePc mkPc
noncomputable def cxNsL : Cx := { P := Try.prog, tys := tys, C := [(4, kszPc), (6, ktoPcD), (7, ktoTm), (5, kNewS), (8, kNewS), (9, kqSe), (10, kqPc), (11, kmarkPc), (12, kmarkSe), (13, kheldSe)], hty := tysOk, hC := COk.cons cszPc (COk.cons ctoPcD (COk.cons ctoTm (COk.cons cNewSS (COk.cons cNewSI (COk.cons cqSe (COk.cons cqPc (COk.cons cmarkPc (COk.cons cmarkSe (COk.cons cheldSe (COk.nil _)))))))))) }
theorem cxNsL_t : cxNsL.tys = tys := rfl
theorem cxNsL_c : cxNsL.C = [(4, kszPc), (6, ktoPcD), (7, ktoTm), (5, kNewS), (8, kNewS), (9, kqSe), (10, kqPc), (11, kmarkPc), (12, kmarkSe), (13, kheldSe)] := rfl
attribute [local go_sem] cxNsL_t cxNsL_c kszPc ktoPcD ktoTm kNewS kqSe kqPc kmarkPc kmarkSe kheldSe
set_option maxHeartbeats 8000000 in
theorem lawNewSession (x : PcX) (t : Tm) (cap most : Int) (hx : bigPc x) : Holds Try.prog 3 [.agg (aggPc x), .agg (aggTm t), .v (.int .i64 cap), .v (.int .i64 most)] (.v (.bool true)) [] := by
  have key := @szvPc_ok x t cap most
  have keyS : 0 ≤ szvPc x 1048576 → shPc x := fun h => by have := key h; unfold preNs at this; exact this.2
  have keyG : 0 ≤ szvPc x 1048576 → shSe (newS x t cap most) := fun h => shSe_new t cap most (keyS h)
  have keyP : 0 ≤ szvPc x 1048576 → 1 ≤ ePc 1 x := fun h => (ePc_le (keyS h) 1).1
  generalize hz : szvPc x 1048576 = z at key keyS keyG keyP
  generalize hN : ePc 1 x = n at keyP
  generalize hG : newS x t cap most = G at keyG
  generalize hB : sessOk (rawS x t cap most) = bb
  obtain ⟨⟨I, B, E⟩, T, tu, le, sl⟩ := x
  obtain ⟨p, q, l, st⟩ := t
  obtain ⟨⟨⟨GI, GB, GE⟩, GT, gtu, gle, gsl⟩, ⟨gp, gq, gl, gst⟩, ⟨gcp, GR, gwr, glo⟩, gmo, gsp, gfi⟩ := G
  have mI := mkSe_idem 1 (((GI, GB, GE), GT, gtu, gle, gsl), ⟨gp, gq, gl, gst⟩, (gcp, GR, gwr, glo), gmo, gsp, gfi)
  have mE := eSe_mk 1 (((GI, GB, GE), GT, gtu, gle, gsl), ⟨gp, gq, gl, gst⟩, (gcp, GR, gwr, glo), gmo, gsp, gfi)
  have mS := fun h => @shSe_mk (((GI, GB, GE), GT, gtu, gle, gsl), ⟨gp, gq, gl, gst⟩, (gcp, GR, gwr, glo), gmo, gsp, gfi) h 1
  have mL := @eSe_le (((GI, GB, GE), GT, gtu, gle, gsl), ⟨gp, gq, gl, gst⟩, (gcp, GR, gwr, glo), gmo, gsp, gfi)
  have mshape : mkSe 1 (((GI, GB, GE), GT, gtu, gle, gsl), ⟨gp, gq, gl, gst⟩, (gcp, GR, gwr, glo), gmo, gsp, gfi) = ((((mkSe 1 (((GI, GB, GE), GT, gtu, gle, gsl), ⟨gp, gq, gl, gst⟩, (gcp, GR, gwr, glo), gmo, gsp, gfi)).1.1.1, (mkSe 1 (((GI, GB, GE), GT, gtu, gle, gsl), ⟨gp, gq, gl, gst⟩, (gcp, GR, gwr, glo), gmo, gsp, gfi)).1.1.2.1, (mkSe 1 (((GI, GB, GE), GT, gtu, gle, gsl), ⟨gp, gq, gl, gst⟩, (gcp, GR, gwr, glo), gmo, gsp, gfi)).1.1.2.2), (mkSe 1 (((GI, GB, GE), GT, gtu, gle, gsl), ⟨gp, gq, gl, gst⟩, (gcp, GR, gwr, glo), gmo, gsp, gfi)).1.2.1, gtu, gle, gsl), ⟨gp, gq, gl, gst⟩, (gcp, (mkSe 1 (((GI, GB, GE), GT, gtu, gle, gsl), ⟨gp, gq, gl, gst⟩, (gcp, GR, gwr, glo), gmo, gsp, gfi)).2.2.1.2.1, gwr, glo), gmo, gsp, gfi) := by unfold mkSe mkPc mkRg; rfl
  generalize hH : mkSe 1 (((GI, GB, GE), GT, gtu, gle, gsl), ⟨gp, gq, gl, gst⟩, (gcp, GR, gwr, glo), gmo, gsp, gfi) = H at mI mE mS mshape
  obtain ⟨⟨⟨HI, HB, HE⟩, HT, htu, hle, hsl⟩, ⟨hp, hq, hl, hst⟩, ⟨hcp, HR, hwr, hlo⟩, hmo, hsp, hfi⟩ := H
  simp only [Prod.mk.injEq, Tm.mk.injEq, true_and, and_true] at mshape
  obtain ⟨⟨h1, h2, h3⟩, ⟨h4, h5', h6, h7⟩, ⟨h8, h9, h10⟩, h11, h12, h13⟩ := mshape
  subst h1 h2 h3 h4 h5' h6 h7 h8 h9 h10 h11 h12 h13
  generalize hM : eSe 1 (((GI, GB, GE), GT, htu, hle, hsl), ⟨hp, hq, hl, hst⟩, (hcp, GR, hwr, hlo), hmo, hsp, hfi) = m at mE mL
  simp only [aggPc, aggTm]
  refine Holds.go (c := cxNsL) Try.func3 rfl Try.results3 Try.ntmps3 (by omega) (by simp) rfl ?_
  intro X0 w0
  by_cases h5 : z < 0
  · (repeat' (first | refine WP.seq ?_ | refine WP.block ?_ | ((first | refine WP.region ?_ | refine WP.condW ?_ | refine WP.ret ?_ | refine WP.exit ?_ | refine WP.skip ?_); simp only [go_sem, hz, h5, tyAll, Nat.reduceAdd, Nat.reduceLT, Nat.reduceLeDiff, Nat.reduceEqDiff, Nat.reduceMul, Nat.reduceSub, Nat.reduceGT, reduceIte, Int.reduceNeg, Int.reduceToNat]) | ((first | refine WP.flowE 11 9 [] 11 flc19ebcf2e7 [10, 25, 26, 27, 28, 29, 30, 31, 32, 33, 34] [10, 27, 32, 1027, 1032, 2027, 2032, 3027, 3032, 4032] [] (by decide +kernel) (by decide +kernel) (by kernel_rfl) (by kernel_rfl) (by kernel_rfl) ?_ | refine WP.flowE 10 8 [] 10 flf55c352a46 [13, 37, 38, 39, 40, 41, 42, 43, 44, 45] [13, 43, 1043, 2043, 3043, 4043] [] (by decide +kernel) (by decide +kernel) (by kernel_rfl) (by kernel_rfl) (by kernel_rfl) ?_ | refine WP.flowW 3 fl9c5fc6875f [55, 56, 57] [57, 1057, 2057, 3057] [] (by decide +kernel) (by kernel_rfl) (by kernel_rfl) (by kernel_rfl) ?_ | refine WP.flowE 11 9 [] 11 fl1e3aaef9db [18, 87, 88, 89, 90, 91, 92, 93, 94, 95, 96] [18, 89, 94, 1089, 1094, 2089, 2094, 3089, 3094, 4094] [] (by decide +kernel) (by decide +kernel) (by kernel_rfl) (by kernel_rfl) (by kernel_rfl) ?_); simp only [go_sem, hz, h5, tyAll, Nat.reduceAdd, Nat.reduceLT, Nat.reduceLeDiff, Nat.reduceEqDiff, Nat.reduceMul, Nat.reduceSub, Nat.reduceGT, reduceIte, Int.reduceNeg, Int.reduceToNat]) |  refine And.intro ?_ ?_ | intro _))
    all_goals first | omega | exact hx | skip
    all_goals trace_state
  · have k1 := key (by omega)
    have k2 := keyS (by omega)
    have k3 := keyG (by omega)
    have k4 := mS k3
    have k5 := mL k3
    have k6 := keyP (by omega)
    (repeat' (first | refine WP.seq ?_ | refine WP.block ?_ | ((first | refine WP.region ?_ | refine WP.condW ?_ | refine WP.ret ?_ | refine WP.exit ?_ | refine WP.skip ?_); simp only [go_sem, hz, h5, hG, hB, hH, hM, hN, mE, tyAll, Nat.reduceAdd, Nat.reduceLT, Nat.reduceLeDiff, Nat.reduceEqDiff, Nat.reduceMul, Nat.reduceSub, Nat.reduceGT, reduceIte, Int.reduceNeg, Int.reduceToNat]) | ((first | refine WP.flowE 11 9 [] 11 flc19ebcf2e7 [10, 25, 26, 27, 28, 29, 30, 31, 32, 33, 34] [10, 27, 32, 1027, 1032, 2027, 2032, 3027, 3032, 4032] [] (by decide +kernel) (by decide +kernel) (by kernel_rfl) (by kernel_rfl) (by kernel_rfl) ?_ | refine WP.flowE 10 8 [] 10 flf55c352a46 [13, 37, 38, 39, 40, 41, 42, 43, 44, 45] [13, 43, 1043, 2043, 3043, 4043] [] (by decide +kernel) (by decide +kernel) (by kernel_rfl) (by kernel_rfl) (by kernel_rfl) ?_ | refine WP.flowW 3 fl9c5fc6875f [55, 56, 57] [57, 1057, 2057, 3057] [] (by decide +kernel) (by kernel_rfl) (by kernel_rfl) (by kernel_rfl) ?_ | refine WP.flowE 11 9 [] 11 fl1e3aaef9db [18, 87, 88, 89, 90, 91, 92, 93, 94, 95, 96] [18, 89, 94, 1089, 1094, 2089, 2094, 3089, 3094, 4094] [] (by decide +kernel) (by decide +kernel) (by kernel_rfl) (by kernel_rfl) (by kernel_rfl) ?_); simp only [go_sem, hz, h5, hG, hB, hH, hM, hN, mE, tyAll, Nat.reduceAdd, Nat.reduceLT, Nat.reduceLeDiff, Nat.reduceEqDiff, Nat.reduceMul, Nat.reduceSub, Nat.reduceGT, reduceIte, Int.reduceNeg, Int.reduceToNat]) |  refine And.intro ?_ ?_ | intro _))
    all_goals first | omega | exact hx | exact k1 | exact k2 | exact k3 | exact k4 | exact mI | exact ⟨_, _, rfl, _, _, rfl, rfl⟩ | skip
    all_goals trace_state
end
end
end Go.Proofs.Ytoomncljmgcidaa
/-
  DERIVED. What is read of a struct, field by field, stands for what its fields stand for.
-/
namespace Go.Vc
open Go.RowKit Go.WideShapes Go.ChangeShapes Go.Deep
set_option linter.unusedVariables false
section
variable {H : Type} {enc : TypeId × Value → H} {P : Program} {w : World}
theorem Cells.append {r1 r2 : List SV} {c1 c2 : List Value} (h1 : Cells w r1 c1) (h2 : Cells w r2 c2) : Cells w (r1 ++ r2) (c1 ++ c2) := by
  refine ⟨by rw [List.length_append, List.length_append, h1.1, h2.1], fun k c u hc hu => ?_⟩
  rw [List.getElem?_append] at hc hu
  by_cases hk : k < r1.length
  · rw [if_pos hk] at hc
    rw [if_pos (by rw [← h1.1]; exact hk)] at hu
    exact h1.2 k c u hc hu
  · rw [if_neg hk] at hc
    rw [if_neg (by rw [← h1.1]; exact hk), ← h1.1] at hu
    exact h2.2 _ c u hc hu
theorem Dec.map {t : TypeId} {α β : Type} {e : α → List SV} {wf : α → Prop} {e' : β → List SV} {wf' : β → Prop} (hd : Dec H enc P w t e wf) (g : α → β) (he : ∀ a, e' (g a) = e a) (hw : ∀ a, wf a → wf' (g a)) : Dec H enc P w t e' wf' := by
  intro base sp held n cs y h
  obtain ⟨a, ha, hc⟩ := hd _ _ _ _ _ _ h
  exact ⟨g a, hw a ha, by rw [he]; exact hc⟩
theorem Dec.struct1 {t : TypeId} {f0 : Field} {k0 : Nat} {α : Type} {e : α → List SV} {wf : α → Prop} (ht : P.underlying t = some (.struct #[f0])) (o0 : f0.offset = 0) (h0 : P.cellsOf f0.type = k0) (hC : P.cellsOf t = k0) (hd : Dec H enc P w f0.type e wf) : Dec H enc P w t e wf := by
  intro base sp held n cs y h
  obtain ⟨y0, m, _, hl, g0⟩ := trod_struct1 ht h
  obtain ⟨a, ha, hc⟩ := hd _ _ _ _ _ _ g0
  rw [o0, h0, List.drop_zero, List.take_of_length_le (by omega)] at hc
  exact ⟨a, ha, hc⟩
theorem Dec.struct2 {t : TypeId} {f0 f1 : Field} {k0 k1 : Nat} {α β : Type} {e0 : α → List SV} {w0 : α → Prop} {e1 : β → List SV} {w1 : β → Prop} (ht : P.underlying t = some (.struct #[f0, f1])) (o0 : f0.offset = 0) (h0 : P.cellsOf f0.type = k0) (o1 : f1.offset = k0) (h1 : P.cellsOf f1.type = k1) (hC : P.cellsOf t = k0 + k1)
    (d0 : Dec H enc P w f0.type e0 w0) (d1 : Dec H enc P w f1.type e1 w1) : Dec H enc P w t (fun x : α × β => e0 x.1 ++ e1 x.2) (fun x => w0 x.1 ∧ w1 x.2) := by
  intro base sp held n cs y h
  obtain ⟨y0, y1, m, _, hl, g0, g1⟩ := trod_struct2 ht h
  obtain ⟨a, ha, hc⟩ := d0 _ _ _ _ _ _ g0
  obtain ⟨b, hb, hd⟩ := d1 _ _ _ _ _ _ g1
  rw [o0, h0, List.drop_zero] at hc
  rw [o1, h1, List.take_of_length_le (by rw [List.length_drop]; omega)] at hd
  refine ⟨(a, b), ⟨ha, hb⟩, ?_⟩
  have := hc.append hd
  rwa [List.take_append_drop] at this
theorem Dec.struct3 {t : TypeId} {f0 f1 f2 : Field} {k0 k1 k2 : Nat} {α β γ : Type} {e0 : α → List SV} {w0 : α → Prop} {e1 : β → List SV} {w1 : β → Prop} {e2 : γ → List SV} {w2 : γ → Prop} (ht : P.underlying t = some (.struct #[f0, f1, f2])) (o0 : f0.offset = 0) (h0 : P.cellsOf f0.type = k0) (o1 : f1.offset = k0) (h1 : P.cellsOf f1.type = k1) (o2 : f2.offset = k0 + k1) (h2 : P.cellsOf f2.type = k2) (hC : P.cellsOf t = k0 + k1 + k2)
    (d0 : Dec H enc P w f0.type e0 w0) (d1 : Dec H enc P w f1.type e1 w1) (d2 : Dec H enc P w f2.type e2 w2) : Dec H enc P w t (fun x : α × β × γ => e0 x.1 ++ (e1 x.2.1 ++ e2 x.2.2)) (fun x => w0 x.1 ∧ w1 x.2.1 ∧ w2 x.2.2) := by
  intro base sp held n cs y h
  obtain ⟨y0, y1, y2, m, _, hl, g0, g1, g2⟩ := trod_struct3 ht h
  obtain ⟨a, ha, hc⟩ := d0 _ _ _ _ _ _ g0
  obtain ⟨b, hb, hd⟩ := d1 _ _ _ _ _ _ g1
  obtain ⟨c, hc', he⟩ := d2 _ _ _ _ _ _ g2
  rw [o0, h0, List.drop_zero] at hc
  rw [o1, h1] at hd
  rw [o2, h2, List.take_of_length_le (by rw [List.length_drop]; omega), ← List.drop_drop] at he
  refine ⟨(a, b, c), ⟨ha, hb, hc'⟩, ?_⟩
  have := hc.append (hd.append he)
  rwa [List.take_append_drop, List.take_append_drop] at this
end
end Go.Vc

/-
  DERIVED. What is read of a struct of four to seven fields stands for what its fields stand for.
-/
namespace Go.Vc
open Go.RowKit Go.WideShapes Go.ChangeShapes Go.Deep
set_option linter.unusedVariables false
section
variable {H : Type} {enc : TypeId × Value → H} {P : Program} {w : World}
theorem take_drop_join (cs : List Value) (a b : Nat) : (cs.drop a).take b ++ cs.drop (a + b) = cs.drop a := by
  rw [← List.drop_drop, List.take_append_drop]
theorem Dec.struct4 {t : TypeId} {f0 f1 f2 f3 : Field} {k0 k1 k2 k3 : Nat} {α0 α1 α2 α3 : Type} {e0 : α0 → List SV} {w0 : α0 → Prop} {e1 : α1 → List SV} {w1 : α1 → Prop} {e2 : α2 → List SV} {w2 : α2 → Prop} {e3 : α3 → List SV} {w3 : α3 → Prop} (ht : P.underlying t = some (.struct #[f0, f1, f2, f3])) (o0 : f0.offset = 0) (h0 : P.cellsOf f0.type = k0) (o1 : f1.offset = k0) (h1 : P.cellsOf f1.type = k1) (o2 : f2.offset = k0 + k1) (h2 : P.cellsOf f2.type = k2) (o3 : f3.offset = k0 + k1 + k2) (h3 : P.cellsOf f3.type = k3) (hC : P.cellsOf t = k0 + k1 + k2 + k3)
    (d0 : Dec H enc P w f0.type e0 w0) (d1 : Dec H enc P w f1.type e1 w1) (d2 : Dec H enc P w f2.type e2 w2) (d3 : Dec H enc P w f3.type e3 w3) : Dec H enc P w t (fun x : α0 × α1 × α2 × α3 => e0 x.1 ++ (e1 x.2.1 ++ (e2 x.2.2.1 ++ e3 x.2.2.2))) (fun x => w0 x.1 ∧ w1 x.2.1 ∧ w2 x.2.2.1 ∧ w3 x.2.2.2) := by
  intro base sp held n cs y h
  obtain ⟨xs, m, _, rfl, hl, hlen, hf⟩ := DataW.trod_struct ht h
  match xs, hlen with
  | [y0, y1, y2, y3], _ =>
    have g0 : DataW.trod enc P w base sp held m f0.type ((cs.drop f0.offset).take (P.cellsOf f0.type)) = some y0 := by simpa using hf 0 f0 rfl
    obtain ⟨a0, v0, c0⟩ := d0 _ _ _ _ _ _ g0
    rw [o0, h0] at c0
    have g1 : DataW.trod enc P w base sp held m f1.type ((cs.drop f1.offset).take (P.cellsOf f1.type)) = some y1 := by simpa using hf 1 f1 rfl
    obtain ⟨a1, v1, c1⟩ := d1 _ _ _ _ _ _ g1
    rw [o1, h1] at c1
    have g2 : DataW.trod enc P w base sp held m f2.type ((cs.drop f2.offset).take (P.cellsOf f2.type)) = some y2 := by simpa using hf 2 f2 rfl
    obtain ⟨a2, v2, c2⟩ := d2 _ _ _ _ _ _ g2
    rw [o2, h2] at c2
    have g3 : DataW.trod enc P w base sp held m f3.type ((cs.drop f3.offset).take (P.cellsOf f3.type)) = some y3 := by simpa using hf 3 f3 rfl
    obtain ⟨a3, v3, c3⟩ := d3 _ _ _ _ _ _ g3
    rw [o3, h3] at c3
    rw [List.take_of_length_le (by rw [List.length_drop]; omega)] at c3
    refine ⟨(a0, a1, a2, a3), ⟨v0, v1, v2, v3⟩, ?_⟩
    have := c0.append (c1.append (c2.append c3))
    rw [take_drop_join, take_drop_join, List.drop_zero, List.take_append_drop] at this
    exact this
theorem Dec.struct5 {t : TypeId} {f0 f1 f2 f3 f4 : Field} {k0 k1 k2 k3 k4 : Nat} {α0 α1 α2 α3 α4 : Type} {e0 : α0 → List SV} {w0 : α0 → Prop} {e1 : α1 → List SV} {w1 : α1 → Prop} {e2 : α2 → List SV} {w2 : α2 → Prop} {e3 : α3 → List SV} {w3 : α3 → Prop} {e4 : α4 → List SV} {w4 : α4 → Prop} (ht : P.underlying t = some (.struct #[f0, f1, f2, f3, f4])) (o0 : f0.offset = 0) (h0 : P.cellsOf f0.type = k0) (o1 : f1.offset = k0) (h1 : P.cellsOf f1.type = k1) (o2 : f2.offset = k0 + k1) (h2 : P.cellsOf f2.type = k2) (o3 : f3.offset = k0 + k1 + k2) (h3 : P.cellsOf f3.type = k3) (o4 : f4.offset = k0 + k1 + k2 + k3) (h4 : P.cellsOf f4.type = k4) (hC : P.cellsOf t = k0 + k1 + k2 + k3 + k4)
    (d0 : Dec H enc P w f0.type e0 w0) (d1 : Dec H enc P w f1.type e1 w1) (d2 : Dec H enc P w f2.type e2 w2) (d3 : Dec H enc P w f3.type e3 w3) (d4 : Dec H enc P w f4.type e4 w4) : Dec H enc P w t (fun x : α0 × α1 × α2 × α3 × α4 => e0 x.1 ++ (e1 x.2.1 ++ (e2 x.2.2.1 ++ (e3 x.2.2.2.1 ++ e4 x.2.2.2.2)))) (fun x => w0 x.1 ∧ w1 x.2.1 ∧ w2 x.2.2.1 ∧ w3 x.2.2.2.1 ∧ w4 x.2.2.2.2) := by
  intro base sp held n cs y h
  obtain ⟨xs, m, _, rfl, hl, hlen, hf⟩ := DataW.trod_struct ht h
  match xs, hlen with
  | [y0, y1, y2, y3, y4], _ =>
    have g0 : DataW.trod enc P w base sp held m f0.type ((cs.drop f0.offset).take (P.cellsOf f0.type)) = some y0 := by simpa using hf 0 f0 rfl
    obtain ⟨a0, v0, c0⟩ := d0 _ _ _ _ _ _ g0
    rw [o0, h0] at c0
    have g1 : DataW.trod enc P w base sp held m f1.type ((cs.drop f1.offset).take (P.cellsOf f1.type)) = some y1 := by simpa using hf 1 f1 rfl
    obtain ⟨a1, v1, c1⟩ := d1 _ _ _ _ _ _ g1
    rw [o1, h1] at c1
    have g2 : DataW.trod enc P w base sp held m f2.type ((cs.drop f2.offset).take (P.cellsOf f2.type)) = some y2 := by simpa using hf 2 f2 rfl
    obtain ⟨a2, v2, c2⟩ := d2 _ _ _ _ _ _ g2
    rw [o2, h2] at c2
    have g3 : DataW.trod enc P w base sp held m f3.type ((cs.drop f3.offset).take (P.cellsOf f3.type)) = some y3 := by simpa using hf 3 f3 rfl
    obtain ⟨a3, v3, c3⟩ := d3 _ _ _ _ _ _ g3
    rw [o3, h3] at c3
    have g4 : DataW.trod enc P w base sp held m f4.type ((cs.drop f4.offset).take (P.cellsOf f4.type)) = some y4 := by simpa using hf 4 f4 rfl
    obtain ⟨a4, v4, c4⟩ := d4 _ _ _ _ _ _ g4
    rw [o4, h4] at c4
    rw [List.take_of_length_le (by rw [List.length_drop]; omega)] at c4
    refine ⟨(a0, a1, a2, a3, a4), ⟨v0, v1, v2, v3, v4⟩, ?_⟩
    have := c0.append (c1.append (c2.append (c3.append c4)))
    rw [take_drop_join, take_drop_join, take_drop_join, List.drop_zero, List.take_append_drop] at this
    exact this
theorem Dec.struct6 {t : TypeId} {f0 f1 f2 f3 f4 f5 : Field} {k0 k1 k2 k3 k4 k5 : Nat} {α0 α1 α2 α3 α4 α5 : Type} {e0 : α0 → List SV} {w0 : α0 → Prop} {e1 : α1 → List SV} {w1 : α1 → Prop} {e2 : α2 → List SV} {w2 : α2 → Prop} {e3 : α3 → List SV} {w3 : α3 → Prop} {e4 : α4 → List SV} {w4 : α4 → Prop} {e5 : α5 → List SV} {w5 : α5 → Prop} (ht : P.underlying t = some (.struct #[f0, f1, f2, f3, f4, f5])) (o0 : f0.offset = 0) (h0 : P.cellsOf f0.type = k0) (o1 : f1.offset = k0) (h1 : P.cellsOf f1.type = k1) (o2 : f2.offset = k0 + k1) (h2 : P.cellsOf f2.type = k2) (o3 : f3.offset = k0 + k1 + k2) (h3 : P.cellsOf f3.type = k3) (o4 : f4.offset = k0 + k1 + k2 + k3) (h4 : P.cellsOf f4.type = k4) (o5 : f5.offset = k0 + k1 + k2 + k3 + k4) (h5 : P.cellsOf f5.type = k5) (hC : P.cellsOf t = k0 + k1 + k2 + k3 + k4 + k5)
    (d0 : Dec H enc P w f0.type e0 w0) (d1 : Dec H enc P w f1.type e1 w1) (d2 : Dec H enc P w f2.type e2 w2) (d3 : Dec H enc P w f3.type e3 w3) (d4 : Dec H enc P w f4.type e4 w4) (d5 : Dec H enc P w f5.type e5 w5) : Dec H enc P w t (fun x : α0 × α1 × α2 × α3 × α4 × α5 => e0 x.1 ++ (e1 x.2.1 ++ (e2 x.2.2.1 ++ (e3 x.2.2.2.1 ++ (e4 x.2.2.2.2.1 ++ e5 x.2.2.2.2.2))))) (fun x => w0 x.1 ∧ w1 x.2.1 ∧ w2 x.2.2.1 ∧ w3 x.2.2.2.1 ∧ w4 x.2.2.2.2.1 ∧ w5 x.2.2.2.2.2) := by
  intro base sp held n cs y h
  obtain ⟨xs, m, _, rfl, hl, hlen, hf⟩ := DataW.trod_struct ht h
  match xs, hlen with
  | [y0, y1, y2, y3, y4, y5], _ =>
    have g0 : DataW.trod enc P w base sp held m f0.type ((cs.drop f0.offset).take (P.cellsOf f0.type)) = some y0 := by simpa using hf 0 f0 rfl
    obtain ⟨a0, v0, c0⟩ := d0 _ _ _ _ _ _ g0
    rw [o0, h0] at c0
    have g1 : DataW.trod enc P w base sp held m f1.type ((cs.drop f1.offset).take (P.cellsOf f1.type)) = some y1 := by simpa using hf 1 f1 rfl
    obtain ⟨a1, v1, c1⟩ := d1 _ _ _ _ _ _ g1
    rw [o1, h1] at c1
    have g2 : DataW.trod enc P w base sp held m f2.type ((cs.drop f2.offset).take (P.cellsOf f2.type)) = some y2 := by simpa using hf 2 f2 rfl
    obtain ⟨a2, v2, c2⟩ := d2 _ _ _ _ _ _ g2
    rw [o2, h2] at c2
    have g3 : DataW.trod enc P w base sp held m f3.type ((cs.drop f3.offset).take (P.cellsOf f3.type)) = some y3 := by simpa using hf 3 f3 rfl
    obtain ⟨a3, v3, c3⟩ := d3 _ _ _ _ _ _ g3
    rw [o3, h3] at c3
    have g4 : DataW.trod enc P w base sp held m f4.type ((cs.drop f4.offset).take (P.cellsOf f4.type)) = some y4 := by simpa using hf 4 f4 rfl
    obtain ⟨a4, v4, c4⟩ := d4 _ _ _ _ _ _ g4
    rw [o4, h4] at c4
    have g5 : DataW.trod enc P w base sp held m f5.type ((cs.drop f5.offset).take (P.cellsOf f5.type)) = some y5 := by simpa using hf 5 f5 rfl
    obtain ⟨a5, v5, c5⟩ := d5 _ _ _ _ _ _ g5
    rw [o5, h5] at c5
    rw [List.take_of_length_le (by rw [List.length_drop]; omega)] at c5
    refine ⟨(a0, a1, a2, a3, a4, a5), ⟨v0, v1, v2, v3, v4, v5⟩, ?_⟩
    have := c0.append (c1.append (c2.append (c3.append (c4.append c5))))
    rw [take_drop_join, take_drop_join, take_drop_join, take_drop_join, List.drop_zero, List.take_append_drop] at this
    exact this
theorem Dec.struct7 {t : TypeId} {f0 f1 f2 f3 f4 f5 f6 : Field} {k0 k1 k2 k3 k4 k5 k6 : Nat} {α0 α1 α2 α3 α4 α5 α6 : Type} {e0 : α0 → List SV} {w0 : α0 → Prop} {e1 : α1 → List SV} {w1 : α1 → Prop} {e2 : α2 → List SV} {w2 : α2 → Prop} {e3 : α3 → List SV} {w3 : α3 → Prop} {e4 : α4 → List SV} {w4 : α4 → Prop} {e5 : α5 → List SV} {w5 : α5 → Prop} {e6 : α6 → List SV} {w6 : α6 → Prop} (ht : P.underlying t = some (.struct #[f0, f1, f2, f3, f4, f5, f6])) (o0 : f0.offset = 0) (h0 : P.cellsOf f0.type = k0) (o1 : f1.offset = k0) (h1 : P.cellsOf f1.type = k1) (o2 : f2.offset = k0 + k1) (h2 : P.cellsOf f2.type = k2) (o3 : f3.offset = k0 + k1 + k2) (h3 : P.cellsOf f3.type = k3) (o4 : f4.offset = k0 + k1 + k2 + k3) (h4 : P.cellsOf f4.type = k4) (o5 : f5.offset = k0 + k1 + k2 + k3 + k4) (h5 : P.cellsOf f5.type = k5) (o6 : f6.offset = k0 + k1 + k2 + k3 + k4 + k5) (h6 : P.cellsOf f6.type = k6) (hC : P.cellsOf t = k0 + k1 + k2 + k3 + k4 + k5 + k6)
    (d0 : Dec H enc P w f0.type e0 w0) (d1 : Dec H enc P w f1.type e1 w1) (d2 : Dec H enc P w f2.type e2 w2) (d3 : Dec H enc P w f3.type e3 w3) (d4 : Dec H enc P w f4.type e4 w4) (d5 : Dec H enc P w f5.type e5 w5) (d6 : Dec H enc P w f6.type e6 w6) : Dec H enc P w t (fun x : α0 × α1 × α2 × α3 × α4 × α5 × α6 => e0 x.1 ++ (e1 x.2.1 ++ (e2 x.2.2.1 ++ (e3 x.2.2.2.1 ++ (e4 x.2.2.2.2.1 ++ (e5 x.2.2.2.2.2.1 ++ e6 x.2.2.2.2.2.2)))))) (fun x => w0 x.1 ∧ w1 x.2.1 ∧ w2 x.2.2.1 ∧ w3 x.2.2.2.1 ∧ w4 x.2.2.2.2.1 ∧ w5 x.2.2.2.2.2.1 ∧ w6 x.2.2.2.2.2.2) := by
  intro base sp held n cs y h
  obtain ⟨xs, m, _, rfl, hl, hlen, hf⟩ := DataW.trod_struct ht h
  match xs, hlen with
  | [y0, y1, y2, y3, y4, y5, y6], _ =>
    have g0 : DataW.trod enc P w base sp held m f0.type ((cs.drop f0.offset).take (P.cellsOf f0.type)) = some y0 := by simpa using hf 0 f0 rfl
    obtain ⟨a0, v0, c0⟩ := d0 _ _ _ _ _ _ g0
    rw [o0, h0] at c0
    have g1 : DataW.trod enc P w base sp held m f1.type ((cs.drop f1.offset).take (P.cellsOf f1.type)) = some y1 := by simpa using hf 1 f1 rfl
    obtain ⟨a1, v1, c1⟩ := d1 _ _ _ _ _ _ g1
    rw [o1, h1] at c1
    have g2 : DataW.trod enc P w base sp held m f2.type ((cs.drop f2.offset).take (P.cellsOf f2.type)) = some y2 := by simpa using hf 2 f2 rfl
    obtain ⟨a2, v2, c2⟩ := d2 _ _ _ _ _ _ g2
    rw [o2, h2] at c2
    have g3 : DataW.trod enc P w base sp held m f3.type ((cs.drop f3.offset).take (P.cellsOf f3.type)) = some y3 := by simpa using hf 3 f3 rfl
    obtain ⟨a3, v3, c3⟩ := d3 _ _ _ _ _ _ g3
    rw [o3, h3] at c3
    have g4 : DataW.trod enc P w base sp held m f4.type ((cs.drop f4.offset).take (P.cellsOf f4.type)) = some y4 := by simpa using hf 4 f4 rfl
    obtain ⟨a4, v4, c4⟩ := d4 _ _ _ _ _ _ g4
    rw [o4, h4] at c4
    have g5 : DataW.trod enc P w base sp held m f5.type ((cs.drop f5.offset).take (P.cellsOf f5.type)) = some y5 := by simpa using hf 5 f5 rfl
    obtain ⟨a5, v5, c5⟩ := d5 _ _ _ _ _ _ g5
    rw [o5, h5] at c5
    have g6 : DataW.trod enc P w base sp held m f6.type ((cs.drop f6.offset).take (P.cellsOf f6.type)) = some y6 := by simpa using hf 6 f6 rfl
    obtain ⟨a6, v6, c6⟩ := d6 _ _ _ _ _ _ g6
    rw [o6, h6] at c6
    rw [List.take_of_length_le (by rw [List.length_drop]; omega)] at c6
    refine ⟨(a0, a1, a2, a3, a4, a5, a6), ⟨v0, v1, v2, v3, v4, v5, v6⟩, ?_⟩
    have := c0.append (c1.append (c2.append (c3.append (c4.append (c5.append c6)))))
    rw [take_drop_join, take_drop_join, take_drop_join, take_drop_join, take_drop_join, List.drop_zero, List.take_append_drop] at this
    exact this
end
end Go.Vc

