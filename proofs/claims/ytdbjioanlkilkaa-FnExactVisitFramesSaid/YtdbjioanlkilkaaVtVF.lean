/-
  DERIVED. The function that a line is in; the frames of a visit.
-/
import Derived.Test.YtdbjioanlkilkaaVtLine2
import Derived.Test.YtdbjioanlkilkaaVgFrame
namespace Go.Proofs.Ytdbjioanlkilkaa
open Go.Vc
set_option linter.unusedSimpArgs false
set_option linter.unusedVariables false
set_option maxHeartbeats 1000000
set_option maxRecDepth 10000
attribute [local go_sem] St.runR St.runW St.stepV offV St.step St.stepU St.stepG mkCond guardB St.prK St.pr St.prLen St.eff St.callE St.callD St.callF St.callL aI aB aS aR aC St.isM St.argL Ctr.pure Ctr.lend Ctr.move Ctr.isL Ctr.wri pur len lentBy St.lentV St.lent1 nthS argsR restOf obsR pairs swapL unObs backL St.resL erL SV.ren1 SV.up SV.up2 Ob.up St.fzL cellIds partIds St.intoRow SV.ownId St.fz SV.fz1 St.prep St.mvL St.mv SV.re1 rnOk St.prEq vals eqCells scEq Value.kd St.prStr St.prCut cutR St.bnd St.prMin St.bld isShift outL retL outJ oR oC oE oD SV.upq SV.isSl SV.shut St.ev St.get St.put St.new St.kill SV.kill SV.kill1 Ob.kill St.app St.wrt St.rowsOf St.res St.killL lk er argsL SV.strip SV.need SV.share SV.share1 SV.owns SV.owns1 SV.owns2 SV.good SV.good1 SV.rok SV.rok1 SV.rok2 SV.isV SV.isV2 nodupN SV.cells SV.one SV.pur Ob.pb partsIn rowsIn splice cellsAt dstOk scal2 scal1 thenK blockK retK outK outs okC okL okA okT nilC nilL nilA nilT keepC keepL keepA keepT St.runG St.dltK St.least St.clean St.final St.hide offK badS badO SV.refs SV.leaf SV.leaf2 Ob.refs dlOk fpAt Go.Vc.cover tups SV.ofAgg St.out outC subL St.has rng wr Value.oneCell' Option.isSome_some Option.isSome_none List.nil_append Bool.false_eq_true List.map_cons List.map_nil List.all_cons List.all_nil List.length_cons List.length_nil List.drop_zero List.drop_succ_cons List.take_succ_cons List.take_zero List.drop_nil List.take_nil List.getElem?_cons_zero List.getElem?_cons_succ List.getElem?_nil List.cons_append List.nil_append List.append_nil List.append_assoc List.flatMap_cons List.flatMap_nil List.contains_cons List.contains_nil List.set_cons_zero List.set_cons_succ List.getElem?_toArray Option.getD_some Option.getD_none Option.map_some Option.map_none Option.bind_some Option.some.injEq Prod.mk.injEq if_true if_false true_and and_true and_self and_false false_and Bool.and_false Bool.false_and Bool.or_true Bool.true_or Bool.or_false Bool.false_or ne_eq not_true_eq_false not_false_eq_true decide_true decide_false List.mem_cons List.not_mem_nil List.filter_cons List.filter_nil List.any_cons List.any_nil List.isEmpty_nil List.isEmpty_cons Option.getD_none or_false false_or true_or or_true forall_eq_or_imp forall_eq reduceCtorEq exists_eq exists_eq' exists_eq_left' exists_eq_left exists_eq_right exists_eq_right' imp_self implies_true Bool.and_true Bool.true_and Bool.and_self beq_self_eq_true List.replicate_succ List.replicate_zero forall_const false_implies pickB_or pickB_and beqT beqF Int.toNat_natCast List.length_map List.length_replicate ge_iff_le gt_iff_lt decide_eq_true_eq decide_eq_false_iff_not Bool.and_eq_true Bool.or_eq_true Bool.not_eq_true' Bool.not_eq_false' condG List.toList_toArray Bool.or_eq_false_iff Bool.and_eq_false_iff Int.not_lt Int.not_le beq_iff_eq beq_eq_false_iff_ne bne_iff_ne bne_eq_false_iff_eq ne_eq Bool.not_true Bool.not_false exists_and_left
attribute [local irreducible] Go.Vc.WP
attribute [local go_sem] cx0_t cx0_c
attribute [local go_sem] decS_enc decTok_enc decLine_enc oneLine_f line_eta decI_enc decFrame_enc
def folN (L : List Line) : Nat → ByteArray
  | 0 => ⟨#[]⟩
  | n + 1 => match L[n]? with
    | some x => if x.kind = 0 then x.name else folN L n
    | none => folN L n
def fol (L : List Line) (k : Int) : ByteArray := if 0 ≤ k ∧ k < L.length then folN L (k.toNat + 1) else ⟨#[]⟩
theorem folN_succ (L : List Line) (n : Nat) (h : n < L.length) : folN L (n + 1) = if L[n].kind = 0 then L[n].name else folN L n := by
  rw [folN, List.getElem?_eq_getElem h]
def kFol : Ctr := pur (fun args => (decLine (aR args 0), aI args 1)) (fun x => [.sl 4 (x.1.map encLine), .v (.int .i64 x.2)]) (fun x => x.1.length ≤ 1048576) (fun _ x => .v (.string (fol x.1 x.2))) (fun _ _ => [])
section
noncomputable def cxFol : Cx := { P := Try.prog, tys := tys, C := [(55, k60)], hty := tysOk, hC := COk.cons c60 (COk.nil _) }
theorem cxFol_t : cxFol.tys = tys := rfl
theorem cxFol_c : cxFol.C = [(55, k60)] := rfl
attribute [local go_sem] cxFol_t cxFol_c k60
theorem cFolI : Cn Try.prog 43 kFol := by
  refine Cn.pur Try.func43 (by kernel_rfl) rfl fun d x hx => ?_
  obtain ⟨L, k⟩ := x
  simp only at hx ⊢
  refine Holds.go (c := cxFol) Try.func43 rfl Try.results43 Try.ntmps43 (by omega) (by simp) rfl ?_
  intro X0 w0
  (repeat' (first | refine WP.seq ?_ | refine WP.block ?_ | ((first | refine WP.region ?_ | refine WP.condW ?_ | refine WP.ret ?_ | refine WP.exit ?_ | refine WP.skip ?_); simp only [go_sem, tyAll, Nat.reduceAdd, Nat.reduceLT, Nat.reduceLeDiff, Nat.reduceEqDiff, Nat.reduceMul, Nat.reduceSub, Nat.reduceGT, reduceIte, Int.reduceNeg, Int.reduceToNat]) |  refine And.intro ?_ ?_ | intro _))
  all_goals first | omega | skip
  · rename_i h
    have e : fol L k = ⟨#[]⟩ := by unfold fol; rw [if_neg (by omega)]
    rw [e]
  rename_i h
  have e : fol L k = folN L (k.toNat + 1) := by unfold fol; rw [if_pos (by omega)]
  rw [e]
  refine WP.loop (fun j : Nat => ⟨[(0, .sl 4 (L.map encLine)), (1, .v (.int .i64 ((j : Int) - 1)))], []⟩) (fun j => j ≤ L.length ∧ folN L (k.toNat + 1) = folN L j) (fun j => j) (k.toNat + 1) ⟨by omega, rfl⟩ ?_ ?_
  · rw [show ((k.toNat + 1 : Nat) : Int) - 1 = k by omega]; (simp only [go_sem, tyAll, Nat.reduceAdd, Nat.reduceLT, Nat.reduceLeDiff, Nat.reduceEqDiff, Nat.reduceMul, Nat.reduceSub, Nat.reduceGT, reduceIte, Int.reduceNeg, Int.reduceToNat] <;> (first | rfl | exact ⟨rfl, rfl⟩ | exact ⟨rfl, rfl, rfl⟩ | exact ⟨rfl, rfl, rfl, rfl⟩ | exact ⟨rfl, rfl, rfl, rfl, rfl⟩ | exact ⟨⟨rfl, rfl⟩, rfl⟩ | simp))
  rintro j ⟨hj, he⟩
  match j with
  | 0 =>
    (repeat' (first | refine WP.seq ?_ | refine WP.block ?_ | ((first | refine WP.region ?_ | refine WP.condW ?_ | refine WP.ret ?_ | refine WP.exit ?_ | refine WP.skip ?_); simp only [go_sem, tyAll, Nat.reduceAdd, Nat.reduceLT, Nat.reduceLeDiff, Nat.reduceEqDiff, Nat.reduceMul, Nat.reduceSub, Nat.reduceGT, reduceIte, Int.reduceNeg, Int.reduceToNat]) |  refine And.intro ?_ ?_ | intro _))
    all_goals first | omega | (rw [he]; rfl) | skip
    all_goals trace_state
  | j + 1 =>
    have h1 := rowAt_map encLine L j (by omega)
    have h2 := folN_succ L j (by omega)
    rw [he, show ((j + 1 : Nat) : Int) - 1 = (j : Int) by omega]
    generalize L[j] = y at h1 h2
    obtain ⟨yk, yn, yA, yE⟩ := y
    rw [encLine] at h1
    simp only at h1 h2
    by_cases hy : yk = 0
    · rw [if_pos hy] at h2
      rw [h2]
      (repeat' (first | refine WP.seq ?_ | refine WP.block ?_ | ((first | refine WP.region ?_ | refine WP.condW ?_ | refine WP.ret ?_ | refine WP.exit ?_ | refine WP.skip ?_); simp only [go_sem, h1, hy, tyAll, Nat.reduceAdd, Nat.reduceLT, Nat.reduceLeDiff, Nat.reduceEqDiff, Nat.reduceMul, Nat.reduceSub, Nat.reduceGT, reduceIte, Int.reduceNeg, Int.reduceToNat]) |  refine And.intro ?_ ?_ | intro _))
      all_goals first | omega | skip
      all_goals trace_state
    · rw [if_neg hy] at h2
      rw [h2]
      (repeat' (first | refine WP.seq ?_ | refine WP.block ?_ | ((first | refine WP.region ?_ | refine WP.condW ?_ | refine WP.ret ?_ | refine WP.exit ?_ | refine WP.skip ?_); simp only [go_sem, h1, hy, tyAll, Nat.reduceAdd, Nat.reduceLT, Nat.reduceLeDiff, Nat.reduceEqDiff, Nat.reduceMul, Nat.reduceSub, Nat.reduceGT, reduceIte, Int.reduceNeg, Int.reduceToNat]) |  refine And.intro ?_ ?_ | intro _))
      all_goals first | omega | exact ⟨j, ⟨by omega, rfl⟩, by omega, rfl⟩ | skip
      all_goals trace_state
end
section
noncomputable def cxFolS : Cx := { P := Try.prog, tys := tys, C := [], hty := tysOk, hC := COk.nil _ }
theorem cxFolS_t : cxFolS.tys = tys := rfl
theorem cxFolS_c : cxFolS.C = [] := rfl
attribute [local go_sem] cxFolS_t cxFolS_c 
theorem cFolS : Cn Try.prog 41 kFol := by
  refine Cn.pur Try.func41 (by kernel_rfl) rfl fun d x hx => ?_
  obtain ⟨L, k⟩ := x
  simp only at hx ⊢
  refine Holds.go (c := cxFolS) Try.func41 rfl Try.results41 Try.ntmps41 (by omega) (by simp) rfl ?_
  intro X0 w0
  (repeat' (first | refine WP.seq ?_ | refine WP.block ?_ | ((first | refine WP.region ?_ | refine WP.condW ?_ | refine WP.ret ?_ | refine WP.exit ?_ | refine WP.skip ?_); simp only [go_sem, tyAll, Nat.reduceAdd, Nat.reduceLT, Nat.reduceLeDiff, Nat.reduceEqDiff, Nat.reduceMul, Nat.reduceSub, Nat.reduceGT, reduceIte, Int.reduceNeg, Int.reduceToNat]) |  refine And.intro ?_ ?_ | intro _))
  all_goals first | omega | skip
  refine WP.loop (fun j : Nat => ⟨[(0, .sl 4 (L.map encLine)), (1, .v (.int .i64 k)), (5, .v (.string (folN L j))), (6, .v (.int .i64 j))], []⟩) (fun j => (j = 0 ∨ (0 ≤ k ∧ k < L.length)) ∧ j ≤ k.toNat + 1) (fun j => k.toNat + 2 - j) 0 ⟨by simp, by omega⟩ ?_ ?_
  · (simp only [go_sem, folN, tyAll, Nat.reduceAdd, Nat.reduceLT, Nat.reduceLeDiff, Nat.reduceEqDiff, Nat.reduceMul, Nat.reduceSub, Nat.reduceGT, reduceIte, Int.reduceNeg, Int.reduceToNat] <;> (first | rfl | exact ⟨rfl, rfl⟩ | exact ⟨rfl, rfl, rfl⟩ | exact ⟨rfl, rfl, rfl, rfl⟩ | exact ⟨rfl, rfl, rfl, rfl, rfl⟩ | exact ⟨⟨rfl, rfl⟩, rfl⟩ | simp))
  rintro j ⟨hj0, hj⟩
  by_cases hk : 0 ≤ k ∧ k < L.length
  · have e : fol L k = folN L (k.toNat + 1) := by unfold fol; rw [if_pos (by omega)]
    rw [e]
    by_cases hlt : j ≤ k.toNat
    · have h1 := rowAt_map encLine L j (by omega)
      have h2 := folN_succ L j (by omega)
      generalize L[j] = y at h1 h2
      obtain ⟨yk, yn, yA, yE⟩ := y
      rw [encLine] at h1
      simp only at h1 h2
      have hle : (j : Int) ≤ k := by omega
      by_cases hy : yk = 0
      · rw [if_pos hy] at h2
        (repeat' (first | refine WP.seq ?_ | refine WP.block ?_ | ((first | refine WP.region ?_ | refine WP.condW ?_ | refine WP.ret ?_ | refine WP.exit ?_ | refine WP.skip ?_); simp only [go_sem, h1, hy, hle, hk.2, tyAll, Nat.reduceAdd, Nat.reduceLT, Nat.reduceLeDiff, Nat.reduceEqDiff, Nat.reduceMul, Nat.reduceSub, Nat.reduceGT, reduceIte, Int.reduceNeg, Int.reduceToNat]) |  refine And.intro ?_ ?_ | intro _))
        all_goals first | omega | exact ⟨j + 1, ⟨.inr hk.1, by omega⟩, by omega, by rw [h2], rfl⟩ | skip
        all_goals trace_state
      · rw [if_neg hy] at h2
        (repeat' (first | refine WP.seq ?_ | refine WP.block ?_ | ((first | refine WP.region ?_ | refine WP.condW ?_ | refine WP.ret ?_ | refine WP.exit ?_ | refine WP.skip ?_); simp only [go_sem, h1, hy, hle, hk.2, tyAll, Nat.reduceAdd, Nat.reduceLT, Nat.reduceLeDiff, Nat.reduceEqDiff, Nat.reduceMul, Nat.reduceSub, Nat.reduceGT, reduceIte, Int.reduceNeg, Int.reduceToNat]) |  refine And.intro ?_ ?_ | intro _))
        all_goals first | omega | exact ⟨j + 1, ⟨.inr hk.1, by omega⟩, by omega, by rw [h2], rfl⟩ | skip
        all_goals trace_state
    · have hle : ¬ (j : Int) ≤ k := by omega
      (repeat' (first | refine WP.seq ?_ | refine WP.block ?_ | ((first | refine WP.region ?_ | refine WP.condW ?_ | refine WP.ret ?_ | refine WP.exit ?_ | refine WP.skip ?_); simp only [go_sem, hle, tyAll, Nat.reduceAdd, Nat.reduceLT, Nat.reduceLeDiff, Nat.reduceEqDiff, Nat.reduceMul, Nat.reduceSub, Nat.reduceGT, reduceIte, Int.reduceNeg, Int.reduceToNat]) |  refine And.intro ?_ ?_ | intro _))
      all_goals first | omega | skip
      all_goals rw [show j = k.toNat + 1 by omega]
  · have e : fol L k = ⟨#[]⟩ := by unfold fol; rw [if_neg (by omega)]
    rw [e]
    have hj1 : j = 0 := by omega
    subst hj1
    by_cases hle : (0 : Int) ≤ k
    · have hge : ¬ k < L.length := by omega
      (repeat' (first | refine WP.seq ?_ | refine WP.block ?_ | ((first | refine WP.region ?_ | refine WP.condW ?_ | refine WP.ret ?_ | refine WP.exit ?_ | refine WP.skip ?_); simp only [go_sem, hle, hge, folN, tyAll, Nat.reduceAdd, Nat.reduceLT, Nat.reduceLeDiff, Nat.reduceEqDiff, Nat.reduceMul, Nat.reduceSub, Nat.reduceGT, reduceIte, Int.reduceNeg, Int.reduceToNat]) |  refine And.intro ?_ ?_ | intro _))
      all_goals first | omega | skip
      all_goals trace_state
    · (repeat' (first | refine WP.seq ?_ | refine WP.block ?_ | ((first | refine WP.region ?_ | refine WP.condW ?_ | refine WP.ret ?_ | refine WP.exit ?_ | refine WP.skip ?_); simp only [go_sem, hle, folN, tyAll, Nat.reduceAdd, Nat.reduceLT, Nat.reduceLeDiff, Nat.reduceEqDiff, Nat.reduceMul, Nat.reduceSub, Nat.reduceGT, reduceIte, Int.reduceNeg, Int.reduceToNat]) |  refine And.intro ?_ ?_ | intro _))
      all_goals first | omega | skip
      all_goals trace_state
end
/-- the frames of a visit -/
def visitF (L : List Line) (V : List Int) : List Frame := V.map fun v => ⟨fol L v, v⟩
def vfr (L : List Line) (V : List Int) : List Frame := if ∃ v ∈ V, fol L v = ⟨#[]⟩ then [] else visitF L V
theorem vfr_len (L : List Line) (V : List Int) : (vfr L V).length ≤ V.length := by
  unfold vfr
  split <;> simp [visitF]
theorem visitF_succ (L : List Line) (V : List Int) (k : Nat) (h : k < V.length) : (visitF L (V.take (k + 1))).map encFrame = (visitF L (V.take k)).map encFrame ++ [[.v (.string (fol L V[k])), .v (.int .i64 V[k])]] := by
  unfold visitF
  rw [List.take_succ_eq_append_getElem h, List.map_append, List.map_append]
  rfl
def kVF : Ctr := pur (fun args => (decLine (aR args 0), decI (aR args 1))) (fun x => [.sl 4 (x.1.map encLine), .sl 1 (x.2.map encI)]) (fun x => x.1.length ≤ 1048576 ∧ x.2.length ≤ 1048576) (fun d _ => .own d) (fun d x => [(d, .sl 100 2 ((vfr x.1 x.2).map encFrame))])
section
noncomputable def cxVfI : Cx := { P := Try.prog, tys := tys, C := [(43, kFol)], hty := tysOk, hC := COk.cons cFolI (COk.nil _) }
theorem cxVfI_t : cxVfI.tys = tys := rfl
theorem cxVfI_c : cxVfI.C = [(43, kFol)] := rfl
attribute [local go_sem] cxVfI_t cxVfI_c kFol
theorem cVFI : Cn Try.prog 11 kVF := by
  refine Cn.pur Try.func11 (by kernel_rfl) rfl fun d x hx => ?_
  obtain ⟨L, V⟩ := x
  obtain ⟨hL, hV⟩ := hx
  simp only at hL hV ⊢
  refine Holds.go (c := cxVfI) Try.func11 rfl Try.results11 Try.ntmps11 (by omega) (by simp) rfl ?_
  intro X0 w0
  (repeat' (first | refine WP.seq ?_ | refine WP.block ?_ | ((first | refine WP.region ?_ | refine WP.condW ?_ | refine WP.ret ?_ | refine WP.exit ?_ | refine WP.skip ?_); simp only [go_sem, tyAll, Nat.reduceAdd, Nat.reduceLT, Nat.reduceLeDiff, Nat.reduceEqDiff, Nat.reduceMul, Nat.reduceSub, Nat.reduceGT, reduceIte, Int.reduceNeg, Int.reduceToNat]) |  refine And.intro ?_ ?_ | intro _))
  all_goals first | omega | skip
  refine WP.loop (fun k : Nat => ⟨[(0, .sl 4 (L.map encLine)), (5, .own 9), (10, .sl 1 (V.map encI)), (11, .v (.int .i64 V.length)), (12, .v (.int .i64 k))], [(9, .sl 100 2 ((visitF L (V.take k)).map encFrame))]⟩) (fun k => k ≤ V.length ∧ ∀ v ∈ V.take k, fol L v ≠ ⟨#[]⟩) (fun k => V.length - k) 0 (by simp) ?_ ?_
  · (simp only [go_sem, visitF, tyAll, Nat.reduceAdd, Nat.reduceLT, Nat.reduceLeDiff, Nat.reduceEqDiff, Nat.reduceMul, Nat.reduceSub, Nat.reduceGT, reduceIte, Int.reduceNeg, Int.reduceToNat] <;> (first | rfl | exact ⟨rfl, rfl⟩ | exact ⟨rfl, rfl, rfl⟩ | exact ⟨rfl, rfl, rfl, rfl⟩ | exact ⟨rfl, rfl, rfl, rfl, rfl⟩ | exact ⟨⟨rfl, rfl⟩, rfl⟩ | simp))
  rintro k ⟨hk, hall⟩
  by_cases hlt : k < V.length
  · have h1 := rowAt_map encI V k hlt
    have h2 := visitF_succ L V k hlt
    have h3 : (visitF L (V.take k)).length = k := by simp [visitF]; omega
    have hmem := List.getElem_mem hlt
    have htk : V.take (k + 1) = V.take k ++ [V[k]] := List.take_succ_eq_append_getElem hlt
    generalize V[k] = v at h1 h2 hmem htk
    by_cases hf : fol L v = ⟨#[]⟩
    · have e : vfr L V = [] := by unfold vfr; rw [if_pos ⟨v, hmem, hf⟩]
      rw [e]
      (repeat' (first | refine WP.seq ?_ | refine WP.block ?_ | ((first | refine WP.region ?_ | refine WP.condW ?_ | refine WP.ret ?_ | refine WP.exit ?_ | refine WP.skip ?_); simp only [go_sem, h1, encI, hf, tyAll, Nat.reduceAdd, Nat.reduceLT, Nat.reduceLeDiff, Nat.reduceEqDiff, Nat.reduceMul, Nat.reduceSub, Nat.reduceGT, reduceIte, Int.reduceNeg, Int.reduceToNat]) |  refine And.intro ?_ ?_ | intro _))
      all_goals first | omega | exact ⟨_, _, rfl⟩ | skip
      all_goals trace_state
    · (repeat' (first | refine WP.seq ?_ | refine WP.block ?_ | ((first | refine WP.region ?_ | refine WP.condW ?_ | refine WP.ret ?_ | refine WP.exit ?_ | refine WP.skip ?_); simp only [go_sem, h1, encI, hf, h3, tyAll, Nat.reduceAdd, Nat.reduceLT, Nat.reduceLeDiff, Nat.reduceEqDiff, Nat.reduceMul, Nat.reduceSub, Nat.reduceGT, reduceIte, Int.reduceNeg, Int.reduceToNat]) |  refine And.intro ?_ ?_ | intro _))
      all_goals first | omega | skip
      refine ⟨k + 1, ⟨by omega, fun q hq => ?_⟩, by omega, by rw [h2]; exact ⟨rfl, rfl⟩⟩
      rw [htk, List.mem_append, List.mem_singleton] at hq
      rcases hq with hq | rfl
      · exact hall q hq
      · exact hf
  · have e : vfr L V = visitF L (V.take k) := by
      rw [show k = V.length by omega, List.take_length] at hall ⊢
      unfold vfr
      rw [if_neg (by rintro ⟨v, hv, hf⟩; exact hall v hv hf)]
    rw [e]
    (repeat' (first | refine WP.seq ?_ | refine WP.block ?_ | ((first | refine WP.region ?_ | refine WP.condW ?_ | refine WP.ret ?_ | refine WP.exit ?_ | refine WP.skip ?_); simp only [go_sem, tyAll, Nat.reduceAdd, Nat.reduceLT, Nat.reduceLeDiff, Nat.reduceEqDiff, Nat.reduceMul, Nat.reduceSub, Nat.reduceGT, reduceIte, Int.reduceNeg, Int.reduceToNat]) |  refine And.intro ?_ ?_ | intro _))
    all_goals first | omega | skip
    all_goals trace_state
end
section
noncomputable def cxVfS : Cx := { P := Try.prog, tys := tys, C := [(41, kFol)], hty := tysOk, hC := COk.cons cFolS (COk.nil _) }
theorem cxVfS_t : cxVfS.tys = tys := rfl
theorem cxVfS_c : cxVfS.C = [(41, kFol)] := rfl
attribute [local go_sem] cxVfS_t cxVfS_c kFol
theorem cVFS : Cn Try.prog 8 kVF := by
  refine Cn.pur Try.func8 (by kernel_rfl) rfl fun d x hx => ?_
  obtain ⟨L, V⟩ := x
  obtain ⟨hL, hV⟩ := hx
  simp only at hL hV ⊢
  refine Holds.go (c := cxVfS) Try.func8 rfl Try.results8 Try.ntmps8 (by omega) (by simp) rfl ?_
  intro X0 w0
  (repeat' (first | refine WP.seq ?_ | refine WP.block ?_ | ((first | refine WP.region ?_ | refine WP.condW ?_ | refine WP.ret ?_ | refine WP.exit ?_ | refine WP.skip ?_); simp only [go_sem, tyAll, Nat.reduceAdd, Nat.reduceLT, Nat.reduceLeDiff, Nat.reduceEqDiff, Nat.reduceMul, Nat.reduceSub, Nat.reduceGT, reduceIte, Int.reduceNeg, Int.reduceToNat]) |  refine And.intro ?_ ?_ | intro _))
  all_goals first | omega | skip
  refine WP.loop (fun k : Nat => ⟨[(0, .sl 4 (L.map encLine)), (1, .sl 1 (V.map encI)), (5, .own 8), (6, .v (.int .i64 k))], [(8, .sl 100 2 ((visitF L (V.take k)).map encFrame))]⟩) (fun k => k ≤ V.length ∧ ∀ v ∈ V.take k, fol L v ≠ ⟨#[]⟩) (fun k => V.length - k) 0 (by simp) ?_ ?_
  · (simp only [go_sem, visitF, tyAll, Nat.reduceAdd, Nat.reduceLT, Nat.reduceLeDiff, Nat.reduceEqDiff, Nat.reduceMul, Nat.reduceSub, Nat.reduceGT, reduceIte, Int.reduceNeg, Int.reduceToNat] <;> (first | rfl | exact ⟨rfl, rfl⟩ | exact ⟨rfl, rfl, rfl⟩ | exact ⟨rfl, rfl, rfl, rfl⟩ | exact ⟨rfl, rfl, rfl, rfl, rfl⟩ | exact ⟨⟨rfl, rfl⟩, rfl⟩ | simp))
  rintro k ⟨hk, hall⟩
  by_cases hlt : k < V.length
  · have h1 := rowAt_map encI V k hlt
    have h2 := visitF_succ L V k hlt
    have h3 : (visitF L (V.take k)).length = k := by simp [visitF]; omega
    have hmem := List.getElem_mem hlt
    have htk : V.take (k + 1) = V.take k ++ [V[k]] := List.take_succ_eq_append_getElem hlt
    generalize V[k] = v at h1 h2 hmem htk
    by_cases hf : fol L v = ⟨#[]⟩
    · have e : vfr L V = [] := by unfold vfr; rw [if_pos ⟨v, hmem, hf⟩]
      rw [e]
      (repeat' (first | refine WP.seq ?_ | refine WP.block ?_ | ((first | refine WP.region ?_ | refine WP.condW ?_ | refine WP.ret ?_ | refine WP.exit ?_ | refine WP.skip ?_); simp only [go_sem, h1, encI, hf, tyAll, Nat.reduceAdd, Nat.reduceLT, Nat.reduceLeDiff, Nat.reduceEqDiff, Nat.reduceMul, Nat.reduceSub, Nat.reduceGT, reduceIte, Int.reduceNeg, Int.reduceToNat]) |  refine And.intro ?_ ?_ | intro _))
      all_goals first | omega | exact ⟨_, _, rfl⟩ | skip
      all_goals trace_state
    · (repeat' (first | refine WP.seq ?_ | refine WP.block ?_ | ((first | refine WP.region ?_ | refine WP.condW ?_ | refine WP.ret ?_ | refine WP.exit ?_ | refine WP.skip ?_); simp only [go_sem, h1, encI, hf, h3, tyAll, Nat.reduceAdd, Nat.reduceLT, Nat.reduceLeDiff, Nat.reduceEqDiff, Nat.reduceMul, Nat.reduceSub, Nat.reduceGT, reduceIte, Int.reduceNeg, Int.reduceToNat]) |  refine And.intro ?_ ?_ | intro _))
      all_goals first | omega | skip
      refine ⟨k + 1, ⟨by omega, fun q hq => ?_⟩, by omega, by rw [h2]; exact ⟨rfl, rfl⟩⟩
      rw [htk, List.mem_append, List.mem_singleton] at hq
      rcases hq with hq | rfl
      · exact hall q hq
      · exact hf
  · have e : vfr L V = visitF L (V.take k) := by
      rw [show k = V.length by omega, List.take_length] at hall ⊢
      unfold vfr
      rw [if_neg (by rintro ⟨v, hv, hf⟩; exact hall v hv hf)]
    rw [e]
    (repeat' (first | refine WP.seq ?_ | refine WP.block ?_ | ((first | refine WP.region ?_ | refine WP.condW ?_ | refine WP.ret ?_ | refine WP.exit ?_ | refine WP.skip ?_); simp only [go_sem, tyAll, Nat.reduceAdd, Nat.reduceLT, Nat.reduceLeDiff, Nat.reduceEqDiff, Nat.reduceMul, Nat.reduceSub, Nat.reduceGT, reduceIte, Int.reduceNeg, Int.reduceToNat]) |  refine And.intro ?_ ?_ | intro _))
    all_goals first | omega | skip
    all_goals trace_state
end
end Go.Proofs.Ytdbjioanlkilkaa
