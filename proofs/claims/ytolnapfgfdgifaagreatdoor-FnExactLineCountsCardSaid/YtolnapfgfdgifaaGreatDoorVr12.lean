/-
  DERIVED. Several texts of ours in one: VtLcI, VtLcL, VcY, VtPrR.
-/
import Derived.Test.YtolnapfgfdgifaaGreatDoorVr0
import Derived.Test.YtolnapfgfdgifaaGreatDoorVr1
import Derived.Test.YtolnapfgfdgifaaGreatDoorVr2
import Derived.Test.YtolnapfgfdgifaaGreatDoorVr3
import Derived.Test.YtolnapfgfdgifaaGreatDoorVr4
import Derived.Test.YtolnapfgfdgifaaGreatDoorVr5
import Derived.Test.YtolnapfgfdgifaaGreatDoorVr6
import Derived.Test.YtolnapfgfdgifaaGreatDoorVr7
import Derived.Test.YtolnapfgfdgifaaGreatDoorVr8
import Derived.Test.YtolnapfgfdgifaaGreatDoorVr9
import Derived.Test.YtolnapfgfdgifaaGreatDoorVr10
import Derived.Test.YtolnapfgfdgifaaGreatDoorVr11
import Derived.Deep.Strs
import Derived.Lib.SmallJoins
set_option linter.unusedSimpArgs false
set_option linter.unusedVariables false
/-
  DERIVED. LineCounts of the program.
-/
namespace Go.Proofs.YtolnapfgfdgifaaGreatDoor
open Go.Vc
set_option linter.unusedSimpArgs false
set_option linter.unusedVariables false
set_option maxHeartbeats 1000000
set_option maxRecDepth 10000
attribute [local go_sem] St.runR St.runW St.stepV offV St.step St.stepU St.stepG mkCond guardB St.prK St.pr St.prLen St.eff St.callE St.callD St.callF St.callL aI aB aS aR aC St.isM St.argL Ctr.pure Ctr.lend Ctr.move Ctr.isL Ctr.wri pur len lentBy St.lentV St.lent1 nthS argsR restOf obsR pairs swapL unObs backL St.resL erL SV.ren1 SV.up SV.up2 Ob.up St.fzL cellIds partIds St.intoRow SV.ownId St.fz SV.fz1 St.prep St.mvL St.mv SV.re1 rnOk St.prEq vals eqCells scEq Value.kd St.prStr St.prCut cutR St.bnd St.prMin St.bld isShift outL retL outJ oR oC St.ev St.get St.put St.new St.kill SV.kill SV.kill1 Ob.kill St.app St.wrt St.rowsOf St.res St.killL lk er argsL SV.strip SV.need SV.share SV.share1 SV.owns SV.owns1 SV.owns2 SV.good SV.good1 SV.rok SV.rok1 SV.rok2 SV.isV SV.isV2 nodupN SV.cells SV.one SV.pur Ob.pb partsIn rowsIn splice cellsAt dstOk scal2 scal1 thenK blockK retK outK outs okC okL okA okT nilC nilL nilA nilT keepC keepL keepA keepT St.runG St.dltK St.least St.clean St.final St.hide offK badS badO SV.refs SV.leaf SV.leaf2 Ob.refs dlOk fpAt Go.Vc.cover tups SV.ofAgg St.out outC subL St.has rng wr Value.oneCell' Option.isSome_some Option.isSome_none List.nil_append Bool.false_eq_true List.map_cons List.map_nil List.all_cons List.all_nil List.length_cons List.length_nil List.drop_zero List.drop_succ_cons List.take_succ_cons List.take_zero List.drop_nil List.take_nil List.getElem?_cons_zero List.getElem?_cons_succ List.getElem?_nil List.cons_append List.nil_append List.append_nil List.append_assoc List.flatMap_cons List.flatMap_nil List.contains_cons List.contains_nil List.set_cons_zero List.set_cons_succ List.getElem?_toArray Option.getD_some Option.getD_none Option.map_some Option.map_none Option.bind_some Option.some.injEq Prod.mk.injEq if_true if_false true_and and_true and_self and_false false_and Bool.and_false Bool.false_and Bool.or_true Bool.true_or Bool.or_false Bool.false_or ne_eq not_true_eq_false not_false_eq_true decide_true decide_false List.mem_cons List.not_mem_nil List.filter_cons List.filter_nil List.any_cons List.any_nil List.isEmpty_nil List.isEmpty_cons Option.getD_none or_false false_or true_or or_true forall_eq_or_imp forall_eq reduceCtorEq exists_eq exists_eq' exists_eq_left' exists_eq_left exists_eq_right exists_eq_right' imp_self implies_true Bool.and_true Bool.true_and Bool.and_self beq_self_eq_true List.replicate_succ List.replicate_zero forall_const false_implies pickB_or pickB_and beqT beqF Int.toNat_natCast List.length_map List.length_replicate ge_iff_le gt_iff_lt decide_eq_true_eq decide_eq_false_iff_not Bool.and_eq_true Bool.or_eq_true Bool.not_eq_true' Bool.not_eq_false' condG List.toList_toArray Bool.or_eq_false_iff Bool.and_eq_false_iff Int.not_lt Int.not_le beq_iff_eq beq_eq_false_iff_ne bne_iff_ne bne_eq_false_iff_eq ne_eq Bool.not_true Bool.not_false exists_and_left
attribute [local irreducible] Go.Vc.WP
attribute [local go_sem] cx0_t cx0_c
attribute [local go_sem] isV_Node isV_It isV_Entry isV_LineCount decNode_enc decFrame_enc oneFrame_enc stkA oneFrame_ab oneNode_abc decI_enc decS_enc aU prA decEntry_enc decLineCount_enc St.fzS addL behind
def mapTys : List (Nat × MapTy) := [(73, ⟨3, 4, .int .i64, .bool false⟩)]
theorem mapTysOk : ∀ T m, lk T mapTys = some m → MapOk Tryz.prog T m := fun T m h => by
  have hm := lk_mem h
  simp only [mapTys, List.mem_cons, Prod.mk.injEq, List.not_mem_nil, or_false] at hm
  obtain ⟨rfl, rfl⟩ := hm
  exact ⟨by kernel_rfl, by kernel_rfl, fun w => zero_run (by kernel_rfl) w⟩
theorem keyB_i (l : Int) : keyB (.int .i64) (.int .i64 l) = true := by simp [keyB]
/-- the lines met, below n -/
def seenStep (n : Int) (S : List Int) (f : Frame) : List Int := if n ≤ f.line ∨ f.line ∈ S then S else S ++ [f.line]
def seenL (n : Int) (F : List Frame) : List Int := F.foldl (seenStep n) []
theorem seenL_succ {n : Int} {F : List Frame} {i : Nat} (hi : i < F.length) : seenL n (F.take (i + 1)) = seenStep n (seenL n (F.take i)) F[i] := by
  unfold seenL; rw [List.take_succ_eq_append_getElem hi, List.foldl_append]; rfl
theorem seenL_mem {n : Int} {F : List Frame} : ∀ i, i ≤ F.length → ∀ l : Int, l ∈ seenL n (F.take i) ↔ l < n ∧ ∃ f ∈ F.take i, f.line = l
  | 0, _, l => by simp [seenL]
  | i + 1, hi, l => by
    have hlt : i < F.length := by omega
    have ih := seenL_mem (n := n) (F := F) i (by omega) l
    rw [seenL_succ hlt, List.take_succ_eq_append_getElem hlt]
    have h0 := seenL_mem (n := n) (F := F) i (by omega) F[i].line
    unfold seenStep
    constructor
    · intro h
      split at h
      · obtain ⟨h1, f, h2, h3⟩ := ih.1 h
        exact ⟨h1, f, List.mem_append_left _ h2, h3⟩
      · rename_i hc
        rcases List.mem_append.1 h with h | h
        · obtain ⟨h1, f, h2, h3⟩ := ih.1 h
          exact ⟨h1, f, List.mem_append_left _ h2, h3⟩
        · have e := List.mem_singleton.1 h
          exact ⟨by rw [e]; rcases Int.lt_or_le F[i].line n with h' | h'; exact h'; exact absurd (Or.inl h') hc, F[i], List.mem_append_right _ (List.mem_singleton.2 rfl), e.symm⟩
    · rintro ⟨h1, f, h2, h3⟩
      rcases List.mem_append.1 h2 with h2 | h2
      · have := ih.2 ⟨h1, f, h2, h3⟩
        split
        · exact this
        · exact List.mem_append_left _ this
      · have e := List.mem_singleton.1 h2
        subst e
        subst h3
        split
        · rename_i hc
          rcases hc with hc | hc
          · omega
          · exact hc
        · exact List.mem_append_right _ (List.mem_singleton.2 rfl)
theorem onLine_iff (F : List Frame) (x : Nat) : onLine F x = true ↔ ∃ f ∈ F, f.line = (x : Int) := by
  unfold onLine; simp [List.any_eq_true]
theorem seen_on {n : Int} {F : List Frame} {i : Nat} (hi : i ≤ F.length) {l : Int} (h0 : 0 ≤ l) (hl : l < n) : l ∈ seenL n (F.take i) ↔ onLine (F.take i) l.toNat = true := by
  rw [seenL_mem i hi, onLine_iff]
  have e : ((l.toNat : Nat) : Int) = l := by omega
  rw [e]
  exact ⟨fun h => h.2, fun h => ⟨hl, h⟩⟩
def lcRows (c : Int) (F : List Frame) (L : List LineCount) (i : Nat) : List LineCount := addK c (fun x => decide (i = F.length) && lastOn F x) (onLine (F.take i)) L
theorem lcRows_all (c : Int) (F : List Frame) (L : List LineCount) : lcRows c F L F.length = addK c (lastOn F) (onLine F) L := by
  unfold lcRows
  rw [List.take_length]
  exact addK_congr (fun x _ => by simp) (fun _ _ => rfl)
theorem lcRows_zero {c : Int} {F : List Frame} (hF : F ≠ []) (L : List LineCount) : lcRows c F L 0 = L := by
  unfold lcRows
  have h0 : ¬ 0 = F.length := by have := List.length_pos_iff.2 hF; omega
  exact addK_none c L (fun x _ => by simp [h0]) (fun x _ => by simp [onLine])
section
noncomputable def cxLcI : Cx := { P := Tryz.prog, tys := tys, C := [(52, kPrOk), (53, k60), (54, kEntZ), (55, kParseZ)], hty := tysOk, hC := COk.cons cPrOkI (COk.cons c60 (COk.cons cEntZI (COk.cons cParseZI (COk.nil _)))) }
theorem cxLcI_t : cxLcI.tys = tys := rfl
theorem cxLcI_c : cxLcI.C = [(52, kPrOk), (53, k60), (54, kEntZ), (55, kParseZ)] := rfl
attribute [local go_sem] cxLcI_t cxLcI_c kPrOk k60 kEntZ kParseZ
set_option maxHeartbeats 20000000 in
theorem cLcI : Cn Tryz.prog 15 kLc := by
  refine Cn.pur Tryz.func15 (by kernel_rfl) rfl fun d x hx => ?_
  obtain ⟨⟨N, C⟩, n⟩ := x
  obtain ⟨⟨hN, hs⟩, hC⟩ := hx
  simp only at hN hs hC ⊢
  have hlen := entriesOf_len N C
  refine Holds.go (c := cxLcI) Tryz.func15 rfl Tryz.results15 Tryz.ntmps15 (by omega) (by simp) rfl ?_
  intro X0 w0
  cases hok : profileOk N C with
  | false =>
    have hr : lineCounts N C n = [] := if_neg fun h => by rw [h.1] at hok; cases hok
    (repeat' (first | refine WP.seq ?_ | refine WP.block ?_ | ((first | refine WP.region ?_ | refine WP.condW ?_ | refine WP.ret ?_ | refine WP.exit ?_ | refine WP.skip ?_); simp only [go_sem, hok, hr, tyAll, Nat.reduceAdd, Nat.reduceLT, Nat.reduceLeDiff, Nat.reduceEqDiff, Nat.reduceMul, Nat.reduceSub, Nat.reduceGT, reduceIte, Int.reduceNeg, Int.reduceToNat]) | (refine WP.flowW 8 [⟨[5], [], [], [], [], []⟩, ⟨[12], [], [], [], [], []⟩, ⟨[57], [1], [], [], [], []⟩, ⟨[56, 58], [0, 1, 2], [], [], [], []⟩, ⟨[59], [0, 1, 2, 3], [], [], [], []⟩, ⟨[60], [0, 1, 2, 3, 4], [], [], [], []⟩, ⟨[7], [], [], [], [], []⟩, ⟨[62], [6], [], [], [], []⟩, ⟨[], [0, 1, 2, 3, 4, 5, 6, 7], [], [], [], []⟩, ⟨[], [0, 1, 2, 3, 4, 5, 6, 7, 8], [], [], [], []⟩, ⟨[], [0, 1, 2, 3, 4, 5, 6, 7, 8, 9], [], [], [], []⟩, ⟨[], [0, 1, 2, 3, 4, 5, 6, 7, 8, 9, 10], [], [], [], []⟩] [56, 57, 58, 59, 60, 61, 62, 63] [] [] (by decide +kernel) (by kernel_rfl) (by kernel_rfl) (by kernel_rfl) ?_; simp only [go_sem, hok, hr, tyAll, Nat.reduceAdd, Nat.reduceLT, Nat.reduceLeDiff, Nat.reduceEqDiff, Nat.reduceMul, Nat.reduceSub, Nat.reduceGT, reduceIte, Int.reduceNeg, Int.reduceToNat]) | (refine WP.flowW 8 [⟨[5], [], [], [], [], []⟩, ⟨[12], [], [], [], [], []⟩, ⟨[73], [1], [], [], [], []⟩, ⟨[72, 74], [0, 1, 2], [], [], [], []⟩, ⟨[75], [0, 1, 2, 3], [], [], [], []⟩, ⟨[76], [0, 1, 2, 3, 4], [], [], [], []⟩, ⟨[7], [], [], [], [], []⟩, ⟨[78], [6], [], [], [], []⟩, ⟨[], [0, 1, 2, 3, 4, 5, 6, 7], [], [], [], []⟩, ⟨[], [0, 1, 2, 3, 4, 5, 6, 7, 8], [], [], [], []⟩, ⟨[], [0, 1, 2, 3, 4, 5, 6, 7, 8, 9], [], [], [], []⟩, ⟨[], [0, 1, 2, 3, 4, 5, 6, 7, 8, 9, 10], [], [], [], []⟩] [72, 73, 74, 75, 76, 77, 78, 79] [] [] (by decide +kernel) (by kernel_rfl) (by kernel_rfl) (by kernel_rfl) ?_; simp only [go_sem, hok, hr, tyAll, Nat.reduceAdd, Nat.reduceLT, Nat.reduceLeDiff, Nat.reduceEqDiff, Nat.reduceMul, Nat.reduceSub, Nat.reduceGT, reduceIte, Int.reduceNeg, Int.reduceToNat]) |  refine And.intro ?_ ?_ | intro _))
    all_goals first | omega | (simp only; omega) | exact Nat.le_trans (hs _ ‹_›) (by omega) | exact ⟨_, _, _, rfl⟩ | exact ⟨_, _, rfl⟩ | skip
    all_goals trace_state
  | true =>
  by_cases hrg : 0 ≤ n ∧ n ≤ 60
  rotate_left
  · have hr : lineCounts N C n = [] := if_neg fun h => hrg h.2
    have hrb : (decide (0 ≤ n) && decide (n ≤ 60)) = false := by
      rw [Bool.and_eq_false_iff, decide_eq_false_iff_not, decide_eq_false_iff_not]; omega
    (repeat' (first | refine WP.seq ?_ | refine WP.block ?_ | ((first | refine WP.region ?_ | refine WP.condW ?_ | refine WP.ret ?_ | refine WP.exit ?_ | refine WP.skip ?_); simp only [go_sem, hok, hr, hrb, tyAll, Nat.reduceAdd, Nat.reduceLT, Nat.reduceLeDiff, Nat.reduceEqDiff, Nat.reduceMul, Nat.reduceSub, Nat.reduceGT, reduceIte, Int.reduceNeg, Int.reduceToNat]) | (refine WP.flowW 8 [⟨[5], [], [], [], [], []⟩, ⟨[12], [], [], [], [], []⟩, ⟨[57], [1], [], [], [], []⟩, ⟨[56, 58], [0, 1, 2], [], [], [], []⟩, ⟨[59], [0, 1, 2, 3], [], [], [], []⟩, ⟨[60], [0, 1, 2, 3, 4], [], [], [], []⟩, ⟨[7], [], [], [], [], []⟩, ⟨[62], [6], [], [], [], []⟩, ⟨[], [0, 1, 2, 3, 4, 5, 6, 7], [], [], [], []⟩, ⟨[], [0, 1, 2, 3, 4, 5, 6, 7, 8], [], [], [], []⟩, ⟨[], [0, 1, 2, 3, 4, 5, 6, 7, 8, 9], [], [], [], []⟩, ⟨[], [0, 1, 2, 3, 4, 5, 6, 7, 8, 9, 10], [], [], [], []⟩] [56, 57, 58, 59, 60, 61, 62, 63] [] [] (by decide +kernel) (by kernel_rfl) (by kernel_rfl) (by kernel_rfl) ?_; simp only [go_sem, hok, hr, hrb, tyAll, Nat.reduceAdd, Nat.reduceLT, Nat.reduceLeDiff, Nat.reduceEqDiff, Nat.reduceMul, Nat.reduceSub, Nat.reduceGT, reduceIte, Int.reduceNeg, Int.reduceToNat]) | (refine WP.flowW 8 [⟨[5], [], [], [], [], []⟩, ⟨[12], [], [], [], [], []⟩, ⟨[73], [1], [], [], [], []⟩, ⟨[72, 74], [0, 1, 2], [], [], [], []⟩, ⟨[75], [0, 1, 2, 3], [], [], [], []⟩, ⟨[76], [0, 1, 2, 3, 4], [], [], [], []⟩, ⟨[7], [], [], [], [], []⟩, ⟨[78], [6], [], [], [], []⟩, ⟨[], [0, 1, 2, 3, 4, 5, 6, 7], [], [], [], []⟩, ⟨[], [0, 1, 2, 3, 4, 5, 6, 7, 8], [], [], [], []⟩, ⟨[], [0, 1, 2, 3, 4, 5, 6, 7, 8, 9], [], [], [], []⟩, ⟨[], [0, 1, 2, 3, 4, 5, 6, 7, 8, 9, 10], [], [], [], []⟩] [72, 73, 74, 75, 76, 77, 78, 79] [] [] (by decide +kernel) (by kernel_rfl) (by kernel_rfl) (by kernel_rfl) ?_; simp only [go_sem, hok, hr, hrb, tyAll, Nat.reduceAdd, Nat.reduceLT, Nat.reduceLeDiff, Nat.reduceEqDiff, Nat.reduceMul, Nat.reduceSub, Nat.reduceGT, reduceIte, Int.reduceNeg, Int.reduceToNat]) |  refine And.intro ?_ ?_ | intro _))
    all_goals first | omega | (simp only; omega) | exact Nat.le_trans (hs _ ‹_›) (by omega) | exact ⟨_, _, _, rfl⟩ | exact ⟨_, _, rfl⟩ | skip
    all_goals trace_state
  obtain ⟨c2, c3⟩ := hrg
  have hr : lineCounts N C n = lcGo (entriesOf N C) (List.replicate n.toNat ⟨0, 0⟩) := if_pos ⟨hok, c2, c3⟩
  rw [hr]
  have hz := zerLc n.toNat
  (repeat' (first | refine WP.seq ?_ | refine WP.block ?_ | ((first | refine WP.region ?_ | refine WP.condW ?_ | refine WP.ret ?_ | refine WP.exit ?_ | refine WP.skip ?_); simp only [go_sem, hok, c2, c3, hz, tyAll, Nat.reduceAdd, Nat.reduceLT, Nat.reduceLeDiff, Nat.reduceEqDiff, Nat.reduceMul, Nat.reduceSub, Nat.reduceGT, reduceIte, Int.reduceNeg, Int.reduceToNat]) | (refine WP.flowW 8 [⟨[5], [], [], [], [], []⟩, ⟨[12], [], [], [], [], []⟩, ⟨[57], [1], [], [], [], []⟩, ⟨[56, 58], [0, 1, 2], [], [], [], []⟩, ⟨[59], [0, 1, 2, 3], [], [], [], []⟩, ⟨[60], [0, 1, 2, 3, 4], [], [], [], []⟩, ⟨[7], [], [], [], [], []⟩, ⟨[62], [6], [], [], [], []⟩, ⟨[], [0, 1, 2, 3, 4, 5, 6, 7], [], [], [], []⟩, ⟨[], [0, 1, 2, 3, 4, 5, 6, 7, 8], [], [], [], []⟩, ⟨[], [0, 1, 2, 3, 4, 5, 6, 7, 8, 9], [], [], [], []⟩, ⟨[], [0, 1, 2, 3, 4, 5, 6, 7, 8, 9, 10], [], [], [], []⟩] [56, 57, 58, 59, 60, 61, 62, 63] [] [] (by decide +kernel) (by kernel_rfl) (by kernel_rfl) (by kernel_rfl) ?_; simp only [go_sem, hok, c2, c3, hz, tyAll, Nat.reduceAdd, Nat.reduceLT, Nat.reduceLeDiff, Nat.reduceEqDiff, Nat.reduceMul, Nat.reduceSub, Nat.reduceGT, reduceIte, Int.reduceNeg, Int.reduceToNat]) | (refine WP.flowW 8 [⟨[5], [], [], [], [], []⟩, ⟨[12], [], [], [], [], []⟩, ⟨[73], [1], [], [], [], []⟩, ⟨[72, 74], [0, 1, 2], [], [], [], []⟩, ⟨[75], [0, 1, 2, 3], [], [], [], []⟩, ⟨[76], [0, 1, 2, 3, 4], [], [], [], []⟩, ⟨[7], [], [], [], [], []⟩, ⟨[78], [6], [], [], [], []⟩, ⟨[], [0, 1, 2, 3, 4, 5, 6, 7], [], [], [], []⟩, ⟨[], [0, 1, 2, 3, 4, 5, 6, 7, 8], [], [], [], []⟩, ⟨[], [0, 1, 2, 3, 4, 5, 6, 7, 8, 9], [], [], [], []⟩, ⟨[], [0, 1, 2, 3, 4, 5, 6, 7, 8, 9, 10], [], [], [], []⟩] [72, 73, 74, 75, 76, 77, 78, 79] [] [] (by decide +kernel) (by kernel_rfl) (by kernel_rfl) (by kernel_rfl) ?_; simp only [go_sem, hok, c2, c3, hz, tyAll, Nat.reduceAdd, Nat.reduceLT, Nat.reduceLeDiff, Nat.reduceEqDiff, Nat.reduceMul, Nat.reduceSub, Nat.reduceGT, reduceIte, Int.reduceNeg, Int.reduceToNat]) |  refine And.intro ?_ ?_ | intro _))
  all_goals first | omega | (simp only; omega) | exact Nat.le_trans (hs _ ‹_›) (by omega) | exact ⟨_, _, _, rfl⟩ | skip
  have hZl : (List.replicate n.toNat (⟨0, 0⟩ : LineCount)).length = n.toNat := List.length_replicate ..
  refine WP.loop (fun k : Nat => ⟨[(1, .v (.int .i64 n)), (5, .own 22), (24, .sl 2 ((entriesOf N C).map encEntry)), (25, .v (.int .i64 (entriesOf N C).length)), (26, .v (.int .i64 k))], [(22, .sl 70 2 ((lcGo ((entriesOf N C).take k) (List.replicate n.toNat ⟨0, 0⟩)).map encLineCount))]⟩)
    (fun k => k ≤ (entriesOf N C).length) (fun k => (entriesOf N C).length - k) 0 (by simp) ?_ ?_
  · (simp only [go_sem, tyAll, Nat.reduceAdd, Nat.reduceLT, Nat.reduceLeDiff, Nat.reduceEqDiff, Nat.reduceMul, Nat.reduceSub, Nat.reduceGT, reduceIte, Int.reduceNeg, Int.reduceToNat] <;> (first | rfl | exact ⟨rfl, rfl⟩ | exact ⟨rfl, rfl, rfl⟩ | exact ⟨rfl, rfl, rfl, rfl⟩ | exact ⟨rfl, rfl, rfl, rfl, rfl⟩ | exact ⟨⟨rfl, rfl⟩, rfl⟩ | simp))
  intro k hk
  have hLl := lcGo_len ((entriesOf N C).take k) (List.replicate n.toNat ⟨0, 0⟩)
  rw [hZl] at hLl
  by_cases hkl : k < (entriesOf N C).length
  rotate_left
  · have hge : ¬ (k : Int) < (entriesOf N C).length := by omega
    have hke : k = (entriesOf N C).length := by omega
    subst hke
    rw [List.take_length]
    (repeat' (first | refine WP.seq ?_ | refine WP.block ?_ | ((first | refine WP.region ?_ | refine WP.condW ?_ | refine WP.ret ?_ | refine WP.exit ?_ | refine WP.skip ?_); simp only [go_sem, hge, tyAll, Nat.reduceAdd, Nat.reduceLT, Nat.reduceLeDiff, Nat.reduceEqDiff, Nat.reduceMul, Nat.reduceSub, Nat.reduceGT, reduceIte, Int.reduceNeg, Int.reduceToNat]) | (refine WP.flowW 8 [⟨[5], [], [], [], [], []⟩, ⟨[12], [], [], [], [], []⟩, ⟨[57], [1], [], [], [], []⟩, ⟨[56, 58], [0, 1, 2], [], [], [], []⟩, ⟨[59], [0, 1, 2, 3], [], [], [], []⟩, ⟨[60], [0, 1, 2, 3, 4], [], [], [], []⟩, ⟨[7], [], [], [], [], []⟩, ⟨[62], [6], [], [], [], []⟩, ⟨[], [0, 1, 2, 3, 4, 5, 6, 7], [], [], [], []⟩, ⟨[], [0, 1, 2, 3, 4, 5, 6, 7, 8], [], [], [], []⟩, ⟨[], [0, 1, 2, 3, 4, 5, 6, 7, 8, 9], [], [], [], []⟩, ⟨[], [0, 1, 2, 3, 4, 5, 6, 7, 8, 9, 10], [], [], [], []⟩] [56, 57, 58, 59, 60, 61, 62, 63] [] [] (by decide +kernel) (by kernel_rfl) (by kernel_rfl) (by kernel_rfl) ?_; simp only [go_sem, hge, tyAll, Nat.reduceAdd, Nat.reduceLT, Nat.reduceLeDiff, Nat.reduceEqDiff, Nat.reduceMul, Nat.reduceSub, Nat.reduceGT, reduceIte, Int.reduceNeg, Int.reduceToNat]) | (refine WP.flowW 8 [⟨[5], [], [], [], [], []⟩, ⟨[12], [], [], [], [], []⟩, ⟨[73], [1], [], [], [], []⟩, ⟨[72, 74], [0, 1, 2], [], [], [], []⟩, ⟨[75], [0, 1, 2, 3], [], [], [], []⟩, ⟨[76], [0, 1, 2, 3, 4], [], [], [], []⟩, ⟨[7], [], [], [], [], []⟩, ⟨[78], [6], [], [], [], []⟩, ⟨[], [0, 1, 2, 3, 4, 5, 6, 7], [], [], [], []⟩, ⟨[], [0, 1, 2, 3, 4, 5, 6, 7, 8], [], [], [], []⟩, ⟨[], [0, 1, 2, 3, 4, 5, 6, 7, 8, 9], [], [], [], []⟩, ⟨[], [0, 1, 2, 3, 4, 5, 6, 7, 8, 9, 10], [], [], [], []⟩] [72, 73, 74, 75, 76, 77, 78, 79] [] [] (by decide +kernel) (by kernel_rfl) (by kernel_rfl) (by kernel_rfl) ?_; simp only [go_sem, hge, tyAll, Nat.reduceAdd, Nat.reduceLT, Nat.reduceLeDiff, Nat.reduceEqDiff, Nat.reduceMul, Nat.reduceSub, Nat.reduceGT, reduceIte, Int.reduceNeg, Int.reduceToNat]) |  refine And.intro ?_ ?_ | intro _))
    all_goals first | omega | skip
    all_goals trace_state
  have hki : (k : Int) < (entriesOf N C).length := by omega
  have hE := rowAt_map encEntry (entriesOf N C) k hkl
  have hmem := List.getElem_mem hkl
  obtain ⟨z1, z2, z3⟩ := ent_sizes hN hmem
  have hF0 := (ent_frs hmem).1
  have hFo := List.all_eq_true.1 (ent_frs hmem).2.2.1
  have hsu := lcGo_succ hkl (List.replicate n.toNat ⟨0, 0⟩)
  have hB := lc_LB (E := entriesOf N C) ent_pos n.toNat k (by omega)
  have hc := ent_pos _ hmem
  have hss := sumE_succ hkl
  have hst := (sumE_take_le (E := entriesOf N C) ent_pos (k + 1)).2
  rw [sumE_entries] at hst
  have htb := totalOf_bound N C
  have hfr : (parseF (entriesOf N C)[k].stack).getD [] = frsE (entriesOf N C)[k] := rfl
  unfold lineAdd at hsu
  generalize frsE (entriesOf N C)[k] = F at hsu hF0 hFo z2 z3 hfr
  generalize hcE : (entriesOf N C)[k].count = c at hc hss hsu
  generalize lcGo ((entriesOf N C).take k) (List.replicate n.toNat ⟨0, 0⟩) = L at hB hsu hLl ⊢
  generalize sumE ((entriesOf N C).take k) = S at hB hss
  generalize sumE ((entriesOf N C).take (k + 1)) = S1 at hss hst
  have hFl : 0 < F.length := List.length_pos_iff.2 hF0
  rw [← lcRows_all] at hsu
  (repeat' (first | (refine WP.regionM (id := 8) mapTys mapTysOk ?_; simp only [go_sem, hki, hE, encEntry, hfr, hcE, St.runM, St.stepM, mapTys, Option.isNone_none, dstOk, keyB_i, tyAll, Nat.reduceAdd, Nat.reduceLT, Nat.reduceLeDiff, Nat.reduceEqDiff, Nat.reduceMul, Nat.reduceSub, Nat.reduceGT, reduceIte, Int.reduceNeg, Int.reduceToNat]) | refine WP.seq ?_ | refine WP.block ?_ | ((first | refine WP.region ?_ | refine WP.condW ?_ | refine WP.ret ?_ | refine WP.exit ?_ | refine WP.skip ?_); simp only [go_sem, hki, hE, encEntry, hfr, hcE, St.runM, St.stepM, mapTys, Option.isNone_none, dstOk, keyB_i, tyAll, Nat.reduceAdd, Nat.reduceLT, Nat.reduceLeDiff, Nat.reduceEqDiff, Nat.reduceMul, Nat.reduceSub, Nat.reduceGT, reduceIte, Int.reduceNeg, Int.reduceToNat]) | (refine WP.flowW 8 [⟨[5], [], [], [], [], []⟩, ⟨[12], [], [], [], [], []⟩, ⟨[57], [1], [], [], [], []⟩, ⟨[56, 58], [0, 1, 2], [], [], [], []⟩, ⟨[59], [0, 1, 2, 3], [], [], [], []⟩, ⟨[60], [0, 1, 2, 3, 4], [], [], [], []⟩, ⟨[7], [], [], [], [], []⟩, ⟨[62], [6], [], [], [], []⟩, ⟨[], [0, 1, 2, 3, 4, 5, 6, 7], [], [], [], []⟩, ⟨[], [0, 1, 2, 3, 4, 5, 6, 7, 8], [], [], [], []⟩, ⟨[], [0, 1, 2, 3, 4, 5, 6, 7, 8, 9], [], [], [], []⟩, ⟨[], [0, 1, 2, 3, 4, 5, 6, 7, 8, 9, 10], [], [], [], []⟩] [56, 57, 58, 59, 60, 61, 62, 63] [] [] (by decide +kernel) (by kernel_rfl) (by kernel_rfl) (by kernel_rfl) ?_; simp only [go_sem, hki, hE, encEntry, hfr, hcE, St.runM, St.stepM, mapTys, Option.isNone_none, dstOk, keyB_i, tyAll, Nat.reduceAdd, Nat.reduceLT, Nat.reduceLeDiff, Nat.reduceEqDiff, Nat.reduceMul, Nat.reduceSub, Nat.reduceGT, reduceIte, Int.reduceNeg, Int.reduceToNat]) | (refine WP.flowW 8 [⟨[5], [], [], [], [], []⟩, ⟨[12], [], [], [], [], []⟩, ⟨[73], [1], [], [], [], []⟩, ⟨[72, 74], [0, 1, 2], [], [], [], []⟩, ⟨[75], [0, 1, 2, 3], [], [], [], []⟩, ⟨[76], [0, 1, 2, 3, 4], [], [], [], []⟩, ⟨[7], [], [], [], [], []⟩, ⟨[78], [6], [], [], [], []⟩, ⟨[], [0, 1, 2, 3, 4, 5, 6, 7], [], [], [], []⟩, ⟨[], [0, 1, 2, 3, 4, 5, 6, 7, 8], [], [], [], []⟩, ⟨[], [0, 1, 2, 3, 4, 5, 6, 7, 8, 9], [], [], [], []⟩, ⟨[], [0, 1, 2, 3, 4, 5, 6, 7, 8, 9, 10], [], [], [], []⟩] [72, 73, 74, 75, 76, 77, 78, 79] [] [] (by decide +kernel) (by kernel_rfl) (by kernel_rfl) (by kernel_rfl) ?_; simp only [go_sem, hki, hE, encEntry, hfr, hcE, St.runM, St.stepM, mapTys, Option.isNone_none, dstOk, keyB_i, tyAll, Nat.reduceAdd, Nat.reduceLT, Nat.reduceLeDiff, Nat.reduceEqDiff, Nat.reduceMul, Nat.reduceSub, Nat.reduceGT, reduceIte, Int.reduceNeg, Int.reduceToNat]) |  refine And.intro ?_ ?_ | intro _))
  all_goals first | omega | exact ⟨_, _, _, rfl⟩ | skip
  refine WP.loop (fun i : Nat => ⟨[(1, .v (.int .i64 n)), (5, .own 22), (7, .ptr 7 0 0 0), (8, .sl 2 (F.map encFrame)), (10, .own 36), (24, .sl 2 ((entriesOf N C).map encEntry)), (25, .v (.int .i64 (entriesOf N C).length)), (26, .v (.int .i64 k)), (37, .sl 2 (F.map encFrame)), (38, .v (.int .i64 F.length)), (39, .v (.int .i64 i))], [(7, .box 66 [.v (.string (entriesOf N C)[k].stack), .v (.int .i64 c)]), (36, .mp 73 ((seenL n (F.take i)).map setE)), (22, .sl 70 2 ((lcRows c F L i).map encLineCount))]⟩)
    (fun i => i ≤ F.length) (fun i => F.length - i) 0 (by simp) ?_ ?_
  · rw [lcRows_zero hF0]; (simp only [go_sem, tyAll, Nat.reduceAdd, Nat.reduceLT, Nat.reduceLeDiff, Nat.reduceEqDiff, Nat.reduceMul, Nat.reduceSub, Nat.reduceGT, reduceIte, Int.reduceNeg, Int.reduceToNat] <;> (first | rfl | exact ⟨rfl, rfl⟩ | exact ⟨rfl, rfl, rfl⟩ | exact ⟨rfl, rfl, rfl, rfl⟩ | exact ⟨rfl, rfl, rfl, rfl, rfl⟩ | exact ⟨⟨rfl, rfl⟩, rfl⟩ | simp))
  intro i hi
  by_cases hil : i < F.length
  rotate_left
  · have hge : ¬ (i : Int) < F.length := by omega
    have hie : i = F.length := by omega
    subst hie
    rw [← hsu]
    (repeat' (first | refine WP.seq ?_ | refine WP.block ?_ | ((first | refine WP.region ?_ | refine WP.condW ?_ | refine WP.ret ?_ | refine WP.exit ?_ | refine WP.skip ?_); simp only [go_sem, hge, tyAll, Nat.reduceAdd, Nat.reduceLT, Nat.reduceLeDiff, Nat.reduceEqDiff, Nat.reduceMul, Nat.reduceSub, Nat.reduceGT, reduceIte, Int.reduceNeg, Int.reduceToNat]) | (refine WP.flowW 8 [⟨[5], [], [], [], [], []⟩, ⟨[12], [], [], [], [], []⟩, ⟨[57], [1], [], [], [], []⟩, ⟨[56, 58], [0, 1, 2], [], [], [], []⟩, ⟨[59], [0, 1, 2, 3], [], [], [], []⟩, ⟨[60], [0, 1, 2, 3, 4], [], [], [], []⟩, ⟨[7], [], [], [], [], []⟩, ⟨[62], [6], [], [], [], []⟩, ⟨[], [0, 1, 2, 3, 4, 5, 6, 7], [], [], [], []⟩, ⟨[], [0, 1, 2, 3, 4, 5, 6, 7, 8], [], [], [], []⟩, ⟨[], [0, 1, 2, 3, 4, 5, 6, 7, 8, 9], [], [], [], []⟩, ⟨[], [0, 1, 2, 3, 4, 5, 6, 7, 8, 9, 10], [], [], [], []⟩] [56, 57, 58, 59, 60, 61, 62, 63] [] [] (by decide +kernel) (by kernel_rfl) (by kernel_rfl) (by kernel_rfl) ?_; simp only [go_sem, hge, tyAll, Nat.reduceAdd, Nat.reduceLT, Nat.reduceLeDiff, Nat.reduceEqDiff, Nat.reduceMul, Nat.reduceSub, Nat.reduceGT, reduceIte, Int.reduceNeg, Int.reduceToNat]) | (refine WP.flowW 8 [⟨[5], [], [], [], [], []⟩, ⟨[12], [], [], [], [], []⟩, ⟨[73], [1], [], [], [], []⟩, ⟨[72, 74], [0, 1, 2], [], [], [], []⟩, ⟨[75], [0, 1, 2, 3], [], [], [], []⟩, ⟨[76], [0, 1, 2, 3, 4], [], [], [], []⟩, ⟨[7], [], [], [], [], []⟩, ⟨[78], [6], [], [], [], []⟩, ⟨[], [0, 1, 2, 3, 4, 5, 6, 7], [], [], [], []⟩, ⟨[], [0, 1, 2, 3, 4, 5, 6, 7, 8], [], [], [], []⟩, ⟨[], [0, 1, 2, 3, 4, 5, 6, 7, 8, 9], [], [], [], []⟩, ⟨[], [0, 1, 2, 3, 4, 5, 6, 7, 8, 9, 10], [], [], [], []⟩] [72, 73, 74, 75, 76, 77, 78, 79] [] [] (by decide +kernel) (by kernel_rfl) (by kernel_rfl) (by kernel_rfl) ?_; simp only [go_sem, hge, tyAll, Nat.reduceAdd, Nat.reduceLT, Nat.reduceLeDiff, Nat.reduceEqDiff, Nat.reduceMul, Nat.reduceSub, Nat.reduceGT, reduceIte, Int.reduceNeg, Int.reduceToNat]) |  refine And.intro ?_ ?_ | intro _))
    all_goals first | omega | skip
    all_goals first | exact ⟨k + 1, by omega, by omega, by (first | rfl | exact ⟨rfl, rfl⟩ | exact ⟨rfl, rfl, rfl⟩ | exact ⟨rfl, rfl, rfl, rfl⟩ | exact ⟨rfl, rfl, rfl, rfl, rfl⟩ | exact ⟨⟨rfl, rfl⟩, rfl⟩ | simp)⟩ | trace_state
  have hii : (i : Int) < F.length := by omega
  have h1 := rowAt_map encFrame F i hil
  have hln := frOk_iff.1 (hFo _ (List.getElem_mem hil))
  have hl0 := hln.2.1
  have hsm := seenL_succ (n := n) hil
  have hos : ∀ x, onLine (F.take (i + 1)) x = (onLine (F.take i) x || decide (F[i].line = (x : Int))) := onLine_succ hil
  have hla : i + 1 = F.length → ∀ x, lastOn F x = decide (F[i].line = (x : Int)) := by
    intro h x
    rw [lastOn_at hF0 x]
    have : F.length - 1 = i := by omega
    simp only [this]
  have hne : ¬ i = F.length := by omega
  have hsucc : ∀ (u v : Nat → Bool), (∀ x, x < L.length → u x = (decide (i + 1 = F.length) && lastOn F x)) → (∀ x, x < L.length → v x = onLine (F.take (i + 1)) x) → addK c u v L = lcRows c F L (i + 1) := fun u v h1 h2 => addK_congr h1 h2
  by_cases hnl : n ≤ F[i].line
  · have hst1 : seenL n (F.take (i + 1)) = seenL n (F.take i) := by rw [hsm]; exact if_pos (Or.inl hnl)
    have hfin : lcRows c F L i = lcRows c F L (i + 1) := hsucc _ _ (fun x hx => by
      have : ¬ F[i].line = (x : Int) := by omega
      by_cases h : i + 1 = F.length
      · simp [hne, hla h, this]
      · simp [hne, h]) (fun x hx => by
      have : ¬ F[i].line = (x : Int) := by omega
      simp [hos, this])
    (repeat' (first | (refine WP.regionM (id := 13) mapTys mapTysOk ?_; simp only [go_sem, hii, h1, encFrame, hnl, St.runM, St.stepM, mapTys, Option.isNone_none, dstOk, keyB_i, tyAll, Nat.reduceAdd, Nat.reduceLT, Nat.reduceLeDiff, Nat.reduceEqDiff, Nat.reduceMul, Nat.reduceSub, Nat.reduceGT, reduceIte, Int.reduceNeg, Int.reduceToNat]) | (refine WP.regionM (id := 14) mapTys mapTysOk ?_; simp only [go_sem, hii, h1, encFrame, hnl, St.runM, St.stepM, mapTys, Option.isNone_none, dstOk, keyB_i, tyAll, Nat.reduceAdd, Nat.reduceLT, Nat.reduceLeDiff, Nat.reduceEqDiff, Nat.reduceMul, Nat.reduceSub, Nat.reduceGT, reduceIte, Int.reduceNeg, Int.reduceToNat]) | refine WP.seq ?_ | refine WP.block ?_ | ((first | refine WP.region ?_ | refine WP.condW ?_ | refine WP.ret ?_ | refine WP.exit ?_ | refine WP.skip ?_); simp only [go_sem, hii, h1, encFrame, hnl, St.runM, St.stepM, mapTys, Option.isNone_none, dstOk, keyB_i, tyAll, Nat.reduceAdd, Nat.reduceLT, Nat.reduceLeDiff, Nat.reduceEqDiff, Nat.reduceMul, Nat.reduceSub, Nat.reduceGT, reduceIte, Int.reduceNeg, Int.reduceToNat]) | (refine WP.flowW 8 [⟨[5], [], [], [], [], []⟩, ⟨[12], [], [], [], [], []⟩, ⟨[57], [1], [], [], [], []⟩, ⟨[56, 58], [0, 1, 2], [], [], [], []⟩, ⟨[59], [0, 1, 2, 3], [], [], [], []⟩, ⟨[60], [0, 1, 2, 3, 4], [], [], [], []⟩, ⟨[7], [], [], [], [], []⟩, ⟨[62], [6], [], [], [], []⟩, ⟨[], [0, 1, 2, 3, 4, 5, 6, 7], [], [], [], []⟩, ⟨[], [0, 1, 2, 3, 4, 5, 6, 7, 8], [], [], [], []⟩, ⟨[], [0, 1, 2, 3, 4, 5, 6, 7, 8, 9], [], [], [], []⟩, ⟨[], [0, 1, 2, 3, 4, 5, 6, 7, 8, 9, 10], [], [], [], []⟩] [56, 57, 58, 59, 60, 61, 62, 63] [] [] (by decide +kernel) (by kernel_rfl) (by kernel_rfl) (by kernel_rfl) ?_; simp only [go_sem, hii, h1, encFrame, hnl, St.runM, St.stepM, mapTys, Option.isNone_none, dstOk, keyB_i, tyAll, Nat.reduceAdd, Nat.reduceLT, Nat.reduceLeDiff, Nat.reduceEqDiff, Nat.reduceMul, Nat.reduceSub, Nat.reduceGT, reduceIte, Int.reduceNeg, Int.reduceToNat]) | (refine WP.flowW 8 [⟨[5], [], [], [], [], []⟩, ⟨[12], [], [], [], [], []⟩, ⟨[73], [1], [], [], [], []⟩, ⟨[72, 74], [0, 1, 2], [], [], [], []⟩, ⟨[75], [0, 1, 2, 3], [], [], [], []⟩, ⟨[76], [0, 1, 2, 3, 4], [], [], [], []⟩, ⟨[7], [], [], [], [], []⟩, ⟨[78], [6], [], [], [], []⟩, ⟨[], [0, 1, 2, 3, 4, 5, 6, 7], [], [], [], []⟩, ⟨[], [0, 1, 2, 3, 4, 5, 6, 7, 8], [], [], [], []⟩, ⟨[], [0, 1, 2, 3, 4, 5, 6, 7, 8, 9], [], [], [], []⟩, ⟨[], [0, 1, 2, 3, 4, 5, 6, 7, 8, 9, 10], [], [], [], []⟩] [72, 73, 74, 75, 76, 77, 78, 79] [] [] (by decide +kernel) (by kernel_rfl) (by kernel_rfl) (by kernel_rfl) ?_; simp only [go_sem, hii, h1, encFrame, hnl, St.runM, St.stepM, mapTys, Option.isNone_none, dstOk, keyB_i, tyAll, Nat.reduceAdd, Nat.reduceLT, Nat.reduceLeDiff, Nat.reduceEqDiff, Nat.reduceMul, Nat.reduceSub, Nat.reduceGT, reduceIte, Int.reduceNeg, Int.reduceToNat]) |  refine And.intro ?_ ?_ | intro _))
    all_goals first | omega | skip
    all_goals first | exact ⟨i + 1, by omega, by omega, by simp only [← hfin, hst1]; (first | rfl | exact ⟨rfl, rfl⟩ | exact ⟨rfl, rfl, rfl⟩ | exact ⟨rfl, rfl, rfl, rfl⟩ | exact ⟨rfl, rfl, rfl, rfl, rfl⟩ | exact ⟨⟨rfl, rfl⟩, rfl⟩ | simp)⟩ | trace_state
  have hnlT : ¬ n ≤ F[i].line := hnl
  have hlt : F[i].line < n := by omega
  have hp : F[i].line.toNat < L.length := by omega
  have hxp : ∀ x : Nat, (F[i].line = (x : Int)) ↔ x = F[i].line.toNat := fun x => by omega
  have hbr := hB _ (List.getElem_mem hp)
  have s0 : (fun x => decide (i = F.length) && lastOn F x) F[i].line.toNat = false := by simp [hne]
  have hmg : mget (.int .i64 F[i].line) ((seenL n (F.take i)).map setE) (.bool false) = .bool (decide (F[i].line ∈ seenL n (F.take i))) := mget_set _ _
  have hkb := keyB_set (seenL n (F.take i))
  have hso := seen_on (n := n) (F := F) (i := i) (by omega) hl0 hlt
  have gl := addK_len c (fun x => decide (i = F.length) && lastOn F x) (onLine (F.take i)) L
  have gl1 := addK_len c (fun x => decide (i = F.length) && lastOn F x) (fun x => onLine (F.take i) x || decide (x = F[i].line.toNat)) L
  by_cases hse : F[i].line ∈ seenL n (F.take i)
  · have hst1 : seenL n (F.take (i + 1)) = seenL n (F.take i) := by rw [hsm]; exact if_pos (Or.inr hse)
    have ho := hso.1 hse
    have hseT : (F[i].line ∈ seenL n (F.take i)) = True := eq_true hse
    have hos' : ∀ x, onLine (F.take (i + 1)) x = onLine (F.take i) x := by
      intro x
      rw [hos]
      by_cases hx : F[i].line = (x : Int)
      · rw [(hxp x).1 hx, ho, Bool.true_or]
      · simp [hx]
    have t0 : onLine (F.take i) F[i].line.toNat = true := ho
    have g1 := lc_row1 (c := c) (L := L) (s := fun x => decide (i = F.length) && lastOn F x) (t := onLine (F.take i)) hp s0 t0
    have g2 := lc_setS1 (c := c) (L := L) (s := fun x => decide (i = F.length) && lastOn F x) (t := onLine (F.take i)) hp s0 t0
    by_cases hL : i + 1 = F.length
    · have hlq : ((i : Int) = (F.length : Int) - 1) = True := eq_true (by omega)
      have hfin := hsucc (fun x => (decide (i = F.length) && lastOn F x) || decide (x = F[i].line.toNat)) (onLine (F.take i)) (fun x hx => by simp [hne, hL, hla hL, hxp]) (fun x hx => (hos' x).symm)
      unfold lcRows at hfin ⊢
      (repeat' (first | (refine WP.regionM (id := 13) mapTys mapTysOk ?_; simp only [go_sem, hii, h1, encFrame, hnlT, hmg, hkb, hseT, hlq, g1, g2, gl, St.runM, St.stepM, mapTys, Option.isNone_none, dstOk, keyB_i, tyAll, Nat.reduceAdd, Nat.reduceLT, Nat.reduceLeDiff, Nat.reduceEqDiff, Nat.reduceMul, Nat.reduceSub, Nat.reduceGT, reduceIte, Int.reduceNeg, Int.reduceToNat]) | (refine WP.regionM (id := 14) mapTys mapTysOk ?_; simp only [go_sem, hii, h1, encFrame, hnlT, hmg, hkb, hseT, hlq, g1, g2, gl, St.runM, St.stepM, mapTys, Option.isNone_none, dstOk, keyB_i, tyAll, Nat.reduceAdd, Nat.reduceLT, Nat.reduceLeDiff, Nat.reduceEqDiff, Nat.reduceMul, Nat.reduceSub, Nat.reduceGT, reduceIte, Int.reduceNeg, Int.reduceToNat]) | refine WP.seq ?_ | refine WP.block ?_ | ((first | refine WP.region ?_ | refine WP.condW ?_ | refine WP.ret ?_ | refine WP.exit ?_ | refine WP.skip ?_); simp only [go_sem, hii, h1, encFrame, hnlT, hmg, hkb, hseT, hlq, g1, g2, gl, St.runM, St.stepM, mapTys, Option.isNone_none, dstOk, keyB_i, tyAll, Nat.reduceAdd, Nat.reduceLT, Nat.reduceLeDiff, Nat.reduceEqDiff, Nat.reduceMul, Nat.reduceSub, Nat.reduceGT, reduceIte, Int.reduceNeg, Int.reduceToNat]) | (refine WP.flowW 8 [⟨[5], [], [], [], [], []⟩, ⟨[12], [], [], [], [], []⟩, ⟨[57], [1], [], [], [], []⟩, ⟨[56, 58], [0, 1, 2], [], [], [], []⟩, ⟨[59], [0, 1, 2, 3], [], [], [], []⟩, ⟨[60], [0, 1, 2, 3, 4], [], [], [], []⟩, ⟨[7], [], [], [], [], []⟩, ⟨[62], [6], [], [], [], []⟩, ⟨[], [0, 1, 2, 3, 4, 5, 6, 7], [], [], [], []⟩, ⟨[], [0, 1, 2, 3, 4, 5, 6, 7, 8], [], [], [], []⟩, ⟨[], [0, 1, 2, 3, 4, 5, 6, 7, 8, 9], [], [], [], []⟩, ⟨[], [0, 1, 2, 3, 4, 5, 6, 7, 8, 9, 10], [], [], [], []⟩] [56, 57, 58, 59, 60, 61, 62, 63] [] [] (by decide +kernel) (by kernel_rfl) (by kernel_rfl) (by kernel_rfl) ?_; simp only [go_sem, hii, h1, encFrame, hnlT, hmg, hkb, hseT, hlq, g1, g2, gl, St.runM, St.stepM, mapTys, Option.isNone_none, dstOk, keyB_i, tyAll, Nat.reduceAdd, Nat.reduceLT, Nat.reduceLeDiff, Nat.reduceEqDiff, Nat.reduceMul, Nat.reduceSub, Nat.reduceGT, reduceIte, Int.reduceNeg, Int.reduceToNat]) | (refine WP.flowW 8 [⟨[5], [], [], [], [], []⟩, ⟨[12], [], [], [], [], []⟩, ⟨[73], [1], [], [], [], []⟩, ⟨[72, 74], [0, 1, 2], [], [], [], []⟩, ⟨[75], [0, 1, 2, 3], [], [], [], []⟩, ⟨[76], [0, 1, 2, 3, 4], [], [], [], []⟩, ⟨[7], [], [], [], [], []⟩, ⟨[78], [6], [], [], [], []⟩, ⟨[], [0, 1, 2, 3, 4, 5, 6, 7], [], [], [], []⟩, ⟨[], [0, 1, 2, 3, 4, 5, 6, 7, 8], [], [], [], []⟩, ⟨[], [0, 1, 2, 3, 4, 5, 6, 7, 8, 9], [], [], [], []⟩, ⟨[], [0, 1, 2, 3, 4, 5, 6, 7, 8, 9, 10], [], [], [], []⟩] [72, 73, 74, 75, 76, 77, 78, 79] [] [] (by decide +kernel) (by kernel_rfl) (by kernel_rfl) (by kernel_rfl) ?_; simp only [go_sem, hii, h1, encFrame, hnlT, hmg, hkb, hseT, hlq, g1, g2, gl, St.runM, St.stepM, mapTys, Option.isNone_none, dstOk, keyB_i, tyAll, Nat.reduceAdd, Nat.reduceLT, Nat.reduceLeDiff, Nat.reduceEqDiff, Nat.reduceMul, Nat.reduceSub, Nat.reduceGT, reduceIte, Int.reduceNeg, Int.reduceToNat]) |  refine And.intro ?_ ?_ | intro _))
      all_goals first | omega | skip
      all_goals first | exact ⟨i + 1, by omega, by omega, by simp only [← hfin, hst1]; (first | rfl | exact ⟨rfl, rfl⟩ | exact ⟨rfl, rfl, rfl⟩ | exact ⟨rfl, rfl, rfl, rfl⟩ | exact ⟨rfl, rfl, rfl, rfl, rfl⟩ | exact ⟨⟨rfl, rfl⟩, rfl⟩ | simp)⟩ | trace_state
    · have hlq : ((i : Int) = (F.length : Int) - 1) = False := eq_false (by omega)
      have hfin := hsucc (fun x => decide (i = F.length) && lastOn F x) (onLine (F.take i)) (fun x hx => by simp [hne, hL]) (fun x hx => (hos' x).symm)
      unfold lcRows at hfin ⊢
      (repeat' (first | (refine WP.regionM (id := 13) mapTys mapTysOk ?_; simp only [go_sem, hii, h1, encFrame, hnlT, hmg, hkb, hseT, hlq, St.runM, St.stepM, mapTys, Option.isNone_none, dstOk, keyB_i, tyAll, Nat.reduceAdd, Nat.reduceLT, Nat.reduceLeDiff, Nat.reduceEqDiff, Nat.reduceMul, Nat.reduceSub, Nat.reduceGT, reduceIte, Int.reduceNeg, Int.reduceToNat]) | (refine WP.regionM (id := 14) mapTys mapTysOk ?_; simp only [go_sem, hii, h1, encFrame, hnlT, hmg, hkb, hseT, hlq, St.runM, St.stepM, mapTys, Option.isNone_none, dstOk, keyB_i, tyAll, Nat.reduceAdd, Nat.reduceLT, Nat.reduceLeDiff, Nat.reduceEqDiff, Nat.reduceMul, Nat.reduceSub, Nat.reduceGT, reduceIte, Int.reduceNeg, Int.reduceToNat]) | refine WP.seq ?_ | refine WP.block ?_ | ((first | refine WP.region ?_ | refine WP.condW ?_ | refine WP.ret ?_ | refine WP.exit ?_ | refine WP.skip ?_); simp only [go_sem, hii, h1, encFrame, hnlT, hmg, hkb, hseT, hlq, St.runM, St.stepM, mapTys, Option.isNone_none, dstOk, keyB_i, tyAll, Nat.reduceAdd, Nat.reduceLT, Nat.reduceLeDiff, Nat.reduceEqDiff, Nat.reduceMul, Nat.reduceSub, Nat.reduceGT, reduceIte, Int.reduceNeg, Int.reduceToNat]) | (refine WP.flowW 8 [⟨[5], [], [], [], [], []⟩, ⟨[12], [], [], [], [], []⟩, ⟨[57], [1], [], [], [], []⟩, ⟨[56, 58], [0, 1, 2], [], [], [], []⟩, ⟨[59], [0, 1, 2, 3], [], [], [], []⟩, ⟨[60], [0, 1, 2, 3, 4], [], [], [], []⟩, ⟨[7], [], [], [], [], []⟩, ⟨[62], [6], [], [], [], []⟩, ⟨[], [0, 1, 2, 3, 4, 5, 6, 7], [], [], [], []⟩, ⟨[], [0, 1, 2, 3, 4, 5, 6, 7, 8], [], [], [], []⟩, ⟨[], [0, 1, 2, 3, 4, 5, 6, 7, 8, 9], [], [], [], []⟩, ⟨[], [0, 1, 2, 3, 4, 5, 6, 7, 8, 9, 10], [], [], [], []⟩] [56, 57, 58, 59, 60, 61, 62, 63] [] [] (by decide +kernel) (by kernel_rfl) (by kernel_rfl) (by kernel_rfl) ?_; simp only [go_sem, hii, h1, encFrame, hnlT, hmg, hkb, hseT, hlq, St.runM, St.stepM, mapTys, Option.isNone_none, dstOk, keyB_i, tyAll, Nat.reduceAdd, Nat.reduceLT, Nat.reduceLeDiff, Nat.reduceEqDiff, Nat.reduceMul, Nat.reduceSub, Nat.reduceGT, reduceIte, Int.reduceNeg, Int.reduceToNat]) | (refine WP.flowW 8 [⟨[5], [], [], [], [], []⟩, ⟨[12], [], [], [], [], []⟩, ⟨[73], [1], [], [], [], []⟩, ⟨[72, 74], [0, 1, 2], [], [], [], []⟩, ⟨[75], [0, 1, 2, 3], [], [], [], []⟩, ⟨[76], [0, 1, 2, 3, 4], [], [], [], []⟩, ⟨[7], [], [], [], [], []⟩, ⟨[78], [6], [], [], [], []⟩, ⟨[], [0, 1, 2, 3, 4, 5, 6, 7], [], [], [], []⟩, ⟨[], [0, 1, 2, 3, 4, 5, 6, 7, 8], [], [], [], []⟩, ⟨[], [0, 1, 2, 3, 4, 5, 6, 7, 8, 9], [], [], [], []⟩, ⟨[], [0, 1, 2, 3, 4, 5, 6, 7, 8, 9, 10], [], [], [], []⟩] [72, 73, 74, 75, 76, 77, 78, 79] [] [] (by decide +kernel) (by kernel_rfl) (by kernel_rfl) (by kernel_rfl) ?_; simp only [go_sem, hii, h1, encFrame, hnlT, hmg, hkb, hseT, hlq, St.runM, St.stepM, mapTys, Option.isNone_none, dstOk, keyB_i, tyAll, Nat.reduceAdd, Nat.reduceLT, Nat.reduceLeDiff, Nat.reduceEqDiff, Nat.reduceMul, Nat.reduceSub, Nat.reduceGT, reduceIte, Int.reduceNeg, Int.reduceToNat]) |  refine And.intro ?_ ?_ | intro _))
      all_goals first | omega | skip
      all_goals first | exact ⟨i + 1, by omega, by omega, by simp only [← hfin, hst1]; (first | rfl | exact ⟨rfl, rfl⟩ | exact ⟨rfl, rfl, rfl⟩ | exact ⟨rfl, rfl, rfl, rfl⟩ | exact ⟨rfl, rfl, rfl, rfl, rfl⟩ | exact ⟨⟨rfl, rfl⟩, rfl⟩ | simp)⟩ | trace_state
  · have hst1 : seenL n (F.take (i + 1)) = seenL n (F.take i) ++ [F[i].line] := by rw [hsm]; exact if_neg (fun h => h.elim hnlT hse)
    have hms : mset (.int .i64 F[i].line) (.bool true) ((seenL n (F.take i)).map setE) = (seenL n (F.take (i + 1))).map setE := by rw [mset_set hse, hst1]
    have ho : onLine (F.take i) F[i].line.toNat = false := by
      cases h : onLine (F.take i) F[i].line.toNat with
      | false => rfl
      | true => exact absurd (hso.2 h) hse
    have hseF : (F[i].line ∈ seenL n (F.take i)) = False := eq_false hse
    have g0 := lc_row (c := c) (L := L) (s := fun x => decide (i = F.length) && lastOn F x) (t := onLine (F.take i)) hp s0 ho
    have g1 := lc_setT (c := c) (L := L) (s := fun x => decide (i = F.length) && lastOn F x) (t := onLine (F.take i)) hp s0 ho
    have t1 : (fun x => onLine (F.take i) x || decide (x = F[i].line.toNat)) F[i].line.toNat = true := by simp
    have g3 := lc_row1 (c := c) (L := L) (s := fun x => decide (i = F.length) && lastOn F x) (t := fun x => onLine (F.take i) x || decide (x = F[i].line.toNat)) hp s0 t1
    have g4 := lc_setS1 (c := c) (L := L) (s := fun x => decide (i = F.length) && lastOn F x) (t := fun x => onLine (F.take i) x || decide (x = F[i].line.toNat)) hp s0 t1
    by_cases hL : i + 1 = F.length
    · have hlq : ((i : Int) = (F.length : Int) - 1) = True := eq_true (by omega)
      have hfin := hsucc (fun x => (decide (i = F.length) && lastOn F x) || decide (x = F[i].line.toNat)) (fun x => onLine (F.take i) x || decide (x = F[i].line.toNat)) (fun x hx => by simp [hne, hL, hla hL, hxp]) (fun x hx => by simp [hos, hxp])
      unfold lcRows at hfin ⊢
      (repeat' (first | (refine WP.regionM (id := 13) mapTys mapTysOk ?_; simp only [go_sem, hii, h1, encFrame, hnlT, hmg, hkb, hms, hseF, hlq, g0, g1, g3, g4, gl, gl1, St.runM, St.stepM, mapTys, Option.isNone_none, dstOk, keyB_i, tyAll, Nat.reduceAdd, Nat.reduceLT, Nat.reduceLeDiff, Nat.reduceEqDiff, Nat.reduceMul, Nat.reduceSub, Nat.reduceGT, reduceIte, Int.reduceNeg, Int.reduceToNat]) | (refine WP.regionM (id := 14) mapTys mapTysOk ?_; simp only [go_sem, hii, h1, encFrame, hnlT, hmg, hkb, hms, hseF, hlq, g0, g1, g3, g4, gl, gl1, St.runM, St.stepM, mapTys, Option.isNone_none, dstOk, keyB_i, tyAll, Nat.reduceAdd, Nat.reduceLT, Nat.reduceLeDiff, Nat.reduceEqDiff, Nat.reduceMul, Nat.reduceSub, Nat.reduceGT, reduceIte, Int.reduceNeg, Int.reduceToNat]) | refine WP.seq ?_ | refine WP.block ?_ | ((first | refine WP.region ?_ | refine WP.condW ?_ | refine WP.ret ?_ | refine WP.exit ?_ | refine WP.skip ?_); simp only [go_sem, hii, h1, encFrame, hnlT, hmg, hkb, hms, hseF, hlq, g0, g1, g3, g4, gl, gl1, St.runM, St.stepM, mapTys, Option.isNone_none, dstOk, keyB_i, tyAll, Nat.reduceAdd, Nat.reduceLT, Nat.reduceLeDiff, Nat.reduceEqDiff, Nat.reduceMul, Nat.reduceSub, Nat.reduceGT, reduceIte, Int.reduceNeg, Int.reduceToNat]) | (refine WP.flowW 8 [⟨[5], [], [], [], [], []⟩, ⟨[12], [], [], [], [], []⟩, ⟨[57], [1], [], [], [], []⟩, ⟨[56, 58], [0, 1, 2], [], [], [], []⟩, ⟨[59], [0, 1, 2, 3], [], [], [], []⟩, ⟨[60], [0, 1, 2, 3, 4], [], [], [], []⟩, ⟨[7], [], [], [], [], []⟩, ⟨[62], [6], [], [], [], []⟩, ⟨[], [0, 1, 2, 3, 4, 5, 6, 7], [], [], [], []⟩, ⟨[], [0, 1, 2, 3, 4, 5, 6, 7, 8], [], [], [], []⟩, ⟨[], [0, 1, 2, 3, 4, 5, 6, 7, 8, 9], [], [], [], []⟩, ⟨[], [0, 1, 2, 3, 4, 5, 6, 7, 8, 9, 10], [], [], [], []⟩] [56, 57, 58, 59, 60, 61, 62, 63] [] [] (by decide +kernel) (by kernel_rfl) (by kernel_rfl) (by kernel_rfl) ?_; simp only [go_sem, hii, h1, encFrame, hnlT, hmg, hkb, hms, hseF, hlq, g0, g1, g3, g4, gl, gl1, St.runM, St.stepM, mapTys, Option.isNone_none, dstOk, keyB_i, tyAll, Nat.reduceAdd, Nat.reduceLT, Nat.reduceLeDiff, Nat.reduceEqDiff, Nat.reduceMul, Nat.reduceSub, Nat.reduceGT, reduceIte, Int.reduceNeg, Int.reduceToNat]) | (refine WP.flowW 8 [⟨[5], [], [], [], [], []⟩, ⟨[12], [], [], [], [], []⟩, ⟨[73], [1], [], [], [], []⟩, ⟨[72, 74], [0, 1, 2], [], [], [], []⟩, ⟨[75], [0, 1, 2, 3], [], [], [], []⟩, ⟨[76], [0, 1, 2, 3, 4], [], [], [], []⟩, ⟨[7], [], [], [], [], []⟩, ⟨[78], [6], [], [], [], []⟩, ⟨[], [0, 1, 2, 3, 4, 5, 6, 7], [], [], [], []⟩, ⟨[], [0, 1, 2, 3, 4, 5, 6, 7, 8], [], [], [], []⟩, ⟨[], [0, 1, 2, 3, 4, 5, 6, 7, 8, 9], [], [], [], []⟩, ⟨[], [0, 1, 2, 3, 4, 5, 6, 7, 8, 9, 10], [], [], [], []⟩] [72, 73, 74, 75, 76, 77, 78, 79] [] [] (by decide +kernel) (by kernel_rfl) (by kernel_rfl) (by kernel_rfl) ?_; simp only [go_sem, hii, h1, encFrame, hnlT, hmg, hkb, hms, hseF, hlq, g0, g1, g3, g4, gl, gl1, St.runM, St.stepM, mapTys, Option.isNone_none, dstOk, keyB_i, tyAll, Nat.reduceAdd, Nat.reduceLT, Nat.reduceLeDiff, Nat.reduceEqDiff, Nat.reduceMul, Nat.reduceSub, Nat.reduceGT, reduceIte, Int.reduceNeg, Int.reduceToNat]) |  refine And.intro ?_ ?_ | intro _))
      all_goals first | omega | skip
      all_goals first | exact ⟨i + 1, by omega, by omega, by simp only [← hfin]; (first | rfl | exact ⟨rfl, rfl⟩ | exact ⟨rfl, rfl, rfl⟩ | exact ⟨rfl, rfl, rfl, rfl⟩ | exact ⟨rfl, rfl, rfl, rfl, rfl⟩ | exact ⟨⟨rfl, rfl⟩, rfl⟩ | simp)⟩ | trace_state
    · have hlq : ((i : Int) = (F.length : Int) - 1) = False := eq_false (by omega)
      have hfin := hsucc (fun x => decide (i = F.length) && lastOn F x) (fun x => onLine (F.take i) x || decide (x = F[i].line.toNat)) (fun x hx => by simp [hne, hL]) (fun x hx => by simp [hos, hxp])
      unfold lcRows at hfin ⊢
      (repeat' (first | (refine WP.regionM (id := 13) mapTys mapTysOk ?_; simp only [go_sem, hii, h1, encFrame, hnlT, hmg, hkb, hms, hseF, hlq, g0, g1, gl, St.runM, St.stepM, mapTys, Option.isNone_none, dstOk, keyB_i, tyAll, Nat.reduceAdd, Nat.reduceLT, Nat.reduceLeDiff, Nat.reduceEqDiff, Nat.reduceMul, Nat.reduceSub, Nat.reduceGT, reduceIte, Int.reduceNeg, Int.reduceToNat]) | (refine WP.regionM (id := 14) mapTys mapTysOk ?_; simp only [go_sem, hii, h1, encFrame, hnlT, hmg, hkb, hms, hseF, hlq, g0, g1, gl, St.runM, St.stepM, mapTys, Option.isNone_none, dstOk, keyB_i, tyAll, Nat.reduceAdd, Nat.reduceLT, Nat.reduceLeDiff, Nat.reduceEqDiff, Nat.reduceMul, Nat.reduceSub, Nat.reduceGT, reduceIte, Int.reduceNeg, Int.reduceToNat]) | refine WP.seq ?_ | refine WP.block ?_ | ((first | refine WP.region ?_ | refine WP.condW ?_ | refine WP.ret ?_ | refine WP.exit ?_ | refine WP.skip ?_); simp only [go_sem, hii, h1, encFrame, hnlT, hmg, hkb, hms, hseF, hlq, g0, g1, gl, St.runM, St.stepM, mapTys, Option.isNone_none, dstOk, keyB_i, tyAll, Nat.reduceAdd, Nat.reduceLT, Nat.reduceLeDiff, Nat.reduceEqDiff, Nat.reduceMul, Nat.reduceSub, Nat.reduceGT, reduceIte, Int.reduceNeg, Int.reduceToNat]) | (refine WP.flowW 8 [⟨[5], [], [], [], [], []⟩, ⟨[12], [], [], [], [], []⟩, ⟨[57], [1], [], [], [], []⟩, ⟨[56, 58], [0, 1, 2], [], [], [], []⟩, ⟨[59], [0, 1, 2, 3], [], [], [], []⟩, ⟨[60], [0, 1, 2, 3, 4], [], [], [], []⟩, ⟨[7], [], [], [], [], []⟩, ⟨[62], [6], [], [], [], []⟩, ⟨[], [0, 1, 2, 3, 4, 5, 6, 7], [], [], [], []⟩, ⟨[], [0, 1, 2, 3, 4, 5, 6, 7, 8], [], [], [], []⟩, ⟨[], [0, 1, 2, 3, 4, 5, 6, 7, 8, 9], [], [], [], []⟩, ⟨[], [0, 1, 2, 3, 4, 5, 6, 7, 8, 9, 10], [], [], [], []⟩] [56, 57, 58, 59, 60, 61, 62, 63] [] [] (by decide +kernel) (by kernel_rfl) (by kernel_rfl) (by kernel_rfl) ?_; simp only [go_sem, hii, h1, encFrame, hnlT, hmg, hkb, hms, hseF, hlq, g0, g1, gl, St.runM, St.stepM, mapTys, Option.isNone_none, dstOk, keyB_i, tyAll, Nat.reduceAdd, Nat.reduceLT, Nat.reduceLeDiff, Nat.reduceEqDiff, Nat.reduceMul, Nat.reduceSub, Nat.reduceGT, reduceIte, Int.reduceNeg, Int.reduceToNat]) | (refine WP.flowW 8 [⟨[5], [], [], [], [], []⟩, ⟨[12], [], [], [], [], []⟩, ⟨[73], [1], [], [], [], []⟩, ⟨[72, 74], [0, 1, 2], [], [], [], []⟩, ⟨[75], [0, 1, 2, 3], [], [], [], []⟩, ⟨[76], [0, 1, 2, 3, 4], [], [], [], []⟩, ⟨[7], [], [], [], [], []⟩, ⟨[78], [6], [], [], [], []⟩, ⟨[], [0, 1, 2, 3, 4, 5, 6, 7], [], [], [], []⟩, ⟨[], [0, 1, 2, 3, 4, 5, 6, 7, 8], [], [], [], []⟩, ⟨[], [0, 1, 2, 3, 4, 5, 6, 7, 8, 9], [], [], [], []⟩, ⟨[], [0, 1, 2, 3, 4, 5, 6, 7, 8, 9, 10], [], [], [], []⟩] [72, 73, 74, 75, 76, 77, 78, 79] [] [] (by decide +kernel) (by kernel_rfl) (by kernel_rfl) (by kernel_rfl) ?_; simp only [go_sem, hii, h1, encFrame, hnlT, hmg, hkb, hms, hseF, hlq, g0, g1, gl, St.runM, St.stepM, mapTys, Option.isNone_none, dstOk, keyB_i, tyAll, Nat.reduceAdd, Nat.reduceLT, Nat.reduceLeDiff, Nat.reduceEqDiff, Nat.reduceMul, Nat.reduceSub, Nat.reduceGT, reduceIte, Int.reduceNeg, Int.reduceToNat]) |  refine And.intro ?_ ?_ | intro _))
      all_goals first | omega | skip
      all_goals first | exact ⟨i + 1, by omega, by omega, by simp only [← hfin]; (first | rfl | exact ⟨rfl, rfl⟩ | exact ⟨rfl, rfl, rfl⟩ | exact ⟨rfl, rfl, rfl, rfl⟩ | exact ⟨rfl, rfl, rfl, rfl, rfl⟩ | exact ⟨⟨rfl, rfl⟩, rfl⟩ | simp)⟩ | trace_state
end
end Go.Proofs.YtolnapfgfdgifaaGreatDoor

/-
  DERIVED. LineCounts: the law's function.
-/
namespace Go.Proofs.YtolnapfgfdgifaaGreatDoor
open Go.Vc
set_option linter.unusedSimpArgs false
set_option linter.unusedVariables false
set_option maxHeartbeats 1000000
set_option maxRecDepth 10000
attribute [local go_sem] St.runR St.runW St.stepV offV St.step St.stepU St.stepG mkCond guardB St.prK St.pr St.prLen St.eff St.callE St.callD St.callF St.callL aI aB aS aR aC St.isM St.argL Ctr.pure Ctr.lend Ctr.move Ctr.isL Ctr.wri pur len lentBy St.lentV St.lent1 nthS argsR restOf obsR pairs swapL unObs backL St.resL erL SV.ren1 SV.up SV.up2 Ob.up St.fzL cellIds partIds St.intoRow SV.ownId St.fz SV.fz1 St.prep St.mvL St.mv SV.re1 rnOk St.prEq vals eqCells scEq Value.kd St.prStr St.prCut cutR St.bnd St.prMin St.bld isShift outL retL outJ oR oC St.ev St.get St.put St.new St.kill SV.kill SV.kill1 Ob.kill St.app St.wrt St.rowsOf St.res St.killL lk er argsL SV.strip SV.need SV.share SV.share1 SV.owns SV.owns1 SV.owns2 SV.good SV.good1 SV.rok SV.rok1 SV.rok2 SV.isV SV.isV2 nodupN SV.cells SV.one SV.pur Ob.pb partsIn rowsIn splice cellsAt dstOk scal2 scal1 thenK blockK retK outK outs okC okL okA okT nilC nilL nilA nilT keepC keepL keepA keepT St.runG St.dltK St.least St.clean St.final St.hide offK badS badO SV.refs SV.leaf SV.leaf2 Ob.refs dlOk fpAt Go.Vc.cover tups SV.ofAgg St.out outC subL St.has rng wr Value.oneCell' Option.isSome_some Option.isSome_none List.nil_append Bool.false_eq_true List.map_cons List.map_nil List.all_cons List.all_nil List.length_cons List.length_nil List.drop_zero List.drop_succ_cons List.take_succ_cons List.take_zero List.drop_nil List.take_nil List.getElem?_cons_zero List.getElem?_cons_succ List.getElem?_nil List.cons_append List.nil_append List.append_nil List.append_assoc List.flatMap_cons List.flatMap_nil List.contains_cons List.contains_nil List.set_cons_zero List.set_cons_succ List.getElem?_toArray Option.getD_some Option.getD_none Option.map_some Option.map_none Option.bind_some Option.some.injEq Prod.mk.injEq if_true if_false true_and and_true and_self and_false false_and Bool.and_false Bool.false_and Bool.or_true Bool.true_or Bool.or_false Bool.false_or ne_eq not_true_eq_false not_false_eq_true decide_true decide_false List.mem_cons List.not_mem_nil List.filter_cons List.filter_nil List.any_cons List.any_nil List.isEmpty_nil List.isEmpty_cons Option.getD_none or_false false_or true_or or_true forall_eq_or_imp forall_eq reduceCtorEq exists_eq exists_eq' exists_eq_left' exists_eq_left exists_eq_right exists_eq_right' imp_self implies_true Bool.and_true Bool.true_and Bool.and_self beq_self_eq_true List.replicate_succ List.replicate_zero forall_const false_implies pickB_or pickB_and beqT beqF Int.toNat_natCast List.length_map List.length_replicate ge_iff_le gt_iff_lt decide_eq_true_eq decide_eq_false_iff_not Bool.and_eq_true Bool.or_eq_true Bool.not_eq_true' Bool.not_eq_false' condG List.toList_toArray Bool.or_eq_false_iff Bool.and_eq_false_iff Int.not_lt Int.not_le beq_iff_eq beq_eq_false_iff_ne bne_iff_ne bne_eq_false_iff_eq ne_eq Bool.not_true Bool.not_false exists_and_left
attribute [local irreducible] Go.Vc.WP
attribute [local go_sem] cx0_t cx0_c
attribute [local go_sem] isV_Node isV_It isV_Entry isV_LineCount decNode_enc decEntry_enc decFrame_enc decLineCount_enc oneFrame_enc stkA oneFrame_ab oneNode_abc decI_enc prA encI_inj
theorem lineCounts_len (N : List Node) (C : List Int) (n : Int) : (lineCounts N C n).length ≤ 60 := by
  unfold lineCounts
  split
  · rename_i h
    rw [lcGo_len, List.length_replicate]
    omega
  · simp
section
noncomputable def cxLcL : Cx := { P := Tryz.prog, tys := tys, C := [(12, kszPr), (14, ktoPr), (17, keqPr), (18, kmarkPr), (16, keqLineCountS), (19, kmarkLineCountS), (20, kheldLineCountS), (13, kLc), (15, kLc)], hty := tysOk, hC := COk.cons cszPr (COk.cons ctoPr (COk.cons ceqPr (COk.cons cmarkPr (COk.cons ceqLineCountS (COk.cons cmarkLineCountS (COk.cons cheldLineCountS (COk.cons cLcS (COk.cons cLcI (COk.nil _))))))))) }
theorem cxLcL_t : cxLcL.tys = tys := rfl
theorem cxLcL_c : cxLcL.C = [(12, kszPr), (14, ktoPr), (17, keqPr), (18, kmarkPr), (16, keqLineCountS), (19, kmarkLineCountS), (20, kheldLineCountS), (13, kLc), (15, kLc)] := rfl
attribute [local go_sem] cxLcL_t cxLcL_c kszPr ktoPr keqPr kmarkPr keqLineCountS kmarkLineCountS kheldLineCountS kLc
theorem lawLc (x : List Node × List Int) (n : Int) (hx : wfM x) : Holds Tryz.prog 3 [.agg [.sl 3 (x.1.map encNode), .sl 1 (x.2.map encI)], .v (.int .i64 n)] (.v (.bool true)) [] := by
  obtain ⟨N, C⟩ := x
  obtain ⟨hN, hs, hC⟩ := hx
  simp only at hN hs hC ⊢
  refine Holds.go (c := cxLcL) Tryz.func3 rfl Tryz.results3 Tryz.ntmps3 (by omega) (by simp) rfl ?_
  intro X0 w0
  have key : 0 ≤ szvPr (N, C) 1048576 → (N.length ≤ 1048576 ∧ ∀ n ∈ N, n.name.size ≤ 1048576) ∧ C.length ≤ 1048576 := fun h => szvPr_ok (x := (N, C)) (l := 1048576) (Int.le_refl _) (Int.not_lt.2 h)
  have key1 : 0 ≤ szvPr (N, C) 1048576 → N.length ≤ 1048576 := fun h => (key h).1.1
  have key2 : 0 ≤ szvPr (N, C) 1048576 → C.length ≤ 1048576 := fun h => (key h).2
  have key3 := lineCounts_len N C n
  generalize hP : lineCounts N C n = P at key3
  have m1 := marksLineCount_len 1 P.length
  (repeat' (first | refine WP.seq ?_ | refine WP.block ?_ | ((first | refine WP.region ?_ | refine WP.condW ?_ | refine WP.ret ?_ | refine WP.exit ?_ | refine WP.skip ?_); simp only [go_sem, m1, hP, tyAll, Nat.reduceAdd, Nat.reduceLT, Nat.reduceLeDiff, Nat.reduceEqDiff, Nat.reduceMul, Nat.reduceSub, Nat.reduceGT, reduceIte, Int.reduceNeg, Int.reduceToNat]) | (refine WP.flowW 3 [⟨[7], [], [], [33, 1033], [], []⟩, ⟨[2], [], [], [33, 1033], [], []⟩, ⟨[32], [1], [], [], [], [33, 1033]⟩, ⟨[], [0, 1, 2], [], [], [], []⟩, ⟨[], [0, 1, 2, 3], [], [], [], []⟩] [31, 32, 33] [33, 1033] [] (by decide +kernel) (by kernel_rfl) (by kernel_rfl) (by kernel_rfl) ?_; simp only [go_sem, m1, hP, tyAll, Nat.reduceAdd, Nat.reduceLT, Nat.reduceLeDiff, Nat.reduceEqDiff, Nat.reduceMul, Nat.reduceSub, Nat.reduceGT, reduceIte, Int.reduceNeg, Int.reduceToNat]) |  refine And.intro ?_ ?_ | intro _))
  all_goals first | omega | exact ⟨_, _, _, rfl⟩ | exact hs _ ‹_› | exact Nat.le_trans (key1 ‹_›) (by omega) | exact Nat.le_trans (key2 ‹_›) (by omega) | exact Nat.le_trans ((key ‹_›).1.2 _ ‹_›) (by omega) | skip
  all_goals trace_state
end
end Go.Proofs.YtolnapfgfdgifaaGreatDoor

/-
  DERIVED. What is read of a struct, field by field, stands for what its fields stand for.
-/
namespace Go.Vc
open Go.RowKit Go.WideShapes Go.ChangeShapes Go.Deep
set_option linter.unusedVariables false
section
variable {H : Type} {enc : TypeId × Value → H} {P : Program} {w : World}
theorem Cells.append {r1 r2 : List SV} {c1 c2 : List Value} (h1 : Cells w r1 c1) (h2 : Cells w r2 c2) : Cells w (r1 ++ r2) (c1 ++ c2) := by
  refine ⟨by rw [List.length_append, List.length_append, h1.1, h2.1], fun k c u hc hu => ?_⟩
  rw [List.getElem?_append] at hc hu
  by_cases hk : k < r1.length
  · rw [if_pos hk] at hc
    rw [if_pos (by rw [← h1.1]; exact hk)] at hu
    exact h1.2 k c u hc hu
  · rw [if_neg hk] at hc
    rw [if_neg (by rw [← h1.1]; exact hk), ← h1.1] at hu
    exact h2.2 _ c u hc hu
theorem Dec.map {t : TypeId} {α β : Type} {e : α → List SV} {wf : α → Prop} {e' : β → List SV} {wf' : β → Prop} (hd : Dec H enc P w t e wf) (g : α → β) (he : ∀ a, e' (g a) = e a) (hw : ∀ a, wf a → wf' (g a)) : Dec H enc P w t e' wf' := by
  intro base sp held n cs y h
  obtain ⟨a, ha, hc⟩ := hd _ _ _ _ _ _ h
  exact ⟨g a, hw a ha, by rw [he]; exact hc⟩
theorem Dec.struct1 {t : TypeId} {f0 : Field} {k0 : Nat} {α : Type} {e : α → List SV} {wf : α → Prop} (ht : P.underlying t = some (.struct #[f0])) (o0 : f0.offset = 0) (h0 : P.cellsOf f0.type = k0) (hC : P.cellsOf t = k0) (hd : Dec H enc P w f0.type e wf) : Dec H enc P w t e wf := by
  intro base sp held n cs y h
  obtain ⟨y0, m, _, hl, g0⟩ := trod_struct1 ht h
  obtain ⟨a, ha, hc⟩ := hd _ _ _ _ _ _ g0
  rw [o0, h0, List.drop_zero, List.take_of_length_le (by omega)] at hc
  exact ⟨a, ha, hc⟩
theorem Dec.struct2 {t : TypeId} {f0 f1 : Field} {k0 k1 : Nat} {α β : Type} {e0 : α → List SV} {w0 : α → Prop} {e1 : β → List SV} {w1 : β → Prop} (ht : P.underlying t = some (.struct #[f0, f1])) (o0 : f0.offset = 0) (h0 : P.cellsOf f0.type = k0) (o1 : f1.offset = k0) (h1 : P.cellsOf f1.type = k1) (hC : P.cellsOf t = k0 + k1)
    (d0 : Dec H enc P w f0.type e0 w0) (d1 : Dec H enc P w f1.type e1 w1) : Dec H enc P w t (fun x : α × β => e0 x.1 ++ e1 x.2) (fun x => w0 x.1 ∧ w1 x.2) := by
  intro base sp held n cs y h
  obtain ⟨y0, y1, m, _, hl, g0, g1⟩ := trod_struct2 ht h
  obtain ⟨a, ha, hc⟩ := d0 _ _ _ _ _ _ g0
  obtain ⟨b, hb, hd⟩ := d1 _ _ _ _ _ _ g1
  rw [o0, h0, List.drop_zero] at hc
  rw [o1, h1, List.take_of_length_le (by rw [List.length_drop]; omega)] at hd
  refine ⟨(a, b), ⟨ha, hb⟩, ?_⟩
  have := hc.append hd
  rwa [List.take_append_drop] at this
theorem Dec.struct3 {t : TypeId} {f0 f1 f2 : Field} {k0 k1 k2 : Nat} {α β γ : Type} {e0 : α → List SV} {w0 : α → Prop} {e1 : β → List SV} {w1 : β → Prop} {e2 : γ → List SV} {w2 : γ → Prop} (ht : P.underlying t = some (.struct #[f0, f1, f2])) (o0 : f0.offset = 0) (h0 : P.cellsOf f0.type = k0) (o1 : f1.offset = k0) (h1 : P.cellsOf f1.type = k1) (o2 : f2.offset = k0 + k1) (h2 : P.cellsOf f2.type = k2) (hC : P.cellsOf t = k0 + k1 + k2)
    (d0 : Dec H enc P w f0.type e0 w0) (d1 : Dec H enc P w f1.type e1 w1) (d2 : Dec H enc P w f2.type e2 w2) : Dec H enc P w t (fun x : α × β × γ => e0 x.1 ++ (e1 x.2.1 ++ e2 x.2.2)) (fun x => w0 x.1 ∧ w1 x.2.1 ∧ w2 x.2.2) := by
  intro base sp held n cs y h
  obtain ⟨y0, y1, y2, m, _, hl, g0, g1, g2⟩ := trod_struct3 ht h
  obtain ⟨a, ha, hc⟩ := d0 _ _ _ _ _ _ g0
  obtain ⟨b, hb, hd⟩ := d1 _ _ _ _ _ _ g1
  obtain ⟨c, hc', he⟩ := d2 _ _ _ _ _ _ g2
  rw [o0, h0, List.drop_zero] at hc
  rw [o1, h1] at hd
  rw [o2, h2, List.take_of_length_le (by rw [List.length_drop]; omega), ← List.drop_drop] at he
  refine ⟨(a, b, c), ⟨ha, hb, hc'⟩, ?_⟩
  have := hc.append (hd.append he)
  rwa [List.take_append_drop, List.take_append_drop] at this
end
end Go.Vc

/-
  DERIVED. What is read of stacks and of a profile.
-/
namespace Go.Proofs.YtolnapfgfdgifaaGreatDoor
open Go.Vc Go.RowKit Go.WideShapes Go.ChangeShapes Go.Deep
section
variable {H : Type} {enc : TypeId × Value → H} {w : World}
def okN (L : List Node) : Prop := L.length ≤ maxLen ∧ ∀ x ∈ L, x.name.size ≤ maxLen
theorem rowNode' : Dec H enc Tryz.prog w 128 encNode (fun x => x.name.size ≤ maxLen) :=
  (Dec.struct2 (k0 := 1) (k1 := 2) Tryz.underlying128 rfl (by kernel_rfl) rfl (by kernel_rfl) (by kernel_rfl) (Dec.int Tryz.underlying3) rowFrame).map (fun x : Int × Frame => (⟨x.1, x.2.name, x.2.line⟩ : Node)) (fun _ => rfl) (fun _ h => h.2.1)
theorem rowStk : Dec H enc Tryz.prog w 24 (fun N : List Node => [.sl 3 (N.map encNode)]) okN :=
  Dec.struct1 (k0 := 1) Tryz.underlying24 rfl (by kernel_rfl) (by kernel_rfl) (Dec.slice (s := 3) Tryz.underlying22 (by kernel_rfl) (by omega) rowNode' (fun _ => rfl))
theorem rowPr : Dec H enc Tryz.prog w 27 (fun x : List Node × List Int => [.sl 3 (x.1.map encNode), .sl 1 (x.2.map encI)]) wfM :=
  (Dec.struct2 (k0 := 1) (k1 := 1) Tryz.underlying27 rfl (by kernel_rfl) rfl (by kernel_rfl) (by kernel_rfl) rowStk
    (Dec.slice (s := 1) Tryz.underlying25 (by kernel_rfl) (by omega) (Dec.int Tryz.underlying3) (fun _ => rfl))).map (fun x : List Node × List Int => x) (fun _ => rfl) (fun _ h => ⟨h.1.1, h.1.2, h.2.1⟩)
end
end Go.Proofs.YtolnapfgfdgifaaGreatDoor
