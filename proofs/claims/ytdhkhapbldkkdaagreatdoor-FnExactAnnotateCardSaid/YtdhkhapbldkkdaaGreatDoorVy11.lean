/-
  DERIVED. Several texts of ours in one: VtLcI, VtFold, VtAnnI, VtAnnS, VpNest, VtLine2, VtAnnL, VcY, VtPrR, VcYw, VtLineR.
-/
import Derived.Test.YtdhkhapbldkkdaaGreatDoorVy0
import Derived.Test.YtdhkhapbldkkdaaGreatDoorVy1
import Derived.Test.YtdhkhapbldkkdaaGreatDoorVy2
import Derived.Test.YtdhkhapbldkkdaaGreatDoorVy3
import Derived.Test.YtdhkhapbldkkdaaGreatDoorVy4
import Derived.Test.YtdhkhapbldkkdaaGreatDoorVy5
import Derived.Test.YtdhkhapbldkkdaaGreatDoorVy6
import Derived.Test.YtdhkhapbldkkdaaGreatDoorVy7
import Derived.Test.YtdhkhapbldkkdaaGreatDoorVy8
import Derived.Test.YtdhkhapbldkkdaaGreatDoorVy9
import Derived.Test.YtdhkhapbldkkdaaGreatDoorVy10
import Derived.Deep.Strs
import Derived.Lib.SmallJoins
set_option linter.unusedSimpArgs false
set_option linter.unusedVariables false
namespace Go.Proofs.YtdhkhapbldkkdaaGreatDoor
open Go.Vc
attribute [local go_sem] St.runR St.runW St.stepV offV St.step St.stepU St.stepG mkCond guardB St.prK St.pr St.prLen St.eff St.callE St.callD St.callF St.callL aI aS aR aC St.isM St.argL Ctr.pure Ctr.lend Ctr.move Ctr.isL Ctr.wri pur len lentBy St.lentV St.lent1 nthS argsR restOf obsR pairs swapL unObs backL St.resL erL SV.ren1 SV.up SV.up2 Ob.up St.fzL cellIds partIds St.intoRow SV.ownId St.fz SV.fz1 St.prep St.mvL St.mv SV.re1 rnOk St.prEq vals eqCells scEq Value.kd St.prStr St.prCut cutR St.bnd St.prMin St.bld isShift outL retL outJ oR SV.upq SV.isSl SV.shut St.deepK St.dpArg St.deepQ absC Ob.pl St.ev St.get St.put St.new St.kill SV.kill SV.kill1 Ob.kill St.app St.wrt St.rowsOf St.res St.killL lk er argsL SV.strip SV.need SV.share SV.share1 SV.owns SV.owns1 SV.owns2 SV.good SV.good1 SV.rok SV.rok1 SV.rok2 SV.isV SV.isV2 nodupN SV.cells SV.one SV.pur Ob.pb partsIn rowsIn splice cellsAt dstOk scal2 scal1 thenK blockK retK outK outs okC okL okA okT nilC nilL nilA nilT keepC keepL keepA keepT St.runG St.dltK St.least St.clean St.final St.hide offK badS badO SV.refs SV.leaf SV.leaf2 Ob.refs dlOk fpAt Go.Vc.cover tups SV.ofAgg St.out outC subL St.has rng wr Value.oneCell' Option.isSome_some Option.isSome_none List.nil_append Bool.false_eq_true List.map_cons List.map_nil List.all_cons List.all_nil List.length_cons List.length_nil List.drop_zero List.drop_succ_cons List.take_succ_cons List.take_zero List.drop_nil List.take_nil List.getElem?_cons_zero List.getElem?_cons_succ List.getElem?_nil List.cons_append List.nil_append List.append_nil List.append_assoc List.flatMap_cons List.flatMap_nil List.contains_cons List.contains_nil List.set_cons_zero List.set_cons_succ List.getElem?_toArray Option.getD_some Option.getD_none Option.map_some Option.map_none Option.bind_some Option.some.injEq Prod.mk.injEq if_true if_false true_and and_true and_self and_false false_and Bool.and_false Bool.false_and Bool.or_true Bool.true_or Bool.or_false Bool.false_or ne_eq not_true_eq_false not_false_eq_true decide_true decide_false List.mem_cons List.not_mem_nil List.filter_cons List.filter_nil List.any_cons List.any_nil List.isEmpty_nil List.isEmpty_cons Option.getD_none or_false false_or true_or or_true forall_eq_or_imp forall_eq reduceCtorEq exists_eq exists_eq' exists_eq_left' exists_eq_left exists_eq_right exists_eq_right' imp_self implies_true Bool.and_true Bool.true_and Bool.and_self beq_self_eq_true List.replicate_succ List.replicate_zero forall_const false_implies pickB_or pickB_and beqT beqF Int.toNat_natCast List.length_map List.length_replicate ge_iff_le gt_iff_lt decide_eq_true_eq decide_eq_false_iff_not Bool.and_eq_true Bool.or_eq_true Bool.not_eq_true' Bool.not_eq_false' condG List.toList_toArray Bool.or_eq_false_iff Bool.and_eq_false_iff Int.not_lt Int.not_le beq_iff_eq beq_eq_false_iff_ne bne_iff_ne bne_eq_false_iff_eq ne_eq Bool.not_true Bool.not_false exists_and_left Nat.reduceAdd Nat.reduceLT Nat.reduceLeDiff Nat.reduceEqDiff Nat.reduceMul Nat.reduceSub Nat.reduceGT reduceIte Int.reduceNeg Int.reduceToNat
section
open Go.Vc
set_option linter.unusedSimpArgs false
set_option linter.unusedVariables false
set_option maxHeartbeats 1000000
set_option maxRecDepth 10000
attribute [local irreducible] Go.Vc.WP
attribute [local go_sem] cx0_t cx0_c
def fl0bb782776e : List Go.Vc.Fp := [⟨[5], [], [], [], [], []⟩, ⟨[12], [], [], [], [], []⟩, ⟨[57], [1], [], [], [], []⟩, ⟨[56, 58], [0, 1, 2], [], [], [], []⟩, ⟨[59], [0, 1, 2, 3], [], [], [], []⟩, ⟨[60], [0, 1, 2, 3, 4], [], [], [], []⟩, ⟨[7], [], [], [], [], []⟩, ⟨[62], [6], [], [], [], []⟩, ⟨[], [0, 1, 2, 3, 4, 5, 6, 7], [], [], [], []⟩, ⟨[], [0, 1, 2, 3, 4, 5, 6, 7, 8], [], [], [], []⟩, ⟨[], [0, 1, 2, 3, 4, 5, 6, 7, 8, 9], [], [], [], []⟩, ⟨[], [0, 1, 2, 3, 4, 5, 6, 7, 8, 9, 10], [], [], [], []⟩]
def fl97dfa0fb82 : List Go.Vc.Fp := [⟨[5], [], [], [], [], []⟩, ⟨[12], [], [], [], [], []⟩, ⟨[73], [1], [], [], [], []⟩, ⟨[72, 74], [0, 1, 2], [], [], [], []⟩, ⟨[75], [0, 1, 2, 3], [], [], [], []⟩, ⟨[76], [0, 1, 2, 3, 4], [], [], [], []⟩, ⟨[7], [], [], [], [], []⟩, ⟨[78], [6], [], [], [], []⟩, ⟨[], [0, 1, 2, 3, 4, 5, 6, 7], [], [], [], []⟩, ⟨[], [0, 1, 2, 3, 4, 5, 6, 7, 8], [], [], [], []⟩, ⟨[], [0, 1, 2, 3, 4, 5, 6, 7, 8, 9], [], [], [], []⟩, ⟨[], [0, 1, 2, 3, 4, 5, 6, 7, 8, 9, 10], [], [], [], []⟩]
attribute [local go_sem] fl0bb782776e fl97dfa0fb82
attribute [local go_sem] isV_Node isV_It isV_Entry isV_LineCount decNode_enc decFrame_enc oneFrame_enc stkA oneFrame_ab oneNode_abc decI_enc decS_enc aU prA decEntry_enc St.fzS addL behind
def mapTys : List (Nat × MapTy) := [(87, ⟨3, 4, .int .i64, .bool false⟩)]
theorem mapTysOk : ∀ T m, lk T mapTys = some m → MapOk Tryz.prog T m := fun T m h => by
  have hm := lk_mem h
  simp only [mapTys, List.mem_cons, Prod.mk.injEq, List.not_mem_nil, or_false] at hm
  obtain ⟨rfl, rfl⟩ := hm
  exact ⟨by kernel_rfl, by kernel_rfl, fun w => zero_run (by kernel_rfl) w⟩
theorem keyB_i (l : Int) : keyB (.int .i64) (.int .i64 l) = true := by simp [keyB]
def seenStep (n : Int) (S : List Int) (f : Frame) : List Int := if n ≤ f.line ∨ f.line ∈ S then S else S ++ [f.line]
def seenL (n : Int) (F : List Frame) : List Int := F.foldl (seenStep n) []
theorem seenL_succ {n : Int} {F : List Frame} {i : Nat} (hi : i < F.length) : seenL n (F.take (i + 1)) = seenStep n (seenL n (F.take i)) F[i] := by
  unfold seenL; rw [List.take_succ_eq_append_getElem hi, List.foldl_append]; rfl
theorem seenL_mem {n : Int} {F : List Frame} : ∀ i, i ≤ F.length → ∀ l : Int, l ∈ seenL n (F.take i) ↔ l < n ∧ ∃ f ∈ F.take i, f.line = l
  | 0, _, l => by simp [seenL]
  | i + 1, hi, l => by
    have hlt : i < F.length := by omega
    have ih := seenL_mem (n := n) (F := F) i (by omega) l
    rw [seenL_succ hlt, List.take_succ_eq_append_getElem hlt]
    have h0 := seenL_mem (n := n) (F := F) i (by omega) F[i].line
    unfold seenStep
    constructor
    · intro h
      split at h
      · obtain ⟨h1, f, h2, h3⟩ := ih.1 h
        exact ⟨h1, f, List.mem_append_left _ h2, h3⟩
      · rename_i hc
        rcases List.mem_append.1 h with h | h
        · obtain ⟨h1, f, h2, h3⟩ := ih.1 h
          exact ⟨h1, f, List.mem_append_left _ h2, h3⟩
        · have e := List.mem_singleton.1 h
          exact ⟨by rw [e]; rcases Int.lt_or_le F[i].line n with h' | h'; exact h'; exact absurd (Or.inl h') hc, F[i], List.mem_append_right _ (List.mem_singleton.2 rfl), e.symm⟩
    · rintro ⟨h1, f, h2, h3⟩
      rcases List.mem_append.1 h2 with h2 | h2
      · have := ih.2 ⟨h1, f, h2, h3⟩
        split
        · exact this
        · exact List.mem_append_left _ this
      · have e := List.mem_singleton.1 h2
        subst e
        subst h3
        split
        · rename_i hc
          rcases hc with hc | hc
          · omega
          · exact hc
        · exact List.mem_append_right _ (List.mem_singleton.2 rfl)
theorem onLine_iff (F : List Frame) (x : Nat) : onLine F x = true ↔ ∃ f ∈ F, f.line = (x : Int) := by
  unfold onLine; simp [List.any_eq_true]
theorem seen_on {n : Int} {F : List Frame} {i : Nat} (hi : i ≤ F.length) {l : Int} (h0 : 0 ≤ l) (hl : l < n) : l ∈ seenL n (F.take i) ↔ onLine (F.take i) l.toNat = true := by
  rw [seenL_mem i hi, onLine_iff]
  have e : ((l.toNat : Nat) : Int) = l := by omega
  rw [e]
  exact ⟨fun h => h.2, fun h => ⟨hl, h⟩⟩
def lcRows (c : Int) (F : List Frame) (L : List LineCount) (i : Nat) : List LineCount := addK c (fun x => decide (i = F.length) && lastOn F x) (onLine (F.take i)) L
theorem lcRows_all (c : Int) (F : List Frame) (L : List LineCount) : lcRows c F L F.length = addK c (lastOn F) (onLine F) L := by
  unfold lcRows
  rw [List.take_length]
  exact addK_congr (fun x _ => by simp) (fun _ _ => rfl)
theorem lcRows_zero {c : Int} {F : List Frame} (hF : F ≠ []) (L : List LineCount) : lcRows c F L 0 = L := by
  unfold lcRows
  have h0 : ¬ 0 = F.length := by have := List.length_pos_iff.2 hF; omega
  exact addK_none c L (fun x _ => by simp [h0]) (fun x _ => by simp [onLine])
section
noncomputable def cxLcI : Cx := { P := Tryz.prog, tys := tys, C := [(32, kPrOk), (41, k60), (42, kEntZ), (43, kParseZ)], hty := tysOk, hC := COk.cons cPrOkI (COk.cons c60 (COk.cons cEntZI (COk.cons cParseZI (COk.nil _)))) }
theorem cxLcI_t : cxLcI.tys = tys := rfl
theorem cxLcI_c : cxLcI.C = [(32, kPrOk), (41, k60), (42, kEntZ), (43, kParseZ)] := rfl
attribute [local go_sem] cxLcI_t cxLcI_c kPrOk k60 kEntZ kParseZ
set_option maxHeartbeats 20000000 in
theorem cLcI : Cn Tryz.prog 16 kLc := by
  refine Cn.pur Tryz.func16 (by kernel_rfl) rfl fun d x hx => ?_
  obtain ⟨⟨N, C⟩, n⟩ := x
  obtain ⟨⟨hN, hs⟩, hC⟩ := hx
  simp only at hN hs hC ⊢
  have hlen := entriesOf_len N C
  refine Holds.go (c := cxLcI) Tryz.func16 rfl Tryz.results16 Tryz.ntmps16 (by omega) (by simp) rfl ?_
  intro X0 w0
  cases hok : profileOk N C with
  | false =>
    have hr : lineCounts N C n = [] := if_neg fun h => by rw [h.1] at hok; cases hok
    (repeat' (first | refine WP.seq ?_ | refine WP.block ?_ | ((first | refine WP.region ?_ | refine WP.condW ?_ | refine WP.ret ?_ | refine WP.exit ?_ | refine WP.skip ?_); simp only [go_sem, hok, hr, tyAll]) | ((first | refine WP.flowW 8 fl0bb782776e [56, 57, 58, 59, 60, 61, 62, 63] [] [] (by decide +kernel) (by kernel_rfl) (by kernel_rfl) (by kernel_rfl) ?_ | refine WP.flowW 8 fl97dfa0fb82 [72, 73, 74, 75, 76, 77, 78, 79] [] [] (by decide +kernel) (by kernel_rfl) (by kernel_rfl) (by kernel_rfl) ?_); simp only [go_sem, hok, hr, tyAll]) |  refine And.intro ?_ ?_ | intro _))
    all_goals first | omega | (simp only; omega) | exact Nat.le_trans (hs _ ‹_›) (by omega) | exact ⟨_, _, _, rfl⟩ | exact ⟨_, _, rfl⟩ | skip
  | true =>
  by_cases hrg : 0 ≤ n ∧ n ≤ 60
  rotate_left
  · have hr : lineCounts N C n = [] := if_neg fun h => hrg h.2
    have hrb : (decide (0 ≤ n) && decide (n ≤ 60)) = false := by
      rw [Bool.and_eq_false_iff, decide_eq_false_iff_not, decide_eq_false_iff_not]; omega
    (repeat' (first | refine WP.seq ?_ | refine WP.block ?_ | ((first | refine WP.region ?_ | refine WP.condW ?_ | refine WP.ret ?_ | refine WP.exit ?_ | refine WP.skip ?_); simp only [go_sem, hok, hr, hrb, tyAll]) | ((first | refine WP.flowW 8 fl0bb782776e [56, 57, 58, 59, 60, 61, 62, 63] [] [] (by decide +kernel) (by kernel_rfl) (by kernel_rfl) (by kernel_rfl) ?_ | refine WP.flowW 8 fl97dfa0fb82 [72, 73, 74, 75, 76, 77, 78, 79] [] [] (by decide +kernel) (by kernel_rfl) (by kernel_rfl) (by kernel_rfl) ?_); simp only [go_sem, hok, hr, hrb, tyAll]) |  refine And.intro ?_ ?_ | intro _))
    all_goals first | omega | (simp only; omega) | exact Nat.le_trans (hs _ ‹_›) (by omega) | exact ⟨_, _, _, rfl⟩ | exact ⟨_, _, rfl⟩ | skip
  obtain ⟨c2, c3⟩ := hrg
  have hr : lineCounts N C n = lcGo (entriesOf N C) (List.replicate n.toNat ⟨0, 0⟩) := if_pos ⟨hok, c2, c3⟩
  rw [hr]
  have hz := zerLc n.toNat
  (repeat' (first | refine WP.seq ?_ | refine WP.block ?_ | ((first | refine WP.region ?_ | refine WP.condW ?_ | refine WP.ret ?_ | refine WP.exit ?_ | refine WP.skip ?_); simp only [go_sem, hok, c2, c3, hz, tyAll]) | ((first | refine WP.flowW 8 fl0bb782776e [56, 57, 58, 59, 60, 61, 62, 63] [] [] (by decide +kernel) (by kernel_rfl) (by kernel_rfl) (by kernel_rfl) ?_ | refine WP.flowW 8 fl97dfa0fb82 [72, 73, 74, 75, 76, 77, 78, 79] [] [] (by decide +kernel) (by kernel_rfl) (by kernel_rfl) (by kernel_rfl) ?_); simp only [go_sem, hok, c2, c3, hz, tyAll]) |  refine And.intro ?_ ?_ | intro _))
  all_goals first | omega | (simp only; omega) | exact Nat.le_trans (hs _ ‹_›) (by omega) | exact ⟨_, _, _, rfl⟩ | skip
  have hZl : (List.replicate n.toNat (⟨0, 0⟩ : LineCount)).length = n.toNat := List.length_replicate ..
  refine WP.loop (fun k : Nat => ⟨[(1, .v (.int .i64 n)), (5, .own 22), (24, .sl 2 ((entriesOf N C).map encEntry)), (25, .v (.int .i64 (entriesOf N C).length)), (26, .v (.int .i64 k))], [(22, .sl 51 2 ((lcGo ((entriesOf N C).take k) (List.replicate n.toNat ⟨0, 0⟩)).map encLineCount))]⟩)
    (fun k => k ≤ (entriesOf N C).length) (fun k => (entriesOf N C).length - k) 0 (by simp) ?_ ?_
  · (simp only [go_sem, tyAll] <;> (first | rfl | exact ⟨rfl, rfl⟩ | exact ⟨rfl, rfl, rfl⟩ | exact ⟨rfl, rfl, rfl, rfl⟩ | exact ⟨rfl, rfl, rfl, rfl, rfl⟩ | exact ⟨⟨rfl, rfl⟩, rfl⟩ | simp))
  intro k hk
  have hLl := lcGo_len ((entriesOf N C).take k) (List.replicate n.toNat ⟨0, 0⟩)
  rw [hZl] at hLl
  by_cases hkl : k < (entriesOf N C).length
  rotate_left
  · have hge : ¬ (k : Int) < (entriesOf N C).length := by omega
    have hke : k = (entriesOf N C).length := by omega
    subst hke
    rw [List.take_length]
    (repeat' (first | refine WP.seq ?_ | refine WP.block ?_ | ((first | refine WP.region ?_ | refine WP.condW ?_ | refine WP.ret ?_ | refine WP.exit ?_ | refine WP.skip ?_); simp only [go_sem, hge, tyAll]) | ((first | refine WP.flowW 8 fl0bb782776e [56, 57, 58, 59, 60, 61, 62, 63] [] [] (by decide +kernel) (by kernel_rfl) (by kernel_rfl) (by kernel_rfl) ?_ | refine WP.flowW 8 fl97dfa0fb82 [72, 73, 74, 75, 76, 77, 78, 79] [] [] (by decide +kernel) (by kernel_rfl) (by kernel_rfl) (by kernel_rfl) ?_); simp only [go_sem, hge, tyAll]) |  refine And.intro ?_ ?_ | intro _))
    all_goals first | omega | skip
  have hki : (k : Int) < (entriesOf N C).length := by omega
  have hE := rowAt_map encEntry (entriesOf N C) k hkl
  have hmem := List.getElem_mem hkl
  obtain ⟨z1, z2, z3⟩ := ent_sizes hN hmem
  have hF0 := (ent_frs hmem).1
  have hFo := List.all_eq_true.1 (ent_frs hmem).2.2.1
  have hsu := lcGo_succ hkl (List.replicate n.toNat ⟨0, 0⟩)
  have hB := lc_LB (E := entriesOf N C) ent_pos n.toNat k (by omega)
  have hc := ent_pos _ hmem
  have hss := sumE_succ hkl
  have hst := (sumE_take_le (E := entriesOf N C) ent_pos (k + 1)).2
  rw [sumE_entries] at hst
  have htb := totalOf_bound N C
  have hfr : (parseF (entriesOf N C)[k].stack).getD [] = frsE (entriesOf N C)[k] := rfl
  unfold lineAdd at hsu
  generalize frsE (entriesOf N C)[k] = F at hsu hF0 hFo z2 z3 hfr
  generalize hcE : (entriesOf N C)[k].count = c at hc hss hsu
  generalize lcGo ((entriesOf N C).take k) (List.replicate n.toNat ⟨0, 0⟩) = L at hB hsu hLl ⊢
  generalize sumE ((entriesOf N C).take k) = S at hB hss
  generalize sumE ((entriesOf N C).take (k + 1)) = S1 at hss hst
  have hFl : 0 < F.length := List.length_pos_iff.2 hF0
  rw [← lcRows_all] at hsu
  (repeat' (first | (refine WP.regionM (id := 8) mapTys mapTysOk ?_; simp only [go_sem, hki, hE, encEntry, hfr, hcE, St.runM, St.stepM, mapTys, Option.isNone_none, dstOk, keyB_i, tyAll]) | refine WP.seq ?_ | refine WP.block ?_ | ((first | refine WP.region ?_ | refine WP.condW ?_ | refine WP.ret ?_ | refine WP.exit ?_ | refine WP.skip ?_); simp only [go_sem, hki, hE, encEntry, hfr, hcE, St.runM, St.stepM, mapTys, Option.isNone_none, dstOk, keyB_i, tyAll]) | ((first | refine WP.flowW 8 fl0bb782776e [56, 57, 58, 59, 60, 61, 62, 63] [] [] (by decide +kernel) (by kernel_rfl) (by kernel_rfl) (by kernel_rfl) ?_ | refine WP.flowW 8 fl97dfa0fb82 [72, 73, 74, 75, 76, 77, 78, 79] [] [] (by decide +kernel) (by kernel_rfl) (by kernel_rfl) (by kernel_rfl) ?_); simp only [go_sem, hki, hE, encEntry, hfr, hcE, St.runM, St.stepM, mapTys, Option.isNone_none, dstOk, keyB_i, tyAll]) |  refine And.intro ?_ ?_ | intro _))
  all_goals first | omega | exact ⟨_, _, _, rfl⟩ | skip
  refine WP.loop (fun i : Nat => ⟨[(1, .v (.int .i64 n)), (5, .own 22), (7, .ptr 7 0 0 0), (8, .sl 2 (F.map encFrame)), (10, .own 36), (24, .sl 2 ((entriesOf N C).map encEntry)), (25, .v (.int .i64 (entriesOf N C).length)), (26, .v (.int .i64 k)), (37, .sl 2 (F.map encFrame)), (38, .v (.int .i64 F.length)), (39, .v (.int .i64 i))], [(7, .box 83 [.v (.string (entriesOf N C)[k].stack), .v (.int .i64 c)]), (36, .mp 87 ((seenL n (F.take i)).map setE)), (22, .sl 51 2 ((lcRows c F L i).map encLineCount))]⟩)
    (fun i => i ≤ F.length) (fun i => F.length - i) 0 (by simp) ?_ ?_
  · rw [lcRows_zero hF0]; (simp only [go_sem, tyAll] <;> (first | rfl | exact ⟨rfl, rfl⟩ | exact ⟨rfl, rfl, rfl⟩ | exact ⟨rfl, rfl, rfl, rfl⟩ | exact ⟨rfl, rfl, rfl, rfl, rfl⟩ | exact ⟨⟨rfl, rfl⟩, rfl⟩ | simp))
  intro i hi
  by_cases hil : i < F.length
  rotate_left
  · have hge : ¬ (i : Int) < F.length := by omega
    have hie : i = F.length := by omega
    subst hie
    rw [← hsu]
    (repeat' (first | refine WP.seq ?_ | refine WP.block ?_ | ((first | refine WP.region ?_ | refine WP.condW ?_ | refine WP.ret ?_ | refine WP.exit ?_ | refine WP.skip ?_); simp only [go_sem, hge, tyAll]) | ((first | refine WP.flowW 8 fl0bb782776e [56, 57, 58, 59, 60, 61, 62, 63] [] [] (by decide +kernel) (by kernel_rfl) (by kernel_rfl) (by kernel_rfl) ?_ | refine WP.flowW 8 fl97dfa0fb82 [72, 73, 74, 75, 76, 77, 78, 79] [] [] (by decide +kernel) (by kernel_rfl) (by kernel_rfl) (by kernel_rfl) ?_); simp only [go_sem, hge, tyAll]) |  refine And.intro ?_ ?_ | intro _))
    all_goals first | omega | skip
    all_goals first | exact ⟨k + 1, by omega, by omega, by (first | rfl | exact ⟨rfl, rfl⟩ | exact ⟨rfl, rfl, rfl⟩ | exact ⟨rfl, rfl, rfl, rfl⟩ | exact ⟨rfl, rfl, rfl, rfl, rfl⟩ | exact ⟨⟨rfl, rfl⟩, rfl⟩ | simp)⟩ | trace_state
  have hii : (i : Int) < F.length := by omega
  have h1 := rowAt_map encFrame F i hil
  have hln := frOk_iff.1 (hFo _ (List.getElem_mem hil))
  have hl0 := hln.2.1
  have hsm := seenL_succ (n := n) hil
  have hos : ∀ x, onLine (F.take (i + 1)) x = (onLine (F.take i) x || decide (F[i].line = (x : Int))) := onLine_succ hil
  have hla : i + 1 = F.length → ∀ x, lastOn F x = decide (F[i].line = (x : Int)) := by
    intro h x
    rw [lastOn_at hF0 x]
    have : F.length - 1 = i := by omega
    simp only [this]
  have hne : ¬ i = F.length := by omega
  have hsucc : ∀ (u v : Nat → Bool), (∀ x, x < L.length → u x = (decide (i + 1 = F.length) && lastOn F x)) → (∀ x, x < L.length → v x = onLine (F.take (i + 1)) x) → addK c u v L = lcRows c F L (i + 1) := fun u v h1 h2 => addK_congr h1 h2
  by_cases hnl : n ≤ F[i].line
  · have hst1 : seenL n (F.take (i + 1)) = seenL n (F.take i) := by rw [hsm]; exact if_pos (Or.inl hnl)
    have hfin : lcRows c F L i = lcRows c F L (i + 1) := hsucc _ _ (fun x hx => by
      have : ¬ F[i].line = (x : Int) := by omega
      by_cases h : i + 1 = F.length
      · simp [hne, hla h, this]
      · simp [hne, h]) (fun x hx => by
      have : ¬ F[i].line = (x : Int) := by omega
      simp [hos, this])
    (repeat' (first | (refine WP.regionM (id := 13) mapTys mapTysOk ?_; simp only [go_sem, hii, h1, encFrame, hnl, St.runM, St.stepM, mapTys, Option.isNone_none, dstOk, keyB_i, tyAll]) | (refine WP.regionM (id := 14) mapTys mapTysOk ?_; simp only [go_sem, hii, h1, encFrame, hnl, St.runM, St.stepM, mapTys, Option.isNone_none, dstOk, keyB_i, tyAll]) | refine WP.seq ?_ | refine WP.block ?_ | ((first | refine WP.region ?_ | refine WP.condW ?_ | refine WP.ret ?_ | refine WP.exit ?_ | refine WP.skip ?_); simp only [go_sem, hii, h1, encFrame, hnl, St.runM, St.stepM, mapTys, Option.isNone_none, dstOk, keyB_i, tyAll]) | ((first | refine WP.flowW 8 fl0bb782776e [56, 57, 58, 59, 60, 61, 62, 63] [] [] (by decide +kernel) (by kernel_rfl) (by kernel_rfl) (by kernel_rfl) ?_ | refine WP.flowW 8 fl97dfa0fb82 [72, 73, 74, 75, 76, 77, 78, 79] [] [] (by decide +kernel) (by kernel_rfl) (by kernel_rfl) (by kernel_rfl) ?_); simp only [go_sem, hii, h1, encFrame, hnl, St.runM, St.stepM, mapTys, Option.isNone_none, dstOk, keyB_i, tyAll]) |  refine And.intro ?_ ?_ | intro _))
    all_goals first | omega | skip
    all_goals first | exact ⟨i + 1, by omega, by omega, by simp only [← hfin, hst1]; (first | rfl | exact ⟨rfl, rfl⟩ | exact ⟨rfl, rfl, rfl⟩ | exact ⟨rfl, rfl, rfl, rfl⟩ | exact ⟨rfl, rfl, rfl, rfl, rfl⟩ | exact ⟨⟨rfl, rfl⟩, rfl⟩ | simp)⟩ | trace_state
  have hnlT : ¬ n ≤ F[i].line := hnl
  have hlt : F[i].line < n := by omega
  have hp : F[i].line.toNat < L.length := by omega
  have hxp : ∀ x : Nat, (F[i].line = (x : Int)) ↔ x = F[i].line.toNat := fun x => by omega
  have hbr := hB _ (List.getElem_mem hp)
  have s0 : (fun x => decide (i = F.length) && lastOn F x) F[i].line.toNat = false := by simp [hne]
  have hmg : mget (.int .i64 F[i].line) ((seenL n (F.take i)).map setE) (.bool false) = .bool (decide (F[i].line ∈ seenL n (F.take i))) := mget_set _ _
  have hkb := keyB_set (seenL n (F.take i))
  have hso := seen_on (n := n) (F := F) (i := i) (by omega) hl0 hlt
  have gl := addK_len c (fun x => decide (i = F.length) && lastOn F x) (onLine (F.take i)) L
  have gl1 := addK_len c (fun x => decide (i = F.length) && lastOn F x) (fun x => onLine (F.take i) x || decide (x = F[i].line.toNat)) L
  by_cases hse : F[i].line ∈ seenL n (F.take i)
  · have hst1 : seenL n (F.take (i + 1)) = seenL n (F.take i) := by rw [hsm]; exact if_pos (Or.inr hse)
    have ho := hso.1 hse
    have hseT : (F[i].line ∈ seenL n (F.take i)) = True := eq_true hse
    have hos' : ∀ x, onLine (F.take (i + 1)) x = onLine (F.take i) x := by
      intro x
      rw [hos]
      by_cases hx : F[i].line = (x : Int)
      · rw [(hxp x).1 hx, ho, Bool.true_or]
      · simp [hx]
    have t0 : onLine (F.take i) F[i].line.toNat = true := ho
    have g1 := lc_row1 (c := c) (L := L) (s := fun x => decide (i = F.length) && lastOn F x) (t := onLine (F.take i)) hp s0 t0
    have g2 := lc_setS1 (c := c) (L := L) (s := fun x => decide (i = F.length) && lastOn F x) (t := onLine (F.take i)) hp s0 t0
    by_cases hL : i + 1 = F.length
    · have hlq : ((i : Int) = (F.length : Int) - 1) = True := eq_true (by omega)
      have hfin := hsucc (fun x => (decide (i = F.length) && lastOn F x) || decide (x = F[i].line.toNat)) (onLine (F.take i)) (fun x hx => by simp [hne, hL, hla hL, hxp]) (fun x hx => (hos' x).symm)
      unfold lcRows at hfin ⊢
      (repeat' (first | (refine WP.regionM (id := 13) mapTys mapTysOk ?_; simp only [go_sem, hii, h1, encFrame, hnlT, hmg, hkb, hseT, hlq, g1, g2, gl, St.runM, St.stepM, mapTys, Option.isNone_none, dstOk, keyB_i, tyAll]) | (refine WP.regionM (id := 14) mapTys mapTysOk ?_; simp only [go_sem, hii, h1, encFrame, hnlT, hmg, hkb, hseT, hlq, g1, g2, gl, St.runM, St.stepM, mapTys, Option.isNone_none, dstOk, keyB_i, tyAll]) | refine WP.seq ?_ | refine WP.block ?_ | ((first | refine WP.region ?_ | refine WP.condW ?_ | refine WP.ret ?_ | refine WP.exit ?_ | refine WP.skip ?_); simp only [go_sem, hii, h1, encFrame, hnlT, hmg, hkb, hseT, hlq, g1, g2, gl, St.runM, St.stepM, mapTys, Option.isNone_none, dstOk, keyB_i, tyAll]) | ((first | refine WP.flowW 8 fl0bb782776e [56, 57, 58, 59, 60, 61, 62, 63] [] [] (by decide +kernel) (by kernel_rfl) (by kernel_rfl) (by kernel_rfl) ?_ | refine WP.flowW 8 fl97dfa0fb82 [72, 73, 74, 75, 76, 77, 78, 79] [] [] (by decide +kernel) (by kernel_rfl) (by kernel_rfl) (by kernel_rfl) ?_); simp only [go_sem, hii, h1, encFrame, hnlT, hmg, hkb, hseT, hlq, g1, g2, gl, St.runM, St.stepM, mapTys, Option.isNone_none, dstOk, keyB_i, tyAll]) |  refine And.intro ?_ ?_ | intro _))
      all_goals first | omega | skip
      all_goals first | exact ⟨i + 1, by omega, by omega, by simp only [← hfin, hst1]; (first | rfl | exact ⟨rfl, rfl⟩ | exact ⟨rfl, rfl, rfl⟩ | exact ⟨rfl, rfl, rfl, rfl⟩ | exact ⟨rfl, rfl, rfl, rfl, rfl⟩ | exact ⟨⟨rfl, rfl⟩, rfl⟩ | simp)⟩ | trace_state
    · have hlq : ((i : Int) = (F.length : Int) - 1) = False := eq_false (by omega)
      have hfin := hsucc (fun x => decide (i = F.length) && lastOn F x) (onLine (F.take i)) (fun x hx => by simp [hne, hL]) (fun x hx => (hos' x).symm)
      unfold lcRows at hfin ⊢
      (repeat' (first | (refine WP.regionM (id := 13) mapTys mapTysOk ?_; simp only [go_sem, hii, h1, encFrame, hnlT, hmg, hkb, hseT, hlq, St.runM, St.stepM, mapTys, Option.isNone_none, dstOk, keyB_i, tyAll]) | (refine WP.regionM (id := 14) mapTys mapTysOk ?_; simp only [go_sem, hii, h1, encFrame, hnlT, hmg, hkb, hseT, hlq, St.runM, St.stepM, mapTys, Option.isNone_none, dstOk, keyB_i, tyAll]) | refine WP.seq ?_ | refine WP.block ?_ | ((first | refine WP.region ?_ | refine WP.condW ?_ | refine WP.ret ?_ | refine WP.exit ?_ | refine WP.skip ?_); simp only [go_sem, hii, h1, encFrame, hnlT, hmg, hkb, hseT, hlq, St.runM, St.stepM, mapTys, Option.isNone_none, dstOk, keyB_i, tyAll]) | ((first | refine WP.flowW 8 fl0bb782776e [56, 57, 58, 59, 60, 61, 62, 63] [] [] (by decide +kernel) (by kernel_rfl) (by kernel_rfl) (by kernel_rfl) ?_ | refine WP.flowW 8 fl97dfa0fb82 [72, 73, 74, 75, 76, 77, 78, 79] [] [] (by decide +kernel) (by kernel_rfl) (by kernel_rfl) (by kernel_rfl) ?_); simp only [go_sem, hii, h1, encFrame, hnlT, hmg, hkb, hseT, hlq, St.runM, St.stepM, mapTys, Option.isNone_none, dstOk, keyB_i, tyAll]) |  refine And.intro ?_ ?_ | intro _))
      all_goals first | omega | skip
      all_goals first | exact ⟨i + 1, by omega, by omega, by simp only [← hfin, hst1]; (first | rfl | exact ⟨rfl, rfl⟩ | exact ⟨rfl, rfl, rfl⟩ | exact ⟨rfl, rfl, rfl, rfl⟩ | exact ⟨rfl, rfl, rfl, rfl, rfl⟩ | exact ⟨⟨rfl, rfl⟩, rfl⟩ | simp)⟩ | trace_state
  · have hst1 : seenL n (F.take (i + 1)) = seenL n (F.take i) ++ [F[i].line] := by rw [hsm]; exact if_neg (fun h => h.elim hnlT hse)
    have hms : mset (.int .i64 F[i].line) (.bool true) ((seenL n (F.take i)).map setE) = (seenL n (F.take (i + 1))).map setE := by rw [mset_set hse, hst1]
    have ho : onLine (F.take i) F[i].line.toNat = false := by
      cases h : onLine (F.take i) F[i].line.toNat with
      | false => rfl
      | true => exact absurd (hso.2 h) hse
    have hseF : (F[i].line ∈ seenL n (F.take i)) = False := eq_false hse
    have g0 := lc_row (c := c) (L := L) (s := fun x => decide (i = F.length) && lastOn F x) (t := onLine (F.take i)) hp s0 ho
    have g1 := lc_setT (c := c) (L := L) (s := fun x => decide (i = F.length) && lastOn F x) (t := onLine (F.take i)) hp s0 ho
    have t1 : (fun x => onLine (F.take i) x || decide (x = F[i].line.toNat)) F[i].line.toNat = true := by simp
    have g3 := lc_row1 (c := c) (L := L) (s := fun x => decide (i = F.length) && lastOn F x) (t := fun x => onLine (F.take i) x || decide (x = F[i].line.toNat)) hp s0 t1
    have g4 := lc_setS1 (c := c) (L := L) (s := fun x => decide (i = F.length) && lastOn F x) (t := fun x => onLine (F.take i) x || decide (x = F[i].line.toNat)) hp s0 t1
    by_cases hL : i + 1 = F.length
    · have hlq : ((i : Int) = (F.length : Int) - 1) = True := eq_true (by omega)
      have hfin := hsucc (fun x => (decide (i = F.length) && lastOn F x) || decide (x = F[i].line.toNat)) (fun x => onLine (F.take i) x || decide (x = F[i].line.toNat)) (fun x hx => by simp [hne, hL, hla hL, hxp]) (fun x hx => by simp [hos, hxp])
      unfold lcRows at hfin ⊢
      (repeat' (first | (refine WP.regionM (id := 13) mapTys mapTysOk ?_; simp only [go_sem, hii, h1, encFrame, hnlT, hmg, hkb, hms, hseF, hlq, g0, g1, g3, g4, gl, gl1, St.runM, St.stepM, mapTys, Option.isNone_none, dstOk, keyB_i, tyAll]) | (refine WP.regionM (id := 14) mapTys mapTysOk ?_; simp only [go_sem, hii, h1, encFrame, hnlT, hmg, hkb, hms, hseF, hlq, g0, g1, g3, g4, gl, gl1, St.runM, St.stepM, mapTys, Option.isNone_none, dstOk, keyB_i, tyAll]) | refine WP.seq ?_ | refine WP.block ?_ | ((first | refine WP.region ?_ | refine WP.condW ?_ | refine WP.ret ?_ | refine WP.exit ?_ | refine WP.skip ?_); simp only [go_sem, hii, h1, encFrame, hnlT, hmg, hkb, hms, hseF, hlq, g0, g1, g3, g4, gl, gl1, St.runM, St.stepM, mapTys, Option.isNone_none, dstOk, keyB_i, tyAll]) | ((first | refine WP.flowW 8 fl0bb782776e [56, 57, 58, 59, 60, 61, 62, 63] [] [] (by decide +kernel) (by kernel_rfl) (by kernel_rfl) (by kernel_rfl) ?_ | refine WP.flowW 8 fl97dfa0fb82 [72, 73, 74, 75, 76, 77, 78, 79] [] [] (by decide +kernel) (by kernel_rfl) (by kernel_rfl) (by kernel_rfl) ?_); simp only [go_sem, hii, h1, encFrame, hnlT, hmg, hkb, hms, hseF, hlq, g0, g1, g3, g4, gl, gl1, St.runM, St.stepM, mapTys, Option.isNone_none, dstOk, keyB_i, tyAll]) |  refine And.intro ?_ ?_ | intro _))
      all_goals first | omega | skip
      all_goals first | exact ⟨i + 1, by omega, by omega, by simp only [← hfin]; (first | rfl | exact ⟨rfl, rfl⟩ | exact ⟨rfl, rfl, rfl⟩ | exact ⟨rfl, rfl, rfl, rfl⟩ | exact ⟨rfl, rfl, rfl, rfl, rfl⟩ | exact ⟨⟨rfl, rfl⟩, rfl⟩ | simp)⟩ | trace_state
    · have hlq : ((i : Int) = (F.length : Int) - 1) = False := eq_false (by omega)
      have hfin := hsucc (fun x => decide (i = F.length) && lastOn F x) (fun x => onLine (F.take i) x || decide (x = F[i].line.toNat)) (fun x hx => by simp [hne, hL]) (fun x hx => by simp [hos, hxp])
      unfold lcRows at hfin ⊢
      (repeat' (first | (refine WP.regionM (id := 13) mapTys mapTysOk ?_; simp only [go_sem, hii, h1, encFrame, hnlT, hmg, hkb, hms, hseF, hlq, g0, g1, gl, St.runM, St.stepM, mapTys, Option.isNone_none, dstOk, keyB_i, tyAll]) | (refine WP.regionM (id := 14) mapTys mapTysOk ?_; simp only [go_sem, hii, h1, encFrame, hnlT, hmg, hkb, hms, hseF, hlq, g0, g1, gl, St.runM, St.stepM, mapTys, Option.isNone_none, dstOk, keyB_i, tyAll]) | refine WP.seq ?_ | refine WP.block ?_ | ((first | refine WP.region ?_ | refine WP.condW ?_ | refine WP.ret ?_ | refine WP.exit ?_ | refine WP.skip ?_); simp only [go_sem, hii, h1, encFrame, hnlT, hmg, hkb, hms, hseF, hlq, g0, g1, gl, St.runM, St.stepM, mapTys, Option.isNone_none, dstOk, keyB_i, tyAll]) | ((first | refine WP.flowW 8 fl0bb782776e [56, 57, 58, 59, 60, 61, 62, 63] [] [] (by decide +kernel) (by kernel_rfl) (by kernel_rfl) (by kernel_rfl) ?_ | refine WP.flowW 8 fl97dfa0fb82 [72, 73, 74, 75, 76, 77, 78, 79] [] [] (by decide +kernel) (by kernel_rfl) (by kernel_rfl) (by kernel_rfl) ?_); simp only [go_sem, hii, h1, encFrame, hnlT, hmg, hkb, hms, hseF, hlq, g0, g1, gl, St.runM, St.stepM, mapTys, Option.isNone_none, dstOk, keyB_i, tyAll]) |  refine And.intro ?_ ?_ | intro _))
      all_goals first | omega | skip
      all_goals first | exact ⟨i + 1, by omega, by omega, by simp only [← hfin]; (first | rfl | exact ⟨rfl, rfl⟩ | exact ⟨rfl, rfl, rfl⟩ | exact ⟨rfl, rfl, rfl, rfl⟩ | exact ⟨rfl, rfl, rfl, rfl, rfl⟩ | exact ⟨⟨rfl, rfl⟩, rfl⟩ | simp)⟩ | trace_state
end
end
end Go.Proofs.YtdhkhapbldkkdaaGreatDoor
namespace Go.Proofs.YtdhkhapbldkkdaaGreatDoor
open Go.Vc
attribute [local go_sem] St.runR St.runW St.stepV offV St.step St.stepU St.stepG mkCond guardB St.prK St.pr St.prLen St.eff St.callE St.callD St.callF St.callL aI aS aR aC St.isM St.argL Ctr.pure Ctr.lend Ctr.move Ctr.isL Ctr.wri pur len lentBy St.lentV St.lent1 nthS argsR restOf obsR pairs swapL unObs backL St.resL erL SV.ren1 SV.up SV.up2 Ob.up St.fzL cellIds partIds St.intoRow SV.ownId St.fz SV.fz1 St.prep St.mvL St.mv SV.re1 rnOk St.prEq vals eqCells scEq Value.kd St.prStr St.prCut cutR St.bnd St.prMin St.bld isShift outL retL outJ oR SV.upq SV.isSl SV.shut St.deepK St.dpArg St.deepQ absC Ob.pl St.ev St.get St.put St.new St.kill SV.kill SV.kill1 Ob.kill St.app St.wrt St.rowsOf St.res St.killL lk er argsL SV.strip SV.need SV.share SV.share1 SV.owns SV.owns1 SV.owns2 SV.good SV.good1 SV.rok SV.rok1 SV.rok2 SV.isV SV.isV2 nodupN SV.cells SV.one SV.pur Ob.pb partsIn rowsIn splice cellsAt dstOk scal2 scal1 thenK blockK retK outK outs okC okL okA okT nilC nilL nilA nilT keepC keepL keepA keepT St.runG St.dltK St.least St.clean St.final St.hide offK badS badO SV.refs SV.leaf SV.leaf2 Ob.refs dlOk fpAt Go.Vc.cover tups SV.ofAgg St.out outC subL St.has rng wr Value.oneCell' Option.isSome_some Option.isSome_none List.nil_append Bool.false_eq_true List.map_cons List.map_nil List.all_cons List.all_nil List.length_cons List.length_nil List.drop_zero List.drop_succ_cons List.take_succ_cons List.take_zero List.drop_nil List.take_nil List.getElem?_cons_zero List.getElem?_cons_succ List.getElem?_nil List.cons_append List.nil_append List.append_nil List.append_assoc List.flatMap_cons List.flatMap_nil List.contains_cons List.contains_nil List.set_cons_zero List.set_cons_succ List.getElem?_toArray Option.getD_some Option.getD_none Option.map_some Option.map_none Option.bind_some Option.some.injEq Prod.mk.injEq if_true if_false true_and and_true and_self and_false false_and Bool.and_false Bool.false_and Bool.or_true Bool.true_or Bool.or_false Bool.false_or ne_eq not_true_eq_false not_false_eq_true decide_true decide_false List.mem_cons List.not_mem_nil List.filter_cons List.filter_nil List.any_cons List.any_nil List.isEmpty_nil List.isEmpty_cons Option.getD_none or_false false_or true_or or_true forall_eq_or_imp forall_eq reduceCtorEq exists_eq exists_eq' exists_eq_left' exists_eq_left exists_eq_right exists_eq_right' imp_self implies_true Bool.and_true Bool.true_and Bool.and_self beq_self_eq_true List.replicate_succ List.replicate_zero forall_const false_implies pickB_or pickB_and beqT beqF Int.toNat_natCast List.length_map List.length_replicate ge_iff_le gt_iff_lt decide_eq_true_eq decide_eq_false_iff_not Bool.and_eq_true Bool.or_eq_true Bool.not_eq_true' Bool.not_eq_false' condG List.toList_toArray Bool.or_eq_false_iff Bool.and_eq_false_iff Int.not_lt Int.not_le beq_iff_eq beq_eq_false_iff_ne bne_iff_ne bne_eq_false_iff_eq ne_eq Bool.not_true Bool.not_false exists_and_left
section
open Go.Vc
set_option linter.unusedSimpArgs false
set_option linter.unusedVariables false
set_option maxHeartbeats 1000000
set_option maxRecDepth 10000
attribute [local irreducible] Go.Vc.WP
attribute [local go_sem] cx0_t cx0_c
attribute [local go_sem] isV_Node isV_It isV_Entry decNode_enc decFrame_enc oneFrame_enc stkA oneFrame_ab oneNode_abc decI_enc prA decEntry_enc
theorem ba_assoc (a b c : ByteArray) : a ++ b ++ c = a ++ (b ++ c) := by
  apply ByteArray.ext
  simp
section
attribute [local go_sem] kEnt kFmt
end
section
attribute [local go_sem] kEnt kFmt
end
section
attribute [local go_sem] kszPr ktoPr keqPr
end
end
end Go.Proofs.YtdhkhapbldkkdaaGreatDoor
namespace Go.Proofs.YtdhkhapbldkkdaaGreatDoor
open Go.Vc
attribute [local go_sem] St.runR St.runW St.stepV offV St.step St.stepU St.stepG mkCond guardB St.prK St.pr St.prLen St.eff St.callE St.callD St.callF St.callL aI aS aR aC St.isM St.argL Ctr.pure Ctr.lend Ctr.move Ctr.isL Ctr.wri pur len lentBy St.lentV St.lent1 nthS argsR restOf obsR pairs swapL unObs backL St.resL erL SV.ren1 SV.up SV.up2 Ob.up St.fzL cellIds partIds St.intoRow SV.ownId St.fz SV.fz1 St.prep St.mvL St.mv SV.re1 rnOk St.prEq vals eqCells scEq Value.kd St.prStr St.prCut cutR St.bnd St.prMin St.bld isShift outL retL outJ oR SV.upq SV.isSl SV.shut St.deepK St.dpArg St.deepQ absC Ob.pl St.ev St.get St.put St.new St.kill SV.kill SV.kill1 Ob.kill St.app St.wrt St.rowsOf St.res St.killL lk er argsL SV.strip SV.need SV.share SV.share1 SV.owns SV.owns1 SV.owns2 SV.good SV.good1 SV.rok SV.rok1 SV.rok2 SV.isV SV.isV2 nodupN SV.cells SV.one SV.pur Ob.pb partsIn rowsIn splice cellsAt dstOk scal2 scal1 thenK blockK retK outK outs okC okL okA okT nilC nilL nilA nilT keepC keepL keepA keepT St.runG St.dltK St.least St.clean St.final St.hide offK badS badO SV.refs SV.leaf SV.leaf2 Ob.refs dlOk fpAt Go.Vc.cover tups SV.ofAgg St.out outC subL St.has rng wr Value.oneCell' Option.isSome_some Option.isSome_none List.nil_append Bool.false_eq_true List.map_cons List.map_nil List.all_cons List.all_nil List.length_cons List.length_nil List.drop_zero List.drop_succ_cons List.take_succ_cons List.take_zero List.drop_nil List.take_nil List.getElem?_cons_zero List.getElem?_cons_succ List.getElem?_nil List.cons_append List.nil_append List.append_nil List.append_assoc List.flatMap_cons List.flatMap_nil List.contains_cons List.contains_nil List.set_cons_zero List.set_cons_succ List.getElem?_toArray Option.getD_some Option.getD_none Option.map_some Option.map_none Option.bind_some Option.some.injEq Prod.mk.injEq if_true if_false true_and and_true and_self and_false false_and Bool.and_false Bool.false_and Bool.or_true Bool.true_or Bool.or_false Bool.false_or ne_eq not_true_eq_false not_false_eq_true decide_true decide_false List.mem_cons List.not_mem_nil List.filter_cons List.filter_nil List.any_cons List.any_nil List.isEmpty_nil List.isEmpty_cons Option.getD_none or_false false_or true_or or_true forall_eq_or_imp forall_eq reduceCtorEq exists_eq exists_eq' exists_eq_left' exists_eq_left exists_eq_right exists_eq_right' imp_self implies_true Bool.and_true Bool.true_and Bool.and_self beq_self_eq_true List.replicate_succ List.replicate_zero forall_const false_implies pickB_or pickB_and beqT beqF Int.toNat_natCast List.length_map List.length_replicate ge_iff_le gt_iff_lt decide_eq_true_eq decide_eq_false_iff_not Bool.and_eq_true Bool.or_eq_true Bool.not_eq_true' Bool.not_eq_false' condG List.toList_toArray Bool.or_eq_false_iff Bool.and_eq_false_iff Int.not_lt Int.not_le beq_iff_eq beq_eq_false_iff_ne bne_iff_ne bne_eq_false_iff_eq ne_eq Bool.not_true Bool.not_false exists_and_left Nat.reduceAdd Nat.reduceLT Nat.reduceLeDiff Nat.reduceEqDiff Nat.reduceMul Nat.reduceSub Nat.reduceGT reduceIte Int.reduceNeg Int.reduceToNat
section
open Go.Vc
set_option linter.unusedSimpArgs false
set_option linter.unusedVariables false
set_option maxHeartbeats 1000000
set_option maxRecDepth 10000
attribute [local irreducible] Go.Vc.WP
attribute [local go_sem] cx0_t cx0_c
attribute [local go_sem] isV_Node isV_It isV_Entry isV_LineCount decNode_enc decLine_enc decTok_enc decS_enc oneLine_f line_eta decI_enc prA encI_inj St.fzS addL behind St.runO St.stepO
theorem allV_Lc (L : List LineCount) : allV (L.map encLineCount) := fun row hr c hc => by
  obtain ⟨x, _, rfl⟩ := List.mem_map.1 hr
  simp only [encLineCount, List.mem_cons, List.not_mem_nil, or_false] at hc
  rcases hc with rfl | rfl <;> exact ⟨_, rfl⟩
def kLcZ : Ctr := pur (fun args => (prA args 0, aI args 1)) (fun x => [.agg [.sl 3 (x.1.1.map encNode), .sl 1 (x.1.2.map encI)], .v (.int .i64 x.2)])
  (fun x => (x.1.1.length ≤ 1048576 ∧ ∀ n ∈ x.1.1, n.name.size ≤ 1048576) ∧ x.1.2.length ≤ 1048576) (fun _ x => .sl 2 ((lineCounts x.1.1 x.1.2 x.2).map encLineCount)) (fun _ _ => [])
theorem cLcZI : Cn Tryz.prog 16 kLcZ := Cn.frozen (fun _ => allV_Lc _) cLcI
theorem cLcZS : Cn Tryz.prog 25 kLcZ := Cn.frozen (fun _ => allV_Lc _) cLcS
def annLine (c : LineCount) (x : Line) : ByteArray := bts (fmtL c.self.toNat) ++ (⟨#[32]⟩ ++ (bts (fmtL c.total.toNat) ++ (⟨#[32]⟩ ++ (fmtLine x ++ ⟨#[10]⟩))))
def annTo (C : List LineCount) (P : List Line) : Nat → ByteArray
  | 0 => ⟨#[]⟩
  | k + 1 => annTo C P k ++ (match C[k]?, P[k]? with | some c, some x => annLine c x | _, _ => ⟨#[]⟩)
theorem annTo_succ {C : List LineCount} {P : List Line} {k : Nat} (h : k < C.length) (h2 : k < P.length) : annTo C P (k + 1) = annTo C P k ++ annLine C[k] P[k] := by
  rw [annTo, List.getElem?_eq_getElem h, List.getElem?_eq_getElem h2]
theorem fmtLine_size {x : Line} (h : LineP x) : (fmtLine x).size ≤ 242 := by rw [fmtLine_ok h, bts_size]; exact line_len' h
theorem fmtc_size {c : Int} (h : c ≤ 1000000000000) : (bts (fmtL c.toNat)).size ≤ 16 := by rw [bts_size]; exact fmtL_len 16 _ (by omega) (by omega)
theorem annLine_size {c : LineCount} {x : Line} (h : LineP x) (h1 : c.self ≤ 1000000000000) (h2 : c.total ≤ 1000000000000) : (annLine c x).size ≤ 300 := by
  have := fmtLine_size h
  have := fmtc_size h1
  have := fmtc_size h2
  have s1 : ByteArray.size ⟨#[32]⟩ = 1 := rfl
  have s2 : ByteArray.size ⟨#[10]⟩ = 1 := rfl
  unfold annLine
  simp only [ByteArray.size_append]
  omega
theorem annTo_size {C : List LineCount} {P : List Line} (hP : ∀ y ∈ P, LineP y) (hC : ∀ r ∈ C, 0 ≤ r.self ∧ r.self ≤ 1000000000000 ∧ 0 ≤ r.total ∧ r.total ≤ 1000000000000) : ∀ k, (annTo C P k).size ≤ k * 300
  | 0 => by have : (annTo C P 0).size = 0 := rfl; omega
  | k + 1 => by
    have ih := annTo_size hP hC k
    rw [annTo, ByteArray.size_append]
    have : (match C[k]?, P[k]? with | some c, some x => annLine c x | _, _ => (⟨#[]⟩ : ByteArray)).size ≤ 300 := by
      split
      · rename_i c x hc hx
        have h1 := hC c (List.mem_of_getElem? hc)
        exact annLine_size (hP x (List.mem_of_getElem? hx)) h1.2.1 h1.2.2.2
      · have : ByteArray.size ⟨#[]⟩ = 0 := rfl
        omega
    omega
theorem lc_bnd (N : List Node) (C : List Int) (n : Int) : ∀ r ∈ lineCounts N C n, 0 ≤ r.self ∧ r.self ≤ 1000000000000 ∧ 0 ≤ r.total ∧ r.total ≤ 1000000000000 := fun r hr => by
  unfold lineCounts at hr
  split at hr
  · have h := lc_LB (E := entriesOf N C) ent_pos n.toNat (entriesOf N C).length (Nat.le_refl _)
    rw [List.take_length, sumE_entries] at h
    have := h r hr
    have := totalOf_bound N C
    omega
  · cases hr
theorem lc_len {N : List Node} {C : List Int} {n : Nat} (hp : profileOk N C = true) (hn : n ≤ 60) : (lineCounts N C n).length = n := by
  unfold lineCounts
  rw [if_pos ⟨hp, by omega, by omega⟩, lcGo_len, List.length_replicate, Int.toNat_natCast]
noncomputable def annOf (P : List Line) (N : List Node) (C : List Int) : ByteArray := if progOk P = true ∧ profileOk N C = true then annTo (lineCounts N C P.length) P P.length else ⟨#[]⟩
noncomputable def kAnn : Ctr := pur (fun args => (decLine (aR args 0), prA args 1)) (fun x => [.sl 4 (x.1.map encLine), .agg [.sl 3 (x.2.1.map encNode), .sl 1 (x.2.2.map encI)]])
  (fun x => (x.1.length ≤ 1048576 ∧ ∀ y ∈ x.1, smLine y) ∧ (x.2.1.length ≤ 1048576 ∧ ∀ n ∈ x.2.1, n.name.size ≤ 1048576) ∧ x.2.2.length ≤ 1048576) (fun _ x => .v (.string (annOf x.1 x.2.1 x.2.2))) (fun _ _ => [])
section
attribute [local irreducible] smLine
noncomputable def cxAnI : Cx := { P := Tryz.prog, tys := tys, C := [(31, kPrgOk), (32, kPrOk), (16, kLcZ), (33, kFmt), (34, kFmtL)], hty := tysOk, hC := COk.cons cPrgOkI (COk.cons cPrOkI (COk.cons cLcZI (COk.cons cFmtI (COk.cons cFmtLI (COk.nil _))))) }
theorem cxAnI_t : cxAnI.tys = tys := rfl
theorem cxAnI_c : cxAnI.C = [(31, kPrgOk), (32, kPrOk), (16, kLcZ), (33, kFmt), (34, kFmtL)] := rfl
attribute [local go_sem] cxAnI_t cxAnI_c kPrgOk kPrOk kLcZ kFmt kFmtL
set_option maxHeartbeats 8000000
theorem cAnnI : Cn Tryz.prog 10 kAnn := by
  refine Cn.pur Tryz.func10 (by kernel_rfl) rfl fun d x hx => ?_
  obtain ⟨P, N, C⟩ := x
  obtain ⟨⟨hP, hsm⟩, ⟨hN, hs⟩, hC⟩ := hx
  simp only at hP hsm hN hs hC ⊢
  refine Holds.go (c := cxAnI) Tryz.func10 rfl Tryz.results10 Tryz.ntmps10 (by omega) (by simp) rfl ?_
  intro X0 w0
  have lk0 : lk 0 tys = none := rfl
  cases hg : progOk P with
  | false =>
    have hr : annOf P N C = ⟨#[]⟩ := if_neg fun h => by rw [h.1] at hg; cases hg
    rw [hr]
    (repeat' (first | refine WP.seq ?_ | refine WP.block ?_ | ((first | refine WP.region ?_ | refine WP.condW ?_ | refine WP.ret ?_ | refine WP.exit ?_ | refine WP.skip ?_); simp only [go_sem, hg, tyAll]) | ((first | refine WP.drawW 18 (by decide +kernel) (by kernel_rfl) ?_); simp only [go_sem, hg, tyAll]) |  refine And.intro ?_ ?_ | intro _))
    all_goals first | omega | (simp only; omega) | rfl | exact hsm _ ‹_› | exact hs _ ‹_› | exact Nat.le_trans (hs _ ‹_›) (by omega) | skip
  | true =>
  cases hok : profileOk N C with
  | false =>
    have hr : annOf P N C = ⟨#[]⟩ := if_neg fun h => by rw [h.2] at hok; cases hok
    rw [hr]
    (repeat' (first | refine WP.seq ?_ | refine WP.block ?_ | ((first | refine WP.region ?_ | refine WP.condW ?_ | refine WP.ret ?_ | refine WP.exit ?_ | refine WP.skip ?_); simp only [go_sem, hg, hok, tyAll]) | ((first | refine WP.drawW 18 (by decide +kernel) (by kernel_rfl) ?_); simp only [go_sem, hg, hok, tyAll]) |  refine And.intro ?_ ?_ | intro _))
    all_goals first | omega | (simp only; omega) | rfl | exact hsm _ ‹_› | exact hs _ ‹_› | exact Nat.le_trans (hs _ ‹_›) (by omega) | skip
  | true =>
  have hr : annOf P N C = annTo (lineCounts N C P.length) P P.length := if_pos ⟨hg, hok⟩
  rw [hr]
  have hpg := progOk_iff.1 hg
  have hL60 := hpg.few
  have hlp := hpg.lines
  have hll := lc_len hok hL60
  have hlb := lc_bnd N C P.length
  generalize hLL : lineCounts N C P.length = L at hll hlb
  (repeat' (first | refine WP.seq ?_ | refine WP.block ?_ | ((first | refine WP.region ?_ | refine WP.condW ?_ | refine WP.ret ?_ | refine WP.exit ?_ | refine WP.skip ?_); simp only [go_sem, hg, hok, hLL, tyAll]) | ((first | refine WP.drawW 18 (by decide +kernel) (by kernel_rfl) ?_); simp only [go_sem, hg, hok, hLL, tyAll]) |  refine And.intro ?_ ?_ | intro _))
  all_goals first | omega | (simp only; omega) | exact hsm _ ‹_› | exact hs _ ‹_› | exact Nat.le_trans (hs _ ‹_›) (by omega) | skip
  refine WP.loop (fun k : Nat => ⟨[(0, .sl 4 (P.map encLine)), (5, .v (.string (annTo L P k))), (19, .sl 2 (L.map encLineCount)), (20, .v (.int .i64 L.length)), (21, .v (.int .i64 k))], []⟩) (fun k => k ≤ P.length) (fun k => P.length - k) 0 (by omega) ?_ ?_
  · (simp only [go_sem, tyAll] <;> (first | rfl | exact ⟨rfl, rfl⟩ | exact ⟨rfl, rfl, rfl⟩ | exact ⟨rfl, rfl, rfl, rfl⟩ | exact ⟨rfl, rfl, rfl, rfl, rfl⟩ | exact ⟨⟨rfl, rfl⟩, rfl⟩ | simp))
  intro k hk
  have hsz := annTo_size (C := L) hlp hlb k
  have s1 : ByteArray.size ⟨#[32]⟩ = 1 := rfl
  have s2 : ByteArray.size ⟨#[10]⟩ = 1 := rfl
  have s3 : (#[32] : Array UInt8).size = 1 := rfl
  have s4 : (#[10] : Array UInt8).size = 1 := rfl
  by_cases hlt : k < P.length
  · have hli : (k : Int) < L.length := by omega
    have hkL : k < L.length := by omega
    have h1 := rowAt_map encLineCount L k hkL
    have h2 := rowAt_map encLine P k hlt
    have hsu := annTo_succ hkL hlt
    have hsk := hsm _ (List.getElem_mem hlt)
    have hlk := hlp _ (List.getElem_mem hlt)
    obtain ⟨b1, b2, b3, b4⟩ := hlb _ (List.getElem_mem hkL)
    have z1 := fmtLine_size hlk
    have z2 := fmtc_size b2
    have z3 := fmtc_size b4
    generalize L[k] = c at h1 hsu b1 b2 b3 b4 z2 z3
    generalize P[k] = y at h2 hsu hsk hlk z1
    obtain ⟨cs, ct⟩ := c
    obtain ⟨yk, yn, yA, yE⟩ := y
    rw [encLineCount] at h1
    rw [encLine] at h2
    simp only at h1 h2 b1 b2 b3 b4 z1 z2 z3
    have hkb : k * 300 ≤ 60 * 300 := Nat.mul_le_mul_right _ (by omega)
    (repeat' (first | refine WP.seq ?_ | refine WP.block ?_ | ((first | refine WP.region ?_ | refine WP.condW ?_ | refine WP.ret ?_ | refine WP.exit ?_ | refine WP.skip ?_); simp only [go_sem, hli, h1, h2, tyAll]) | ((first | refine WP.drawW 18 (by decide +kernel) (by kernel_rfl) ?_); simp only [go_sem, hli, h1, h2, tyAll]) |  refine And.intro ?_ ?_ | intro _))
    all_goals first | omega | exact hsk | (simp only [ByteArray.size_append]; omega) | skip
    all_goals first | exact ⟨k + 1, by omega, by omega, by simp only [hsu, annLine, ba_assoc]; (first | rfl | exact ⟨rfl, rfl⟩ | exact ⟨rfl, rfl, rfl⟩ | exact ⟨rfl, rfl, rfl, rfl⟩ | exact ⟨rfl, rfl, rfl, rfl, rfl⟩ | exact ⟨⟨rfl, rfl⟩, rfl⟩ | simp)⟩ | exact ⟨k + 1, by omega, by omega, by simp only [hsu, annLine, ba_assoc], by (first | rfl | exact ⟨rfl, rfl⟩ | exact ⟨rfl, rfl, rfl⟩ | exact ⟨rfl, rfl, rfl, rfl⟩ | exact ⟨rfl, rfl, rfl, rfl, rfl⟩ | exact ⟨⟨rfl, rfl⟩, rfl⟩ | simp)⟩ | trace_state
  · have hge : ¬ (k : Int) < L.length := by omega
    (repeat' (first | refine WP.seq ?_ | refine WP.block ?_ | ((first | refine WP.region ?_ | refine WP.condW ?_ | refine WP.ret ?_ | refine WP.exit ?_ | refine WP.skip ?_); simp only [go_sem, hge, tyAll]) | ((first | refine WP.drawW 18 (by decide +kernel) (by kernel_rfl) ?_); simp only [go_sem, hge, tyAll]) |  refine And.intro ?_ ?_ | intro _))
    all_goals first | omega | skip
    all_goals rw [show k = P.length by omega]
end
end
section
open Go.Vc
set_option linter.unusedSimpArgs false
set_option linter.unusedVariables false
set_option maxHeartbeats 1000000
set_option maxRecDepth 10000
attribute [local irreducible] Go.Vc.WP
attribute [local go_sem] cx0_t cx0_c
attribute [local go_sem] isV_Node isV_It isV_Entry isV_LineCount decNode_enc decLine_enc decTok_enc decS_enc oneLine_f line_eta decI_enc prA encI_inj St.fzS addL behind St.runO St.stepO
section
attribute [local irreducible] smLine
noncomputable def cxAnS : Cx := { P := Tryz.prog, tys := tys, C := [(18, kPrgOk), (24, kPrOk), (25, kLcZ), (26, kFmt), (27, kFmtL)], hty := tysOk, hC := COk.cons cPrgOkS (COk.cons cPrOkS (COk.cons cLcZS (COk.cons cFmtS (COk.cons cFmtLS (COk.nil _))))) }
theorem cxAnS_t : cxAnS.tys = tys := rfl
theorem cxAnS_c : cxAnS.C = [(18, kPrgOk), (24, kPrOk), (25, kLcZ), (26, kFmt), (27, kFmtL)] := rfl
attribute [local go_sem] cxAnS_t cxAnS_c kPrgOk kPrOk kLcZ kFmt kFmtL
set_option maxHeartbeats 8000000
theorem cAnnS : Cn Tryz.prog 7 kAnn := by
  refine Cn.pur Tryz.func7 (by kernel_rfl) rfl fun d x hx => ?_
  obtain ⟨P, N, C⟩ := x
  obtain ⟨⟨hP, hsm⟩, ⟨hN, hs⟩, hC⟩ := hx
  simp only at hP hsm hN hs hC ⊢
  refine Holds.go (c := cxAnS) Tryz.func7 rfl Tryz.results7 Tryz.ntmps7 (by omega) (by simp) rfl ?_
  intro X0 w0
  have lk0 : lk 0 tys = none := rfl
  cases hg : progOk P with
  | false =>
    have hr : annOf P N C = ⟨#[]⟩ := if_neg fun h => by rw [h.1] at hg; cases hg
    rw [hr]
    (repeat' (first | refine WP.seq ?_ | refine WP.block ?_ | ((first | refine WP.region ?_ | refine WP.condW ?_ | refine WP.ret ?_ | refine WP.exit ?_ | refine WP.skip ?_); simp only [go_sem, hg, tyAll]) | ((first | refine WP.drawW 24 (by decide +kernel) (by kernel_rfl) ?_); simp only [go_sem, hg, tyAll]) |  refine And.intro ?_ ?_ | intro _))
    all_goals first | omega | (simp only; omega) | rfl | exact hsm _ ‹_› | exact hs _ ‹_› | exact Nat.le_trans (hs _ ‹_›) (by omega) | skip
  | true =>
  cases hok : profileOk N C with
  | false =>
    have hr : annOf P N C = ⟨#[]⟩ := if_neg fun h => by rw [h.2] at hok; cases hok
    rw [hr]
    (repeat' (first | refine WP.seq ?_ | refine WP.block ?_ | ((first | refine WP.region ?_ | refine WP.condW ?_ | refine WP.ret ?_ | refine WP.exit ?_ | refine WP.skip ?_); simp only [go_sem, hg, hok, tyAll]) | ((first | refine WP.drawW 24 (by decide +kernel) (by kernel_rfl) ?_); simp only [go_sem, hg, hok, tyAll]) |  refine And.intro ?_ ?_ | intro _))
    all_goals first | omega | (simp only; omega) | rfl | exact hsm _ ‹_› | exact hs _ ‹_› | exact Nat.le_trans (hs _ ‹_›) (by omega) | skip
  | true =>
  have hr : annOf P N C = annTo (lineCounts N C P.length) P P.length := if_pos ⟨hg, hok⟩
  rw [hr]
  have hpg := progOk_iff.1 hg
  have hL60 := hpg.few
  have hlp := hpg.lines
  have hll := lc_len hok hL60
  have hlb := lc_bnd N C P.length
  generalize hLL : lineCounts N C P.length = L at hll hlb
  (repeat' (first | refine WP.seq ?_ | refine WP.block ?_ | ((first | refine WP.region ?_ | refine WP.condW ?_ | refine WP.ret ?_ | refine WP.exit ?_ | refine WP.skip ?_); simp only [go_sem, hg, hok, hLL, tyAll]) | ((first | refine WP.drawW 24 (by decide +kernel) (by kernel_rfl) ?_); simp only [go_sem, hg, hok, hLL, tyAll]) |  refine And.intro ?_ ?_ | intro _))
  all_goals first | omega | (simp only; omega) | exact hsm _ ‹_› | exact hs _ ‹_› | exact Nat.le_trans (hs _ ‹_›) (by omega) | skip
  refine WP.loop (fun k : Nat => ⟨[(0, .sl 4 (P.map encLine)), (5, .v (.string (annTo L P k))), (6, .sl 2 (L.map encLineCount)), (7, .v (.int .i64 k))], []⟩) (fun k => k ≤ P.length) (fun k => P.length - k) 0 (by omega) ?_ ?_
  · (simp only [go_sem, tyAll] <;> (first | rfl | exact ⟨rfl, rfl⟩ | exact ⟨rfl, rfl, rfl⟩ | exact ⟨rfl, rfl, rfl, rfl⟩ | exact ⟨rfl, rfl, rfl, rfl, rfl⟩ | exact ⟨⟨rfl, rfl⟩, rfl⟩ | simp))
  intro k hk
  have hsz := annTo_size (C := L) hlp hlb k
  have s1 : ByteArray.size ⟨#[32]⟩ = 1 := rfl
  have s2 : ByteArray.size ⟨#[10]⟩ = 1 := rfl
  have s3 : (#[32] : Array UInt8).size = 1 := rfl
  have s4 : (#[10] : Array UInt8).size = 1 := rfl
  by_cases hlt : k < P.length
  · have hli : (k : Int) < P.length := by omega
    have hkL : k < L.length := by omega
    have h1 := rowAt_map encLineCount L k hkL
    have h2 := rowAt_map encLine P k hlt
    have hsu := annTo_succ hkL hlt
    have hsk := hsm _ (List.getElem_mem hlt)
    have hlk := hlp _ (List.getElem_mem hlt)
    obtain ⟨b1, b2, b3, b4⟩ := hlb _ (List.getElem_mem hkL)
    have z1 := fmtLine_size hlk
    have z2 := fmtc_size b2
    have z3 := fmtc_size b4
    generalize L[k] = c at h1 hsu b1 b2 b3 b4 z2 z3
    generalize P[k] = y at h2 hsu hsk hlk z1
    obtain ⟨cs, ct⟩ := c
    obtain ⟨yk, yn, yA, yE⟩ := y
    rw [encLineCount] at h1
    rw [encLine] at h2
    simp only at h1 h2 b1 b2 b3 b4 z1 z2 z3
    have hkb : k * 300 ≤ 60 * 300 := Nat.mul_le_mul_right _ (by omega)
    (repeat' (first | refine WP.seq ?_ | refine WP.block ?_ | ((first | refine WP.region ?_ | refine WP.condW ?_ | refine WP.ret ?_ | refine WP.exit ?_ | refine WP.skip ?_); simp only [go_sem, hli, h1, h2, tyAll]) | ((first | refine WP.drawW 24 (by decide +kernel) (by kernel_rfl) ?_); simp only [go_sem, hli, h1, h2, tyAll]) |  refine And.intro ?_ ?_ | intro _))
    all_goals first | omega | exact hsk | (simp only [ByteArray.size_append]; omega) | skip
    all_goals first | exact ⟨k + 1, by omega, by omega, by simp only [hsu, annLine, ba_assoc]; (first | rfl | exact ⟨rfl, rfl⟩ | exact ⟨rfl, rfl, rfl⟩ | exact ⟨rfl, rfl, rfl, rfl⟩ | exact ⟨rfl, rfl, rfl, rfl, rfl⟩ | exact ⟨⟨rfl, rfl⟩, rfl⟩ | simp)⟩ | exact ⟨k + 1, by omega, by omega, by simp only [hsu, annLine, ba_assoc], by (first | rfl | exact ⟨rfl, rfl⟩ | exact ⟨rfl, rfl, rfl⟩ | exact ⟨rfl, rfl, rfl, rfl⟩ | exact ⟨rfl, rfl, rfl, rfl, rfl⟩ | exact ⟨⟨rfl, rfl⟩, rfl⟩ | simp)⟩ | trace_state
  · have hge : ¬ (k : Int) < P.length := by omega
    (repeat' (first | refine WP.seq ?_ | refine WP.block ?_ | ((first | refine WP.region ?_ | refine WP.condW ?_ | refine WP.ret ?_ | refine WP.exit ?_ | refine WP.skip ?_); simp only [go_sem, hge, tyAll]) | ((first | refine WP.drawW 24 (by decide +kernel) (by kernel_rfl) ?_); simp only [go_sem, hge, tyAll]) |  refine And.intro ?_ ?_ | intro _))
    all_goals first | omega | skip
    all_goals rw [show k = P.length by omega]
end
end
end Go.Proofs.YtdhkhapbldkkdaaGreatDoor
namespace Go.Proofs.YtdhkhapbldkkdaaGreatDoor
open Go.Vc
section
variable {α : Type} (cnt : α → Nat) (mrk : Int → α → α)
variable {cnt mrk}
end
end Go.Proofs.YtdhkhapbldkkdaaGreatDoor

namespace Go.Proofs.YtdhkhapbldkkdaaGreatDoor
open Go.Vc
attribute [local go_sem] St.runR St.runW St.stepV offV St.step St.stepU St.stepG mkCond guardB St.prK St.pr St.prLen St.eff St.callE St.callD St.callF St.callL aI aS aR aC St.isM St.argL Ctr.pure Ctr.lend Ctr.move Ctr.isL Ctr.wri pur len lentBy St.lentV St.lent1 nthS argsR restOf obsR pairs swapL unObs backL St.resL erL SV.ren1 SV.up SV.up2 Ob.up St.fzL cellIds partIds St.intoRow SV.ownId St.fz SV.fz1 St.prep St.mvL St.mv SV.re1 rnOk St.prEq vals eqCells scEq Value.kd St.prStr St.prCut cutR St.bnd St.prMin St.bld isShift outL retL outJ oR SV.upq SV.isSl SV.shut St.deepK St.dpArg St.deepQ absC Ob.pl St.ev St.get St.put St.new St.kill SV.kill SV.kill1 Ob.kill St.app St.wrt St.rowsOf St.res St.killL lk er argsL SV.strip SV.need SV.share SV.share1 SV.owns SV.owns1 SV.owns2 SV.good SV.good1 SV.rok SV.rok1 SV.rok2 SV.isV SV.isV2 nodupN SV.cells SV.one SV.pur Ob.pb partsIn rowsIn splice cellsAt dstOk scal2 scal1 thenK blockK retK outK outs okC okL okA okT nilC nilL nilA nilT keepC keepL keepA keepT St.runG St.dltK St.least St.clean St.final St.hide offK badS badO SV.refs SV.leaf SV.leaf2 Ob.refs dlOk fpAt Go.Vc.cover tups SV.ofAgg St.out outC subL St.has rng wr Value.oneCell' Option.isSome_some Option.isSome_none List.nil_append Bool.false_eq_true List.map_cons List.map_nil List.all_cons List.all_nil List.length_cons List.length_nil List.drop_zero List.drop_succ_cons List.take_succ_cons List.take_zero List.drop_nil List.take_nil List.getElem?_cons_zero List.getElem?_cons_succ List.getElem?_nil List.cons_append List.nil_append List.append_nil List.append_assoc List.flatMap_cons List.flatMap_nil List.contains_cons List.contains_nil List.set_cons_zero List.set_cons_succ List.getElem?_toArray Option.getD_some Option.getD_none Option.map_some Option.map_none Option.bind_some Option.some.injEq Prod.mk.injEq if_true if_false true_and and_true and_self and_false false_and Bool.and_false Bool.false_and Bool.or_true Bool.true_or Bool.or_false Bool.false_or ne_eq not_true_eq_false not_false_eq_true decide_true decide_false List.mem_cons List.not_mem_nil List.filter_cons List.filter_nil List.any_cons List.any_nil List.isEmpty_nil List.isEmpty_cons Option.getD_none or_false false_or true_or or_true forall_eq_or_imp forall_eq reduceCtorEq exists_eq exists_eq' exists_eq_left' exists_eq_left exists_eq_right exists_eq_right' imp_self implies_true Bool.and_true Bool.true_and Bool.and_self beq_self_eq_true List.replicate_succ List.replicate_zero forall_const false_implies pickB_or pickB_and beqT beqF Int.toNat_natCast List.length_map List.length_replicate ge_iff_le gt_iff_lt decide_eq_true_eq decide_eq_false_iff_not Bool.and_eq_true Bool.or_eq_true Bool.not_eq_true' Bool.not_eq_false' condG List.toList_toArray Bool.or_eq_false_iff Bool.and_eq_false_iff Int.not_lt Int.not_le beq_iff_eq beq_eq_false_iff_ne bne_iff_ne bne_eq_false_iff_eq ne_eq Bool.not_true Bool.not_false exists_and_left Nat.reduceAdd Nat.reduceLT Nat.reduceLeDiff Nat.reduceEqDiff Nat.reduceMul Nat.reduceSub Nat.reduceGT reduceIte Int.reduceNeg Int.reduceToNat
section
open Go.Vc
set_option linter.unusedSimpArgs false
set_option linter.unusedVariables false
set_option maxHeartbeats 1000000
set_option maxRecDepth 10000
attribute [local irreducible] Go.Vc.WP
attribute [local go_sem] cx0_t cx0_c
attribute [local go_sem] decS_enc decTok_enc decLine_enc oneLine_f line_eta ghoK St.gho St.gh SV.flat
theorem allVs_map {α : Type} {en : α → List SV} (h : ∀ x, ∀ c ∈ en x, ∃ v, c = SV.v v) (L : List α) : allVs (L.map en) ↔ True := iff_true_intro (by
  intro row hr c hc
  obtain ⟨n, _, rfl⟩ := List.mem_map.1 hr
  exact h n c hc)
theorem allVs_S (L : List ByteArray) : allVs (L.map encS) ↔ True := allVs_map (fun x c hc => by simp only [encS, List.mem_cons, List.not_mem_nil, or_false] at hc; exact ⟨_, hc⟩) L
theorem allVs_Tok (L : List Tok) : allVs (L.map encTok) ↔ True := allVs_map (fun x c hc => by simp only [encTok, List.mem_cons, List.not_mem_nil, or_false] at hc; rcases hc with rfl | rfl | rfl <;> exact ⟨_, rfl⟩) L
theorem allVs_rep {n : Nat} {z : List SV} (h : ∀ c ∈ z, ∃ v, c = SV.v v) : allVs (List.replicate n z) := fun row hr c hc => by
  rw [List.eq_of_mem_replicate hr] at hc
  exact h c hc
attribute [local go_sem] allVs_S allVs_Tok
def ktoLineO : Ctr := pur (fun args => decLine (aR args 0)) (fun L => [.sl 4 (L.map encLine)]) (fun L => L.length ≤ 1048576 ∧ ∀ x ∈ L, shLine x) (fun d _ => .own d) (fun d L => [(d, .dp 68 4 (L.map encLine))])
section
noncomputable def cxTls : Cx := { P := Tryz.prog, tys := tys, C := [(28, ktoLine)], hty := tysOk, hC := COk.cons ctoLine (COk.nil _) }
theorem cxTls_t : cxTls.tys = tys := rfl
theorem cxTls_c : cxTls.C = [(28, ktoLine)] := rfl
attribute [local go_sem] cxTls_t cxTls_c ktoLine
theorem ctoLineO : Cn Tryz.prog 8 ktoLineO := by
  refine Cn.pur Tryz.func8 (by kernel_rfl) rfl fun d x hx => ?_
  rename List Line => L
  obtain ⟨hL, hY⟩ := hx
  refine Holds.go (c := cxTls) Tryz.func8 rfl Tryz.results8 Tryz.ntmps8 (by omega) (by simp) rfl ?_
  intro X0 w0
  (repeat' (first | refine WP.seq ?_ | refine WP.block ?_ | ((first | refine WP.region ?_ | refine WP.condW ?_ | refine WP.ret ?_ | refine WP.exit ?_ | refine WP.skip ?_); simp only [go_sem, tyAll]) |  refine And.intro ?_ ?_ | intro _))
  all_goals first | omega | skip
  refine WP.gho [.dp 7] ?_
  simp only [go_sem, tyAll]
  refine ⟨allVs_rep (by simp), ?_⟩
  refine WP.loop (fun k : Nat => ⟨[(0, .sl 4 (L.map encLine)), (3, .own 7), (4, .v (.int .i64 k))], [(7, .dp 68 4 (filled encLine zerLine L k))]⟩) (fun k => k ≤ L.length) (fun k => L.length - k) 0 (by omega) ?_ ?_
  · rw [filled_zero]; simp only [go_sem, tyAll]; first | exact ⟨rfl, rfl⟩ | rfl
  intro k hk
  by_cases hlt : k < L.length
  · have h0 := hY _ (List.getElem_mem hlt)
    have h1 := rowAt_map encLine L k hlt
    have h2 := filled_len encLine zerLine L k hk
    have h3 : Go.Vc.rowAt (filled encLine zerLine L k) k = [.v (.int .i64 0), .v (.string ⟨#[]⟩), .v (.slice none 0 0), .v (.slice none 0 0)] := filled_row encLine zerLine L k hlt
    have h4 := filled_set encLine zerLine L k hlt
    rw [encLine] at h4
    refine WP.post [.abs 7 2, .abs 7 3, .fld 7] ?_
    refine WP.gho [.opn 7 k] ?_
    simp only [go_sem, h2, h3, tyAll]
    refine ⟨hlt, ?_⟩
    (repeat' (first | refine WP.seq ?_ | refine WP.block ?_ | ((first | refine WP.region ?_ | refine WP.condW ?_ | refine WP.ret ?_ | refine WP.exit ?_ | refine WP.skip ?_); simp only [go_sem, h1, h2, h3, h4, encLine, tyAll]) |  refine And.intro ?_ ?_ | intro _))
    all_goals first | omega | exact h0.1 | exact h0.2 | exact ⟨k + 1, by omega, by omega, rfl, rfl⟩ | skip
  · have h2 := filled_len encLine zerLine L k hk
    have h5 : filled encLine zerLine L k = L.map encLine := by rw [show k = L.length by omega]; exact filled_all _ _ _
    (repeat' (first | refine WP.seq ?_ | refine WP.block ?_ | ((first | refine WP.region ?_ | refine WP.condW ?_ | refine WP.ret ?_ | refine WP.exit ?_ | refine WP.skip ?_); simp only [go_sem, h2, h5, tyAll]) |  refine And.intro ?_ ?_ | intro _))
    all_goals first | omega | skip
end
def kqLine : Ctr := pur (fun args => oneLine (aC args 0)) (fun x => [.agg [.v (.int .i64 x.kind), .v (.string x.name), .sl 1 (x.args.map encS), .sl 3 (x.expr.map encTok)], .agg [.v (.int .i64 x.kind), .v (.string x.name), .sl 1 (x.args.map encS), .sl 3 (x.expr.map encTok)]]) shLine (fun _ _ => .v (.bool true)) (fun _ _ => [])
section
noncomputable def cxQln : Cx := { P := Tryz.prog, tys := tys, C := [(78, keqS), (79, keqTokS)], hty := tysOk, hC := COk.cons ceqS (COk.cons ceqTokS (COk.nil _)) }
theorem cxQln_t : cxQln.tys = tys := rfl
theorem cxQln_c : cxQln.C = [(78, keqS), (79, keqTokS)] := rfl
attribute [local go_sem] cxQln_t cxQln_c keqS keqTokS
theorem cqLine : Cn Tryz.prog 35 kqLine := by
  refine Cn.pur Tryz.func35 (by kernel_rfl) rfl fun d x hx => ?_
  obtain ⟨k, n, A, E⟩ := x
  unfold shLine at hx
  obtain ⟨hA, hE⟩ := hx
  simp only at hA hE ⊢
  refine Holds.go (c := cxQln) Tryz.func35 rfl Tryz.results35 Tryz.ntmps35 (by omega) (by simp) rfl ?_
  intro X0 w0
  (repeat' (first | refine WP.seq ?_ | refine WP.block ?_ | ((first | refine WP.region ?_ | refine WP.condW ?_ | refine WP.ret ?_ | refine WP.exit ?_ | refine WP.skip ?_); simp only [go_sem, tyAll]) |  refine And.intro ?_ ?_ | intro _))
  all_goals first | omega | skip
end
def kqLineS : Ctr := pur (fun args => decLine (aR args 0)) (fun L => [.sl 4 (L.map encLine), .sl 4 (L.map encLine)]) (fun L => L.length ≤ 1048576 ∧ ∀ x ∈ L, shLine x) (fun _ _ => .v (.bool true)) (fun _ _ => [])
section
attribute [local irreducible] shLine
noncomputable def cxQls : Cx := { P := Tryz.prog, tys := tys, C := [(35, kqLine)], hty := tysOk, hC := COk.cons cqLine (COk.nil _) }
theorem cxQls_t : cxQls.tys = tys := rfl
theorem cxQls_c : cxQls.C = [(35, kqLine)] := rfl
attribute [local go_sem] cxQls_t cxQls_c kqLine
theorem cqLineS : Cn Tryz.prog 11 kqLineS := by
  refine Cn.pur Tryz.func11 (by kernel_rfl) rfl fun d x hx => ?_
  rename List Line => L
  obtain ⟨hL, hY⟩ := hx
  refine Holds.go (c := cxQls) Tryz.func11 rfl Tryz.results11 Tryz.ntmps11 (by omega) (by simp) rfl ?_
  intro X0 w0
  (repeat' (first | refine WP.seq ?_ | refine WP.block ?_ | ((first | refine WP.region ?_ | refine WP.condW ?_ | refine WP.ret ?_ | refine WP.exit ?_ | refine WP.skip ?_); simp only [go_sem, tyAll]) | ((first | refine WP.drawW 10 (by decide +kernel) (by kernel_rfl) ?_); simp only [go_sem, tyAll]) |  refine And.intro ?_ ?_ | intro _))
  all_goals first | omega | skip
  refine WP.loop (fun k : Nat => ⟨[(0, .sl 4 (L.map encLine)), (1, .sl 4 (L.map encLine)), (5, .v (.int .i64 k))], []⟩) (fun k => k ≤ L.length) (fun k => L.length - k) 0 (by simp) ?_ ?_
  · simp only [go_sem, tyAll]; first | exact ⟨rfl, rfl⟩ | rfl
  intro k hk
  by_cases hlt : k < L.length
  · have h1 := rowAt_map encLine L k hlt
    have h0 := hY _ (List.getElem_mem hlt)
    (repeat' (first | refine WP.seq ?_ | refine WP.block ?_ | ((first | refine WP.region ?_ | refine WP.condW ?_ | refine WP.ret ?_ | refine WP.exit ?_ | refine WP.skip ?_); simp only [go_sem, h1, encLine, tyAll]) | ((first | refine WP.drawW 10 (by decide +kernel) (by kernel_rfl) ?_); simp only [go_sem, h1, encLine, tyAll]) |  refine And.intro ?_ ?_ | intro _))
    all_goals first | omega | exact h0 | exact ⟨k + 1, by omega, by omega, rfl⟩ | exact ⟨k + 1, by omega, by omega, rfl, rfl⟩ | skip
  · (repeat' (first | refine WP.seq ?_ | refine WP.block ?_ | ((first | refine WP.region ?_ | refine WP.condW ?_ | refine WP.ret ?_ | refine WP.exit ?_ | refine WP.skip ?_); simp only [go_sem, tyAll]) | ((first | refine WP.drawW 10 (by decide +kernel) (by kernel_rfl) ?_); simp only [go_sem, tyAll]) |  refine And.intro ?_ ?_ | intro _))
    all_goals first | omega | skip
end
section
end
end
section
open Go.Vc
set_option linter.unusedSimpArgs false
set_option linter.unusedVariables false
set_option maxHeartbeats 1000000
set_option maxRecDepth 10000
attribute [local irreducible] Go.Vc.WP
attribute [local go_sem] cx0_t cx0_c
def fld81aeab18d : List Go.Vc.Fp := [⟨[0], [], [], [21], [], []⟩, ⟨[20], [0], [], [], [], [21]⟩, ⟨[3], [], [], [21], [], []⟩, ⟨[], [0, 1, 2], [], [], [], []⟩, ⟨[], [0, 1, 2, 3], [], [], [], []⟩, ⟨[], [0, 1, 2, 3, 4], [], [], [], []⟩]
def fl09967ed4ea : List Go.Vc.Fp := [⟨[8], [], [], [42, 1042], [], []⟩, ⟨[3], [], [], [42, 1042], [], []⟩, ⟨[41], [1], [], [], [], [42, 1042]⟩, ⟨[], [0, 1, 2], [], [], [], []⟩, ⟨[], [0, 1, 2, 3], [], [], [], []⟩]
attribute [local go_sem] fld81aeab18d fl09967ed4ea
attribute [local go_sem] isV_Node isV_It isV_Entry decNode_enc decLine_enc decTok_enc decS_enc oneLine_f line_eta decFrame_enc oneFrame_enc stkA oneFrame_ab oneNode_abc decI_enc prA encI_inj
theorem szGo_mem {L : List Nat} {l : Int} (h0 : 0 ≤ l) (h1 : l ≤ 1048576) (h : 0 ≤ szGo L l) : ∀ n ∈ L, n ≤ 1048576 := fun n hn => by
  have := szGo_ok L l h0 h n hn; omega
theorem szvLine_sm {x : Line} {l : Int} (h0 : 0 ≤ l) (h1 : l ≤ 1048576) (h : 0 ≤ szvLine x l) : smLine x := by
  obtain ⟨a, b, c⟩ := szT_ok (szA_f _) h0 h
  obtain ⟨d, e, f⟩ := szT_ok (szvStrL_f _) a c
  obtain ⟨p, q⟩ := szList_ok (by simp only [List.mem_map]; rintro _ ⟨x, _, rfl⟩; exact szA_f _) d
  rw [List.length_map] at p
  refine ⟨by unfold szA at a; split at a <;> omega, ⟨by omega, fun w hw => ?_⟩, ?_⟩
  · obtain ⟨r, r0, r1, r2⟩ := q _ (List.mem_map.2 ⟨w, hw, rfl⟩)
    unfold szA at r2; split at r2 <;> omega
  · unfold szvTok at f
    split at f
    · omega
    · have hm := szGo_mem (by omega) (by omega) f
      refine ⟨by omega, fun t ht => ?_⟩
      have := hm t.name.size (List.mem_map.2 ⟨t, ht, rfl⟩)
      unfold smTok; omega
theorem szvLineS_sm {L : List Line} (h : 0 ≤ szvLineS L 1048576) : L.length ≤ 1048576 ∧ ∀ x ∈ L, smLine x := by
  obtain ⟨a, b⟩ := szList_ok (by simp only [List.mem_map]; rintro _ ⟨x, _, rfl⟩; exact szvLine_f x) h
  rw [List.length_map] at a
  refine ⟨by omega, fun x hx => ?_⟩
  obtain ⟨r, r0, r1, r2⟩ := b _ (List.mem_map.2 ⟨x, hx, rfl⟩)
  exact szvLine_sm r0 (by omega) r2
theorem szvLineS_le (L : List Line) : szvLineS L 1048576 ≤ 1048576 := by
  have := szList_f (L.map szvLine) (by simp only [List.mem_map]; rintro _ ⟨x, _, rfl⟩; exact szvLine_f x) 1048576 (by omega)
  exact this.2
section
attribute [local irreducible] shLine bigLine smLine
noncomputable def cxAnL : Cx := { P := Tryz.prog, tys := tys, C := [(5, kszLineS), (6, kszPr), (8, ktoLineO), (9, ktoPr), (7, kAnn), (10, kAnn), (11, kqLineS), (12, keqPr)], hty := tysOk, hC := COk.cons cszLineS (COk.cons cszPr (COk.cons ctoLineO (COk.cons ctoPr (COk.cons cAnnS (COk.cons cAnnI (COk.cons cqLineS (COk.cons ceqPr (COk.nil _)))))))) }
theorem cxAnL_t : cxAnL.tys = tys := rfl
theorem cxAnL_c : cxAnL.C = [(5, kszLineS), (6, kszPr), (8, ktoLineO), (9, ktoPr), (7, kAnn), (10, kAnn), (11, kqLineS), (12, keqPr)] := rfl
attribute [local go_sem] cxAnL_t cxAnL_c kszLineS kszPr ktoLineO ktoPr kAnn kqLineS keqPr
set_option maxHeartbeats 8000000 in
theorem lawAnn (P : List Line) (x : List Node × List Int) (hP : P.length ≤ maxLen ∧ ∀ y ∈ P, bigLine y) (hx : wfM x) : Holds Tryz.prog 3 [.sl 4 (P.map encLine), .agg [.sl 3 (x.1.map encNode), .sl 1 (x.2.map encI)]] (.v (.bool true)) [] := by
  obtain ⟨N, C⟩ := x
  obtain ⟨hN, hs, hC⟩ := hx
  obtain ⟨hP1, hP2⟩ := hP
  simp only at hN hs hC ⊢
  have hm : maxLen = 9223372036854775807 := rfl
  refine Holds.go (c := cxAnL) Tryz.func3 rfl Tryz.results3 Tryz.ntmps3 (by omega) (by simp) rfl ?_
  intro X0 w0
  have kl := @szvLineS_sm P
  have kle := szvLineS_le P
  generalize hz : szvLineS P 1048576 = z at kl kle
  by_cases h5 : z < 0
  · (repeat' (first | refine WP.seq ?_ | refine WP.block ?_ | ((first | refine WP.region ?_ | refine WP.condW ?_ | refine WP.ret ?_ | refine WP.exit ?_ | refine WP.skip ?_); simp only [go_sem, hz, h5, tyAll]) | ((first | refine WP.flowW 3 fld81aeab18d [20, 21, 22] [21] [] (by decide +kernel) (by kernel_rfl) (by kernel_rfl) (by kernel_rfl) ?_ | refine WP.flowW 3 fl09967ed4ea [40, 41, 42] [42, 1042] [] (by decide +kernel) (by kernel_rfl) (by kernel_rfl) (by kernel_rfl) ?_); simp only [go_sem, hz, h5, tyAll]) |  refine And.intro ?_ ?_ | intro _))
    all_goals first | omega | exact hP2 _ ‹_› | exact hs _ ‹_› | skip
  obtain ⟨k1, k2⟩ := kl (by omega)
  have k3 : ∀ y ∈ P, shLine y := fun y hy => smLine_shL (k2 y hy)
  have key : 0 ≤ szvPr (N, C) z → (N.length ≤ 1048576 ∧ ∀ n ∈ N, n.name.size ≤ 1048576) ∧ C.length ≤ 1048576 := fun h => szvPr_ok (x := (N, C)) (l := z) (by omega) (Int.not_lt.2 h)
  generalize hw : szvPr (N, C) z = w at key
  by_cases h6 : w < 0
  · (repeat' (first | refine WP.seq ?_ | refine WP.block ?_ | ((first | refine WP.region ?_ | refine WP.condW ?_ | refine WP.ret ?_ | refine WP.exit ?_ | refine WP.skip ?_); simp only [go_sem, hz, h5, hw, h6, tyAll]) | ((first | refine WP.flowW 3 fld81aeab18d [20, 21, 22] [21] [] (by decide +kernel) (by kernel_rfl) (by kernel_rfl) (by kernel_rfl) ?_ | refine WP.flowW 3 fl09967ed4ea [40, 41, 42] [42, 1042] [] (by decide +kernel) (by kernel_rfl) (by kernel_rfl) (by kernel_rfl) ?_); simp only [go_sem, hz, h5, hw, h6, tyAll]) |  refine And.intro ?_ ?_ | intro _))
    all_goals first | omega | exact hP2 _ ‹_› | exact hs _ ‹_› | skip
  obtain ⟨⟨n1, n2⟩, n3⟩ := key (by omega)
  generalize hA : annOf P N C = A
  (repeat' (first | refine WP.seq ?_ | refine WP.block ?_ | ((first | refine WP.region ?_ | refine WP.condW ?_ | refine WP.ret ?_ | refine WP.exit ?_ | refine WP.skip ?_); simp only [go_sem, hz, h5, hw, h6, hA, tyAll]) | ((first | refine WP.flowW 3 fld81aeab18d [20, 21, 22] [21] [] (by decide +kernel) (by kernel_rfl) (by kernel_rfl) (by kernel_rfl) ?_ | refine WP.flowW 3 fl09967ed4ea [40, 41, 42] [42, 1042] [] (by decide +kernel) (by kernel_rfl) (by kernel_rfl) (by kernel_rfl) ?_); simp only [go_sem, hz, h5, hw, h6, hA, tyAll]) |  refine And.intro ?_ ?_ | intro _))
  all_goals first | omega | exact hP2 _ ‹_› | exact hs _ ‹_› | exact k2 _ ‹_› | exact k3 _ ‹_› | exact n2 _ ‹_› | exact Nat.le_trans (n2 _ ‹_›) (by omega) | exact ⟨_, _, _, rfl⟩ | skip
end
end
end Go.Proofs.YtdhkhapbldkkdaaGreatDoor
namespace Go.Vc
open Go.RowKit Go.WideShapes Go.ChangeShapes Go.Deep
set_option linter.unusedVariables false
section
variable {H : Type} {enc : TypeId × Value → H} {P : Program} {w : World}
theorem Cells.append {r1 r2 : List SV} {c1 c2 : List Value} (h1 : Cells w r1 c1) (h2 : Cells w r2 c2) : Cells w (r1 ++ r2) (c1 ++ c2) := by
  refine ⟨by rw [List.length_append, List.length_append, h1.1, h2.1], fun k c u hc hu => ?_⟩
  rw [List.getElem?_append] at hc hu
  by_cases hk : k < r1.length
  · rw [if_pos hk] at hc
    rw [if_pos (by rw [← h1.1]; exact hk)] at hu
    exact h1.2 k c u hc hu
  · rw [if_neg hk] at hc
    rw [if_neg (by rw [← h1.1]; exact hk), ← h1.1] at hu
    exact h2.2 _ c u hc hu
theorem Dec.map {t : TypeId} {α β : Type} {e : α → List SV} {wf : α → Prop} {e' : β → List SV} {wf' : β → Prop} (hd : Dec H enc P w t e wf) (g : α → β) (he : ∀ a, e' (g a) = e a) (hw : ∀ a, wf a → wf' (g a)) : Dec H enc P w t e' wf' := by
  intro base sp held n cs y h
  obtain ⟨a, ha, hc⟩ := hd _ _ _ _ _ _ h
  exact ⟨g a, hw a ha, by rw [he]; exact hc⟩
theorem Dec.struct1 {t : TypeId} {f0 : Field} {k0 : Nat} {α : Type} {e : α → List SV} {wf : α → Prop} (ht : P.underlying t = some (.struct #[f0])) (o0 : f0.offset = 0) (h0 : P.cellsOf f0.type = k0) (hC : P.cellsOf t = k0) (hd : Dec H enc P w f0.type e wf) : Dec H enc P w t e wf := by
  intro base sp held n cs y h
  obtain ⟨y0, m, _, hl, g0⟩ := trod_struct1 ht h
  obtain ⟨a, ha, hc⟩ := hd _ _ _ _ _ _ g0
  rw [o0, h0, List.drop_zero, List.take_of_length_le (by omega)] at hc
  exact ⟨a, ha, hc⟩
theorem Dec.struct2 {t : TypeId} {f0 f1 : Field} {k0 k1 : Nat} {α β : Type} {e0 : α → List SV} {w0 : α → Prop} {e1 : β → List SV} {w1 : β → Prop} (ht : P.underlying t = some (.struct #[f0, f1])) (o0 : f0.offset = 0) (h0 : P.cellsOf f0.type = k0) (o1 : f1.offset = k0) (h1 : P.cellsOf f1.type = k1) (hC : P.cellsOf t = k0 + k1)
    (d0 : Dec H enc P w f0.type e0 w0) (d1 : Dec H enc P w f1.type e1 w1) : Dec H enc P w t (fun x : α × β => e0 x.1 ++ e1 x.2) (fun x => w0 x.1 ∧ w1 x.2) := by
  intro base sp held n cs y h
  obtain ⟨y0, y1, m, _, hl, g0, g1⟩ := trod_struct2 ht h
  obtain ⟨a, ha, hc⟩ := d0 _ _ _ _ _ _ g0
  obtain ⟨b, hb, hd⟩ := d1 _ _ _ _ _ _ g1
  rw [o0, h0, List.drop_zero] at hc
  rw [o1, h1, List.take_of_length_le (by rw [List.length_drop]; omega)] at hd
  refine ⟨(a, b), ⟨ha, hb⟩, ?_⟩
  have := hc.append hd
  rwa [List.take_append_drop] at this
end
end Go.Vc

namespace Go.Proofs.YtdhkhapbldkkdaaGreatDoor
open Go.Vc Go.RowKit Go.WideShapes Go.ChangeShapes Go.Deep
section
variable {H : Type} {enc : TypeId × Value → H} {w : World}
def okN (L : List Node) : Prop := L.length ≤ maxLen ∧ ∀ x ∈ L, x.name.size ≤ maxLen
theorem rowNode' : Dec H enc Tryz.prog w 149 encNode (fun x => x.name.size ≤ maxLen) :=
  (Dec.struct2 (k0 := 1) (k1 := 2) Tryz.underlying149 rfl (by kernel_rfl) rfl (by kernel_rfl) (by kernel_rfl) (Dec.int Tryz.underlying3) rowFrame).map (fun x : Int × Frame => (⟨x.1, x.2.name, x.2.line⟩ : Node)) (fun _ => rfl) (fun _ h => h.2.1)
theorem rowStk : Dec H enc Tryz.prog w 25 (fun N : List Node => [.sl 3 (N.map encNode)]) okN :=
  Dec.struct1 (k0 := 1) Tryz.underlying25 rfl (by kernel_rfl) (by kernel_rfl) (Dec.slice (s := 3) Tryz.underlying23 (by kernel_rfl) (by omega) rowNode' (fun _ => rfl))
theorem rowPr : Dec H enc Tryz.prog w 28 (fun x : List Node × List Int => [.sl 3 (x.1.map encNode), .sl 1 (x.2.map encI)]) wfM :=
  (Dec.struct2 (k0 := 1) (k1 := 1) Tryz.underlying28 rfl (by kernel_rfl) rfl (by kernel_rfl) (by kernel_rfl) rowStk
    (Dec.slice (s := 1) Tryz.underlying26 (by kernel_rfl) (by omega) (Dec.int Tryz.underlying3) (fun _ => rfl))).map (fun x : List Node × List Int => x) (fun _ => rfl) (fun _ h => ⟨h.1.1, h.1.2, h.2.1⟩)
end
end Go.Proofs.YtdhkhapbldkkdaaGreatDoor

namespace Go.Vc
open Go.RowKit Go.WideShapes Go.ChangeShapes Go.Deep
set_option linter.unusedVariables false
section
variable {H : Type} {enc : TypeId × Value → H} {P : Program} {w : World}
theorem take_drop_join (cs : List Value) (a b : Nat) : (cs.drop a).take b ++ cs.drop (a + b) = cs.drop a := by
  rw [← List.drop_drop, List.take_append_drop]
theorem Dec.struct4 {t : TypeId} {f0 f1 f2 f3 : Field} {k0 k1 k2 k3 : Nat} {α0 α1 α2 α3 : Type} {e0 : α0 → List SV} {w0 : α0 → Prop} {e1 : α1 → List SV} {w1 : α1 → Prop} {e2 : α2 → List SV} {w2 : α2 → Prop} {e3 : α3 → List SV} {w3 : α3 → Prop} (ht : P.underlying t = some (.struct #[f0, f1, f2, f3])) (o0 : f0.offset = 0) (h0 : P.cellsOf f0.type = k0) (o1 : f1.offset = k0) (h1 : P.cellsOf f1.type = k1) (o2 : f2.offset = k0 + k1) (h2 : P.cellsOf f2.type = k2) (o3 : f3.offset = k0 + k1 + k2) (h3 : P.cellsOf f3.type = k3) (hC : P.cellsOf t = k0 + k1 + k2 + k3)
    (d0 : Dec H enc P w f0.type e0 w0) (d1 : Dec H enc P w f1.type e1 w1) (d2 : Dec H enc P w f2.type e2 w2) (d3 : Dec H enc P w f3.type e3 w3) : Dec H enc P w t (fun x : α0 × α1 × α2 × α3 => e0 x.1 ++ (e1 x.2.1 ++ (e2 x.2.2.1 ++ e3 x.2.2.2))) (fun x => w0 x.1 ∧ w1 x.2.1 ∧ w2 x.2.2.1 ∧ w3 x.2.2.2) := by
  intro base sp held n cs y h
  obtain ⟨xs, m, _, rfl, hl, hlen, hf⟩ := DataW.trod_struct ht h
  match xs, hlen with
  | [y0, y1, y2, y3], _ =>
    have g0 : DataW.trod enc P w base sp held m f0.type ((cs.drop f0.offset).take (P.cellsOf f0.type)) = some y0 := by simpa using hf 0 f0 rfl
    obtain ⟨a0, v0, c0⟩ := d0 _ _ _ _ _ _ g0
    rw [o0, h0] at c0
    have g1 : DataW.trod enc P w base sp held m f1.type ((cs.drop f1.offset).take (P.cellsOf f1.type)) = some y1 := by simpa using hf 1 f1 rfl
    obtain ⟨a1, v1, c1⟩ := d1 _ _ _ _ _ _ g1
    rw [o1, h1] at c1
    have g2 : DataW.trod enc P w base sp held m f2.type ((cs.drop f2.offset).take (P.cellsOf f2.type)) = some y2 := by simpa using hf 2 f2 rfl
    obtain ⟨a2, v2, c2⟩ := d2 _ _ _ _ _ _ g2
    rw [o2, h2] at c2
    have g3 : DataW.trod enc P w base sp held m f3.type ((cs.drop f3.offset).take (P.cellsOf f3.type)) = some y3 := by simpa using hf 3 f3 rfl
    obtain ⟨a3, v3, c3⟩ := d3 _ _ _ _ _ _ g3
    rw [o3, h3] at c3
    rw [List.take_of_length_le (by rw [List.length_drop]; omega)] at c3
    refine ⟨(a0, a1, a2, a3), ⟨v0, v1, v2, v3⟩, ?_⟩
    have := c0.append (c1.append (c2.append c3))
    rw [take_drop_join, take_drop_join, List.drop_zero, List.take_append_drop] at this
    exact this
end
end Go.Vc

namespace Go.Proofs.YtdhkhapbldkkdaaGreatDoor
open Go.Vc Go.ChangeShapes Go.WideShapes Go.ChangeAt Go.RowKit
set_option linter.unusedVariables false
section
variable {H : Type} {enc : TypeId × Value → H} {w : World}
theorem rowStrs : Dec H enc Tryz.prog w 57 (fun L : List ByteArray => [.sl 1 (L.map encS)]) (fun L => L.length ≤ maxLen ∧ ∀ s ∈ L, s.size ≤ maxLen) :=
  Dec.slice (s := 1) Tryz.underlying57 (by kernel_rfl) (by omega) (Dec.string Tryz.underlying9) (fun _ => rfl)
theorem rowToks : Dec H enc Tryz.prog w 58 (fun L : List Tok => [.sl 3 (L.map encTok)]) (fun L => L.length ≤ maxLen ∧ ∀ s ∈ L, s.name.size ≤ maxLen) :=
  (Dec.slice (s := 3) Tryz.underlying58 (by kernel_rfl) (by omega) rowTok (fun _ => rfl)).map (fun x : List Tok => x) (fun _ => rfl) (fun _ h => ⟨h.1, fun s hs => (h.2 s hs).2.2⟩)
theorem rowLine : Dec H enc Tryz.prog w 60 encLine bigLine :=
  (Dec.struct4 (k0 := 1) (k1 := 1) (k2 := 1) (k3 := 1) Tryz.underlying60 rfl (by kernel_rfl) rfl (by kernel_rfl) rfl (by kernel_rfl) rfl (by kernel_rfl) (by kernel_rfl) (Dec.int Tryz.underlying3) (Dec.string Tryz.underlying9) rowStrs rowToks).map
    (fun x : Int × ByteArray × List ByteArray × List Tok => (⟨x.1, x.2.1, x.2.2.1, x.2.2.2⟩ : Line)) (fun _ => rfl) (fun _ h => ⟨h.2.1, h.2.2.1.1, h.2.2.1.2, h.2.2.2.1, h.2.2.2.2⟩)
end
end Go.Proofs.YtdhkhapbldkkdaaGreatDoor

