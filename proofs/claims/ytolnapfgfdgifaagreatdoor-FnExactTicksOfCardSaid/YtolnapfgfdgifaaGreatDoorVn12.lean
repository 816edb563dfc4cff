/-
  DERIVED. Several texts of ours in one: VtShare.
-/
import Derived.Test.YtolnapfgfdgifaaGreatDoorVn0
import Derived.Test.YtolnapfgfdgifaaGreatDoorVn1
import Derived.Test.YtolnapfgfdgifaaGreatDoorVn2
import Derived.Test.YtolnapfgfdgifaaGreatDoorVn3
import Derived.Test.YtolnapfgfdgifaaGreatDoorVn4
import Derived.Test.YtolnapfgfdgifaaGreatDoorVn5
import Derived.Test.YtolnapfgfdgifaaGreatDoorVn6
import Derived.Test.YtolnapfgfdgifaaGreatDoorVn7
import Derived.Test.YtolnapfgfdgifaaGreatDoorVn8
import Derived.Test.YtolnapfgfdgifaaGreatDoorVn9
import Derived.Test.YtolnapfgfdgifaaGreatDoorVn10
import Derived.Test.YtolnapfgfdgifaaGreatDoorVn11
set_option linter.unusedSimpArgs false
set_option linter.unusedVariables false
/-
  DERIVED. ShareOf, of the reference and of the program; the law's function.
-/
namespace Go.Proofs.YtolnapfgfdgifaaGreatDoor
open Go.Vc
set_option linter.unusedSimpArgs false
set_option linter.unusedVariables false
set_option maxHeartbeats 1000000
set_option maxRecDepth 10000
attribute [local go_sem] St.runR St.runW St.stepV offV St.step St.stepU St.stepG mkCond guardB St.prK St.pr St.prLen St.eff St.callE St.callD St.callF St.callL aI aB aS aR aC St.isM St.argL Ctr.pure Ctr.lend Ctr.move Ctr.isL Ctr.wri pur len lentBy St.lentV St.lent1 nthS argsR restOf obsR pairs swapL unObs backL St.resL erL SV.ren1 SV.up SV.up2 Ob.up St.fzL cellIds partIds St.intoRow SV.ownId St.fz SV.fz1 St.prep St.mvL St.mv SV.re1 rnOk St.prEq vals eqCells scEq Value.kd St.prStr St.prCut cutR St.bnd St.prMin St.bld isShift outL retL outJ oR oC St.ev St.get St.put St.new St.kill SV.kill SV.kill1 Ob.kill St.app St.wrt St.rowsOf St.res St.killL lk er argsL SV.strip SV.need SV.share SV.share1 SV.owns SV.owns1 SV.owns2 SV.good SV.good1 SV.rok SV.rok1 SV.rok2 SV.isV SV.isV2 nodupN SV.cells SV.one SV.pur partsIn rowsIn splice cellsAt dstOk scal2 scal1 thenK blockK retK outK outs okC okL okA okT nilC nilL nilA nilT keepC keepL keepA keepT St.runG St.dltK St.least St.clean St.final St.hide offK badS badO SV.refs SV.leaf SV.leaf2 Ob.refs dlOk fpAt Go.Vc.cover tups SV.ofAgg St.out outC subL St.has rng wr Value.oneCell' Option.isSome_some Option.isSome_none List.nil_append Bool.false_eq_true List.map_cons List.map_nil List.all_cons List.all_nil List.length_cons List.length_nil List.drop_zero List.drop_succ_cons List.take_succ_cons List.take_zero List.drop_nil List.take_nil List.getElem?_cons_zero List.getElem?_cons_succ List.getElem?_nil List.cons_append List.nil_append List.append_nil List.append_assoc List.flatMap_cons List.flatMap_nil List.contains_cons List.contains_nil List.set_cons_zero List.set_cons_succ List.getElem?_toArray Option.getD_some Option.getD_none Option.map_some Option.map_none Option.bind_some Option.some.injEq Prod.mk.injEq if_true if_false true_and and_true and_self and_false false_and Bool.and_false Bool.false_and Bool.or_true Bool.true_or Bool.or_false Bool.false_or ne_eq not_true_eq_false not_false_eq_true decide_true decide_false List.mem_cons List.not_mem_nil List.filter_cons List.filter_nil List.any_cons List.any_nil List.isEmpty_nil List.isEmpty_cons Option.getD_none or_false false_or true_or or_true forall_eq_or_imp forall_eq reduceCtorEq exists_eq exists_eq' exists_eq_left' exists_eq_left exists_eq_right exists_eq_right' imp_self implies_true Bool.and_true Bool.true_and Bool.and_self beq_self_eq_true List.replicate_succ List.replicate_zero forall_const false_implies pickB_or pickB_and beqT beqF Int.toNat_natCast List.length_map List.length_replicate ge_iff_le gt_iff_lt decide_eq_true_eq decide_eq_false_iff_not Bool.and_eq_true Bool.or_eq_true Bool.not_eq_true' Bool.not_eq_false' condG List.toList_toArray Bool.or_eq_false_iff Bool.and_eq_false_iff Int.not_lt Int.not_le beq_iff_eq beq_eq_false_iff_ne bne_iff_ne bne_eq_false_iff_eq ne_eq Bool.not_true Bool.not_false exists_and_left
attribute [local irreducible] Go.Vc.WP
attribute [local go_sem] cx0_t cx0_c
attribute [local go_sem] isV_Node isV_It isV_Entry decNode_enc decFrame_enc oneFrame_enc stkA oneFrame_ab oneNode_abc decI_enc decS_enc aU prA decEntry_enc St.fzS addL behind encI_inj
theorem sumE_take_le {E : List Entry} (h : ∀ e ∈ E, 0 ≤ e.count) (k : Nat) : 0 ≤ sumE (E.take k) ∧ sumE (E.take k) ≤ sumE E := by
  have h1 : sumE E = sumE (E.take k) + sumE (E.drop k) := by
    unfold sumE; rw [← List.sum_append, ← List.map_append, List.take_append_drop]
  have h2 : 0 ≤ sumE (E.drop k) := sum_nonneg fun x hx => by
    obtain ⟨e, he, rfl⟩ := List.mem_map.1 hx
    exact h e (List.mem_of_mem_drop he)
  have h3 : 0 ≤ sumE (E.take k) := sum_nonneg fun x hx => by
    obtain ⟨e, he, rfl⟩ := List.mem_map.1 hx
    exact h e (List.mem_of_mem_take he)
  omega
theorem ent_pos {N : List Node} {C : List Int} : ∀ e ∈ entriesOf N C, 0 ≤ e.count := fun e he => by obtain ⟨_, k, _, _, _, h, _⟩ := entriesOf_mem he; omega
theorem keep_sum (N : List Node) (C : List Int) (p : Entry → Bool) (k : Nat) : 0 ≤ sumE (((entriesOf N C).take k).filter p) ∧ sumE (((entriesOf N C).take k).filter p) ≤ totalOf N C := by
  obtain ⟨h1, h2⟩ := sumE_take_le (E := entriesOf N C) ent_pos k
  obtain ⟨h3, h4⟩ := sum_filter_le (p := p) (L := (entriesOf N C).take k) fun e he => ent_pos e (List.mem_of_mem_take he)
  rw [sumE_entries] at h2
  omega
theorem tdiv_rng {a b : Int} (h0 : 0 ≤ a) (h1 : a ≤ 1000000000000000) (hb : 0 < b) : 0 ≤ Int.tdiv a b ∧ Int.tdiv a b ≤ 1000000000000000 := by
  rw [Int.tdiv_eq_ediv_of_nonneg h0]
  exact ⟨Int.ediv_nonneg h0 (by omega), Int.le_trans (Int.ediv_le_self _ h0) h1⟩
def shareOf (N : List Node) (C : List Int) (s : ByteArray) : Int := if totalOf N C = 0 then 0 else Int.tdiv (1000 * sumE ((entriesOf N C).filter (keepS s true))) (totalOf N C)
theorem allV_Node (L : List Node) : allV (L.map encNode) := allV_map (fun x c hc => by
  simp only [encNode, List.mem_cons, List.not_mem_nil, or_false] at hc
  rcases hc with rfl | rfl | rfl <;> exact ⟨_, rfl⟩) L
theorem allV_I (L : List Int) : allV (L.map encI) := allV_map (fun x c hc => by
  simp only [encI, List.mem_cons, List.not_mem_nil, or_false] at hc
  exact ⟨_, hc⟩) L
def kFocZ : Ctr := pur (fun args => (prA args 0, aS args 1)) (fun x => [.agg [.sl 3 (x.1.1.map encNode), .sl 1 (x.1.2.map encI)], .v (.string x.2)])
  (fun x => (x.1.1.length ≤ 1048576 ∧ ∀ n ∈ x.1.1, n.name.size ≤ 1048576) ∧ x.1.2.length ≤ 1048576)
  (fun _ x => .agg [.sl 3 ((mapP (pick x.2 true) x.1.1 x.1.2).1.map encNode), .sl 1 ((mapP (pick x.2 true) x.1.1 x.1.2).2.map encI)]) (fun _ _ => [])
theorem cFocZ : Cn Tryz.prog 40 kFocZ := Cn.frozenA (fun x => allV_Node _) (fun x => allV_I _) cFocS
def kShare : Ctr := pur (fun args => (prA args 0, aS args 1)) (fun x => [.agg [.sl 3 (x.1.1.map encNode), .sl 1 (x.1.2.map encI)], .v (.string x.2)])
  (fun x => (x.1.1.length ≤ 1048576 ∧ ∀ n ∈ x.1.1, n.name.size ≤ 1048576) ∧ x.1.2.length ≤ 1048576) (fun _ x => .v (.int .i64 (shareOf x.1.1 x.1.2 x.2))) (fun _ _ => [])
section
noncomputable def cxShS : Cx := { P := Tryz.prog, tys := tys, C := [(61, kTotal), (40, kFocZ)], hty := tysOk, hC := COk.cons cTotalS (COk.cons cFocZ (COk.nil _)) }
theorem cxShS_t : cxShS.tys = tys := rfl
theorem cxShS_c : cxShS.C = [(61, kTotal), (40, kFocZ)] := rfl
attribute [local go_sem] cxShS_t cxShS_c kTotal kFocZ
theorem cShareS : Cn Tryz.prog 21 kShare := by
  refine Cn.pur Tryz.func21 (by kernel_rfl) rfl fun d x hx => ?_
  obtain ⟨⟨N, C⟩, s⟩ := x
  obtain ⟨⟨hN, hs⟩, hC⟩ := hx
  simp only at hN hs hC ⊢
  have htb := totalOf_bound N C
  have hft : totalOf (mapP (pick s true) N C).1 (mapP (pick s true) N C).2 = sumE ((entriesOf N C).filter (keepS s true)) := by
    unfold mapP; rw [pick_list]; exact filter_totalOf N C _
  have hsb := keep_sum N C (keepS s true) (entriesOf N C).length
  rw [List.take_length] at hsb
  have hml := mapP_len (N := N) (C := C) hN hC (pick_len s true)
  have hmn : ∀ n ∈ (mapP (pick s true) N C).1, n.name.size ≤ 8 := profileOf_names _
  refine Holds.go (c := cxShS) Tryz.func21 rfl Tryz.results21 Tryz.ntmps21 (by omega) (by simp) rfl ?_
  intro X0 w0
  by_cases h0 : totalOf N C = 0
  · have hr : shareOf N C s = 0 := if_pos h0
    (repeat' (first | refine WP.seq ?_ | refine WP.block ?_ | ((first | refine WP.region ?_ | refine WP.condW ?_ | refine WP.ret ?_ | refine WP.exit ?_ | refine WP.skip ?_); simp only [go_sem, h0, hr, tyAll, Nat.reduceAdd, Nat.reduceLT, Nat.reduceLeDiff, Nat.reduceEqDiff, Nat.reduceMul, Nat.reduceSub, Nat.reduceGT, reduceIte, Int.reduceNeg, Int.reduceToNat]) | (refine WP.flowW 7 [⟨[2], [], [], [10, 1010], [], []⟩, ⟨[1], [], [], [10, 1010], [], []⟩, ⟨[8, 9], [0, 1], [], [], [], [10, 1010]⟩, ⟨[10], [0, 1, 2], [], [], [], []⟩, ⟨[11], [0, 1, 2, 3], [], [], [], []⟩, ⟨[2], [], [], [10, 1010], [], []⟩, ⟨[13], [0, 1, 2, 3, 5], [], [], [], []⟩, ⟨[], [0, 1, 2, 3, 4, 5, 6], [], [], [], []⟩, ⟨[], [0, 1, 2, 3, 4, 5, 6, 7], [], [], [], []⟩] [8, 9, 10, 11, 12, 13, 14] [10, 1010] [] (by decide +kernel) (by kernel_rfl) (by kernel_rfl) (by kernel_rfl) ?_; simp only [go_sem, h0, hr, tyAll, Nat.reduceAdd, Nat.reduceLT, Nat.reduceLeDiff, Nat.reduceEqDiff, Nat.reduceMul, Nat.reduceSub, Nat.reduceGT, reduceIte, Int.reduceNeg, Int.reduceToNat]) |  refine And.intro ?_ ?_ | intro _))
    all_goals first | omega | (simp only; omega) | exact Nat.le_trans (hs _ ‹_›) (by omega) | skip
    all_goals trace_state
  · have hr : shareOf N C s = Int.tdiv (1000 * sumE ((entriesOf N C).filter (keepS s true))) (totalOf N C) := if_neg h0
    have hdv := tdiv_rng (a := 1000 * sumE ((entriesOf N C).filter (keepS s true))) (b := totalOf N C) (by omega) (by omega) (by omega)
    rw [hr]
    (repeat' (first | refine WP.seq ?_ | refine WP.block ?_ | ((first | refine WP.region ?_ | refine WP.condW ?_ | refine WP.ret ?_ | refine WP.exit ?_ | refine WP.skip ?_); simp only [go_sem, h0, hft, tyAll, Nat.reduceAdd, Nat.reduceLT, Nat.reduceLeDiff, Nat.reduceEqDiff, Nat.reduceMul, Nat.reduceSub, Nat.reduceGT, reduceIte, Int.reduceNeg, Int.reduceToNat]) | (refine WP.drawW 8 (by decide +kernel) (by kernel_rfl) ?_; simp only [go_sem, h0, hft, tyAll, Nat.reduceAdd, Nat.reduceLT, Nat.reduceLeDiff, Nat.reduceEqDiff, Nat.reduceMul, Nat.reduceSub, Nat.reduceGT, reduceIte, Int.reduceNeg, Int.reduceToNat]) |  refine And.intro ?_ ?_ | intro _))
    all_goals first | omega | (simp only; omega) | exact Nat.le_trans (hs _ ‹_›) (by omega) | exact Nat.le_trans (hmn _ ‹_›) (by omega) | skip
    all_goals trace_state
end
section
noncomputable def cxShI : Cx := { P := Tryz.prog, tys := tys, C := [(62, kTotal), (54, kEntZ), (55, kParseZ), (63, kNamed)], hty := tysOk, hC := COk.cons cTotalI (COk.cons cEntZI (COk.cons cParseZI (COk.cons cNamed (COk.nil _)))) }
theorem cxShI_t : cxShI.tys = tys := rfl
theorem cxShI_c : cxShI.C = [(62, kTotal), (54, kEntZ), (55, kParseZ), (63, kNamed)] := rfl
attribute [local go_sem] cxShI_t cxShI_c kTotal kEntZ kParseZ kNamed
theorem cShareI : Cn Tryz.prog 22 kShare := by
  refine Cn.pur Tryz.func22 (by kernel_rfl) rfl fun d x hx => ?_
  obtain ⟨⟨N, C⟩, s⟩ := x
  obtain ⟨⟨hN, hs⟩, hC⟩ := hx
  simp only at hN hs hC ⊢
  have htb := totalOf_bound N C
  have hlen := entriesOf_len N C
  refine Holds.go (c := cxShI) Tryz.func22 rfl Tryz.results22 Tryz.ntmps22 (by omega) (by simp) rfl ?_
  intro X0 w0
  by_cases h0 : totalOf N C = 0
  · have hr : shareOf N C s = 0 := if_pos h0
    (repeat' (first | refine WP.seq ?_ | refine WP.block ?_ | ((first | refine WP.region ?_ | refine WP.condW ?_ | refine WP.ret ?_ | refine WP.exit ?_ | refine WP.skip ?_); simp only [go_sem, h0, hr, tyAll, Nat.reduceAdd, Nat.reduceLT, Nat.reduceLeDiff, Nat.reduceEqDiff, Nat.reduceMul, Nat.reduceSub, Nat.reduceGT, reduceIte, Int.reduceNeg, Int.reduceToNat]) |  refine And.intro ?_ ?_ | intro _))
    all_goals first | omega | (simp only; omega) | exact Nat.le_trans (hs _ ‹_›) (by omega) | skip
    all_goals trace_state
  have hr : shareOf N C s = Int.tdiv (1000 * sumE ((entriesOf N C).filter (keepS s true))) (totalOf N C) := if_neg h0
  rw [hr]
  (repeat' (first | refine WP.seq ?_ | refine WP.block ?_ | ((first | refine WP.region ?_ | refine WP.condW ?_ | refine WP.ret ?_ | refine WP.exit ?_ | refine WP.skip ?_); simp only [go_sem, h0, tyAll, Nat.reduceAdd, Nat.reduceLT, Nat.reduceLeDiff, Nat.reduceEqDiff, Nat.reduceMul, Nat.reduceSub, Nat.reduceGT, reduceIte, Int.reduceNeg, Int.reduceToNat]) |  refine And.intro ?_ ?_ | intro _))
  all_goals first | omega | (simp only; omega) | exact Nat.le_trans (hs _ ‹_›) (by omega) | skip
  refine WP.loop (fun k : Nat => ⟨[(1, .v (.string s)), (5, .v (.int .i64 (totalOf N C))), (6, .v (.int .i64 (sumE (((entriesOf N C).take k).filter (keepS s true))))), (16, .sl 2 ((entriesOf N C).map encEntry)), (17, .v (.int .i64 (entriesOf N C).length)), (18, .v (.int .i64 k))], []⟩)
    (fun k => k ≤ (entriesOf N C).length) (fun k => (entriesOf N C).length - k) 0 (by simp) ?_ ?_
  · (simp only [go_sem, tyAll, Nat.reduceAdd, Nat.reduceLT, Nat.reduceLeDiff, Nat.reduceEqDiff, Nat.reduceMul, Nat.reduceSub, Nat.reduceGT, reduceIte, Int.reduceNeg, Int.reduceToNat] <;> (first | rfl | exact ⟨rfl, rfl⟩ | exact ⟨rfl, rfl, rfl⟩ | exact ⟨rfl, rfl, rfl, rfl⟩ | exact ⟨rfl, rfl, rfl, rfl, rfl⟩ | exact ⟨⟨rfl, rfl⟩, rfl⟩ | simp))
  intro k hk
  have hsb := keep_sum N C (keepS s true) k
  by_cases hlt : k < (entriesOf N C).length
  · have hli : (k : Int) < (entriesOf N C).length := by omega
    have h1 := rowAt_map encEntry (entriesOf N C) k hlt
    have hm := List.getElem_mem hlt
    obtain ⟨z1, z2, z3⟩ := ent_sizes hN hm
    have hsu := fl_succ (keepS s true) hlt
    have hsb' := keep_sum N C (keepS s true) (k + 1)
    have hfr : (parseF (entriesOf N C)[k].stack).getD [] = frsE (entriesOf N C)[k] := rfl
    cases hq : keepS s true (entriesOf N C)[k] with
    | true =>
      have hq' : 0 ≤ idxF s (frsE (entriesOf N C)[k]) := by simpa [keepS] using hq
      rw [hq, if_pos rfl] at hsu
      have hse : sumE (((entriesOf N C).take (k + 1)).filter (keepS s true)) = sumE (((entriesOf N C).take k).filter (keepS s true)) + (entriesOf N C)[k].count := by
        rw [hsu]; unfold sumE; rw [List.map_append, List.sum_append]; simp
      rw [hse] at hsb'
      (repeat' (first | refine WP.seq ?_ | refine WP.block ?_ | ((first | refine WP.region ?_ | refine WP.condW ?_ | refine WP.ret ?_ | refine WP.exit ?_ | refine WP.skip ?_); simp only [go_sem, hli, h1, encEntry, hfr, hq', tyAll, Nat.reduceAdd, Nat.reduceLT, Nat.reduceLeDiff, Nat.reduceEqDiff, Nat.reduceMul, Nat.reduceSub, Nat.reduceGT, reduceIte, Int.reduceNeg, Int.reduceToNat]) |  refine And.intro ?_ ?_ | intro _))
      all_goals first | omega | (simp only; omega) | exact ⟨_, _, _, rfl⟩ | skip
      all_goals first | exact ⟨k + 1, by omega, by omega, by simp only [hse]; (first | rfl | exact ⟨rfl, rfl⟩ | exact ⟨rfl, rfl, rfl⟩ | exact ⟨rfl, rfl, rfl, rfl⟩ | exact ⟨rfl, rfl, rfl, rfl, rfl⟩ | exact ⟨⟨rfl, rfl⟩, rfl⟩ | simp)⟩ | trace_state
    | false =>
      have hq' : ¬ 0 ≤ idxF s (frsE (entriesOf N C)[k]) := by simpa [keepS] using hq
      rw [hq, if_neg (by simp), List.append_nil] at hsu
      (repeat' (first | refine WP.seq ?_ | refine WP.block ?_ | ((first | refine WP.region ?_ | refine WP.condW ?_ | refine WP.ret ?_ | refine WP.exit ?_ | refine WP.skip ?_); simp only [go_sem, hli, h1, encEntry, hfr, hq', tyAll, Nat.reduceAdd, Nat.reduceLT, Nat.reduceLeDiff, Nat.reduceEqDiff, Nat.reduceMul, Nat.reduceSub, Nat.reduceGT, reduceIte, Int.reduceNeg, Int.reduceToNat]) |  refine And.intro ?_ ?_ | intro _))
      all_goals first | omega | (simp only; omega) | exact ⟨_, _, _, rfl⟩ | skip
      all_goals first | exact ⟨k + 1, by omega, by omega, by simp only [hsu]; (first | rfl | exact ⟨rfl, rfl⟩ | exact ⟨rfl, rfl, rfl⟩ | exact ⟨rfl, rfl, rfl, rfl⟩ | exact ⟨rfl, rfl, rfl, rfl, rfl⟩ | exact ⟨⟨rfl, rfl⟩, rfl⟩ | simp)⟩ | trace_state
  · have hge : ¬ (k : Int) < (entriesOf N C).length := by omega
    have hke : k = (entriesOf N C).length := by omega
    subst hke
    rw [List.take_length] at hsb ⊢
    have hdv := tdiv_rng (a := 1000 * sumE ((entriesOf N C).filter (keepS s true))) (b := totalOf N C) (by omega) (by omega) (by omega)
    (repeat' (first | refine WP.seq ?_ | refine WP.block ?_ | ((first | refine WP.region ?_ | refine WP.condW ?_ | refine WP.ret ?_ | refine WP.exit ?_ | refine WP.skip ?_); simp only [go_sem, hge, tyAll, Nat.reduceAdd, Nat.reduceLT, Nat.reduceLeDiff, Nat.reduceEqDiff, Nat.reduceMul, Nat.reduceSub, Nat.reduceGT, reduceIte, Int.reduceNeg, Int.reduceToNat]) |  refine And.intro ?_ ?_ | intro _))
    all_goals first | omega | skip
    all_goals trace_state
end
section
noncomputable def cxShL : Cx := { P := Tryz.prog, tys := tys, C := [(12, kszPr), (14, ktoPr), (17, keqPr), (21, kShare), (22, kShare)], hty := tysOk, hC := COk.cons cszPr (COk.cons ctoPr (COk.cons ceqPr (COk.cons cShareS (COk.cons cShareI (COk.nil _))))) }
theorem cxShL_t : cxShL.tys = tys := rfl
theorem cxShL_c : cxShL.C = [(12, kszPr), (14, ktoPr), (17, keqPr), (21, kShare), (22, kShare)] := rfl
attribute [local go_sem] cxShL_t cxShL_c kszPr ktoPr keqPr kShare
theorem lawShareOf (x : List Node × List Int) (s : ByteArray) (hx : wfM x) : Holds Tryz.prog 4 [.agg [.sl 3 (x.1.map encNode), .sl 1 (x.2.map encI)], .v (.string s)] (.v (.bool true)) [] := by
  obtain ⟨N, C⟩ := x
  obtain ⟨hN, hs, hC⟩ := hx
  simp only at hN hs hC ⊢
  refine Holds.go (c := cxShL) Tryz.func4 rfl Tryz.results4 Tryz.ntmps4 (by omega) (by simp) rfl ?_
  intro X0 w0
  have key : 0 ≤ szvPr (N, C) 1048576 → (N.length ≤ 1048576 ∧ ∀ n ∈ N, n.name.size ≤ 1048576) ∧ C.length ≤ 1048576 := fun h => szvPr_ok (x := (N, C)) (l := 1048576) (Int.le_refl _) (Int.not_lt.2 h)
  have key1 : 0 ≤ szvPr (N, C) 1048576 → N.length ≤ 1048576 := fun h => (key h).1.1
  have key2 : 0 ≤ szvPr (N, C) 1048576 → C.length ≤ 1048576 := fun h => (key h).2
  (repeat' (first | refine WP.seq ?_ | refine WP.block ?_ | ((first | refine WP.region ?_ | refine WP.condW ?_ | refine WP.ret ?_ | refine WP.exit ?_ | refine WP.skip ?_); simp only [go_sem, tyAll, Nat.reduceAdd, Nat.reduceLT, Nat.reduceLeDiff, Nat.reduceEqDiff, Nat.reduceMul, Nat.reduceSub, Nat.reduceGT, reduceIte, Int.reduceNeg, Int.reduceToNat]) | (refine WP.flowW 3 [⟨[7], [], [], [31, 1031], [], []⟩, ⟨[2], [], [], [31, 1031], [], []⟩, ⟨[30], [1], [], [], [], [31, 1031]⟩, ⟨[], [0, 1, 2], [], [], [], []⟩, ⟨[], [0, 1, 2, 3], [], [], [], []⟩] [29, 30, 31] [31, 1031] [] (by decide +kernel) (by kernel_rfl) (by kernel_rfl) (by kernel_rfl) ?_; simp only [go_sem, tyAll, Nat.reduceAdd, Nat.reduceLT, Nat.reduceLeDiff, Nat.reduceEqDiff, Nat.reduceMul, Nat.reduceSub, Nat.reduceGT, reduceIte, Int.reduceNeg, Int.reduceToNat]) |  refine And.intro ?_ ?_ | intro _))
  all_goals first | omega | exact ⟨_, _, _, rfl⟩ | exact hs _ ‹_› | exact Nat.le_trans (key1 ‹_›) (by omega) | exact Nat.le_trans (key2 ‹_›) (by omega) | exact Nat.le_trans ((key ‹_›).1.2 _ ‹_›) (by omega) | skip
  all_goals trace_state
end
end Go.Proofs.YtolnapfgfdgifaaGreatDoor
