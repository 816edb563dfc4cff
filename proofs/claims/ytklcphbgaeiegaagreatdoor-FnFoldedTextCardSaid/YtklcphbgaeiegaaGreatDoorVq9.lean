/-
  DERIVED. Several texts of ours in one: VtEnO, VtFocS, VtLaw0.
-/
import Derived.Test.YtklcphbgaeiegaaGreatDoorVq0
import Derived.Test.YtklcphbgaeiegaaGreatDoorVq1
import Derived.Test.YtklcphbgaeiegaaGreatDoorVq2
import Derived.Test.YtklcphbgaeiegaaGreatDoorVq3
import Derived.Test.YtklcphbgaeiegaaGreatDoorVq4
import Derived.Test.YtklcphbgaeiegaaGreatDoorVq5
import Derived.Test.YtklcphbgaeiegaaGreatDoorVq6
import Derived.Test.YtklcphbgaeiegaaGreatDoorVq7
import Derived.Test.YtklcphbgaeiegaaGreatDoorVq8
set_option linter.unusedSimpArgs false
set_option linter.unusedVariables false
namespace Go.Proofs.YtklcphbgaeiegaaGreatDoor
open Go.Vc
attribute [local go_sem] St.runR St.runW St.stepV offV St.step St.stepU St.stepG mkCond guardB St.prK St.pr St.prLen St.eff St.callE St.callD St.callF St.callL aI aB aS aR aC St.isM St.argL Ctr.pure Ctr.lend Ctr.move Ctr.isL Ctr.wri pur len lentBy St.lentV St.lent1 nthS argsR restOf obsR pairs swapL unObs backL St.resL erL SV.ren1 SV.up SV.up2 Ob.up St.fzL cellIds partIds St.intoRow SV.ownId St.fz SV.fz1 St.prep St.mvL St.mv SV.re1 rnOk St.prEq vals eqCells scEq Value.kd St.prStr St.prCut cutR St.bnd St.prMin St.bld isShift outL retL outJ oR oC St.ev St.get St.put St.new St.kill SV.kill SV.kill1 Ob.kill St.app St.wrt St.rowsOf St.res St.killL lk er argsL SV.strip SV.need SV.share SV.share1 SV.owns SV.owns1 SV.owns2 SV.good SV.good1 SV.rok SV.rok1 SV.rok2 SV.isV SV.isV2 nodupN SV.cells SV.one SV.pur Ob.pb partsIn rowsIn splice cellsAt dstOk scal2 scal1 thenK blockK retK outK outs okC okL okA okT nilC nilL nilA nilT keepC keepL keepA keepT St.runG St.dltK St.least St.clean St.final St.hide offK badS badO SV.refs SV.leaf SV.leaf2 Ob.refs dlOk fpAt Go.Vc.cover tups SV.ofAgg St.out outC subL St.has rng wr Value.oneCell' Option.isSome_some Option.isSome_none List.nil_append Bool.false_eq_true List.map_cons List.map_nil List.all_cons List.all_nil List.length_cons List.length_nil List.drop_zero List.drop_succ_cons List.take_succ_cons List.take_zero List.drop_nil List.take_nil List.getElem?_cons_zero List.getElem?_cons_succ List.getElem?_nil List.cons_append List.nil_append List.append_nil List.append_assoc List.flatMap_cons List.flatMap_nil List.contains_cons List.contains_nil List.set_cons_zero List.set_cons_succ List.getElem?_toArray Option.getD_some Option.getD_none Option.map_some Option.map_none Option.bind_some Option.some.injEq Prod.mk.injEq if_true if_false true_and and_true and_self and_false false_and Bool.and_false Bool.false_and Bool.or_true Bool.true_or Bool.or_false Bool.false_or ne_eq not_true_eq_false not_false_eq_true decide_true decide_false List.mem_cons List.not_mem_nil List.filter_cons List.filter_nil List.any_cons List.any_nil List.isEmpty_nil List.isEmpty_cons Option.getD_none or_false false_or true_or or_true forall_eq_or_imp forall_eq reduceCtorEq exists_eq exists_eq' exists_eq_left' exists_eq_left exists_eq_right exists_eq_right' imp_self implies_true Bool.and_true Bool.true_and Bool.and_self beq_self_eq_true List.replicate_succ List.replicate_zero forall_const false_implies pickB_or pickB_and beqT beqF Int.toNat_natCast List.length_map List.length_replicate ge_iff_le gt_iff_lt decide_eq_true_eq decide_eq_false_iff_not Bool.and_eq_true Bool.or_eq_true Bool.not_eq_true' Bool.not_eq_false' condG List.toList_toArray Bool.or_eq_false_iff Bool.and_eq_false_iff Int.not_lt Int.not_le beq_iff_eq beq_eq_false_iff_ne bne_iff_ne bne_eq_false_iff_eq ne_eq Bool.not_true Bool.not_false exists_and_left
section
open Go.Vc
set_option linter.unusedSimpArgs false
set_option linter.unusedVariables false
set_option maxHeartbeats 1000000
set_option maxRecDepth 10000
attribute [local irreducible] Go.Vc.WP
attribute [local go_sem] cx0_t cx0_c
def fl23fde0757d : List Go.Vc.Fp := [⟨[1], [], [], [6, 30], [], []⟩, ⟨[27], [0], [], [6, 30], [], []⟩, ⟨[5], [], [], [6, 30], [], []⟩, ⟨[28, 29], [0, 1, 2], [], [6], [], [30]⟩, ⟨[30], [0, 1, 2, 3], [], [6], [], []⟩, ⟨[1], [], [], [6, 30], [], []⟩, ⟨[32], [5], [], [6, 30], [], []⟩, ⟨[5], [], [], [6, 30], [], []⟩, ⟨[33, 34], [5, 6, 7], [], [6, 30], [], []⟩, ⟨[35], [5, 6, 7, 8], [], [6, 30], [], []⟩, ⟨[31, 36], [0, 1, 2, 3, 4, 5, 6, 7, 8, 9], [], [6], [], []⟩, ⟨[], [], [], [30], [], [6]⟩, ⟨[], [0, 1, 2, 3, 4, 5, 6, 7, 8, 9, 10, 11], [], [], [], []⟩]
def fl1c6bae4db1 : List Go.Vc.Fp := [⟨[], [], [], [58, 60, 61], [], [54]⟩, ⟨[3], [], [], [54, 58, 60, 61], [], []⟩, ⟨[7], [], [], [54, 58, 60, 61], [], []⟩, ⟨[55, 56], [1, 2], [], [54, 58, 60, 61], [], []⟩, ⟨[54, 57], [0, 1, 2, 3], [], [60, 61], [54], [58]⟩, ⟨[6], [], [54], [54, 58, 60, 61], [], []⟩, ⟨[59], [5], [54], [54, 58, 61], [], [60]⟩, ⟨[58, 60], [0, 1, 2, 3, 4, 5, 6], [54], [], [58], [61]⟩, ⟨[3], [], [54, 58], [54, 58, 60, 61], [], []⟩, ⟨[7], [], [54, 58], [54, 58, 60, 61], [], []⟩, ⟨[62, 63], [8, 9], [54, 58], [54, 58, 60, 61], [], []⟩, ⟨[], [0, 1, 2, 3, 4, 5, 6, 7, 8, 9, 10], [], [], [], []⟩, ⟨[], [0, 1, 2, 3, 4, 5, 6, 7, 8, 9, 10, 11], [], [], [], []⟩]
attribute [local go_sem] fl23fde0757d fl1c6bae4db1
open Go.Pl
attribute [local go_sem] isV_Node isV_It isV_Entry decNode_enc decFrame_enc oneFrame_enc stkA oneFrame_ab oneNode_abc decI_enc decS_enc aU prA decEntry_enc St.ado St.adoptB St.adoptS rp isNil St.fzS
theorem ins_at {α : Type} {lt : α → α → Bool} {x : α} : ∀ {L : List α} {n : Nat}, n ≤ L.length → (∀ j (hj : j < L.length), j < n → lt L[j] x = true) → (∀ hn : n < L.length, lt L[n] x = false) → ins lt x L = L.take n ++ x :: L.drop n
  | [], n, h1, _, _ => by
    have : n = 0 := by simpa using h1
    subst this; rfl
  | y :: L, 0, _, _, h3 => by
    have := h3 (by simp)
    simp only [List.getElem_cons_zero] at this
    simp [ins, List.takeWhile, List.dropWhile, this]
  | y :: L, n + 1, h1, h2, h3 => by
    have hy := h2 0 (by simp) (by omega)
    simp only [List.getElem_cons_zero] at hy
    have ih := ins_at (lt := lt) (x := x) (L := L) (n := n) (by simpa using h1) (fun j hj hjn => h2 (j + 1) (Nat.succ_lt_succ hj) (by omega)) (fun hn => h3 (Nat.succ_lt_succ hn))
    unfold ins at ih ⊢
    simp only [List.takeWhile_cons, List.dropWhile_cons, hy, if_true, List.cons_append, List.take_succ_cons, List.drop_succ_cons, ih]
def wfQ (x : List Node × List Int) : Prop := (x.1.length ≤ 1099511627776 ∧ ∀ n ∈ x.1, n.name.size ≤ 4194304) ∧ x.2.length ≤ 1099511627776
def kEnt : Ctr := pur (fun args => prA args 0) (fun x => [.agg [.sl 3 (x.1.map encNode), .sl 1 (x.2.map encI)]]) wfQ (fun d _ => .own d) (fun d x => [(d, .sl 54 2 ((entriesOf x.1 x.2).map encEntry))])
theorem wfFr_at (N : List Node) (k : Int) : ∀ f ∈ stackAt N k, f.name.size ≤ 1099511627776 := fun f hf => by
  have h2 := (nameOk_letters (frOk_iff.1 (List.all_eq_true.1 (stackAt_ok N k) f hf)).1).2.2
  omega
/-- the entries found in the first k nodes, sorted -/
def entsK (N : List Node) (C : List Int) (k : Nat) : List Entry := insAll ltE (rawE N C k)
theorem entsK_len (N : List Node) (C : List Int) (k : Nat) : (entsK N C k).length ≤ k := by unfold entsK; rw [insAll_len]; exact rawE_len N C k
theorem entsK_zero (N : List Node) (C : List Int) : entsK N C 0 = [] := rfl
theorem entsK_skip {N : List Node} {C : List Int} {k : Nat} (hk : k < C.length) (h : C[k] = 0) : entsK N C (k + 1) = entsK N C k := by
  unfold entsK
  rw [rawE_succ, show entAt N C k = none from if_pos (by rw [List.getD_eq_getElem?_getD, List.getElem?_eq_getElem hk]; exact h)]
  simp
theorem entsK_new {N : List Node} {C : List Int} {k : Nat} (hk : k < C.length) (h : ¬ C[k] = 0) : entsK N C (k + 1) = ins ltE ⟨fmtF (stackAt N k), C[k]⟩ (entsK N C k) := by
  unfold entsK
  have e : C.getD k 0 = C[k] := by rw [List.getD_eq_getElem?_getD, List.getElem?_eq_getElem hk]; rfl
  rw [rawE_succ, show entAt N C k = some ⟨fmtF (stackAt N k), C[k]⟩ by unfold entAt; rw [e, if_neg h]]
  exact insAll_snoc _ _
section
noncomputable def cxEoS : Cx := { P := Tryz.prog, tys := tys, C := [(63, kPrOk), (89, kStackAt), (88, kFmtF)], hty := tysOk, hC := COk.cons cPrOkS (COk.cons cStackAtS (COk.cons cFmtFS (COk.nil _))) }
theorem cxEoS_t : cxEoS.tys = tys := rfl
theorem cxEoS_c : cxEoS.C = [(63, kPrOk), (89, kStackAt), (88, kFmtF)] := rfl
attribute [local go_sem] cxEoS_t cxEoS_c kPrOk kStackAt kFmtF
theorem cEntS : Cn Tryz.prog 35 kEnt := by
  refine Cn.pur Tryz.func35 (by kernel_rfl) rfl fun d x hx => ?_
  obtain ⟨N, C⟩ := x
  obtain ⟨⟨hN, hs⟩, hC⟩ := hx
  simp only at hN hs hC ⊢
  refine Holds.go (c := cxEoS) Tryz.func35 rfl Tryz.results35 Tryz.ntmps35 (by omega) (by simp) rfl ?_
  intro X0 w0
  (repeat' (first | refine WP.seq ?_ | refine WP.block ?_ | ((first | refine WP.region ?_ | refine WP.condW ?_ | refine WP.ret ?_ | refine WP.exit ?_ | refine WP.skip ?_); simp only [go_sem, tyAll, Nat.reduceAdd, Nat.reduceLT, Nat.reduceLeDiff, Nat.reduceEqDiff, Nat.reduceMul, Nat.reduceSub, Nat.reduceGT, reduceIte, Int.reduceNeg, Int.reduceToNat]) | ((first | refine WP.flowW 12 fl23fde0757d [6, 27, 28, 29, 30, 31, 32, 33, 34, 35, 36, 37] [6, 30] [] (by decide +kernel) (by kernel_rfl) (by kernel_rfl) (by kernel_rfl) ?_ | refine WP.flowZ [3] 11 fl1c6bae4db1 [54, 55, 56, 57, 58, 59, 60, 61, 62, 63, 64] [54, 58, 60, 61] [54, 58] (by decide +kernel) (by kernel_rfl) (by kernel_rfl) (by kernel_rfl) ?_ | refine WP.flowW 11 fl1c6bae4db1 [54, 55, 56, 57, 58, 59, 60, 61, 62, 63, 64] [54, 58, 60, 61] [54, 58] (by decide +kernel) (by kernel_rfl) (by kernel_rfl) (by kernel_rfl) ?_ | refine WP.drawW 14 (by decide +kernel) (by kernel_rfl) ?_); simp only [go_sem, tyAll, Nat.reduceAdd, Nat.reduceLT, Nat.reduceLeDiff, Nat.reduceEqDiff, Nat.reduceMul, Nat.reduceSub, Nat.reduceGT, reduceIte, Int.reduceNeg, Int.reduceToNat]) |  refine And.intro ?_ ?_ | intro _))
  all_goals first | omega | (simp only; omega) | exact Nat.le_trans (hs _ ‹_›) (by omega) | skip
  refine WP.prep [] [(8, 61)] rfl ?_
  refine WP.loop (fun k : Nat => ⟨[(1, .ptr 1 0 0 0), (3, .own 61), (4, .v (.bool (profileOk N C))), (5, .v (.int .i64 k))], [(1, .box 29 [.sl 3 (N.map encNode), .sl 1 (C.map encI)]), (61, .sl 54 2 ((entsK N C k).map encEntry))]⟩)
    (fun k => k ≤ C.length ∧ (profileOk N C = false → k = 0)) (fun k => C.length - k) 0 (by simp) ?_ ?_
  · (simp only [go_sem, tyAll, Nat.reduceAdd, Nat.reduceLT, Nat.reduceLeDiff, Nat.reduceEqDiff, Nat.reduceMul, Nat.reduceSub, Nat.reduceGT, reduceIte, Int.reduceNeg, Int.reduceToNat] <;> (first | rfl | exact ⟨rfl, rfl⟩ | exact ⟨rfl, rfl, rfl⟩ | exact ⟨rfl, rfl, rfl, rfl⟩ | exact ⟨rfl, rfl, rfl, rfl, rfl⟩ | exact ⟨⟨rfl, rfl⟩, rfl⟩ | simp))
  intro k ⟨hk, hk0⟩
  have hlen := entsK_len N C k
  cases hp : profileOk N C with
  | false =>
    have h0 := hk0 hp
    subst h0
    have he : entriesOf N C = [] := if_neg (by rw [hp]; simp)
    (repeat' (first | refine WP.seq ?_ | refine WP.block ?_ | ((first | refine WP.region ?_ | refine WP.condW ?_ | refine WP.ret ?_ | refine WP.exit ?_ | refine WP.skip ?_); simp only [go_sem, he, entsK_zero, tyAll, Nat.reduceAdd, Nat.reduceLT, Nat.reduceLeDiff, Nat.reduceEqDiff, Nat.reduceMul, Nat.reduceSub, Nat.reduceGT, reduceIte, Int.reduceNeg, Int.reduceToNat]) | ((first | refine WP.flowW 12 fl23fde0757d [6, 27, 28, 29, 30, 31, 32, 33, 34, 35, 36, 37] [6, 30] [] (by decide +kernel) (by kernel_rfl) (by kernel_rfl) (by kernel_rfl) ?_ | refine WP.flowZ [3] 11 fl1c6bae4db1 [54, 55, 56, 57, 58, 59, 60, 61, 62, 63, 64] [54, 58, 60, 61] [54, 58] (by decide +kernel) (by kernel_rfl) (by kernel_rfl) (by kernel_rfl) ?_ | refine WP.flowW 11 fl1c6bae4db1 [54, 55, 56, 57, 58, 59, 60, 61, 62, 63, 64] [54, 58, 60, 61] [54, 58] (by decide +kernel) (by kernel_rfl) (by kernel_rfl) (by kernel_rfl) ?_ | refine WP.drawW 14 (by decide +kernel) (by kernel_rfl) ?_); simp only [go_sem, he, entsK_zero, tyAll, Nat.reduceAdd, Nat.reduceLT, Nat.reduceLeDiff, Nat.reduceEqDiff, Nat.reduceMul, Nat.reduceSub, Nat.reduceGT, reduceIte, Int.reduceNeg, Int.reduceToNat]) |  refine And.intro ?_ ?_ | intro _))
    all_goals first | omega | skip
  | true =>
    by_cases hlt : k < C.length
    · have hli : (k : Int) < C.length := by omega
      have h1 := rowAt_map encI C k hlt
      by_cases hz : C[k] = 0
      · have hsk := entsK_skip (N := N) hlt hz
        (repeat' (first | refine WP.seq ?_ | refine WP.block ?_ | ((first | refine WP.region ?_ | refine WP.condW ?_ | refine WP.ret ?_ | refine WP.exit ?_ | refine WP.skip ?_); simp only [go_sem, hli, h1, encI, hz, tyAll, Nat.reduceAdd, Nat.reduceLT, Nat.reduceLeDiff, Nat.reduceEqDiff, Nat.reduceMul, Nat.reduceSub, Nat.reduceGT, reduceIte, Int.reduceNeg, Int.reduceToNat]) | ((first | refine WP.flowW 12 fl23fde0757d [6, 27, 28, 29, 30, 31, 32, 33, 34, 35, 36, 37] [6, 30] [] (by decide +kernel) (by kernel_rfl) (by kernel_rfl) (by kernel_rfl) ?_ | refine WP.flowZ [3] 11 fl1c6bae4db1 [54, 55, 56, 57, 58, 59, 60, 61, 62, 63, 64] [54, 58, 60, 61] [54, 58] (by decide +kernel) (by kernel_rfl) (by kernel_rfl) (by kernel_rfl) ?_ | refine WP.flowW 11 fl1c6bae4db1 [54, 55, 56, 57, 58, 59, 60, 61, 62, 63, 64] [54, 58, 60, 61] [54, 58] (by decide +kernel) (by kernel_rfl) (by kernel_rfl) (by kernel_rfl) ?_ | refine WP.drawW 14 (by decide +kernel) (by kernel_rfl) ?_); simp only [go_sem, hli, h1, encI, hz, tyAll, Nat.reduceAdd, Nat.reduceLT, Nat.reduceLeDiff, Nat.reduceEqDiff, Nat.reduceMul, Nat.reduceSub, Nat.reduceGT, reduceIte, Int.reduceNeg, Int.reduceToNat]) |  refine And.intro ?_ ?_ | intro _))
        all_goals first | omega | skip
        exact ⟨k + 1, by omega, by omega, rfl, by rw [hsk]⟩
      · have hnw := entsK_new (N := N) hlt hz
        have hfr := wfFr_at N k
        have hsl := stackAt_len N k
        (repeat' (first | refine WP.seq ?_ | refine WP.block ?_ | ((first | refine WP.region ?_ | refine WP.condW ?_ | refine WP.ret ?_ | refine WP.exit ?_ | refine WP.skip ?_); simp only [go_sem, hli, h1, encI, hz, tyAll, Nat.reduceAdd, Nat.reduceLT, Nat.reduceLeDiff, Nat.reduceEqDiff, Nat.reduceMul, Nat.reduceSub, Nat.reduceGT, reduceIte, Int.reduceNeg, Int.reduceToNat]) | ((first | refine WP.flowW 12 fl23fde0757d [6, 27, 28, 29, 30, 31, 32, 33, 34, 35, 36, 37] [6, 30] [] (by decide +kernel) (by kernel_rfl) (by kernel_rfl) (by kernel_rfl) ?_ | refine WP.flowZ [3] 11 fl1c6bae4db1 [54, 55, 56, 57, 58, 59, 60, 61, 62, 63, 64] [54, 58, 60, 61] [54, 58] (by decide +kernel) (by kernel_rfl) (by kernel_rfl) (by kernel_rfl) ?_ | refine WP.flowW 11 fl1c6bae4db1 [54, 55, 56, 57, 58, 59, 60, 61, 62, 63, 64] [54, 58, 60, 61] [54, 58] (by decide +kernel) (by kernel_rfl) (by kernel_rfl) (by kernel_rfl) ?_ | refine WP.drawW 14 (by decide +kernel) (by kernel_rfl) ?_); simp only [go_sem, hli, h1, encI, hz, tyAll, Nat.reduceAdd, Nat.reduceLT, Nat.reduceLeDiff, Nat.reduceEqDiff, Nat.reduceMul, Nat.reduceSub, Nat.reduceGT, reduceIte, Int.reduceNeg, Int.reduceToNat]) |  refine And.intro ?_ ?_ | intro _))
        all_goals first | omega | (simp only; omega) | exact Nat.le_trans (hs _ ‹_›) (by omega) | exact hfr _ ‹_› | exact ⟨_, _, _, rfl⟩ | skip
        refine WP.loop (fun q : Nat => ⟨[(1, .ptr 1 0 0 0), (3, .own 61), (4, .v (.bool true)), (5, .v (.int .i64 k)), (6, .ptr 6 0 0 0), (7, .v (.int .i64 q))],
          [(1, .box 29 [.sl 3 (N.map encNode), .sl 1 (C.map encI)]), (6, .box 54 [.v (.string (fmtF (stackAt N k))), .v (.int .i64 C[k])]), (61, .sl 54 2 ((entsK N C k).map encEntry))]⟩)
          (fun q => q ≤ (entsK N C k).length ∧ ∀ j (hj : j < (entsK N C k).length), j < q → ltE (entsK N C k)[j] ⟨fmtF (stackAt N k), C[k]⟩ = true) (fun q => (entsK N C k).length - q) 0 (by simp) ?_ ?_
        · (simp only [go_sem, tyAll, Nat.reduceAdd, Nat.reduceLT, Nat.reduceLeDiff, Nat.reduceEqDiff, Nat.reduceMul, Nat.reduceSub, Nat.reduceGT, reduceIte, Int.reduceNeg, Int.reduceToNat] <;> (first | rfl | exact ⟨rfl, rfl⟩ | exact ⟨rfl, rfl, rfl⟩ | exact ⟨rfl, rfl, rfl, rfl⟩ | exact ⟨rfl, rfl, rfl, rfl, rfl⟩ | exact ⟨⟨rfl, rfl⟩, rfl⟩ | simp))
        intro q ⟨hq, hf⟩
        by_cases hql : q < (entsK N C k).length
        · have hqi : (q : Int) < (entsK N C k).length := by omega
          have h2 := rowAt_map encEntry (entsK N C k) q hql
          cases hl : ltS (entsK N C k)[q].stack (fmtF (stackAt N k)) with
          | true =>
            (repeat' (first | refine WP.seq ?_ | refine WP.block ?_ | ((first | refine WP.region ?_ | refine WP.condW ?_ | refine WP.ret ?_ | refine WP.exit ?_ | refine WP.skip ?_); simp only [go_sem, hqi, h2, encEntry, ltS_def, hl, tyAll, Nat.reduceAdd, Nat.reduceLT, Nat.reduceLeDiff, Nat.reduceEqDiff, Nat.reduceMul, Nat.reduceSub, Nat.reduceGT, reduceIte, Int.reduceNeg, Int.reduceToNat]) | ((first | refine WP.flowW 12 fl23fde0757d [6, 27, 28, 29, 30, 31, 32, 33, 34, 35, 36, 37] [6, 30] [] (by decide +kernel) (by kernel_rfl) (by kernel_rfl) (by kernel_rfl) ?_ | refine WP.flowZ [3] 11 fl1c6bae4db1 [54, 55, 56, 57, 58, 59, 60, 61, 62, 63, 64] [54, 58, 60, 61] [54, 58] (by decide +kernel) (by kernel_rfl) (by kernel_rfl) (by kernel_rfl) ?_ | refine WP.flowW 11 fl1c6bae4db1 [54, 55, 56, 57, 58, 59, 60, 61, 62, 63, 64] [54, 58, 60, 61] [54, 58] (by decide +kernel) (by kernel_rfl) (by kernel_rfl) (by kernel_rfl) ?_ | refine WP.drawW 14 (by decide +kernel) (by kernel_rfl) ?_); simp only [go_sem, hqi, h2, encEntry, ltS_def, hl, tyAll, Nat.reduceAdd, Nat.reduceLT, Nat.reduceLeDiff, Nat.reduceEqDiff, Nat.reduceMul, Nat.reduceSub, Nat.reduceGT, reduceIte, Int.reduceNeg, Int.reduceToNat]) |  refine And.intro ?_ ?_ | intro _))
            all_goals first | omega | skip
            refine ⟨q + 1, ⟨by omega, fun j hj hjq => ?_⟩, by omega, by (first | rfl | exact ⟨rfl, rfl⟩ | exact ⟨rfl, rfl, rfl⟩ | exact ⟨rfl, rfl, rfl, rfl⟩ | exact ⟨rfl, rfl, rfl, rfl, rfl⟩ | exact ⟨⟨rfl, rfl⟩, rfl⟩ | simp)⟩
            rcases Nat.lt_or_ge j q with h | h
            · exact hf j hj h
            · have : j = q := by omega
              subst this; exact hl
          | false =>
            have hin := ins_at (lt := ltE) (x := ⟨fmtF (stackAt N k), C[k]⟩) hq hf (fun _ => hl)
            (repeat' (first | refine WP.seq ?_ | refine WP.block ?_ | ((first | refine WP.region ?_ | refine WP.condW ?_ | refine WP.ret ?_ | refine WP.exit ?_ | refine WP.skip ?_); simp only [go_sem, hqi, h2, encEntry, ltS_def, hl, tyAll, Nat.reduceAdd, Nat.reduceLT, Nat.reduceLeDiff, Nat.reduceEqDiff, Nat.reduceMul, Nat.reduceSub, Nat.reduceGT, reduceIte, Int.reduceNeg, Int.reduceToNat]) | ((first | refine WP.flowW 12 fl23fde0757d [6, 27, 28, 29, 30, 31, 32, 33, 34, 35, 36, 37] [6, 30] [] (by decide +kernel) (by kernel_rfl) (by kernel_rfl) (by kernel_rfl) ?_ | refine WP.flowZ [3] 11 fl1c6bae4db1 [54, 55, 56, 57, 58, 59, 60, 61, 62, 63, 64] [54, 58, 60, 61] [54, 58] (by decide +kernel) (by kernel_rfl) (by kernel_rfl) (by kernel_rfl) ?_ | refine WP.flowW 11 fl1c6bae4db1 [54, 55, 56, 57, 58, 59, 60, 61, 62, 63, 64] [54, 58, 60, 61] [54, 58] (by decide +kernel) (by kernel_rfl) (by kernel_rfl) (by kernel_rfl) ?_ | refine WP.drawW 14 (by decide +kernel) (by kernel_rfl) ?_); simp only [go_sem, hqi, h2, encEntry, ltS_def, hl, tyAll, Nat.reduceAdd, Nat.reduceLT, Nat.reduceLeDiff, Nat.reduceEqDiff, Nat.reduceMul, Nat.reduceSub, Nat.reduceGT, reduceIte, Int.reduceNeg, Int.reduceToNat]) |  refine And.intro ?_ ?_ | intro _))
            all_goals first | omega | exact rlEntry (List.mem_of_mem_take ‹_›) | exact rlEntry (List.mem_of_mem_drop ‹_›) | (simp only [List.length_append, List.length_take, List.length_drop, List.length_map, List.length_cons, List.length_nil]; omega) | skip
            exact ⟨k + 1, by omega, by omega, rfl, by rw [hnw, hin, List.map_append, List.map_cons, List.map_take, List.map_drop]; simp [encEntry]⟩
        · have hqe : ¬ (q : Int) < (entsK N C k).length := by omega
          have hin := ins_at (lt := ltE) (x := ⟨fmtF (stackAt N k), C[k]⟩) hq hf (fun h => absurd h hql)
          have hr0 : Go.Vc.rowAt ((entsK N C k).map encEntry) q = [] := by unfold Go.Vc.rowAt; rw [List.getElem?_eq_none (by rw [List.length_map]; omega)]; rfl
          (repeat' (first | refine WP.seq ?_ | refine WP.block ?_ | ((first | refine WP.region ?_ | refine WP.condW ?_ | refine WP.ret ?_ | refine WP.exit ?_ | refine WP.skip ?_); simp only [go_sem, hqe, hr0, tyAll, Nat.reduceAdd, Nat.reduceLT, Nat.reduceLeDiff, Nat.reduceEqDiff, Nat.reduceMul, Nat.reduceSub, Nat.reduceGT, reduceIte, Int.reduceNeg, Int.reduceToNat]) | ((first | refine WP.flowW 12 fl23fde0757d [6, 27, 28, 29, 30, 31, 32, 33, 34, 35, 36, 37] [6, 30] [] (by decide +kernel) (by kernel_rfl) (by kernel_rfl) (by kernel_rfl) ?_ | refine WP.flowZ [3] 11 fl1c6bae4db1 [54, 55, 56, 57, 58, 59, 60, 61, 62, 63, 64] [54, 58, 60, 61] [54, 58] (by decide +kernel) (by kernel_rfl) (by kernel_rfl) (by kernel_rfl) ?_ | refine WP.flowW 11 fl1c6bae4db1 [54, 55, 56, 57, 58, 59, 60, 61, 62, 63, 64] [54, 58, 60, 61] [54, 58] (by decide +kernel) (by kernel_rfl) (by kernel_rfl) (by kernel_rfl) ?_ | refine WP.drawW 14 (by decide +kernel) (by kernel_rfl) ?_); simp only [go_sem, hqe, hr0, tyAll, Nat.reduceAdd, Nat.reduceLT, Nat.reduceLeDiff, Nat.reduceEqDiff, Nat.reduceMul, Nat.reduceSub, Nat.reduceGT, reduceIte, Int.reduceNeg, Int.reduceToNat]) |  refine And.intro ?_ ?_ | intro _))
          all_goals first | omega | exact rlEntry (List.mem_of_mem_take ‹_›) | exact rlEntry (List.mem_of_mem_drop ‹_›) | (simp only [List.length_append, List.length_take, List.length_drop, List.length_map, List.length_cons, List.length_nil]; omega) | skip
          exact ⟨k + 1, by omega, by omega, rfl, by rw [hnw, hin, List.map_append, List.map_cons, List.map_take, List.map_drop]; simp [encEntry]⟩
    · have hge : ¬ (k : Int) < C.length := by omega
      have he : entriesOf N C = entsK N C C.length := if_pos hp
      (repeat' (first | refine WP.seq ?_ | refine WP.block ?_ | ((first | refine WP.region ?_ | refine WP.condW ?_ | refine WP.ret ?_ | refine WP.exit ?_ | refine WP.skip ?_); simp only [go_sem, hge, he, tyAll, Nat.reduceAdd, Nat.reduceLT, Nat.reduceLeDiff, Nat.reduceEqDiff, Nat.reduceMul, Nat.reduceSub, Nat.reduceGT, reduceIte, Int.reduceNeg, Int.reduceToNat]) | ((first | refine WP.flowW 12 fl23fde0757d [6, 27, 28, 29, 30, 31, 32, 33, 34, 35, 36, 37] [6, 30] [] (by decide +kernel) (by kernel_rfl) (by kernel_rfl) (by kernel_rfl) ?_ | refine WP.flowZ [3] 11 fl1c6bae4db1 [54, 55, 56, 57, 58, 59, 60, 61, 62, 63, 64] [54, 58, 60, 61] [54, 58] (by decide +kernel) (by kernel_rfl) (by kernel_rfl) (by kernel_rfl) ?_ | refine WP.flowW 11 fl1c6bae4db1 [54, 55, 56, 57, 58, 59, 60, 61, 62, 63, 64] [54, 58, 60, 61] [54, 58] (by decide +kernel) (by kernel_rfl) (by kernel_rfl) (by kernel_rfl) ?_ | refine WP.drawW 14 (by decide +kernel) (by kernel_rfl) ?_); simp only [go_sem, hge, he, tyAll, Nat.reduceAdd, Nat.reduceLT, Nat.reduceLeDiff, Nat.reduceEqDiff, Nat.reduceMul, Nat.reduceSub, Nat.reduceGT, reduceIte, Int.reduceNeg, Int.reduceToNat]) |  refine And.intro ?_ ?_ | intro _))
      all_goals first | omega | skip
      rw [show k = C.length by omega]
end
end
section
open Go.Vc
set_option linter.unusedSimpArgs false
set_option linter.unusedVariables false
set_option maxHeartbeats 1000000
set_option maxRecDepth 10000
attribute [local irreducible] Go.Vc.WP
attribute [local go_sem] cx0_t cx0_c
attribute [local go_sem] isV_Node isV_It isV_Entry decNode_enc decFrame_enc oneFrame_enc stkA oneFrame_ab oneNode_abc decI_enc decS_enc aU prA decEntry_enc St.fzS addL behind
theorem allV_map {α : Type} {en : α → List SV} (h : ∀ x, ∀ c ∈ en x, ∃ v, c = .v v) (L : List α) : allV (L.map en) := fun row hr c hc => by
  obtain ⟨x, _, rfl⟩ := List.mem_map.1 hr
  exact h x c hc
theorem allV_Frame (L : List Frame) : allV (L.map encFrame) := allV_map (fun x c hc => by
  simp only [encFrame, List.mem_cons, List.not_mem_nil, or_false] at hc
  rcases hc with rfl | rfl <;> exact ⟨_, rfl⟩) L
theorem allV_Entry (L : List Entry) : allV (L.map encEntry) := allV_map (fun x c hc => by
  simp only [encEntry, List.mem_cons, List.not_mem_nil, or_false] at hc
  rcases hc with rfl | rfl <;> exact ⟨_, rfl⟩) L
/-- what is parsed, to be read only -/
def kParseZ : Ctr := pur (fun args => aS args 0) (fun s => [.v (.string s)]) (fun s => s.size ≤ 2147483648) (fun _ s => .tup [.sl 2 (((parseF s).getD []).map encFrame), .v (.bool (parseF s).isSome)]) (fun _ _ => [])
theorem cParseZS : Cn Tryz.prog 39 kParseZ := Cn.frozenT (fun s => allV_Frame _) cParseFS
def kEntZ : Ctr := pur (fun args => prA args 0) (fun x => [.agg [.sl 3 (x.1.map encNode), .sl 1 (x.2.map encI)]]) wfQ (fun _ x => .sl 2 ((entriesOf x.1 x.2).map encEntry)) (fun _ _ => [])
theorem cEntZS : Cn Tryz.prog 35 kEntZ := Cn.frozen (fun s => allV_Entry _) cEntS
def kIdxF : Ctr := pur (fun args => (decFrame (aR args 0), aS args 1)) (fun x => [.sl 2 (x.1.map encFrame), .v (.string x.2)]) (fun x => x.1.length ≤ 4398046511104) (fun _ x => .v (.int .i64 (idxF x.2 x.1))) (fun _ _ => [])
section
noncomputable def cxIxS : Cx := { P := Tryz.prog, tys := tys, C := [], hty := tysOk, hC := COk.nil _ }
theorem cxIxS_t : cxIxS.tys = tys := rfl
theorem cxIxS_c : cxIxS.C = [] := rfl
attribute [local go_sem] cxIxS_t cxIxS_c 
theorem cIdxS : Cn Tryz.prog 108 kIdxF := by
  refine Cn.pur Tryz.func108 (by kernel_rfl) rfl fun d x hx => ?_
  obtain ⟨L, s⟩ := x
  simp only at hx ⊢
  refine Holds.go (c := cxIxS) Tryz.func108 rfl Tryz.results108 Tryz.ntmps108 (by omega) (by simp) rfl ?_
  intro X0 w0
  (repeat' (first | refine WP.seq ?_ | refine WP.block ?_ | ((first | refine WP.region ?_ | refine WP.condW ?_ | refine WP.ret ?_ | refine WP.exit ?_ | refine WP.skip ?_); simp only [go_sem, tyAll, Nat.reduceAdd, Nat.reduceLT, Nat.reduceLeDiff, Nat.reduceEqDiff, Nat.reduceMul, Nat.reduceSub, Nat.reduceGT, reduceIte, Int.reduceNeg, Int.reduceToNat]) |  refine And.intro ?_ ?_ | intro _))
  refine WP.loop (fun k : Nat => ⟨[(0, .sl 2 (L.map encFrame)), (1, .v (.string s)), (5, .v (.int .i64 k))], []⟩) (fun k => k ≤ L.length ∧ ∀ i (hi : i < L.length), i < k → hasName s L[i] = false) (fun k => L.length - k) 0 (by simp) ?_ ?_
  · (simp only [go_sem, tyAll, Nat.reduceAdd, Nat.reduceLT, Nat.reduceLeDiff, Nat.reduceEqDiff, Nat.reduceMul, Nat.reduceSub, Nat.reduceGT, reduceIte, Int.reduceNeg, Int.reduceToNat] <;> (first | rfl | exact ⟨rfl, rfl⟩ | exact ⟨rfl, rfl, rfl⟩ | exact ⟨rfl, rfl, rfl, rfl⟩ | exact ⟨rfl, rfl, rfl, rfl, rfl⟩ | exact ⟨⟨rfl, rfl⟩, rfl⟩ | simp))
  intro k ⟨hk, hf⟩
  by_cases hlt : k < L.length
  · have hli : (k : Int) < L.length := by omega
    have h1 := rowAt_map encFrame L k hlt
    (repeat' (first | refine WP.seq ?_ | refine WP.block ?_ | ((first | refine WP.region ?_ | refine WP.condW ?_ | refine WP.ret ?_ | refine WP.exit ?_ | refine WP.skip ?_); simp only [go_sem, hli, h1, encFrame, tyAll, Nat.reduceAdd, Nat.reduceLT, Nat.reduceLeDiff, Nat.reduceEqDiff, Nat.reduceMul, Nat.reduceSub, Nat.reduceGT, reduceIte, Int.reduceNeg, Int.reduceToNat]) |  refine And.intro ?_ ?_ | intro _))
    all_goals first | omega | skip
    · rename_i he
      rw [show idxF s L = k from firstIdx_hit hlt hf (by simp [hasName, he])]
    · rename_i hne
      refine ⟨k + 1, ⟨by omega, fun i hi hik => ?_⟩, by omega, by (first | rfl | exact ⟨rfl, rfl⟩ | exact ⟨rfl, rfl, rfl⟩ | exact ⟨rfl, rfl, rfl, rfl⟩ | exact ⟨rfl, rfl, rfl, rfl, rfl⟩ | exact ⟨⟨rfl, rfl⟩, rfl⟩ | simp)⟩
      rcases Nat.lt_or_ge i k with h | h
      · exact hf i hi h
      · have : i = k := by omega
        subst this
        simp [hasName, hne]
  · have hge : ¬ (k : Int) < L.length := by omega
    (repeat' (first | refine WP.seq ?_ | refine WP.block ?_ | ((first | refine WP.region ?_ | refine WP.condW ?_ | refine WP.ret ?_ | refine WP.exit ?_ | refine WP.skip ?_); simp only [go_sem, hge, tyAll, Nat.reduceAdd, Nat.reduceLT, Nat.reduceLeDiff, Nat.reduceEqDiff, Nat.reduceMul, Nat.reduceSub, Nat.reduceGT, reduceIte, Int.reduceNeg, Int.reduceToNat]) |  refine And.intro ?_ ?_ | intro _))
    all_goals first | omega | skip
    rw [show idxF s L = -1 from firstIdx_none fun i hi => hf i hi (by omega)]
end
/-- what is known of the entries of a profile -/
theorem ent_sizes {N : List Node} {C : List Int} (hN : N.length ≤ 1048576) {e : Entry} (h : e ∈ entriesOf N C) : e.stack.size ≤ 12582912 ∧ (frsE e).length ≤ 1048576 ∧ ∀ f ∈ frsE e, f.name.size ≤ 8 := by
  have h1 := entriesOf_size h
  obtain ⟨_, _, _, h2, h3⟩ := ent_frs h
  have h4 := (parseF_small h3).2
  exact ⟨by omega, by omega, h4⟩
theorem wfE_filter {N : List Node} {C : List Int} (hN : N.length ≤ 1048576) (hC : C.length ≤ 1048576) (p : Entry → Bool) : wfE ((entriesOf N C).filter p) := by
  have h1 := entriesOf_len N C
  have h2 := List.length_filter_le p (entriesOf N C)
  refine ⟨by omega, fun e he => (ent_sizes hN ((List.mem_filter.1 he).1)).1⟩
theorem wfE_map {N : List Node} {C : List Int} (hN : N.length ≤ 1048576) (hC : C.length ≤ 1048576) {g : List Frame → List Frame} (hg : ∀ L, (g L).length ≤ L.length) : wfE ((entriesOf N C).filterMap (mapG g)) := by
  have h1 := entriesOf_len N C
  have h2 := List.length_filterMap_le (mapG g) (entriesOf N C)
  refine ⟨by omega, fun e he => ?_⟩
  obtain ⟨x, hx, hm⟩ := List.mem_filterMap.1 he
  unfold mapG at hm
  split at hm
  · cases hm
  · cases hm
    have h3 := fmtF_size (g (frsE x))
    have h4 := hg (frsE x)
    have h5 := (ent_sizes hN hx).2.1
    simp only; omega
def pR (d : Nat) : SV := .agg [.own d, .own (d + 1000)]
def kKeep : Ctr := pur (fun args => (prA args 0, aS args 1, aB args 2)) (fun x => [.agg [.sl 3 (x.1.1.map encNode), .sl 1 (x.1.2.map encI)], .v (.string x.2.1), .v (.bool x.2.2)])
  (fun x => (x.1.1.length ≤ 1048576 ∧ ∀ n ∈ x.1.1, n.name.size ≤ 1048576) ∧ x.1.2.length ≤ 1048576) (fun d _ => .agg [.own d, .own (d + 1000)])
  (fun d x => [(d, .sl 157 3 ((mapP (pick x.2.1 x.2.2) x.1.1 x.1.2).1.map encNode)), (d + 1000, .sl 3 1 ((mapP (pick x.2.1 x.2.2) x.1.1 x.1.2).2.map encI))])
section
noncomputable def cxKpS : Cx := { P := Tryz.prog, tys := tys, C := [(35, kEntZ), (39, kParseZ), (108, kIdxF), (86, kProfOf)], hty := tysOk, hC := COk.cons cEntZS (COk.cons cParseZS (COk.cons cIdxS (COk.cons cProfOfS (COk.nil _)))) }
theorem cxKpS_t : cxKpS.tys = tys := rfl
theorem cxKpS_c : cxKpS.C = [(35, kEntZ), (39, kParseZ), (108, kIdxF), (86, kProfOf)] := rfl
attribute [local go_sem] cxKpS_t cxKpS_c kEntZ kParseZ kIdxF kProfOf
theorem cKeepS : Cn Tryz.prog 97 kKeep := by
  refine Cn.pur Tryz.func97 (by kernel_rfl) rfl fun d x hx => ?_
  obtain ⟨⟨N, C⟩, s, b⟩ := x
  obtain ⟨⟨hN, hs⟩, hC⟩ := hx
  simp only at hN hs hC ⊢
  have hlen := entriesOf_len N C
  refine Holds.go (c := cxKpS) Tryz.func97 rfl Tryz.results97 Tryz.ntmps97 (by omega) (by simp) rfl ?_
  intro X0 w0
  (repeat' (first | refine WP.seq ?_ | refine WP.block ?_ | ((first | refine WP.region ?_ | refine WP.condW ?_ | refine WP.ret ?_ | refine WP.exit ?_ | refine WP.skip ?_); simp only [go_sem, tyAll, Nat.reduceAdd, Nat.reduceLT, Nat.reduceLeDiff, Nat.reduceEqDiff, Nat.reduceMul, Nat.reduceSub, Nat.reduceGT, reduceIte, Int.reduceNeg, Int.reduceToNat]) |  refine And.intro ?_ ?_ | intro _))
  all_goals first | omega | (simp only; omega) | exact Nat.le_trans (hs _ ‹_›) (by omega) | exact ⟨_, _, _, rfl⟩ | skip
  refine WP.loop (fun k : Nat => ⟨[(1, .v (.string s)), (2, .v (.bool b)), (6, .ptr 6 0 0 0), (7, .own 14), (8, .sl 2 ((entriesOf N C).map encEntry)), (9, .v (.int .i64 k))], [(6, .box 29 [.v (.slice none 0 0), .v (.slice none 0 0)]), (14, .sl 54 2 ((((entriesOf N C).take k).filter (keepS s b)).map encEntry))]⟩)
    (fun k => k ≤ (entriesOf N C).length) (fun k => (entriesOf N C).length - k) 0 (by simp) ?_ ?_
  · (simp only [go_sem, tyAll, Nat.reduceAdd, Nat.reduceLT, Nat.reduceLeDiff, Nat.reduceEqDiff, Nat.reduceMul, Nat.reduceSub, Nat.reduceGT, reduceIte, Int.reduceNeg, Int.reduceToNat] <;> (first | rfl | exact ⟨rfl, rfl⟩ | exact ⟨rfl, rfl, rfl⟩ | exact ⟨rfl, rfl, rfl, rfl⟩ | exact ⟨rfl, rfl, rfl, rfl, rfl⟩ | exact ⟨⟨rfl, rfl⟩, rfl⟩ | simp))
  intro k hk
  have hfl := List.length_filter_le (keepS s b) ((entriesOf N C).take k)
  rw [List.length_take] at hfl
  by_cases hlt : k < (entriesOf N C).length
  · have hli : (k : Int) < (entriesOf N C).length := by omega
    have h1 := rowAt_map encEntry (entriesOf N C) k hlt
    have hm := List.getElem_mem hlt
    obtain ⟨z1, z2, z3⟩ := ent_sizes hN hm
    have hsu := fl_succ (keepS s b) hlt
    have hfr : (parseF (entriesOf N C)[k].stack).getD [] = frsE (entriesOf N C)[k] := rfl
    cases hq : keepS s b (entriesOf N C)[k] with
    | true =>
      have hq' : (decide (0 ≤ idxF s (frsE (entriesOf N C)[k])) == b) = true := hq
      rw [hq, if_pos rfl] at hsu
      (repeat' (first | refine WP.seq ?_ | refine WP.block ?_ | ((first | refine WP.region ?_ | refine WP.condW ?_ | refine WP.ret ?_ | refine WP.exit ?_ | refine WP.skip ?_); simp only [go_sem, hli, h1, encEntry, hfr, hq', tyAll, Nat.reduceAdd, Nat.reduceLT, Nat.reduceLeDiff, Nat.reduceEqDiff, Nat.reduceMul, Nat.reduceSub, Nat.reduceGT, reduceIte, Int.reduceNeg, Int.reduceToNat]) |  refine And.intro ?_ ?_ | intro _))
      all_goals first | omega | (simp only; omega) | exact ⟨_, _, _, rfl⟩ | skip
      all_goals first | exact ⟨k + 1, by omega, by omega, by simp only [hsu, List.map_append]; (first | rfl | exact ⟨rfl, rfl⟩ | exact ⟨rfl, rfl, rfl⟩ | exact ⟨rfl, rfl, rfl, rfl⟩ | exact ⟨rfl, rfl, rfl, rfl, rfl⟩ | exact ⟨⟨rfl, rfl⟩, rfl⟩ | simp)⟩ | trace_state
    | false =>
      have hq' : (decide (0 ≤ idxF s (frsE (entriesOf N C)[k])) == b) = false := hq
      rw [hq, if_neg (by simp), List.append_nil] at hsu
      (repeat' (first | refine WP.seq ?_ | refine WP.block ?_ | ((first | refine WP.region ?_ | refine WP.condW ?_ | refine WP.ret ?_ | refine WP.exit ?_ | refine WP.skip ?_); simp only [go_sem, hli, h1, encEntry, hfr, hq', tyAll, Nat.reduceAdd, Nat.reduceLT, Nat.reduceLeDiff, Nat.reduceEqDiff, Nat.reduceMul, Nat.reduceSub, Nat.reduceGT, reduceIte, Int.reduceNeg, Int.reduceToNat]) |  refine And.intro ?_ ?_ | intro _))
      all_goals first | omega | (simp only; omega) | exact ⟨_, _, _, rfl⟩ | skip
      all_goals first | exact ⟨k + 1, by omega, by omega, by simp only [hsu]; (first | rfl | exact ⟨rfl, rfl⟩ | exact ⟨rfl, rfl, rfl⟩ | exact ⟨rfl, rfl, rfl, rfl⟩ | exact ⟨rfl, rfl, rfl, rfl, rfl⟩ | exact ⟨⟨rfl, rfl⟩, rfl⟩ | simp)⟩ | trace_state
  · have hge : ¬ (k : Int) < (entriesOf N C).length := by omega
    have hke : k = (entriesOf N C).length := by omega
    subst hke
    have hpl := pick_list N C s b
    have hwf := wfE_filter (N := N) (C := C) hN hC (keepS s b)
    rw [List.take_length]
    (repeat' (first | refine WP.seq ?_ | refine WP.block ?_ | ((first | refine WP.region ?_ | refine WP.condW ?_ | refine WP.ret ?_ | refine WP.exit ?_ | refine WP.skip ?_); simp only [go_sem, hge, mapP, hpl, tyAll, Nat.reduceAdd, Nat.reduceLT, Nat.reduceLeDiff, Nat.reduceEqDiff, Nat.reduceMul, Nat.reduceSub, Nat.reduceGT, reduceIte, Int.reduceNeg, Int.reduceToNat]) |  refine And.intro ?_ ?_ | intro _))
    all_goals first | omega | exact hwf.1 | exact hwf.2 _ ‹_› | exact ⟨_, _, _, rfl⟩ | exact ⟨_, _, rfl, _, _, rfl, rfl⟩ | exact if_neg (by omega) | exact ⟨_, _, if_neg (by omega)⟩ | exact ⟨_, _, rfl⟩ | skip
    all_goals trace_state
end
def kFocT : Ctr := pur (fun args => (prA args 0, aS args 1)) (fun x => [.agg [.sl 3 (x.1.1.map encNode), .sl 1 (x.1.2.map encI)], .v (.string x.2)])
  (fun x => (x.1.1.length ≤ 1048576 ∧ ∀ n ∈ x.1.1, n.name.size ≤ 1048576) ∧ x.1.2.length ≤ 1048576) (fun d _ => .agg [.own d, .own (d + 1000)])
  (fun d x => [(d, .sl 157 3 ((mapP (pick x.2 true) x.1.1 x.1.2).1.map encNode)), (d + 1000, .sl 3 1 ((mapP (pick x.2 true) x.1.1 x.1.2).2.map encI))])
def kFocF : Ctr := pur (fun args => (prA args 0, aS args 1)) (fun x => [.agg [.sl 3 (x.1.1.map encNode), .sl 1 (x.1.2.map encI)], .v (.string x.2)])
  (fun x => (x.1.1.length ≤ 1048576 ∧ ∀ n ∈ x.1.1, n.name.size ≤ 1048576) ∧ x.1.2.length ≤ 1048576) (fun d _ => .agg [.own d, .own (d + 1000)])
  (fun d x => [(d, .sl 157 3 ((mapP (pick x.2 false) x.1.1 x.1.2).1.map encNode)), (d + 1000, .sl 3 1 ((mapP (pick x.2 false) x.1.1 x.1.2).2.map encI))])
section
noncomputable def cxFoS : Cx := { P := Tryz.prog, tys := tys, C := [(97, kKeep)], hty := tysOk, hC := COk.cons cKeepS (COk.nil _) }
theorem cxFoS_t : cxFoS.tys = tys := rfl
theorem cxFoS_c : cxFoS.C = [(97, kKeep)] := rfl
attribute [local go_sem] cxFoS_t cxFoS_c kKeep
theorem cFocS : Cn Tryz.prog 40 kFocT := by
  refine Cn.pur Tryz.func40 (by kernel_rfl) rfl fun d x hx => ?_
  obtain ⟨⟨N, C⟩, s⟩ := x
  obtain ⟨⟨hN, hs⟩, hC⟩ := hx
  simp only at hN hs hC ⊢
  refine Holds.go (c := cxFoS) Tryz.func40 rfl Tryz.results40 Tryz.ntmps40 (by omega) (by simp) rfl ?_
  intro X0 w0
  (repeat' (first | refine WP.seq ?_ | refine WP.block ?_ | ((first | refine WP.region ?_ | refine WP.condW ?_ | refine WP.ret ?_ | refine WP.exit ?_ | refine WP.skip ?_); simp only [go_sem, tyAll, Nat.reduceAdd, Nat.reduceLT, Nat.reduceLeDiff, Nat.reduceEqDiff, Nat.reduceMul, Nat.reduceSub, Nat.reduceGT, reduceIte, Int.reduceNeg, Int.reduceToNat]) |  refine And.intro ?_ ?_ | intro _))
  all_goals first | omega | exact hs _ ‹_› | exact ⟨_, _, _, rfl⟩ | exact ⟨_, _, rfl, _, _, rfl, rfl⟩ | exact if_neg (by omega) | exact ⟨_, _, if_neg (by omega)⟩ | exact ⟨_, _, rfl⟩ | skip
  all_goals trace_state
end
def topP (n : Int) (N : List Node) (C : List Int) : List Node × List Int := if n < 1 then ([], []) else mapP (topF n) N C
def kTop : Ctr := pur (fun args => (prA args 0, aI args 1)) (fun x => [.agg [.sl 3 (x.1.1.map encNode), .sl 1 (x.1.2.map encI)], .v (.int .i64 x.2)])
  (fun x => (x.1.1.length ≤ 1048576 ∧ ∀ n ∈ x.1.1, n.name.size ≤ 1048576) ∧ x.1.2.length ≤ 1048576) (fun d _ => .agg [.own d, .own (d + 1000)])
  (fun d x => [(d, .sl 157 3 ((topP x.2 x.1.1 x.1.2).1.map encNode)), (d + 1000, .sl 3 1 ((topP x.2 x.1.1 x.1.2).2.map encI))])
theorem take_min (n : Int) (L : List Frame) : L.take (if (L.length : Int) < n then (L.length : Int) else n).toNat = topF n L := by
  unfold topF
  split
  · rw [Int.toNat_natCast, List.take_length, List.take_of_length_le (by omega)]
  · rfl
theorem take_enc (m : Nat) (L : List Frame) : (L.map encFrame).take m = (L.take m).map encFrame := List.map_take.symm
theorem wfFr_top {N : List Node} {C : List Int} (hN : N.length ≤ 1048576) {e : Entry} (h : e ∈ entriesOf N C) (n : Int) : ∀ f ∈ topF n (frsE e), f.name.size ≤ 1099511627776 := fun f hf => by
  have := (ent_sizes hN h).2.2 f (List.mem_of_mem_take hf)
  omega
section
noncomputable def cxTpS : Cx := { P := Tryz.prog, tys := tys, C := [(35, kEntZ), (39, kParseZ), (88, kFmtF), (86, kProfOf)], hty := tysOk, hC := COk.cons cEntZS (COk.cons cParseZS (COk.cons cFmtFS (COk.cons cProfOfS (COk.nil _)))) }
theorem cxTpS_t : cxTpS.tys = tys := rfl
theorem cxTpS_c : cxTpS.C = [(35, kEntZ), (39, kParseZ), (88, kFmtF), (86, kProfOf)] := rfl
attribute [local go_sem] cxTpS_t cxTpS_c kEntZ kParseZ kFmtF kProfOf
end
end
section
open Go.Vc
set_option linter.unusedSimpArgs false
set_option linter.unusedVariables false
set_option maxHeartbeats 1000000
set_option maxRecDepth 10000
attribute [local irreducible] Go.Vc.WP
attribute [local go_sem] cx0_t cx0_c
attribute [local go_sem] isV_Node isV_It isV_Entry decNode_enc decFrame_enc oneFrame_enc stkA oneFrame_ab oneNode_abc decI_enc decS_enc aU prA decEntry_enc St.fzS addL behind decU_enc
def kBig : Ctr := pur (fun args => decU (aR args 0)) (fun b => [.sl 1 (b.map encU)]) (fun b => b.length ≤ 9223372036854775807) (fun _ b => .v (.bool (decide (1048576 < (b.length : Int))))) (fun _ _ => [])
section
noncomputable def cxBig : Cx := { P := Tryz.prog, tys := tys, C := [], hty := tysOk, hC := COk.nil _ }
theorem cxBig_t : cxBig.tys = tys := rfl
theorem cxBig_c : cxBig.C = [] := rfl
attribute [local go_sem] cxBig_t cxBig_c 
theorem cBig : Cn Tryz.prog 12 kBig := by
  refine Cn.pur Tryz.func12 (by kernel_rfl) rfl fun d x hx => ?_
  rename List Int => b
  refine Holds.go (c := cxBig) Tryz.func12 rfl Tryz.results12 Tryz.ntmps12 (by omega) (by simp) rfl ?_
  intro X0 w0
  (repeat' (first | refine WP.seq ?_ | refine WP.block ?_ | ((first | refine WP.region ?_ | refine WP.condW ?_ | refine WP.ret ?_ | refine WP.exit ?_ | refine WP.skip ?_); simp only [go_sem, tyAll, Nat.reduceAdd, Nat.reduceLT, Nat.reduceLeDiff, Nat.reduceEqDiff, Nat.reduceMul, Nat.reduceSub, Nat.reduceGT, reduceIte, Int.reduceNeg, Int.reduceToNat]) |  refine And.intro ?_ ?_ | intro _))
  all_goals first | omega | skip
end
def atV (b : List Int) (i : Int) : Int := if b.length = 0 then 0 else b.getD ((i * 5 + 1).tmod b.length).toNat 0
theorem atV_bd {b : List Int} (h : ∀ z ∈ b, 0 ≤ z ∧ z ≤ 255) (i : Int) : 0 ≤ atV b i ∧ atV b i ≤ 255 := by
  unfold atV
  split
  · omega
  · rw [List.getD_eq_getElem?_getD]
    cases hq : b[((i * 5 + 1).tmod b.length).toNat]? with
    | none => simp
    | some z => exact h z (List.mem_of_getElem? hq)
def kAt : Ctr := pur (fun args => (decU (aR args 0), aI args 1)) (fun x => [.sl 1 (x.1.map encU), .v (.int .i64 x.2)]) (fun x => (x.1.length ≤ 1048576 ∧ 0 ≤ x.2 ∧ x.2 ≤ 1000) ∧ ∀ z ∈ x.1, 0 ≤ z ∧ z ≤ 255) (fun _ x => .v (.int .i64 (atV x.1 x.2))) (fun _ _ => [])
section
noncomputable def cxAt : Cx := { P := Tryz.prog, tys := tys, C := [], hty := tysOk, hC := COk.nil _ }
theorem cxAt_t : cxAt.tys = tys := rfl
theorem cxAt_c : cxAt.C = [] := rfl
attribute [local go_sem] cxAt_t cxAt_c 
theorem cAt : Cn Tryz.prog 30 kAt := by
  refine Cn.pur Tryz.func30 (by kernel_rfl) rfl fun d x hx => ?_
  obtain ⟨b, i⟩ := x
  obtain ⟨⟨h1, h2, h3⟩, h4⟩ := hx
  simp only at h1 h2 h3 h4 ⊢
  refine Holds.go (c := cxAt) Tryz.func30 rfl Tryz.results30 Tryz.ntmps30 (by omega) (by simp) rfl ?_
  intro X0 w0
  by_cases h0 : b.length = 0
  · have h0i : (b.length : Int) = 0 := by omega
    have e : atV b i = 0 := if_pos h0
    rw [e]
    (repeat' (first | refine WP.seq ?_ | refine WP.block ?_ | ((first | refine WP.region ?_ | refine WP.condW ?_ | refine WP.ret ?_ | refine WP.exit ?_ | refine WP.skip ?_); simp only [go_sem, h0i, tyAll, Nat.reduceAdd, Nat.reduceLT, Nat.reduceLeDiff, Nat.reduceEqDiff, Nat.reduceMul, Nat.reduceSub, Nat.reduceGT, reduceIte, Int.reduceNeg, Int.reduceToNat]) |  refine And.intro ?_ ?_ | intro _))
    all_goals first | omega | skip
  · have h0i : ¬ (b.length : Int) = 0 := by omega
    have hm1 : 0 ≤ (i * 5 + 1).tmod b.length := Int.tmod_nonneg _ (by omega)
    have hm2 : (i * 5 + 1).tmod b.length < b.length := Int.tmod_lt_of_pos _ (by omega)
    obtain ⟨q, hq⟩ : ∃ q : Nat, (i * 5 + 1).tmod b.length = q := ⟨_, (Int.toNat_of_nonneg hm1).symm⟩
    have hqb : q < b.length := by omega
    have hqi : (q : Int) < b.length := by omega
    have hr := rowAt_map encU b q hqb
    have hz := h4 _ (List.getElem_mem hqb)
    have e : atV b i = b[q] := by
      unfold atV
      rw [if_neg h0, hq, Int.toNat_natCast, List.getD_eq_getElem?_getD, List.getElem?_eq_getElem hqb]; rfl
    rw [e]
    (repeat' (first | refine WP.seq ?_ | refine WP.block ?_ | ((first | refine WP.region ?_ | refine WP.condW ?_ | refine WP.ret ?_ | refine WP.exit ?_ | refine WP.skip ?_); simp only [go_sem, h0i, hq, hqi, hr, encU, tyAll, Nat.reduceAdd, Nat.reduceLT, Nat.reduceLeDiff, Nat.reduceEqDiff, Nat.reduceMul, Nat.reduceSub, Nat.reduceGT, reduceIte, Int.reduceNeg, Int.reduceToNat]) |  refine And.intro ?_ ?_ | intro _))
    all_goals first | omega | skip
    all_goals trace_state
end
def kDrawZ : Ctr := pur (fun args => decU (aR args 0)) (fun b => [.sl 1 (b.map encU)]) (fun b => b.length ≤ 1048576 ∧ ∀ z ∈ b, 0 ≤ z ∧ z ≤ 255) (fun _ b => .tup [.agg [.sl 3 ((drA b).1.map encNode), .sl 1 ((drA b).2.map encI)], .agg [.sl 3 ((drB b).1.map encNode), .sl 1 ((drB b).2.map encI)]]) (fun _ _ => [])
theorem allV_Node (L : List Node) : allV (L.map encNode) := allV_map (fun x c hc => by
  simp only [encNode, List.mem_cons, List.not_mem_nil, or_false] at hc
  rcases hc with rfl | rfl | rfl <;> exact ⟨_, rfl⟩) L
theorem allV_I (L : List Int) : allV (L.map encI) := allV_map (fun x c hc => by
  simp only [encI, List.mem_cons, List.not_mem_nil, or_false] at hc
  exact ⟨_, hc⟩) L
theorem cDrawZ : Cn Tryz.prog 13 kDrawZ := Cn.frz cDraw (fun d b id e s rows h => by
    have hm := lk_mem h
    simp only [List.mem_cons, List.not_mem_nil, or_false, Prod.mk.injEq, Ob.sl.injEq] at hm
    rcases hm with ⟨_, _, _, rfl⟩ | ⟨_, _, _, rfl⟩ | ⟨_, _, _, rfl⟩ | ⟨_, _, _, rfl⟩
    · exact allV_Node _
    · exact allV_I _
    · exact allV_Node _
    · exact allV_I _) (fun d b => by simp [SV.up, SV.up2, fz1m, lk])
/-! ## the same -/
def sameP (x y : List Node × List Int) : Bool := profileOk x.1 x.2 && profileOk y.1 y.2 && decide (entriesOf x.1 x.2 = entriesOf y.1 y.2)
def kSameE : Ctr := pur (fun args => (decEntry (aR args 0), decEntry (aR args 1))) (fun x => [.sl 2 (x.1.map encEntry), .sl 2 (x.2.map encEntry)]) (fun x => x.1.length ≤ 4398046511104) (fun _ x => .v (.bool (decide (x.1 = x.2)))) (fun _ _ => [])
section
noncomputable def cxSaE : Cx := { P := Tryz.prog, tys := tys, C := [], hty := tysOk, hC := COk.nil _ }
theorem cxSaE_t : cxSaE.tys = tys := rfl
theorem cxSaE_c : cxSaE.C = [] := rfl
attribute [local go_sem] cxSaE_t cxSaE_c 
theorem cSameE : Cn Tryz.prog 90 kSameE := by
  refine Cn.pur Tryz.func90 (by kernel_rfl) rfl fun d x hx => ?_
  obtain ⟨L, M⟩ := x
  simp only at hx ⊢
  refine Holds.go (c := cxSaE) Tryz.func90 rfl Tryz.results90 Tryz.ntmps90 (by omega) (by simp) rfl ?_
  intro X0 w0
  by_cases hlen : L.length = M.length
  · have hle : (L.length : Int) = M.length := by omega
    (repeat' (first | refine WP.seq ?_ | refine WP.block ?_ | ((first | refine WP.region ?_ | refine WP.condW ?_ | refine WP.ret ?_ | refine WP.exit ?_ | refine WP.skip ?_); simp only [go_sem, hle, tyAll, Nat.reduceAdd, Nat.reduceLT, Nat.reduceLeDiff, Nat.reduceEqDiff, Nat.reduceMul, Nat.reduceSub, Nat.reduceGT, reduceIte, Int.reduceNeg, Int.reduceToNat]) | ((first | refine WP.drawW 9 (by decide +kernel) (by kernel_rfl) ?_); simp only [go_sem, hle, tyAll, Nat.reduceAdd, Nat.reduceLT, Nat.reduceLeDiff, Nat.reduceEqDiff, Nat.reduceMul, Nat.reduceSub, Nat.reduceGT, reduceIte, Int.reduceNeg, Int.reduceToNat]) |  refine And.intro ?_ ?_ | intro _))
    all_goals first | omega | skip
    refine WP.loop (fun k : Nat => ⟨[(0, .sl 2 (L.map encEntry)), (1, .sl 2 (M.map encEntry)), (5, .v (.int .i64 k))], []⟩) (fun k => k ≤ L.length ∧ L.take k = M.take k) (fun k => L.length - k) 0 (by simp) ?_ ?_
    · (simp only [go_sem, tyAll, Nat.reduceAdd, Nat.reduceLT, Nat.reduceLeDiff, Nat.reduceEqDiff, Nat.reduceMul, Nat.reduceSub, Nat.reduceGT, reduceIte, Int.reduceNeg, Int.reduceToNat] <;> (first | rfl | exact ⟨rfl, rfl⟩ | exact ⟨rfl, rfl, rfl⟩ | exact ⟨rfl, rfl, rfl, rfl⟩ | exact ⟨rfl, rfl, rfl, rfl, rfl⟩ | exact ⟨⟨rfl, rfl⟩, rfl⟩ | simp))
    intro k ⟨hk, hf⟩
    by_cases hlt : k < L.length
    · have hli : (k : Int) < L.length := by omega
      have hlm : (k : Int) < M.length := by omega
      have hltM : k < M.length := by omega
      have h1 := rowAt_map encEntry L k hlt
      have h2 := rowAt_map encEntry M k hltM
      have hnx : L[k] = M[k] → L.take (k + 1) = M.take (k + 1) := fun he => by
        rw [List.take_succ_eq_append_getElem hlt, List.take_succ_eq_append_getElem hltM, hf, he]
      have hno : ¬ L[k] = M[k] → ¬ L = M := fun hn he => hn (by subst he; rfl)
      have hex : L[k].stack = M[k].stack → L[k].count = M[k].count → L[k] = M[k] := fun e1 e2 => by
        generalize L[k] = x at *
        generalize M[k] = y at *
        obtain ⟨x1, x2⟩ := x
        obtain ⟨y1, y2⟩ := y
        simp only at e1 e2
        rw [e1, e2]
      by_cases e1 : L[k].stack = M[k].stack
      · by_cases e2 : L[k].count = M[k].count
        · have := hnx (hex e1 e2)
          (repeat' (first | refine WP.seq ?_ | refine WP.block ?_ | ((first | refine WP.region ?_ | refine WP.condW ?_ | refine WP.ret ?_ | refine WP.exit ?_ | refine WP.skip ?_); simp only [go_sem, hli, hlm, hle, h1, h2, encEntry, e1, e2, tyAll, Nat.reduceAdd, Nat.reduceLT, Nat.reduceLeDiff, Nat.reduceEqDiff, Nat.reduceMul, Nat.reduceSub, Nat.reduceGT, reduceIte, Int.reduceNeg, Int.reduceToNat]) | ((first | refine WP.drawW 9 (by decide +kernel) (by kernel_rfl) ?_); simp only [go_sem, hli, hlm, hle, h1, h2, encEntry, e1, e2, tyAll, Nat.reduceAdd, Nat.reduceLT, Nat.reduceLeDiff, Nat.reduceEqDiff, Nat.reduceMul, Nat.reduceSub, Nat.reduceGT, reduceIte, Int.reduceNeg, Int.reduceToNat]) |  refine And.intro ?_ ?_ | intro _))
          all_goals first | omega | exact ⟨k + 1, ⟨by omega, this⟩, by omega, by (first | rfl | exact ⟨rfl, rfl⟩ | exact ⟨rfl, rfl, rfl⟩ | exact ⟨rfl, rfl, rfl, rfl⟩ | exact ⟨rfl, rfl, rfl, rfl, rfl⟩ | exact ⟨⟨rfl, rfl⟩, rfl⟩ | simp)⟩ | skip
          all_goals trace_state
        · have hn := hno fun h => e2 (by rw [h])
          (repeat' (first | refine WP.seq ?_ | refine WP.block ?_ | ((first | refine WP.region ?_ | refine WP.condW ?_ | refine WP.ret ?_ | refine WP.exit ?_ | refine WP.skip ?_); simp only [go_sem, hli, hlm, hle, h1, h2, encEntry, e1, e2, tyAll, Nat.reduceAdd, Nat.reduceLT, Nat.reduceLeDiff, Nat.reduceEqDiff, Nat.reduceMul, Nat.reduceSub, Nat.reduceGT, reduceIte, Int.reduceNeg, Int.reduceToNat]) | ((first | refine WP.drawW 9 (by decide +kernel) (by kernel_rfl) ?_); simp only [go_sem, hli, hlm, hle, h1, h2, encEntry, e1, e2, tyAll, Nat.reduceAdd, Nat.reduceLT, Nat.reduceLeDiff, Nat.reduceEqDiff, Nat.reduceMul, Nat.reduceSub, Nat.reduceGT, reduceIte, Int.reduceNeg, Int.reduceToNat]) |  refine And.intro ?_ ?_ | intro _))
          all_goals first | omega | (rw [decide_eq_false hn]) | skip
          all_goals trace_state
      · have hn := hno fun h => e1 (by rw [h])
        (repeat' (first | refine WP.seq ?_ | refine WP.block ?_ | ((first | refine WP.region ?_ | refine WP.condW ?_ | refine WP.ret ?_ | refine WP.exit ?_ | refine WP.skip ?_); simp only [go_sem, hli, hlm, hle, h1, h2, encEntry, e1, tyAll, Nat.reduceAdd, Nat.reduceLT, Nat.reduceLeDiff, Nat.reduceEqDiff, Nat.reduceMul, Nat.reduceSub, Nat.reduceGT, reduceIte, Int.reduceNeg, Int.reduceToNat]) | ((first | refine WP.drawW 9 (by decide +kernel) (by kernel_rfl) ?_); simp only [go_sem, hli, hlm, hle, h1, h2, encEntry, e1, tyAll, Nat.reduceAdd, Nat.reduceLT, Nat.reduceLeDiff, Nat.reduceEqDiff, Nat.reduceMul, Nat.reduceSub, Nat.reduceGT, reduceIte, Int.reduceNeg, Int.reduceToNat]) |  refine And.intro ?_ ?_ | intro _))
        all_goals first | omega | (rw [decide_eq_false hn]) | skip
        all_goals trace_state
    · have hge : ¬ (k : Int) < L.length := by omega
      have hke : k = L.length := by omega
      have he : L = M := by
        rw [hke, List.take_length, hlen, List.take_length] at hf
        exact hf
      (repeat' (first | refine WP.seq ?_ | refine WP.block ?_ | ((first | refine WP.region ?_ | refine WP.condW ?_ | refine WP.ret ?_ | refine WP.exit ?_ | refine WP.skip ?_); simp only [go_sem, hge, tyAll, Nat.reduceAdd, Nat.reduceLT, Nat.reduceLeDiff, Nat.reduceEqDiff, Nat.reduceMul, Nat.reduceSub, Nat.reduceGT, reduceIte, Int.reduceNeg, Int.reduceToNat]) | ((first | refine WP.drawW 9 (by decide +kernel) (by kernel_rfl) ?_); simp only [go_sem, hge, tyAll, Nat.reduceAdd, Nat.reduceLT, Nat.reduceLeDiff, Nat.reduceEqDiff, Nat.reduceMul, Nat.reduceSub, Nat.reduceGT, reduceIte, Int.reduceNeg, Int.reduceToNat]) |  refine And.intro ?_ ?_ | intro _))
      all_goals first | omega | (rw [decide_eq_true he]) | skip
      all_goals trace_state
  · have hn : ¬ L = M := fun h => hlen (by rw [h])
    have hle : ¬ (L.length : Int) = M.length := by omega
    (repeat' (first | refine WP.seq ?_ | refine WP.block ?_ | ((first | refine WP.region ?_ | refine WP.condW ?_ | refine WP.ret ?_ | refine WP.exit ?_ | refine WP.skip ?_); simp only [go_sem, hle, tyAll, Nat.reduceAdd, Nat.reduceLT, Nat.reduceLeDiff, Nat.reduceEqDiff, Nat.reduceMul, Nat.reduceSub, Nat.reduceGT, reduceIte, Int.reduceNeg, Int.reduceToNat]) | ((first | refine WP.drawW 9 (by decide +kernel) (by kernel_rfl) ?_); simp only [go_sem, hle, tyAll, Nat.reduceAdd, Nat.reduceLT, Nat.reduceLeDiff, Nat.reduceEqDiff, Nat.reduceMul, Nat.reduceSub, Nat.reduceGT, reduceIte, Int.reduceNeg, Int.reduceToNat]) |  refine And.intro ?_ ?_ | intro _))
    all_goals first | omega | (rw [decide_eq_false hn]) | skip
    all_goals trace_state
end
def kSame : Ctr := pur (fun args => (prA args 0, prA args 1)) (fun x => [.agg [.sl 3 (x.1.1.map encNode), .sl 1 (x.1.2.map encI)], .agg [.sl 3 (x.2.1.map encNode), .sl 1 (x.2.2.map encI)]]) (fun x => wfQ x.1 ∧ wfQ x.2)
  (fun _ x => .v (.bool (sameP x.1 x.2))) (fun _ _ => [])
section
noncomputable def cxSaP : Cx := { P := Tryz.prog, tys := tys, C := [(63, kPrOk), (35, kEntZ), (90, kSameE)], hty := tysOk, hC := COk.cons cPrOkS (COk.cons cEntZS (COk.cons cSameE (COk.nil _))) }
theorem cxSaP_t : cxSaP.tys = tys := rfl
theorem cxSaP_c : cxSaP.C = [(63, kPrOk), (35, kEntZ), (90, kSameE)] := rfl
attribute [local go_sem] cxSaP_t cxSaP_c kPrOk kEntZ kSameE
theorem cSame : Cn Tryz.prog 36 kSame := by
  refine Cn.pur Tryz.func36 (by kernel_rfl) rfl fun d x hx => ?_
  obtain ⟨⟨N, C⟩, ⟨M, D⟩⟩ := x
  obtain ⟨⟨⟨h1, h2⟩, h3⟩, ⟨⟨h4, h5⟩, h6⟩⟩ := hx
  simp only at h1 h2 h3 h4 h5 h6 ⊢
  have l1 := entriesOf_len N C
  refine Holds.go (c := cxSaP) Tryz.func36 rfl Tryz.results36 Tryz.ntmps36 (by omega) (by simp) rfl ?_
  intro X0 w0
  cases hp : profileOk N C <;> cases hq : profileOk M D
  all_goals
    (repeat' (first | refine WP.seq ?_ | refine WP.block ?_ | ((first | refine WP.region ?_ | refine WP.condW ?_ | refine WP.ret ?_ | refine WP.exit ?_ | refine WP.skip ?_); simp only [go_sem, sameP, hp, hq, tyAll, Nat.reduceAdd, Nat.reduceLT, Nat.reduceLeDiff, Nat.reduceEqDiff, Nat.reduceMul, Nat.reduceSub, Nat.reduceGT, reduceIte, Int.reduceNeg, Int.reduceToNat]) | ((first | refine WP.drawW 13 (by decide +kernel) (by kernel_rfl) ?_); simp only [go_sem, sameP, hp, hq, tyAll, Nat.reduceAdd, Nat.reduceLT, Nat.reduceLeDiff, Nat.reduceEqDiff, Nat.reduceMul, Nat.reduceSub, Nat.reduceGT, reduceIte, Int.reduceNeg, Int.reduceToNat]) |  refine And.intro ?_ ?_ | intro _))
    all_goals first | omega | (simp only; omega) | exact Nat.le_trans (h2 _ ‹_›) (by omega) | exact Nat.le_trans (h5 _ ‹_›) (by omega) | rfl | (simp only [sameP, hp, hq]; rfl) | skip
    all_goals trace_state
end
end
end Go.Proofs.YtklcphbgaeiegaaGreatDoor
