/-
  DERIVED. Several texts of ours in one: VtNames.
-/
import Derived.Test.YtolnapfgfdgifaaGreatDoorVo0
import Derived.Test.YtolnapfgfdgifaaGreatDoorVo1
import Derived.Test.YtolnapfgfdgifaaGreatDoorVo2
import Derived.Test.YtolnapfgfdgifaaGreatDoorVo3
import Derived.Test.YtolnapfgfdgifaaGreatDoorVo4
import Derived.Test.YtolnapfgfdgifaaGreatDoorVo5
import Derived.Test.YtolnapfgfdgifaaGreatDoorVo6
import Derived.Test.YtolnapfgfdgifaaGreatDoorVo7
import Derived.Test.YtolnapfgfdgifaaGreatDoorVo8
import Derived.Test.YtolnapfgfdgifaaGreatDoorVo9
import Derived.Test.YtolnapfgfdgifaaGreatDoorVo10
set_option linter.unusedSimpArgs false
set_option linter.unusedVariables false
/-
  DERIVED. The names of a stack's frames; where a text stands among texts.
-/
namespace Go.Proofs.YtolnapfgfdgifaaGreatDoor
open Go.Vc
set_option linter.unusedSimpArgs false
set_option linter.unusedVariables false
set_option maxHeartbeats 1000000
set_option maxRecDepth 10000
attribute [local go_sem] St.runR St.runW St.stepV offV St.step St.stepU St.stepG mkCond guardB St.prK St.pr St.prLen St.eff St.callE St.callD St.callF St.callL aI aB aS aR aC St.isM St.argL Ctr.pure Ctr.lend Ctr.move Ctr.isL Ctr.wri pur len lentBy St.lentV St.lent1 nthS argsR restOf obsR pairs swapL unObs backL St.resL erL SV.ren1 SV.up SV.up2 Ob.up St.fzL cellIds partIds St.intoRow SV.ownId St.fz SV.fz1 St.prep St.mvL St.mv SV.re1 rnOk St.prEq vals eqCells scEq Value.kd St.prStr St.prCut cutR St.bnd St.prMin St.bld isShift outL retL outJ oR oC St.ev St.get St.put St.new St.kill SV.kill SV.kill1 Ob.kill St.app St.wrt St.rowsOf St.res St.killL lk er argsL SV.strip SV.need SV.share SV.share1 SV.owns SV.owns1 SV.owns2 SV.good SV.good1 SV.rok SV.rok1 SV.rok2 SV.isV SV.isV2 nodupN SV.cells SV.one SV.pur partsIn rowsIn splice cellsAt dstOk scal2 scal1 thenK blockK retK outK outs okC okL okA okT nilC nilL nilA nilT keepC keepL keepA keepT St.runG St.dltK St.least St.clean St.final St.hide offK badS badO SV.refs SV.leaf SV.leaf2 Ob.refs dlOk fpAt Go.Vc.cover tups SV.ofAgg St.out outC subL St.has rng wr Value.oneCell' Option.isSome_some Option.isSome_none List.nil_append Bool.false_eq_true List.map_cons List.map_nil List.all_cons List.all_nil List.length_cons List.length_nil List.drop_zero List.drop_succ_cons List.take_succ_cons List.take_zero List.drop_nil List.take_nil List.getElem?_cons_zero List.getElem?_cons_succ List.getElem?_nil List.cons_append List.nil_append List.append_nil List.append_assoc List.flatMap_cons List.flatMap_nil List.contains_cons List.contains_nil List.set_cons_zero List.set_cons_succ List.getElem?_toArray Option.getD_some Option.getD_none Option.map_some Option.map_none Option.bind_some Option.some.injEq Prod.mk.injEq if_true if_false true_and and_true and_self and_false false_and Bool.and_false Bool.false_and Bool.or_true Bool.true_or Bool.or_false Bool.false_or ne_eq not_true_eq_false not_false_eq_true decide_true decide_false List.mem_cons List.not_mem_nil List.filter_cons List.filter_nil List.any_cons List.any_nil List.isEmpty_nil List.isEmpty_cons Option.getD_none or_false false_or true_or or_true forall_eq_or_imp forall_eq reduceCtorEq exists_eq exists_eq' exists_eq_left' exists_eq_left exists_eq_right exists_eq_right' imp_self implies_true Bool.and_true Bool.true_and Bool.and_self beq_self_eq_true List.replicate_succ List.replicate_zero forall_const false_implies pickB_or pickB_and beqT beqF Int.toNat_natCast List.length_map List.length_replicate ge_iff_le gt_iff_lt decide_eq_true_eq decide_eq_false_iff_not Bool.and_eq_true Bool.or_eq_true Bool.not_eq_true' Bool.not_eq_false' condG List.toList_toArray Bool.or_eq_false_iff Bool.and_eq_false_iff Int.not_lt Int.not_le beq_iff_eq beq_eq_false_iff_ne bne_iff_ne bne_eq_false_iff_eq ne_eq Bool.not_true Bool.not_false exists_and_left
attribute [local irreducible] Go.Vc.WP
attribute [local go_sem] cx0_t cx0_c
attribute [local go_sem] isV_Node isV_It isV_Entry isV_S decNode_enc decFrame_enc oneFrame_enc stkA oneFrame_ab oneNode_abc decI_enc decS_enc aU prA decEntry_enc St.fzS addL behind
theorem allV_S (L : List ByteArray) : allV (L.map encS) := allV_map (fun x c hc => by
  simp only [encS, List.mem_cons, List.not_mem_nil, or_false] at hc
  exact ⟨_, hc⟩) L
def frsS (s : ByteArray) : List Frame := (parseF s).getD []
theorem frsS_len {s : ByteArray} (h : s.size ≤ 2147483648) : (frsS s).length ≤ 536870912 := by
  unfold frsS
  cases hp : parseF s with
  | none => simp
  | some f => have := (parseF_small hp).1; simp only [Option.getD_some]; omega
def kNames : Ctr := pur (fun args => aS args 0) (fun s => [.v (.string s)]) (fun s => s.size ≤ 2147483648) (fun d _ => .own d) (fun d s => [(d, .sl 9 1 (((frsS s).map (·.name)).map encS))])
theorem nm_succ {F : List Frame} {k : Nat} (h : k < F.length) : ((F.take (k + 1)).map (·.name)).map encS = ((F.take k).map (·.name)).map encS ++ [[SV.v (.string F[k].name)]] := by
  rw [mp_succ (·.name) h, List.map_append]; rfl
section
noncomputable def cxNaI : Cx := { P := Tryz.prog, tys := tys, C := [(55, kParseZ)], hty := tysOk, hC := COk.cons cParseZI (COk.nil _) }
theorem cxNaI_t : cxNaI.tys = tys := rfl
theorem cxNaI_c : cxNaI.C = [(55, kParseZ)] := rfl
attribute [local go_sem] cxNaI_t cxNaI_c kParseZ
theorem cNamesI0 : Cn Tryz.prog 71 kNames := by
  refine Cn.pur Tryz.func71 (by kernel_rfl) rfl fun d x hx => ?_
  rename ByteArray => s
  have hfl := frsS_len hx
  have hfr : (parseF s).getD [] = frsS s := rfl
  refine Holds.go (c := cxNaI) Tryz.func71 rfl Tryz.results71 Tryz.ntmps71 (by omega) (by simp) rfl ?_
  intro X0 w0
  (repeat' (first | refine WP.seq ?_ | refine WP.block ?_ | ((first | refine WP.region ?_ | refine WP.condW ?_ | refine WP.ret ?_ | refine WP.exit ?_ | refine WP.skip ?_); simp only [go_sem, hfr, tyAll, Nat.reduceAdd, Nat.reduceLT, Nat.reduceLeDiff, Nat.reduceEqDiff, Nat.reduceMul, Nat.reduceSub, Nat.reduceGT, reduceIte, Int.reduceNeg, Int.reduceToNat]) |  refine And.intro ?_ ?_ | intro _))
  all_goals first | omega | skip
  generalize frsS s = F at hfl ⊢
  refine WP.loop (fun k : Nat => ⟨[(5, .own 13), (14, .sl 2 (F.map encFrame)), (15, .v (.int .i64 F.length)), (16, .v (.int .i64 k))], [(13, .sl 9 1 (((F.take k).map (·.name)).map encS))]⟩) (fun k => k ≤ F.length) (fun k => F.length - k) 0 (by simp) ?_ ?_
  · (simp only [go_sem, tyAll, Nat.reduceAdd, Nat.reduceLT, Nat.reduceLeDiff, Nat.reduceEqDiff, Nat.reduceMul, Nat.reduceSub, Nat.reduceGT, reduceIte, Int.reduceNeg, Int.reduceToNat] <;> (first | rfl | exact ⟨rfl, rfl⟩ | exact ⟨rfl, rfl, rfl⟩ | exact ⟨rfl, rfl, rfl, rfl⟩ | exact ⟨rfl, rfl, rfl, rfl, rfl⟩ | exact ⟨⟨rfl, rfl⟩, rfl⟩ | simp))
  intro k hk
  by_cases hlt : k < F.length
  · have hli : (k : Int) < F.length := by omega
    have h1 := rowAt_map encFrame F k hlt
    have hsu := nm_succ hlt
    (repeat' (first | refine WP.seq ?_ | refine WP.block ?_ | ((first | refine WP.region ?_ | refine WP.condW ?_ | refine WP.ret ?_ | refine WP.exit ?_ | refine WP.skip ?_); simp only [go_sem, hli, h1, encFrame, tyAll, Nat.reduceAdd, Nat.reduceLT, Nat.reduceLeDiff, Nat.reduceEqDiff, Nat.reduceMul, Nat.reduceSub, Nat.reduceGT, reduceIte, Int.reduceNeg, Int.reduceToNat]) |  refine And.intro ?_ ?_ | intro _))
    all_goals first | omega | exact ⟨_, _, _, rfl⟩ | (simp only [List.length_map, List.length_take]; omega) | skip
    all_goals first | exact ⟨k + 1, by omega, by omega, by simp only [hsu]; (first | rfl | exact ⟨rfl, rfl⟩ | exact ⟨rfl, rfl, rfl⟩ | exact ⟨rfl, rfl, rfl, rfl⟩ | exact ⟨rfl, rfl, rfl, rfl, rfl⟩ | exact ⟨⟨rfl, rfl⟩, rfl⟩ | simp)⟩ | trace_state
  · have hge : ¬ (k : Int) < F.length := by omega
    have hke : k = F.length := by omega
    subst hke
    rw [List.take_length]
    (repeat' (first | refine WP.seq ?_ | refine WP.block ?_ | ((first | refine WP.region ?_ | refine WP.condW ?_ | refine WP.ret ?_ | refine WP.exit ?_ | refine WP.skip ?_); simp only [go_sem, hge, tyAll, Nat.reduceAdd, Nat.reduceLT, Nat.reduceLeDiff, Nat.reduceEqDiff, Nat.reduceMul, Nat.reduceSub, Nat.reduceGT, reduceIte, Int.reduceNeg, Int.reduceToNat]) |  refine And.intro ?_ ?_ | intro _))
    all_goals first | omega | skip
    all_goals trace_state
end
section
noncomputable def cxNaS : Cx := { P := Tryz.prog, tys := tys, C := [(49, kParseZ)], hty := tysOk, hC := COk.cons cParseZS (COk.nil _) }
theorem cxNaS_t : cxNaS.tys = tys := rfl
theorem cxNaS_c : cxNaS.C = [(49, kParseZ)] := rfl
attribute [local go_sem] cxNaS_t cxNaS_c kParseZ
theorem cNamesS0 : Cn Tryz.prog 68 kNames := by
  refine Cn.pur Tryz.func68 (by kernel_rfl) rfl fun d x hx => ?_
  rename ByteArray => s
  have hfl := frsS_len hx
  have hfr : (parseF s).getD [] = frsS s := rfl
  refine Holds.go (c := cxNaS) Tryz.func68 rfl Tryz.results68 Tryz.ntmps68 (by omega) (by simp) rfl ?_
  intro X0 w0
  (repeat' (first | refine WP.seq ?_ | refine WP.block ?_ | ((first | refine WP.region ?_ | refine WP.condW ?_ | refine WP.ret ?_ | refine WP.exit ?_ | refine WP.skip ?_); simp only [go_sem, hfr, tyAll, Nat.reduceAdd, Nat.reduceLT, Nat.reduceLeDiff, Nat.reduceEqDiff, Nat.reduceMul, Nat.reduceSub, Nat.reduceGT, reduceIte, Int.reduceNeg, Int.reduceToNat]) |  refine And.intro ?_ ?_ | intro _))
  all_goals first | omega | skip
  generalize frsS s = F at hfl ⊢
  refine WP.loop (fun k : Nat => ⟨[(3, .own 7), (4, .sl 2 (F.map encFrame)), (6, .v (.int .i64 k))], [(7, .sl 9 1 (((F.take k).map (·.name)).map encS))]⟩) (fun k => k ≤ F.length) (fun k => F.length - k) 0 (by simp) ?_ ?_
  · (simp only [go_sem, tyAll, Nat.reduceAdd, Nat.reduceLT, Nat.reduceLeDiff, Nat.reduceEqDiff, Nat.reduceMul, Nat.reduceSub, Nat.reduceGT, reduceIte, Int.reduceNeg, Int.reduceToNat] <;> (first | rfl | exact ⟨rfl, rfl⟩ | exact ⟨rfl, rfl, rfl⟩ | exact ⟨rfl, rfl, rfl, rfl⟩ | exact ⟨rfl, rfl, rfl, rfl, rfl⟩ | exact ⟨⟨rfl, rfl⟩, rfl⟩ | simp))
  intro k hk
  by_cases hlt : k < F.length
  · have hli : (k : Int) < F.length := by omega
    have h1 := rowAt_map encFrame F k hlt
    have hsu := nm_succ hlt
    (repeat' (first | refine WP.seq ?_ | refine WP.block ?_ | ((first | refine WP.region ?_ | refine WP.condW ?_ | refine WP.ret ?_ | refine WP.exit ?_ | refine WP.skip ?_); simp only [go_sem, hli, h1, encFrame, tyAll, Nat.reduceAdd, Nat.reduceLT, Nat.reduceLeDiff, Nat.reduceEqDiff, Nat.reduceMul, Nat.reduceSub, Nat.reduceGT, reduceIte, Int.reduceNeg, Int.reduceToNat]) |  refine And.intro ?_ ?_ | intro _))
    all_goals first | omega | exact ⟨_, _, _, rfl⟩ | (simp only [List.length_map, List.length_take]; omega) | skip
    all_goals first | exact ⟨k + 1, by omega, by omega, by simp only [hsu]; (first | rfl | exact ⟨rfl, rfl⟩ | exact ⟨rfl, rfl, rfl⟩ | exact ⟨rfl, rfl, rfl, rfl⟩ | exact ⟨rfl, rfl, rfl, rfl, rfl⟩ | exact ⟨⟨rfl, rfl⟩, rfl⟩ | simp)⟩ | trace_state
  · have hge : ¬ (k : Int) < F.length := by omega
    have hke : k = F.length := by omega
    subst hke
    rw [List.take_length]
    (repeat' (first | refine WP.seq ?_ | refine WP.block ?_ | ((first | refine WP.region ?_ | refine WP.condW ?_ | refine WP.ret ?_ | refine WP.exit ?_ | refine WP.skip ?_); simp only [go_sem, hge, tyAll, Nat.reduceAdd, Nat.reduceLT, Nat.reduceLeDiff, Nat.reduceEqDiff, Nat.reduceMul, Nat.reduceSub, Nat.reduceGT, reduceIte, Int.reduceNeg, Int.reduceToNat]) |  refine And.intro ?_ ?_ | intro _))
    all_goals first | omega | skip
    all_goals trace_state
end
def kNamesZ : Ctr := pur (fun args => aS args 0) (fun s => [.v (.string s)]) (fun s => s.size ≤ 2147483648) (fun _ s => .sl 1 (((frsS s).map (·.name)).map encS)) (fun _ _ => [])
theorem cNamesI : Cn Tryz.prog 71 kNamesZ := Cn.frozen (fun s => allV_S _) cNamesI0
theorem cNamesS : Cn Tryz.prog 68 kNamesZ := Cn.frozen (fun s => allV_S _) cNamesS0
/-! ## where a text stands -/
def strIs (s : ByteArray) (x : ByteArray) : Bool := decide (x = s)
def kIdxS : Ctr := pur (fun args => (decS (aR args 0), aS args 1)) (fun x => [.sl 1 (x.1.map encS), .v (.string x.2)]) (fun x => x.1.length ≤ 4398046511104) (fun _ x => .v (.int .i64 (firstIdx (strIs x.2) x.1))) (fun _ _ => [])
section
noncomputable def cxIsS : Cx := { P := Tryz.prog, tys := tys, C := [], hty := tysOk, hC := COk.nil _ }
theorem cxIsS_t : cxIsS.tys = tys := rfl
theorem cxIsS_c : cxIsS.C = [] := rfl
attribute [local go_sem] cxIsS_t cxIsS_c 
theorem cIdxSI : Cn Tryz.prog 112 kIdxS := by
  refine Cn.pur Tryz.func112 (by kernel_rfl) rfl fun d x hx => ?_
  obtain ⟨L, s⟩ := x
  simp only at hx ⊢
  refine Holds.go (c := cxIsS) Tryz.func112 rfl Tryz.results112 Tryz.ntmps112 (by omega) (by simp) rfl ?_
  intro X0 w0
  (repeat' (first | refine WP.seq ?_ | refine WP.block ?_ | ((first | refine WP.region ?_ | refine WP.condW ?_ | refine WP.ret ?_ | refine WP.exit ?_ | refine WP.skip ?_); simp only [go_sem, tyAll, Nat.reduceAdd, Nat.reduceLT, Nat.reduceLeDiff, Nat.reduceEqDiff, Nat.reduceMul, Nat.reduceSub, Nat.reduceGT, reduceIte, Int.reduceNeg, Int.reduceToNat]) |  refine And.intro ?_ ?_ | intro _))
  all_goals first | omega | skip
  refine WP.loop (fun k : Nat => ⟨[(0, .sl 1 (L.map encS)), (1, .v (.string s)), (7, .v (.int .i64 L.length)), (8, .v (.int .i64 k))], []⟩) (fun k => k ≤ L.length ∧ ∀ i (hi : i < L.length), i < k → strIs s L[i] = false) (fun k => L.length - k) 0 (by simp) ?_ ?_
  · (simp only [go_sem, tyAll, Nat.reduceAdd, Nat.reduceLT, Nat.reduceLeDiff, Nat.reduceEqDiff, Nat.reduceMul, Nat.reduceSub, Nat.reduceGT, reduceIte, Int.reduceNeg, Int.reduceToNat] <;> (first | rfl | exact ⟨rfl, rfl⟩ | exact ⟨rfl, rfl, rfl⟩ | exact ⟨rfl, rfl, rfl, rfl⟩ | exact ⟨rfl, rfl, rfl, rfl, rfl⟩ | exact ⟨⟨rfl, rfl⟩, rfl⟩ | simp))
  intro k ⟨hk, hf⟩
  by_cases hlt : k < L.length
  · have hli : (k : Int) < L.length := by omega
    have h1 := rowAt_map encS L k hlt
    (repeat' (first | refine WP.seq ?_ | refine WP.block ?_ | ((first | refine WP.region ?_ | refine WP.condW ?_ | refine WP.ret ?_ | refine WP.exit ?_ | refine WP.skip ?_); simp only [go_sem, hli, h1, encS, tyAll, Nat.reduceAdd, Nat.reduceLT, Nat.reduceLeDiff, Nat.reduceEqDiff, Nat.reduceMul, Nat.reduceSub, Nat.reduceGT, reduceIte, Int.reduceNeg, Int.reduceToNat]) |  refine And.intro ?_ ?_ | intro _))
    all_goals first | omega | skip
    · rename_i he
      rw [show firstIdx (strIs s) L = k from firstIdx_hit hlt hf (by simp [strIs, he])]
    · rename_i hne
      refine ⟨k + 1, ⟨by omega, fun i hi hik => ?_⟩, by omega, by (first | rfl | exact ⟨rfl, rfl⟩ | exact ⟨rfl, rfl, rfl⟩ | exact ⟨rfl, rfl, rfl, rfl⟩ | exact ⟨rfl, rfl, rfl, rfl, rfl⟩ | exact ⟨⟨rfl, rfl⟩, rfl⟩ | simp)⟩
      rcases Nat.lt_or_ge i k with h | h
      · exact hf i hi h
      · have : i = k := by omega
        subst this
        first | (simp [strIs, hne]; done) | (simp only [strIs, decide_eq_false_iff_not]; exact fun e => hne e.symm)
  · have hge : ¬ (k : Int) < L.length := by omega
    (repeat' (first | refine WP.seq ?_ | refine WP.block ?_ | ((first | refine WP.region ?_ | refine WP.condW ?_ | refine WP.ret ?_ | refine WP.exit ?_ | refine WP.skip ?_); simp only [go_sem, hge, tyAll, Nat.reduceAdd, Nat.reduceLT, Nat.reduceLeDiff, Nat.reduceEqDiff, Nat.reduceMul, Nat.reduceSub, Nat.reduceGT, reduceIte, Int.reduceNeg, Int.reduceToNat]) |  refine And.intro ?_ ?_ | intro _))
    all_goals first | omega | skip
    rw [show firstIdx (strIs s) L = -1 from firstIdx_none fun i hi => hf i hi (by omega)]
theorem cIdxSS : Cn Tryz.prog 70 kIdxS := by
  refine Cn.pur Tryz.func70 (by kernel_rfl) rfl fun d x hx => ?_
  obtain ⟨L, s⟩ := x
  simp only at hx ⊢
  refine Holds.go (c := cxIsS) Tryz.func70 rfl Tryz.results70 Tryz.ntmps70 (by omega) (by simp) rfl ?_
  intro X0 w0
  (repeat' (first | refine WP.seq ?_ | refine WP.block ?_ | ((first | refine WP.region ?_ | refine WP.condW ?_ | refine WP.ret ?_ | refine WP.exit ?_ | refine WP.skip ?_); simp only [go_sem, tyAll, Nat.reduceAdd, Nat.reduceLT, Nat.reduceLeDiff, Nat.reduceEqDiff, Nat.reduceMul, Nat.reduceSub, Nat.reduceGT, reduceIte, Int.reduceNeg, Int.reduceToNat]) |  refine And.intro ?_ ?_ | intro _))
  all_goals first | omega | skip
  refine WP.loop (fun k : Nat => ⟨[(0, .sl 1 (L.map encS)), (1, .v (.string s)), (5, .v (.int .i64 k))], []⟩) (fun k => k ≤ L.length ∧ ∀ i (hi : i < L.length), i < k → strIs s L[i] = false) (fun k => L.length - k) 0 (by simp) ?_ ?_
  · (simp only [go_sem, tyAll, Nat.reduceAdd, Nat.reduceLT, Nat.reduceLeDiff, Nat.reduceEqDiff, Nat.reduceMul, Nat.reduceSub, Nat.reduceGT, reduceIte, Int.reduceNeg, Int.reduceToNat] <;> (first | rfl | exact ⟨rfl, rfl⟩ | exact ⟨rfl, rfl, rfl⟩ | exact ⟨rfl, rfl, rfl, rfl⟩ | exact ⟨rfl, rfl, rfl, rfl, rfl⟩ | exact ⟨⟨rfl, rfl⟩, rfl⟩ | simp))
  intro k ⟨hk, hf⟩
  by_cases hlt : k < L.length
  · have hli : (k : Int) < L.length := by omega
    have h1 := rowAt_map encS L k hlt
    (repeat' (first | refine WP.seq ?_ | refine WP.block ?_ | ((first | refine WP.region ?_ | refine WP.condW ?_ | refine WP.ret ?_ | refine WP.exit ?_ | refine WP.skip ?_); simp only [go_sem, hli, h1, encS, tyAll, Nat.reduceAdd, Nat.reduceLT, Nat.reduceLeDiff, Nat.reduceEqDiff, Nat.reduceMul, Nat.reduceSub, Nat.reduceGT, reduceIte, Int.reduceNeg, Int.reduceToNat]) |  refine And.intro ?_ ?_ | intro _))
    all_goals first | omega | skip
    · rename_i he
      rw [show firstIdx (strIs s) L = k from firstIdx_hit hlt hf (by simp [strIs, he])]
    · rename_i hne
      refine ⟨k + 1, ⟨by omega, fun i hi hik => ?_⟩, by omega, by (first | rfl | exact ⟨rfl, rfl⟩ | exact ⟨rfl, rfl, rfl⟩ | exact ⟨rfl, rfl, rfl, rfl⟩ | exact ⟨rfl, rfl, rfl, rfl, rfl⟩ | exact ⟨⟨rfl, rfl⟩, rfl⟩ | simp)⟩
      rcases Nat.lt_or_ge i k with h | h
      · exact hf i hi h
      · have : i = k := by omega
        subst this
        first | (simp [strIs, hne]; done) | (simp only [strIs, decide_eq_false_iff_not]; exact fun e => hne e.symm)
  · have hge : ¬ (k : Int) < L.length := by omega
    (repeat' (first | refine WP.seq ?_ | refine WP.block ?_ | ((first | refine WP.region ?_ | refine WP.condW ?_ | refine WP.ret ?_ | refine WP.exit ?_ | refine WP.skip ?_); simp only [go_sem, hge, tyAll, Nat.reduceAdd, Nat.reduceLT, Nat.reduceLeDiff, Nat.reduceEqDiff, Nat.reduceMul, Nat.reduceSub, Nat.reduceGT, reduceIte, Int.reduceNeg, Int.reduceToNat]) |  refine And.intro ?_ ?_ | intro _))
    all_goals first | omega | skip
    rw [show firstIdx (strIs s) L = -1 from firstIdx_none fun i hi => hf i hi (by omega)]
end
theorem firstIdx_mem {L : List ByteArray} {s : ByteArray} : (0 ≤ firstIdx (strIs s) L) = (s ∈ L) := propext ⟨fun h => by
  obtain ⟨k, hk, _, h2⟩ := firstIdx_pos (p := strIs s) (L := L) (by omega)
  have : L[k] = s := by simpa [strIs] using h2
  rw [← this]; exact List.getElem_mem hk, fun h => by
  rcases Int.lt_or_le (firstIdx (strIs s) L) 0 with hn | hn
  · have := firstIdx_neg hn s h
    simp [strIs] at this
  · exact hn⟩
def kHasS : Ctr := pur (fun args => (decS (aR args 0), aS args 1)) (fun x => [.sl 1 (x.1.map encS), .v (.string x.2)]) (fun x => x.1.length ≤ 4398046511104) (fun _ x => .v (.bool (decide (x.2 ∈ x.1)))) (fun _ _ => [])
section
noncomputable def cxHasS : Cx := { P := Tryz.prog, tys := tys, C := [(112, kIdxS)], hty := tysOk, hC := COk.cons cIdxSI (COk.nil _) }
theorem cxHasS_t : cxHasS.tys = tys := rfl
theorem cxHasS_c : cxHasS.C = [(112, kIdxS)] := rfl
attribute [local go_sem] cxHasS_t cxHasS_c kIdxS
theorem cHasS : Cn Tryz.prog 73 kHasS := by
  refine Cn.pur Tryz.func73 (by kernel_rfl) rfl fun d x hx => ?_
  obtain ⟨L, s⟩ := x
  simp only at hx ⊢
  have hm := firstIdx_mem (L := L) (s := s)
  refine Holds.go (c := cxHasS) Tryz.func73 rfl Tryz.results73 Tryz.ntmps73 (by omega) (by simp) rfl ?_
  intro X0 w0
  (repeat' (first | refine WP.seq ?_ | refine WP.block ?_ | ((first | refine WP.region ?_ | refine WP.condW ?_ | refine WP.ret ?_ | refine WP.exit ?_ | refine WP.skip ?_); simp only [go_sem, hm, tyAll, Nat.reduceAdd, Nat.reduceLT, Nat.reduceLeDiff, Nat.reduceEqDiff, Nat.reduceMul, Nat.reduceSub, Nat.reduceGT, reduceIte, Int.reduceNeg, Int.reduceToNat]) |  refine And.intro ?_ ?_ | intro _))
  all_goals first | omega | skip
  all_goals trace_state
end
end Go.Proofs.YtolnapfgfdgifaaGreatDoor
