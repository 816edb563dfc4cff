/-
  DERIVED. Several texts of ours in one: VtSess, VtSess2, VtSeZ, VtSeZ2, VcFz, VcFw, VtSeT, VtSeT2.
-/
import Derived.Test.YtdbjioanlkilkaaVx0
import Derived.Test.YtdbjioanlkilkaaVx1
import Derived.Test.YtdbjioanlkilkaaVx2
import Derived.Test.YtdbjioanlkilkaaVx3
import Derived.Test.YtdbjioanlkilkaaVx4
import Derived.Test.YtdbjioanlkilkaaVx5
import Derived.Test.YtdbjioanlkilkaaVx6
set_option linter.unusedSimpArgs false
set_option linter.unusedVariables false
namespace Go.Proofs.Ytdbjioanlkilkaa
open Go.Vc
attribute [local go_sem] St.runR St.runW St.stepV offV St.step St.stepU St.stepG mkCond guardB St.prK St.pr St.prLen St.eff St.callE St.callD St.callF St.callL aI aB aS aR aC St.isM St.argL Ctr.pure Ctr.lend Ctr.move Ctr.isL Ctr.wri pur len lentBy St.lentV St.lent1 nthS argsR restOf obsR pairs swapL unObs backL St.resL erL SV.ren1 SV.up SV.up2 Ob.up St.fzL cellIds partIds St.intoRow SV.ownId St.fz SV.fz1 St.prep St.mvL St.mv SV.re1 rnOk St.prEq vals eqCells scEq Value.kd St.prStr St.prCut cutR St.bnd St.prMin St.bld isShift outL retL outJ oR oC St.ev St.get St.put St.new St.kill SV.kill SV.kill1 Ob.kill St.app St.wrt St.rowsOf St.res St.killL lk er argsL SV.strip SV.need SV.share SV.share1 SV.owns SV.owns1 SV.owns2 SV.good SV.good1 SV.rok SV.rok1 SV.rok2 SV.isV SV.isV2 nodupN SV.cells SV.one SV.pur Ob.pb partsIn rowsIn splice cellsAt dstOk scal2 scal1 thenK blockK retK outK outs okC okL okA okT nilC nilL nilA nilT keepC keepL keepA keepT St.runG St.dltK St.least St.clean St.final St.hide offK badS badO SV.refs SV.leaf SV.leaf2 Ob.refs dlOk fpAt Go.Vc.cover tups SV.ofAgg St.out outC subL St.has rng wr Value.oneCell' Option.isSome_some Option.isSome_none List.nil_append Bool.false_eq_true List.map_cons List.map_nil List.all_cons List.all_nil List.length_cons List.length_nil List.drop_zero List.drop_succ_cons List.take_succ_cons List.take_zero List.drop_nil List.take_nil List.getElem?_cons_zero List.getElem?_cons_succ List.getElem?_nil List.cons_append List.nil_append List.append_nil List.append_assoc List.flatMap_cons List.flatMap_nil List.contains_cons List.contains_nil List.set_cons_zero List.set_cons_succ List.getElem?_toArray Option.getD_some Option.getD_none Option.map_some Option.map_none Option.bind_some Option.some.injEq Prod.mk.injEq if_true if_false true_and and_true and_self and_false false_and Bool.and_false Bool.false_and Bool.or_true Bool.true_or Bool.or_false Bool.false_or ne_eq not_true_eq_false not_false_eq_true decide_true decide_false List.mem_cons List.not_mem_nil List.filter_cons List.filter_nil List.any_cons List.any_nil List.isEmpty_nil List.isEmpty_cons Option.getD_none or_false false_or true_or or_true forall_eq_or_imp forall_eq reduceCtorEq exists_eq exists_eq' exists_eq_left' exists_eq_left exists_eq_right exists_eq_right' imp_self implies_true Bool.and_true Bool.true_and Bool.and_self beq_self_eq_true List.replicate_succ List.replicate_zero forall_const false_implies pickB_or pickB_and beqT beqF Int.toNat_natCast List.length_map List.length_replicate ge_iff_le gt_iff_lt decide_eq_true_eq decide_eq_false_iff_not Bool.and_eq_true Bool.or_eq_true Bool.not_eq_true' Bool.not_eq_false' condG List.toList_toArray Bool.or_eq_false_iff Bool.and_eq_false_iff Int.not_lt Int.not_le beq_iff_eq beq_eq_false_iff_ne bne_iff_ne bne_eq_false_iff_eq ne_eq Bool.not_true Bool.not_false exists_and_left
section
open Go.Vc
set_option linter.unusedSimpArgs false
set_option linter.unusedVariables false
set_option maxHeartbeats 1000000
set_option maxRecDepth 10000
attribute [local irreducible] Go.Vc.WP
attribute [local go_sem] cx0_t cx0_c
open Go.Pl
attribute [local go_sem] decI_enc decImage_enc spA decS_enc tmA tm_eta
structure Mach where
  pc : Int
  sp : Int
  fp : Int
  stack : List Int
  out : List Int
  state : Int
  value : Int
deriving DecidableEq
def encMach (x : Mach) : List SV := [.v (.int .i64 x.pc), .v (.int .i64 x.sp), .v (.int .i64 x.fp), .sl 1 (x.stack.map encI), .sl 1 (x.out.map encI), .v (.int .i64 x.state), .v (.int .i64 x.value)]
def oneMach : List SV → Mach
  | [.v (.int _ a), .v (.int _ b), .v (.int _ c), .sl _ s, .sl _ o, .v (.int _ d), .v (.int _ e)] => ⟨a, b, c, decI s, decI o, d, e⟩
  | _ => ⟨0, 0, 0, [], [], 0, 0⟩
def decMach (rows : List (List SV)) : List Mach := rows.map oneMach
theorem oneMach_enc (x : Mach) : oneMach (encMach x) = x := by
  unfold oneMach encMach
  simp only [decI_enc]
theorem decMach_enc (L : List Mach) : decMach (L.map encMach) = L := by
  unfold decMach
  rw [List.map_map]
  exact List.map_id'' oneMach_enc L
theorem oneMach_f (a b c : Int) (s o : List Int) (d e : Int) : oneMach [.v (.int .i64 a), .v (.int .i64 b), .v (.int .i64 c), .sl 1 (s.map encI), .sl 1 (o.map encI), .v (.int .i64 d), .v (.int .i64 e)] = ⟨a, b, c, s, o, d, e⟩ := oneMach_enc ⟨a, b, c, s, o, d, e⟩
theorem mach_eta (x : Mach) : (⟨x.pc, x.sp, x.fp, x.stack, x.out, x.state, x.value⟩ : Mach) = x := rfl
attribute [local go_sem] decMach_enc oneMach_f mach_eta
def machOk (x : Mach) : Bool := decide (x.stack.length = 1200 ∧ (0 ≤ x.sp ∧ x.sp ≤ 1200) ∧ 0 ≤ x.state ∧ x.state ≤ 2)
def kMachOk : Ctr := pur (fun args => oneMach (aC args 0)) (fun x => [.agg [.v (.int .i64 x.pc), .v (.int .i64 x.sp), .v (.int .i64 x.fp), .sl 1 (x.stack.map encI), .sl 1 (x.out.map encI), .v (.int .i64 x.state), .v (.int .i64 x.value)]]) (fun x => x.stack.length ≤ 4194304) (fun _ x => .v (.bool (machOk x))) (fun _ _ => [])
section
noncomputable def cxMoI : Cx := { P := Try.prog, tys := tys, C := [(55, k60)], hty := tysOk, hC := COk.cons c60 (COk.nil _) }
theorem cxMoI_t : cxMoI.tys = tys := rfl
theorem cxMoI_c : cxMoI.C = [(55, k60)] := rfl
attribute [local go_sem] cxMoI_t cxMoI_c k60
theorem cMachOkI : Cn Try.prog 115 kMachOk := by
  refine Cn.pur Try.func115 (by kernel_rfl) rfl fun d x hx => ?_
  obtain ⟨a, b, c, s, o, d2, e2⟩ := x
  simp only at hx ⊢
  have e : machOk ⟨a, b, c, s, o, d2, e2⟩ = (((s.length : Int) == 1200) && (decide (0 ≤ b) && decide (b ≤ 1200)) && (decide (0 ≤ d2) && decide (d2 ≤ 2))) := by
    unfold machOk
    rw [Bool.eq_iff_iff]
    simp only [decide_eq_true_eq, Bool.and_eq_true, beq_iff_eq]
    omega
  rw [e]
  refine Holds.go (c := cxMoI) Try.func115 rfl Try.results115 Try.ntmps115 (by omega) (by simp) rfl ?_
  intro X0 w0
  by_cases h : (s.length : Int) = 1200
  · (repeat' (first | refine WP.seq ?_ | refine WP.block ?_ | ((first | refine WP.region ?_ | refine WP.condW ?_ | refine WP.ret ?_ | refine WP.exit ?_ | refine WP.skip ?_); simp only [go_sem, h, tyAll, Nat.reduceAdd, Nat.reduceLT, Nat.reduceLeDiff, Nat.reduceEqDiff, Nat.reduceMul, Nat.reduceSub, Nat.reduceGT, reduceIte, Int.reduceNeg, Int.reduceToNat]) |  refine And.intro ?_ ?_ | intro _))
    all_goals first | omega | rfl | skip
    all_goals trace_state
  · have h' : ((s.length : Int) == 1200) = false := beq_eq_false_iff_ne.2 h
    rw [h', Bool.false_and, Bool.false_and]
    (repeat' (first | refine WP.seq ?_ | refine WP.block ?_ | ((first | refine WP.region ?_ | refine WP.condW ?_ | refine WP.ret ?_ | refine WP.exit ?_ | refine WP.skip ?_); simp only [go_sem, h, tyAll, Nat.reduceAdd, Nat.reduceLT, Nat.reduceLeDiff, Nat.reduceEqDiff, Nat.reduceMul, Nat.reduceSub, Nat.reduceGT, reduceIte, Int.reduceNeg, Int.reduceToNat]) |  refine And.intro ?_ ?_ | intro _))
    all_goals first | omega | rfl | (simp only [h', Bool.false_and]; done) | skip
    all_goals trace_state
end
section
noncomputable def cxMoS : Cx := { P := Try.prog, tys := tys, C := [(71, k60)], hty := tysOk, hC := COk.cons c58 (COk.nil _) }
theorem cxMoS_t : cxMoS.tys = tys := rfl
theorem cxMoS_c : cxMoS.C = [(71, k60)] := rfl
attribute [local go_sem] cxMoS_t cxMoS_c k60
theorem cMachOkS : Cn Try.prog 110 kMachOk := by
  refine Cn.pur Try.func110 (by kernel_rfl) rfl fun d x hx => ?_
  obtain ⟨a, b, c, s, o, d2, e2⟩ := x
  simp only at hx ⊢
  have e : machOk ⟨a, b, c, s, o, d2, e2⟩ = (((s.length : Int) == 1200) && (decide (0 ≤ b) && decide (b ≤ 1200)) && (decide (0 ≤ d2) && decide (d2 ≤ 2))) := by
    unfold machOk
    rw [Bool.eq_iff_iff]
    simp only [decide_eq_true_eq, Bool.and_eq_true, beq_iff_eq]
    omega
  rw [e]
  refine Holds.go (c := cxMoS) Try.func110 rfl Try.results110 Try.ntmps110 (by omega) (by simp) rfl ?_
  intro X0 w0
  by_cases h : (s.length : Int) = 1200
  · (repeat' (first | refine WP.seq ?_ | refine WP.block ?_ | ((first | refine WP.region ?_ | refine WP.condW ?_ | refine WP.ret ?_ | refine WP.exit ?_ | refine WP.skip ?_); simp only [go_sem, h, tyAll, Nat.reduceAdd, Nat.reduceLT, Nat.reduceLeDiff, Nat.reduceEqDiff, Nat.reduceMul, Nat.reduceSub, Nat.reduceGT, reduceIte, Int.reduceNeg, Int.reduceToNat]) |  refine And.intro ?_ ?_ | intro _))
    all_goals first | omega | rfl | skip
    all_goals trace_state
  · have h' : ((s.length : Int) == 1200) = false := beq_eq_false_iff_ne.2 h
    rw [h', Bool.false_and, Bool.false_and]
    (repeat' (first | refine WP.seq ?_ | refine WP.block ?_ | ((first | refine WP.region ?_ | refine WP.condW ?_ | refine WP.ret ?_ | refine WP.exit ?_ | refine WP.skip ?_); simp only [go_sem, h, tyAll, Nat.reduceAdd, Nat.reduceLT, Nat.reduceLeDiff, Nat.reduceEqDiff, Nat.reduceMul, Nat.reduceSub, Nat.reduceGT, reduceIte, Int.reduceNeg, Int.reduceToNat]) |  refine And.intro ?_ ?_ | intro _))
    all_goals first | omega | rfl | (simp only [h', Bool.false_and]; done) | skip
    all_goals trace_state
end
abbrev PcX := (List Image × List Int × List Int) × List Mach × Int × Int × Int
def pcA (args : List SV) (i : Nat) : PcX := match args[i]? with
  | some (.agg [.sl _ a, .sl _ b, .sl _ c, .sl _ t, .v (.int _ x), .v (.int _ y), .v (.int _ z)]) => ((decImage a, decI b, decI c), decMach t, x, y, z)
  | _ => (([], [], []), [], 0, 0, 0)
attribute [local go_sem] pcA
def procOk (x : PcX) : Bool := spaceOk x.1.1 x.1.2.1 x.1.2.2 && decide ((1 ≤ x.2.1.length ∧ x.2.1.length ≤ 3) ∧ (0 ≤ x.2.2.1 ∧ x.2.2.1 ≤ (x.2.1.length : Int) - 1) ∧ (1 ≤ x.2.2.2.2 ∧ x.2.2.2.2 ≤ 1000) ∧ 1 ≤ x.2.2.2.1 ∧ x.2.2.2.1 ≤ x.2.2.2.2) && x.2.1.all machOk
def prePc (x : PcX) : Prop := preSp x.1 ∧ x.2.1.length ≤ 4194304 ∧ ∀ m ∈ x.2.1, m.stack.length ≤ 4194304
def kPcOk : Ctr := pur (fun args => pcA args 0) (fun x => [.agg [.sl 2 (x.1.1.map encImage), .sl 1 (x.1.2.1.map encI), .sl 1 (x.1.2.2.map encI), .sl 7 (x.2.1.map encMach), .v (.int .i64 x.2.2.1), .v (.int .i64 x.2.2.2.1), .v (.int .i64 x.2.2.2.2)]]) prePc (fun _ x => .v (.bool (procOk x))) (fun _ _ => [])
section
noncomputable def cxPoI : Cx := { P := Try.prog, tys := tys, C := [(55, k60), (114, kSpOk), (115, kMachOk)], hty := tysOk, hC := COk.cons c60 (COk.cons cSpOkI (COk.cons cMachOkI (COk.nil _))) }
theorem cxPoI_t : cxPoI.tys = tys := rfl
theorem cxPoI_c : cxPoI.C = [(55, k60), (114, kSpOk), (115, kMachOk)] := rfl
attribute [local go_sem] cxPoI_t cxPoI_c k60 kSpOk kMachOk
set_option maxHeartbeats 3000000 in
theorem cPcOkI : Cn Try.prog 75 kPcOk := by
  refine Cn.pur Try.func75 (by kernel_rfl) rfl fun d x hx => ?_
  obtain ⟨⟨I, B, E⟩, T, tu, le, sl⟩ := x
  obtain ⟨hsp, hT, hTs⟩ := hx
  have hsp2 := hsp
  obtain ⟨⟨hI, hIm⟩, hB, hE⟩ := hsp2
  simp only at hT hTs hI hIm hB hE ⊢
  have mod : procOk ((I, B, E), T, tu, le, sl) = (spaceOk I B E && decide ((1 ≤ T.length ∧ T.length ≤ 3) ∧ (0 ≤ tu ∧ tu ≤ (T.length : Int) - 1) ∧ (1 ≤ sl ∧ sl ≤ 1000) ∧ 1 ≤ le ∧ le ≤ sl) && T.all machOk) := rfl
  rw [mod]
  refine Holds.go (c := cxPoI) Try.func75 rfl Try.results75 Try.ntmps75 (by omega) (by simp) rfl ?_
  intro X0 w0
  cases hso : spaceOk I B E with
  | false =>
    (repeat' (first | refine WP.seq ?_ | refine WP.block ?_ | ((first | refine WP.region ?_ | refine WP.condW ?_ | refine WP.ret ?_ | refine WP.exit ?_ | refine WP.skip ?_); simp only [go_sem, hso, tyAll, Nat.reduceAdd, Nat.reduceLT, Nat.reduceLeDiff, Nat.reduceEqDiff, Nat.reduceMul, Nat.reduceSub, Nat.reduceGT, reduceIte, Int.reduceNeg, Int.reduceToNat]) |  refine And.intro ?_ ?_ | intro _))
    all_goals first | omega | exact hIm _ ‹_› | exact (hIm _ ‹_›).1 | exact (hIm _ ‹_›).2.1 | exact (hIm _ ‹_›).2.2 _ ‹_› | rfl | skip
    all_goals trace_state
  | true =>
  by_cases hc : (1 ≤ T.length ∧ T.length ≤ 3) ∧ (0 ≤ tu ∧ tu ≤ (T.length : Int) - 1) ∧ (1 ≤ sl ∧ sl ≤ 1000) ∧ 1 ≤ le ∧ le ≤ sl
  rotate_left
  · rw [decide_eq_false hc, Bool.and_false, Bool.false_and]
    by_cases c1 : ((1 : Int) ≤ T.length ∧ (T.length : Int) ≤ 3)
    · by_cases c2 : 0 ≤ tu ∧ tu ≤ (T.length : Int) - 1
      · by_cases c3 : 1 ≤ sl ∧ sl ≤ 1000
        · have c4 : (decide (1 ≤ le) && decide (le ≤ sl)) = false := by rw [← Bool.decide_and]; exact decide_eq_false fun h => hc ⟨by omega, c2, c3, h⟩
          (repeat' (first | refine WP.seq ?_ | refine WP.block ?_ | ((first | refine WP.region ?_ | refine WP.condW ?_ | refine WP.ret ?_ | refine WP.exit ?_ | refine WP.skip ?_); simp only [go_sem, hso, c1, c2, c3, c4, tyAll, Nat.reduceAdd, Nat.reduceLT, Nat.reduceLeDiff, Nat.reduceEqDiff, Nat.reduceMul, Nat.reduceSub, Nat.reduceGT, reduceIte, Int.reduceNeg, Int.reduceToNat]) |  refine And.intro ?_ ?_ | intro _))
          all_goals first | omega | exact hIm _ ‹_› | exact (hIm _ ‹_›).1 | exact (hIm _ ‹_›).2.1 | exact (hIm _ ‹_›).2.2 _ ‹_› | rfl | skip
          all_goals trace_state
        · have c3' : (decide (1 ≤ sl) && decide (sl ≤ 1000)) = false := by rw [← Bool.decide_and]; exact decide_eq_false c3
          (repeat' (first | refine WP.seq ?_ | refine WP.block ?_ | ((first | refine WP.region ?_ | refine WP.condW ?_ | refine WP.ret ?_ | refine WP.exit ?_ | refine WP.skip ?_); simp only [go_sem, hso, c1, c2, c3', tyAll, Nat.reduceAdd, Nat.reduceLT, Nat.reduceLeDiff, Nat.reduceEqDiff, Nat.reduceMul, Nat.reduceSub, Nat.reduceGT, reduceIte, Int.reduceNeg, Int.reduceToNat]) |  refine And.intro ?_ ?_ | intro _))
          all_goals first | omega | exact hIm _ ‹_› | exact (hIm _ ‹_›).1 | exact (hIm _ ‹_›).2.1 | exact (hIm _ ‹_›).2.2 _ ‹_› | rfl | skip
          all_goals trace_state
      · have c2' : (decide (0 ≤ tu) && decide (tu ≤ (T.length : Int) - 1)) = false := by rw [← Bool.decide_and]; exact decide_eq_false c2
        (repeat' (first | refine WP.seq ?_ | refine WP.block ?_ | ((first | refine WP.region ?_ | refine WP.condW ?_ | refine WP.ret ?_ | refine WP.exit ?_ | refine WP.skip ?_); simp only [go_sem, hso, c1, c2', tyAll, Nat.reduceAdd, Nat.reduceLT, Nat.reduceLeDiff, Nat.reduceEqDiff, Nat.reduceMul, Nat.reduceSub, Nat.reduceGT, reduceIte, Int.reduceNeg, Int.reduceToNat]) |  refine And.intro ?_ ?_ | intro _))
        all_goals first | omega | exact hIm _ ‹_› | exact (hIm _ ‹_›).1 | exact (hIm _ ‹_›).2.1 | exact (hIm _ ‹_›).2.2 _ ‹_› | rfl | skip
        all_goals trace_state
    · have c1' : (decide ((1 : Int) ≤ T.length) && decide ((T.length : Int) ≤ 3)) = false := by rw [← Bool.decide_and]; exact decide_eq_false c1
      (repeat' (first | refine WP.seq ?_ | refine WP.block ?_ | ((first | refine WP.region ?_ | refine WP.condW ?_ | refine WP.ret ?_ | refine WP.exit ?_ | refine WP.skip ?_); simp only [go_sem, hso, c1', tyAll, Nat.reduceAdd, Nat.reduceLT, Nat.reduceLeDiff, Nat.reduceEqDiff, Nat.reduceMul, Nat.reduceSub, Nat.reduceGT, reduceIte, Int.reduceNeg, Int.reduceToNat]) |  refine And.intro ?_ ?_ | intro _))
      all_goals first | omega | exact hIm _ ‹_› | exact (hIm _ ‹_›).1 | exact (hIm _ ‹_›).2.1 | exact (hIm _ ‹_›).2.2 _ ‹_› | rfl | skip
      all_goals trace_state
  rw [decide_eq_true hc, Bool.and_true, Bool.true_and]
  obtain ⟨⟨a1, a2⟩, ⟨a3, a4⟩, ⟨a5, a6⟩, a7, a8⟩ := hc
  have a1i : (1 : Int) ≤ T.length := by omega
  have a2i : (T.length : Int) ≤ 3 := by omega
  (repeat' (first | refine WP.seq ?_ | refine WP.block ?_ | ((first | refine WP.region ?_ | refine WP.condW ?_ | refine WP.ret ?_ | refine WP.exit ?_ | refine WP.skip ?_); simp only [go_sem, hso, a1i, a2i, a3, a4, a5, a6, a7, a8, tyAll, Nat.reduceAdd, Nat.reduceLT, Nat.reduceLeDiff, Nat.reduceEqDiff, Nat.reduceMul, Nat.reduceSub, Nat.reduceGT, reduceIte, Int.reduceNeg, Int.reduceToNat]) |  refine And.intro ?_ ?_ | intro _))
  all_goals first | omega | exact hIm _ ‹_› | exact (hIm _ ‹_›).1 | exact (hIm _ ‹_›).2.1 | exact (hIm _ ‹_›).2.2 _ ‹_› | skip
  refine WP.loop (fun k : Nat => ⟨[(41, .sl 7 (T.map encMach)), (42, .v (.int .i64 T.length)), (43, .v (.int .i64 k))], []⟩)
    (fun k => k ≤ T.length ∧ ∀ i (hi : i < T.length), i < k → machOk T[i] = true) (fun k => T.length - k) 0 (by simp) ?_ ?_
  · (simp only [go_sem, tyAll, Nat.reduceAdd, Nat.reduceLT, Nat.reduceLeDiff, Nat.reduceEqDiff, Nat.reduceMul, Nat.reduceSub, Nat.reduceGT, reduceIte, Int.reduceNeg, Int.reduceToNat] <;> (first | rfl | exact ⟨rfl, rfl⟩ | exact ⟨rfl, rfl, rfl⟩ | exact ⟨rfl, rfl, rfl, rfl⟩ | exact ⟨rfl, rfl, rfl, rfl, rfl⟩ | exact ⟨⟨rfl, rfl⟩, rfl⟩ | simp))
  intro k ⟨hk, hf⟩
  by_cases hlt : k < T.length
  · have hli : (k : Int) < T.length := by omega
    have hr := rowAt_map encMach T k hlt
    have hst := hTs _ (List.getElem_mem hlt)
    cases hm : machOk T[k] with
    | false =>
      have ha : T.all machOk = false := List.all_eq_false.2 ⟨_, List.getElem_mem hlt, by rw [hm]; simp⟩
      rw [ha]
      (repeat' (first | refine WP.seq ?_ | refine WP.block ?_ | ((first | refine WP.region ?_ | refine WP.condW ?_ | refine WP.ret ?_ | refine WP.exit ?_ | refine WP.skip ?_); simp only [go_sem, hli, hr, encMach, hm, tyAll, Nat.reduceAdd, Nat.reduceLT, Nat.reduceLeDiff, Nat.reduceEqDiff, Nat.reduceMul, Nat.reduceSub, Nat.reduceGT, reduceIte, Int.reduceNeg, Int.reduceToNat]) |  refine And.intro ?_ ?_ | intro _))
      all_goals first | omega | skip
      all_goals trace_state
    | true =>
      (repeat' (first | refine WP.seq ?_ | refine WP.block ?_ | ((first | refine WP.region ?_ | refine WP.condW ?_ | refine WP.ret ?_ | refine WP.exit ?_ | refine WP.skip ?_); simp only [go_sem, hli, hr, encMach, hm, tyAll, Nat.reduceAdd, Nat.reduceLT, Nat.reduceLeDiff, Nat.reduceEqDiff, Nat.reduceMul, Nat.reduceSub, Nat.reduceGT, reduceIte, Int.reduceNeg, Int.reduceToNat]) |  refine And.intro ?_ ?_ | intro _))
      all_goals first | omega | exact ⟨k + 1, ⟨by omega, fun i hi hik => by
        rcases Nat.lt_or_ge i k with h | h
        · exact hf i hi h
        · have : i = k := by omega
          subst this; exact hm⟩, by omega, by (first | rfl | exact ⟨rfl, rfl⟩ | exact ⟨rfl, rfl, rfl⟩ | exact ⟨rfl, rfl, rfl, rfl⟩ | exact ⟨rfl, rfl, rfl, rfl, rfl⟩ | exact ⟨⟨rfl, rfl⟩, rfl⟩ | simp)⟩ | skip
      all_goals trace_state
  · have hge : ¬ (k : Int) < T.length := by omega
    have ha : T.all machOk = true := List.all_eq_true.2 fun m hm => by
      obtain ⟨i, hi, rfl⟩ := List.mem_iff_getElem.1 hm
      exact hf i hi (by omega)
    rw [ha]
    (repeat' (first | refine WP.seq ?_ | refine WP.block ?_ | ((first | refine WP.region ?_ | refine WP.condW ?_ | refine WP.ret ?_ | refine WP.exit ?_ | refine WP.skip ?_); simp only [go_sem, hge, tyAll, Nat.reduceAdd, Nat.reduceLT, Nat.reduceLeDiff, Nat.reduceEqDiff, Nat.reduceMul, Nat.reduceSub, Nat.reduceGT, reduceIte, Int.reduceNeg, Int.reduceToNat]) |  refine And.intro ?_ ?_ | intro _))
    all_goals first | omega | skip
    all_goals trace_state
end
section
noncomputable def cxPoS : Cx := { P := Try.prog, tys := tys, C := [(71, k60), (109, kSpOk), (110, kMachOk)], hty := tysOk, hC := COk.cons c58 (COk.cons cSpOkS (COk.cons cMachOkS (COk.nil _))) }
theorem cxPoS_t : cxPoS.tys = tys := rfl
theorem cxPoS_c : cxPoS.C = [(71, k60), (109, kSpOk), (110, kMachOk)] := rfl
attribute [local go_sem] cxPoS_t cxPoS_c k60 kSpOk kMachOk
set_option maxHeartbeats 3000000 in
theorem cPcOkS : Cn Try.prog 68 kPcOk := by
  refine Cn.pur Try.func68 (by kernel_rfl) rfl fun d x hx => ?_
  obtain ⟨⟨I, B, E⟩, T, tu, le, sl⟩ := x
  obtain ⟨hsp, hT, hTs⟩ := hx
  have hsp2 := hsp
  obtain ⟨⟨hI, hIm⟩, hB, hE⟩ := hsp2
  simp only at hT hTs hI hIm hB hE ⊢
  have mod : procOk ((I, B, E), T, tu, le, sl) = (spaceOk I B E && decide ((1 ≤ T.length ∧ T.length ≤ 3) ∧ (0 ≤ tu ∧ tu ≤ (T.length : Int) - 1) ∧ (1 ≤ sl ∧ sl ≤ 1000) ∧ 1 ≤ le ∧ le ≤ sl) && T.all machOk) := rfl
  rw [mod]
  refine Holds.go (c := cxPoS) Try.func68 rfl Try.results68 Try.ntmps68 (by omega) (by simp) rfl ?_
  intro X0 w0
  cases hso : spaceOk I B E with
  | false =>
    (repeat' (first | refine WP.seq ?_ | refine WP.block ?_ | ((first | refine WP.region ?_ | refine WP.condW ?_ | refine WP.ret ?_ | refine WP.exit ?_ | refine WP.skip ?_); simp only [go_sem, hso, tyAll, Nat.reduceAdd, Nat.reduceLT, Nat.reduceLeDiff, Nat.reduceEqDiff, Nat.reduceMul, Nat.reduceSub, Nat.reduceGT, reduceIte, Int.reduceNeg, Int.reduceToNat]) |  refine And.intro ?_ ?_ | intro _))
    all_goals first | omega | exact hIm _ ‹_› | exact (hIm _ ‹_›).1 | exact (hIm _ ‹_›).2.1 | exact (hIm _ ‹_›).2.2 _ ‹_› | rfl | skip
    all_goals trace_state
  | true =>
  by_cases hc : (1 ≤ T.length ∧ T.length ≤ 3) ∧ (0 ≤ tu ∧ tu ≤ (T.length : Int) - 1) ∧ (1 ≤ sl ∧ sl ≤ 1000) ∧ 1 ≤ le ∧ le ≤ sl
  rotate_left
  · rw [decide_eq_false hc, Bool.and_false, Bool.false_and]
    by_cases c1 : ((1 : Int) ≤ T.length ∧ (T.length : Int) ≤ 3)
    · by_cases c2 : 0 ≤ tu ∧ tu ≤ (T.length : Int) - 1
      · by_cases c3 : 1 ≤ sl ∧ sl ≤ 1000
        · have c4 : (decide (1 ≤ le) && decide (le ≤ sl)) = false := by rw [← Bool.decide_and]; exact decide_eq_false fun h => hc ⟨by omega, c2, c3, h⟩
          (repeat' (first | refine WP.seq ?_ | refine WP.block ?_ | ((first | refine WP.region ?_ | refine WP.condW ?_ | refine WP.ret ?_ | refine WP.exit ?_ | refine WP.skip ?_); simp only [go_sem, hso, c1, c2, c3, c4, tyAll, Nat.reduceAdd, Nat.reduceLT, Nat.reduceLeDiff, Nat.reduceEqDiff, Nat.reduceMul, Nat.reduceSub, Nat.reduceGT, reduceIte, Int.reduceNeg, Int.reduceToNat]) |  refine And.intro ?_ ?_ | intro _))
          all_goals first | omega | exact hIm _ ‹_› | exact (hIm _ ‹_›).1 | exact (hIm _ ‹_›).2.1 | exact (hIm _ ‹_›).2.2 _ ‹_› | rfl | skip
          all_goals trace_state
        · have c3' : (decide (1 ≤ sl) && decide (sl ≤ 1000)) = false := by rw [← Bool.decide_and]; exact decide_eq_false c3
          (repeat' (first | refine WP.seq ?_ | refine WP.block ?_ | ((first | refine WP.region ?_ | refine WP.condW ?_ | refine WP.ret ?_ | refine WP.exit ?_ | refine WP.skip ?_); simp only [go_sem, hso, c1, c2, c3', tyAll, Nat.reduceAdd, Nat.reduceLT, Nat.reduceLeDiff, Nat.reduceEqDiff, Nat.reduceMul, Nat.reduceSub, Nat.reduceGT, reduceIte, Int.reduceNeg, Int.reduceToNat]) |  refine And.intro ?_ ?_ | intro _))
          all_goals first | omega | exact hIm _ ‹_› | exact (hIm _ ‹_›).1 | exact (hIm _ ‹_›).2.1 | exact (hIm _ ‹_›).2.2 _ ‹_› | rfl | skip
          all_goals trace_state
      · have c2' : (decide (0 ≤ tu) && decide (tu ≤ (T.length : Int) - 1)) = false := by rw [← Bool.decide_and]; exact decide_eq_false c2
        (repeat' (first | refine WP.seq ?_ | refine WP.block ?_ | ((first | refine WP.region ?_ | refine WP.condW ?_ | refine WP.ret ?_ | refine WP.exit ?_ | refine WP.skip ?_); simp only [go_sem, hso, c1, c2', tyAll, Nat.reduceAdd, Nat.reduceLT, Nat.reduceLeDiff, Nat.reduceEqDiff, Nat.reduceMul, Nat.reduceSub, Nat.reduceGT, reduceIte, Int.reduceNeg, Int.reduceToNat]) |  refine And.intro ?_ ?_ | intro _))
        all_goals first | omega | exact hIm _ ‹_› | exact (hIm _ ‹_›).1 | exact (hIm _ ‹_›).2.1 | exact (hIm _ ‹_›).2.2 _ ‹_› | rfl | skip
        all_goals trace_state
    · have c1' : (decide ((1 : Int) ≤ T.length) && decide ((T.length : Int) ≤ 3)) = false := by rw [← Bool.decide_and]; exact decide_eq_false c1
      (repeat' (first | refine WP.seq ?_ | refine WP.block ?_ | ((first | refine WP.region ?_ | refine WP.condW ?_ | refine WP.ret ?_ | refine WP.exit ?_ | refine WP.skip ?_); simp only [go_sem, hso, c1', tyAll, Nat.reduceAdd, Nat.reduceLT, Nat.reduceLeDiff, Nat.reduceEqDiff, Nat.reduceMul, Nat.reduceSub, Nat.reduceGT, reduceIte, Int.reduceNeg, Int.reduceToNat]) |  refine And.intro ?_ ?_ | intro _))
      all_goals first | omega | exact hIm _ ‹_› | exact (hIm _ ‹_›).1 | exact (hIm _ ‹_›).2.1 | exact (hIm _ ‹_›).2.2 _ ‹_› | rfl | skip
      all_goals trace_state
  rw [decide_eq_true hc, Bool.and_true, Bool.true_and]
  obtain ⟨⟨a1, a2⟩, ⟨a3, a4⟩, ⟨a5, a6⟩, a7, a8⟩ := hc
  have a1i : (1 : Int) ≤ T.length := by omega
  have a2i : (T.length : Int) ≤ 3 := by omega
  (repeat' (first | refine WP.seq ?_ | refine WP.block ?_ | ((first | refine WP.region ?_ | refine WP.condW ?_ | refine WP.ret ?_ | refine WP.exit ?_ | refine WP.skip ?_); simp only [go_sem, hso, a1i, a2i, a3, a4, a5, a6, a7, a8, tyAll, Nat.reduceAdd, Nat.reduceLT, Nat.reduceLeDiff, Nat.reduceEqDiff, Nat.reduceMul, Nat.reduceSub, Nat.reduceGT, reduceIte, Int.reduceNeg, Int.reduceToNat]) |  refine And.intro ?_ ?_ | intro _))
  all_goals first | omega | exact hIm _ ‹_› | exact (hIm _ ‹_›).1 | exact (hIm _ ‹_›).2.1 | exact (hIm _ ‹_›).2.2 _ ‹_› | skip
  refine WP.loop (fun k : Nat => ⟨[(1, .ptr 1 0 0 0), (3, .v (.int .i64 k))], [(1, .box 86 [.sl 2 (I.map encImage), .sl 1 (B.map encI), .sl 1 (E.map encI), .sl 7 (T.map encMach), .v (.int .i64 tu), .v (.int .i64 le), .v (.int .i64 sl)])]⟩)
    (fun k => k ≤ T.length ∧ ∀ i (hi : i < T.length), i < k → machOk T[i] = true) (fun k => T.length - k) 0 (by simp) ?_ ?_
  · (simp only [go_sem, tyAll, Nat.reduceAdd, Nat.reduceLT, Nat.reduceLeDiff, Nat.reduceEqDiff, Nat.reduceMul, Nat.reduceSub, Nat.reduceGT, reduceIte, Int.reduceNeg, Int.reduceToNat] <;> (first | rfl | exact ⟨rfl, rfl⟩ | exact ⟨rfl, rfl, rfl⟩ | exact ⟨rfl, rfl, rfl, rfl⟩ | exact ⟨rfl, rfl, rfl, rfl, rfl⟩ | exact ⟨⟨rfl, rfl⟩, rfl⟩ | simp))
  intro k ⟨hk, hf⟩
  by_cases hlt : k < T.length
  · have hli : (k : Int) < T.length := by omega
    have hr := rowAt_map encMach T k hlt
    have hst := hTs _ (List.getElem_mem hlt)
    cases hm : machOk T[k] with
    | false =>
      have ha : T.all machOk = false := List.all_eq_false.2 ⟨_, List.getElem_mem hlt, by rw [hm]; simp⟩
      rw [ha]
      (repeat' (first | refine WP.seq ?_ | refine WP.block ?_ | ((first | refine WP.region ?_ | refine WP.condW ?_ | refine WP.ret ?_ | refine WP.exit ?_ | refine WP.skip ?_); simp only [go_sem, hli, hr, encMach, hm, tyAll, Nat.reduceAdd, Nat.reduceLT, Nat.reduceLeDiff, Nat.reduceEqDiff, Nat.reduceMul, Nat.reduceSub, Nat.reduceGT, reduceIte, Int.reduceNeg, Int.reduceToNat]) |  refine And.intro ?_ ?_ | intro _))
      all_goals first | omega | skip
      all_goals trace_state
    | true =>
      (repeat' (first | refine WP.seq ?_ | refine WP.block ?_ | ((first | refine WP.region ?_ | refine WP.condW ?_ | refine WP.ret ?_ | refine WP.exit ?_ | refine WP.skip ?_); simp only [go_sem, hli, hr, encMach, hm, tyAll, Nat.reduceAdd, Nat.reduceLT, Nat.reduceLeDiff, Nat.reduceEqDiff, Nat.reduceMul, Nat.reduceSub, Nat.reduceGT, reduceIte, Int.reduceNeg, Int.reduceToNat]) |  refine And.intro ?_ ?_ | intro _))
      all_goals first | omega | exact ⟨k + 1, ⟨by omega, fun i hi hik => by
        rcases Nat.lt_or_ge i k with h | h
        · exact hf i hi h
        · have : i = k := by omega
          subst this; exact hm⟩, by omega, by (first | rfl | exact ⟨rfl, rfl⟩ | exact ⟨rfl, rfl, rfl⟩ | exact ⟨rfl, rfl, rfl, rfl⟩ | exact ⟨rfl, rfl, rfl, rfl, rfl⟩ | exact ⟨⟨rfl, rfl⟩, rfl⟩ | simp)⟩ | skip
      all_goals trace_state
  · have hge : ¬ (k : Int) < T.length := by omega
    have ha : T.all machOk = true := List.all_eq_true.2 fun m hm => by
      obtain ⟨i, hi, rfl⟩ := List.mem_iff_getElem.1 hm
      exact hf i hi (by omega)
    rw [ha]
    (repeat' (first | refine WP.seq ?_ | refine WP.block ?_ | ((first | refine WP.region ?_ | refine WP.condW ?_ | refine WP.ret ?_ | refine WP.exit ?_ | refine WP.skip ?_); simp only [go_sem, hge, tyAll, Nat.reduceAdd, Nat.reduceLT, Nat.reduceLeDiff, Nat.reduceEqDiff, Nat.reduceMul, Nat.reduceSub, Nat.reduceGT, reduceIte, Int.reduceNeg, Int.reduceToNat]) |  refine And.intro ?_ ?_ | intro _))
    all_goals first | omega | skip
    all_goals trace_state
end
end
section
open Go.Vc
set_option linter.unusedSimpArgs false
set_option linter.unusedVariables false
set_option maxHeartbeats 1000000
set_option maxRecDepth 10000
attribute [local irreducible] Go.Vc.WP
attribute [local go_sem] cx0_t cx0_c
open Go.Pl
attribute [local go_sem] decI_enc decImage_enc spA decS_enc tmA tm_eta decMach_enc oneMach_f mach_eta pcA
def sizS (R : List ByteArray) (k : Nat) : Nat := ((R.take k).map (·.size)).sum
theorem sizS_succ {R : List ByteArray} {k : Nat} (h : k < R.length) : sizS R (k + 1) = sizS R k + R[k].size := by
  unfold sizS
  rw [List.take_succ_eq_append_getElem h, List.map_append, List.sum_append]; simp
theorem sizS_le (R : List ByteArray) (k : Nat) : sizS R k ≤ sizS R R.length := by
  unfold sizS
  rw [List.take_length]
  conv => rhs; rw [← List.take_append_drop k R]
  rw [List.map_append, List.sum_append]; omega
def kByt : Ctr := pur (fun args => decS (aR args 0)) (fun R => [.sl 1 (R.map encS)]) (fun R => R.length ≤ 4194304 ∧ sizS R R.length ≤ 1099511627776) (fun _ R => .v (.int .i64 (sizS R R.length))) (fun _ _ => [])
abbrev RgX := Int × List ByteArray × Int × Int
def rgA (args : List SV) (i : Nat) : RgX := match args[i]? with
  | some (.agg [.v (.int _ a), .sl _ r, .v (.int _ b), .v (.int _ c)]) => (a, decS r, b, c)
  | _ => (0, [], 0, 0)
attribute [local go_sem] rgA
def ringOk (x : RgX) : Bool := x.2.1.all (fun s => decide (s ≠ ⟨#[]⟩)) && decide ((0 ≤ x.1 ∧ x.1 ≤ 100000) ∧ (sizS x.2.1 x.2.1.length : Int) ≤ x.1 ∧ ((x.2.1.length : Int) ≤ x.2.2.1 ∧ x.2.2.1 ≤ 1000000000000) ∧ 0 ≤ x.2.2.2 ∧ x.2.2.2 ≤ 1000000000000)
def kRgOk : Ctr := pur (fun args => rgA args 0) (fun x => [.agg [.v (.int .i64 x.1), .sl 1 (x.2.1.map encS), .v (.int .i64 x.2.2.1), .v (.int .i64 x.2.2.2)]]) (fun x => x.2.1.length ≤ 4194304 ∧ sizS x.2.1 x.2.1.length ≤ 1099511627776) (fun _ x => .v (.bool (ringOk x))) (fun _ _ => [])
section
noncomputable def cxByI : Cx := { P := Try.prog, tys := tys, C := [], hty := tysOk, hC := COk.nil _ }
theorem cxByI_t : cxByI.tys = tys := rfl
theorem cxByI_c : cxByI.C = [] := rfl
attribute [local go_sem] cxByI_t cxByI_c 
theorem cBytI : Cn Try.prog 116 kByt := by
  refine Cn.pur Try.func116 (by kernel_rfl) rfl fun d x hx => ?_
  rename List ByteArray => R
  obtain ⟨hR, hz⟩ := hx
  refine Holds.go (c := cxByI) Try.func116 rfl Try.results116 Try.ntmps116 (by omega) (by simp) rfl ?_
  intro X0 w0
  (repeat' (first | refine WP.seq ?_ | refine WP.block ?_ | ((first | refine WP.region ?_ | refine WP.condW ?_ | refine WP.ret ?_ | refine WP.exit ?_ | refine WP.skip ?_); simp only [go_sem, tyAll, Nat.reduceAdd, Nat.reduceLT, Nat.reduceLeDiff, Nat.reduceEqDiff, Nat.reduceMul, Nat.reduceSub, Nat.reduceGT, reduceIte, Int.reduceNeg, Int.reduceToNat]) |  refine And.intro ?_ ?_ | intro _))
  all_goals first | omega | skip
  refine WP.loop (fun k : Nat => ⟨[(3, .v (.int .i64 (sizS R k))), (6, .sl 1 (R.map encS)), (7, .v (.int .i64 R.length)), (8, .v (.int .i64 k))], []⟩) (fun k => k ≤ R.length) (fun k => R.length - k) 0 (by simp) ?_ ?_
  · have h0 : sizS R 0 = 0 := rfl
    (simp only [go_sem, h0, tyAll, Nat.reduceAdd, Nat.reduceLT, Nat.reduceLeDiff, Nat.reduceEqDiff, Nat.reduceMul, Nat.reduceSub, Nat.reduceGT, reduceIte, Int.reduceNeg, Int.reduceToNat] <;> (first | rfl | exact ⟨rfl, rfl⟩ | exact ⟨rfl, rfl, rfl⟩ | exact ⟨rfl, rfl, rfl, rfl⟩ | exact ⟨rfl, rfl, rfl, rfl, rfl⟩ | exact ⟨⟨rfl, rfl⟩, rfl⟩ | simp))
  intro k hk
  have hl := sizS_le R k
  have hl1 := sizS_le R (k + 1)
  by_cases hlt : k < R.length
  · have hli : (k : Int) < R.length := by omega
    have hr := rowAt_map encS R k hlt
    have hsu := sizS_succ hlt
    have hsi : ((sizS R (k + 1) : Nat) : Int) = (sizS R k : Int) + (R[k].size : Int) := by rw [hsu, Int.natCast_add]
    (repeat' (first | refine WP.seq ?_ | refine WP.block ?_ | ((first | refine WP.region ?_ | refine WP.condW ?_ | refine WP.ret ?_ | refine WP.exit ?_ | refine WP.skip ?_); simp only [go_sem, hli, hr, encS, tyAll, Nat.reduceAdd, Nat.reduceLT, Nat.reduceLeDiff, Nat.reduceEqDiff, Nat.reduceMul, Nat.reduceSub, Nat.reduceGT, reduceIte, Int.reduceNeg, Int.reduceToNat]) |  refine And.intro ?_ ?_ | intro _))
    all_goals first | omega | exact ⟨k + 1, by omega, by omega, by rw [hsi]; (first | rfl | exact ⟨rfl, rfl⟩ | exact ⟨rfl, rfl, rfl⟩ | exact ⟨rfl, rfl, rfl, rfl⟩ | exact ⟨rfl, rfl, rfl, rfl, rfl⟩ | exact ⟨⟨rfl, rfl⟩, rfl⟩ | simp)⟩ | skip
    all_goals trace_state
  · have hge : ¬ (k : Int) < R.length := by omega
    obtain rfl : k = R.length := by omega
    (repeat' (first | refine WP.seq ?_ | refine WP.block ?_ | ((first | refine WP.region ?_ | refine WP.condW ?_ | refine WP.ret ?_ | refine WP.exit ?_ | refine WP.skip ?_); simp only [go_sem, hge, tyAll, Nat.reduceAdd, Nat.reduceLT, Nat.reduceLeDiff, Nat.reduceEqDiff, Nat.reduceMul, Nat.reduceSub, Nat.reduceGT, reduceIte, Int.reduceNeg, Int.reduceToNat]) |  refine And.intro ?_ ?_ | intro _))
    all_goals first | omega | skip
    all_goals trace_state
end
section
noncomputable def cxByS : Cx := { P := Try.prog, tys := tys, C := [], hty := tysOk, hC := COk.nil _ }
theorem cxByS_t : cxByS.tys = tys := rfl
theorem cxByS_c : cxByS.C = [] := rfl
attribute [local go_sem] cxByS_t cxByS_c 
theorem cBytS : Cn Try.prog 111 kByt := by
  refine Cn.pur Try.func111 (by kernel_rfl) rfl fun d x hx => ?_
  rename List ByteArray => R
  obtain ⟨hR, hz⟩ := hx
  refine Holds.go (c := cxByS) Try.func111 rfl Try.results111 Try.ntmps111 (by omega) (by simp) rfl ?_
  intro X0 w0
  (repeat' (first | refine WP.seq ?_ | refine WP.block ?_ | ((first | refine WP.region ?_ | refine WP.condW ?_ | refine WP.ret ?_ | refine WP.exit ?_ | refine WP.skip ?_); simp only [go_sem, tyAll, Nat.reduceAdd, Nat.reduceLT, Nat.reduceLeDiff, Nat.reduceEqDiff, Nat.reduceMul, Nat.reduceSub, Nat.reduceGT, reduceIte, Int.reduceNeg, Int.reduceToNat]) |  refine And.intro ?_ ?_ | intro _))
  all_goals first | omega | skip
  refine WP.loop (fun k : Nat => ⟨[(0, .sl 1 (R.map encS)), (3, .v (.int .i64 (sizS R k))), (4, .v (.int .i64 k))], []⟩) (fun k => k ≤ R.length) (fun k => R.length - k) 0 (by simp) ?_ ?_
  · have h0 : sizS R 0 = 0 := rfl
    (simp only [go_sem, h0, tyAll, Nat.reduceAdd, Nat.reduceLT, Nat.reduceLeDiff, Nat.reduceEqDiff, Nat.reduceMul, Nat.reduceSub, Nat.reduceGT, reduceIte, Int.reduceNeg, Int.reduceToNat] <;> (first | rfl | exact ⟨rfl, rfl⟩ | exact ⟨rfl, rfl, rfl⟩ | exact ⟨rfl, rfl, rfl, rfl⟩ | exact ⟨rfl, rfl, rfl, rfl, rfl⟩ | exact ⟨⟨rfl, rfl⟩, rfl⟩ | simp))
  intro k hk
  have hl := sizS_le R k
  have hl1 := sizS_le R (k + 1)
  by_cases hlt : k < R.length
  · have hli : (k : Int) < R.length := by omega
    have hr := rowAt_map encS R k hlt
    have hsu := sizS_succ hlt
    have hsi : ((sizS R (k + 1) : Nat) : Int) = (sizS R k : Int) + (R[k].size : Int) := by rw [hsu, Int.natCast_add]
    (repeat' (first | refine WP.seq ?_ | refine WP.block ?_ | ((first | refine WP.region ?_ | refine WP.condW ?_ | refine WP.ret ?_ | refine WP.exit ?_ | refine WP.skip ?_); simp only [go_sem, hli, hr, encS, tyAll, Nat.reduceAdd, Nat.reduceLT, Nat.reduceLeDiff, Nat.reduceEqDiff, Nat.reduceMul, Nat.reduceSub, Nat.reduceGT, reduceIte, Int.reduceNeg, Int.reduceToNat]) |  refine And.intro ?_ ?_ | intro _))
    all_goals first | omega | exact ⟨k + 1, by omega, by omega, by rw [hsi]; (first | rfl | exact ⟨rfl, rfl⟩ | exact ⟨rfl, rfl, rfl⟩ | exact ⟨rfl, rfl, rfl, rfl⟩ | exact ⟨rfl, rfl, rfl, rfl, rfl⟩ | exact ⟨⟨rfl, rfl⟩, rfl⟩ | simp)⟩ | skip
    all_goals trace_state
  · have hge : ¬ (k : Int) < R.length := by omega
    obtain rfl : k = R.length := by omega
    (repeat' (first | refine WP.seq ?_ | refine WP.block ?_ | ((first | refine WP.region ?_ | refine WP.condW ?_ | refine WP.ret ?_ | refine WP.exit ?_ | refine WP.skip ?_); simp only [go_sem, hge, tyAll, Nat.reduceAdd, Nat.reduceLT, Nat.reduceLeDiff, Nat.reduceEqDiff, Nat.reduceMul, Nat.reduceSub, Nat.reduceGT, reduceIte, Int.reduceNeg, Int.reduceToNat]) |  refine And.intro ?_ ?_ | intro _))
    all_goals first | omega | skip
    all_goals trace_state
end
section
noncomputable def cxRoI : Cx := { P := Try.prog, tys := tys, C := [(55, k60), (116, kByt)], hty := tysOk, hC := COk.cons c60 (COk.cons cBytI (COk.nil _)) }
theorem cxRoI_t : cxRoI.tys = tys := rfl
theorem cxRoI_c : cxRoI.C = [(55, k60), (116, kByt)] := rfl
attribute [local go_sem] cxRoI_t cxRoI_c k60 kByt
set_option maxHeartbeats 2000000 in
theorem cRgOkI : Cn Try.prog 77 kRgOk := by
  refine Cn.pur Try.func77 (by kernel_rfl) rfl fun d x hx => ?_
  obtain ⟨cp, R, wr, lo⟩ := x
  obtain ⟨hR, hz⟩ := hx
  simp only at hR hz ⊢
  have mod : ringOk (cp, R, wr, lo) = (R.all (fun s => decide (s ≠ ⟨#[]⟩)) && decide ((0 ≤ cp ∧ cp ≤ 100000) ∧ (sizS R R.length : Int) ≤ cp ∧ ((R.length : Int) ≤ wr ∧ wr ≤ 1000000000000) ∧ 0 ≤ lo ∧ lo ≤ 1000000000000)) := rfl
  rw [mod]
  refine Holds.go (c := cxRoI) Try.func77 rfl Try.results77 Try.ntmps77 (by omega) (by simp) rfl ?_
  intro X0 w0
  (repeat' (first | refine WP.seq ?_ | refine WP.block ?_ | ((first | refine WP.region ?_ | refine WP.condW ?_ | refine WP.ret ?_ | refine WP.exit ?_ | refine WP.skip ?_); simp only [go_sem, tyAll, Nat.reduceAdd, Nat.reduceLT, Nat.reduceLeDiff, Nat.reduceEqDiff, Nat.reduceMul, Nat.reduceSub, Nat.reduceGT, reduceIte, Int.reduceNeg, Int.reduceToNat]) | ((first | refine WP.drawW 24 (by decide +kernel) (by kernel_rfl) ?_); simp only [go_sem, tyAll, Nat.reduceAdd, Nat.reduceLT, Nat.reduceLeDiff, Nat.reduceEqDiff, Nat.reduceMul, Nat.reduceSub, Nat.reduceGT, reduceIte, Int.reduceNeg, Int.reduceToNat]) |  refine And.intro ?_ ?_ | intro _))
  all_goals first | omega | skip
  refine WP.loop (fun k : Nat => ⟨[(1, .ptr 1 0 0 0), (6, .sl 1 (R.map encS)), (7, .v (.int .i64 R.length)), (8, .v (.int .i64 k))], [(1, .box 88 [.v (.int .i64 cp), .sl 1 (R.map encS), .v (.int .i64 wr), .v (.int .i64 lo)])]⟩)
    (fun k => k ≤ R.length ∧ ∀ i (hi : i < R.length), i < k → R[i] ≠ ⟨#[]⟩) (fun k => R.length - k) 0 (by simp) ?_ ?_
  · (simp only [go_sem, tyAll, Nat.reduceAdd, Nat.reduceLT, Nat.reduceLeDiff, Nat.reduceEqDiff, Nat.reduceMul, Nat.reduceSub, Nat.reduceGT, reduceIte, Int.reduceNeg, Int.reduceToNat] <;> (first | rfl | exact ⟨rfl, rfl⟩ | exact ⟨rfl, rfl, rfl⟩ | exact ⟨rfl, rfl, rfl, rfl⟩ | exact ⟨rfl, rfl, rfl, rfl, rfl⟩ | exact ⟨⟨rfl, rfl⟩, rfl⟩ | simp))
  intro k ⟨hk, hf⟩
  by_cases hlt : k < R.length
  · have hli : (k : Int) < R.length := by omega
    have hr := rowAt_map encS R k hlt
    by_cases he : R[k] = ⟨#[]⟩
    · have ha : R.all (fun s => decide (s ≠ ⟨#[]⟩)) = false := List.all_eq_false.2 ⟨_, List.getElem_mem hlt, by simp [he]⟩
      rw [ha, Bool.false_and]
      (repeat' (first | refine WP.seq ?_ | refine WP.block ?_ | ((first | refine WP.region ?_ | refine WP.condW ?_ | refine WP.ret ?_ | refine WP.exit ?_ | refine WP.skip ?_); simp only [go_sem, hli, hr, encS, he, tyAll, Nat.reduceAdd, Nat.reduceLT, Nat.reduceLeDiff, Nat.reduceEqDiff, Nat.reduceMul, Nat.reduceSub, Nat.reduceGT, reduceIte, Int.reduceNeg, Int.reduceToNat]) | ((first | refine WP.drawW 24 (by decide +kernel) (by kernel_rfl) ?_); simp only [go_sem, hli, hr, encS, he, tyAll, Nat.reduceAdd, Nat.reduceLT, Nat.reduceLeDiff, Nat.reduceEqDiff, Nat.reduceMul, Nat.reduceSub, Nat.reduceGT, reduceIte, Int.reduceNeg, Int.reduceToNat]) |  refine And.intro ?_ ?_ | intro _))
      all_goals first | omega | skip
      all_goals trace_state
    · (repeat' (first | refine WP.seq ?_ | refine WP.block ?_ | ((first | refine WP.region ?_ | refine WP.condW ?_ | refine WP.ret ?_ | refine WP.exit ?_ | refine WP.skip ?_); simp only [go_sem, hli, hr, encS, he, tyAll, Nat.reduceAdd, Nat.reduceLT, Nat.reduceLeDiff, Nat.reduceEqDiff, Nat.reduceMul, Nat.reduceSub, Nat.reduceGT, reduceIte, Int.reduceNeg, Int.reduceToNat]) | ((first | refine WP.drawW 24 (by decide +kernel) (by kernel_rfl) ?_); simp only [go_sem, hli, hr, encS, he, tyAll, Nat.reduceAdd, Nat.reduceLT, Nat.reduceLeDiff, Nat.reduceEqDiff, Nat.reduceMul, Nat.reduceSub, Nat.reduceGT, reduceIte, Int.reduceNeg, Int.reduceToNat]) |  refine And.intro ?_ ?_ | intro _))
      all_goals first | omega | exact ⟨k + 1, ⟨by omega, fun i hi hik => by
        rcases Nat.lt_or_ge i k with h | h
        · exact hf i hi h
        · have : i = k := by omega
          subst this; exact he⟩, by omega, by (first | rfl | exact ⟨rfl, rfl⟩ | exact ⟨rfl, rfl, rfl⟩ | exact ⟨rfl, rfl, rfl, rfl⟩ | exact ⟨rfl, rfl, rfl, rfl, rfl⟩ | exact ⟨⟨rfl, rfl⟩, rfl⟩ | simp)⟩ | skip
      all_goals trace_state
  · have hge : ¬ (k : Int) < R.length := by omega
    have ha : R.all (fun s => decide (s ≠ ⟨#[]⟩)) = true := List.all_eq_true.2 fun s hs => by
      obtain ⟨i, hi, rfl⟩ := List.mem_iff_getElem.1 hs
      rw [decide_eq_true_eq]
      exact hf i hi (by omega)
    have e : decide ((0 ≤ cp ∧ cp ≤ 100000) ∧ (sizS R R.length : Int) ≤ cp ∧ ((R.length : Int) ≤ wr ∧ wr ≤ 1000000000000) ∧ 0 ≤ lo ∧ lo ≤ 1000000000000) = ((decide (0 ≤ cp) && decide (cp ≤ 100000)) && decide ((sizS R R.length : Int) ≤ cp) && (decide ((R.length : Int) ≤ wr) && decide (wr ≤ 1000000000000)) && (decide (0 ≤ lo) && decide (lo ≤ 1000000000000))) := by
      rw [Bool.eq_iff_iff]
      simp only [decide_eq_true_eq, Bool.and_eq_true]
      omega
    rw [ha, Bool.true_and, e]
    (repeat' (first | refine WP.seq ?_ | refine WP.block ?_ | ((first | refine WP.region ?_ | refine WP.condW ?_ | refine WP.ret ?_ | refine WP.exit ?_ | refine WP.skip ?_); simp only [go_sem, hge, tyAll, Nat.reduceAdd, Nat.reduceLT, Nat.reduceLeDiff, Nat.reduceEqDiff, Nat.reduceMul, Nat.reduceSub, Nat.reduceGT, reduceIte, Int.reduceNeg, Int.reduceToNat]) | ((first | refine WP.drawW 24 (by decide +kernel) (by kernel_rfl) ?_); simp only [go_sem, hge, tyAll, Nat.reduceAdd, Nat.reduceLT, Nat.reduceLeDiff, Nat.reduceEqDiff, Nat.reduceMul, Nat.reduceSub, Nat.reduceGT, reduceIte, Int.reduceNeg, Int.reduceToNat]) |  refine And.intro ?_ ?_ | intro _))
    all_goals first | omega | rfl | skip
    all_goals trace_state
end
section
noncomputable def cxRoS : Cx := { P := Try.prog, tys := tys, C := [(71, k60), (111, kByt)], hty := tysOk, hC := COk.cons c58 (COk.cons cBytS (COk.nil _)) }
theorem cxRoS_t : cxRoS.tys = tys := rfl
theorem cxRoS_c : cxRoS.C = [(71, k60), (111, kByt)] := rfl
attribute [local go_sem] cxRoS_t cxRoS_c k60 kByt
set_option maxHeartbeats 2000000 in
theorem cRgOkS : Cn Try.prog 70 kRgOk := by
  refine Cn.pur Try.func70 (by kernel_rfl) rfl fun d x hx => ?_
  obtain ⟨cp, R, wr, lo⟩ := x
  obtain ⟨hR, hz⟩ := hx
  simp only at hR hz ⊢
  have mod : ringOk (cp, R, wr, lo) = (R.all (fun s => decide (s ≠ ⟨#[]⟩)) && decide ((0 ≤ cp ∧ cp ≤ 100000) ∧ (sizS R R.length : Int) ≤ cp ∧ ((R.length : Int) ≤ wr ∧ wr ≤ 1000000000000) ∧ 0 ≤ lo ∧ lo ≤ 1000000000000)) := rfl
  rw [mod]
  refine Holds.go (c := cxRoS) Try.func70 rfl Try.results70 Try.ntmps70 (by omega) (by simp) rfl ?_
  intro X0 w0
  (repeat' (first | refine WP.seq ?_ | refine WP.block ?_ | ((first | refine WP.region ?_ | refine WP.condW ?_ | refine WP.ret ?_ | refine WP.exit ?_ | refine WP.skip ?_); simp only [go_sem, tyAll, Nat.reduceAdd, Nat.reduceLT, Nat.reduceLeDiff, Nat.reduceEqDiff, Nat.reduceMul, Nat.reduceSub, Nat.reduceGT, reduceIte, Int.reduceNeg, Int.reduceToNat]) | ((first | refine WP.drawW 24 (by decide +kernel) (by kernel_rfl) ?_); simp only [go_sem, tyAll, Nat.reduceAdd, Nat.reduceLT, Nat.reduceLeDiff, Nat.reduceEqDiff, Nat.reduceMul, Nat.reduceSub, Nat.reduceGT, reduceIte, Int.reduceNeg, Int.reduceToNat]) |  refine And.intro ?_ ?_ | intro _))
  all_goals first | omega | skip
  refine WP.loop (fun k : Nat => ⟨[(1, .ptr 1 0 0 0), (3, .v (.int .i64 k))], [(1, .box 88 [.v (.int .i64 cp), .sl 1 (R.map encS), .v (.int .i64 wr), .v (.int .i64 lo)])]⟩)
    (fun k => k ≤ R.length ∧ ∀ i (hi : i < R.length), i < k → R[i] ≠ ⟨#[]⟩) (fun k => R.length - k) 0 (by simp) ?_ ?_
  · (simp only [go_sem, tyAll, Nat.reduceAdd, Nat.reduceLT, Nat.reduceLeDiff, Nat.reduceEqDiff, Nat.reduceMul, Nat.reduceSub, Nat.reduceGT, reduceIte, Int.reduceNeg, Int.reduceToNat] <;> (first | rfl | exact ⟨rfl, rfl⟩ | exact ⟨rfl, rfl, rfl⟩ | exact ⟨rfl, rfl, rfl, rfl⟩ | exact ⟨rfl, rfl, rfl, rfl, rfl⟩ | exact ⟨⟨rfl, rfl⟩, rfl⟩ | simp))
  intro k ⟨hk, hf⟩
  by_cases hlt : k < R.length
  · have hli : (k : Int) < R.length := by omega
    have hr := rowAt_map encS R k hlt
    by_cases he : R[k] = ⟨#[]⟩
    · have ha : R.all (fun s => decide (s ≠ ⟨#[]⟩)) = false := List.all_eq_false.2 ⟨_, List.getElem_mem hlt, by simp [he]⟩
      rw [ha, Bool.false_and]
      (repeat' (first | refine WP.seq ?_ | refine WP.block ?_ | ((first | refine WP.region ?_ | refine WP.condW ?_ | refine WP.ret ?_ | refine WP.exit ?_ | refine WP.skip ?_); simp only [go_sem, hli, hr, encS, he, tyAll, Nat.reduceAdd, Nat.reduceLT, Nat.reduceLeDiff, Nat.reduceEqDiff, Nat.reduceMul, Nat.reduceSub, Nat.reduceGT, reduceIte, Int.reduceNeg, Int.reduceToNat]) | ((first | refine WP.drawW 24 (by decide +kernel) (by kernel_rfl) ?_); simp only [go_sem, hli, hr, encS, he, tyAll, Nat.reduceAdd, Nat.reduceLT, Nat.reduceLeDiff, Nat.reduceEqDiff, Nat.reduceMul, Nat.reduceSub, Nat.reduceGT, reduceIte, Int.reduceNeg, Int.reduceToNat]) |  refine And.intro ?_ ?_ | intro _))
      all_goals first | omega | skip
      all_goals trace_state
    · (repeat' (first | refine WP.seq ?_ | refine WP.block ?_ | ((first | refine WP.region ?_ | refine WP.condW ?_ | refine WP.ret ?_ | refine WP.exit ?_ | refine WP.skip ?_); simp only [go_sem, hli, hr, encS, he, tyAll, Nat.reduceAdd, Nat.reduceLT, Nat.reduceLeDiff, Nat.reduceEqDiff, Nat.reduceMul, Nat.reduceSub, Nat.reduceGT, reduceIte, Int.reduceNeg, Int.reduceToNat]) | ((first | refine WP.drawW 24 (by decide +kernel) (by kernel_rfl) ?_); simp only [go_sem, hli, hr, encS, he, tyAll, Nat.reduceAdd, Nat.reduceLT, Nat.reduceLeDiff, Nat.reduceEqDiff, Nat.reduceMul, Nat.reduceSub, Nat.reduceGT, reduceIte, Int.reduceNeg, Int.reduceToNat]) |  refine And.intro ?_ ?_ | intro _))
      all_goals first | omega | exact ⟨k + 1, ⟨by omega, fun i hi hik => by
        rcases Nat.lt_or_ge i k with h | h
        · exact hf i hi h
        · have : i = k := by omega
          subst this; exact he⟩, by omega, by (first | rfl | exact ⟨rfl, rfl⟩ | exact ⟨rfl, rfl, rfl⟩ | exact ⟨rfl, rfl, rfl, rfl⟩ | exact ⟨rfl, rfl, rfl, rfl, rfl⟩ | exact ⟨⟨rfl, rfl⟩, rfl⟩ | simp)⟩ | skip
      all_goals trace_state
  · have hge : ¬ (k : Int) < R.length := by omega
    have ha : R.all (fun s => decide (s ≠ ⟨#[]⟩)) = true := List.all_eq_true.2 fun s hs => by
      obtain ⟨i, hi, rfl⟩ := List.mem_iff_getElem.1 hs
      rw [decide_eq_true_eq]
      exact hf i hi (by omega)
    have e : decide ((0 ≤ cp ∧ cp ≤ 100000) ∧ (sizS R R.length : Int) ≤ cp ∧ ((R.length : Int) ≤ wr ∧ wr ≤ 1000000000000) ∧ 0 ≤ lo ∧ lo ≤ 1000000000000) = ((decide (0 ≤ cp) && decide (cp ≤ 100000)) && decide ((sizS R R.length : Int) ≤ cp) && (decide ((R.length : Int) ≤ wr) && decide (wr ≤ 1000000000000)) && (decide (0 ≤ lo) && decide (lo ≤ 1000000000000))) := by
      rw [Bool.eq_iff_iff]
      simp only [decide_eq_true_eq, Bool.and_eq_true]
      omega
    rw [ha, Bool.true_and, e]
    (repeat' (first | refine WP.seq ?_ | refine WP.block ?_ | ((first | refine WP.region ?_ | refine WP.condW ?_ | refine WP.ret ?_ | refine WP.exit ?_ | refine WP.skip ?_); simp only [go_sem, hge, tyAll, Nat.reduceAdd, Nat.reduceLT, Nat.reduceLeDiff, Nat.reduceEqDiff, Nat.reduceMul, Nat.reduceSub, Nat.reduceGT, reduceIte, Int.reduceNeg, Int.reduceToNat]) | ((first | refine WP.drawW 24 (by decide +kernel) (by kernel_rfl) ?_); simp only [go_sem, hge, tyAll, Nat.reduceAdd, Nat.reduceLT, Nat.reduceLeDiff, Nat.reduceEqDiff, Nat.reduceMul, Nat.reduceSub, Nat.reduceGT, reduceIte, Int.reduceNeg, Int.reduceToNat]) |  refine And.intro ?_ ?_ | intro _))
    all_goals first | omega | rfl | skip
    all_goals trace_state
end
abbrev SeX := PcX × Tm × RgX × Int × Int × Int
def aggSe (x : SeX) : List SV := [.sl 2 (x.1.1.1.map encImage), .sl 1 (x.1.1.2.1.map encI), .sl 1 (x.1.1.2.2.map encI), .sl 7 (x.1.2.1.map encMach), .v (.int .i64 x.1.2.2.1), .v (.int .i64 x.1.2.2.2.1), .v (.int .i64 x.1.2.2.2.2),
  .v (.int .i64 x.2.1.period), .v (.int .i64 x.2.1.spread), .v (.int .i64 x.2.1.left), .v (.int .i64 x.2.1.state), .v (.int .i64 x.2.2.1.1), .sl 1 (x.2.2.1.2.1.map encS), .v (.int .i64 x.2.2.1.2.2.1), .v (.int .i64 x.2.2.1.2.2.2),
  .v (.int .i64 x.2.2.2.1), .v (.int .i64 x.2.2.2.2.1), .v (.int .i64 x.2.2.2.2.2)]
def seA (args : List SV) (i : Nat) : SeX := match args[i]? with
  | some (.agg [.sl _ a, .sl _ b, .sl _ c, .sl _ t, .v (.int _ x), .v (.int _ y), .v (.int _ z), .v (.int _ p), .v (.int _ q), .v (.int _ l), .v (.int _ st), .v (.int _ cp), .sl _ r, .v (.int _ wr), .v (.int _ lo), .v (.int _ m), .v (.int _ sp), .v (.int _ f)]) =>
    (((decImage a, decI b, decI c), decMach t, x, y, z), ⟨p, q, l, st⟩, (cp, decS r, wr, lo), m, sp, f)
  | _ => ((([], [], []), [], 0, 0, 0), ⟨0, 0, 0, 0⟩, (0, [], 0, 0), 0, 0, 0)
attribute [local go_sem] seA aggSe
def sessOk (x : SeX) : Bool := procOk x.1 && tmOk x.2.1 && ringOk x.2.2.1 && decide ((0 ≤ x.2.2.2.1 ∧ x.2.2.2.1 ≤ 1200) ∧ (0 ≤ x.2.2.2.2.1 ∧ x.2.2.2.2.1 ≤ 1000000000000) ∧ 0 ≤ x.2.2.2.2.2 ∧ x.2.2.2.2.2 ≤ 1000000000000)
def preSe (x : SeX) : Prop := prePc x.1 ∧ x.2.2.1.2.1.length ≤ 4194304 ∧ sizS x.2.2.1.2.1 x.2.2.1.2.1.length ≤ 1099511627776
def kSeOk : Ctr := pur (fun args => seA args 0) (fun x => [.agg (aggSe x)]) preSe (fun _ x => .v (.bool (sessOk x))) (fun _ _ => [])
def cntOkS (x : SeX) : Bool := (decide (0 ≤ x.2.2.2.2.1) && decide (x.2.2.2.2.1 ≤ 1000000000000)) && (decide (0 ≤ x.2.2.2.2.2) && decide (x.2.2.2.2.2 ≤ 1000000000000)) && (decide (0 ≤ x.2.2.1.2.2.1) && decide (x.2.2.1.2.2.1 ≤ 1000000000000)) && (decide (0 ≤ x.2.2.1.2.2.2) && decide (x.2.2.1.2.2.2 ≤ 1000000000000))
def kCntOk : Ctr := pur (fun args => seA args 0) (fun x => [.agg (aggSe x)]) (fun _ => True) (fun _ x => .v (.bool (cntOkS x))) (fun _ _ => [])
section
noncomputable def cxCoI : Cx := { P := Try.prog, tys := tys, C := [(55, k60)], hty := tysOk, hC := COk.cons c60 (COk.nil _) }
theorem cxCoI_t : cxCoI.tys = tys := rfl
theorem cxCoI_c : cxCoI.C = [(55, k60)] := rfl
attribute [local go_sem] cxCoI_t cxCoI_c k60
theorem cCntOkI : Cn Try.prog 78 kCntOk := by
  refine Cn.pur Try.func78 (by kernel_rfl) rfl fun d x hx => ?_
  obtain ⟨⟨⟨I, B, E⟩, T, tu, le, sl⟩, ⟨p, q, l, st⟩, ⟨cp, R, wr, lo⟩, mo, sp, fi⟩ := x
  simp only [aggSe]
  have e : cntOkS (((I, B, E), T, tu, le, sl), ⟨p, q, l, st⟩, (cp, R, wr, lo), mo, sp, fi) = ((decide (0 ≤ sp) && decide (sp ≤ 1000000000000)) && (decide (0 ≤ fi) && decide (fi ≤ 1000000000000)) && (decide (0 ≤ wr) && decide (wr ≤ 1000000000000)) && (decide (0 ≤ lo) && decide (lo ≤ 1000000000000))) := rfl
  rw [e]
  refine Holds.go (c := cxCoI) Try.func78 rfl Try.results78 Try.ntmps78 (by omega) (by simp) rfl ?_
  intro X0 w0
  (repeat' (first | refine WP.seq ?_ | refine WP.block ?_ | ((first | refine WP.region ?_ | refine WP.condW ?_ | refine WP.ret ?_ | refine WP.exit ?_ | refine WP.skip ?_); simp only [go_sem, tyAll, Nat.reduceAdd, Nat.reduceLT, Nat.reduceLeDiff, Nat.reduceEqDiff, Nat.reduceMul, Nat.reduceSub, Nat.reduceGT, reduceIte, Int.reduceNeg, Int.reduceToNat]) |  refine And.intro ?_ ?_ | intro _))
  all_goals first | omega | rfl | skip
  all_goals trace_state
end
section
noncomputable def cxSoI : Cx := { P := Try.prog, tys := tys, C := [(55, k60), (75, kPcOk), (76, kTmOk), (77, kRgOk), (78, kCntOk)], hty := tysOk, hC := COk.cons c60 (COk.cons cPcOkI (COk.cons cTmOkI (COk.cons cRgOkI (COk.cons cCntOkI (COk.nil _))))) }
theorem cxSoI_t : cxSoI.tys = tys := rfl
theorem cxSoI_c : cxSoI.C = [(55, k60), (75, kPcOk), (76, kTmOk), (77, kRgOk), (78, kCntOk)] := rfl
attribute [local go_sem] cxSoI_t cxSoI_c k60 kPcOk kTmOk kRgOk kCntOk
theorem cSeOkI : Cn Try.prog 38 kSeOk := by
  refine Cn.pur Try.func38 (by kernel_rfl) rfl fun d x hx => ?_
  obtain ⟨⟨⟨I, B, E⟩, T, tu, le, sl⟩, ⟨p, q, l, st⟩, ⟨cp, R, wr, lo⟩, mo, sp, fi⟩ := x
  obtain ⟨hP, hR, hz⟩ := hx
  simp only [aggSe] at hP hR hz ⊢
  have e : sessOk (((I, B, E), T, tu, le, sl), ⟨p, q, l, st⟩, (cp, R, wr, lo), mo, sp, fi) = (procOk ((I, B, E), T, tu, le, sl) && tmOk ⟨p, q, l, st⟩ && ringOk (cp, R, wr, lo) && (decide (0 ≤ mo) && decide (mo ≤ 1200)) && cntOkS (((I, B, E), T, tu, le, sl), ⟨p, q, l, st⟩, (cp, R, wr, lo), mo, sp, fi)) := by
    rw [Bool.eq_iff_iff]
    simp only [sessOk, cntOkS, Bool.and_eq_true, decide_eq_true_eq]
    constructor
    · rintro ⟨⟨⟨h1, h2⟩, h3⟩, h4⟩
      have h5 := h3
      unfold ringOk at h5
      simp only [Bool.and_eq_true, decide_eq_true_eq] at h5
      refine ⟨⟨⟨⟨h1, h2⟩, h3⟩, ?_⟩, ?_⟩ <;> omega
    · rintro ⟨⟨⟨⟨h1, h2⟩, h3⟩, h4⟩, h5⟩
      refine ⟨⟨⟨h1, h2⟩, h3⟩, ?_⟩
      omega
  rw [e]
  refine Holds.go (c := cxSoI) Try.func38 rfl Try.results38 Try.ntmps38 (by omega) (by simp) rfl ?_
  intro X0 w0
  (repeat' (first | refine WP.seq ?_ | refine WP.block ?_ | ((first | refine WP.region ?_ | refine WP.condW ?_ | refine WP.ret ?_ | refine WP.exit ?_ | refine WP.skip ?_); simp only [go_sem, tyAll, Nat.reduceAdd, Nat.reduceLT, Nat.reduceLeDiff, Nat.reduceEqDiff, Nat.reduceMul, Nat.reduceSub, Nat.reduceGT, reduceIte, Int.reduceNeg, Int.reduceToNat]) |  refine And.intro ?_ ?_ | intro _))
  all_goals first | omega | exact hP | exact hP.1 | exact hP.2.1 | exact hP.2.2 | exact hP.2.2 _ ‹_› | exact hP.1.1 | exact hP.1.1.1 | exact hP.1.1.2 | exact hP.1.1.2 _ ‹_› | exact (hP.1.1.2 _ ‹_›).1 | exact (hP.1.1.2 _ ‹_›).2.1 | exact (hP.1.1.2 _ ‹_›).2.2 _ ‹_› | exact hP.1.2.1 | exact hP.1.2.2 | rfl | (rename_i h; first | exact h.1 | exact h.2 | exact h.1.1 | exact h.1.2) | skip
  all_goals trace_state
end
section
noncomputable def cxSoS : Cx := { P := Try.prog, tys := tys, C := [(71, k60), (68, kPcOk), (69, kTmOk), (70, kRgOk)], hty := tysOk, hC := COk.cons c58 (COk.cons cPcOkS (COk.cons cTmOkS (COk.cons cRgOkS (COk.nil _)))) }
theorem cxSoS_t : cxSoS.tys = tys := rfl
theorem cxSoS_c : cxSoS.C = [(71, k60), (68, kPcOk), (69, kTmOk), (70, kRgOk)] := rfl
attribute [local go_sem] cxSoS_t cxSoS_c k60 kPcOk kTmOk kRgOk
theorem cSeOkS : Cn Try.prog 36 kSeOk := by
  refine Cn.pur Try.func36 (by kernel_rfl) rfl fun d x hx => ?_
  obtain ⟨⟨⟨I, B, E⟩, T, tu, le, sl⟩, ⟨p, q, l, st⟩, ⟨cp, R, wr, lo⟩, mo, sp, fi⟩ := x
  obtain ⟨hP, hR, hz⟩ := hx
  simp only [aggSe] at hP hR hz ⊢
  have e : sessOk (((I, B, E), T, tu, le, sl), ⟨p, q, l, st⟩, (cp, R, wr, lo), mo, sp, fi) = (procOk ((I, B, E), T, tu, le, sl) && tmOk ⟨p, q, l, st⟩ && ringOk (cp, R, wr, lo) && (decide (0 ≤ mo) && decide (mo ≤ 1200)) && (decide (0 ≤ sp) && decide (sp ≤ 1000000000000)) && (decide (0 ≤ fi) && decide (fi ≤ 1000000000000))) := by
    rw [Bool.eq_iff_iff]
    simp only [sessOk, Bool.and_eq_true, decide_eq_true_eq, and_assoc]
  rw [e]
  refine Holds.go (c := cxSoS) Try.func36 rfl Try.results36 Try.ntmps36 (by omega) (by simp) rfl ?_
  intro X0 w0
  (repeat' (first | refine WP.seq ?_ | refine WP.block ?_ | ((first | refine WP.region ?_ | refine WP.condW ?_ | refine WP.ret ?_ | refine WP.exit ?_ | refine WP.skip ?_); simp only [go_sem, tyAll, Nat.reduceAdd, Nat.reduceLT, Nat.reduceLeDiff, Nat.reduceEqDiff, Nat.reduceMul, Nat.reduceSub, Nat.reduceGT, reduceIte, Int.reduceNeg, Int.reduceToNat]) |  refine And.intro ?_ ?_ | intro _))
  all_goals first | omega | exact hP | exact hP.1 | exact hP.2.1 | exact hP.2.2 | exact hP.2.2 _ ‹_› | exact hP.1.1 | exact hP.1.1.1 | exact hP.1.1.2 | exact hP.1.1.2 _ ‹_› | exact (hP.1.1.2 _ ‹_›).1 | exact (hP.1.1.2 _ ‹_›).2.1 | exact (hP.1.1.2 _ ‹_›).2.2 _ ‹_› | exact hP.1.2.1 | exact hP.1.2.2 | rfl | (rename_i h; first | exact h.1 | exact h.2 | exact h.1.1 | exact h.1.2) | skip
  all_goals trace_state
end
end
section
open Go.Vc
set_option linter.unusedSimpArgs false
set_option linter.unusedVariables false
set_option maxHeartbeats 1000000
set_option maxRecDepth 10000
attribute [local irreducible] Go.Vc.WP
attribute [local go_sem] cx0_t cx0_c
open Go.Pl
attribute [local go_sem] decI_enc decImage_enc spA decS_enc decMach_enc oneMach_f mach_eta pcA rgA seA decSymbol_enc
def szA (n : Nat) (l : Int) : Int := if l - n < 0 then -1 else l - n
def szL : List (Int → Int) → Int → Int
  | [], l => l
  | f :: fs, l => if f l < 0 then -1 else szL fs (f l)
theorem szL_drop (F : List (Int → Int)) (k : Nat) (l : Int) (h : k < F.length) : szL (F.drop k) l = if F[k] l < 0 then -1 else szL (F.drop (k + 1)) (F[k] l) := by
  rw [List.drop_eq_getElem_cons h]; rfl
def szList (F : List (Int → Int)) (l : Int) : Int := if l - F.length < 0 then -1 else szL F (l - F.length)
/-- a size is taken off: what is left is no more than it was, or -1 -/
def Szf (f : Int → Int) : Prop := ∀ l, 0 ≤ l → -1 ≤ f l ∧ f l ≤ l
theorem szA_f (n : Nat) : Szf (szA n) := fun l h => by unfold szA; split <;> omega
theorem szL_f : ∀ (F : List (Int → Int)), (∀ f ∈ F, Szf f) → Szf (szL F)
  | [], _, l, h => by unfold szL; omega
  | f :: fs, hF, l, h => by
    have h1 := hF f List.mem_cons_self l h
    unfold szL
    split
    · omega
    · have := szL_f fs (fun g hg => hF g (List.mem_cons_of_mem _ hg)) (f l) (by omega)
      omega
theorem szList_f (F : List (Int → Int)) (hF : ∀ f ∈ F, Szf f) : Szf (szList F) := fun l h => by
  unfold szList
  split
  · omega
  · have := szL_f F hF (l - F.length) (by omega)
    omega
theorem szL_ok : ∀ (F : List (Int → Int)) (l : Int), (∀ f ∈ F, Szf f) → 0 ≤ l → 0 ≤ szL F l → ∀ f ∈ F, ∃ r, 0 ≤ r ∧ r ≤ l ∧ 0 ≤ f r
  | [], l, _, _, _ => by simp
  | g :: fs, l, hF, h0, h => by
    have h1 := hF g List.mem_cons_self l h0
    unfold szL at h
    split at h
    · omega
    · rename_i hg
      intro f hf
      rcases List.mem_cons.1 hf with rfl | hf
      · exact ⟨l, h0, by omega, by omega⟩
      · obtain ⟨r, a, b, c⟩ := szL_ok fs (g l) (fun g hg => hF g (List.mem_cons_of_mem _ hg)) (by omega) h f hf
        exact ⟨r, a, by omega, c⟩
theorem szList_ok {F : List (Int → Int)} {l : Int} (hF : ∀ f ∈ F, Szf f) (h : 0 ≤ szList F l) : F.length ≤ l ∧ ∀ f ∈ F, ∃ r, 0 ≤ r ∧ r ≤ l ∧ 0 ≤ f r := by
  unfold szList at h
  split at h
  · omega
  · refine ⟨by omega, fun f hf => ?_⟩
    obtain ⟨r, a, b, c⟩ := szL_ok F (l - F.length) hF (by omega) h f hf
    exact ⟨r, a, by omega, c⟩
theorem szf_neg {f : Int → Int} (hf : Szf f) {l : Int} (h0 : 0 ≤ l) (h : f l < 0) : f l = -1 := by have := hf l h0; omega
theorem szGo_f : ∀ (L : List Nat), Szf (szGo L)
  | [], l, h => by unfold szGo; omega
  | n :: L, l, h => by
    unfold szGo
    split
    · omega
    · have := szGo_f L (l - n) (by omega); omega
theorem szvSymbol_f (Y : List Symbol) : Szf (szvSymbol Y) := fun l h => by
  unfold szvSymbol
  split
  · omega
  · have := szGo_f (sizesSymbol Y) (l - Y.length) (by omega); omega
theorem szvSymbol_ok' {L : List Symbol} {l : Int} (h : 0 ≤ szvSymbol L l) : L.length ≤ l ∧ ∀ x ∈ L, x.name.size ≤ l := by
  unfold szvSymbol at h
  split at h
  · omega
  · rename_i h2
    refine ⟨by omega, fun x hx => ?_⟩
    have := szGo_ok (sizesSymbol L) _ (by omega) h x.name.size (List.mem_map.2 ⟨x, hx, rfl⟩)
    omega
/-- one size, and then another of what it leaves -/
def szT (f g : Int → Int) (l : Int) : Int := if f l < 0 then -1 else g (f l)
theorem szT_f {f g : Int → Int} (hf : Szf f) (hg : Szf g) : Szf (szT f g) := fun l h => by
  have h1 := hf l h
  unfold szT
  split
  · omega
  · have := hg (f l) (by omega); omega
theorem szT_ok {f g : Int → Int} (hf : Szf f) {l : Int} (h0 : 0 ≤ l) (h : 0 ≤ szT f g l) : 0 ≤ f l ∧ f l ≤ l ∧ 0 ≤ g (f l) := by
  have h1 := hf l h0
  unfold szT at h
  split at h <;> omega
def kszIn : Ctr := pur (fun args => (decI (aR args 0), aI args 1)) (fun x => [.sl 1 (x.1.map encI), .v (.int .i64 x.2)]) (fun x => x.1.length ≤ maxLen ∧ 0 ≤ x.2 ∧ x.2 ≤ 1048576)
  (fun _ x => .v (.int .i64 (szA x.1.length x.2))) (fun _ _ => [])
section
noncomputable def cxZi : Cx := { P := Try.prog, tys := tys, C := [], hty := tysOk, hC := COk.nil _ }
theorem cxZi_t : cxZi.tys = tys := rfl
theorem cxZi_c : cxZi.C = [] := rfl
attribute [local go_sem] cxZi_t cxZi_c 
theorem cszIn : Cn Try.prog 137 kszIn := by
  refine Cn.pur Try.func137 (by kernel_rfl) rfl fun d x hx => ?_
  obtain ⟨L, left⟩ := x
  obtain ⟨hL, h0, h1⟩ := hx
  simp only at hL h0 h1 ⊢
  have hm : maxLen = 9223372036854775807 := rfl
  refine Holds.go (c := cxZi) Try.func137 rfl Try.results137 Try.ntmps137 (by omega) (by simp) rfl ?_
  intro X0 w0
  (repeat' (first | refine WP.seq ?_ | refine WP.block ?_ | ((first | refine WP.region ?_ | refine WP.condW ?_ | refine WP.ret ?_ | refine WP.exit ?_ | refine WP.skip ?_); simp only [go_sem, tyAll, Nat.reduceAdd, Nat.reduceLT, Nat.reduceLeDiff, Nat.reduceEqDiff, Nat.reduceMul, Nat.reduceSub, Nat.reduceGT, reduceIte, Int.reduceNeg, Int.reduceToNat]) |  refine And.intro ?_ ?_ | intro _))
  all_goals first | omega | skip
  · rename_i h; rw [szA, if_pos h]
  · rename_i h; rw [szA, if_neg (by omega)]
end
def szvStr (L : List ByteArray) : Int → Int := szList (L.map fun s => szA s.size)
def kszStr : Ctr := pur (fun args => (decS (aR args 0), aI args 1)) (fun x => [.sl 1 (x.1.map encS), .v (.int .i64 x.2)]) (fun x => x.1.length ≤ maxLen ∧ (∀ s ∈ x.1, s.size ≤ maxLen) ∧ 0 ≤ x.2 ∧ x.2 ≤ 1048576)
  (fun _ x => .v (.int .i64 (szvStr x.1 x.2))) (fun _ _ => [])
section
noncomputable def cxZs : Cx := { P := Try.prog, tys := tys, C := [], hty := tysOk, hC := COk.nil _ }
theorem cxZs_t : cxZs.tys = tys := rfl
theorem cxZs_c : cxZs.C = [] := rfl
attribute [local go_sem] cxZs_t cxZs_c 
theorem cszStr : Cn Try.prog 82 kszStr := by
  refine Cn.pur Try.func82 (by kernel_rfl) rfl fun d x hx => ?_
  obtain ⟨L, left⟩ := x
  obtain ⟨hL, hs, h0, h1⟩ := hx
  simp only at hL hs h0 h1 ⊢
  have hm : maxLen = 9223372036854775807 := rfl
  generalize hF : (L.map fun s => szA s.size) = F
  have hlen : F.length = L.length := by rw [← hF, List.length_map]
  have hsz : szvStr L left = szList F left := by rw [← hF]; rfl
  rw [hsz]
  refine Holds.go (c := cxZs) Try.func82 rfl Try.results82 Try.ntmps82 (by omega) (by simp) rfl ?_
  intro X0 w0
  (repeat' (first | refine WP.seq ?_ | refine WP.block ?_ | ((first | refine WP.region ?_ | refine WP.condW ?_ | refine WP.ret ?_ | refine WP.exit ?_ | refine WP.skip ?_); simp only [go_sem, tyAll, Nat.reduceAdd, Nat.reduceLT, Nat.reduceLeDiff, Nat.reduceEqDiff, Nat.reduceMul, Nat.reduceSub, Nat.reduceGT, reduceIte, Int.reduceNeg, Int.reduceToNat]) |  refine And.intro ?_ ?_ | intro _))
  all_goals first | omega | skip
  · rename_i h; rw [szList, hlen, if_pos h]
  rename_i hge
  refine WP.loop (fun s : Nat × Int => ⟨[(0, .sl 1 (L.map encS)), (1, .v (.int .i64 s.2)), (5, .v (.int .i64 s.1))], []⟩)
    (fun s => s.1 ≤ L.length ∧ 0 ≤ s.2 ∧ s.2 ≤ 1048576 ∧ szList F left = szL (F.drop s.1) s.2) (fun s => L.length - s.1) (0, left - L.length)
    ⟨by simp, by simpa using hge, by simp only; omega, by rw [szList, hlen, if_neg (by omega)]; rfl⟩ ?_ ?_
  · simp only [go_sem, tyAll, Nat.reduceAdd, Nat.reduceLT, Nat.reduceLeDiff, Nat.reduceEqDiff, Nat.reduceMul, Nat.reduceSub, Nat.reduceGT, reduceIte, Int.reduceNeg, Int.reduceToNat]; first | exact ⟨rfl, rfl⟩ | rfl
  rintro ⟨k, r⟩ ⟨hk, hr0, hr1, he⟩
  simp only at hk hr0 hr1 he ⊢
  by_cases hlt : k < L.length
  · have h2 := rowAt_map encS L k hlt
    have h3 := hs _ (List.getElem_mem hlt)
    have hFk : F[k]'(by omega) = szA L[k].size := by subst hF; simp
    have h4 := szL_drop F k r (by omega)
    rw [hFk] at h4
    have hu : szA L[k].size r = if r - (L[k].size : Int) < 0 then -1 else r - (L[k].size : Int) := rfl
    by_cases h5 : r - (L[k].size : Int) < 0
    · rw [if_pos h5] at hu
      rw [he, h4, hu, if_pos (by omega)]
      (repeat' (first | refine WP.seq ?_ | refine WP.block ?_ | ((first | refine WP.region ?_ | refine WP.condW ?_ | refine WP.ret ?_ | refine WP.exit ?_ | refine WP.skip ?_); simp only [go_sem, h2, encS, h5, tyAll, Nat.reduceAdd, Nat.reduceLT, Nat.reduceLeDiff, Nat.reduceEqDiff, Nat.reduceMul, Nat.reduceSub, Nat.reduceGT, reduceIte, Int.reduceNeg, Int.reduceToNat]) |  refine And.intro ?_ ?_ | intro _))
      all_goals first | omega | skip
      all_goals trace_state
    · rw [if_neg h5] at hu
      rw [hu, if_neg h5] at h4
      (repeat' (first | refine WP.seq ?_ | refine WP.block ?_ | ((first | refine WP.region ?_ | refine WP.condW ?_ | refine WP.ret ?_ | refine WP.exit ?_ | refine WP.skip ?_); simp only [go_sem, h2, encS, h5, tyAll, Nat.reduceAdd, Nat.reduceLT, Nat.reduceLeDiff, Nat.reduceEqDiff, Nat.reduceMul, Nat.reduceSub, Nat.reduceGT, reduceIte, Int.reduceNeg, Int.reduceToNat]) |  refine And.intro ?_ ?_ | intro _))
      all_goals first | omega | exact ⟨(k + 1, r - L[k].size), ⟨by simp only; omega, by simp only; omega, by simp only; omega, by rw [he, h4]⟩, by simp only; omega, rfl, rfl⟩ | skip
      all_goals trace_state
  · (repeat' (first | refine WP.seq ?_ | refine WP.block ?_ | ((first | refine WP.region ?_ | refine WP.condW ?_ | refine WP.ret ?_ | refine WP.exit ?_ | refine WP.skip ?_); simp only [go_sem, tyAll, Nat.reduceAdd, Nat.reduceLT, Nat.reduceLeDiff, Nat.reduceEqDiff, Nat.reduceMul, Nat.reduceSub, Nat.reduceGT, reduceIte, Int.reduceNeg, Int.reduceToNat]) |  refine And.intro ?_ ?_ | intro _))
    all_goals first | omega | skip
    rw [he, List.drop_of_length_le (by omega)]
    rfl
end
def szvImg (x : Image) : Int → Int := szT (szA x.code.size) (szvSymbol x.symbols)
def bigImg (x : Image) : Prop := x.code.size ≤ maxLen ∧ x.symbols.length ≤ maxLen ∧ ∀ r ∈ x.symbols, r.name.size ≤ maxLen
theorem szvImg_f (x : Image) : Szf (szvImg x) := szT_f (szA_f _) (szvSymbol_f _)
def kszImg : Ctr := pur (fun args => (oneImage (aC args 0), aI args 1)) (fun x => [.agg [.v (.string x.1.code), .sl 3 (x.1.symbols.map encSymbol)], .v (.int .i64 x.2)]) (fun x => bigImg x.1 ∧ 0 ≤ x.2 ∧ x.2 ≤ 1048576)
  (fun _ x => .v (.int .i64 (szvImg x.1 x.2))) (fun _ _ => [])
section
attribute [local go_sem] oneImage
noncomputable def cxZm : Cx := { P := Try.prog, tys := tys, C := [(154, kszSymbolS)], hty := tysOk, hC := COk.cons cszSymbolS (COk.nil _) }
theorem cxZm_t : cxZm.tys = tys := rfl
theorem cxZm_c : cxZm.C = [(154, kszSymbolS)] := rfl
attribute [local go_sem] cxZm_t cxZm_c kszSymbolS
theorem cszImg : Cn Try.prog 149 kszImg := by
  refine Cn.pur Try.func149 (by kernel_rfl) rfl fun d x hx => ?_
  obtain ⟨⟨c, Y⟩, left⟩ := x
  obtain ⟨⟨hc, hY, hn⟩, h0, h1⟩ := hx
  simp only at hc hY hn h0 h1 ⊢
  have hm : maxLen = 9223372036854775807 := rfl
  have hu : szvImg ⟨c, Y⟩ left = if szA c.size left < 0 then -1 else szvSymbol Y (szA c.size left) := rfl
  have ha : szA c.size left = if left - (c.size : Int) < 0 then -1 else left - (c.size : Int) := rfl
  refine Holds.go (c := cxZm) Try.func149 rfl Try.results149 Try.ntmps149 (by omega) (by simp) rfl ?_
  intro X0 w0
  by_cases h5 : left - (c.size : Int) < 0
  · rw [if_pos h5] at ha
    rw [hu, ha, if_pos (by omega)]
    (repeat' (first | refine WP.seq ?_ | refine WP.block ?_ | ((first | refine WP.region ?_ | refine WP.condW ?_ | refine WP.ret ?_ | refine WP.exit ?_ | refine WP.skip ?_); simp only [go_sem, h5, tyAll, Nat.reduceAdd, Nat.reduceLT, Nat.reduceLeDiff, Nat.reduceEqDiff, Nat.reduceMul, Nat.reduceSub, Nat.reduceGT, reduceIte, Int.reduceNeg, Int.reduceToNat]) |  refine And.intro ?_ ?_ | intro _))
    all_goals first | omega | skip
    all_goals trace_state
  · rw [if_neg h5] at ha
    rw [hu, ha, if_neg h5]
    (repeat' (first | refine WP.seq ?_ | refine WP.block ?_ | ((first | refine WP.region ?_ | refine WP.condW ?_ | refine WP.ret ?_ | refine WP.exit ?_ | refine WP.skip ?_); simp only [go_sem, h5, tyAll, Nat.reduceAdd, Nat.reduceLT, Nat.reduceLeDiff, Nat.reduceEqDiff, Nat.reduceMul, Nat.reduceSub, Nat.reduceGT, reduceIte, Int.reduceNeg, Int.reduceToNat]) |  refine And.intro ?_ ?_ | intro _))
    all_goals first | omega | exact hn _ ‹_› | skip
    all_goals first | (rename_i h; exact (by rw [szf_neg (szvSymbol_f Y) (by omega) h])) | skip
    all_goals trace_state
end
end
section
open Go.Vc
set_option linter.unusedSimpArgs false
set_option linter.unusedVariables false
set_option maxHeartbeats 1000000
set_option maxRecDepth 10000
attribute [local irreducible] Go.Vc.WP
attribute [local go_sem] cx0_t cx0_c
open Go.Pl
attribute [local go_sem] decI_enc decImage_enc spA decS_enc decMach_enc oneMach_f mach_eta pcA rgA seA decSymbol_enc
attribute [local irreducible] bigImg

def szvImageS (L : List Image) : Int → Int := szList (L.map szvImg)
theorem szvImageS_f (L : List Image) : Szf (szvImageS L) := szList_f _ (by simp only [List.mem_map]; rintro _ ⟨x, _, rfl⟩; exact szvImg_f x)
def kszImgS : Ctr := pur (fun args => (decImage (aR args 0), aI args 1)) (fun x => [.sl 2 (x.1.map encImage), .v (.int .i64 x.2)]) (fun x => x.1.length ≤ maxLen ∧ (∀ s ∈ x.1, bigImg s) ∧ 0 ≤ x.2 ∧ x.2 ≤ 1048576)
  (fun _ x => .v (.int .i64 (szvImageS x.1 x.2))) (fun _ _ => [])
section
attribute [local go_sem] oneImage
noncomputable def cxZms : Cx := { P := Try.prog, tys := tys, C := [(149, kszImg)], hty := tysOk, hC := COk.cons cszImg (COk.nil _) }
theorem cxZms_t : cxZms.tys = tys := rfl
theorem cxZms_c : cxZms.C = [(149, kszImg)] := rfl
attribute [local go_sem] cxZms_t cxZms_c kszImg
theorem cszImgS : Cn Try.prog 136 kszImgS := by
  refine Cn.pur Try.func136 (by kernel_rfl) rfl fun d x hx => ?_
  obtain ⟨L, left⟩ := x
  obtain ⟨hL, hs, h0, h1⟩ := hx
  simp only at hL hs h0 h1 ⊢
  have hm : maxLen = 9223372036854775807 := rfl
  generalize hF : (L.map szvImg) = F
  have hlen : F.length = L.length := by rw [← hF, List.length_map]
  have hsz : szvImageS L left = szList F left := by rw [← hF]; rfl
  rw [hsz]
  refine Holds.go (c := cxZms) Try.func136 rfl Try.results136 Try.ntmps136 (by omega) (by simp) rfl ?_
  intro X0 w0
  (repeat' (first | refine WP.seq ?_ | refine WP.block ?_ | ((first | refine WP.region ?_ | refine WP.condW ?_ | refine WP.ret ?_ | refine WP.exit ?_ | refine WP.skip ?_); simp only [go_sem, tyAll, Nat.reduceAdd, Nat.reduceLT, Nat.reduceLeDiff, Nat.reduceEqDiff, Nat.reduceMul, Nat.reduceSub, Nat.reduceGT, reduceIte, Int.reduceNeg, Int.reduceToNat]) |  refine And.intro ?_ ?_ | intro _))
  all_goals first | omega | skip
  · rename_i h; rw [szList, hlen, if_pos h]
  rename_i hge
  refine WP.loop (fun s : Nat × Int => ⟨[(0, .sl 2 (L.map encImage)), (1, .v (.int .i64 s.2)), (5, .v (.int .i64 s.1))], []⟩)
    (fun s => s.1 ≤ L.length ∧ 0 ≤ s.2 ∧ s.2 ≤ 1048576 ∧ szList F left = szL (F.drop s.1) s.2) (fun s => L.length - s.1) (0, left - L.length)
    ⟨by simp, by simpa using hge, by simp only; omega, by rw [szList, hlen, if_neg (by omega)]; rfl⟩ ?_ ?_
  · simp only [go_sem, tyAll, Nat.reduceAdd, Nat.reduceLT, Nat.reduceLeDiff, Nat.reduceEqDiff, Nat.reduceMul, Nat.reduceSub, Nat.reduceGT, reduceIte, Int.reduceNeg, Int.reduceToNat]; first | exact ⟨rfl, rfl⟩ | rfl
  rintro ⟨k, r⟩ ⟨hk, hr0, hr1, he⟩
  simp only at hk hr0 hr1 he ⊢
  by_cases hlt : k < L.length
  · have h2 := rowAt_map encImage L k hlt
    have h3 := hs _ (List.getElem_mem hlt)
    have hFk : F[k]'(by omega) = szvImg L[k] := by subst hF; simp
    have h4 := szL_drop F k r (by omega)
    rw [hFk] at h4
    have h6 := szvImg_f L[k] r hr0
    by_cases h5 : szvImg L[k] r < 0
    · rw [he, h4, if_pos h5]
      (repeat' (first | refine WP.seq ?_ | refine WP.block ?_ | ((first | refine WP.region ?_ | refine WP.condW ?_ | refine WP.ret ?_ | refine WP.exit ?_ | refine WP.skip ?_); simp only [go_sem, h2, encImage, h5, tyAll, Nat.reduceAdd, Nat.reduceLT, Nat.reduceLeDiff, Nat.reduceEqDiff, Nat.reduceMul, Nat.reduceSub, Nat.reduceGT, reduceIte, Int.reduceNeg, Int.reduceToNat]) |  refine And.intro ?_ ?_ | intro _))
      all_goals first | omega | exact h3 | skip
      all_goals trace_state
    · rw [if_neg h5] at h4
      (repeat' (first | refine WP.seq ?_ | refine WP.block ?_ | ((first | refine WP.region ?_ | refine WP.condW ?_ | refine WP.ret ?_ | refine WP.exit ?_ | refine WP.skip ?_); simp only [go_sem, h2, encImage, h5, tyAll, Nat.reduceAdd, Nat.reduceLT, Nat.reduceLeDiff, Nat.reduceEqDiff, Nat.reduceMul, Nat.reduceSub, Nat.reduceGT, reduceIte, Int.reduceNeg, Int.reduceToNat]) |  refine And.intro ?_ ?_ | intro _))
      all_goals first | omega | exact h3 | exact ⟨(k + 1, szvImg L[k] r), ⟨by simp only; omega, by simp only; omega, by simp only; omega, by rw [he, h4]⟩, by simp only; omega, rfl, rfl⟩ | skip
      all_goals trace_state
  · (repeat' (first | refine WP.seq ?_ | refine WP.block ?_ | ((first | refine WP.region ?_ | refine WP.condW ?_ | refine WP.ret ?_ | refine WP.exit ?_ | refine WP.skip ?_); simp only [go_sem, tyAll, Nat.reduceAdd, Nat.reduceLT, Nat.reduceLeDiff, Nat.reduceEqDiff, Nat.reduceMul, Nat.reduceSub, Nat.reduceGT, reduceIte, Int.reduceNeg, Int.reduceToNat]) |  refine And.intro ?_ ?_ | intro _))
    all_goals first | omega | skip
    rw [he, List.drop_of_length_le (by omega)]
    rfl
end

def szvMach (x : Mach) : Int → Int := szT (szA x.stack.length) (szA x.out.length)
theorem szvMach_f (x : Mach) : Szf (szvMach x) := szT_f (szA_f _) (szA_f _)
def bigMach (x : Mach) : Prop := x.stack.length ≤ maxLen ∧ x.out.length ≤ maxLen
def kszMach : Ctr := pur (fun args => (oneMach (aC args 0), aI args 1)) (fun x => [.agg [.v (.int .i64 x.1.pc), .v (.int .i64 x.1.sp), .v (.int .i64 x.1.fp), .sl 1 (x.1.stack.map encI), .sl 1 (x.1.out.map encI), .v (.int .i64 x.1.state), .v (.int .i64 x.1.value)], .v (.int .i64 x.2)]) (fun x => bigMach x.1 ∧ 0 ≤ x.2 ∧ x.2 ≤ 1048576)
  (fun _ x => .v (.int .i64 (szvMach x.1 x.2))) (fun _ _ => [])
section
noncomputable def cxZa : Cx := { P := Try.prog, tys := tys, C := [(137, kszIn)], hty := tysOk, hC := COk.cons cszIn (COk.nil _) }
theorem cxZa_t : cxZa.tys = tys := rfl
theorem cxZa_c : cxZa.C = [(137, kszIn)] := rfl
attribute [local go_sem] cxZa_t cxZa_c kszIn
theorem cszMach : Cn Try.prog 138 kszMach := by
  refine Cn.pur Try.func138 (by kernel_rfl) rfl fun d x hx => ?_
  obtain ⟨⟨a, b, c, s, o, d2, e2⟩, left⟩ := x
  obtain ⟨⟨hs, ho⟩, h0, h1⟩ := hx
  simp only at hs ho h0 h1 ⊢
  have hu : szvMach ⟨a, b, c, s, o, d2, e2⟩ left = if szA s.length left < 0 then -1 else szA o.length (szA s.length left) := rfl
  have ha := szA_f s.length left h0
  rw [hu]
  refine Holds.go (c := cxZa) Try.func138 rfl Try.results138 Try.ntmps138 (by omega) (by simp) rfl ?_
  intro X0 w0
  by_cases h5 : szA s.length left < 0
  · rw [if_pos h5]
    (repeat' (first | refine WP.seq ?_ | refine WP.block ?_ | ((first | refine WP.region ?_ | refine WP.condW ?_ | refine WP.ret ?_ | refine WP.exit ?_ | refine WP.skip ?_); simp only [go_sem, h5, tyAll, Nat.reduceAdd, Nat.reduceLT, Nat.reduceLeDiff, Nat.reduceEqDiff, Nat.reduceMul, Nat.reduceSub, Nat.reduceGT, reduceIte, Int.reduceNeg, Int.reduceToNat]) |  refine And.intro ?_ ?_ | intro _))
    all_goals first | omega | skip
    all_goals trace_state
  · rw [if_neg h5]
    (repeat' (first | refine WP.seq ?_ | refine WP.block ?_ | ((first | refine WP.region ?_ | refine WP.condW ?_ | refine WP.ret ?_ | refine WP.exit ?_ | refine WP.skip ?_); simp only [go_sem, h5, tyAll, Nat.reduceAdd, Nat.reduceLT, Nat.reduceLeDiff, Nat.reduceEqDiff, Nat.reduceMul, Nat.reduceSub, Nat.reduceGT, reduceIte, Int.reduceNeg, Int.reduceToNat]) |  refine And.intro ?_ ?_ | intro _))
    all_goals first | omega | (rename_i h; rw [szf_neg (szA_f _) (by omega) h]) | skip
    all_goals trace_state
end
attribute [local irreducible] bigMach

def szvMachS (L : List Mach) : Int → Int := szList (L.map szvMach)
theorem szvMachS_f (L : List Mach) : Szf (szvMachS L) := szList_f _ (by simp only [List.mem_map]; rintro _ ⟨x, _, rfl⟩; exact szvMach_f x)
def kszMachS : Ctr := pur (fun args => (decMach (aR args 0), aI args 1)) (fun x => [.sl 7 (x.1.map encMach), .v (.int .i64 x.2)]) (fun x => x.1.length ≤ maxLen ∧ (∀ s ∈ x.1, bigMach s) ∧ 0 ≤ x.2 ∧ x.2 ≤ 1048576)
  (fun _ x => .v (.int .i64 (szvMachS x.1 x.2))) (fun _ _ => [])
section
attribute [local go_sem] oneMach
noncomputable def cxZas : Cx := { P := Try.prog, tys := tys, C := [(138, kszMach)], hty := tysOk, hC := COk.cons cszMach (COk.nil _) }
theorem cxZas_t : cxZas.tys = tys := rfl
theorem cxZas_c : cxZas.C = [(138, kszMach)] := rfl
attribute [local go_sem] cxZas_t cxZas_c kszMach
theorem cszMachS : Cn Try.prog 108 kszMachS := by
  refine Cn.pur Try.func108 (by kernel_rfl) rfl fun d x hx => ?_
  obtain ⟨L, left⟩ := x
  obtain ⟨hL, hs, h0, h1⟩ := hx
  simp only at hL hs h0 h1 ⊢
  have hm : maxLen = 9223372036854775807 := rfl
  generalize hF : (L.map szvMach) = F
  have hlen : F.length = L.length := by rw [← hF, List.length_map]
  have hsz : szvMachS L left = szList F left := by rw [← hF]; rfl
  rw [hsz]
  refine Holds.go (c := cxZas) Try.func108 rfl Try.results108 Try.ntmps108 (by omega) (by simp) rfl ?_
  intro X0 w0
  (repeat' (first | refine WP.seq ?_ | refine WP.block ?_ | ((first | refine WP.region ?_ | refine WP.condW ?_ | refine WP.ret ?_ | refine WP.exit ?_ | refine WP.skip ?_); simp only [go_sem, tyAll, Nat.reduceAdd, Nat.reduceLT, Nat.reduceLeDiff, Nat.reduceEqDiff, Nat.reduceMul, Nat.reduceSub, Nat.reduceGT, reduceIte, Int.reduceNeg, Int.reduceToNat]) |  refine And.intro ?_ ?_ | intro _))
  all_goals first | omega | skip
  · rename_i h; rw [szList, hlen, if_pos h]
  rename_i hge
  refine WP.loop (fun s : Nat × Int => ⟨[(0, .sl 7 (L.map encMach)), (1, .v (.int .i64 s.2)), (5, .v (.int .i64 s.1))], []⟩)
    (fun s => s.1 ≤ L.length ∧ 0 ≤ s.2 ∧ s.2 ≤ 1048576 ∧ szList F left = szL (F.drop s.1) s.2) (fun s => L.length - s.1) (0, left - L.length)
    ⟨by simp, by simpa using hge, by simp only; omega, by rw [szList, hlen, if_neg (by omega)]; rfl⟩ ?_ ?_
  · simp only [go_sem, tyAll, Nat.reduceAdd, Nat.reduceLT, Nat.reduceLeDiff, Nat.reduceEqDiff, Nat.reduceMul, Nat.reduceSub, Nat.reduceGT, reduceIte, Int.reduceNeg, Int.reduceToNat]; first | exact ⟨rfl, rfl⟩ | rfl
  rintro ⟨k, r⟩ ⟨hk, hr0, hr1, he⟩
  simp only at hk hr0 hr1 he ⊢
  by_cases hlt : k < L.length
  · have h2 := rowAt_map encMach L k hlt
    have h3 := hs _ (List.getElem_mem hlt)
    have hFk : F[k]'(by omega) = szvMach L[k] := by subst hF; simp
    have h4 := szL_drop F k r (by omega)
    rw [hFk] at h4
    have h6 := szvMach_f L[k] r hr0
    by_cases h5 : szvMach L[k] r < 0
    · rw [he, h4, if_pos h5]
      (repeat' (first | refine WP.seq ?_ | refine WP.block ?_ | ((first | refine WP.region ?_ | refine WP.condW ?_ | refine WP.ret ?_ | refine WP.exit ?_ | refine WP.skip ?_); simp only [go_sem, h2, encMach, h5, tyAll, Nat.reduceAdd, Nat.reduceLT, Nat.reduceLeDiff, Nat.reduceEqDiff, Nat.reduceMul, Nat.reduceSub, Nat.reduceGT, reduceIte, Int.reduceNeg, Int.reduceToNat]) |  refine And.intro ?_ ?_ | intro _))
      all_goals first | omega | exact h3 | skip
      all_goals trace_state
    · rw [if_neg h5] at h4
      (repeat' (first | refine WP.seq ?_ | refine WP.block ?_ | ((first | refine WP.region ?_ | refine WP.condW ?_ | refine WP.ret ?_ | refine WP.exit ?_ | refine WP.skip ?_); simp only [go_sem, h2, encMach, h5, tyAll, Nat.reduceAdd, Nat.reduceLT, Nat.reduceLeDiff, Nat.reduceEqDiff, Nat.reduceMul, Nat.reduceSub, Nat.reduceGT, reduceIte, Int.reduceNeg, Int.reduceToNat]) |  refine And.intro ?_ ?_ | intro _))
      all_goals first | omega | exact h3 | exact ⟨(k + 1, szvMach L[k] r), ⟨by simp only; omega, by simp only; omega, by simp only; omega, by rw [he, h4]⟩, by simp only; omega, rfl, rfl⟩ | skip
      all_goals trace_state
  · (repeat' (first | refine WP.seq ?_ | refine WP.block ?_ | ((first | refine WP.region ?_ | refine WP.condW ?_ | refine WP.ret ?_ | refine WP.exit ?_ | refine WP.skip ?_); simp only [go_sem, tyAll, Nat.reduceAdd, Nat.reduceLT, Nat.reduceLeDiff, Nat.reduceEqDiff, Nat.reduceMul, Nat.reduceSub, Nat.reduceGT, reduceIte, Int.reduceNeg, Int.reduceToNat]) |  refine And.intro ?_ ?_ | intro _))
    all_goals first | omega | skip
    rw [he, List.drop_of_length_le (by omega)]
    rfl
end

abbrev SpX := List Image × List Int × List Int
def szvSp (x : SpX) : Int → Int := szT (szvImageS x.1) (szT (szA x.2.1.length) (szA x.2.2.length))
theorem szvSp_f (x : SpX) : Szf (szvSp x) := szT_f (szvImageS_f _) (szT_f (szA_f _) (szA_f _))
def bigSp (x : SpX) : Prop := (x.1.length ≤ maxLen ∧ ∀ s ∈ x.1, bigImg s) ∧ x.2.1.length ≤ maxLen ∧ x.2.2.length ≤ maxLen
def kszSp : Ctr := pur (fun args => (spA args 0, aI args 1)) (fun x => [.agg [.sl 2 (x.1.1.map encImage), .sl 1 (x.1.2.1.map encI), .sl 1 (x.1.2.2.map encI)], .v (.int .i64 x.2)]) (fun x => bigSp x.1 ∧ 0 ≤ x.2 ∧ x.2 ≤ 1048576)
  (fun _ x => .v (.int .i64 (szvSp x.1 x.2))) (fun _ _ => [])
section
noncomputable def cxZp : Cx := { P := Try.prog, tys := tys, C := [(137, kszIn), (136, kszImgS)], hty := tysOk, hC := COk.cons cszIn (COk.cons cszImgS (COk.nil _)) }
theorem cxZp_t : cxZp.tys = tys := rfl
theorem cxZp_c : cxZp.C = [(137, kszIn), (136, kszImgS)] := rfl
attribute [local go_sem] cxZp_t cxZp_c kszIn kszImgS
theorem cszSp : Cn Try.prog 107 kszSp := by
  refine Cn.pur Try.func107 (by kernel_rfl) rfl fun d x hx => ?_
  obtain ⟨⟨I, B, E⟩, left⟩ := x
  obtain ⟨⟨⟨hI, hIm⟩, hB, hE⟩, h0, h1⟩ := hx
  simp only at hI hIm hB hE h0 h1 ⊢
  have hu : szvSp (I, B, E) left = if szvImageS I left < 0 then -1 else if szA B.length (szvImageS I left) < 0 then -1 else szA E.length (szA B.length (szvImageS I left)) := rfl
  have ha := szvImageS_f I left h0
  rw [hu]
  refine Holds.go (c := cxZp) Try.func107 rfl Try.results107 Try.ntmps107 (by omega) (by simp) rfl ?_
  intro X0 w0
  by_cases h5 : szvImageS I left < 0
  · rw [if_pos h5]
    (repeat' (first | refine WP.seq ?_ | refine WP.block ?_ | ((first | refine WP.region ?_ | refine WP.condW ?_ | refine WP.ret ?_ | refine WP.exit ?_ | refine WP.skip ?_); simp only [go_sem, h5, tyAll, Nat.reduceAdd, Nat.reduceLT, Nat.reduceLeDiff, Nat.reduceEqDiff, Nat.reduceMul, Nat.reduceSub, Nat.reduceGT, reduceIte, Int.reduceNeg, Int.reduceToNat]) |  refine And.intro ?_ ?_ | intro _))
    all_goals first | omega | exact hIm _ ‹_› | skip
    all_goals trace_state
  · rw [if_neg h5]
    have hb := szA_f B.length (szvImageS I left) (by omega)
    by_cases h6 : szA B.length (szvImageS I left) < 0
    · rw [if_pos h6]
      (repeat' (first | refine WP.seq ?_ | refine WP.block ?_ | ((first | refine WP.region ?_ | refine WP.condW ?_ | refine WP.ret ?_ | refine WP.exit ?_ | refine WP.skip ?_); simp only [go_sem, h5, h6, tyAll, Nat.reduceAdd, Nat.reduceLT, Nat.reduceLeDiff, Nat.reduceEqDiff, Nat.reduceMul, Nat.reduceSub, Nat.reduceGT, reduceIte, Int.reduceNeg, Int.reduceToNat]) |  refine And.intro ?_ ?_ | intro _))
      all_goals first | omega | exact hIm _ ‹_› | skip
      all_goals trace_state
    · rw [if_neg h6]
      (repeat' (first | refine WP.seq ?_ | refine WP.block ?_ | ((first | refine WP.region ?_ | refine WP.condW ?_ | refine WP.ret ?_ | refine WP.exit ?_ | refine WP.skip ?_); simp only [go_sem, h5, h6, tyAll, Nat.reduceAdd, Nat.reduceLT, Nat.reduceLeDiff, Nat.reduceEqDiff, Nat.reduceMul, Nat.reduceSub, Nat.reduceGT, reduceIte, Int.reduceNeg, Int.reduceToNat]) |  refine And.intro ?_ ?_ | intro _))
      all_goals first | omega | exact hIm _ ‹_› | (rename_i h; rw [szf_neg (szA_f _) (by omega) h]) | skip
      all_goals trace_state
end
def szvRg (x : RgX) : Int → Int := szvStr x.2.1
theorem szvStr_f (L : List ByteArray) : Szf (szvStr L) := szList_f _ (by simp only [List.mem_map]; rintro _ ⟨x, _, rfl⟩; exact szA_f _)
def bigRg (x : RgX) : Prop := x.2.1.length ≤ maxLen ∧ ∀ s ∈ x.2.1, s.size ≤ maxLen
def kszRg : Ctr := pur (fun args => (rgA args 0, aI args 1)) (fun x => [.agg [.v (.int .i64 x.1.1), .sl 1 (x.1.2.1.map encS), .v (.int .i64 x.1.2.2.1), .v (.int .i64 x.1.2.2.2)], .v (.int .i64 x.2)]) (fun x => bigRg x.1 ∧ 0 ≤ x.2 ∧ x.2 ≤ 1048576)
  (fun _ x => .v (.int .i64 (szvRg x.1 x.2))) (fun _ _ => [])
section
noncomputable def cxZr : Cx := { P := Try.prog, tys := tys, C := [(82, kszStr)], hty := tysOk, hC := COk.cons cszStr (COk.nil _) }
theorem cxZr_t : cxZr.tys = tys := rfl
theorem cxZr_c : cxZr.C = [(82, kszStr)] := rfl
attribute [local go_sem] cxZr_t cxZr_c kszStr
theorem cszRg : Cn Try.prog 67 kszRg := by
  refine Cn.pur Try.func67 (by kernel_rfl) rfl fun d x hx => ?_
  obtain ⟨⟨cp, R, wr, lo⟩, left⟩ := x
  obtain ⟨⟨hR, hs⟩, h0, h1⟩ := hx
  simp only at hR hs h0 h1 ⊢
  have hu : szvRg (cp, R, wr, lo) left = szvStr R left := rfl
  rw [hu]
  refine Holds.go (c := cxZr) Try.func67 rfl Try.results67 Try.ntmps67 (by omega) (by simp) rfl ?_
  intro X0 w0
  (repeat' (first | refine WP.seq ?_ | refine WP.block ?_ | ((first | refine WP.region ?_ | refine WP.condW ?_ | refine WP.ret ?_ | refine WP.exit ?_ | refine WP.skip ?_); simp only [go_sem, tyAll, Nat.reduceAdd, Nat.reduceLT, Nat.reduceLeDiff, Nat.reduceEqDiff, Nat.reduceMul, Nat.reduceSub, Nat.reduceGT, reduceIte, Int.reduceNeg, Int.reduceToNat]) |  refine And.intro ?_ ?_ | intro _))
  all_goals first | omega | exact hs _ ‹_› | (rename_i h; rw [szf_neg (szvStr_f _) (by omega) h]) | skip
  all_goals trace_state
end
def szvPc (x : PcX) : Int → Int := szT (szvSp x.1) (szvMachS x.2.1)
theorem szvPc_f (x : PcX) : Szf (szvPc x) := szT_f (szvSp_f _) (szvMachS_f _)
def bigPc (x : PcX) : Prop := bigSp x.1 ∧ x.2.1.length ≤ maxLen ∧ ∀ s ∈ x.2.1, bigMach s
def kszPc : Ctr := pur (fun args => (pcA args 0, aI args 1)) (fun x => [.agg [.sl 2 (x.1.1.1.map encImage), .sl 1 (x.1.1.2.1.map encI), .sl 1 (x.1.1.2.2.map encI), .sl 7 (x.1.2.1.map encMach), .v (.int .i64 x.1.2.2.1), .v (.int .i64 x.1.2.2.2.1), .v (.int .i64 x.1.2.2.2.2)], .v (.int .i64 x.2)]) (fun x => bigPc x.1 ∧ 0 ≤ x.2 ∧ x.2 ≤ 1048576)
  (fun _ x => .v (.int .i64 (szvPc x.1 x.2))) (fun _ _ => [])
section
noncomputable def cxZpc : Cx := { P := Try.prog, tys := tys, C := [(107, kszSp), (108, kszMachS)], hty := tysOk, hC := COk.cons cszSp (COk.cons cszMachS (COk.nil _)) }
theorem cxZpc_t : cxZpc.tys = tys := rfl
theorem cxZpc_c : cxZpc.C = [(107, kszSp), (108, kszMachS)] := rfl
attribute [local go_sem] cxZpc_t cxZpc_c kszSp kszMachS
theorem cszPc : Cn Try.prog 66 kszPc := by
  refine Cn.pur Try.func66 (by kernel_rfl) rfl fun d x hx => ?_
  obtain ⟨⟨⟨I, B, E⟩, T, tu, le, sl⟩, left⟩ := x
  obtain ⟨⟨hsp, hT, hTs⟩, h0, h1⟩ := hx
  have hsp2 := hsp
  obtain ⟨⟨hI, hIm⟩, hB, hE⟩ := hsp2
  simp only at hT hTs hI hIm hB hE h0 h1 ⊢
  have hu : szvPc ((I, B, E), T, tu, le, sl) left = if szvSp (I, B, E) left < 0 then -1 else szvMachS T (szvSp (I, B, E) left) := rfl
  have ha := szvSp_f (I, B, E) left h0
  rw [hu]
  refine Holds.go (c := cxZpc) Try.func66 rfl Try.results66 Try.ntmps66 (by omega) (by simp) rfl ?_
  intro X0 w0
  by_cases h5 : szvSp (I, B, E) left < 0
  · rw [if_pos h5]
    (repeat' (first | refine WP.seq ?_ | refine WP.block ?_ | ((first | refine WP.region ?_ | refine WP.condW ?_ | refine WP.ret ?_ | refine WP.exit ?_ | refine WP.skip ?_); simp only [go_sem, h5, tyAll, Nat.reduceAdd, Nat.reduceLT, Nat.reduceLeDiff, Nat.reduceEqDiff, Nat.reduceMul, Nat.reduceSub, Nat.reduceGT, reduceIte, Int.reduceNeg, Int.reduceToNat]) |  refine And.intro ?_ ?_ | intro _))
    all_goals first | omega | exact hIm _ ‹_› | exact hTs _ ‹_› | exact hsp | skip
    all_goals trace_state
  · rw [if_neg h5]
    (repeat' (first | refine WP.seq ?_ | refine WP.block ?_ | ((first | refine WP.region ?_ | refine WP.condW ?_ | refine WP.ret ?_ | refine WP.exit ?_ | refine WP.skip ?_); simp only [go_sem, h5, tyAll, Nat.reduceAdd, Nat.reduceLT, Nat.reduceLeDiff, Nat.reduceEqDiff, Nat.reduceMul, Nat.reduceSub, Nat.reduceGT, reduceIte, Int.reduceNeg, Int.reduceToNat]) |  refine And.intro ?_ ?_ | intro _))
    all_goals first | omega | exact hIm _ ‹_› | exact hTs _ ‹_› | exact hsp | (rename_i h; rw [szf_neg (szvMachS_f _) (by omega) h]) | skip
    all_goals trace_state
end
def szvSe (x : SeX) : Int → Int := szT (szvPc x.1) (szvRg x.2.2.1)
theorem szvRg_f (x : RgX) : Szf (szvRg x) := szvStr_f _
theorem szvSe_f (x : SeX) : Szf (szvSe x) := szT_f (szvPc_f _) (szvRg_f _)
def bigSe (x : SeX) : Prop := bigPc x.1 ∧ bigRg x.2.2.1
def kszSe : Ctr := pur (fun args => (seA args 0, aI args 1)) (fun x => [.agg (aggSe x.1), .v (.int .i64 x.2)]) (fun x => bigSe x.1 ∧ 0 ≤ x.2 ∧ x.2 ≤ 1048576)
  (fun _ x => .v (.int .i64 (szvSe x.1 x.2))) (fun _ _ => [])
section
attribute [local go_sem] aggSe
noncomputable def cxZse : Cx := { P := Try.prog, tys := tys, C := [(66, kszPc), (67, kszRg)], hty := tysOk, hC := COk.cons cszPc (COk.cons cszRg (COk.nil _)) }
theorem cxZse_t : cxZse.tys = tys := rfl
theorem cxZse_c : cxZse.C = [(66, kszPc), (67, kszRg)] := rfl
attribute [local go_sem] cxZse_t cxZse_c kszPc kszRg
set_option maxHeartbeats 3000000 in
theorem cszSe : Cn Try.prog 35 kszSe := by
  refine Cn.pur Try.func35 (by kernel_rfl) rfl fun d x hx => ?_
  obtain ⟨⟨⟨⟨I, B, E⟩, T, tu, le, sl⟩, ⟨p, q, l, st⟩, ⟨cp, R, wr, lo⟩, mo, sp, fi⟩, left⟩ := x
  obtain ⟨⟨hP, hR⟩, h0, h1⟩ := hx
  simp only [aggSe] at hP hR h0 h1 ⊢
  have hP2 := hP
  have hR2 := hR
  obtain ⟨hR1, hRs⟩ := hR2
  obtain ⟨⟨⟨hI, hIm⟩, hB, hE⟩, hT, hTs⟩ := hP2
  simp only at hI hIm hB hE hT hTs hR1 hRs
  generalize hz : szvPc ((I, B, E), T, tu, le, sl) left = z
  have hu : szvSe (((I, B, E), T, tu, le, sl), ⟨p, q, l, st⟩, (cp, R, wr, lo), mo, sp, fi) left = if z < 0 then -1 else szvRg (cp, R, wr, lo) z := by rw [← hz]; rfl
  have ha := szvPc_f ((I, B, E), T, tu, le, sl) left h0
  rw [hz] at ha
  rw [hu]
  refine Holds.go (c := cxZse) Try.func35 rfl Try.results35 Try.ntmps35 (by omega) (by simp) rfl ?_
  intro X0 w0
  by_cases h5 : z < 0
  · rw [if_pos h5]
    (repeat' (first | refine WP.seq ?_ | refine WP.block ?_ | ((first | refine WP.region ?_ | refine WP.condW ?_ | refine WP.ret ?_ | refine WP.exit ?_ | refine WP.skip ?_); simp only [go_sem, hz, h5, tyAll, Nat.reduceAdd, Nat.reduceLT, Nat.reduceLeDiff, Nat.reduceEqDiff, Nat.reduceMul, Nat.reduceSub, Nat.reduceGT, reduceIte, Int.reduceNeg, Int.reduceToNat]) |  refine And.intro ?_ ?_ | intro _))
    all_goals first | omega | exact hIm _ ‹_› | exact hTs _ ‹_› | exact hRs _ ‹_› | exact hP | exact hR | skip
    all_goals trace_state
  · rw [if_neg h5]
    (repeat' (first | refine WP.seq ?_ | refine WP.block ?_ | ((first | refine WP.region ?_ | refine WP.condW ?_ | refine WP.ret ?_ | refine WP.exit ?_ | refine WP.skip ?_); simp only [go_sem, hz, h5, tyAll, Nat.reduceAdd, Nat.reduceLT, Nat.reduceLeDiff, Nat.reduceEqDiff, Nat.reduceMul, Nat.reduceSub, Nat.reduceGT, reduceIte, Int.reduceNeg, Int.reduceToNat]) |  refine And.intro ?_ ?_ | intro _))
    all_goals first | omega | exact hIm _ ‹_› | exact hTs _ ‹_› | exact hRs _ ‹_› | exact hP | exact hR | (rename_i h; rw [szf_neg (szvRg_f _) (by omega) h]) | skip
    all_goals trace_state
end
end
end Go.Proofs.Ytdbjioanlkilkaa
/-
  DERIVED. A list that a call hands back as its own, taken as one that may only be read.
-/
namespace Go.Vc
set_option linter.unusedVariables false
def allV (rows : List (List SV)) : Prop := ∀ row ∈ rows, ∀ c ∈ row, ∃ x, c = .v x
theorem ObR.toSl {w : World} {X X' : Nat → Prop} {β : Nat → Value} {v : Value} {e s : Nat} {rows : List (List SV)} (h : ObR w X' β v (.sl e s rows)) (hX : ∀ b, blk v = some b → ¬ X b) (hv : allV rows) : Rp w X (.sl s rows) v := by
  cases h with
  | nil e s h => subst h; exact .nil s _ _
  | sl b cap cur us hv' hh h1 h2 h3 h4 h5 h6 h7 =>
    subst hv'
    refine .sl b 0 cap us (hX b rfl) (lt_of_heap hh) h1 h4 (fun i k row c hr hc => ?_) h6 (fun i k row c hr hc => ?_)
    · simp only [World.cell?, hh, Nat.zero_add]
      exact h5 i k row c hr hc
    · obtain ⟨x, rfl⟩ := hv row (List.mem_of_getElem? hr) c (List.mem_of_getElem? hc)
      have := h7 i k row _ hr hc
      cases this
      exact .v _
section
variable {P : Program} {f : FuncId} {args : List SV} {d e s : Nat} {rows : List (List SV)}
theorem Holds.frozen (h : Holds P f args (.own d) [(d, .sl e s rows)]) (hv : allV rows) : Holds P f args (.sl s rows) [] := by
  intro w X vs hG hX hl ha
  refine (h w X vs hG hX hl ha).mono fun en w' ⟨v, β, he, hb, hβ, hR, hO, hn⟩ => ?_
  refine ⟨v, β, he, hb, hβ, ?_, ⟨fun id ob hi => (by cases hi), fun i j oi oj b hi => (by cases hi)⟩, fun id ob b hi => (by cases hi)⟩
  have := hR.own_inv; subst this
  refine .p ((hO.1 d (.sl e s rows) (by simp [lk])).toSl (fun b hb' hx => ?_) hv)
  have h1 := hn d (.sl e s rows) b (by simp [lk]) hb'
  rcases hx with hx | ⟨i, o, hi, _⟩
  · have := hX b hx; omega
  · cases hi
theorem Holds.frozenT {y : Value} (h : Holds P f args (.tup [.own d, .v y]) [(d, .sl e s rows)]) (hv : allV rows) : Holds P f args (.tup [.sl s rows, .v y]) [] := by
  intro w X vs hG hX hl ha
  refine (h w X vs hG hX hl ha).mono fun en w' ⟨v, β, he, hb, hβ, hR, hO, hn⟩ => ?_
  refine ⟨v, β, he, hb, hβ, ?_, ⟨fun id ob hi => (by cases hi), fun i j oi oj b hi => (by cases hi)⟩, fun id ob b hi => (by cases hi)⟩
  obtain ⟨us, rfl, hul, hh⟩ := hR.tup_inv
  refine .tup hul fun k c u hc hu => ?_
  match k, hc with
  | 0, hc =>
    simp at hc; subst hc
    have := (hh 0 _ u rfl hu).own_inv
    subst this
    refine .p ((hO.1 d (.sl e s rows) (by simp [lk])).toSl (fun b hb' hx => ?_) hv)
    have h1 := hn d (.sl e s rows) b (by simp [lk]) hb'
    rcases hx with hx | ⟨i, o, hi, _⟩
    · have := hX b hx; omega
    · cases hi
  | 1, hc =>
    simp at hc; subst hc
    have := (hh 1 _ u rfl hu).v_inv
    subst this; exact .p (.v _)
  | k + 2, hc => simp at hc
end
/-- the same of a struct of two lists -/
theorem Holds.frozenA {P : Program} {f : FuncId} {args : List SV} {d1 d2 e1 s1 e2 s2 : Nat} {rows1 rows2 : List (List SV)} (hd : d1 ≠ d2) (h : Holds P f args (.agg [.own d1, .own d2]) [(d1, .sl e1 s1 rows1), (d2, .sl e2 s2 rows2)]) (hv1 : allV rows1) (hv2 : allV rows2) : Holds P f args (.agg [.sl s1 rows1, .sl s2 rows2]) [] := by
  intro w X vs hG hX hl ha
  refine (h w X vs hG hX hl ha).mono fun en w' ⟨v, β, he, hb, hβ, hR, hO, hn⟩ => ?_
  refine ⟨v, β, he, hb, hβ, ?_, ⟨fun id ob hi => (by cases hi), fun i j oi oj b hi => (by cases hi)⟩, fun id ob b hi => (by cases hi)⟩
  obtain ⟨us, rfl, hul, hh⟩ := hR.agg_inv
  have l1 : lk d1 [(d1, Ob.sl e1 s1 rows1), (d2, .sl e2 s2 rows2)] = some (.sl e1 s1 rows1) := by simp [lk]
  have l2 : lk d2 [(d1, Ob.sl e1 s1 rows1), (d2, .sl e2 s2 rows2)] = some (.sl e2 s2 rows2) := by simp [lk, Ne.symm hd]
  have key : ∀ {d e s : Nat} {rows : List (List SV)}, lk d [(d1, Ob.sl e1 s1 rows1), (d2, .sl e2 s2 rows2)] = some (.sl e s rows) → allV rows → R w' (XX X β []) β (.sl s rows) (β d) := fun {d e s rows} hl hv => by
    refine .p ((hO.1 d _ hl).toSl (fun b hb' hx => ?_) hv)
    have h1 := hn d _ b hl hb'
    rcases hx with hx | ⟨i, o, hi, _⟩
    · have := hX b hx; omega
    · cases hi
  refine .agg hul fun k c u hc hu => ?_
  match k, hc with
  | 0, hc =>
    simp at hc; subst hc
    have := (hh 0 _ u rfl hu).own_inv
    subst this; exact key l1 hv1
  | 1, hc =>
    simp at hc; subst hc
    have := (hh 1 _ u rfl hu).own_inv
    subst this; exact key l2 hv2
  | k + 2, hc => simp at hc
theorem Cn.frozenA {P : Program} {f : FuncId} {X : Type} {dec : List SV → X} {A : X → List SV} {pre : X → Prop} {e1 s1 e2 s2 : Nat} {rows1 rows2 : X → List (List SV)} (hv1 : ∀ x, allV (rows1 x)) (hv2 : ∀ x, allV (rows2 x))
    (h : Cn P f (Go.Vc.pur dec A pre (fun d _ => .agg [.own d, .own (d + 1000)]) (fun d x => [(d, .sl e1 s1 (rows1 x)), (d + 1000, .sl e2 s2 (rows2 x))]))) : Cn P f (Go.Vc.pur dec A pre (fun _ x => .agg [.sl s1 (rows1 x), .sl s2 (rows2 x)]) (fun _ _ => [])) :=
  ⟨h.call, fun d args ha => (h.holds d args ha).frozenA (by omega) (hv1 _) (hv2 _), fun _ _ _ h => h.elim⟩
theorem Cn.frozen {P : Program} {f : FuncId} {X : Type} {dec : List SV → X} {A : X → List SV} {pre : X → Prop} {e s : Nat} {rows : X → List (List SV)} (hv : ∀ x, allV (rows x))
    (h : Cn P f (Go.Vc.pur dec A pre (fun d _ => .own d) (fun d x => [(d, .sl e s (rows x))]))) : Cn P f (Go.Vc.pur dec A pre (fun _ x => .sl s (rows x)) (fun _ _ => [])) :=
  ⟨h.call, fun d args ha => (h.holds d args ha).frozen (hv _), fun _ _ _ h => h.elim⟩
theorem Cn.frozenT {P : Program} {f : FuncId} {X : Type} {dec : List SV → X} {A : X → List SV} {pre : X → Prop} {e s : Nat} {rows : X → List (List SV)} {y : X → Value} (hv : ∀ x, allV (rows x))
    (h : Cn P f (Go.Vc.pur dec A pre (fun d x => .tup [.own d, .v (y x)]) (fun d x => [(d, .sl e s (rows x))]))) : Cn P f (Go.Vc.pur dec A pre (fun _ x => .tup [.sl s (rows x), .v (y x)]) (fun _ _ => [])) :=
  ⟨h.call, fun d args ha => (h.holds d args ha).frozenT (hv _), fun _ _ _ h => h.elim⟩
end Go.Vc

/-
  DERIVED. A list that a call hands back as its own, taken as one that may only be read: its cells may be lists that are read.
-/
namespace Go.Vc
set_option linter.unusedVariables false
theorem ObR.toSlW {w : World} {X X' : Nat → Prop} {β : Nat → Value} {v : Value} {e s : Nat} {rows : List (List SV)} (h : ObR w X' β v (.sl e s rows)) (hX : ∀ b, blk v = some b → ¬ X b) (hXX : ∀ b, X b → X' b) : Rp w X (.sl s rows) v := by
  cases h with
  | nil e s h => subst h; exact .nil s _ _
  | sl b cap cur us hv' hh h1 h2 h3 h4 h5 h6 h7 =>
    subst hv'
    refine .sl b 0 cap us (hX b rfl) (lt_of_heap hh) h1 h4 (fun i k row c hr hc => ?_) h6 (fun i k row c hr hc => (h7 i k row c hr hc).mono ⟨Nat.le_refl _, fun _ _ _ => rfl⟩ fun b _ h => hXX b h)
    simp only [World.cell?, hh, Nat.zero_add]
    exact h5 i k row c hr hc
section
variable {P : Program} {f : FuncId} {args : List SV} {d e s : Nat} {rows : List (List SV)}
theorem Holds.frozenW (h : Holds P f args (.own d) [(d, .sl e s rows)]) : Holds P f args (.sl s rows) [] := by
  intro w X vs hG hX hl ha
  refine (h w X vs hG hX hl ha).mono fun en w' ⟨v, β, he, hb, hβ, hR, hO, hn⟩ => ?_
  refine ⟨v, β, he, hb, hβ, ?_, ⟨fun id ob hi => (by cases hi), fun i j oi oj b hi => (by cases hi)⟩, fun id ob b hi => (by cases hi)⟩
  have := hR.own_inv; subst this
  refine .p ((hO.1 d (.sl e s rows) (by simp [lk])).toSlW (fun b hb' hx => ?_) (fun b hx => ?_))
  · have h1 := hn d (.sl e s rows) b (by simp [lk]) hb'
    rcases hx with hx | ⟨i, o, hi, _⟩
    · have := hX b hx; omega
    · cases hi
  · rcases hx with hx | ⟨i, o, hi, _⟩
    · exact .inl hx
    · cases hi
end
theorem Cn.frozenW {P : Program} {f : FuncId} {X : Type} {dec : List SV → X} {A : X → List SV} {pre : X → Prop} {e s : Nat} {rows : X → List (List SV)}
    (h : Cn P f (Go.Vc.pur dec A pre (fun d _ => .own d) (fun d x => [(d, .sl e s (rows x))]))) : Cn P f (Go.Vc.pur dec A pre (fun _ x => .sl s (rows x)) (fun _ _ => [])) :=
  ⟨h.call, fun d args ha => (h.holds d args ha).frozenW, fun _ _ _ h => h.elim⟩
end Go.Vc

namespace Go.Proofs.Ytdbjioanlkilkaa
open Go.Vc
attribute [local go_sem] St.runR St.runW St.stepV offV St.step St.stepU St.stepG mkCond guardB St.prK St.pr St.prLen St.eff St.callE St.callD St.callF St.callL aI aB aS aR aC St.isM St.argL Ctr.pure Ctr.lend Ctr.move Ctr.isL Ctr.wri pur len lentBy St.lentV St.lent1 nthS argsR restOf obsR pairs swapL unObs backL St.resL erL SV.ren1 SV.up SV.up2 Ob.up St.fzL cellIds partIds St.intoRow SV.ownId St.fz SV.fz1 St.prep St.mvL St.mv SV.re1 rnOk St.prEq vals eqCells scEq Value.kd St.prStr St.prCut cutR St.bnd St.prMin St.bld isShift outL retL outJ oR oC St.ev St.get St.put St.new St.kill SV.kill SV.kill1 Ob.kill St.app St.wrt St.rowsOf St.res St.killL lk er argsL SV.strip SV.need SV.share SV.share1 SV.owns SV.owns1 SV.owns2 SV.good SV.good1 SV.rok SV.rok1 SV.rok2 SV.isV SV.isV2 nodupN SV.cells SV.one SV.pur Ob.pb partsIn rowsIn splice cellsAt dstOk scal2 scal1 thenK blockK retK outK outs okC okL okA okT nilC nilL nilA nilT keepC keepL keepA keepT St.runG St.dltK St.least St.clean St.final St.hide offK badS badO SV.refs SV.leaf SV.leaf2 Ob.refs dlOk fpAt Go.Vc.cover tups SV.ofAgg St.out outC subL St.has rng wr Value.oneCell' Option.isSome_some Option.isSome_none List.nil_append Bool.false_eq_true List.map_cons List.map_nil List.all_cons List.all_nil List.length_cons List.length_nil List.drop_zero List.drop_succ_cons List.take_succ_cons List.take_zero List.drop_nil List.take_nil List.getElem?_cons_zero List.getElem?_cons_succ List.getElem?_nil List.cons_append List.nil_append List.append_nil List.append_assoc List.flatMap_cons List.flatMap_nil List.contains_cons List.contains_nil List.set_cons_zero List.set_cons_succ List.getElem?_toArray Option.getD_some Option.getD_none Option.map_some Option.map_none Option.bind_some Option.some.injEq Prod.mk.injEq if_true if_false true_and and_true and_self and_false false_and Bool.and_false Bool.false_and Bool.or_true Bool.true_or Bool.or_false Bool.false_or ne_eq not_true_eq_false not_false_eq_true decide_true decide_false List.mem_cons List.not_mem_nil List.filter_cons List.filter_nil List.any_cons List.any_nil List.isEmpty_nil List.isEmpty_cons Option.getD_none or_false false_or true_or or_true forall_eq_or_imp forall_eq reduceCtorEq exists_eq exists_eq' exists_eq_left' exists_eq_left exists_eq_right exists_eq_right' imp_self implies_true Bool.and_true Bool.true_and Bool.and_self beq_self_eq_true List.replicate_succ List.replicate_zero forall_const false_implies pickB_or pickB_and beqT beqF Int.toNat_natCast List.length_map List.length_replicate ge_iff_le gt_iff_lt decide_eq_true_eq decide_eq_false_iff_not Bool.and_eq_true Bool.or_eq_true Bool.not_eq_true' Bool.not_eq_false' condG List.toList_toArray Bool.or_eq_false_iff Bool.and_eq_false_iff Int.not_lt Int.not_le beq_iff_eq beq_eq_false_iff_ne bne_iff_ne bne_eq_false_iff_eq ne_eq Bool.not_true Bool.not_false exists_and_left
section
open Go.Vc
set_option linter.unusedSimpArgs false
set_option linter.unusedVariables false
set_option maxHeartbeats 1000000
set_option maxRecDepth 10000
attribute [local irreducible] Go.Vc.WP
attribute [local go_sem] cx0_t cx0_c
open Go.Pl
attribute [local go_sem] decI_enc decImage_enc spA decS_enc decMach_enc oneMach_f mach_eta pcA rgA seA decSymbol_enc tmA tm_eta
def lenMax : Nat := 2097152
def ktoIz : Ctr := pur (fun args => decI (aR args 0)) (fun L => [.sl 1 (L.map encI)]) (fun L => L.length ≤ 2097152) (fun _ L => .sl 1 (L.map encI)) (fun _ _ => [])
theorem ctoIz : Cn Try.prog 10 ktoIz := Cn.frozenW c15
def ktoYz : Ctr := pur (fun args => decSymbol (aR args 0)) (fun L => [.sl 3 (L.map encSymbol)]) (fun L => L.length ≤ 2097152) (fun _ L => .sl 3 (L.map encSymbol)) (fun _ _ => [])
theorem ctoYz : Cn Try.prog 156 ktoYz := Cn.frozenW ctoSymbolS
def ktoSo : Ctr := pur (fun args => decS (aR args 0)) (fun L => [.sl 1 (L.map encS)]) (fun L => L.length ≤ 2097152) (fun d _ => .own d) (fun d L => [(d, .sl 9 1 (L.map encS))])
section
noncomputable def cxTso : Cx := { P := Try.prog, tys := tys, C := [], hty := tysOk, hC := COk.nil _ }
theorem cxTso_t : cxTso.tys = tys := rfl
theorem cxTso_c : cxTso.C = [] := rfl
attribute [local go_sem] cxTso_t cxTso_c 
theorem ctoSo : Cn Try.prog 84 ktoSo := by
  refine Cn.pur Try.func84 (by kernel_rfl) rfl fun d x hx => ?_
  rename List ByteArray => L
  refine Holds.go (c := cxTso) Try.func84 rfl Try.results84 Try.ntmps84 (by omega) (by simp) rfl ?_
  intro X0 w0
  (repeat' (first | refine WP.seq ?_ | refine WP.block ?_ | ((first | refine WP.region ?_ | refine WP.condW ?_ | refine WP.ret ?_ | refine WP.exit ?_ | refine WP.skip ?_); simp only [go_sem, tyAll, Nat.reduceAdd, Nat.reduceLT, Nat.reduceLeDiff, Nat.reduceEqDiff, Nat.reduceMul, Nat.reduceSub, Nat.reduceGT, reduceIte, Int.reduceNeg, Int.reduceToNat]) |  refine And.intro ?_ ?_ | intro _))
  all_goals first | omega | skip
  refine WP.loop (fun k : Nat => ⟨[(0, .sl 1 (L.map encS)), (3, .own 7), (4, .v (.int .i64 k))], [(7, .sl 9 1 (filled encS [.v (.string ⟨#[]⟩)] L k))]⟩) (fun k => k ≤ L.length) (fun k => L.length - k) 0 (by omega) ?_ ?_
  · rw [filled_zero]; simp only [go_sem, tyAll, Nat.reduceAdd, Nat.reduceLT, Nat.reduceLeDiff, Nat.reduceEqDiff, Nat.reduceMul, Nat.reduceSub, Nat.reduceGT, reduceIte, Int.reduceNeg, Int.reduceToNat]; rfl
  intro k hk
  by_cases hlt : k < L.length
  · have h1 := rowAt_map encS L k hlt
    have h2 := filled_len encS [.v (.string ⟨#[]⟩)] L k hk
    have h3 := filled_row encS [.v (.string ⟨#[]⟩)] L k hlt
    have h4 := filled_set encS [.v (.string ⟨#[]⟩)] L k hlt
    rw [encS] at h4
    (repeat' (first | refine WP.seq ?_ | refine WP.block ?_ | ((first | refine WP.region ?_ | refine WP.condW ?_ | refine WP.ret ?_ | refine WP.exit ?_ | refine WP.skip ?_); simp only [go_sem, h1, h2, h3, h4, encS, tyAll, Nat.reduceAdd, Nat.reduceLT, Nat.reduceLeDiff, Nat.reduceEqDiff, Nat.reduceMul, Nat.reduceSub, Nat.reduceGT, reduceIte, Int.reduceNeg, Int.reduceToNat]) |  refine And.intro ?_ ?_ | intro _))
    all_goals first | omega | skip
    exact ⟨k + 1, by omega, by omega, rfl, rfl⟩
  · have h2 := filled_len encS [.v (.string ⟨#[]⟩)] L k hk
    have h5 : filled encS [.v (.string ⟨#[]⟩)] L k = L.map encS := by rw [show k = L.length by omega]; exact filled_all _ _ _
    (repeat' (first | refine WP.seq ?_ | refine WP.block ?_ | ((first | refine WP.region ?_ | refine WP.condW ?_ | refine WP.ret ?_ | refine WP.exit ?_ | refine WP.skip ?_); simp only [go_sem, h2, h5, tyAll, Nat.reduceAdd, Nat.reduceLT, Nat.reduceLeDiff, Nat.reduceEqDiff, Nat.reduceMul, Nat.reduceSub, Nat.reduceGT, reduceIte, Int.reduceNeg, Int.reduceToNat]) |  refine And.intro ?_ ?_ | intro _))
    all_goals first | omega | skip
end
def ktoSz : Ctr := pur (fun args => decS (aR args 0)) (fun L => [.sl 1 (L.map encS)]) (fun L => L.length ≤ 2097152) (fun _ L => .sl 1 (L.map encS)) (fun _ _ => [])
theorem ctoSz : Cn Try.prog 84 ktoSz := Cn.frozenW ctoSo
def ktoImg : Ctr := pur (fun args => oneImage (aC args 0)) (fun x => [.agg [.v (.string x.code), .sl 3 (x.symbols.map encSymbol)]]) (fun x => x.symbols.length ≤ 2097152) (fun _ x => .agg [.v (.string x.code), .sl 3 (x.symbols.map encSymbol)]) (fun _ _ => [])
section
attribute [local go_sem] oneImage
noncomputable def cxTim : Cx := { P := Try.prog, tys := tys, C := [(156, ktoYz)], hty := tysOk, hC := COk.cons ctoYz (COk.nil _) }
theorem cxTim_t : cxTim.tys = tys := rfl
theorem cxTim_c : cxTim.C = [(156, ktoYz)] := rfl
attribute [local go_sem] cxTim_t cxTim_c ktoYz
theorem ctoImg : Cn Try.prog 151 ktoImg := by
  refine Cn.pur Try.func151 (by kernel_rfl) rfl fun d x hx => ?_
  obtain ⟨c, Y⟩ := x
  simp only at hx ⊢
  refine Holds.go (c := cxTim) Try.func151 rfl Try.results151 Try.ntmps151 (by omega) (by simp) rfl ?_
  intro X0 w0
  (repeat' (first | refine WP.seq ?_ | refine WP.block ?_ | ((first | refine WP.region ?_ | refine WP.condW ?_ | refine WP.ret ?_ | refine WP.exit ?_ | refine WP.skip ?_); simp only [go_sem, tyAll, Nat.reduceAdd, Nat.reduceLT, Nat.reduceLeDiff, Nat.reduceEqDiff, Nat.reduceMul, Nat.reduceSub, Nat.reduceGT, reduceIte, Int.reduceNeg, Int.reduceToNat]) |  refine And.intro ?_ ?_ | intro _))
  all_goals first | omega | exact ⟨_, _, rfl, _, _, rfl, rfl⟩ | skip
  all_goals trace_state
end
def zerImage : List SV := [.v (.string ⟨#[]⟩), .v (.slice none 0 0)]
def ktoImgO : Ctr := pur (fun args => decImage (aR args 0)) (fun L => [.sl 2 (L.map encImage)]) (fun L => L.length ≤ 2097152 ∧ ∀ x ∈ L, x.symbols.length ≤ 2097152) (fun d _ => .own d) (fun d L => [(d, .sl 201 2 (L.map encImage))])
section
attribute [local go_sem] oneImage
noncomputable def cxTis : Cx := { P := Try.prog, tys := tys, C := [(151, ktoImg)], hty := tysOk, hC := COk.cons ctoImg (COk.nil _) }
theorem cxTis_t : cxTis.tys = tys := rfl
theorem cxTis_c : cxTis.C = [(151, ktoImg)] := rfl
attribute [local go_sem] cxTis_t cxTis_c ktoImg
theorem ctoImgO : Cn Try.prog 142 ktoImgO := by
  refine Cn.pur Try.func142 (by kernel_rfl) rfl fun d x hx => ?_
  rename List Image => L
  obtain ⟨hL, hY⟩ := hx
  refine Holds.go (c := cxTis) Try.func142 rfl Try.results142 Try.ntmps142 (by omega) (by simp) rfl ?_
  intro X0 w0
  (repeat' (first | refine WP.seq ?_ | refine WP.block ?_ | ((first | refine WP.region ?_ | refine WP.condW ?_ | refine WP.ret ?_ | refine WP.exit ?_ | refine WP.skip ?_); simp only [go_sem, tyAll, Nat.reduceAdd, Nat.reduceLT, Nat.reduceLeDiff, Nat.reduceEqDiff, Nat.reduceMul, Nat.reduceSub, Nat.reduceGT, reduceIte, Int.reduceNeg, Int.reduceToNat]) |  refine And.intro ?_ ?_ | intro _))
  all_goals first | omega | skip
  refine WP.loop (fun k : Nat => ⟨[(0, .sl 2 (L.map encImage)), (3, .own 7), (4, .v (.int .i64 k))], [(7, .sl 201 2 (filled encImage zerImage L k))]⟩) (fun k => k ≤ L.length) (fun k => L.length - k) 0 (by omega) ?_ ?_
  · rw [filled_zero]; simp only [go_sem, tyAll, Nat.reduceAdd, Nat.reduceLT, Nat.reduceLeDiff, Nat.reduceEqDiff, Nat.reduceMul, Nat.reduceSub, Nat.reduceGT, reduceIte, Int.reduceNeg, Int.reduceToNat]; first | exact ⟨rfl, rfl⟩ | rfl
  intro k hk
  by_cases hlt : k < L.length
  · have h0 := hY _ (List.getElem_mem hlt)
    have h1 := rowAt_map encImage L k hlt
    have h2 := filled_len encImage zerImage L k hk
    have h3 : Go.Vc.rowAt (filled encImage zerImage L k) k = [.v (.string ⟨#[]⟩), .v (.slice none 0 0)] := filled_row encImage zerImage L k hlt
    have h4 := filled_set encImage zerImage L k hlt
    rw [encImage] at h4
    (repeat' (first | refine WP.seq ?_ | refine WP.block ?_ | ((first | refine WP.region ?_ | refine WP.condW ?_ | refine WP.ret ?_ | refine WP.exit ?_ | refine WP.skip ?_); simp only [go_sem, h1, h2, h3, h4, encImage, tyAll, Nat.reduceAdd, Nat.reduceLT, Nat.reduceLeDiff, Nat.reduceEqDiff, Nat.reduceMul, Nat.reduceSub, Nat.reduceGT, reduceIte, Int.reduceNeg, Int.reduceToNat]) |  refine And.intro ?_ ?_ | intro _))
    all_goals first | omega | exact h0 | exact ⟨k + 1, by omega, by omega, rfl, rfl⟩ | skip
    all_goals trace_state
  · have h2 := filled_len encImage zerImage L k hk
    have h5 : filled encImage zerImage L k = L.map encImage := by rw [show k = L.length by omega]; exact filled_all _ _ _
    (repeat' (first | refine WP.seq ?_ | refine WP.block ?_ | ((first | refine WP.region ?_ | refine WP.condW ?_ | refine WP.ret ?_ | refine WP.exit ?_ | refine WP.skip ?_); simp only [go_sem, h2, h5, tyAll, Nat.reduceAdd, Nat.reduceLT, Nat.reduceLeDiff, Nat.reduceEqDiff, Nat.reduceMul, Nat.reduceSub, Nat.reduceGT, reduceIte, Int.reduceNeg, Int.reduceToNat]) |  refine And.intro ?_ ?_ | intro _))
    all_goals first | omega | skip
end
end
section
open Go.Vc
set_option linter.unusedSimpArgs false
set_option linter.unusedVariables false
set_option maxHeartbeats 1000000
set_option maxRecDepth 10000
attribute [local irreducible] Go.Vc.WP
attribute [local go_sem] cx0_t cx0_c
open Go.Pl
attribute [local go_sem] decI_enc decImage_enc spA decS_enc decMach_enc oneMach_f mach_eta pcA rgA seA decSymbol_enc tmA tm_eta
def ktoImgS : Ctr := pur (fun args => decImage (aR args 0)) (fun L => [.sl 2 (L.map encImage)]) (fun L => L.length ≤ 2097152 ∧ ∀ x ∈ L, x.symbols.length ≤ 2097152) (fun _ L => .sl 2 (L.map encImage)) (fun _ _ => [])
theorem ctoImgS : Cn Try.prog 142 ktoImgS := Cn.frozenW ctoImgO
def ktoMach : Ctr := pur (fun args => oneMach (aC args 0)) (fun x => [.agg [.v (.int .i64 x.pc), .v (.int .i64 x.sp), .v (.int .i64 x.fp), .sl 1 (x.stack.map encI), .sl 1 (x.out.map encI), .v (.int .i64 x.state), .v (.int .i64 x.value)]]) (fun x => x.stack.length ≤ 2097152 ∧ x.out.length ≤ 2097152) (fun _ x => .agg [.v (.int .i64 x.pc), .v (.int .i64 x.sp), .v (.int .i64 x.fp), .sl 1 (x.stack.map encI), .sl 1 (x.out.map encI), .v (.int .i64 x.state), .v (.int .i64 x.value)]) (fun _ _ => [])
section
noncomputable def cxTma : Cx := { P := Try.prog, tys := tys, C := [(10, ktoIz)], hty := tysOk, hC := COk.cons ctoIz (COk.nil _) }
theorem cxTma_t : cxTma.tys = tys := rfl
theorem cxTma_c : cxTma.C = [(10, ktoIz)] := rfl
attribute [local go_sem] cxTma_t cxTma_c ktoIz
theorem ctoMach : Cn Try.prog 143 ktoMach := by
  refine Cn.pur Try.func143 (by kernel_rfl) rfl fun d x hx => ?_
  obtain ⟨a, b, c, s, o, d2, e2⟩ := x
  obtain ⟨hs, ho⟩ := hx
  simp only at hs ho ⊢
  refine Holds.go (c := cxTma) Try.func143 rfl Try.results143 Try.ntmps143 (by omega) (by simp) rfl ?_
  intro X0 w0
  (repeat' (first | refine WP.seq ?_ | refine WP.block ?_ | ((first | refine WP.region ?_ | refine WP.condW ?_ | refine WP.ret ?_ | refine WP.exit ?_ | refine WP.skip ?_); simp only [go_sem, tyAll, Nat.reduceAdd, Nat.reduceLT, Nat.reduceLeDiff, Nat.reduceEqDiff, Nat.reduceMul, Nat.reduceSub, Nat.reduceGT, reduceIte, Int.reduceNeg, Int.reduceToNat]) |  refine And.intro ?_ ?_ | intro _))
  all_goals first | omega | exact ⟨_, _, _, _, _, _, _, rfl⟩ | exact ⟨_, _, rfl, _, _, rfl, rfl⟩ | skip
  all_goals trace_state
end
def zerMach : List SV := [.v (.int .i64 0), .v (.int .i64 0), .v (.int .i64 0), .v (.slice none 0 0), .v (.slice none 0 0), .v (.int .i64 0), .v (.int .i64 0)]
def shMach (x : Mach) : Prop := x.stack.length ≤ 2097152 ∧ x.out.length ≤ 2097152
def ktoMachO : Ctr := pur (fun args => decMach (aR args 0)) (fun L => [.sl 7 (L.map encMach)]) (fun L => L.length ≤ 1048576 ∧ ∀ x ∈ L, shMach x) (fun d _ => .own d) (fun d L => [(d, .sl 174 7 (L.map encMach))])
section
attribute [local go_sem] oneMach
noncomputable def cxTms : Cx := { P := Try.prog, tys := tys, C := [(143, ktoMach)], hty := tysOk, hC := COk.cons ctoMach (COk.nil _) }
theorem cxTms_t : cxTms.tys = tys := rfl
theorem cxTms_c : cxTms.C = [(143, ktoMach)] := rfl
attribute [local go_sem] cxTms_t cxTms_c ktoMach
set_option maxHeartbeats 3000000 in
theorem ctoMachO : Cn Try.prog 113 ktoMachO := by
  refine Cn.pur Try.func113 (by kernel_rfl) rfl fun d x hx => ?_
  rename List Mach => L
  obtain ⟨hL, hY⟩ := hx
  refine Holds.go (c := cxTms) Try.func113 rfl Try.results113 Try.ntmps113 (by omega) (by simp) rfl ?_
  intro X0 w0
  (repeat' (first | refine WP.seq ?_ | refine WP.block ?_ | ((first | refine WP.region ?_ | refine WP.condW ?_ | refine WP.ret ?_ | refine WP.exit ?_ | refine WP.skip ?_); simp only [go_sem, tyAll, Nat.reduceAdd, Nat.reduceLT, Nat.reduceLeDiff, Nat.reduceEqDiff, Nat.reduceMul, Nat.reduceSub, Nat.reduceGT, reduceIte, Int.reduceNeg, Int.reduceToNat]) |  refine And.intro ?_ ?_ | intro _))
  all_goals first | omega | skip
  refine WP.loop (fun k : Nat => ⟨[(0, .sl 7 (L.map encMach)), (3, .own 7), (4, .v (.int .i64 k))], [(7, .sl 174 7 (filled encMach zerMach L k))]⟩) (fun k => k ≤ L.length) (fun k => L.length - k) 0 (by omega) ?_ ?_
  · rw [filled_zero]; simp only [go_sem, tyAll, Nat.reduceAdd, Nat.reduceLT, Nat.reduceLeDiff, Nat.reduceEqDiff, Nat.reduceMul, Nat.reduceSub, Nat.reduceGT, reduceIte, Int.reduceNeg, Int.reduceToNat]; first | exact ⟨rfl, rfl⟩ | rfl
  intro k hk
  by_cases hlt : k < L.length
  · have h0 := (hY _ (List.getElem_mem hlt)).1
    have h0' := (hY _ (List.getElem_mem hlt)).2
    have h1 := rowAt_map encMach L k hlt
    have h2 := filled_len encMach zerMach L k hk
    have h3 : Go.Vc.rowAt (filled encMach zerMach L k) k = [.v (.int .i64 0), .v (.int .i64 0), .v (.int .i64 0), .v (.slice none 0 0), .v (.slice none 0 0), .v (.int .i64 0), .v (.int .i64 0)] := filled_row encMach zerMach L k hlt
    have h4 := filled_set encMach zerMach L k hlt
    rw [encMach] at h4
    (repeat' (first | refine WP.seq ?_ | refine WP.block ?_ | ((first | refine WP.region ?_ | refine WP.condW ?_ | refine WP.ret ?_ | refine WP.exit ?_ | refine WP.skip ?_); simp only [go_sem, h1, h2, h3, h4, encMach, tyAll, Nat.reduceAdd, Nat.reduceLT, Nat.reduceLeDiff, Nat.reduceEqDiff, Nat.reduceMul, Nat.reduceSub, Nat.reduceGT, reduceIte, Int.reduceNeg, Int.reduceToNat]) |  refine And.intro ?_ ?_ | intro _))
    all_goals first | omega | exact h0 | exact h0' | exact ⟨k + 1, by omega, by omega, rfl, rfl⟩ | skip
    all_goals trace_state
  · have h2 := filled_len encMach zerMach L k hk
    have h5 : filled encMach zerMach L k = L.map encMach := by rw [show k = L.length by omega]; exact filled_all _ _ _
    (repeat' (first | refine WP.seq ?_ | refine WP.block ?_ | ((first | refine WP.region ?_ | refine WP.condW ?_ | refine WP.ret ?_ | refine WP.exit ?_ | refine WP.skip ?_); simp only [go_sem, h2, h5, tyAll, Nat.reduceAdd, Nat.reduceLT, Nat.reduceLeDiff, Nat.reduceEqDiff, Nat.reduceMul, Nat.reduceSub, Nat.reduceGT, reduceIte, Int.reduceNeg, Int.reduceToNat]) |  refine And.intro ?_ ?_ | intro _))
    all_goals first | omega | skip
end
def ktoMachS : Ctr := pur (fun args => decMach (aR args 0)) (fun L => [.sl 7 (L.map encMach)]) (fun L => L.length ≤ 1048576 ∧ ∀ x ∈ L, shMach x) (fun _ L => .sl 7 (L.map encMach)) (fun _ _ => [])
theorem ctoMachS : Cn Try.prog 113 ktoMachS := Cn.frozenW ctoMachO
def shSp (x : SpX) : Prop := (x.1.length ≤ 2097152 ∧ ∀ i ∈ x.1, i.symbols.length ≤ 2097152) ∧ x.2.1.length ≤ 2097152 ∧ x.2.2.length ≤ 2097152
def ktoSp : Ctr := pur (fun args => spA args 0) (fun x => [.agg [.sl 2 (x.1.map encImage), .sl 1 (x.2.1.map encI), .sl 1 (x.2.2.map encI)]]) shSp (fun _ x => .agg [.sl 2 (x.1.map encImage), .sl 1 (x.2.1.map encI), .sl 1 (x.2.2.map encI)]) (fun _ _ => [])
section
noncomputable def cxTsp : Cx := { P := Try.prog, tys := tys, C := [(10, ktoIz), (142, ktoImgS)], hty := tysOk, hC := COk.cons ctoIz (COk.cons ctoImgS (COk.nil _)) }
theorem cxTsp_t : cxTsp.tys = tys := rfl
theorem cxTsp_c : cxTsp.C = [(10, ktoIz), (142, ktoImgS)] := rfl
attribute [local go_sem] cxTsp_t cxTsp_c ktoIz ktoImgS
theorem ctoSp : Cn Try.prog 112 ktoSp := by
  refine Cn.pur Try.func112 (by kernel_rfl) rfl fun d x hx => ?_
  obtain ⟨I, B, E⟩ := x
  obtain ⟨⟨hI, hIm⟩, hB, hE⟩ := hx
  simp only at hI hIm hB hE ⊢
  refine Holds.go (c := cxTsp) Try.func112 rfl Try.results112 Try.ntmps112 (by omega) (by simp) rfl ?_
  intro X0 w0
  (repeat' (first | refine WP.seq ?_ | refine WP.block ?_ | ((first | refine WP.region ?_ | refine WP.condW ?_ | refine WP.ret ?_ | refine WP.exit ?_ | refine WP.skip ?_); simp only [go_sem, tyAll, Nat.reduceAdd, Nat.reduceLT, Nat.reduceLeDiff, Nat.reduceEqDiff, Nat.reduceMul, Nat.reduceSub, Nat.reduceGT, reduceIte, Int.reduceNeg, Int.reduceToNat]) |  refine And.intro ?_ ?_ | intro _))
  all_goals first | omega | exact hIm _ ‹_› | exact ⟨_, _, _, rfl⟩ | exact ⟨_, _, rfl, _, _, rfl, rfl⟩ | skip
  all_goals trace_state
end
def shPc (x : PcX) : Prop := shSp x.1 ∧ x.2.1.length ≤ 1048576 ∧ ∀ m ∈ x.2.1, shMach m
def aggPc (x : PcX) : List SV := [.sl 2 (x.1.1.map encImage), .sl 1 (x.1.2.1.map encI), .sl 1 (x.1.2.2.map encI), .sl 7 (x.2.1.map encMach), .v (.int .i64 x.2.2.1), .v (.int .i64 x.2.2.2.1), .v (.int .i64 x.2.2.2.2)]
def ktoPc : Ctr := pur (fun args => pcA args 0) (fun x => [.agg (aggPc x)]) shPc (fun _ x => .agg (aggPc x)) (fun _ _ => [])
section
attribute [local go_sem] aggPc
attribute [local irreducible] shMach
noncomputable def cxTpc : Cx := { P := Try.prog, tys := tys, C := [(112, ktoSp), (113, ktoMachS)], hty := tysOk, hC := COk.cons ctoSp (COk.cons ctoMachS (COk.nil _)) }
theorem cxTpc_t : cxTpc.tys = tys := rfl
theorem cxTpc_c : cxTpc.C = [(112, ktoSp), (113, ktoMachS)] := rfl
attribute [local go_sem] cxTpc_t cxTpc_c ktoSp ktoMachS
theorem ctoPc : Cn Try.prog 72 ktoPc := by
  refine Cn.pur Try.func72 (by kernel_rfl) rfl fun d x hx => ?_
  obtain ⟨⟨I, B, E⟩, T, tu, le, sl⟩ := x
  obtain ⟨hsp, hT, hTs⟩ := hx
  have hsp2 := hsp
  obtain ⟨⟨hI, hIm⟩, hB, hE⟩ := hsp2
  simp only [aggPc] at hT hTs hI hIm hB hE ⊢
  refine Holds.go (c := cxTpc) Try.func72 rfl Try.results72 Try.ntmps72 (by omega) (by simp) rfl ?_
  intro X0 w0
  (repeat' (first | refine WP.seq ?_ | refine WP.block ?_ | ((first | refine WP.region ?_ | refine WP.condW ?_ | refine WP.ret ?_ | refine WP.exit ?_ | refine WP.skip ?_); simp only [go_sem, tyAll, Nat.reduceAdd, Nat.reduceLT, Nat.reduceLeDiff, Nat.reduceEqDiff, Nat.reduceMul, Nat.reduceSub, Nat.reduceGT, reduceIte, Int.reduceNeg, Int.reduceToNat]) |  refine And.intro ?_ ?_ | intro _))
  all_goals first | omega | exact hIm _ ‹_› | exact hTs _ ‹_› | exact hsp | exact ⟨_, _, _, _, _, _, _, rfl⟩ | exact ⟨_, _, rfl, _, _, rfl, rfl⟩ | skip
  all_goals trace_state
end
def aggTm (x : Tm) : List SV := [.v (.int .i64 x.period), .v (.int .i64 x.spread), .v (.int .i64 x.left), .v (.int .i64 x.state)]
def ktoTm : Ctr := pur (fun args => tmA args 0) (fun x => [.agg (aggTm x)]) (fun _ => True) (fun _ x => .agg (aggTm x)) (fun _ _ => [])
section
attribute [local go_sem] aggTm
noncomputable def cxTti : Cx := { P := Try.prog, tys := tys, C := [], hty := tysOk, hC := COk.nil _ }
theorem cxTti_t : cxTti.tys = tys := rfl
theorem cxTti_c : cxTti.C = [] := rfl
attribute [local go_sem] cxTti_t cxTti_c 
theorem ctoTm : Cn Try.prog 73 ktoTm := by
  refine Cn.pur Try.func73 (by kernel_rfl) rfl fun d x hx => ?_
  obtain ⟨p, q, l, st⟩ := x
  simp only [aggTm]
  refine Holds.go (c := cxTti) Try.func73 rfl Try.results73 Try.ntmps73 (by omega) (by simp) rfl ?_
  intro X0 w0
  (repeat' (first | refine WP.seq ?_ | refine WP.block ?_ | ((first | refine WP.region ?_ | refine WP.condW ?_ | refine WP.ret ?_ | refine WP.exit ?_ | refine WP.skip ?_); simp only [go_sem, tyAll, Nat.reduceAdd, Nat.reduceLT, Nat.reduceLeDiff, Nat.reduceEqDiff, Nat.reduceMul, Nat.reduceSub, Nat.reduceGT, reduceIte, Int.reduceNeg, Int.reduceToNat]) |  refine And.intro ?_ ?_ | intro _))
  all_goals first | omega | exact ⟨_, _, _, _, rfl⟩ | exact ⟨_, _, rfl, _, _, rfl, rfl⟩ | skip
  all_goals trace_state
end
def aggRg (x : RgX) : List SV := [.v (.int .i64 x.1), .sl 1 (x.2.1.map encS), .v (.int .i64 x.2.2.1), .v (.int .i64 x.2.2.2)]
def ktoRg : Ctr := pur (fun args => rgA args 0) (fun x => [.agg (aggRg x)]) (fun x => x.2.1.length ≤ 2097152) (fun _ x => .agg (aggRg x)) (fun _ _ => [])
section
attribute [local go_sem] aggRg
noncomputable def cxTrg : Cx := { P := Try.prog, tys := tys, C := [(84, ktoSz)], hty := tysOk, hC := COk.cons ctoSz (COk.nil _) }
theorem cxTrg_t : cxTrg.tys = tys := rfl
theorem cxTrg_c : cxTrg.C = [(84, ktoSz)] := rfl
attribute [local go_sem] cxTrg_t cxTrg_c ktoSz
theorem ctoRg : Cn Try.prog 74 ktoRg := by
  refine Cn.pur Try.func74 (by kernel_rfl) rfl fun d x hx => ?_
  obtain ⟨cp, R, wr, lo⟩ := x
  simp only [aggRg] at hx ⊢
  refine Holds.go (c := cxTrg) Try.func74 rfl Try.results74 Try.ntmps74 (by omega) (by simp) rfl ?_
  intro X0 w0
  (repeat' (first | refine WP.seq ?_ | refine WP.block ?_ | ((first | refine WP.region ?_ | refine WP.condW ?_ | refine WP.ret ?_ | refine WP.exit ?_ | refine WP.skip ?_); simp only [go_sem, tyAll, Nat.reduceAdd, Nat.reduceLT, Nat.reduceLeDiff, Nat.reduceEqDiff, Nat.reduceMul, Nat.reduceSub, Nat.reduceGT, reduceIte, Int.reduceNeg, Int.reduceToNat]) |  refine And.intro ?_ ?_ | intro _))
  all_goals first | omega | exact ⟨_, _, _, _, rfl⟩ | exact ⟨_, _, rfl, _, _, rfl, rfl⟩ | skip
  all_goals trace_state
end
def shSe (x : SeX) : Prop := shPc x.1 ∧ x.2.2.1.2.1.length ≤ 2097152
def ktoSe : Ctr := pur (fun args => seA args 0) (fun x => [.agg (aggSe x)]) shSe (fun _ x => .agg (aggSe x)) (fun _ _ => [])
section
attribute [local go_sem] aggSe aggPc aggTm aggRg
attribute [local irreducible] shMach
noncomputable def cxTse : Cx := { P := Try.prog, tys := tys, C := [(72, ktoPc), (73, ktoTm), (74, ktoRg)], hty := tysOk, hC := COk.cons ctoPc (COk.cons ctoTm (COk.cons ctoRg (COk.nil _))) }
theorem cxTse_t : cxTse.tys = tys := rfl
theorem cxTse_c : cxTse.C = [(72, ktoPc), (73, ktoTm), (74, ktoRg)] := rfl
attribute [local go_sem] cxTse_t cxTse_c ktoPc ktoTm ktoRg
set_option maxHeartbeats 3000000 in
theorem ctoSe : Cn Try.prog 37 ktoSe := by
  refine Cn.pur Try.func37 (by kernel_rfl) rfl fun d x hx => ?_
  obtain ⟨⟨⟨I, B, E⟩, T, tu, le, sl⟩, ⟨p, q, l, st⟩, ⟨cp, R, wr, lo⟩, mo, sp, fi⟩ := x
  obtain ⟨hP, hR⟩ := hx
  have hP2 := hP
  obtain ⟨⟨⟨hI, hIm⟩, hB, hE⟩, hT, hTs⟩ := hP2
  simp only [aggSe] at hI hIm hB hE hT hTs hR ⊢
  refine Holds.go (c := cxTse) Try.func37 rfl Try.results37 Try.ntmps37 (by omega) (by simp) rfl ?_
  intro X0 w0
  (repeat' (first | refine WP.seq ?_ | refine WP.block ?_ | ((first | refine WP.region ?_ | refine WP.condW ?_ | refine WP.ret ?_ | refine WP.exit ?_ | refine WP.skip ?_); simp only [go_sem, tyAll, Nat.reduceAdd, Nat.reduceLT, Nat.reduceLeDiff, Nat.reduceEqDiff, Nat.reduceMul, Nat.reduceSub, Nat.reduceGT, reduceIte, Int.reduceNeg, Int.reduceToNat]) |  refine And.intro ?_ ?_ | intro _))
  all_goals first | omega | exact hIm _ ‹_› | exact hTs _ ‹_› | exact hP | exact ⟨_, _, rfl, _, _, rfl, rfl⟩ | skip
  all_goals trace_state
end
end
end Go.Proofs.Ytdbjioanlkilkaa
