/-
  DERIVED. Several texts of ours in one: VcRf, VtTimer, VtWeigh, VtDrawS, VtW2, VtNamed, VsLayS, VcV, VtSortE, VtEnI, VtFoc, VtPrZ, VtFocZ, VtTot.
-/
import Derived.Test.YtahcfcimfcjhhaaGreatDoorVx0
import Derived.Test.YtahcfcimfcjhhaaGreatDoorVx1
import Derived.Test.YtahcfcimfcjhhaaGreatDoorVx2
import Derived.Test.YtahcfcimfcjhhaaGreatDoorVx3
import Derived.Test.YtahcfcimfcjhhaaGreatDoorVx4
import Derived.Test.YtahcfcimfcjhhaaGreatDoorVx5
import Derived.Test.YtahcfcimfcjhhaaGreatDoorVx6
import Derived.Test.YtahcfcimfcjhhaaGreatDoorVx7
import Derived.Test.YtahcfcimfcjhhaaGreatDoorVx8
import Derived.Shelf.SlSortCmp.WholeK
import Derived.Shelf.SlLaysF0
import Derived.Ground.SlsfProg
import Derived.Test.YtahcfcimfcjhhaaGreatDoorProg
import Derived.Shelf.SlSortCmp.NoneTotal
import Derived.Shelf.Small.Strs
set_option linter.unusedSimpArgs false
set_option linter.unusedVariables false
/-
  DERIVED. A region with a fixed order, in which lists of one's own are taken as read-only ahead of a given operation.
-/
namespace Go.Vc
set_option linter.unusedVariables false
def St.fzAt (fz : List (Nat × List Nat)) (i : Nat) (st : St) : St := match lk i fz with
  | some ids => st.prep ids []
  | none => st
def St.runFz (tys : List (Nat × TyD)) (C : List (FuncId × Ctr)) (N : Nat) (ops : Array Oper) (fz : List (Nat × List Nat)) : Nat → List Oper → St → (St → Prop) → Prop
  | _, [], st, K => K st
  | i, o :: l, st, K => (st.fzAt fz i).stepO tys C N ops o fun st' => St.runFz tys C N ops fz (i + 1) l st' K
section
variable {P : Program} {tys : List (Nat × TyD)} {C : List (FuncId × Ctr)} {N : Nat} {X0 : Nat → Prop} {M : Nat → Value → Prop} {w0 : World} {st : St} {β : Nat → Value} {a : Act} {w : World}
theorem Sim.fzAt (hA : Ap P X0 M w0) (h : Sim N X0 M w0 st β a w) (fz : List (Nat × List Nat)) (i : Nat) : ∃ β', Sim N X0 M w0 (st.fzAt fz i) β' a w := by
  unfold St.fzAt
  split
  · exact h.prep hA rfl
  · exact ⟨β, h⟩
theorem runFz_sound (hA : Ap P X0 M w0) (hty : ∀ T d, lk T tys = some d → TyOk P T d) (hC : COk P C) {ops : Array Oper} {fz : List (Nat × List Nat)} {K : St → Prop} {Q : Exit → Act → World → Prop} (hQ : ∀ a w, Ok N X0 M w0 K a w → Q .normal a w) :
    ∀ (l : List Oper) {i : Nat} {st : St} {β : Nat → Value} {a : Act} {w : World}, Sim N X0 M w0 st β a w → St.runFz tys C N ops fz i l st K → wpList P ops Q l a w
  | [], i, st, β, a, w, h, hw => hQ a w ⟨st, β, hw, h⟩
  | o :: l, i, st, β, a, w, h, hw => by
    obtain ⟨β1, h0⟩ := h.fzAt hA fz i
    have h1 := stepO_sound (Q := Q) hA hty hC h0 hw
    unfold wpList
    split
    · rename_i hwt
      rw [if_pos hwt] at h1
      exact .inl (Oper.wp_mono (fun a' w' ⟨st', β', h2, h3⟩ => runFz_sound hA hty hC hQ l h3 h2) h1)
    · rename_i hwt
      rw [if_neg hwt] at h1
      obtain ⟨st', β', h2, h3⟩ := h1
      exact runFz_sound hA hty hC hQ l h3 h2
end
section
variable {c : Cx} {N : Nat} {X0 : Nat → Prop} {M : Nat → Value → Prop} {w0 : World} {st : St} {K : Exit → St → Prop}
theorem WP.regionF {id : Nat} (fz : List (Nat × List Nat)) {l : List Oper} (h : St.runFz c.tys c.C N l.toArray fz 0 l st (K .normal)) : WP c N X0 M w0 (.region id l.toArray false) st K := fun hA β a w hs =>
  wp_region_lit (runFz_sound hA c.hty c.hC (fun a w hk => hk) l hs h)
end
end Go.Vc

namespace Go.Proofs.YtahcfcimfcjhhaaGreatDoor
open Go.Vc
attribute [local go_sem] St.runR St.runW St.stepV offV St.step St.stepU St.stepG mkCond guardB St.prK St.pr St.prLen St.eff St.callE St.callD St.callF St.callL aI aB aS aR aC St.isM St.argL Ctr.pure Ctr.lend Ctr.move Ctr.isL Ctr.wri pur len lentBy St.lentV St.lent1 nthS argsR restOf obsR pairs swapL unObs backL St.resL erL SV.ren1 SV.up SV.up2 Ob.up St.fzL cellIds partIds St.intoRow SV.ownId St.fz SV.fz1 St.prep St.mvL St.mv SV.re1 rnOk St.prEq vals eqCells scEq Value.kd St.prStr St.prCut cutR St.bnd St.prMin St.bld isShift outL retL outJ oR oC St.ev St.get St.put St.new St.kill SV.kill SV.kill1 Ob.kill St.app St.wrt St.rowsOf St.res St.killL lk er argsL SV.strip SV.need SV.share SV.share1 SV.owns SV.owns1 SV.owns2 SV.good SV.good1 SV.rok SV.rok1 SV.rok2 SV.isV SV.isV2 nodupN SV.cells SV.one SV.pur Ob.pb partsIn rowsIn splice cellsAt dstOk scal2 scal1 thenK blockK retK outK outs okC okL okA okT nilC nilL nilA nilT keepC keepL keepA keepT St.runG St.dltK St.least St.clean St.final St.hide offK badS badO SV.refs SV.leaf SV.leaf2 Ob.refs dlOk fpAt Go.Vc.cover tups SV.ofAgg St.out outC subL St.has rng wr Value.oneCell' Option.isSome_some Option.isSome_none List.nil_append Bool.false_eq_true List.map_cons List.map_nil List.all_cons List.all_nil List.length_cons List.length_nil List.drop_zero List.drop_succ_cons List.take_succ_cons List.take_zero List.drop_nil List.take_nil List.getElem?_cons_zero List.getElem?_cons_succ List.getElem?_nil List.cons_append List.nil_append List.append_nil List.append_assoc List.flatMap_cons List.flatMap_nil List.contains_cons List.contains_nil List.set_cons_zero List.set_cons_succ List.getElem?_toArray Option.getD_some Option.getD_none Option.map_some Option.map_none Option.bind_some Option.some.injEq Prod.mk.injEq if_true if_false true_and and_true and_self and_false false_and Bool.and_false Bool.false_and Bool.or_true Bool.true_or Bool.or_false Bool.false_or ne_eq not_true_eq_false not_false_eq_true decide_true decide_false List.mem_cons List.not_mem_nil List.filter_cons List.filter_nil List.any_cons List.any_nil List.isEmpty_nil List.isEmpty_cons Option.getD_none or_false false_or true_or or_true forall_eq_or_imp forall_eq reduceCtorEq exists_eq exists_eq' exists_eq_left' exists_eq_left exists_eq_right exists_eq_right' imp_self implies_true Bool.and_true Bool.true_and Bool.and_self beq_self_eq_true List.replicate_succ List.replicate_zero forall_const false_implies pickB_or pickB_and beqT beqF Int.toNat_natCast List.length_map List.length_replicate ge_iff_le gt_iff_lt decide_eq_true_eq decide_eq_false_iff_not Bool.and_eq_true Bool.or_eq_true Bool.not_eq_true' Bool.not_eq_false' condG List.toList_toArray Bool.or_eq_false_iff Bool.and_eq_false_iff Int.not_lt Int.not_le beq_iff_eq beq_eq_false_iff_ne bne_iff_ne bne_eq_false_iff_eq ne_eq Bool.not_true Bool.not_false exists_and_left
section
open Go.Vc
set_option linter.unusedSimpArgs false
set_option linter.unusedVariables false
set_option maxHeartbeats 1000000
set_option maxRecDepth 10000
attribute [local irreducible] Go.Vc.WP
attribute [local go_sem] cx0_t cx0_c
open Go.Pl
attribute [local go_sem] encCur decCur_abc decI_enc decU_enc St.runO St.stepO
structure Tm where
  period : Int
  spread : Int
  left : Int
  state : Int
deriving DecidableEq
def encTm (x : Tm) : List SV := [.v (.int .i64 x.period), .v (.int .i64 x.spread), .v (.int .i64 x.left), .v (.int .i64 x.state)]
def tmA (args : List SV) (i : Nat) : Tm := match args[i]? with
  | some (.agg [.v (.int _ a), .v (.int _ b), .v (.int _ c), .v (.int _ d)]) => ⟨a, b, c, d⟩
  | _ => ⟨0, 0, 0, 0⟩
theorem tm_eta (x : Tm) : (⟨x.period, x.spread, x.left, x.state⟩ : Tm) = x := rfl
attribute [local go_sem] tmA tm_eta
def tmOk (x : Tm) : Bool := decide ((1 ≤ x.period ∧ x.period ≤ 10000) ∧ (0 ≤ x.spread ∧ x.spread ≤ 100) ∧ (1 ≤ x.left ∧ x.left ≤ x.period + x.spread) ∧ 0 ≤ x.state ∧ x.state ≤ 65535)
theorem and16 (a : Int) : 0 ≤ bitAnd .i64 a 65535 ∧ bitAnd .i64 a 65535 ≤ 65535 := by
  unfold bitAnd
  have h1 : (BitVec.ofInt IntKind.i64.bits a &&& BitVec.ofInt IntKind.i64.bits 65535).toNat ≤ 65535 := by
    rw [BitVec.toNat_and]
    exact Nat.le_trans Nat.and_le_right (by decide)
  generalize (BitVec.ofInt IntKind.i64.bits a &&& BitVec.ofInt IntKind.i64.bits 65535).toNat = n at h1
  rw [show IntKind.i64.wrap (n : Int) = n from IntWalk.i64_in _ ⟨by omega, by omega⟩]
  omega
def nextSt (s : Int) : Int := if 0 ≤ s ∧ s ≤ 65535 then bitAnd .i64 (s * 25173 + 13849) 65535 else 0
theorem nextSt_bd (s : Int) : 0 ≤ nextSt s ∧ nextSt s ≤ 65535 := by
  unfold nextSt
  split
  · exact and16 _
  · omega
def kTmOk : Ctr := pur (fun args => tmA args 0) (fun x => [.agg [.v (.int .i64 x.period), .v (.int .i64 x.spread), .v (.int .i64 x.left), .v (.int .i64 x.state)]]) (fun _ => True) (fun _ x => .v (.bool (tmOk x))) (fun _ _ => [])
section
noncomputable def cxTmS : Cx := { P := Tryz.prog, tys := tys, C := [(30, k60)], hty := tysOk, hC := COk.cons c58 (COk.nil _) }
theorem cxTmS_t : cxTmS.tys = tys := rfl
theorem cxTmS_c : cxTmS.C = [(30, k60)] := rfl
attribute [local go_sem] cxTmS_t cxTmS_c k60
theorem cTmOkS : Cn Tryz.prog 62 kTmOk := by
  refine Cn.pur Tryz.func62 (by kernel_rfl) rfl fun d x hx => ?_
  obtain ⟨p, s, l, t⟩ := x
  simp only
  refine Holds.go (c := cxTmS) Tryz.func62 rfl Tryz.results62 Tryz.ntmps62 (by omega) (by simp) rfl ?_
  intro X0 w0
  have e : tmOk ⟨p, s, l, t⟩ = (decide (1 ≤ p) && decide (p ≤ 10000) && (decide (0 ≤ s) && decide (s ≤ 100)) && (decide (1 ≤ l) && decide (l ≤ p + s)) && (decide (0 ≤ t) && decide (t ≤ 65535))) := by
    unfold tmOk
    rw [Bool.eq_iff_iff]
    simp only [decide_eq_true_eq, Bool.and_eq_true]
    omega
  by_cases h1 : 1 ≤ p ∧ p ≤ 10000
  · by_cases h2 : 0 ≤ s ∧ s ≤ 100
    · (repeat' (first | refine WP.seq ?_ | refine WP.block ?_ | ((first | refine WP.region ?_ | refine WP.condW ?_ | refine WP.ret ?_ | refine WP.exit ?_ | refine WP.skip ?_); simp only [go_sem, e, tyAll, Nat.reduceAdd, Nat.reduceLT, Nat.reduceLeDiff, Nat.reduceEqDiff, Nat.reduceMul, Nat.reduceSub, Nat.reduceGT, reduceIte, Int.reduceNeg, Int.reduceToNat]) |  refine And.intro ?_ ?_ | intro _))
      all_goals first | omega | exact ⟨_, _, rfl, _, _, rfl, rfl⟩ | skip
      all_goals trace_state
    · (repeat' (first | refine WP.seq ?_ | refine WP.block ?_ | ((first | refine WP.region ?_ | refine WP.condW ?_ | refine WP.ret ?_ | refine WP.exit ?_ | refine WP.skip ?_); simp only [go_sem, e, tyAll, Nat.reduceAdd, Nat.reduceLT, Nat.reduceLeDiff, Nat.reduceEqDiff, Nat.reduceMul, Nat.reduceSub, Nat.reduceGT, reduceIte, Int.reduceNeg, Int.reduceToNat]) |  refine And.intro ?_ ?_ | intro _))
      all_goals first | omega | exact ⟨_, _, rfl, _, _, rfl, rfl⟩ | skip
      all_goals trace_state
  · (repeat' (first | refine WP.seq ?_ | refine WP.block ?_ | ((first | refine WP.region ?_ | refine WP.condW ?_ | refine WP.ret ?_ | refine WP.exit ?_ | refine WP.skip ?_); simp only [go_sem, e, tyAll, Nat.reduceAdd, Nat.reduceLT, Nat.reduceLeDiff, Nat.reduceEqDiff, Nat.reduceMul, Nat.reduceSub, Nat.reduceGT, reduceIte, Int.reduceNeg, Int.reduceToNat]) |  refine And.intro ?_ ?_ | intro _))
    all_goals first | omega | exact ⟨_, _, rfl, _, _, rfl, rfl⟩ | skip
    all_goals trace_state
end
def kNext : Ctr := pur (fun args => aI args 0) (fun s => [.v (.int .i64 s)]) (fun _ => True) (fun _ s => .v (.int .i64 (nextSt s))) (fun _ _ => [])
section
noncomputable def cxNxS : Cx := { P := Tryz.prog, tys := tys, C := [(30, k60)], hty := tysOk, hC := COk.cons c58 (COk.nil _) }
theorem cxNxS_t : cxNxS.tys = tys := rfl
theorem cxNxS_c : cxNxS.C = [(30, k60)] := rfl
attribute [local go_sem] cxNxS_t cxNxS_c k60
theorem cNextS : Cn Tryz.prog 63 kNext := by
  refine Cn.pur Tryz.func63 (by kernel_rfl) rfl fun d x hx => ?_
  rename Int => s
  refine Holds.go (c := cxNxS) Tryz.func63 rfl Tryz.results63 Tryz.ntmps63 (by omega) (by simp) rfl ?_
  intro X0 w0
  by_cases h : 0 ≤ s ∧ s ≤ 65535
  · have e : nextSt s = bitAnd .i64 (s * 25173 + 13849) 65535 := if_pos h
    rw [e]
    (repeat' (first | refine WP.seq ?_ | refine WP.block ?_ | ((first | refine WP.region ?_ | refine WP.condW ?_ | refine WP.ret ?_ | refine WP.exit ?_ | refine WP.skip ?_); simp only [go_sem, h, tyAll, Nat.reduceAdd, Nat.reduceLT, Nat.reduceLeDiff, Nat.reduceEqDiff, Nat.reduceMul, Nat.reduceSub, Nat.reduceGT, reduceIte, Int.reduceNeg, Int.reduceToNat]) |  refine And.intro ?_ ?_ | intro _))
    all_goals first | omega | exact ⟨_, _, rfl, _, _, rfl, rfl⟩ | skip
    all_goals trace_state
  · have e : nextSt s = 0 := if_neg h
    rw [e]
    (repeat' (first | refine WP.seq ?_ | refine WP.block ?_ | ((first | refine WP.region ?_ | refine WP.condW ?_ | refine WP.ret ?_ | refine WP.exit ?_ | refine WP.skip ?_); simp only [go_sem, h, tyAll, Nat.reduceAdd, Nat.reduceLT, Nat.reduceLeDiff, Nat.reduceEqDiff, Nat.reduceMul, Nat.reduceSub, Nat.reduceGT, reduceIte, Int.reduceNeg, Int.reduceToNat]) |  refine And.intro ?_ ?_ | intro _))
    all_goals first | omega | exact ⟨_, _, rfl, _, _, rfl, rfl⟩ | skip
    all_goals trace_state
end
def tick (x : Tm) : Tm × Bool := if tmOk x = true then
    (if 0 < x.left - 1 then (⟨x.period, x.spread, x.left - 1, x.state⟩, false)
      else if 0 < x.spread then (⟨x.period, x.spread, x.period + ((nextSt x.state).tdiv 64).tmod x.spread, nextSt x.state⟩, true) else (⟨x.period, x.spread, x.period, x.state⟩, true))
  else (x, false)
def kTick : Ctr := pur (fun args => tmA args 0) (fun x => [.agg [.v (.int .i64 x.period), .v (.int .i64 x.spread), .v (.int .i64 x.left), .v (.int .i64 x.state)]]) (fun _ => True)
  (fun _ x => .tup [.agg [.v (.int .i64 (tick x).1.period), .v (.int .i64 (tick x).1.spread), .v (.int .i64 (tick x).1.left), .v (.int .i64 (tick x).1.state)], .v (.bool (tick x).2)]) (fun _ _ => [])
section
noncomputable def cxTkS : Cx := { P := Tryz.prog, tys := tys, C := [(62, kTmOk), (63, kNext)], hty := tysOk, hC := COk.cons cTmOkS (COk.cons cNextS (COk.nil _)) }
theorem cxTkS_t : cxTkS.tys = tys := rfl
theorem cxTkS_c : cxTkS.C = [(62, kTmOk), (63, kNext)] := rfl
attribute [local go_sem] cxTkS_t cxTkS_c kTmOk kNext
theorem cTickS : Cn Tryz.prog 31 kTick := by
  refine Cn.pur Tryz.func31 (by kernel_rfl) rfl fun d x hx => ?_
  obtain ⟨p, s, l, t⟩ := x
  simp only
  refine Holds.go (c := cxTkS) Tryz.func31 rfl Tryz.results31 Tryz.ntmps31 (by omega) (by simp) rfl ?_
  intro X0 w0
  cases hok : tmOk ⟨p, s, l, t⟩ with
  | false =>
    have e : tick ⟨p, s, l, t⟩ = (⟨p, s, l, t⟩, false) := if_neg (by rw [hok]; simp)
    rw [e]
    (repeat' (first | refine WP.seq ?_ | refine WP.block ?_ | ((first | refine WP.region ?_ | refine WP.condW ?_ | refine WP.ret ?_ | refine WP.exit ?_ | refine WP.skip ?_); simp only [go_sem, hok, tyAll, Nat.reduceAdd, Nat.reduceLT, Nat.reduceLeDiff, Nat.reduceEqDiff, Nat.reduceMul, Nat.reduceSub, Nat.reduceGT, reduceIte, Int.reduceNeg, Int.reduceToNat]) | ((first | refine WP.drawW 9 (by decide +kernel) (by kernel_rfl) ?_); simp only [go_sem, hok, tyAll, Nat.reduceAdd, Nat.reduceLT, Nat.reduceLeDiff, Nat.reduceEqDiff, Nat.reduceMul, Nat.reduceSub, Nat.reduceGT, reduceIte, Int.reduceNeg, Int.reduceToNat]) |  refine And.intro ?_ ?_ | intro _))
    all_goals first | omega | exact ⟨_, _, rfl, _, _, rfl, rfl⟩ | skip
    all_goals trace_state
  | true =>
    have h := of_decide_eq_true hok
    simp only at h
    obtain ⟨h1, h2, h3, h4⟩ := h
    have hn := nextSt_bd t
    by_cases hl : 0 < l - 1
    · have e : tick ⟨p, s, l, t⟩ = (⟨p, s, l - 1, t⟩, false) := by unfold tick; rw [if_pos hok, if_pos hl]
      rw [e]
      (repeat' (first | refine WP.seq ?_ | refine WP.block ?_ | ((first | refine WP.region ?_ | refine WP.condW ?_ | refine WP.ret ?_ | refine WP.exit ?_ | refine WP.skip ?_); simp only [go_sem, hok, hl, tyAll, Nat.reduceAdd, Nat.reduceLT, Nat.reduceLeDiff, Nat.reduceEqDiff, Nat.reduceMul, Nat.reduceSub, Nat.reduceGT, reduceIte, Int.reduceNeg, Int.reduceToNat]) | ((first | refine WP.drawW 9 (by decide +kernel) (by kernel_rfl) ?_); simp only [go_sem, hok, hl, tyAll, Nat.reduceAdd, Nat.reduceLT, Nat.reduceLeDiff, Nat.reduceEqDiff, Nat.reduceMul, Nat.reduceSub, Nat.reduceGT, reduceIte, Int.reduceNeg, Int.reduceToNat]) |  refine And.intro ?_ ?_ | intro _))
      all_goals first | omega | exact ⟨_, _, rfl, _, _, rfl, rfl⟩ | skip
      all_goals trace_state
    · by_cases hs : 0 < s
      · have e : tick ⟨p, s, l, t⟩ = (⟨p, s, p + ((nextSt t).tdiv 64).tmod s, nextSt t⟩, true) := by unfold tick; rw [if_pos hok, if_neg hl, if_pos hs]
        rw [e]
        have q1 : 0 ≤ (nextSt t).tdiv 64 ∧ (nextSt t).tdiv 64 ≤ 65535 := by
          rw [Int.tdiv_eq_ediv_of_nonneg hn.1]; omega
        have q2 : 0 ≤ ((nextSt t).tdiv 64).tmod s ∧ ((nextSt t).tdiv 64).tmod s < s := ⟨Int.tmod_nonneg _ q1.1, Int.tmod_lt_of_pos _ hs⟩
        (repeat' (first | refine WP.seq ?_ | refine WP.block ?_ | ((first | refine WP.region ?_ | refine WP.condW ?_ | refine WP.ret ?_ | refine WP.exit ?_ | refine WP.skip ?_); simp only [go_sem, hok, hl, hs, tyAll, Nat.reduceAdd, Nat.reduceLT, Nat.reduceLeDiff, Nat.reduceEqDiff, Nat.reduceMul, Nat.reduceSub, Nat.reduceGT, reduceIte, Int.reduceNeg, Int.reduceToNat]) | ((first | refine WP.drawW 9 (by decide +kernel) (by kernel_rfl) ?_); simp only [go_sem, hok, hl, hs, tyAll, Nat.reduceAdd, Nat.reduceLT, Nat.reduceLeDiff, Nat.reduceEqDiff, Nat.reduceMul, Nat.reduceSub, Nat.reduceGT, reduceIte, Int.reduceNeg, Int.reduceToNat]) |  refine And.intro ?_ ?_ | intro _))
        all_goals first | omega | exact ⟨_, _, rfl, _, _, rfl, rfl⟩ | skip
        all_goals trace_state
      · have e : tick ⟨p, s, l, t⟩ = (⟨p, s, p, t⟩, true) := by unfold tick; rw [if_pos hok, if_neg hl, if_neg hs]
        rw [e]
        (repeat' (first | refine WP.seq ?_ | refine WP.block ?_ | ((first | refine WP.region ?_ | refine WP.condW ?_ | refine WP.ret ?_ | refine WP.exit ?_ | refine WP.skip ?_); simp only [go_sem, hok, hl, hs, tyAll, Nat.reduceAdd, Nat.reduceLT, Nat.reduceLeDiff, Nat.reduceEqDiff, Nat.reduceMul, Nat.reduceSub, Nat.reduceGT, reduceIte, Int.reduceNeg, Int.reduceToNat]) | ((first | refine WP.drawW 9 (by decide +kernel) (by kernel_rfl) ?_); simp only [go_sem, hok, hl, hs, tyAll, Nat.reduceAdd, Nat.reduceLT, Nat.reduceLeDiff, Nat.reduceEqDiff, Nat.reduceMul, Nat.reduceSub, Nat.reduceGT, reduceIte, Int.reduceNeg, Int.reduceToNat]) |  refine And.intro ?_ ?_ | intro _))
        all_goals first | omega | exact ⟨_, _, rfl, _, _, rfl, rfl⟩ | skip
        all_goals trace_state
end
/-- the timer behind k ticks, and those that fired -/
def tmAt (x : Tm) : Nat → Tm
  | 0 => x
  | k + 1 => (tick (tmAt x k)).1
def firesK (x : Tm) : Nat → List Int
  | 0 => []
  | k + 1 => if (tick (tmAt x k)).2 = true then firesK x k ++ [(k : Int)] else firesK x k
theorem firesK_len (x : Tm) : ∀ k, (firesK x k).length ≤ k
  | 0 => Nat.le_refl _
  | k + 1 => by
    have := firesK_len x k
    unfold firesK
    split
    · rw [List.length_append, List.length_singleton]; omega
    · omega
theorem firesK_mem (x : Tm) : ∀ k, ∀ y ∈ firesK x k, 0 ≤ y ∧ y < k
  | 0 => fun y hy => by cases hy
  | k + 1 => fun y hy => by
    unfold firesK at hy
    split at hy
    · rcases List.mem_append.1 hy with hy | hy
      · have := firesK_mem x k y hy; omega
      · rw [List.mem_singleton] at hy; omega
    · have := firesK_mem x k y hy; omega
theorem firesK_asc (x : Tm) : ∀ k, (firesK x k).Pairwise (· < ·)
  | 0 => .nil
  | k + 1 => by
    have ih := firesK_asc x k
    unfold firesK
    split
    · refine List.pairwise_append.2 ⟨ih, by simp, fun a ha b hb => ?_⟩
      rw [List.mem_singleton] at hb
      have := firesK_mem x k a ha
      omega
    · exact ih
def kFires : Ctr := pur (fun args => (tmA args 0, aI args 1)) (fun x => [.agg [.v (.int .i64 x.1.period), .v (.int .i64 x.1.spread), .v (.int .i64 x.1.left), .v (.int .i64 x.1.state)], .v (.int .i64 x.2)]) (fun _ => True)
  (fun d _ => .own d) (fun d x => [(d, .sl 3 1 ((if 0 ≤ x.2 ∧ x.2 ≤ 3000 then firesK x.1 x.2.toNat else []).map encI))])
section
noncomputable def cxFiS : Cx := { P := Tryz.prog, tys := tys, C := [(30, k60), (31, kTick)], hty := tysOk, hC := COk.cons c58 (COk.cons cTickS (COk.nil _)) }
theorem cxFiS_t : cxFiS.tys = tys := rfl
theorem cxFiS_c : cxFiS.C = [(30, k60), (31, kTick)] := rfl
attribute [local go_sem] cxFiS_t cxFiS_c k60 kTick
theorem cFiresS : Cn Tryz.prog 8 kFires := by
  refine Cn.pur Tryz.func8 (by kernel_rfl) rfl fun d x hx => ?_
  obtain ⟨⟨p, s, l, t⟩, n⟩ := x
  simp only
  refine Holds.go (c := cxFiS) Tryz.func8 rfl Tryz.results8 Tryz.ntmps8 (by omega) (by simp) rfl ?_
  intro X0 w0
  by_cases hn : 0 ≤ n ∧ n ≤ 3000
  · rw [if_pos hn]
    obtain ⟨m, rfl⟩ : ∃ m : Nat, n = m := ⟨n.toNat, by omega⟩
    rw [Int.toNat_natCast]
    (repeat' (first | refine WP.seq ?_ | refine WP.block ?_ | ((first | refine WP.region ?_ | refine WP.condW ?_ | refine WP.ret ?_ | refine WP.exit ?_ | refine WP.skip ?_); simp only [go_sem, hn, tyAll, Nat.reduceAdd, Nat.reduceLT, Nat.reduceLeDiff, Nat.reduceEqDiff, Nat.reduceMul, Nat.reduceSub, Nat.reduceGT, reduceIte, Int.reduceNeg, Int.reduceToNat]) |  refine And.intro ?_ ?_ | intro _))
    all_goals first | omega | exact ⟨_, _, rfl, _, _, rfl, rfl⟩ | skip
    refine WP.loop (fun k : Nat => ⟨[(1, .v (.int .i64 m)), (2, .ptr 2 0 0 0), (5, .own 9), (6, .v (.int .i64 k))],
      [(2, .box 25 (encTm (tmAt ⟨p, s, l, t⟩ k))), (9, .sl 3 1 ((firesK ⟨p, s, l, t⟩ k).map encI))]⟩) (fun k => k ≤ m) (fun k => m - k) 0 (by simp) ?_ ?_
    · have h0 : tmAt ⟨p, s, l, t⟩ 0 = ⟨p, s, l, t⟩ := rfl
      have h1 : firesK ⟨p, s, l, t⟩ 0 = [] := rfl
      (simp only [go_sem, h0, h1, encTm, tyAll, Nat.reduceAdd, Nat.reduceLT, Nat.reduceLeDiff, Nat.reduceEqDiff, Nat.reduceMul, Nat.reduceSub, Nat.reduceGT, reduceIte, Int.reduceNeg, Int.reduceToNat] <;> (first | rfl | exact ⟨rfl, rfl⟩ | exact ⟨rfl, rfl, rfl⟩ | exact ⟨rfl, rfl, rfl, rfl⟩ | exact ⟨rfl, rfl, rfl, rfl, rfl⟩ | exact ⟨⟨rfl, rfl⟩, rfl⟩ | simp))
    intro k hk
    have hkl := firesK_len ⟨p, s, l, t⟩ k
    by_cases hlt : k < m
    · have hli : (k : Int) < m := by omega
      have e1 : tmAt ⟨p, s, l, t⟩ (k + 1) = (tick (tmAt ⟨p, s, l, t⟩ k)).1 := rfl
      cases hf : (tick (tmAt ⟨p, s, l, t⟩ k)).2 with
      | true =>
        have e2 : firesK ⟨p, s, l, t⟩ (k + 1) = firesK ⟨p, s, l, t⟩ k ++ [(k : Int)] := if_pos hf
        generalize tmAt ⟨p, s, l, t⟩ k = T at *
        generalize firesK ⟨p, s, l, t⟩ k = F at *
        (repeat' (first | refine WP.seq ?_ | refine WP.block ?_ | ((first | refine WP.region ?_ | refine WP.condW ?_ | refine WP.ret ?_ | refine WP.exit ?_ | refine WP.skip ?_); simp only [go_sem, hli, encTm, hf, tyAll, Nat.reduceAdd, Nat.reduceLT, Nat.reduceLeDiff, Nat.reduceEqDiff, Nat.reduceMul, Nat.reduceSub, Nat.reduceGT, reduceIte, Int.reduceNeg, Int.reduceToNat]) |  refine And.intro ?_ ?_ | intro _))
        all_goals first | omega | exact ⟨_, _, rfl, _, _, rfl, rfl⟩ | skip
        all_goals first | exact ⟨k + 1, by omega, by omega, by rw [e1, e2, List.map_append]; simp only [encTm, List.map_cons, List.map_nil, encI]; (first | rfl | exact ⟨rfl, rfl⟩ | exact ⟨rfl, rfl, rfl⟩ | exact ⟨rfl, rfl, rfl, rfl⟩ | exact ⟨rfl, rfl, rfl, rfl, rfl⟩ | exact ⟨⟨rfl, rfl⟩, rfl⟩ | simp)⟩ | trace_state
      | false =>
        have e2 : firesK ⟨p, s, l, t⟩ (k + 1) = firesK ⟨p, s, l, t⟩ k := if_neg (by rw [hf]; simp)
        generalize tmAt ⟨p, s, l, t⟩ k = T at *
        generalize firesK ⟨p, s, l, t⟩ k = F at *
        (repeat' (first | refine WP.seq ?_ | refine WP.block ?_ | ((first | refine WP.region ?_ | refine WP.condW ?_ | refine WP.ret ?_ | refine WP.exit ?_ | refine WP.skip ?_); simp only [go_sem, hli, encTm, hf, tyAll, Nat.reduceAdd, Nat.reduceLT, Nat.reduceLeDiff, Nat.reduceEqDiff, Nat.reduceMul, Nat.reduceSub, Nat.reduceGT, reduceIte, Int.reduceNeg, Int.reduceToNat]) |  refine And.intro ?_ ?_ | intro _))
        all_goals first | omega | exact ⟨_, _, rfl, _, _, rfl, rfl⟩ | skip
        all_goals first | exact ⟨k + 1, by omega, by omega, by rw [e1, e2]; simp only [encTm]; (first | rfl | exact ⟨rfl, rfl⟩ | exact ⟨rfl, rfl, rfl⟩ | exact ⟨rfl, rfl, rfl, rfl⟩ | exact ⟨rfl, rfl, rfl, rfl, rfl⟩ | exact ⟨⟨rfl, rfl⟩, rfl⟩ | simp)⟩ | trace_state
    · have hge : ¬ (k : Int) < m := by omega
      obtain rfl : k = m := by omega
      (repeat' (first | refine WP.seq ?_ | refine WP.block ?_ | ((first | refine WP.region ?_ | refine WP.condW ?_ | refine WP.ret ?_ | refine WP.exit ?_ | refine WP.skip ?_); simp only [go_sem, hge, tyAll, Nat.reduceAdd, Nat.reduceLT, Nat.reduceLeDiff, Nat.reduceEqDiff, Nat.reduceMul, Nat.reduceSub, Nat.reduceGT, reduceIte, Int.reduceNeg, Int.reduceToNat]) |  refine And.intro ?_ ?_ | intro _))
      all_goals first | omega | exact ⟨_, _, rfl, _, _, rfl, rfl⟩ | skip
      all_goals trace_state
  · rw [if_neg hn]
    (repeat' (first | refine WP.seq ?_ | refine WP.block ?_ | ((first | refine WP.region ?_ | refine WP.condW ?_ | refine WP.ret ?_ | refine WP.exit ?_ | refine WP.skip ?_); simp only [go_sem, hn, tyAll, Nat.reduceAdd, Nat.reduceLT, Nat.reduceLeDiff, Nat.reduceEqDiff, Nat.reduceMul, Nat.reduceSub, Nat.reduceGT, reduceIte, Int.reduceNeg, Int.reduceToNat]) |  refine And.intro ?_ ?_ | intro _))
    all_goals first | omega | exact ⟨_, _, rfl, _, _, rfl, rfl⟩ | skip
    all_goals trace_state
end
/-! ## drawn -/
def belV (c : Cur) (n : Int) : Int := if n ≤ 0 then 0 else if n ≤ 256 then (byteV c).tmod n else
  (byteV c * 16777216 + byteV (byteC c) * 65536 + byteV (byteC (byteC c)) * 256 + byteV (byteC (byteC (byteC c)))).tmod n
def belCur (c : Cur) (n : Int) : Cur := if n ≤ 0 then c else if n ≤ 256 then byteC c else byteC (byteC (byteC (byteC c)))
theorem belV_bd (c : Cur) {n : Int} (hn : 0 < n) : 0 ≤ belV c n ∧ belV c n < n := by
  have h1 := byteV_bd c
  have h2 := byteV_bd (byteC c)
  have h3 := byteV_bd (byteC (byteC c))
  have h4 := byteV_bd (byteC (byteC (byteC c)))
  unfold belV
  rw [if_neg (by omega)]
  split
  · exact ⟨Int.tmod_nonneg _ h1.1, Int.tmod_lt_of_pos _ hn⟩
  · exact ⟨Int.tmod_nonneg _ (by omega), Int.tmod_lt_of_pos _ hn⟩
theorem belCur_ok {c : Cur} (h : CurOk c) (n : Int) : CurOk (belCur c n) := by
  unfold belCur
  split
  · exact h
  · split
    · exact h.byteC
    · exact h.byteC.byteC.byteC.byteC
def kBelG : Ctr := len [0] [] (fun args obs => (decCur (oC obs 1000000), aI args 1)) (fun x => [.ptr 1000000 0 0 0, .v (.int .i64 x.2)]) (fun x => [(1000000, .box 102 (encCur x.1))]) (fun x => CurOk x.1)
  (fun _ x => .v (.int .i64 (belV x.1 x.2))) (fun _ _ => []) (fun x => [(1000000, .box 102 (encCur (belCur x.1 x.2)))])
section
noncomputable def cxBeG : Cx := { P := Tryz.prog, tys := tys, C := [(64, kByte)], hty := tysOk, hC := COk.cons cByteS (COk.nil _) }
theorem cxBeG_t : cxBeG.tys = tys := rfl
theorem cxBeG_c : cxBeG.C = [(64, kByte)] := rfl
attribute [local go_sem] cxBeG_t cxBeG_c kByte
theorem cBelG : Cn Tryz.prog 32 kBelG := by
  refine Cn.len Tryz.func32 (by kernel_rfl) rfl fun d x hd hx => ?_
  obtain ⟨c, n⟩ := x
  have h1 : CurOk c := hx
  simp only
  refine HoldsL.go (c := cxBeG) Tryz.func32 rfl Tryz.results32 Tryz.ntmps32 (by omega) (by simp) rfl (by simp <;> omega) (by simp [SV.owns2, SV.owns, SV.owns1]) (by simp) rfl rfl (by simp) ?_
  intro X0 M w0
  by_cases hn : n ≤ 0
  · have e1 : belV c n = 0 := if_pos hn
    have e2 : belCur c n = c := if_pos hn
    rw [e1, e2]
    (repeat' (first | refine WP.seq ?_ | refine WP.block ?_ | ((first | refine WP.region ?_ | refine WP.condW ?_ | refine WP.ret ?_ | refine WP.exit ?_ | refine WP.skip ?_); simp only [go_sem, hn, tyAll, Nat.reduceAdd, Nat.reduceLT, Nat.reduceLeDiff, Nat.reduceEqDiff, Nat.reduceMul, Nat.reduceSub, Nat.reduceGT, reduceIte, Int.reduceNeg, Int.reduceToNat]) |  refine And.intro ?_ ?_ | intro _))
    all_goals first | omega | skip
    all_goals trace_state
  · by_cases h2 : n ≤ 256
    · have e1 : belV c n = (byteV c).tmod n := by unfold belV; rw [if_neg hn, if_pos h2]
      have e2 : belCur c n = byteC c := by unfold belCur; rw [if_neg hn, if_pos h2]
      rw [e1, e2]
      (repeat' (first | refine WP.seq ?_ | refine WP.block ?_ | ((first | refine WP.region ?_ | refine WP.condW ?_ | refine WP.ret ?_ | refine WP.exit ?_ | refine WP.skip ?_); simp only [go_sem, hn, h2, cur_eta, tyAll, Nat.reduceAdd, Nat.reduceLT, Nat.reduceLeDiff, Nat.reduceEqDiff, Nat.reduceMul, Nat.reduceSub, Nat.reduceGT, reduceIte, Int.reduceNeg, Int.reduceToNat]) |  refine And.intro ?_ ?_ | intro _))
      all_goals first | omega | exact h1 | skip
      all_goals trace_state
    · have e1 : belV c n = (byteV c * 16777216 + byteV (byteC c) * 65536 + byteV (byteC (byteC c)) * 256 + byteV (byteC (byteC (byteC c)))).tmod n := by unfold belV; rw [if_neg hn, if_neg h2]
      have e2 : belCur c n = byteC (byteC (byteC (byteC c))) := by unfold belCur; rw [if_neg hn, if_neg h2]
      rw [e1, e2]
      have b1 := byteV_bd c
      have b2 := byteV_bd (byteC c)
      have b3 := byteV_bd (byteC (byteC c))
      have b4 := byteV_bd (byteC (byteC (byteC c)))
      have k1 := h1.byteC
      have k2 := k1.byteC
      have k3 := k2.byteC
      (repeat' (first | refine WP.seq ?_ | refine WP.block ?_ | ((first | refine WP.region ?_ | refine WP.condW ?_ | refine WP.ret ?_ | refine WP.exit ?_ | refine WP.skip ?_); simp only [go_sem, hn, h2, cur_eta, tyAll, Nat.reduceAdd, Nat.reduceLT, Nat.reduceLeDiff, Nat.reduceEqDiff, Nat.reduceMul, Nat.reduceSub, Nat.reduceGT, reduceIte, Int.reduceNeg, Int.reduceToNat]) |  refine And.intro ?_ ?_ | intro _))
      all_goals first | omega | exact h1 | exact k1 | exact k2 | exact k3 | skip
      all_goals trace_state
end
def newTm (p s seed : Int) : Tm := if tmOk ⟨p, s, p, seed⟩ = true then ⟨p, s, p, seed⟩ else ⟨0, 0, 0, 0⟩
def kNewTm : Ctr := pur (fun args => (aI args 0, aI args 1, aI args 2)) (fun x => [.v (.int .i64 x.1), .v (.int .i64 x.2.1), .v (.int .i64 x.2.2)]) (fun _ => True)
  (fun _ x => .tup [.agg (encTm (newTm x.1 x.2.1 x.2.2)), .v (.bool (tmOk ⟨x.1, x.2.1, x.1, x.2.2⟩))]) (fun _ _ => [])
section
noncomputable def cxNtS : Cx := { P := Tryz.prog, tys := tys, C := [(62, kTmOk)], hty := tysOk, hC := COk.cons cTmOkS (COk.nil _) }
theorem cxNtS_t : cxNtS.tys = tys := rfl
theorem cxNtS_c : cxNtS.C = [(62, kTmOk)] := rfl
attribute [local go_sem] cxNtS_t cxNtS_c kTmOk
theorem cNewTmS : Cn Tryz.prog 60 kNewTm := by
  refine Cn.pur Tryz.func60 (by kernel_rfl) rfl fun d x hx => ?_
  obtain ⟨p, s, t⟩ := x
  simp only
  refine Holds.go (c := cxNtS) Tryz.func60 rfl Tryz.results60 Tryz.ntmps60 (by omega) (by simp) rfl ?_
  intro X0 w0
  cases hok : tmOk ⟨p, s, p, t⟩ with
  | false =>
    have e : newTm p s t = ⟨0, 0, 0, 0⟩ := if_neg (by rw [hok]; simp)
    rw [e]
    (repeat' (first | refine WP.seq ?_ | refine WP.block ?_ | ((first | refine WP.region ?_ | refine WP.condW ?_ | refine WP.ret ?_ | refine WP.exit ?_ | refine WP.skip ?_); simp only [go_sem, hok, encTm, tyAll, Nat.reduceAdd, Nat.reduceLT, Nat.reduceLeDiff, Nat.reduceEqDiff, Nat.reduceMul, Nat.reduceSub, Nat.reduceGT, reduceIte, Int.reduceNeg, Int.reduceToNat]) |  refine And.intro ?_ ?_ | intro _))
    all_goals first | omega | exact ⟨_, _, rfl, _, _, rfl, rfl⟩ | skip
    all_goals trace_state
  | true =>
    have e : newTm p s t = ⟨p, s, p, t⟩ := if_pos hok
    rw [e]
    (repeat' (first | refine WP.seq ?_ | refine WP.block ?_ | ((first | refine WP.region ?_ | refine WP.condW ?_ | refine WP.ret ?_ | refine WP.exit ?_ | refine WP.skip ?_); simp only [go_sem, hok, encTm, tyAll, Nat.reduceAdd, Nat.reduceLT, Nat.reduceLeDiff, Nat.reduceEqDiff, Nat.reduceMul, Nat.reduceSub, Nat.reduceGT, reduceIte, Int.reduceNeg, Int.reduceToNat]) |  refine And.intro ?_ ?_ | intro _))
    all_goals first | omega | exact ⟨_, _, rfl, _, _, rfl, rfl⟩ | skip
    all_goals trace_state
end
def litP : List Int := [1, 1, 2, 3, 7, 50]
def litS : List Int := [0, 0, 1, 4]
def tmD0 (c : Cur) : Tm × Cur := (newTm (litP.getD (belowV c 6).toNat 0) (litS.getD (belowV (belowC c 6) 4).toNat 0) (belV (belowC (belowC c 6) 4) 65536), belCur (belowC (belowC c 6) 4) 65536)
def tmD (c : Cur) : Tm := tmAt (tmD0 c).1 (belV (tmD0 c).2 9).toNat
def tmDC (c : Cur) : Cur := belCur (tmD0 c).2 9
def kTmD : Ctr := len [0] [] (fun args obs => decCur (oC obs 1000000)) (fun c => [.ptr 1000000 0 0 0]) (fun c => [(1000000, .box 102 (encCur c))]) CurOk
  (fun _ c => .agg [.v (.int .i64 (tmD c).period), .v (.int .i64 (tmD c).spread), .v (.int .i64 (tmD c).left), .v (.int .i64 (tmD c).state)]) (fun _ _ => []) (fun c => [(1000000, .box 102 (encCur (tmDC c)))])
section
noncomputable def cxTmD : Cx := { P := Tryz.prog, tys := tys, C := [(61, kPickI), (32, kBelG), (60, kNewTm), (31, kTick)], hty := tysOk, hC := COk.cons cPickIS (COk.cons cBelG (COk.cons cNewTmS (COk.cons cTickS (COk.nil _)))) }
theorem cxTmD_t : cxTmD.tys = tys := rfl
theorem cxTmD_c : cxTmD.C = [(61, kPickI), (32, kBelG), (60, kNewTm), (31, kTick)] := rfl
attribute [local go_sem] cxTmD_t cxTmD_c kPickI kBelG kNewTm kTick
attribute [local go_sem] encTm
theorem cTmD : Cn Tryz.prog 28 kTmD := by
  refine Cn.len Tryz.func28 (by kernel_rfl) rfl fun d x hd hx => ?_
  rename Cur => c
  have h1 : CurOk c := hx
  have k1 := h1.belowC 6
  have k2 := k1.belowC 4
  have k3 := belCur_ok k2 65536
  have d1 : decI [[.v (.int .i64 1)], [.v (.int .i64 1)], [.v (.int .i64 2)], [.v (.int .i64 3)], [.v (.int .i64 7)], [.v (.int .i64 50)]] = litP := rfl
  have d2 : decI [[.v (.int .i64 0)], [.v (.int .i64 0)], [.v (.int .i64 1)], [.v (.int .i64 4)]] = litS := rfl
  have l1 : (litP.length : Int) = 6 := rfl
  have l2 : (litS.length : Int) = 4 := rfl
  have m1 : litP.length = 6 := rfl
  have m2 : litS.length = 4 := rfl
  have n1 : litP.map encI = [[.v (.int .i64 1)], [.v (.int .i64 1)], [.v (.int .i64 2)], [.v (.int .i64 3)], [.v (.int .i64 7)], [.v (.int .i64 50)]] := rfl
  have n2 : litS.map encI = [[.v (.int .i64 0)], [.v (.int .i64 0)], [.v (.int .i64 1)], [.v (.int .i64 4)]] := rfl
  have e0 : (tmD0 c).1 = newTm (litP.getD (belowV c 6).toNat 0) (litS.getD (belowV (belowC c 6) 4).toNat 0) (belV (belowC (belowC c 6) 4) 65536) := rfl
  have e1 : (tmD0 c).2 = belCur (belowC (belowC c 6) 4) 65536 := rfl
  have bd := belV_bd (tmD0 c).2 (n := 9) (by omega)
  obtain ⟨q, hq⟩ : ∃ q : Nat, belV (tmD0 c).2 9 = q := ⟨_, (Int.toNat_of_nonneg bd.1).symm⟩
  have et : tmD c = tmAt (tmD0 c).1 q := by unfold tmD; rw [hq, Int.toNat_natCast]
  have ec : tmDC c = belCur (tmD0 c).2 9 := rfl
  rw [et, ec, e1]
  have hq9 : q < 9 := by omega
  rw [e1] at hq
  rw [e0]
  refine HoldsL.go (c := cxTmD) Tryz.func28 rfl Tryz.results28 Tryz.ntmps28 (by omega) (by simp) rfl (by simp <;> omega) (by simp [SV.owns2, SV.owns, SV.owns1]) (by simp) rfl rfl (by simp) ?_
  intro X0 M w0
  (repeat' (first | refine WP.seq ?_ | refine WP.block ?_ | ((first | refine WP.region ?_ | refine WP.condW ?_ | refine WP.ret ?_ | refine WP.exit ?_ | refine WP.skip ?_); simp only [go_sem, d1, d2, l1, l2, cur_eta, hq, tyAll, Nat.reduceAdd, Nat.reduceLT, Nat.reduceLeDiff, Nat.reduceEqDiff, Nat.reduceMul, Nat.reduceSub, Nat.reduceGT, reduceIte, Int.reduceNeg, Int.reduceToNat]) |  refine And.intro ?_ ?_ | intro _))
  all_goals first | omega | exact h1 | exact k1 | exact k2 | exact k3 | (rw [m1]; omega) | (rw [m2]; omega) | (rw [n1]) | (rw [n2]) | skip
  generalize newTm (litP.getD (belowV c 6).toNat 0) (litS.getD (belowV (belowC c 6) 4).toNat 0) (belV (belowC (belowC c 6) 4) 65536) = T0
  generalize belCur (belCur (belowC (belowC c 6) 4) 65536) 9 = c9
  refine WP.loop (fun k : Nat => ⟨[(2, .ptr 2 0 0 0), (3, .ptr 3 0 0 0), (5, .v (.int .i64 ((q : Int) - k)))],
    [(2, .box 25 [.v (.int .i64 0), .v (.int .i64 0), .v (.int .i64 0), .v (.int .i64 0)]), (3, .box 25 (encTm (tmAt T0 k))), (1000000, .box 102 (encCur c9))]⟩) (fun k => k ≤ q) (fun k => q - k) 0 (by simp) ?_ ?_
  · have h0 : tmAt T0 0 = T0 := rfl
    (simp only [go_sem, h0, tyAll, Nat.reduceAdd, Nat.reduceLT, Nat.reduceLeDiff, Nat.reduceEqDiff, Nat.reduceMul, Nat.reduceSub, Nat.reduceGT, reduceIte, Int.reduceNeg, Int.reduceToNat] <;> (first | rfl | exact ⟨rfl, rfl⟩ | exact ⟨rfl, rfl, rfl⟩ | exact ⟨rfl, rfl, rfl, rfl⟩ | exact ⟨rfl, rfl, rfl, rfl, rfl⟩ | exact ⟨⟨rfl, rfl⟩, rfl⟩ | simp))
  intro k hk
  by_cases hlt : k < q
  · have hli : (0 : Int) < (q : Int) - k := by omega
    have e1 : tmAt T0 (k + 1) = (tick (tmAt T0 k)).1 := rfl
    generalize tmAt T0 k = T at *
    (repeat' (first | refine WP.seq ?_ | refine WP.block ?_ | ((first | refine WP.region ?_ | refine WP.condW ?_ | refine WP.ret ?_ | refine WP.exit ?_ | refine WP.skip ?_); simp only [go_sem, hli, tyAll, Nat.reduceAdd, Nat.reduceLT, Nat.reduceLeDiff, Nat.reduceEqDiff, Nat.reduceMul, Nat.reduceSub, Nat.reduceGT, reduceIte, Int.reduceNeg, Int.reduceToNat]) |  refine And.intro ?_ ?_ | intro _))
    all_goals first | omega | skip
    all_goals first | exact ⟨k + 1, by omega, by omega, by rw [show (q : Int) - k - 1 = (q : Int) - ((k + 1 : Nat) : Int) by omega], by rw [e1]⟩ | trace_state
  · have hge : ¬ (0 : Int) < (q : Int) - k := by omega
    obtain rfl : k = q := by omega
    (repeat' (first | refine WP.seq ?_ | refine WP.block ?_ | ((first | refine WP.region ?_ | refine WP.condW ?_ | refine WP.ret ?_ | refine WP.exit ?_ | refine WP.skip ?_); simp only [go_sem, hge, tyAll, Nat.reduceAdd, Nat.reduceLT, Nat.reduceLeDiff, Nat.reduceEqDiff, Nat.reduceMul, Nat.reduceSub, Nat.reduceGT, reduceIte, Int.reduceNeg, Int.reduceToNat]) |  refine And.intro ?_ ?_ | intro _))
    all_goals first | omega | exact ⟨_, _, rfl, _, _, rfl, rfl⟩ | skip
    all_goals trace_state
end
def kDrawTm : Ctr := pur (fun args => decU (aR args 0)) (fun b => [.sl 1 (b.map encU)]) (fun b => b.length ≤ 1048576 ∧ ∀ z ∈ b, 0 ≤ z ∧ z ≤ 255)
  (fun _ b => .agg [.v (.int .i64 (tmD (newC b)).period), .v (.int .i64 (tmD (newC b)).spread), .v (.int .i64 (tmD (newC b)).left), .v (.int .i64 (tmD (newC b)).state)]) (fun _ _ => [])
section
noncomputable def cxDrTm : Cx := { P := Tryz.prog, tys := tys, C := [(29, kNew), (28, kTmD)], hty := tysOk, hC := COk.cons cNewS (COk.cons cTmD (COk.nil _)) }
theorem cxDrTm_t : cxDrTm.tys = tys := rfl
theorem cxDrTm_c : cxDrTm.C = [(29, kNew), (28, kTmD)] := rfl
attribute [local go_sem] cxDrTm_t cxDrTm_c kNew kTmD
theorem cDrawTm : Cn Tryz.prog 7 kDrawTm := by
  refine Cn.pur Tryz.func7 (by kernel_rfl) rfl fun d x hx => ?_
  rename List Int => b
  obtain ⟨h1, h2⟩ := hx
  have hok := newC_ok h1 h2
  refine Holds.go (c := cxDrTm) Tryz.func7 rfl Tryz.results7 Tryz.ntmps7 (by omega) (by simp) rfl ?_
  intro X0 w0
  (repeat' (first | refine WP.seq ?_ | refine WP.block ?_ | ((first | refine WP.region ?_ | refine WP.condW ?_ | refine WP.ret ?_ | refine WP.exit ?_ | refine WP.skip ?_); simp only [go_sem, cur_eta, tyAll, Nat.reduceAdd, Nat.reduceLT, Nat.reduceLeDiff, Nat.reduceEqDiff, Nat.reduceMul, Nat.reduceSub, Nat.reduceGT, reduceIte, Int.reduceNeg, Int.reduceToNat]) |  refine And.intro ?_ ?_ | intro _))
  all_goals first | omega | exact (h2 _ ‹_›).1 | exact (h2 _ ‹_›).2 | exact hok | exact ⟨_, _, rfl, _, _, rfl, rfl⟩ | skip
  all_goals trace_state
end
end
section
open Go.Vc
set_option linter.unusedSimpArgs false
set_option linter.unusedVariables false
set_option maxHeartbeats 1000000
set_option maxRecDepth 10000
attribute [local irreducible] Go.Vc.WP
attribute [local go_sem] cx0_t cx0_c
def fl3350825a63 : List Go.Vc.Fp := [⟨[6], [], [], [9, 32, 1032], [], []⟩, ⟨[8], [], [], [9, 32, 1032], [], []⟩, ⟨[1], [], [], [9, 32, 1032], [], []⟩, ⟨[7], [], [], [9, 32, 1032], [], []⟩, ⟨[28, 29], [2, 3], [], [9, 32, 1032], [], []⟩, ⟨[30], [2, 3, 4], [], [9, 32, 1032], [], []⟩, ⟨[26, 27, 31], [0, 1, 2, 3, 4, 5], [], [9], [], [32, 1032]⟩, ⟨[32], [0, 1, 2, 3, 4, 5, 6], [], [9], [], []⟩, ⟨[25], [0, 1, 2, 3, 4, 5, 6, 7], [], [9], [], []⟩, ⟨[25], [0, 1, 2, 3, 4, 5, 6, 7], [], [9], [], []⟩, ⟨[], [], [], [32, 1032], [], [9]⟩, ⟨[], [0, 1, 2, 3, 4, 5, 6, 7, 8, 9, 10], [], [], [], []⟩, ⟨[], [0, 1, 2, 3, 4, 5, 6, 7, 8, 9, 10, 11], [], [], [], []⟩]
attribute [local go_sem] fl3350825a63
attribute [local go_sem] isV_Node isV_It decNode_enc decFrame_enc oneFrame_enc stkA oneFrame_ab oneNode_abc decI_enc aU prA St.ado St.adoptB St.adoptS rp isNil St.fzS addL behind
/-- a list of frames as a cell -/
def encFS (F : List Frame) : List SV := [.sl 2 (F.map encFrame)]
def oneFS : List SV → List Frame
  | [.sl _ rows] => decFrame rows
  | _ => []
def decFS (rows : List (List SV)) : List (List Frame) := rows.map oneFS
theorem decFS_enc (L : List (List Frame)) : decFS (L.map encFS) = L := by
  unfold decFS
  rw [List.map_map]
  conv => rhs; rw [← List.map_id L]
  apply List.map_congr_left
  intro x _
  exact decFrame_enc x
attribute [local go_sem] decFS_enc
abbrev Pr := List Node × List Int
def wgGo : List (List Frame) → List Int → Pr → Option Pr
  | F :: S, c :: W, p => if (addStack p.1 p.2 F c).2 = true then wgGo S W (addStack p.1 p.2 F c).1 else none
  | _, _, p => some p
def weigh (S : List (List Frame)) (W : List Int) : Option Pr := if S.length = W.length then wgGo S W ([], []) else none
def preWg (x : List (List Frame) × List Int) : Prop := x.1.length ≤ 1048576 ∧ ∀ F ∈ x.1, F.length ≤ 1048576 ∧ ∀ f ∈ F, f.name.size ≤ 1048576
def kWg : Ctr := pur (fun args => (decFS (aR args 0), decI (aR args 1))) (fun x => [.sl 1 (x.1.map encFS), .sl 1 (x.2.map encI)]) preWg
  (fun d x => .tup [.agg [.own d, .own (d + 1000)], .v (.bool (weigh x.1 x.2).isSome)]) (fun d x => [(d, .sl 132 3 (((weigh x.1 x.2).getD ([], [])).1.map encNode)), (d + 1000, .sl 3 1 (((weigh x.1 x.2).getD ([], [])).2.map encI))])
def wInv (S : List (List Frame)) (W : List Int) (k : Nat) (s : Pr) : Prop := weigh S W = wgGo (S.drop k) (W.drop k) s ∧ s.1.length ≤ 1048576 * k ∧ s.2.length ≤ 1048576 * k ∧ ∀ x ∈ s.1, x.name.size ≤ 1048576
theorem wInv_zero {S : List (List Frame)} {W : List Int} (h : S.length = W.length) : wInv S W 0 ([], []) := ⟨if_pos h, by simp, by simp, by simp⟩
theorem wInv_bad {S : List (List Frame)} {W : List Int} {k : Nat} {s : Pr} (h : wInv S W k s) (h1 : k < S.length) (h2 : k < W.length) (hb : (addStack s.1 s.2 S[k] W[k]).2 = false) : weigh S W = none := by
  rw [h.1, List.drop_eq_getElem_cons h1, List.drop_eq_getElem_cons h2, wgGo, if_neg (by rw [hb]; simp)]
theorem wInv_ok {S : List (List Frame)} {W : List Int} {k : Nat} {s : Pr} (hx : preWg (S, W)) (h : wInv S W k s) (h1 : k < S.length) (h2 : k < W.length) (hb : (addStack s.1 s.2 S[k] W[k]).2 = true) : wInv S W (k + 1) (addStack s.1 s.2 S[k] W[k]).1 := by
  obtain ⟨g1, g2, g3, g4⟩ := h
  obtain ⟨g5, g6⟩ := hx.2 _ (List.getElem_mem h1)
  have g8 := addStack_len s.1 s.2 S[k] W[k]
  refine ⟨?_, by omega, by omega, addStack_names g4 g6⟩
  rw [g1, List.drop_eq_getElem_cons h1, List.drop_eq_getElem_cons h2, wgGo, if_pos hb]
theorem wInv_end {S : List (List Frame)} {W : List Int} {k : Nat} {s : Pr} (h : wInv S W k s) (hk : S.length ≤ k) : weigh S W = some s := by
  rw [h.1, List.drop_of_length_le hk]; unfold wgGo; rfl
section
noncomputable def cxWgI : Cx := { P := Tryz.prog, tys := tys, C := [(34, kAddStack)], hty := tysOk, hC := COk.cons cAddStackI (COk.nil _) }
theorem cxWgI_t : cxWgI.tys = tys := rfl
theorem cxWgI_c : cxWgI.C = [(34, kAddStack)] := rfl
attribute [local go_sem] cxWgI_t cxWgI_c kAddStack
theorem cWgI : Cn Tryz.prog 11 kWg := by
  refine Cn.pur Tryz.func11 (by kernel_rfl) rfl fun d x hx => ?_
  obtain ⟨S, W⟩ := x
  have hS := hx.1
  simp only at hS ⊢
  refine Holds.go (c := cxWgI) Tryz.func11 rfl Tryz.results11 Tryz.ntmps11 (by omega) (by simp) rfl ?_
  intro X0 w0
  by_cases hlen : S.length = W.length
  rotate_left
  · have hle : ¬ (S.length : Int) = W.length := by omega
    have hno : weigh S W = none := if_neg hlen
    (repeat' (first | refine WP.seq ?_ | refine WP.block ?_ | ((first | refine WP.region ?_ | refine WP.condW ?_ | refine WP.ret ?_ | refine WP.exit ?_ | refine WP.skip ?_); simp only [go_sem, hle, tyAll, Nat.reduceAdd, Nat.reduceLT, Nat.reduceLeDiff, Nat.reduceEqDiff, Nat.reduceMul, Nat.reduceSub, Nat.reduceGT, reduceIte, Int.reduceNeg, Int.reduceToNat]) | ((first | refine WP.flowE 11 9 [] 11 fl3350825a63 [9, 25, 26, 27, 28, 29, 30, 31, 32, 33, 34] [9, 32, 1032] [] (by decide +kernel) (by decide +kernel) (by kernel_rfl) (by kernel_rfl) (by kernel_rfl) ?_); simp only [go_sem, hle, tyAll, Nat.reduceAdd, Nat.reduceLT, Nat.reduceLeDiff, Nat.reduceEqDiff, Nat.reduceMul, Nat.reduceSub, Nat.reduceGT, reduceIte, Int.reduceNeg, Int.reduceToNat]) |  refine And.intro ?_ ?_ | intro _))
    all_goals first | omega | exact ⟨_, _, rfl, _, _, rfl, rfl⟩ | (rw [hno]; first | rfl | exact ⟨_, _, rfl⟩ | exact ⟨_, _, if_neg (by omega)⟩ | exact if_neg (by omega)) | skip
    all_goals trace_state
  have hle : (S.length : Int) = W.length := by omega
  (repeat' (first | refine WP.seq ?_ | refine WP.block ?_ | ((first | refine WP.region ?_ | refine WP.condW ?_ | refine WP.ret ?_ | refine WP.exit ?_ | refine WP.skip ?_); simp only [go_sem, hle, tyAll, Nat.reduceAdd, Nat.reduceLT, Nat.reduceLeDiff, Nat.reduceEqDiff, Nat.reduceMul, Nat.reduceSub, Nat.reduceGT, reduceIte, Int.reduceNeg, Int.reduceToNat]) | ((first | refine WP.flowE 11 9 [] 11 fl3350825a63 [9, 25, 26, 27, 28, 29, 30, 31, 32, 33, 34] [9, 32, 1032] [] (by decide +kernel) (by decide +kernel) (by kernel_rfl) (by kernel_rfl) (by kernel_rfl) ?_); simp only [go_sem, hle, tyAll, Nat.reduceAdd, Nat.reduceLT, Nat.reduceLeDiff, Nat.reduceEqDiff, Nat.reduceMul, Nat.reduceSub, Nat.reduceGT, reduceIte, Int.reduceNeg, Int.reduceToNat]) |  refine And.intro ?_ ?_ | intro _))
  all_goals first | omega | skip
  refine WP.ado [.b 6 0 32 132 3, .b 6 1 1032 3 1] ?_
  refine WP.loop (fun q : Nat × Pr => ⟨[(1, .sl 1 (W.map encI)), (4, .ptr 4 0 0 0), (6, .ptr 6 0 0 0), (18, .sl 1 (S.map encFS)), (19, .v (.int .i64 S.length)), (20, .v (.int .i64 q.1))],
    [(4, .box 39 [.v (.slice none 0 0), .v (.slice none 0 0)]), (6, .box 39 [.own 32, .own 1032]), (32, .sl 132 3 (q.2.1.map encNode)), (1032, .sl 3 1 (q.2.2.map encI))]⟩)
    (fun q => q.1 ≤ S.length ∧ wInv S W q.1 q.2) (fun q => S.length - q.1) (0, [], []) ⟨by simp, wInv_zero hlen⟩ ?_ ?_
  · (simp only [go_sem, hle, tyAll, Nat.reduceAdd, Nat.reduceLT, Nat.reduceLeDiff, Nat.reduceEqDiff, Nat.reduceMul, Nat.reduceSub, Nat.reduceGT, reduceIte, Int.reduceNeg, Int.reduceToNat] <;> (first | rfl | exact ⟨rfl, rfl⟩ | exact ⟨rfl, rfl, rfl⟩ | exact ⟨rfl, rfl, rfl, rfl⟩ | exact ⟨rfl, rfl, rfl, rfl, rfl⟩ | exact ⟨⟨rfl, rfl⟩, rfl⟩ | simp))
  rintro ⟨k, N, C⟩ ⟨hk, hI⟩
  refine WP.prep [] [(32, 50), (1032, 1050)] rfl ?_
  simp only at hk hI ⊢
  have h2 := hI.2.1
  have h3 := hI.2.2.1
  have h4 := hI.2.2.2
  simp only at h2 h3 h4
  have hkb : 1048576 * k ≤ 1048576 * 1048576 := Nat.mul_le_mul_left _ (by omega)
  have hnb : ∀ x ∈ N, x.name.size ≤ 1099511627776 := fun x hx => by have := h4 x hx; omega
  by_cases hlt : k < S.length
  · have hli : (k : Int) < S.length := by omega
    have hlw : (k : Int) < W.length := by omega
    have hlt2 : k < W.length := by omega
    have h1 := rowAt_map encFS S k hlt
    have h1b := rowAt_map encI W k hlt2
    obtain ⟨h5, h6⟩ := hx.2 _ (List.getElem_mem hlt)
    have hfb : ∀ g ∈ S[k], g.name.size ≤ 1099511627776 := fun g hg => by have := h6 g hg; omega
    cases hb : (addStack N C S[k] W[k]).2 with
    | false =>
      have hno := wInv_bad hI hlt hlt2 hb
      (repeat' (first | refine WP.seq ?_ | refine WP.block ?_ | ((first | refine WP.region ?_ | refine WP.condW ?_ | refine WP.ret ?_ | refine WP.exit ?_ | refine WP.skip ?_); simp only [go_sem, hli, hlw, h1, encFS, h1b, encI, hb, tyAll, Nat.reduceAdd, Nat.reduceLT, Nat.reduceLeDiff, Nat.reduceEqDiff, Nat.reduceMul, Nat.reduceSub, Nat.reduceGT, reduceIte, Int.reduceNeg, Int.reduceToNat]) | ((first | refine WP.flowE 11 9 [] 11 fl3350825a63 [9, 25, 26, 27, 28, 29, 30, 31, 32, 33, 34] [9, 32, 1032] [] (by decide +kernel) (by decide +kernel) (by kernel_rfl) (by kernel_rfl) (by kernel_rfl) ?_); simp only [go_sem, hli, hlw, h1, encFS, h1b, encI, hb, tyAll, Nat.reduceAdd, Nat.reduceLT, Nat.reduceLeDiff, Nat.reduceEqDiff, Nat.reduceMul, Nat.reduceSub, Nat.reduceGT, reduceIte, Int.reduceNeg, Int.reduceToNat]) |  refine And.intro ?_ ?_ | intro _))
      all_goals first | omega | (simp only; omega) | exact hnb _ ‹_› | exact hfb _ ‹_› | exact ⟨_, _, _, rfl⟩ | exact ⟨_, _, rfl, _, _, rfl, rfl⟩ | (rw [hno]; first | rfl | exact ⟨_, _, rfl⟩ | exact ⟨_, _, if_neg (by omega)⟩ | exact if_neg (by omega)) | skip
      all_goals trace_state
    | true =>
      have hyes := wInv_ok hx hI hlt hlt2 hb
      (repeat' (first | refine WP.seq ?_ | refine WP.block ?_ | ((first | refine WP.region ?_ | refine WP.condW ?_ | refine WP.ret ?_ | refine WP.exit ?_ | refine WP.skip ?_); simp only [go_sem, hli, hlw, h1, encFS, h1b, encI, hb, tyAll, Nat.reduceAdd, Nat.reduceLT, Nat.reduceLeDiff, Nat.reduceEqDiff, Nat.reduceMul, Nat.reduceSub, Nat.reduceGT, reduceIte, Int.reduceNeg, Int.reduceToNat]) | ((first | refine WP.flowE 11 9 [] 11 fl3350825a63 [9, 25, 26, 27, 28, 29, 30, 31, 32, 33, 34] [9, 32, 1032] [] (by decide +kernel) (by decide +kernel) (by kernel_rfl) (by kernel_rfl) (by kernel_rfl) ?_); simp only [go_sem, hli, hlw, h1, encFS, h1b, encI, hb, tyAll, Nat.reduceAdd, Nat.reduceLT, Nat.reduceLeDiff, Nat.reduceEqDiff, Nat.reduceMul, Nat.reduceSub, Nat.reduceGT, reduceIte, Int.reduceNeg, Int.reduceToNat]) |  refine And.intro ?_ ?_ | intro _))
      all_goals first | omega | (simp only; omega) | exact hnb _ ‹_› | exact hfb _ ‹_› | exact ⟨_, _, _, rfl⟩ | exact ⟨_, _, rfl, _, _, rfl, rfl⟩ | skip
      all_goals first | exact ⟨(k + 1, (addStack N C S[k] W[k]).1), ⟨by simp only; omega, hyes⟩, by simp only; omega, rfl, rfl, rfl⟩ | trace_state
  · have hge : ¬ (k : Int) < S.length := by omega
    have he := wInv_end hI (by omega)
    (repeat' (first | refine WP.seq ?_ | refine WP.block ?_ | ((first | refine WP.region ?_ | refine WP.condW ?_ | refine WP.ret ?_ | refine WP.exit ?_ | refine WP.skip ?_); simp only [go_sem, hge, tyAll, Nat.reduceAdd, Nat.reduceLT, Nat.reduceLeDiff, Nat.reduceEqDiff, Nat.reduceMul, Nat.reduceSub, Nat.reduceGT, reduceIte, Int.reduceNeg, Int.reduceToNat]) | ((first | refine WP.flowE 11 9 [] 11 fl3350825a63 [9, 25, 26, 27, 28, 29, 30, 31, 32, 33, 34] [9, 32, 1032] [] (by decide +kernel) (by decide +kernel) (by kernel_rfl) (by kernel_rfl) (by kernel_rfl) ?_); simp only [go_sem, hge, tyAll, Nat.reduceAdd, Nat.reduceLT, Nat.reduceLeDiff, Nat.reduceEqDiff, Nat.reduceMul, Nat.reduceSub, Nat.reduceGT, reduceIte, Int.reduceNeg, Int.reduceToNat]) |  refine And.intro ?_ ?_ | intro _))
    all_goals first | omega | exact ⟨_, _, rfl, _, _, rfl, rfl⟩ | (rw [he]; first | rfl | exact if_neg (by omega)) | skip
    all_goals trace_state
end
end
section
open Go.Vc
set_option linter.unusedSimpArgs false
set_option linter.unusedVariables false
set_option maxHeartbeats 1000000
set_option maxRecDepth 10000
attribute [local irreducible] Go.Vc.WP
attribute [local go_sem] cx0_t cx0_c
attribute [local go_sem] isV_Node isV_It decNode_enc decFrame_enc oneFrame_enc stkA oneFrame_ab oneNode_abc decI_enc aU prA decCur_abc decU_enc cur_eta encCur decFS_enc St.runO St.stepO St.runFz St.fzAt St.fzS addL behind
def dsAt (c : Cur) : Nat → List (List Frame) × Cur
  | 0 => ([], c)
  | k + 1 => ((dsAt c k).1 ++ [(stkD (dsAt c k).2).1], (stkD (dsAt c k).2).2)
theorem dsAt_ok {c : Cur} (h : CurOk c) : ∀ k, (∀ F ∈ (dsAt c k).1, Drawn F) ∧ CurOk (dsAt c k).2 ∧ (dsAt c k).1.length = k
  | 0 => ⟨fun F hF => (by cases hF), h, rfl⟩
  | k + 1 => by
    obtain ⟨h1, h2, h3⟩ := dsAt_ok h k
    obtain ⟨g1, g2⟩ := stkD_drawn (dsAt c k).2 h2
    refine ⟨fun F hF => ?_, g2, by simp [dsAt, h3]⟩
    rcases List.mem_append.1 hF with hF | hF
    · exact h1 F hF
    · rw [List.mem_singleton] at hF; subst hF; exact g1
def drawS (b : List Int) : List (List Frame) := (dsAt (belowC (newC b) 8) (belowV (newC b) 8).toNat).1
theorem drawS_ok {b : List Int} (h1 : b.length ≤ 1048576) (h2 : ∀ z ∈ b, 0 ≤ z ∧ z ≤ 255) : (∀ F ∈ drawS b, Drawn F) ∧ (drawS b).length ≤ 8 := by
  have h := dsAt_ok ((newC_ok h1 h2).belowC 8) (belowV (newC b) 8).toNat
  have hb := belowV_bd (newC b) (n := 8) (by omega)
  exact ⟨h.1, by show (dsAt (belowC (newC b) 8) (belowV (newC b) 8).toNat).1.length ≤ 8; rw [h.2.2]; omega⟩
def kDrawS : Ctr := pur (fun args => decU (aR args 0)) (fun b => [.sl 1 (b.map encU)]) (fun b => b.length ≤ 1048576 ∧ ∀ z ∈ b, 0 ≤ z ∧ z ≤ 255)
  (fun d _ => .own d) (fun d b => [(d, .sl 34 1 ((drawS b).map encFS))])
section
noncomputable def cxDrS : Cx := { P := Tryz.prog, tys := tys, C := [(29, kNew), (32, kBelow), (33, kStk)], hty := tysOk, hC := COk.cons cNewS (COk.cons cBelowS (COk.cons cStkS (COk.nil _))) }
theorem cxDrS_t : cxDrS.tys = tys := rfl
theorem cxDrS_c : cxDrS.C = [(29, kNew), (32, kBelow), (33, kStk)] := rfl
attribute [local go_sem] cxDrS_t cxDrS_c kNew kBelow kStk
theorem cDrawS : Cn Tryz.prog 10 kDrawS := by
  refine Cn.pur Tryz.func10 (by kernel_rfl) rfl fun d x hx => ?_
  rename List Int => b
  obtain ⟨h1, h2⟩ := hx
  have hok := newC_ok h1 h2
  have hb := belowV_bd (newC b) (n := 8) (by omega)
  obtain ⟨q, hq⟩ : ∃ q : Nat, belowV (newC b) 8 = q := ⟨_, (Int.toNat_of_nonneg hb.1).symm⟩
  have ed : drawS b = (dsAt (belowC (newC b) 8) q).1 := by unfold drawS; rw [hq, Int.toNat_natCast]
  have hc8 := hok.belowC 8
  refine Holds.go (c := cxDrS) Tryz.func10 rfl Tryz.results10 Tryz.ntmps10 (by omega) (by simp) rfl ?_
  intro X0 w0
  (repeat' (first | refine WP.seq ?_ | refine WP.block ?_ | ((first | refine WP.region ?_ | refine WP.condW ?_ | refine WP.ret ?_ | refine WP.exit ?_ | refine WP.skip ?_); simp only [go_sem, cur_eta, hq, tyAll, Nat.reduceAdd, Nat.reduceLT, Nat.reduceLeDiff, Nat.reduceEqDiff, Nat.reduceMul, Nat.reduceSub, Nat.reduceGT, reduceIte, Int.reduceNeg, Int.reduceToNat]) |  refine And.intro ?_ ?_ | intro _))
  all_goals first | omega | exact (h2 _ ‹_›).1 | exact (h2 _ ‹_›).2 | exact hok | skip
  generalize hcc : belowC (newC b) 8 = c0 at *
  refine WP.loop (fun k : Nat => ⟨[(3, .ptr 7 0 0 0), (4, .own 8), (5, .v (.int .i64 ((q : Int) - k)))],
    [(7, .box 102 (encCur (dsAt c0 k).2)), (8, .sl 34 1 ((dsAt c0 k).1.map encFS))]⟩) (fun k => k ≤ q) (fun k => q - k) 0 (by simp) ?_ ?_
  · have h0 : dsAt c0 0 = ([], c0) := rfl
    (simp only [go_sem, h0, tyAll, Nat.reduceAdd, Nat.reduceLT, Nat.reduceLeDiff, Nat.reduceEqDiff, Nat.reduceMul, Nat.reduceSub, Nat.reduceGT, reduceIte, Int.reduceNeg, Int.reduceToNat] <;> (first | rfl | exact ⟨rfl, rfl⟩ | exact ⟨rfl, rfl, rfl⟩ | exact ⟨rfl, rfl, rfl, rfl⟩ | exact ⟨rfl, rfl, rfl, rfl, rfl⟩ | exact ⟨⟨rfl, rfl⟩, rfl⟩ | simp))
  intro k hk
  obtain ⟨g1, g2, g3⟩ := dsAt_ok hc8 k
  by_cases hlt : k < q
  · have hli : (0 : Int) < (q : Int) - k := by omega
    have e1 : dsAt c0 (k + 1) = ((dsAt c0 k).1 ++ [(stkD (dsAt c0 k).2).1], (stkD (dsAt c0 k).2).2) := rfl
    have hs1 := (stkD_drawn (dsAt c0 k).2 g2).1.len
    generalize dsAt c0 k = T at *
    (repeat' (first | (refine WP.regionF (id := 6) [(3, [17])] ?_; simp only [go_sem, hli, cur_eta, tyAll, Nat.reduceAdd, Nat.reduceLT, Nat.reduceLeDiff, Nat.reduceEqDiff, Nat.reduceMul, Nat.reduceSub, Nat.reduceGT, reduceIte, Int.reduceNeg, Int.reduceToNat]) | refine WP.seq ?_ | refine WP.block ?_ | ((first | refine WP.region ?_ | refine WP.condW ?_ | refine WP.ret ?_ | refine WP.exit ?_ | refine WP.skip ?_); simp only [go_sem, hli, cur_eta, tyAll, Nat.reduceAdd, Nat.reduceLT, Nat.reduceLeDiff, Nat.reduceEqDiff, Nat.reduceMul, Nat.reduceSub, Nat.reduceGT, reduceIte, Int.reduceNeg, Int.reduceToNat]) |  refine And.intro ?_ ?_ | intro _))
    all_goals first | omega | exact g2 | exact ⟨_, _, _, rfl⟩ | skip
    all_goals first | exact ⟨k + 1, by omega, by omega, by rw [show (q : Int) - k - 1 = (q : Int) - ((k + 1 : Nat) : Int) by omega], by rw [e1], by rw [e1, List.map_append]; rfl⟩ | trace_state
  · have hge : ¬ (0 : Int) < (q : Int) - k := by omega
    obtain rfl : k = q := by omega
    (repeat' (first | refine WP.seq ?_ | refine WP.block ?_ | ((first | refine WP.region ?_ | refine WP.condW ?_ | refine WP.ret ?_ | refine WP.exit ?_ | refine WP.skip ?_); simp only [go_sem, hge, tyAll, Nat.reduceAdd, Nat.reduceLT, Nat.reduceLeDiff, Nat.reduceEqDiff, Nat.reduceMul, Nat.reduceSub, Nat.reduceGT, reduceIte, Int.reduceNeg, Int.reduceToNat]) |  refine And.intro ?_ ?_ | intro _))
    all_goals first | omega | (rw [ed]) | skip
    all_goals trace_state
end
end
section
open Go.Vc
set_option linter.unusedSimpArgs false
set_option linter.unusedVariables false
set_option maxHeartbeats 1000000
set_option maxRecDepth 10000
attribute [local irreducible] Go.Vc.WP
attribute [local go_sem] cx0_t cx0_c
attribute [local go_sem] decI_enc isV_It
open Go.Pl
def wstep (s : Option (Int × List Int)) (n : Int) : Option (Int × List Int) := s.bind fun p => if n ≤ p.1 ∨ n > 1000000 then none else some (n, p.2 ++ [n - p.1])
def wrun (L : List Int) : Option (Int × List Int) := L.foldl wstep (some (-1, []))
def weights (L : List Int) : List Int := match wrun L with | some p => p.2 | none => []
theorem wfold_none (L : List Int) : L.foldl wstep none = none := by induction L with
  | nil => rfl
  | cons a l ih => simpa [wstep] using ih
theorem wrun_take (L : List Int) (k : Nat) (h : k < L.length) : wrun (L.take (k + 1)) = wstep (wrun (L.take k)) L[k] := by
  unfold wrun
  rw [List.take_succ_eq_append_getElem h, List.foldl_append]; rfl
theorem wrun_bad (L : List Int) (k : Nat) (h : k < L.length) (hn : wstep (wrun (L.take k)) L[k] = none) : weights L = [] := by
  have e : wrun L = (L.drop (k + 1)).foldl wstep (wrun (L.take (k + 1))) := by
    unfold wrun
    rw [← List.foldl_append, List.take_append_drop]
  unfold weights
  rw [e, wrun_take L k h, hn, wfold_none]
theorem wrun_len (L : List Int) : ∀ p, wrun L = some p → p.2.length = L.length := by
  suffices h : ∀ (L : List Int) (a : Int) (o : List Int) p, L.foldl wstep (some (a, o)) = some p → p.2.length = o.length + L.length by
    intro p hp; simpa using h L (-1) [] p hp
  intro L
  induction L with
  | nil => intro a o p h; cases h; simp
  | cons x l ih =>
    intro a o p h
    simp only [List.foldl_cons, wstep, Option.bind_some] at h
    split at h
    · rw [show l.foldl wstep none = none from wfold_none l] at h; cases h
    · have := ih _ _ p h; simp at this ⊢; omega
theorem weights_len (L : List Int) : (weights L).length ≤ L.length := by
  unfold weights
  split
  · rename_i p hp; rw [wrun_len L p hp]; omega
  · simp

def kW : Ctr := pur (fun args => decI (aR args 0)) (fun L => [.sl 1 (L.map encI)]) (fun L => L.length ≤ 2097152) (fun d _ => .own d) (fun d L => [(d, .sl 3 1 ((weights L).map encI))])
section
noncomputable def cxW2 : Cx := { P := Tryz.prog, tys := tys, C := [], hty := tysOk, hC := COk.nil _ }
theorem cxW2_t : cxW2.tys = tys := rfl
theorem cxW2_c : cxW2.C = [] := rfl
attribute [local go_sem] cxW2_t cxW2_c 
theorem cW2 : Cn Tryz.prog 9 kW := by
  refine Cn.pur Tryz.func9 (by kernel_rfl) rfl fun d x hx => ?_
  rename List Int => L
  have hL := hx
  refine Holds.go (c := cxW2) Tryz.func9 rfl Tryz.results9 Tryz.ntmps9 (by omega) (by simp) rfl ?_
  intro X0 w0
  (repeat' (first | refine WP.seq ?_ | refine WP.block ?_ | ((first | refine WP.region ?_ | refine WP.condW ?_ | refine WP.ret ?_ | refine WP.exit ?_ | refine WP.skip ?_); simp only [go_sem, tyAll, Nat.reduceAdd, Nat.reduceLT, Nat.reduceLeDiff, Nat.reduceEqDiff, Nat.reduceMul, Nat.reduceSub, Nat.reduceGT, reduceIte, Int.reduceNeg, Int.reduceToNat]) |  refine And.intro ?_ ?_ | intro _))
  refine WP.loop (fun s : Nat × Int × List Int => ⟨[(0, .sl 1 (L.map encI)), (8, .sl 1 (L.map encI)), (9, .v (.int .i64 L.length)), (3, .own 7), (4, .v (.int .i64 s.2.1)), (10, .v (.int .i64 s.1))], [(7, .sl 3 1 (s.2.2.map encI))]⟩)
    (fun s => s.1 ≤ L.length ∧ wrun (L.take s.1) = some s.2 ∧ s.2.2.length = s.1 ∧ -1 ≤ s.2.1 ∧ s.2.1 ≤ 1000000) (fun s => L.length - s.1) (0, -1, []) (by simp [wrun]) ?_ ?_
  · simp only [go_sem, tyAll, Nat.reduceAdd, Nat.reduceLT, Nat.reduceLeDiff, Nat.reduceEqDiff, Nat.reduceMul, Nat.reduceSub, Nat.reduceGT, reduceIte, Int.reduceNeg, Int.reduceToNat]; rfl
  rintro ⟨k, b, o⟩ ⟨hk, hw, ho, hb1, hb2⟩
  simp only at hk hw ho hb1 hb2 ⊢
  by_cases hlt : k < L.length
  · have h1 := rowAt_map encI L k hlt
    (repeat' (first | refine WP.seq ?_ | refine WP.block ?_ | ((first | refine WP.region ?_ | refine WP.condW ?_ | refine WP.ret ?_ | refine WP.exit ?_ | refine WP.skip ?_); simp only [go_sem, h1, encI, tyAll, Nat.reduceAdd, Nat.reduceLT, Nat.reduceLeDiff, Nat.reduceEqDiff, Nat.reduceMul, Nat.reduceSub, Nat.reduceGT, reduceIte, Int.reduceNeg, Int.reduceToNat]) |  refine And.intro ?_ ?_ | intro _))
    all_goals first | omega | skip
    · rename_i hbad
      rw [wrun_bad L k hlt (by rw [hw]; simp only [wstep, Option.bind_some]; rw [if_pos (by omega)])]
      exact ⟨3, 1, rfl⟩
    · rename_i hok
      refine ⟨(k + 1, L[k], o ++ [L[k] - b]), ⟨by simp only; omega, ?_, by simp [ho], by simp only; omega, by simp only; omega⟩, by simp only; omega, ⟨rfl, rfl⟩, ?_⟩
      · rw [wrun_take L k hlt, hw]; simp only [wstep, Option.bind_some]; rw [if_neg (by omega)]
      · simp [encI]
  · (repeat' (first | refine WP.seq ?_ | refine WP.block ?_ | ((first | refine WP.region ?_ | refine WP.condW ?_ | refine WP.ret ?_ | refine WP.exit ?_ | refine WP.skip ?_); simp only [go_sem, tyAll, Nat.reduceAdd, Nat.reduceLT, Nat.reduceLeDiff, Nat.reduceEqDiff, Nat.reduceMul, Nat.reduceSub, Nat.reduceGT, reduceIte, Int.reduceNeg, Int.reduceToNat]) |  refine And.intro ?_ ?_ | intro _))
    all_goals first | omega | skip
    rw [show k = L.length by omega, List.take_length] at hw
    simp [weights, hw]
end
/-- ascending ticks -/
structure Asc1 (F : List Int) : Prop where
  asc : F.Pairwise (· < ·)
  bd : ∀ y ∈ F, 0 ≤ y ∧ y < 100
  len : F.length ≤ 100
theorem wrun_asc {F : List Int} (h : Asc1 F) : ∀ k, k ≤ F.length → ∃ b o, wrun (F.take k) = some (b, o) ∧ o.length = k ∧ o.sum = b + 1 ∧ (∀ w ∈ o, 1 ≤ w) ∧ -1 ≤ b ∧ b < 100 ∧ (∀ j (hj : j < F.length), j + 1 = k → b = F[j]) ∧ (k = 0 → b = -1)
  | 0, _ => ⟨-1, [], rfl, rfl, rfl, fun w hw => (by cases hw), by omega, by omega, fun j hj e => by omega, fun _ => rfl⟩
  | k + 1, hk => by
    obtain ⟨b, o, h1, h2, h3, h4, h5, h6, h7, h8⟩ := wrun_asc h k (by omega)
    have hlt : k < F.length := by omega
    have hbd := h.bd _ (List.getElem_mem hlt)
    have hb : b < F[k] := by
      cases k with
      | zero => have := h8 rfl; omega
      | succ j =>
        rw [h7 j (by omega) rfl]
        exact List.pairwise_iff_getElem.1 h.asc j (j + 1) (by omega) hlt (by omega)
    refine ⟨F[k], o ++ [F[k] - b], ?_, by simp [h2], by rw [List.sum_append]; simp; omega, fun w hw => ?_, by omega, by omega, fun j hj e => ?_, fun e => by omega⟩
    · rw [wrun_take F k hlt, h1]; simp only [wstep, Option.bind_some]; rw [if_neg (by omega)]
    · rcases List.mem_append.1 hw with hw | hw
      · exact h4 w hw
      · rw [List.mem_singleton] at hw; omega
    · have : j = k := by omega
      subst this; rfl
theorem weights_asc {F : List Int} (h : Asc1 F) : (weights F).length = F.length ∧ (∀ w ∈ weights F, 1 ≤ w) ∧ (weights F).sum ≤ 100 ∧ (∀ j (hj : j < F.length), j + 1 = F.length → (weights F).sum = F[j] + 1) ∧ (F.length = 0 → weights F = []) := by
  obtain ⟨b, o, h1, h2, h3, h4, h5, h6, h7, h8⟩ := wrun_asc h F.length (Nat.le_refl _)
  rw [List.take_length] at h1
  have e : weights F = o := by unfold weights; rw [h1]
  rw [e]
  refine ⟨h2, h4, by omega, fun j hj e => by rw [h3, h7 j hj e], fun h0 => List.eq_nil_of_length_eq_zero (by omega)⟩
/-- a weighed profile of drawn stacks -/
structure DrW (P : Pr) (n : Nat) (T : Int) : Prop where
  ok : profileOk P.1 P.2 = true
  sum : P.2.sum = T
  len : P.1.length ≤ 4 * n
  ents : ∀ e ∈ entriesOf P.1 P.2, Drawn (frsE e)
theorem DrW.nil : DrW ([], []) 0 0 := ⟨nilOk, rfl, by simp, fun e he => by rw [ents_nil] at he; cases he⟩
theorem DrW.add {P : Pr} {n : Nat} {T : Int} (h : DrW P n T) {F : List Frame} (hF : Drawn F) {c : Int} (c0 : 0 < c) (c1 : T + c ≤ 1000000000000) : (addStack P.1 P.2 F c).2 = true ∧ DrW (addStack P.1 P.2 F c).1 (n + 1) (T + c) := by
  have hs := h.sum
  obtain ⟨a1, a2, a3⟩ := addStack_total (n := c) h.ok hF.ne hF.ok (by omega) (by omega)
  refine ⟨a1, a3, by rw [a2]; omega, ?_, fun e he => ?_⟩
  · have h1 := (addStack_len P.1 P.2 F c).1
    have h2 := h.len
    have h3 := hF.len
    omega
  · have hr : Rep' (entriesOf P.1 P.2) ((entriesOf P.1 P.2).foldl (fun f e => updF f e.stack e.count) fun _ => none) := by
      have := fold_rep (entriesOf P.1 P.2) [] _ Rep'.nil (by simpa using asc_apart entries_asc)
      simpa using this
    have hm := (addStack_rep h.ok hF.ne hF.ok c0 a1 hr).mem e
    have h1 := hm.1 he
    unfold updF at h1
    split at h1
    · rename_i hst
      have : frsE e = F := by unfold frsE; rw [hst, parseF_fmtF hF.ok hF.ne]; rfl
      rw [this]; exact hF
    · exact h.ents e ((hr.mem e).2 h1)
theorem wg_go : ∀ (S : List (List Frame)) (W : List Int) (P : Pr) (n : Nat) (T : Int), S.length = W.length → (∀ F ∈ S, Drawn F) → (∀ w ∈ W, 1 ≤ w) → T + W.sum ≤ 1000000000000 → DrW P n T → ∃ q, wgGo S W P = some q ∧ DrW q (n + S.length) (T + W.sum)
  | [], [], P, n, T, _, _, _, _, h => ⟨P, rfl, by simpa using h⟩
  | F :: S, c :: W, P, n, T, hl, hS, hW, hT, h => by
    rw [List.sum_cons] at hT
    have h0 := hW c List.mem_cons_self
    have nn : ∀ Q : List Int, (∀ w ∈ Q, 1 ≤ w) → 0 ≤ Q.sum := by
      intro Q
      induction Q with
      | nil => intro _; simp
      | cons x Q ih =>
        intro h
        have h1 := h x List.mem_cons_self
        have h2 := ih fun y hy => h y (List.mem_cons_of_mem _ hy)
        rw [List.sum_cons]; omega
    have h1 := nn W fun w hw => hW w (List.mem_cons_of_mem _ hw)
    obtain ⟨a1, a2⟩ := h.add (hS F List.mem_cons_self) (c := c) (by omega) (by omega)
    obtain ⟨q, q1, q2⟩ := wg_go S W _ (n + 1) (T + c) (by simpa using hl) (fun G hG => hS G (List.mem_cons_of_mem _ hG)) (fun w hw => hW w (List.mem_cons_of_mem _ hw)) (by omega) a2
    refine ⟨q, by rw [wgGo, if_pos a1]; exact q1, ?_⟩
    rw [List.sum_cons, List.length_cons]
    rw [show n + (S.length + 1) = n + 1 + S.length by omega, show T + (c + W.sum) = T + c + W.sum by omega]
    exact q2
theorem weigh_ok {S : List (List Frame)} {W : List Int} (hl : S.length = W.length) (hS : ∀ F ∈ S, Drawn F) (hW : ∀ w ∈ W, 1 ≤ w) (hT : W.sum ≤ 1000000000000) : ∃ q, weigh S W = some q ∧ DrW q S.length W.sum := by
  obtain ⟨q, q1, q2⟩ := wg_go S W ([], []) 0 0 hl hS hW (by omega) DrW.nil
  refine ⟨q, by unfold weigh; rw [if_pos hl]; exact q1, ?_⟩
  simpa using q2
/-- the stack that stands in where none is drawn -/
def base1 (k : Nat) : List Frame := [⟨nMain, 1 + ((k : Int).tmod 5)⟩]
theorem base1_drawn (k : Nat) : Drawn (base1 k) := by
  have h1 : 0 ≤ (k : Int).tmod 5 ∧ (k : Int).tmod 5 < 5 := ⟨Int.tmod_nonneg _ (by omega), Int.tmod_lt_of_pos _ (by omega)⟩
  refine ⟨?_, ⟨_, [], rfl, rfl, fun x hx => (by cases hx)⟩, by simp [base1]⟩
  unfold base1
  rw [List.all_cons, List.all_nil, Bool.and_true, frOk_iff]
  exact ⟨by show nameOk nMain = true; decide, by simp only; omega, by simp only; omega⟩
def bases (n : Nat) : List (List Frame) := (List.range n).map base1
theorem bases_succ (n : Nat) : bases (n + 1) = bases n ++ [base1 n] := by simp [bases, List.range_succ]
theorem bases_len (n : Nat) : (bases n).length = n := by simp [bases]
theorem bases_drawn (n : Nat) : ∀ F ∈ bases n, Drawn F := fun F hF => by
  obtain ⟨k, _, rfl⟩ := List.mem_map.1 hF
  exact base1_drawn k
/-- the first j taken from S -/
def mixS (S B : List (List Frame)) (j : Nat) : List (List Frame) := S.take j ++ B.drop j
theorem mixS_zero (S B : List (List Frame)) : mixS S B 0 = B := rfl
theorem mixS_len {S B : List (List Frame)} {j : Nat} (h1 : j ≤ S.length) (h2 : j ≤ B.length) : (mixS S B j).length = B.length := by
  unfold mixS; rw [List.length_append, List.length_take, List.length_drop]; omega
theorem mixS_set {S B : List (List Frame)} {j : Nat} (h1 : j < S.length) (h2 : j < B.length) : (mixS S B j).set j S[j] = mixS S B (j + 1) := by
  unfold mixS
  rw [List.set_append, List.length_take, if_neg (by omega), show j - min j S.length = 0 by omega, List.drop_eq_getElem_cons h2, List.set_cons_zero, List.take_succ_eq_append_getElem h1, List.append_assoc]
  rfl
theorem mixS_drawn {S B : List (List Frame)} (h1 : ∀ F ∈ S, Drawn F) (h2 : ∀ F ∈ B, Drawn F) (j : Nat) : ∀ F ∈ mixS S B j, Drawn F := fun F hF => by
  rcases List.mem_append.1 hF with hF | hF
  · exact h1 F (List.mem_of_mem_take hF)
  · exact h2 F (List.mem_of_mem_drop hF)
end
section
open Go.Vc
set_option linter.unusedSimpArgs false
set_option linter.unusedVariables false
set_option maxHeartbeats 1000000
set_option maxRecDepth 10000
attribute [local irreducible] Go.Vc.WP
attribute [local go_sem] cx0_t cx0_c
attribute [local go_sem] decFrame_enc oneFrame_enc capS
theorem oneFrame_ab' (a : ByteArray) (b : Int) : oneFrame [.v (.string a), .v (.int .i64 b)] = ⟨a, b⟩ := rfl
attribute [local go_sem] oneFrame_ab'
def kNamed1 : Ctr := pur (fun args => (oneFrame (aC args 0), capS args 1)) (fun x => [.agg (encFrame x.1), .rptr 1 [[.v (.string x.2)]] 0 0]) (fun _ => True) (fun _ x => .v (.bool (hasName x.2 x.1))) (fun _ _ => [])
section
noncomputable def cxNm1 : Cx := { P := Tryz.prog, tys := tys, C := [], hty := tysOk, hC := COk.nil _ }
theorem cxNm1_t : cxNm1.tys = tys := rfl
theorem cxNm1_c : cxNm1.C = [] := rfl
attribute [local go_sem] cxNm1_t cxNm1_c 
theorem cNamed1 : Cn Tryz.prog 76 kNamed1 := by
  refine Cn.pur Tryz.func76 (by kernel_rfl) rfl fun d x hx => ?_
  obtain ⟨x, s⟩ := x
  refine Holds.go (c := cxNm1) Tryz.func76 rfl Tryz.results76 Tryz.ntmps76 (by omega) (by simp) rfl ?_
  intro X0 w0
  have hr : Go.Vc.rowAt [[SV.v (Value.string s)]] 0 = [SV.v (Value.string s)] := rfl
  simp only [encFrame]
  (repeat' (first | refine WP.seq ?_ | refine WP.block ?_ | ((first | refine WP.region ?_ | refine WP.condW ?_ | refine WP.ret ?_ | refine WP.exit ?_ | refine WP.skip ?_); simp only [go_sem, hr, hasName, tyAll, Nat.reduceAdd, Nat.reduceLT, Nat.reduceLeDiff, Nat.reduceEqDiff, Nat.reduceMul, Nat.reduceSub, Nat.reduceGT, reduceIte, Int.reduceNeg, Int.reduceToNat]) |  refine And.intro ?_ ?_ | intro _))
  all_goals first | omega | skip
end
def kIdxFr : Ctr := pur (fun args => (decFrame (aR args 0), capS args 1)) (fun x => [.sl 2 (x.1.map encFrame), .fn 76 [.rptr 1 [[.v (.string x.2)]] 0 0]]) (fun x => x.1.length ≤ 4398046511104)
  (fun _ x => .v (.int .i64 (idxF x.2 x.1))) (fun _ _ => [])
section
noncomputable def cxNm2 : Cx := { P := Tryz.prog, tys := tys, C := [(76, kNamed1)], hty := tysOk, hC := COk.cons cNamed1 (COk.nil _) }
theorem cxNm2_t : cxNm2.tys = tys := rfl
theorem cxNm2_c : cxNm2.C = [(76, kNamed1)] := rfl
attribute [local go_sem] cxNm2_t cxNm2_c kNamed1
theorem cIdxFr : Cn Tryz.prog 75 kIdxFr := by
  refine Cn.pur Tryz.func75 (by kernel_rfl) rfl fun d x hx => ?_
  obtain ⟨L, s⟩ := x
  simp only at hx ⊢
  refine Holds.go (c := cxNm2) Tryz.func75 rfl Tryz.results75 Tryz.ntmps75 (by omega) (by simp) rfl ?_
  intro X0 w0
  (repeat' (first | refine WP.seq ?_ | refine WP.block ?_ | ((first | refine WP.region ?_ | refine WP.condW ?_ | refine WP.ret ?_ | refine WP.exit ?_ | refine WP.skip ?_); simp only [go_sem, tyAll, Nat.reduceAdd, Nat.reduceLT, Nat.reduceLeDiff, Nat.reduceEqDiff, Nat.reduceMul, Nat.reduceSub, Nat.reduceGT, reduceIte, Int.reduceNeg, Int.reduceToNat]) |  refine And.intro ?_ ?_ | intro _))
  refine WP.loop (fun k : Nat => ⟨[(0, .sl 2 (L.map encFrame)), (1, .fn 76 [.rptr 1 [[.v (.string s)]] 0 0]), (7, .v (.int .i64 L.length)), (8, .v (.int .i64 k))], []⟩)
    (fun k => k ≤ L.length ∧ ∀ i (hi : i < L.length), i < k → hasName s L[i] = false) (fun k => L.length - k) 0 (by simp) ?_ ?_
  · (simp only [go_sem, tyAll, Nat.reduceAdd, Nat.reduceLT, Nat.reduceLeDiff, Nat.reduceEqDiff, Nat.reduceMul, Nat.reduceSub, Nat.reduceGT, reduceIte, Int.reduceNeg, Int.reduceToNat] <;> (first | rfl | exact ⟨rfl, rfl⟩ | exact ⟨rfl, rfl, rfl⟩ | exact ⟨rfl, rfl, rfl, rfl⟩ | exact ⟨rfl, rfl, rfl, rfl, rfl⟩ | exact ⟨⟨rfl, rfl⟩, rfl⟩ | simp))
  intro k ⟨hk, hf⟩
  by_cases hlt : k < L.length
  · have hli : (k : Int) < L.length := by omega
    have h1 := rowAt_map encFrame L k hlt
    (repeat' (first | refine WP.seq ?_ | refine WP.block ?_ | ((first | refine WP.region ?_ | refine WP.condW ?_ | refine WP.ret ?_ | refine WP.exit ?_ | refine WP.skip ?_); simp only [go_sem, hli, h1, encFrame, tyAll, Nat.reduceAdd, Nat.reduceLT, Nat.reduceLeDiff, Nat.reduceEqDiff, Nat.reduceMul, Nat.reduceSub, Nat.reduceGT, reduceIte, Int.reduceNeg, Int.reduceToNat]) |  refine And.intro ?_ ?_ | intro _))
    all_goals first | omega | skip
    · rename_i hh
      rw [show idxF s L = k from firstIdx_hit (p := hasName s) hlt hf (by first | exact hh | simpa [hasName] using hh)]
    · rename_i hh
      refine ⟨k + 1, ⟨by omega, fun i hi hik => ?_⟩, by omega, rfl⟩
      rcases Nat.lt_or_ge i k with h | h
      · exact hf i hi h
      · have : i = k := by omega
        subst this
        first | exact hh | simpa [hasName] using hh
  · have hge : ¬ (k : Int) < L.length := by omega
    (repeat' (first | refine WP.seq ?_ | refine WP.block ?_ | ((first | refine WP.region ?_ | refine WP.condW ?_ | refine WP.ret ?_ | refine WP.exit ?_ | refine WP.skip ?_); simp only [go_sem, hge, tyAll, Nat.reduceAdd, Nat.reduceLT, Nat.reduceLeDiff, Nat.reduceEqDiff, Nat.reduceMul, Nat.reduceSub, Nat.reduceGT, reduceIte, Int.reduceNeg, Int.reduceToNat]) |  refine And.intro ?_ ?_ | intro _))
    all_goals first | omega | skip
    rw [show idxF s L = -1 from firstIdx_none fun i hi => hf i hi (by omega)]
end
def kNamed : Ctr := pur (fun args => (decFrame (aR args 0), aS args 1)) (fun x => [.sl 2 (x.1.map encFrame), .v (.string x.2)]) (fun x => x.1.length ≤ 4398046511104) (fun _ x => .v (.int .i64 (idxF x.2 x.1))) (fun _ _ => [])
section
noncomputable def cxNm3 : Cx := { P := Tryz.prog, tys := tys, C := [(75, kIdxFr)], hty := tysOk, hC := COk.cons cIdxFr (COk.nil _) }
theorem cxNm3_t : cxNm3.tys = tys := rfl
theorem cxNm3_c : cxNm3.C = [(75, kIdxFr)] := rfl
attribute [local go_sem] cxNm3_t cxNm3_c kIdxFr
theorem cNamed : Cn Tryz.prog 38 kNamed := by
  refine Cn.pur Tryz.func38 (by kernel_rfl) rfl fun d x hx => ?_
  obtain ⟨L, s⟩ := x
  simp only at hx ⊢
  refine Holds.go (c := cxNm3) Tryz.func38 rfl Tryz.results38 Tryz.ntmps38 (by omega) (by simp) rfl ?_
  intro X0 w0
  (repeat' (first | refine WP.seq ?_ | refine WP.block ?_ | ((first | refine WP.region ?_ | refine WP.condW ?_ | refine WP.ret ?_ | refine WP.exit ?_ | refine WP.skip ?_); simp only [go_sem, tyAll, Nat.reduceAdd, Nat.reduceLT, Nat.reduceLeDiff, Nat.reduceEqDiff, Nat.reduceMul, Nat.reduceSub, Nat.reduceGT, reduceIte, Int.reduceNeg, Int.reduceToNat]) |  refine And.intro ?_ ?_ | intro _))
  all_goals first | omega | skip
end
end
end Go.Proofs.YtahcfcimfcjhhaaGreatDoor
/-
  DERIVED. The library's contracts, laid at this program: tables of numbers. Printed by the kit's tools (lay.py).
-/
namespace Go.Proofs
open Go.Shelf
def Tryz.lSlF06_69_ren : Go.Shelf.Ren := ⟨fun | 6 => 69 | 15 => 96 | 14 => 95 | 28 => 123 | 29 => 124 | 20 => 115 | 21 => 116 | 22 => 117 | 23 => 118 | 24 => 119 | 25 => 120 | 26 => 121 | 27 => 122 | 46 => 148 | 47 => 149 | 48 => 150 | 49 => 151 | 50 => 152 | 57 => 167 | n => n, fun | 22 => 76 | 24 => 79 | 25 => 113 | 3 => 3 | 39 => 128 | 0 => 0 | 53 => 162 | 55 => 164 | 4 => 4 | 46 => 156 | 45 => 155 | 50 => 117 | 5 => 5 | 9 => 9 | 66 => 177 | 70 => 181 | 76 => 193 | 77 => 194 | n => n, fun | n => n⟩
theorem Tryz.lSlF06_69 : Go.Proofs.SlLaysF0.n6 Tryz.prog Tryz.lSlF06_69_ren := {
  mixed := by kernel_rfl
  f6 := ⟨Tryz.f69.name, by decide, Tryz.func69.trans (congrArg some (by kernel_rfl))⟩
  f14 := ⟨Tryz.f95.name, by decide, Tryz.func95.trans (congrArg some (by kernel_rfl))⟩
  f15 := Tryz.func96.trans (congrArg some (by kernel_rfl))
  f20 := ⟨Tryz.f115.name, by decide, Tryz.func115.trans (congrArg some (by kernel_rfl))⟩
  f21 := ⟨Tryz.f116.name, by decide, Tryz.func116.trans (congrArg some (by kernel_rfl))⟩
  f22 := ⟨Tryz.f117.name, by decide, Tryz.func117.trans (congrArg some (by kernel_rfl))⟩
  f23 := ⟨Tryz.f118.name, by decide, Tryz.func118.trans (congrArg some (by kernel_rfl))⟩
  f24 := ⟨Tryz.f119.name, by decide, Tryz.func119.trans (congrArg some (by kernel_rfl))⟩
  f25 := ⟨Tryz.f120.name, by decide, Tryz.func120.trans (congrArg some (by kernel_rfl))⟩
  f26 := ⟨Tryz.f121.name, by decide, Tryz.func121.trans (congrArg some (by kernel_rfl))⟩
  f27 := ⟨Tryz.f122.name, by decide, Tryz.func122.trans (congrArg some (by kernel_rfl))⟩
  f28 := Tryz.func123.trans (congrArg some (by kernel_rfl))
  f29 := Tryz.func124.trans (congrArg some (by kernel_rfl))
  f46 := ⟨Tryz.f148.name, by decide, Tryz.func148.trans (congrArg some (by kernel_rfl))⟩
  f47 := Tryz.func149.trans (congrArg some (by kernel_rfl))
  f48 := Tryz.func150.trans (congrArg some (by kernel_rfl))
  f49 := ⟨Tryz.f151.name, by decide, Tryz.func151.trans (congrArg some (by kernel_rfl))⟩
  f50 := ⟨Tryz.f152.name, by decide, Tryz.func152.trans (congrArg some (by kernel_rfl))⟩
  f57 := ⟨Tryz.f167.name, by decide, Tryz.func167.trans (congrArg some (by kernel_rfl))⟩
  t0 := Tryz.underlying0
  a0 := Tryz.isAgg0
  z0 := Tryz.sizeOf0
  v0 := Tryz.zeroValue0
  t3 := Tryz.underlying3
  a3 := Tryz.isAgg3
  z3 := Tryz.sizeOf3
  v3 := Tryz.zeroValue3
  t4 := Tryz.underlying4
  a4 := Tryz.isAgg4
  z4 := Tryz.sizeOf4
  v4 := Tryz.zeroValue4
  t5 := Tryz.underlying5
  a5 := Tryz.isAgg5
  z5 := Tryz.sizeOf5
  v5 := Tryz.zeroValue5
  t9 := Tryz.underlying9
  a9 := Tryz.isAgg9
  z9 := Tryz.sizeOf9
  v9 := Tryz.zeroValue9
  t22 := Tryz.underlying76
  a22 := Tryz.isAgg76
  z22 := Tryz.sizeOf76
  v22 := Tryz.zeroValue76
  t25 := Tryz.underlying113
  a25 := Tryz.isAgg113
  z25 := Tryz.sizeOf113
  v25 := Tryz.zeroValue113
  t39 := Tryz.underlying128
  a39 := Tryz.isAgg128
  z39 := Tryz.sizeOf128
  v39 := Tryz.zeroValue128
  t45 := Tryz.underlying155
  a45 := Tryz.isAgg155
  z45 := Tryz.sizeOf155
  v45 := Tryz.zeroValue155
  t46 := Tryz.underlying156
  a46 := Tryz.isAgg156
  z46 := Tryz.sizeOf156
  v46 := Tryz.zeroValue156
  t50 := Tryz.underlying117
  a50 := Tryz.isAgg117
  z50 := Tryz.sizeOf117
  v50 := Tryz.zeroValue117
  t53 := Tryz.underlying162
  a53 := Tryz.isAgg162
  z53 := Tryz.sizeOf162
  v53 := Tryz.zeroValue162
  t55 := Tryz.underlying164
  a55 := Tryz.isAgg164
  z55 := Tryz.sizeOf164
  v55 := Tryz.zeroValue164
  t66 := Tryz.underlying177
  a66 := Tryz.isAgg177
  z66 := Tryz.sizeOf177
  v66 := Tryz.zeroValue177
  t70 := Tryz.underlying181
  a70 := Tryz.isAgg181
  z70 := Tryz.sizeOf181
  v70 := Tryz.zeroValue181
  t76 := Tryz.underlying193
  a76 := Tryz.isAgg193
  z76 := Tryz.sizeOf193
  v76 := Tryz.zeroValue193
  t77 := Tryz.underlying194
  a77 := Tryz.isAgg194
  z77 := Tryz.sizeOf194
  v77 := Tryz.zeroValue194 }
end Go.Proofs

/-
  DERIVED. The library's sort of structs, as a contract of a list that is lent.
-/
namespace Go.Vc
open Go.Pl
set_option linter.unusedVariables false

theorem vrows_map {α : Type} (enc : α → List Value) (en : α → List SV) (h : ∀ x, (enc x).map SV.v = en x) (L : List α) : vrows (L.map enc) = L.map en := by
  unfold vrows
  rw [List.map_map]
  exact List.map_congr_left fun x _ => h x

theorem sortK_holdsL {P : Program} {ρ : Go.Shelf.Ren} (L : Go.Proofs.SlLaysF0.n6 P ρ) {α : Type} [Inhabited α] (k : Nat) (hk0 : 0 < k) (aE : ∀ w, (isAgg (ρ.t 24)).run P w = .ok true w) (zE : ∀ w, (Go.sizeOf (ρ.t 24)).run P w = .ok k w)
    (enc : α → List Value) (hk : ∀ x, (enc x).length = k) (h1 : ∀ x, ∀ v ∈ enc x, v.oneCell' = true) (cf : α → α → Int) (hO : Go.Sort.SWO (Go.Proofs.ltOf cf)) (g : Nat) (eg : ∀ args w, (callFunc g args).run P w = .ok (.enter g args) w)
    (hcmp : ∀ blk off size w, Go.Proofs.CmpLays P g #[] enc k cf blk off size w) (lt : α → α → Bool) (hlt : ∀ x y, Go.Proofs.ltOf cf x y = lt x y) (hS : Strict lt) (e : Nat) (M : List α) (hM : M.length ≤ 1099511627776)
    (hp : M.Pairwise fun a b => lt a b = true ∨ lt b a = true) :
    HoldsL P (ρ.f 6) (.own 1000000 :: [.fn g []]) [(1000000, .sl e k (vrows (M.map enc)))] (.tup []) [] [(1000000, .sl e k (vrows ((insAll lt M).map enc)))] := by
  have fnv : ∀ {w : World} {us : List Value}, us.length = [SV.fn g []].length → (∀ (i : Nat) (c : SV) (u : Value), [SV.fn g []][i]? = some c → us[i]? = some u → R w (fun _ => False) (fun _ => .slice none 0 0) c u) → us = [.func (.func g) #[] #[]] := fun {w us} hl ha => by
    match us, hl with
    | [u], _ =>
      obtain ⟨cs, rfl, hcl, _⟩ := (ha 0 _ u rfl rfl).fn_inv
      have : cs = [] := List.eq_nil_of_length_eq_zero (by simpa using hcl.symm)
      subst this; rfl
  refine HoldsL.cells (fun r hr => by obtain ⟨x, _, rfl⟩ := List.mem_map.1 hr; exact hk x) (by simp [insAll_len]) (fun r hr => by obtain ⟨x, _, rfl⟩ := List.mem_map.1 hr; exact hk x)
    (fun r hr u hu => by obtain ⟨x, _, rfl⟩ := List.mem_map.1 hr; exact h1 x u hu) (fun hn w us hl ha => ?_) (fun c hc => by simp only [List.mem_cons, List.not_mem_nil, or_false] at hc; exact .inl ⟨g, hc⟩) (fun w b cap cur us hG hh hrc hcm hsz hcell hl ha => ?_)
  · rw [fnv hl ha]
    exact (Go.Proofs.AnyF.slices_SortFunc_none L none 0 _ w).mono fun en w' ⟨he, hw⟩ => ⟨he, by rw [hw]; exact Go.RowKit.Below.refl _ _⟩
  · rw [fnv hl ha, List.length_map]
    have hd : M.toArray.size = M.length := by simp
    have hH : Go.Sort.HoldsK enc k w b 0 M.toArray := holds_cells (enc := id) hh (fun j hj => by
      rw [Go.Sort.size_flatK, hd] at hj
      rw [Go.Sort.get_flatK enc k _ j (by rw [hd]; exact hj)]
      have hq : j / k < M.length := Nat.div_lt_of_lt_mul (by rw [Nat.mul_comm]; exact hj)
      have hr : j % k < k := Nat.mod_lt _ hk0
      have hrow : (M.map enc)[j / k]? = some (enc M[j / k]) := by rw [List.getElem?_map, List.getElem?_eq_getElem hq]; rfl
      have hu : (enc M[j / k])[j % k]? = some ((enc M[j / k])[j % k]'(by rw [hk]; exact hr)) := List.getElem?_eq_getElem _
      have h2 := (hcell (j / k) (j % k) _ _ hrow hu).1
      have e1 : j / k * k + j % k = j := by rw [Nat.mul_comm]; exact Nat.div_add_mod j k
      rw [e1] at h2
      have e2 : M.toArray[j / k]! = M[j / k] := by rw [getElem!_pos _ _ (by simpa using hq)]; simp
      rw [h2, e2, getElem!_pos _ _ (by rw [hk]; exact hr)]; rfl)
    have hs := Go.Proofs.AnyQ.slices_SortFunc L k aE zE enc hk h1 cf hO g #[] b 0 cap M.toArray w eg (hcmp _ _ _ _) hH (lt_of_heap hh) (by rw [hd]; omega)
    rw [hd] at hs
    refine hs.mono fun en w' ⟨he, d', n, os, hpm, hst, hw⟩ => ⟨he, ?_⟩
    have hsize : d'.size = M.length := by rw [hpm.1, hd]
    have hperm : d'.toList.Perm M := by
      have := hpm.2.2
      have e1 : d'.extract 0 M.length = d' := Array.extract_eq_self_of_le (by omega)
      have e2 : M.toArray.extract 0 M.length = M.toArray := Array.extract_eq_self_of_le (by rw [hd]; exact Nat.le_refl _)
      rw [e1, e2] at this
      simpa using this
    have hsorted : d'.toList.Pairwise fun a b => lt b a = false := by
      rw [List.pairwise_iff_getElem]
      intro i j hi hj hij
      have h3 := hst i j (Nat.zero_le _) hij (by simpa [hsize] using hj)
      rw [hlt] at h3
      have hi' : i < d'.size := by simpa using hi
      have hj' : j < d'.size := by simpa using hj
      rw [getElem!_pos d' i hi', getElem!_pos d' j hj'] at h3
      simpa using h3
    have hins := insAll_unique hS hp hperm hsorted
    have hfl : (Go.Sort.flatK enc k d').size ≤ cur.size := by
      rw [Go.Sort.size_flatK, hsize, hsz]
      exact Nat.mul_le_mul_right k (by simpa using hrc)
    obtain ⟨hU, hnew⟩ := upd_putRow (id : Value → Value) n (Go.Sort.flatK enc k d') os hh hfl
    refine ⟨_, by rw [hw]; exact hU, fun i c r u hr hu => ?_⟩
    rw [← hins, List.getElem?_map] at hr
    have hil : i < d'.size := by
      by_cases h : i < d'.toList.length
      · simpa using h
      · rw [List.getElem?_eq_none (by omega)] at hr; cases hr
    rw [Array.getElem?_toList, Array.getElem?_eq_getElem hil] at hr
    simp only [Option.map_some, Option.some.injEq] at hr
    subst hr
    have hc : c < k := by rw [← hk d'[i]]; exact (List.getElem?_eq_some_iff.1 hu).1
    have hlt' : i * k + c < d'.size * k := by
      have := Nat.mul_le_mul_right k (show i + 1 ≤ d'.size from hil)
      rw [Nat.add_mul, Nat.one_mul] at this; omega
    have e1 : (i * k + c) / k = i := by rw [Nat.mul_comm, Nat.mul_add_div hk0, Nat.div_eq_of_lt hc]; rfl
    have e2 : (i * k + c) % k = c := by rw [Nat.mul_comm, Nat.mul_add_mod, Nat.mod_eq_of_lt hc]
    rw [hnew _ (by rw [Go.Sort.size_flatK]; exact hlt'), Go.Sort.get_flatK enc k d' _ hlt', e1, e2, getElem!_pos d' i hil]
    obtain ⟨hcl, hcv⟩ := List.getElem?_eq_some_iff.1 hu
    rw [getElem!_pos (enc d'[i]) c hcl, hcv]; rfl
end Go.Vc

/-
  DERIVED. The library's sort of entries, as the program calls it.
-/
namespace Go.Proofs.YtahcfcimfcjhhaaGreatDoor
open Go.Vc Go.Pl Go.Shelf Go.RowKit Go.Lib Go.Sort
set_option linter.unusedVariables false
theorem cmp_less : ∀ a b : List UInt8, decide (compareBytes a b < 0) = Op.bytesLess a b
  | [], [] => rfl
  | [], _ :: _ => rfl
  | _ :: _, [] => rfl
  | a :: l, b :: m => by
    have ih := cmp_less l m
    unfold compareBytes Op.bytesLess
    by_cases h : a < b
    · simp [h]
    · by_cases h2 : b < a
      · have : ¬ a = b := fun e => by subst e; exact h h2
        simp [h, h2, this]
      · have : a = b := by
          have h3 : ¬ a.toNat < b.toNat := fun hh => h (UInt8.lt_iff_toNat_lt.2 hh)
          have h4 : ¬ b.toNat < a.toNat := fun hh => h2 (UInt8.lt_iff_toNat_lt.2 hh)
          exact UInt8.toNat_inj.1 (by omega)
        simp [h, h2, this, ih]
theorem toList_data (a : ByteArray) : a.data.toList = a.toList := by rw [ByteArray.toList_eq]
def cfE (x y : Entry) : Int := compareBytes x.stack.data.toList y.stack.data.toList
theorem ltE_cf (x y : Entry) : ltOf cfE x y = ltE x y := by
  unfold ltOf cfE ltE ltS
  rw [cmp_less, toList_data, toList_data]
theorem swoE : SWO (ltOf cfE) := ⟨fun x => by rw [ltE_cf]; exact ltS_irrefl _, fun x y z h1 h2 => by rw [ltE_cf] at h1 h2 ⊢; exact ltS_trans h1 h2, fun x y z h1 h2 => by rw [ltE_cf] at h1 h2 ⊢; exact ltS_ntrans h1 h2⟩
def vEntry (x : Entry) : List Value := [.string x.stack, .int .i64 x.count]
set_option maxHeartbeats 1000000 in
theorem closureE (x y : Entry) (W : World) : Calls Tryz.prog 70 #[.agg #[.string x.stack, .int .i64 x.count], .agg #[.string y.stack, .int .i64 y.count]] W fun e w' => e = .returned (.int .i64 (cfE x y)) ∧ ∃ q os', w' = grow (W.drewN q) os' := by
  unfold cfE
  have hcon := fun W' => Any.strings_Compare Tryz.l106 x.stack y.stack W'
  change ∀ W', Calls Tryz.prog 71 _ _ _ at hcon
  generalize Lib.compareBytes x.stack.data.toList y.stack.data.toList = r at hcon ⊢
  go_enter Tryz.func70, Tryz.ntmps70
  go_wp2_with (go_at_call 71; refine (hcon _).mono ?_; rintro e w' ⟨rfl, rfl⟩)
  go_ret
  exact ⟨rfl, 0, _, by rw [alloc_eq_grow, alloc_eq_grow, grow_grow]; rfl⟩
instance : Inhabited Entry := ⟨⟨⟨#[]⟩, 0⟩⟩
def kSortE : Ctr := len [0] [] (fun args obs => decEntry (oR obs 1000000)) (fun x => [.own 1000000, .fn 70 []]) (fun x => [(1000000, .sl 79 2 (x.map encEntry))])
  (fun x => x.length ≤ 1099511627776 ∧ x.Pairwise fun a b => ltE a b = true ∨ ltE b a = true) (fun _ x => .tup []) (fun _ _ => []) (fun x => [(1000000, .sl 79 2 ((insAll ltE x).map encEntry))])
theorem cSortE : Cn Tryz.prog 69 kSortE := by
  refine Cn.len Tryz.func69 (by kernel_rfl) rfl fun d x hd hx => ?_
  have eg : ∀ args w, (callFunc 70 args).run Tryz.prog w = .ok (.enter 70 args) w := enters_of Tryz.func70 (by kernel_rfl) rfl
  have h := sortK_holdsL Tryz.lSlF06_69 2 (by omega) Tryz.isAgg79 Tryz.sizeOf79 vEntry (fun _ => rfl) (fun x v hv => by simp [vEntry] at hv; rcases hv with rfl | rfl <;> rfl) cfE swoE 70 eg
    (fun blk off size w _ _ _ _ x y => closureE x y _) ltE ltE_cf ltE_strict 79 x hx.1 hx.2
  rw [vrows_map vEntry encEntry (fun _ => rfl), vrows_map vEntry encEntry (fun _ => rfl)] at h
  exact h
end Go.Proofs.YtahcfcimfcjhhaaGreatDoor

namespace Go.Proofs.YtahcfcimfcjhhaaGreatDoor
open Go.Vc
attribute [local go_sem] St.runR St.runW St.stepV offV St.step St.stepU St.stepG mkCond guardB St.prK St.pr St.prLen St.eff St.callE St.callD St.callF St.callL aI aB aS aR aC St.isM St.argL Ctr.pure Ctr.lend Ctr.move Ctr.isL Ctr.wri pur len lentBy St.lentV St.lent1 nthS argsR restOf obsR pairs swapL unObs backL St.resL erL SV.ren1 SV.up SV.up2 Ob.up St.fzL cellIds partIds St.intoRow SV.ownId St.fz SV.fz1 St.prep St.mvL St.mv SV.re1 rnOk St.prEq vals eqCells scEq Value.kd St.prStr St.prCut cutR St.bnd St.prMin St.bld isShift outL retL outJ oR oC St.ev St.get St.put St.new St.kill SV.kill SV.kill1 Ob.kill St.app St.wrt St.rowsOf St.res St.killL lk er argsL SV.strip SV.need SV.share SV.share1 SV.owns SV.owns1 SV.owns2 SV.good SV.good1 SV.rok SV.rok1 SV.rok2 SV.isV SV.isV2 nodupN SV.cells SV.one SV.pur Ob.pb partsIn rowsIn splice cellsAt dstOk scal2 scal1 thenK blockK retK outK outs okC okL okA okT nilC nilL nilA nilT keepC keepL keepA keepT St.runG St.dltK St.least St.clean St.final St.hide offK badS badO SV.refs SV.leaf SV.leaf2 Ob.refs dlOk fpAt Go.Vc.cover tups SV.ofAgg St.out outC subL St.has rng wr Value.oneCell' Option.isSome_some Option.isSome_none List.nil_append Bool.false_eq_true List.map_cons List.map_nil List.all_cons List.all_nil List.length_cons List.length_nil List.drop_zero List.drop_succ_cons List.take_succ_cons List.take_zero List.drop_nil List.take_nil List.getElem?_cons_zero List.getElem?_cons_succ List.getElem?_nil List.cons_append List.nil_append List.append_nil List.append_assoc List.flatMap_cons List.flatMap_nil List.contains_cons List.contains_nil List.set_cons_zero List.set_cons_succ List.getElem?_toArray Option.getD_some Option.getD_none Option.map_some Option.map_none Option.bind_some Option.some.injEq Prod.mk.injEq if_true if_false true_and and_true and_self and_false false_and Bool.and_false Bool.false_and Bool.or_true Bool.true_or Bool.or_false Bool.false_or ne_eq not_true_eq_false not_false_eq_true decide_true decide_false List.mem_cons List.not_mem_nil List.filter_cons List.filter_nil List.any_cons List.any_nil List.isEmpty_nil List.isEmpty_cons Option.getD_none or_false false_or true_or or_true forall_eq_or_imp forall_eq reduceCtorEq exists_eq exists_eq' exists_eq_left' exists_eq_left exists_eq_right exists_eq_right' imp_self implies_true Bool.and_true Bool.true_and Bool.and_self beq_self_eq_true List.replicate_succ List.replicate_zero forall_const false_implies pickB_or pickB_and beqT beqF Int.toNat_natCast List.length_map List.length_replicate ge_iff_le gt_iff_lt decide_eq_true_eq decide_eq_false_iff_not Bool.and_eq_true Bool.or_eq_true Bool.not_eq_true' Bool.not_eq_false' condG List.toList_toArray Bool.or_eq_false_iff Bool.and_eq_false_iff Int.not_lt Int.not_le beq_iff_eq beq_eq_false_iff_ne bne_iff_ne bne_eq_false_iff_eq ne_eq Bool.not_true Bool.not_false exists_and_left
section
open Go.Vc
set_option linter.unusedSimpArgs false
set_option linter.unusedVariables false
set_option maxHeartbeats 1000000
set_option maxRecDepth 10000
attribute [local irreducible] Go.Vc.WP
attribute [local go_sem] cx0_t cx0_c
open Go.Pl
attribute [local go_sem] isV_Node isV_It isV_Entry decNode_enc decFrame_enc oneFrame_enc stkA oneFrame_ab oneNode_abc decI_enc decS_enc aU prA decEntry_enc St.ado St.adoptB St.adoptS rp isNil St.fzS
theorem rawE_skip {N : List Node} {C : List Int} {k : Nat} (hk : k < C.length) (h : C[k] = 0) : rawE N C (k + 1) = rawE N C k := by
  rw [rawE_succ, show entAt N C k = none from if_pos (by rw [List.getD_eq_getElem?_getD, List.getElem?_eq_getElem hk]; exact h)]
  simp
theorem rawE_new {N : List Node} {C : List Int} {k : Nat} (hk : k < C.length) (h : ¬ C[k] = 0) : rawE N C (k + 1) = rawE N C k ++ [⟨fmtF (stackAt N k), C[k]⟩] := by
  have e : C.getD k 0 = C[k] := by rw [List.getD_eq_getElem?_getD, List.getElem?_eq_getElem hk]; rfl
  rw [rawE_succ, show entAt N C k = some ⟨fmtF (stackAt N k), C[k]⟩ by unfold entAt; rw [e, if_neg h]]
  rfl
section
noncomputable def cxEoI : Cx := { P := Tryz.prog, tys := tys, C := [(41, kPrOk), (68, kStackAt), (67, kFmtF), (69, kSortE)], hty := tysOk, hC := COk.cons cPrOkI (COk.cons cStackAtI (COk.cons cFmtFI (COk.cons cSortE (COk.nil _)))) }
theorem cxEoI_t : cxEoI.tys = tys := rfl
theorem cxEoI_c : cxEoI.C = [(41, kPrOk), (68, kStackAt), (67, kFmtF), (69, kSortE)] := rfl
attribute [local go_sem] cxEoI_t cxEoI_c kPrOk kStackAt kFmtF kSortE
theorem cEntI : Cn Tryz.prog 36 kEnt := by
  refine Cn.pur Tryz.func36 (by kernel_rfl) rfl fun d x hx => ?_
  obtain ⟨N, C⟩ := x
  obtain ⟨⟨hN, hs⟩, hC⟩ := hx
  simp only at hN hs hC ⊢
  refine Holds.go (c := cxEoI) Tryz.func36 rfl Tryz.results36 Tryz.ntmps36 (by omega) (by simp) rfl ?_
  intro X0 w0
  (repeat' (first | refine WP.seq ?_ | refine WP.block ?_ | ((first | refine WP.region ?_ | refine WP.condW ?_ | refine WP.ret ?_ | refine WP.exit ?_ | refine WP.skip ?_); simp only [go_sem, tyAll, Nat.reduceAdd, Nat.reduceLT, Nat.reduceLeDiff, Nat.reduceEqDiff, Nat.reduceMul, Nat.reduceSub, Nat.reduceGT, reduceIte, Int.reduceNeg, Int.reduceToNat]) |  refine And.intro ?_ ?_ | intro _))
  all_goals first | omega | (simp only; omega) | exact Nat.le_trans (hs _ ‹_›) (by omega) | skip
  · rename_i h; rw [show entriesOf N C = [] from if_neg (by rw [h]; simp)]; exact ⟨_, _, rfl⟩
  rename_i hp
  have he : entriesOf N C = insAll ltE (rawE N C C.length) := if_pos hp
  refine WP.loop (fun k : Nat => ⟨[(1, .ptr 1 0 0 0), (3, .own 9), (11, .sl 1 (C.map encI)), (12, .v (.int .i64 C.length)), (13, .v (.int .i64 k))], [(1, .box 39 [.sl 3 (N.map encNode), .sl 1 (C.map encI)]), (9, .sl 79 2 ((rawE N C k).map encEntry))]⟩)
    (fun k => k ≤ C.length) (fun k => C.length - k) 0 (by simp) ?_ ?_
  · (simp only [go_sem, tyAll, Nat.reduceAdd, Nat.reduceLT, Nat.reduceLeDiff, Nat.reduceEqDiff, Nat.reduceMul, Nat.reduceSub, Nat.reduceGT, reduceIte, Int.reduceNeg, Int.reduceToNat] <;> (first | rfl | exact ⟨rfl, rfl⟩ | exact ⟨rfl, rfl, rfl⟩ | exact ⟨rfl, rfl, rfl, rfl⟩ | exact ⟨rfl, rfl, rfl, rfl, rfl⟩ | exact ⟨⟨rfl, rfl⟩, rfl⟩ | simp))
  intro k hk
  have hlen := rawE_len N C k
  by_cases hlt : k < C.length
  · have hli : (k : Int) < C.length := by omega
    have h1 := rowAt_map encI C k hlt
    have h3 := cntOk_at (profileOk_iff.1 hp).2.2 k hlt
    by_cases hz : C[k] = 0
    · have hsk := rawE_skip (N := N) hlt hz
      have hz0 : ¬ 0 < C[k] := by omega
      (repeat' (first | refine WP.seq ?_ | refine WP.block ?_ | ((first | refine WP.region ?_ | refine WP.condW ?_ | refine WP.ret ?_ | refine WP.exit ?_ | refine WP.skip ?_); simp only [go_sem, hli, h1, encI, hz0, tyAll, Nat.reduceAdd, Nat.reduceLT, Nat.reduceLeDiff, Nat.reduceEqDiff, Nat.reduceMul, Nat.reduceSub, Nat.reduceGT, reduceIte, Int.reduceNeg, Int.reduceToNat]) |  refine And.intro ?_ ?_ | intro _))
      all_goals first | omega | skip
      exact ⟨k + 1, by omega, by omega, rfl, by rw [hsk]⟩
    · have hnw := rawE_new (N := N) hlt hz
      have hfr := wfFr_at N k
      have hsl := stackAt_len N k
      have hz0 : 0 < C[k] := by omega
      (repeat' (first | refine WP.seq ?_ | refine WP.block ?_ | ((first | refine WP.region ?_ | refine WP.condW ?_ | refine WP.ret ?_ | refine WP.exit ?_ | refine WP.skip ?_); simp only [go_sem, hli, h1, encI, hz0, tyAll, Nat.reduceAdd, Nat.reduceLT, Nat.reduceLeDiff, Nat.reduceEqDiff, Nat.reduceMul, Nat.reduceSub, Nat.reduceGT, reduceIte, Int.reduceNeg, Int.reduceToNat]) |  refine And.intro ?_ ?_ | intro _))
      all_goals first | omega | (simp only; omega) | exact Nat.le_trans (hs _ ‹_›) (by omega) | exact hfr _ ‹_› | exact ⟨_, _, _, rfl⟩ | skip
      exact ⟨k + 1, by omega, by omega, rfl, by rw [hnw, List.map_append]; rfl⟩
  · have hge : ¬ (k : Int) < C.length := by omega
    have hpr := rawE_pair (profileOk_iff.1 hp).1 C C.length (by have := (profileOk_iff.1 hp).2.1; omega)
    rw [show k = C.length by omega] at hge ⊢
    have hll := rawE_len N C C.length
    (repeat' (first | refine WP.seq ?_ | refine WP.block ?_ | ((first | refine WP.region ?_ | refine WP.condW ?_ | refine WP.ret ?_ | refine WP.exit ?_ | refine WP.skip ?_); simp only [go_sem, hge, tyAll, Nat.reduceAdd, Nat.reduceLT, Nat.reduceLeDiff, Nat.reduceEqDiff, Nat.reduceMul, Nat.reduceSub, Nat.reduceGT, reduceIte, Int.reduceNeg, Int.reduceToNat]) |  refine And.intro ?_ ?_ | intro _))
    all_goals first | omega | skip
    rw [he]
end
end
section
open Go.Vc
set_option linter.unusedSimpArgs false
set_option linter.unusedVariables false
set_option maxHeartbeats 1000000
set_option maxRecDepth 10000
attribute [local irreducible] Go.Vc.WP
attribute [local go_sem] cx0_t cx0_c
attribute [local go_sem] isV_Node isV_It isV_Entry decNode_enc decFrame_enc oneFrame_enc stkA oneFrame_ab oneNode_abc decI_enc decS_enc aU prA decEntry_enc St.fzS addL behind capS capI
theorem cParseZI : Cn Tryz.prog 37 kParseZ := Cn.frozenT (fun s => allV_Frame _) cParseFI
theorem cEntZI : Cn Tryz.prog 36 kEntZ := Cn.frozen (fun s => allV_Entry _) cEntI
/-! ## the changes -/
def kPickT : Ctr := pur (fun args => (decFrame (aR args 0), capS args 1)) (fun x => [.sl 2 (x.1.map encFrame), .rptr 1 [[.v (.string x.2)]] 0 0]) (fun x => x.1.length ≤ 4398046511104) (fun _ x => .sl 2 ((pick x.2 true x.1).map encFrame)) (fun _ _ => [])
def kPickF : Ctr := pur (fun args => (decFrame (aR args 0), capS args 1)) (fun x => [.sl 2 (x.1.map encFrame), .rptr 1 [[.v (.string x.2)]] 0 0]) (fun x => x.1.length ≤ 4398046511104) (fun _ x => .sl 2 ((pick x.2 false x.1).map encFrame)) (fun _ _ => [])
def kTopC : Ctr := pur (fun args => (decFrame (aR args 0), capI args 1)) (fun x => [.sl 2 (x.1.map encFrame), .rptr 1 [[.v (.int .i64 x.2)]] 0 0]) (fun x => x.1.length ≤ 4398046511104 ∧ 1 ≤ x.2) (fun _ x => .sl 2 ((topF x.2 x.1).map encFrame)) (fun _ _ => [])
theorem pickT_yes {s : ByteArray} {L : List Frame} (h : 0 ≤ idxF s L) : pick s true L = L := by unfold pick; rw [if_pos (by simp [h])]
theorem pickT_no {s : ByteArray} {L : List Frame} (h : idxF s L < 0) : pick s true L = [] := by unfold pick; rw [if_neg (by simp; omega)]
theorem pickF_yes {s : ByteArray} {L : List Frame} (h : 0 ≤ idxF s L) : pick s false L = [] := by unfold pick; rw [if_neg (by simp; omega)]
theorem pickF_no {s : ByteArray} {L : List Frame} (h : idxF s L < 0) : pick s false L = L := by unfold pick; rw [if_pos (by simp; omega)]
section
noncomputable def cxPk : Cx := { P := Tryz.prog, tys := tys, C := [(38, kNamed)], hty := tysOk, hC := COk.cons cNamed (COk.nil _) }
theorem cxPk_t : cxPk.tys = tys := rfl
theorem cxPk_c : cxPk.C = [(38, kNamed)] := rfl
attribute [local go_sem] cxPk_t cxPk_c kNamed
end
section
noncomputable def cxPk0 : Cx := { P := Tryz.prog, tys := tys, C := [], hty := tysOk, hC := COk.nil _ }
theorem cxPk0_t : cxPk0.tys = tys := rfl
theorem cxPk0_c : cxPk0.C = [] := rfl
attribute [local go_sem] cxPk0_t cxPk0_c 
end
section
noncomputable def cxMapT : Cx := { P := Tryz.prog, tys := tys, C := [(36, kEntZ), (37, kParseZ), (67, kFmtF)], hty := tysOk, hC := COk.cons cEntZI (COk.cons cParseZI (COk.cons cFmtFI (COk.nil _))) }
theorem cxMapT_t : cxMapT.tys = tys := rfl
theorem cxMapT_c : cxMapT.C = [(36, kEntZ), (37, kParseZ), (67, kFmtF)] := rfl
attribute [local go_sem] cxMapT_t cxMapT_c kEntZ kParseZ kFmtF
attribute [local go_sem] kPickT
end
section
noncomputable def cxFocusOnI : Cx := { P := Tryz.prog, tys := tys, C := [], hty := tysOk, hC := COk.nil _ }
theorem cxFocusOnI_t : cxFocusOnI.tys = tys := rfl
theorem cxFocusOnI_c : cxFocusOnI.C = [] := rfl
attribute [local go_sem] cxFocusOnI_t cxFocusOnI_c 
end

section
noncomputable def cxMapF : Cx := { P := Tryz.prog, tys := tys, C := [(36, kEntZ), (37, kParseZ), (67, kFmtF)], hty := tysOk, hC := COk.cons cEntZI (COk.cons cParseZI (COk.cons cFmtFI (COk.nil _))) }
theorem cxMapF_t : cxMapF.tys = tys := rfl
theorem cxMapF_c : cxMapF.C = [(36, kEntZ), (37, kParseZ), (67, kFmtF)] := rfl
attribute [local go_sem] cxMapF_t cxMapF_c kEntZ kParseZ kFmtF
attribute [local go_sem] kPickF
end
section
noncomputable def cxIgnoreI : Cx := { P := Tryz.prog, tys := tys, C := [], hty := tysOk, hC := COk.nil _ }
theorem cxIgnoreI_t : cxIgnoreI.tys = tys := rfl
theorem cxIgnoreI_c : cxIgnoreI.C = [] := rfl
attribute [local go_sem] cxIgnoreI_t cxIgnoreI_c 
end

section
noncomputable def cxMapC : Cx := { P := Tryz.prog, tys := tys, C := [(36, kEntZ), (37, kParseZ), (67, kFmtF)], hty := tysOk, hC := COk.cons cEntZI (COk.cons cParseZI (COk.cons cFmtFI (COk.nil _))) }
theorem cxMapC_t : cxMapC.tys = tys := rfl
theorem cxMapC_c : cxMapC.C = [(36, kEntZ), (37, kParseZ), (67, kFmtF)] := rfl
attribute [local go_sem] cxMapC_t cxMapC_c kEntZ kParseZ kFmtF
attribute [local go_sem] kTopC
end
section
noncomputable def cxTopFramesI : Cx := { P := Tryz.prog, tys := tys, C := [], hty := tysOk, hC := COk.nil _ }
theorem cxTopFramesI_t : cxTopFramesI.tys = tys := rfl
theorem cxTopFramesI_c : cxTopFramesI.C = [] := rfl
attribute [local go_sem] cxTopFramesI_t cxTopFramesI_c 
end

end
end Go.Proofs.YtahcfcimfcjhhaaGreatDoor
/-
  DERIVED. How large the profile of entries becomes.
-/
namespace Go.Proofs.YtahcfcimfcjhhaaGreatDoor
set_option linter.unusedVariables false
theorem profileOf_len {L : List Entry} (h : wfE L) : ((profileOf L).getD ([], [])).1.length ≤ 3298534883328 ∧ ((profileOf L).getD ([], [])).2.length ≤ 3298534883328 := by
  cases hp : profileOf L with
  | none => simp
  | some t =>
    have h1 := profGo_len (B := 3145728) L ([], []) 0 (fun e he f hf => by
      have h2 := (parseF_small hf).1
      have h3 := h.2 e he
      omega) (by simp) (by simp) t hp
    have h4 := h.1
    have h5 : 3145728 * L.length ≤ 3145728 * 1048576 := Nat.mul_le_mul_left _ h4
    simp only [Option.getD_some]
    omega
theorem profGo_names : ∀ (L : List Entry) (s : List Node × List Int), (∀ n ∈ s.1, n.name.size ≤ 8) → ∀ t, profGo L s = some t → ∀ n ∈ t.1, n.name.size ≤ 8
  | [], s, h, t, ht => by rw [profGo] at ht; cases ht; exact h
  | e :: L, s, h, t, ht => by
    cases hp : parseF e.stack with
    | none => rw [profGo_no hp] at ht; cases ht
    | some f =>
      cases hb : (addStack s.1 s.2 f e.count).2 with
      | false => rw [profGo_bad hp hb] at ht; cases ht
      | true => rw [profGo_ok hp hb] at ht; exact profGo_names L _ (addStack_names h (parseF_small hp).2) t ht
theorem profileOf_names (L : List Entry) : ∀ n ∈ ((profileOf L).getD ([], [])).1, n.name.size ≤ 8 := by
  cases hp : profileOf L with
  | none => simp
  | some t => exact profGo_names L ([], []) (by simp) t hp
end Go.Proofs.YtahcfcimfcjhhaaGreatDoor

/-
  DERIVED. How large a profile of kept entries becomes.
-/
namespace Go.Proofs.YtahcfcimfcjhhaaGreatDoor
set_option linter.unusedVariables false
theorem mapP_len {N : List Node} {C : List Int} (hN : N.length ≤ 1048576) (hC : C.length ≤ 1048576) {g : List Frame → List Frame} (hg : ∀ L, (g L).length ≤ L.length) : (mapP g N C).1.length ≤ 3298534883328 ∧ (mapP g N C).2.length ≤ 3298534883328 :=
  profileOf_len (wfE_map hN hC hg)
theorem topP_len {N : List Node} {C : List Int} (hN : N.length ≤ 1048576) (hC : C.length ≤ 1048576) (n : Int) : (topP n N C).1.length ≤ 3298534883328 ∧ (topP n N C).2.length ≤ 3298534883328 := by
  unfold topP
  split
  · simp
  · exact mapP_len hN hC (topF_len n)
end Go.Proofs.YtahcfcimfcjhhaaGreatDoor

namespace Go.Proofs.YtahcfcimfcjhhaaGreatDoor
open Go.Vc
attribute [local go_sem] St.runR St.runW St.stepV offV St.step St.stepU St.stepG mkCond guardB St.prK St.pr St.prLen St.eff St.callE St.callD St.callF St.callL aI aB aS aR aC St.isM St.argL Ctr.pure Ctr.lend Ctr.move Ctr.isL Ctr.wri pur len lentBy St.lentV St.lent1 nthS argsR restOf obsR pairs swapL unObs backL St.resL erL SV.ren1 SV.up SV.up2 Ob.up St.fzL cellIds partIds St.intoRow SV.ownId St.fz SV.fz1 St.prep St.mvL St.mv SV.re1 rnOk St.prEq vals eqCells scEq Value.kd St.prStr St.prCut cutR St.bnd St.prMin St.bld isShift outL retL outJ oR oC St.ev St.get St.put St.new St.kill SV.kill SV.kill1 Ob.kill St.app St.wrt St.rowsOf St.res St.killL lk er argsL SV.strip SV.need SV.share SV.share1 SV.owns SV.owns1 SV.owns2 SV.good SV.good1 SV.rok SV.rok1 SV.rok2 SV.isV SV.isV2 nodupN SV.cells SV.one SV.pur Ob.pb partsIn rowsIn splice cellsAt dstOk scal2 scal1 thenK blockK retK outK outs okC okL okA okT nilC nilL nilA nilT keepC keepL keepA keepT St.runG St.dltK St.least St.clean St.final St.hide offK badS badO SV.refs SV.leaf SV.leaf2 Ob.refs dlOk fpAt Go.Vc.cover tups SV.ofAgg St.out outC subL St.has rng wr Value.oneCell' Option.isSome_some Option.isSome_none List.nil_append Bool.false_eq_true List.map_cons List.map_nil List.all_cons List.all_nil List.length_cons List.length_nil List.drop_zero List.drop_succ_cons List.take_succ_cons List.take_zero List.drop_nil List.take_nil List.getElem?_cons_zero List.getElem?_cons_succ List.getElem?_nil List.cons_append List.nil_append List.append_nil List.append_assoc List.flatMap_cons List.flatMap_nil List.contains_cons List.contains_nil List.set_cons_zero List.set_cons_succ List.getElem?_toArray Option.getD_some Option.getD_none Option.map_some Option.map_none Option.bind_some Option.some.injEq Prod.mk.injEq if_true if_false true_and and_true and_self and_false false_and Bool.and_false Bool.false_and Bool.or_true Bool.true_or Bool.or_false Bool.false_or ne_eq not_true_eq_false not_false_eq_true decide_true decide_false List.mem_cons List.not_mem_nil List.filter_cons List.filter_nil List.any_cons List.any_nil List.isEmpty_nil List.isEmpty_cons Option.getD_none or_false false_or true_or or_true forall_eq_or_imp forall_eq reduceCtorEq exists_eq exists_eq' exists_eq_left' exists_eq_left exists_eq_right exists_eq_right' imp_self implies_true Bool.and_true Bool.true_and Bool.and_self beq_self_eq_true List.replicate_succ List.replicate_zero forall_const false_implies pickB_or pickB_and beqT beqF Int.toNat_natCast List.length_map List.length_replicate ge_iff_le gt_iff_lt decide_eq_true_eq decide_eq_false_iff_not Bool.and_eq_true Bool.or_eq_true Bool.not_eq_true' Bool.not_eq_false' condG List.toList_toArray Bool.or_eq_false_iff Bool.and_eq_false_iff Int.not_lt Int.not_le beq_iff_eq beq_eq_false_iff_ne bne_iff_ne bne_eq_false_iff_eq ne_eq Bool.not_true Bool.not_false exists_and_left
section
open Go.Vc
set_option linter.unusedSimpArgs false
set_option linter.unusedVariables false
set_option maxHeartbeats 1000000
set_option maxRecDepth 10000
attribute [local irreducible] Go.Vc.WP
attribute [local go_sem] cx0_t cx0_c
attribute [local go_sem] decNode_enc decFrame_enc oneFrame_enc stkA oneFrame_ab oneNode_abc decI_enc prA
def kTotal : Ctr := pur (fun args => prA args 0) (fun x => [.agg [.sl 3 (x.1.map encNode), .sl 1 (x.2.map encI)]]) wfP (fun _ x => .v (.int .i64 (totalOf x.1 x.2))) (fun _ _ => [])
section
noncomputable def cxToI : Cx := { P := Tryz.prog, tys := tys, C := [(41, kPrOk)], hty := tysOk, hC := COk.cons cPrOkI (COk.nil _) }
theorem cxToI_t : cxToI.tys = tys := rfl
theorem cxToI_c : cxToI.C = [(41, kPrOk)] := rfl
attribute [local go_sem] cxToI_t cxToI_c kPrOk
theorem cTotalI : Cn Tryz.prog 35 kTotal := by
  refine Cn.pur Tryz.func35 (by kernel_rfl) rfl fun d x hx => ?_
  obtain ⟨N, C⟩ := x
  obtain ⟨⟨hN, hs⟩, hC⟩ := hx
  simp only at hN hs hC ⊢
  refine Holds.go (c := cxToI) Tryz.func35 rfl Tryz.results35 Tryz.ntmps35 (by omega) (by simp) rfl ?_
  intro X0 w0
  (repeat' (first | refine WP.seq ?_ | refine WP.block ?_ | ((first | refine WP.region ?_ | refine WP.condW ?_ | refine WP.ret ?_ | refine WP.exit ?_ | refine WP.skip ?_); simp only [go_sem, tyAll, Nat.reduceAdd, Nat.reduceLT, Nat.reduceLeDiff, Nat.reduceEqDiff, Nat.reduceMul, Nat.reduceSub, Nat.reduceGT, reduceIte, Int.reduceNeg, Int.reduceToNat]) |  refine And.intro ?_ ?_ | intro _))
  all_goals first | omega | (simp only; omega) | exact hs _ ‹_› | skip
  · rename_i h; rw [show totalOf N C = 0 from if_neg (by rw [h]; simp)]
  rename_i hp
  have ht : totalOf N C = C.sum := if_pos hp
  refine WP.loop (fun k : Nat => ⟨[(3, .v (.int .i64 (C.take k).sum)), (10, .sl 1 (C.map encI)), (11, .v (.int .i64 C.length)), (12, .v (.int .i64 k))], []⟩)
    (fun k => k ≤ C.length) (fun k => C.length - k) 0 (by simp) ?_ ?_
  · (simp only [go_sem, tyAll, Nat.reduceAdd, Nat.reduceLT, Nat.reduceLeDiff, Nat.reduceEqDiff, Nat.reduceMul, Nat.reduceSub, Nat.reduceGT, reduceIte, Int.reduceNeg, Int.reduceToNat] <;> (first | rfl | exact ⟨rfl, rfl⟩ | exact ⟨rfl, rfl, rfl⟩ | exact ⟨rfl, rfl, rfl, rfl⟩ | exact ⟨rfl, rfl, rfl, rfl, rfl⟩ | exact ⟨⟨rfl, rfl⟩, rfl⟩ | simp))
  intro k hk
  have hsum := profileOk_sum hp k hk
  by_cases hlt : k < C.length
  · have h1 := rowAt_map encI C k hlt
    have h2 := take_sum C k hlt
    have h3 := cntOk_at (profileOk_iff.1 hp).2.2 k hlt
    (repeat' (first | refine WP.seq ?_ | refine WP.block ?_ | ((first | refine WP.region ?_ | refine WP.condW ?_ | refine WP.ret ?_ | refine WP.exit ?_ | refine WP.skip ?_); simp only [go_sem, h1, encI, tyAll, Nat.reduceAdd, Nat.reduceLT, Nat.reduceLeDiff, Nat.reduceEqDiff, Nat.reduceMul, Nat.reduceSub, Nat.reduceGT, reduceIte, Int.reduceNeg, Int.reduceToNat]) |  refine And.intro ?_ ?_ | intro _))
    all_goals first | omega | skip
    exact ⟨k + 1, by omega, by omega, by rw [h2]; (first | rfl | exact ⟨rfl, rfl⟩ | exact ⟨rfl, rfl, rfl⟩ | exact ⟨rfl, rfl, rfl, rfl⟩ | exact ⟨rfl, rfl, rfl, rfl, rfl⟩ | exact ⟨⟨rfl, rfl⟩, rfl⟩ | simp)⟩
  · rw [show k = C.length by omega, List.take_length]
    (repeat' (first | refine WP.seq ?_ | refine WP.block ?_ | ((first | refine WP.region ?_ | refine WP.condW ?_ | refine WP.ret ?_ | refine WP.exit ?_ | refine WP.skip ?_); simp only [go_sem, tyAll, Nat.reduceAdd, Nat.reduceLT, Nat.reduceLeDiff, Nat.reduceEqDiff, Nat.reduceMul, Nat.reduceSub, Nat.reduceGT, reduceIte, Int.reduceNeg, Int.reduceToNat]) |  refine And.intro ?_ ?_ | intro _))
    all_goals first | omega | skip
    rw [ht]
end
section
noncomputable def cxToS : Cx := { P := Tryz.prog, tys := tys, C := [(39, kPrOk)], hty := tysOk, hC := COk.cons cPrOkS (COk.nil _) }
theorem cxToS_t : cxToS.tys = tys := rfl
theorem cxToS_c : cxToS.C = [(39, kPrOk)] := rfl
attribute [local go_sem] cxToS_t cxToS_c kPrOk
theorem cTotalS : Cn Tryz.prog 13 kTotal := by
  refine Cn.pur Tryz.func13 (by kernel_rfl) rfl fun d x hx => ?_
  obtain ⟨N, C⟩ := x
  obtain ⟨⟨hN, hs⟩, hC⟩ := hx
  simp only at hN hs hC ⊢
  refine Holds.go (c := cxToS) Tryz.func13 rfl Tryz.results13 Tryz.ntmps13 (by omega) (by simp) rfl ?_
  intro X0 w0
  (repeat' (first | refine WP.seq ?_ | refine WP.block ?_ | ((first | refine WP.region ?_ | refine WP.condW ?_ | refine WP.ret ?_ | refine WP.exit ?_ | refine WP.skip ?_); simp only [go_sem, tyAll, Nat.reduceAdd, Nat.reduceLT, Nat.reduceLeDiff, Nat.reduceEqDiff, Nat.reduceMul, Nat.reduceSub, Nat.reduceGT, reduceIte, Int.reduceNeg, Int.reduceToNat]) |  refine And.intro ?_ ?_ | intro _))
  all_goals first | omega | (simp only; omega) | exact hs _ ‹_› | skip
  refine WP.loop (fun k : Nat => ⟨[(1, .ptr 1 0 0 0), (3, .v (.int .i64 (C.take k).sum)), (4, .v (.bool (profileOk N C))), (5, .v (.int .i64 k))], [(1, .box 39 [.sl 3 (N.map encNode), .sl 1 (C.map encI)])]⟩)
    (fun k => k ≤ C.length ∧ (profileOk N C = false → k = 0)) (fun k => C.length - k) 0 (by simp) ?_ ?_
  · (simp only [go_sem, tyAll, Nat.reduceAdd, Nat.reduceLT, Nat.reduceLeDiff, Nat.reduceEqDiff, Nat.reduceMul, Nat.reduceSub, Nat.reduceGT, reduceIte, Int.reduceNeg, Int.reduceToNat] <;> (first | rfl | exact ⟨rfl, rfl⟩ | exact ⟨rfl, rfl, rfl⟩ | exact ⟨rfl, rfl, rfl, rfl⟩ | exact ⟨rfl, rfl, rfl, rfl, rfl⟩ | exact ⟨⟨rfl, rfl⟩, rfl⟩ | simp))
  intro k ⟨hk, hk0⟩
  cases hp : profileOk N C with
  | true =>
    have ht : totalOf N C = C.sum := if_pos hp
    have hsum := profileOk_sum hp k hk
    by_cases hlt : k < C.length
    · have h1 := rowAt_map encI C k hlt
      have h2 := take_sum C k hlt
      have h3 := cntOk_at (profileOk_iff.1 hp).2.2 k hlt
      (repeat' (first | refine WP.seq ?_ | refine WP.block ?_ | ((first | refine WP.region ?_ | refine WP.condW ?_ | refine WP.ret ?_ | refine WP.exit ?_ | refine WP.skip ?_); simp only [go_sem, h1, encI, tyAll, Nat.reduceAdd, Nat.reduceLT, Nat.reduceLeDiff, Nat.reduceEqDiff, Nat.reduceMul, Nat.reduceSub, Nat.reduceGT, reduceIte, Int.reduceNeg, Int.reduceToNat]) |  refine And.intro ?_ ?_ | intro _))
      all_goals first | omega | skip
      exact ⟨k + 1, by omega, by omega, by rw [h2]; (first | rfl | exact ⟨rfl, rfl⟩ | exact ⟨rfl, rfl, rfl⟩ | exact ⟨rfl, rfl, rfl, rfl⟩ | exact ⟨rfl, rfl, rfl, rfl, rfl⟩ | exact ⟨⟨rfl, rfl⟩, rfl⟩ | simp)⟩
    · rw [show k = C.length by omega, List.take_length]
      (repeat' (first | refine WP.seq ?_ | refine WP.block ?_ | ((first | refine WP.region ?_ | refine WP.condW ?_ | refine WP.ret ?_ | refine WP.exit ?_ | refine WP.skip ?_); simp only [go_sem, tyAll, Nat.reduceAdd, Nat.reduceLT, Nat.reduceLeDiff, Nat.reduceEqDiff, Nat.reduceMul, Nat.reduceSub, Nat.reduceGT, reduceIte, Int.reduceNeg, Int.reduceToNat]) |  refine And.intro ?_ ?_ | intro _))
      all_goals first | omega | skip
      rw [ht]
  | false =>
    have ht : totalOf N C = 0 := if_neg (by rw [hp]; simp)
    rw [hk0 hp]
    (repeat' (first | refine WP.seq ?_ | refine WP.block ?_ | ((first | refine WP.region ?_ | refine WP.condW ?_ | refine WP.ret ?_ | refine WP.exit ?_ | refine WP.skip ?_); simp only [go_sem, ht, tyAll, Nat.reduceAdd, Nat.reduceLT, Nat.reduceLeDiff, Nat.reduceEqDiff, Nat.reduceMul, Nat.reduceSub, Nat.reduceGT, reduceIte, Int.reduceNeg, Int.reduceToNat]) |  refine And.intro ?_ ?_ | intro _))
    all_goals first | omega | skip
    all_goals simp
end
end
end Go.Proofs.YtahcfcimfcjhhaaGreatDoor
