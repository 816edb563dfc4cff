/-
  DERIVED. Several texts of ours in one: VcDel, VcCt, VtLnS, VtFmtLn, VtPg3I, VcMd, VtPg3S, VpPrg3.
-/
import Derived.Test.YtdhkhapbldkkdaaGreatDoorVy0
import Derived.Test.YtdhkhapbldkkdaaGreatDoorVy1
import Derived.Test.YtdhkhapbldkkdaaGreatDoorVy2
import Derived.Test.YtdhkhapbldkkdaaGreatDoorVy3
import Derived.Test.YtdhkhapbldkkdaaGreatDoorVy4
import Derived.Test.YtdhkhapbldkkdaaGreatDoorVy5
import Derived.Test.YtdhkhapbldkkdaaGreatDoorVy6
import Derived.Test.YtdhkhapbldkkdaaGreatDoorVy7
set_option linter.unusedSimpArgs false
set_option linter.unusedVariables false
namespace Go.Vc
set_option linter.unusedVariables false
set_option linter.unusedSimpArgs false
section
variable {P : Program} {tys : List (Nat × TyD)} {C : List (FuncId × Ctr)} {N : Nat} {X0 : Nat → Prop} {M : Nat → BV → Prop} {w0 : World} {st : St} {β : Nat → BV} {a : Act} {w : World}
theorem own_slice {X : Nat → Prop} {v : BV} {e s : Nat} {rows : List (List SV)} (h : ObR w X β v (.sl e s rows)) : ∃ p cap, v = plain (.slice p rows.length cap) ∧ rows.length ≤ cap ∧ ∀ ad, p = some ad → ad.off = 0 ∧ ad.spot = none := by
  cases h with
  | nil e s h => exact ⟨none, 0, h, Nat.le_refl _, fun ad h => by cases h⟩
  | sl b cap cur us hv hh hcap => exact ⟨_, cap, hv, hcap, fun ad h => by cases h; exact ⟨rfl, rfl⟩⟩
def St.cutK (tys : List (Nat × TyD)) (N : Nat) (o : Oper) (st : St) (K : St → Prop) : Prop :=
  match o.op with
  | .slice T x none (some hi) none => match o.dst, (st.ev x).strip, (st.ev hi).strip with
    | some d, .own j, .v (.int .i64 p) => match lk T tys, lk j st.hp with
      | some t, some (.sl es s rows) => match lk t.elem tys with
        | some e => o.guard.isNone = true ∧ d < N ∧ j < 1000000 ∧ t.kind = 1 ∧ s = e.size ∧ (st.ev x).need ∧ (st.ev hi).need ∧ 0 ≤ p ∧ p ≤ (rows.length : Int) ∧ K (st.app j d (.sl es s (rows.take p.toNat)))
        | none => False
      | _, _ => False
    | _, _, _ => False
  | _ => False
theorem cutK_sound (hty : ∀ T d, lk T tys = some d → TyOk P T d) (h : Sim N X0 M w0 st β a w) {ops : Array Oper} {o : Oper} {K : St → Prop} (hw : st.cutK tys N o K) {Q : Exit → Act → World → Prop} :
    Region.wanted o (yielded ops a.tmps) = true ∧ o.wp P a w (Ok N X0 M w0 K) Q := by
  unfold St.cutK at hw
  split at hw
  case h_2 => exact hw.elim
  case h_1 _ T x hi ho =>
  split at hw
  case h_2 => exact hw.elim
  case h_1 _ _ _ d j p hd hx hhi =>
  split at hw
  case h_2 => exact hw.elim
  case h_1 _ _ t es s rows ht hl =>
  split at hw
  case h_2 => exact hw.elim
  case h_1 _ e he =>
  obtain ⟨g, hdN, hjl, hk, rfl, n1, n2, hp0, hp1, hK⟩ := hw
  have hgn : o.guard = none := by simpa using g
  refine ⟨by simp [Region.wanted, hgn], ?_⟩
  have hT := (hty T t ht).slice hk
  have hE := hty t.elem e he
  have hS : ∀ w, (Go.sizeOf t.elem).run P w = .ok e.size w := fun w => hE.sizeOf w
  have ex := (St.ev_strip h hx n1).own_inv
  have el := (St.ev_strip h hhi n2).v_inv
  have hob := h.objs j _ hl
  obtain ⟨pp, cap, hv, hnc, hpp⟩ := own_slice hob
  have hsl := slice_rows hT hS pp rows.length cap hnc none (some (.int .i64 p)) 0 p (.inr ⟨rfl, rfl⟩) (.inl rfl) (Int.le_refl _) hp0 hp1 w
  have hsv : Value.slice (if cap = (0 : Int).toNat then pp else pp.map (·.add ((0 : Int).toNat * e.size))) (p.toNat - (0 : Int).toNat) (cap - (0 : Int).toNat) = .slice pp p.toNat cap := by
    have h0 : (0 : Int).toNat = 0 := rfl
    rw [h0, Nat.zero_mul, Nat.sub_zero, Nat.sub_zero]
    congr 1
    split
    · rfl
    · cases pp with
      | none => rfl
      | some ad =>
        obtain ⟨q1, q2⟩ := hpp ad rfl
        obtain ⟨a1, a2, a3⟩ := ad
        simp only at q1 q2
        subst q1 q2
        simp [Addr.add]
  rw [hsv] at hsl
  have hr : (execOp a.eval o).run P w = .ok (.value (.slice pp p.toNat cap)) w := by
    simp [execOp, ho, ex, hv, el, hsl]
  have hblk : ∀ b, blk (.slice pp p.toNat cap) = some b ↔ (β j).ft b := fun b => by rw [hv]; cases pp <;> rfl
  let β' : Nat → BV := fun i => if i = j then plain (.slice pp p.toNat cap) else β i
  have hβ : ∀ i, i ≠ j → β' i = β i := fun i hi => by show (if i = j then _ else β i) = _; rw [if_neg hi]
  have hβj : β' j = plain (.slice pp p.toNat cap) := by show (if j = j then _ else β j) = _; rw [if_pos rfl]
  have hX1 : ∀ b, b < w.heap.size → (X0 b ∨ (β j).ft b) → XX X0 β st.hp b := fun b _ hh => by
    rcases hh with hh | hh
    · exact .inl hh
    · exact .inr ⟨j, _, hl, hh⟩
  have h1 : Sim N (fun b => X0 b ∨ (β j).ft b) M w0 (st.kill j) β' a w :=
    h.kill j hjl hβ (by rw [hβj]; rfl) rfl rfl rfl (Nat.le_refl _) (fun b _ _ => rfl) hX1 (fun b hh => by
      rcases hh with hh | hh
      · exact h.x0 b hh
      · exact hob.lt hh)
  have hXk : ∀ b, b < w.heap.size → XX (fun b => X0 b ∨ (β j).ft b) β' (st.kill j).hp b → XX X0 β st.hp b := fun b hlt hh => XX_kill hβ (hX1 b hlt) hh
  have hSm : Same (XX X0 β st.hp) w w := ⟨Nat.le_refl _, fun _ _ _ => rfl⟩
  have hob' : ObR w (XX (fun b => X0 b ∨ (β j).ft b) β' (st.kill j).hp) β' (plain (.slice pp p.toNat cap)) (.sl es e.size (rows.take p.toNat)) := by
    have hlen : (rows.take p.toNat).length = p.toNat := by rw [List.length_take]; omega
    generalize hbv : β j = bv at hob hv
    cases hob with
    | nil e' s' h0 =>
      rw [h0] at hv
      injection (congrArg BV.val hv) with q1 q2 q3
      subst q1 q3
      have : p.toNat = 0 := by simp at hp1; omega
      rw [this]
      exact .nil _ _ rfl
    | sl b cap' cur us hv' hh hcap hmax hsz hlenr hcell hone hrp =>
      rw [hv'] at hv
      injection (congrArg BV.val hv) with q1 q2 q3
      subst q1 q3
      have sub : ∀ {i : Nat} {row : List SV}, (rows.take p.toNat)[i]? = some row → rows[i]? = some row := fun {i row} hq => by
        rw [List.getElem?_take] at hq
        split at hq
        · exact hq
        · cases hq
      exact ObR.sl b cap' cur us (by rw [hlen]) hh (by rw [hlen]; omega) hmax hsz (fun i row hq => hlenr i row (sub hq)) (fun i k row c hq hc => hcell i k row c (sub hq) hc) (fun i k row c hq hc => hone i k row c (sub hq) hc)
        (fun i k row c hq hc => (hrp i k row c (sub hq) hc).mono hSm (fun b hlt hh => hXk b hlt (by rw [hbv]; exact hh)))
  have h2 := h1.add (j := j) (lk_kill st j) (ob := .sl es e.size (rows.take p.toNat)) (by rw [hβj]; exact hob') (fun b hh => .inr (by rw [hβj] at hh; exact (hblk b).1 hh))
    (fun b hh => by rw [hβj] at hh; exact h.mine j _ b hl ((hblk b).1 hh))
    (fun b id o' hh hi' hid => by
      rw [hβj] at hh
      have hne : id ≠ j := fun e => by subst e; rw [lk_kill] at hi'; cases hi'
      rw [hβ id hne] at hid
      rw [lk_kill_ne hne] at hi'
      cases hy : lk id st.hp with
      | none => rw [hy] at hi'; cases hi'
      | some y => exact hne (h.inj id j y _ b hy hl hid ((hblk b).1 hh)))
  have h3 := h2.un (X1 := X0) (fun b hh => .inl hh)
  unfold Oper.wp
  rw [hr, Oper.upon_value, hd]
  refine ⟨_, β', hK, ?_⟩
  have hR := R.own (w := w) (X := XX X0 β' ((j, .sl es e.size (rows.take p.toNat)) :: (st.kill j).hp)) (β := β') j
  rw [hβj] at hR
  exact h3.put hdN hR
theorem runR_then (hA : Ap P X0 M w0) (hty : ∀ T d, lk T tys = some d → TyOk P T d) (hC : COk P C) {ops : Array Oper} {l2 : List Oper} {K : St → Prop} {Q : Exit → Act → World → Prop} (hQ : ∀ a w, Ok N X0 M w0 K a w → wpList P ops Q l2 a w) :
    ∀ (l : List Oper) {st : St} {β : Nat → BV} {a : Act} {w : World}, Sim N X0 M w0 st β a w → St.runR tys C N ops l st K → wpList P ops Q (l ++ l2) a w
  | [], st, β, a, w, h, hw => hQ a w ⟨st, β, hw, h⟩
  | o :: l, st, β, a, w, h, hw => by
    have h1 := step_sound (Q := Q) hA hty hC h hw
    show wpList P ops Q (o :: (l ++ l2)) a w
    unfold wpList
    split
    · rename_i hwt
      rw [if_pos hwt] at h1
      exact .inl (Oper.wp_mono (fun a' w' ⟨st', β', h2, h3⟩ => runR_then hA hty hC hQ l h3 h2) h1)
    · rename_i hwt
      rw [if_neg hwt] at h1
      obtain ⟨st', β', h2, h3⟩ := h1
      exact runR_then hA hty hC hQ l h3 h2
end
section
variable {c : Cx} {N : Nat} {X0 : Nat → Prop} {M : Nat → BV → Prop} {w0 : World} {st : St} {K : Exit → St → Prop}
end
end Go.Vc

namespace Go.Vc
set_option linter.unusedVariables false
section
variable {c : Cx} {N : Nat} {X0 : Nat → Prop} {M : Nat → BV → Prop} {w0 : World} {st : St} {K : Exit → St → Prop}
theorem WP.regionCut6 {id : Nat} {o1 o2 o3 o4 o5 o6 : Oper} (h : St.runR c.tys c.C N #[o1, o2, o3, o4, o5, o6] [o1, o2, o3, o4] st fun st' => st'.cutK c.tys N o5 fun st2 => St.runR c.tys c.C N #[o1, o2, o3, o4, o5, o6] [o6] st2 (K .normal)) :
    WP c N X0 M w0 (.region id #[o1, o2, o3, o4, o5, o6] false) st K := fun hA β a w hs =>
  wp_region_lit (l := [o1, o2, o3, o4, o5, o6]) (runR_then hA c.hty c.hC (l2 := [o5, o6]) (fun a w ⟨st', β', h1, h2⟩ => by
    obtain ⟨q1, q2⟩ := cutK_sound (ops := #[o1, o2, o3, o4, o5, o6]) (Q := fun e a w => Ok N X0 M w0 (K e) a w) c.hty h2 h1
    unfold wpList
    rw [if_pos q1]
    exact .inl (Oper.wp_mono (fun a' w' ⟨st3, β3, h4, h5⟩ => runR_sound hA c.hty c.hC (fun a w hk => hk) [o6] h5 h4) q2)) [o1, o2, o3, o4] hs h)
end
end Go.Vc

namespace Go.Proofs.YtdhkhapbldkkdaaGreatDoor
open Go.Vc
attribute [local go_sem] St.runR St.runW St.stepV offV St.step St.stepU St.stepG mkCond guardB St.prK St.pr St.prLen St.eff St.callE St.callD St.callF St.callL aI aS aR aC St.isM St.argL Ctr.pure Ctr.lend Ctr.move Ctr.isL Ctr.wri pur len lentBy St.lentV St.lent1 nthS argsR restOf obsR pairs swapL unObs backL St.resL erL SV.ren1 SV.up SV.up2 Ob.up St.fzL cellIds partIds St.intoRow SV.ownId St.fz SV.fz1 St.prep St.mvL St.mv SV.re1 rnOk St.prEq vals eqCells scEq Value.kd St.prStr St.prCut cutR St.bnd St.prMin St.bld isShift outL retL outJ oR SV.upq SV.isSl SV.shut St.deepK St.dpArg St.deepQ absC Ob.pl St.ev St.get St.put St.new St.kill SV.kill SV.kill1 Ob.kill St.app St.wrt St.rowsOf St.res St.killL lk er argsL SV.strip SV.need SV.share SV.share1 SV.owns SV.owns1 SV.owns2 SV.good SV.good1 SV.rok SV.rok1 SV.rok2 SV.isV SV.isV2 nodupN SV.cells SV.one SV.pur Ob.pb partsIn rowsIn splice cellsAt dstOk scal2 scal1 thenK blockK retK outK outs okC okL okA okT nilC nilL nilA nilT keepC keepL keepA keepT St.runG St.dltK St.least St.clean St.final St.hide offK badS badO SV.refs SV.leaf SV.leaf2 Ob.refs dlOk fpAt Go.Vc.cover tups SV.ofAgg St.out outC subL St.has rng wr Value.oneCell' Option.isSome_some Option.isSome_none List.nil_append Bool.false_eq_true List.map_cons List.map_nil List.all_cons List.all_nil List.length_cons List.length_nil List.drop_zero List.drop_succ_cons List.take_succ_cons List.take_zero List.drop_nil List.take_nil List.getElem?_cons_zero List.getElem?_cons_succ List.getElem?_nil List.cons_append List.nil_append List.append_nil List.append_assoc List.flatMap_cons List.flatMap_nil List.contains_cons List.contains_nil List.set_cons_zero List.set_cons_succ List.getElem?_toArray Option.getD_some Option.getD_none Option.map_some Option.map_none Option.bind_some Option.some.injEq Prod.mk.injEq if_true if_false true_and and_true and_self and_false false_and Bool.and_false Bool.false_and Bool.or_true Bool.true_or Bool.or_false Bool.false_or ne_eq not_true_eq_false not_false_eq_true decide_true decide_false List.mem_cons List.not_mem_nil List.filter_cons List.filter_nil List.any_cons List.any_nil List.isEmpty_nil List.isEmpty_cons Option.getD_none or_false false_or true_or or_true forall_eq_or_imp forall_eq reduceCtorEq exists_eq exists_eq' exists_eq_left' exists_eq_left exists_eq_right exists_eq_right' imp_self implies_true Bool.and_true Bool.true_and Bool.and_self beq_self_eq_true List.replicate_succ List.replicate_zero forall_const false_implies pickB_or pickB_and beqT beqF Int.toNat_natCast List.length_map List.length_replicate ge_iff_le gt_iff_lt decide_eq_true_eq decide_eq_false_iff_not Bool.and_eq_true Bool.or_eq_true Bool.not_eq_true' Bool.not_eq_false' condG List.toList_toArray Bool.or_eq_false_iff Bool.and_eq_false_iff Int.not_lt Int.not_le beq_iff_eq beq_eq_false_iff_ne bne_iff_ne bne_eq_false_iff_eq ne_eq Bool.not_true Bool.not_false exists_and_left Nat.reduceAdd Nat.reduceLT Nat.reduceLeDiff Nat.reduceEqDiff Nat.reduceMul Nat.reduceSub Nat.reduceGT reduceIte Int.reduceNeg Int.reduceToNat
section
open Go.Vc
set_option linter.unusedSimpArgs false
set_option linter.unusedVariables false
set_option maxHeartbeats 1000000
set_option maxRecDepth 10000
attribute [local irreducible] Go.Vc.WP
attribute [local go_sem] cx0_t cx0_c
attribute [local go_sem] decTok_enc oneTok_f decS_enc oneLine_f line_eta St.fzS addL behind St.runO St.stepO
section
noncomputable def cxLoS : Cx := { P := Tryz.prog, tys := tys, C := [(57, k60), (94, kNameOk), (95, kHasEx3), (96, kExOk)], hty := tysOk, hC := COk.cons c58 (COk.cons cNameOkS (COk.cons cHasExS (COk.cons cExOkS (COk.nil _)))) }
theorem cxLoS_t : cxLoS.tys = tys := rfl
theorem cxLoS_c : cxLoS.C = [(57, k60), (94, kNameOk), (95, kHasEx3), (96, kExOk)] := rfl
attribute [local go_sem] cxLoS_t cxLoS_c k60 kNameOk kHasEx3 kExOk
set_option maxHeartbeats 4000000
theorem cLnOkS : Cn Tryz.prog 45 kLnOk := by
  refine Cn.pur Tryz.func45 (by kernel_rfl) rfl fun d x hx => ?_
  obtain ⟨k, n, A, E⟩ := x
  obtain ⟨hn, hA, hE⟩ := hx
  have hAl := hA.1
  have hEl := hE.1
  simp only at hn hAl hEl hA hE ⊢
  refine Holds.go (c := cxLoS) Tryz.func45 rfl Tryz.results45 Tryz.ntmps45 (by omega) (by simp) rfl ?_
  intro X0 w0
  by_cases hk : 0 ≤ k ∧ k ≤ 7
  · have hk0 := hk.1
    have hk7 := hk.2
    have hh3 := hasEx3_eq hk0 hk7
    by_cases hl : ((A.length : Nat) : Int) ≤ 4
    · (repeat' (first | refine WP.seq ?_ | refine WP.block ?_ | ((first | refine WP.region ?_ | refine WP.condW ?_ | refine WP.ret ?_ | refine WP.exit ?_ | refine WP.skip ?_); simp only [go_sem, hk0, hk7, hl, tyAll]) | ((first | refine WP.drawW 11 (by decide +kernel) (by kernel_rfl) ?_); simp only [go_sem, hk0, hk7, hl, tyAll]) |  refine And.intro ?_ ?_ | intro _))
      all_goals first | omega | skip
      refine WP.loop (fun a : Nat => ⟨[(1, .ptr 1 0 0 0), (3, .v (.int .i64 a))], [(1, .box 68 [.v (.int .i64 k), .v (.string n), .sl 1 (A.map encS), .sl 3 (E.map encTok)])]⟩)
        (fun a => a ≤ A.length ∧ (∀ i (hi : i < A.length), i < a → nameOk A[i] = true) ∧ (A.take a).Nodup ∧ (0 < a → k = 0)) (fun a => A.length - a) 0 (by simp) ?_ ?_
      · (simp only [go_sem, tyAll] <;> (first | rfl | exact ⟨rfl, rfl⟩ | exact ⟨rfl, rfl, rfl⟩ | exact ⟨rfl, rfl, rfl, rfl⟩ | exact ⟨rfl, rfl, rfl, rfl, rfl⟩ | exact ⟨⟨rfl, rfl⟩, rfl⟩ | simp))
      rintro a ⟨ha, hf, hd, hz⟩
      by_cases hlt : a < A.length
      · have hli : (a : Int) < A.length := by omega
        have h1 := rowAt_map encS A a hlt
        have h2 := hA.2 _ (List.getElem_mem hlt)
        cases hnm : nameOk A[a] with
        | false =>
          have hno : decide (LineP ⟨k, n, A, E⟩) = false := decide_eq_false fun q => by rw [q.names _ (List.getElem_mem hlt)] at hnm; cases hnm
          rw [hno]
          (repeat' (first | refine WP.seq ?_ | refine WP.block ?_ | ((first | refine WP.region ?_ | refine WP.condW ?_ | refine WP.ret ?_ | refine WP.exit ?_ | refine WP.skip ?_); simp only [go_sem, hli, h1, encS, hnm, tyAll]) | ((first | refine WP.drawW 11 (by decide +kernel) (by kernel_rfl) ?_); simp only [go_sem, hli, h1, encS, hnm, tyAll]) |  refine And.intro ?_ ?_ | intro _))
          all_goals first | omega | skip
        | true =>
          by_cases h0 : k = 0
          · have h0T : (k = 0) = True := eq_true h0
            (repeat' (first | refine WP.seq ?_ | refine WP.block ?_ | ((first | refine WP.region ?_ | refine WP.condW ?_ | refine WP.ret ?_ | refine WP.exit ?_ | refine WP.skip ?_); simp only [go_sem, hli, h1, encS, hnm, h0T, tyAll]) | ((first | refine WP.drawW 11 (by decide +kernel) (by kernel_rfl) ?_); simp only [go_sem, hli, h1, encS, hnm, h0T, tyAll]) |  refine And.intro ?_ ?_ | intro _))
            all_goals first | omega | skip
            refine WP.loop (fun j : Nat => ⟨[(1, .ptr 1 0 0 0), (3, .v (.int .i64 a)), (4, .v (.int .i64 j))], [(1, .box 68 [.v (.int .i64 k), .v (.string n), .sl 1 (A.map encS), .sl 3 (E.map encTok)])]⟩)
              (fun j => j ≤ a ∧ ∀ i (hi : i < A.length), i < j → A[i] ≠ A[a]) (fun j => a - j) 0 (by simp) ?_ ?_
            · (simp only [go_sem, tyAll] <;> (first | rfl | exact ⟨rfl, rfl⟩ | exact ⟨rfl, rfl, rfl⟩ | exact ⟨rfl, rfl, rfl, rfl⟩ | exact ⟨rfl, rfl, rfl, rfl, rfl⟩ | exact ⟨⟨rfl, rfl⟩, rfl⟩ | simp))
            rintro j ⟨hj, hg⟩
            by_cases hja : j < a
            · have hji : (j : Int) < a := by omega
              have hjl : j < A.length := by omega
              have hjli : (j : Int) < A.length := by omega
              have h3 := rowAt_map encS A j hjl
              by_cases he : A[j] = A[a]
              · have hno : decide (LineP ⟨k, n, A, E⟩) = false := decide_eq_false fun q => nodup_no hlt (by rw [← he, List.mem_take_iff_getElem]; exact ⟨j, by omega, rfl⟩) q.apart
                rw [hno]
                (repeat' (first | refine WP.seq ?_ | refine WP.block ?_ | ((first | refine WP.region ?_ | refine WP.condW ?_ | refine WP.ret ?_ | refine WP.exit ?_ | refine WP.skip ?_); simp only [go_sem, hji, hjli, hli, h1, h3, encS, he, tyAll]) | ((first | refine WP.drawW 11 (by decide +kernel) (by kernel_rfl) ?_); simp only [go_sem, hji, hjli, hli, h1, h3, encS, he, tyAll]) |  refine And.intro ?_ ?_ | intro _))
                all_goals first | omega | skip
              · have hnx : ∀ i (hi : i < A.length), i < j + 1 → A[i] ≠ A[a] := fun i hi hij => by
                  rcases Nat.lt_or_ge i j with q | q
                  · exact hg i hi q
                  · have : i = j := by omega
                    subst this; exact he
                (repeat' (first | refine WP.seq ?_ | refine WP.block ?_ | ((first | refine WP.region ?_ | refine WP.condW ?_ | refine WP.ret ?_ | refine WP.exit ?_ | refine WP.skip ?_); simp only [go_sem, hji, hjli, hli, h1, h3, encS, he, tyAll]) | ((first | refine WP.drawW 11 (by decide +kernel) (by kernel_rfl) ?_); simp only [go_sem, hji, hjli, hli, h1, h3, encS, he, tyAll]) |  refine And.intro ?_ ?_ | intro _))
                all_goals first | omega | exact ⟨j + 1, ⟨by omega, hnx⟩, by omega, by (first | rfl | exact ⟨rfl, rfl⟩ | exact ⟨rfl, rfl, rfl⟩ | exact ⟨rfl, rfl, rfl, rfl⟩ | exact ⟨rfl, rfl, rfl, rfl, rfl⟩ | exact ⟨⟨rfl, rfl⟩, rfl⟩ | simp)⟩ | skip
            · have hjge : ¬ (j : Int) < a := by omega
              have hnm2 : A[a] ∉ A.take a := fun hm => by
                obtain ⟨i, hi, hia⟩ := List.mem_take_iff_getElem.1 hm
                exact hg i (by omega) (by omega) hia
              have hnx : ∀ i (hi : i < A.length), i < a + 1 → nameOk A[i] = true := fun i hi hik => by
                rcases Nat.lt_or_ge i a with q | q
                · exact hf i hi q
                · have : i = a := by omega
                  subst this; exact hnm
              (repeat' (first | refine WP.seq ?_ | refine WP.block ?_ | ((first | refine WP.region ?_ | refine WP.condW ?_ | refine WP.ret ?_ | refine WP.exit ?_ | refine WP.skip ?_); simp only [go_sem, hjge, tyAll]) | ((first | refine WP.drawW 11 (by decide +kernel) (by kernel_rfl) ?_); simp only [go_sem, hjge, tyAll]) |  refine And.intro ?_ ?_ | intro _))
              all_goals first | omega | exact ⟨a + 1, ⟨by omega, hnx, nodup_take hlt hd hnm2, fun _ => h0⟩, by omega, by (first | rfl | exact ⟨rfl, rfl⟩ | exact ⟨rfl, rfl, rfl⟩ | exact ⟨rfl, rfl, rfl, rfl⟩ | exact ⟨rfl, rfl, rfl, rfl, rfl⟩ | exact ⟨⟨rfl, rfl⟩, rfl⟩ | simp)⟩ | exact ⟨a + 1, ⟨by omega, hnx, nodup_take hlt hd hnm2⟩, by omega, by (first | rfl | exact ⟨rfl, rfl⟩ | exact ⟨rfl, rfl, rfl⟩ | exact ⟨rfl, rfl, rfl, rfl⟩ | exact ⟨rfl, rfl, rfl, rfl, rfl⟩ | exact ⟨⟨rfl, rfl⟩, rfl⟩ | simp)⟩ | skip
          · have hno : decide (LineP ⟨k, n, A, E⟩) = false := decide_eq_false fun q => by have := q.noArgs h0; simp only at this; rw [this] at hlt; exact absurd hlt (by simp)
            rw [hno]
            (repeat' (first | refine WP.seq ?_ | refine WP.block ?_ | ((first | refine WP.region ?_ | refine WP.condW ?_ | refine WP.ret ?_ | refine WP.exit ?_ | refine WP.skip ?_); simp only [go_sem, hli, h1, encS, hnm, h0, tyAll]) | ((first | refine WP.drawW 11 (by decide +kernel) (by kernel_rfl) ?_); simp only [go_sem, hli, h1, encS, hnm, h0, tyAll]) |  refine And.intro ?_ ?_ | intro _))
            all_goals first | omega | skip
      · have hge : ¬ (a : Int) < A.length := by omega
        have hap : ArgsP A := ⟨fun s hs => by
          obtain ⟨i, hi, rfl⟩ := List.mem_iff_getElem.1 hs
          exact hf i hi (by omega), by rwa [List.take_of_length_le (by omega)] at hd, by omega⟩
        have hk00 : k ≠ 0 → A = [] := fun h => by
          apply List.eq_nil_of_length_eq_zero
          rcases Nat.eq_zero_or_pos A.length with q | q
          · exact q
          · exact absurd (hz (by omega)) h
        clear hf hd hz
        cases hex : hasEx k with
        | true =>
          rw [hex] at hh3
          by_cases h01 : k = 0 ∨ k = 1
          · cases hnm : nameOk n with
            | false =>
              have hno : decide (LineP ⟨k, n, A, E⟩) = false := decide_eq_false fun q => by rw [q.name h01] at hnm; cases hnm
              rw [hno]
              (repeat' (first | refine WP.seq ?_ | refine WP.block ?_ | ((first | refine WP.region ?_ | refine WP.condW ?_ | refine WP.ret ?_ | refine WP.exit ?_ | refine WP.skip ?_); simp only [go_sem, hge, h01, hnm, tyAll]) | ((first | refine WP.drawW 11 (by decide +kernel) (by kernel_rfl) ?_); simp only [go_sem, hge, h01, hnm, tyAll]) |  refine And.intro ?_ ?_ | intro _))
              all_goals first | omega | skip
            | true =>
              have he : decide (LineP ⟨k, n, A, E⟩) = exprOk E := decide_bool ⟨fun q => q.expr hex, fun q => ⟨hk, hap.2.2, hap.1, hap.2.1, hk00, fun _ => hnm, fun h => absurd h01 h, fun _ => q, fun h => by rw [hex] at h; cases h⟩⟩
              rw [he]
              (repeat' (first | refine WP.seq ?_ | refine WP.block ?_ | ((first | refine WP.region ?_ | refine WP.condW ?_ | refine WP.ret ?_ | refine WP.exit ?_ | refine WP.skip ?_); simp only [go_sem, hge, h01, hnm, hh3, tyAll]) | ((first | refine WP.drawW 11 (by decide +kernel) (by kernel_rfl) ?_); simp only [go_sem, hge, h01, hnm, hh3, tyAll]) |  refine And.intro ?_ ?_ | intro _))
              all_goals first | omega | exact hE | exact hE.2 _ ‹_› | skip
          · have h0 : ¬ k = 0 := fun e => h01 (.inl e)
            have h1 : ¬ k = 1 := fun e => h01 (.inr e)
            by_cases hne : n = ⟨#[]⟩
            · have he : decide (LineP ⟨k, n, A, E⟩) = exprOk E := decide_bool ⟨fun q => q.expr hex, fun q => ⟨hk, hap.2.2, hap.1, hap.2.1, hk00, fun h => absurd h h01, fun _ => hne, fun _ => q, fun h => by rw [hex] at h; cases h⟩⟩
              have hneT : (n = ⟨#[]⟩) = True := eq_true hne
              rw [he]
              (repeat' (first | refine WP.seq ?_ | refine WP.block ?_ | ((first | refine WP.region ?_ | refine WP.condW ?_ | refine WP.ret ?_ | refine WP.exit ?_ | refine WP.skip ?_); simp only [go_sem, hge, h0, h1, hneT, hh3, tyAll]) | ((first | refine WP.drawW 11 (by decide +kernel) (by kernel_rfl) ?_); simp only [go_sem, hge, h0, h1, hneT, hh3, tyAll]) |  refine And.intro ?_ ?_ | intro _))
              all_goals first | omega | exact hE | exact hE.2 _ ‹_› | skip
            · have hno : decide (LineP ⟨k, n, A, E⟩) = false := decide_eq_false fun q => hne (q.noName h01)
              rw [hno]
              (repeat' (first | refine WP.seq ?_ | refine WP.block ?_ | ((first | refine WP.region ?_ | refine WP.condW ?_ | refine WP.ret ?_ | refine WP.exit ?_ | refine WP.skip ?_); simp only [go_sem, hge, h0, h1, hne, tyAll]) | ((first | refine WP.drawW 11 (by decide +kernel) (by kernel_rfl) ?_); simp only [go_sem, hge, h0, h1, hne, tyAll]) |  refine And.intro ?_ ?_ | intro _))
              all_goals first | omega | skip
        | false =>
          rw [hex] at hh3
          have hl0 := len0_eq E
          by_cases h01 : k = 0 ∨ k = 1
          · cases hnm : nameOk n with
            | false =>
              have hno : decide (LineP ⟨k, n, A, E⟩) = false := decide_eq_false fun q => by rw [q.name h01] at hnm; cases hnm
              rw [hno]
              (repeat' (first | refine WP.seq ?_ | refine WP.block ?_ | ((first | refine WP.region ?_ | refine WP.condW ?_ | refine WP.ret ?_ | refine WP.exit ?_ | refine WP.skip ?_); simp only [go_sem, hge, h01, hnm, tyAll]) | ((first | refine WP.drawW 11 (by decide +kernel) (by kernel_rfl) ?_); simp only [go_sem, hge, h01, hnm, tyAll]) |  refine And.intro ?_ ?_ | intro _))
              all_goals first | omega | skip
            | true =>
              have he : decide (LineP ⟨k, n, A, E⟩) = decide (E = []) := decide_eq_decide.2 ⟨fun q => q.noExpr hex, fun q => ⟨hk, hap.2.2, hap.1, hap.2.1, hk00, fun _ => hnm, fun h => absurd h01 h, fun h => (by rw [hex] at h; cases h), fun _ => q⟩⟩
              rw [he]
              (repeat' (first | refine WP.seq ?_ | refine WP.block ?_ | ((first | refine WP.region ?_ | refine WP.condW ?_ | refine WP.ret ?_ | refine WP.exit ?_ | refine WP.skip ?_); simp only [go_sem, hge, h01, hnm, hh3, hl0, tyAll]) | ((first | refine WP.drawW 11 (by decide +kernel) (by kernel_rfl) ?_); simp only [go_sem, hge, h01, hnm, hh3, hl0, tyAll]) |  refine And.intro ?_ ?_ | intro _))
              all_goals first | omega | exact hE | exact hE.2 _ ‹_› | skip
          · have h0 : ¬ k = 0 := fun e => h01 (.inl e)
            have h1 : ¬ k = 1 := fun e => h01 (.inr e)
            by_cases hne : n = ⟨#[]⟩
            · have he : decide (LineP ⟨k, n, A, E⟩) = decide (E = []) := decide_eq_decide.2 ⟨fun q => q.noExpr hex, fun q => ⟨hk, hap.2.2, hap.1, hap.2.1, hk00, fun h => absurd h h01, fun _ => hne, fun h => (by rw [hex] at h; cases h), fun _ => q⟩⟩
              have hneT : (n = ⟨#[]⟩) = True := eq_true hne
              rw [he]
              (repeat' (first | refine WP.seq ?_ | refine WP.block ?_ | ((first | refine WP.region ?_ | refine WP.condW ?_ | refine WP.ret ?_ | refine WP.exit ?_ | refine WP.skip ?_); simp only [go_sem, hge, h0, h1, hneT, hh3, hl0, tyAll]) | ((first | refine WP.drawW 11 (by decide +kernel) (by kernel_rfl) ?_); simp only [go_sem, hge, h0, h1, hneT, hh3, hl0, tyAll]) |  refine And.intro ?_ ?_ | intro _))
              all_goals first | omega | exact hE | exact hE.2 _ ‹_› | skip
            · have hno : decide (LineP ⟨k, n, A, E⟩) = false := decide_eq_false fun q => hne (q.noName h01)
              rw [hno]
              (repeat' (first | refine WP.seq ?_ | refine WP.block ?_ | ((first | refine WP.region ?_ | refine WP.condW ?_ | refine WP.ret ?_ | refine WP.exit ?_ | refine WP.skip ?_); simp only [go_sem, hge, h0, h1, hne, tyAll]) | ((first | refine WP.drawW 11 (by decide +kernel) (by kernel_rfl) ?_); simp only [go_sem, hge, h0, h1, hne, tyAll]) |  refine And.intro ?_ ?_ | intro _))
              all_goals first | omega | skip
    · have hno : decide (LineP ⟨k, n, A, E⟩) = false := decide_eq_false fun q => by have := q.few; simp only at this; omega
      have hl' : (4 : Int) < A.length := by omega
      rw [hno]
      (repeat' (first | refine WP.seq ?_ | refine WP.block ?_ | ((first | refine WP.region ?_ | refine WP.condW ?_ | refine WP.ret ?_ | refine WP.exit ?_ | refine WP.skip ?_); simp only [go_sem, hk0, hk7, hl', tyAll]) | ((first | refine WP.drawW 11 (by decide +kernel) (by kernel_rfl) ?_); simp only [go_sem, hk0, hk7, hl', tyAll]) |  refine And.intro ?_ ?_ | intro _))
      all_goals first | omega | skip
  · have hno : decide (LineP ⟨k, n, A, E⟩) = false := decide_eq_false fun q => hk q.kind
    have hb : (decide (0 ≤ k) && decide (k ≤ 7)) = false := by simp; omega
    rw [hno]
    (repeat' (first | refine WP.seq ?_ | refine WP.block ?_ | ((first | refine WP.region ?_ | refine WP.condW ?_ | refine WP.ret ?_ | refine WP.exit ?_ | refine WP.skip ?_); simp only [go_sem, hb, tyAll]) | ((first | refine WP.drawW 11 (by decide +kernel) (by kernel_rfl) ?_); simp only [go_sem, hb, tyAll]) |  refine And.intro ?_ ?_ | intro _))
    all_goals first | omega | skip
end
end
section
open Go.Vc
set_option linter.unusedSimpArgs false
set_option linter.unusedVariables false
set_option maxHeartbeats 1000000
set_option maxRecDepth 10000
attribute [local irreducible] Go.Vc.WP
attribute [local go_sem] cx0_t cx0_c
def fl74b376e2f6 : List Go.Vc.Fp := [⟨[], [], [], [], [], []⟩, ⟨[1], [], [], [], [], []⟩, ⟨[8], [1], [], [], [], []⟩, ⟨[], [0, 1, 2], [], [], [], []⟩, ⟨[], [0, 1, 2, 3], [], [], [], []⟩, ⟨[], [0, 1, 2, 3, 4], [], [], [], []⟩, ⟨[], [0, 1, 2, 3, 4, 5], [], [], [], []⟩]
def flb18b91f8f5 : List Go.Vc.Fp := [⟨[], [], [], [], [], [8]⟩, ⟨[1], [], [], [8], [], []⟩, ⟨[9], [1], [], [8], [], []⟩, ⟨[], [0, 1, 2], [], [], [], []⟩, ⟨[], [0, 1, 2, 3], [], [], [], []⟩, ⟨[], [0, 1, 2, 3, 4], [], [], [], []⟩]
attribute [local go_sem] fl74b376e2f6 flb18b91f8f5
attribute [local go_sem] decTok_enc oneTok_f decS_enc oneLine_f line_eta St.fzS addL behind St.runO St.stepO
def kwS : List ByteArray := [⟨#[102, 117, 110]⟩, ⟨#[115, 101, 116]⟩, ⟨#[111, 117, 116]⟩, ⟨#[105, 102]⟩, ⟨#[101, 108, 115, 101]⟩, ⟨#[119, 104, 105, 108, 101]⟩, ⟨#[114, 101, 116, 117, 114, 110]⟩, ⟨#[101, 110, 100]⟩]
def kWords0 : Ctr := pur (fun _ => ()) (fun _ => []) (fun _ => True) (fun d _ => .own d) (fun d _ => [(d, .sl 9 1 (kwS.map encS))])
def kWords : Ctr := pur (fun _ => ()) (fun _ => []) (fun _ => True) (fun _ _ => .sl 1 (kwS.map encS)) (fun _ _ => [])
theorem kwS_rows : kwS.map encS = [[.v (.string ⟨#[102, 117, 110]⟩)], [.v (.string ⟨#[115, 101, 116]⟩)], [.v (.string ⟨#[111, 117, 116]⟩)], [.v (.string ⟨#[105, 102]⟩)], [.v (.string ⟨#[101, 108, 115, 101]⟩)], [.v (.string ⟨#[119, 104, 105, 108, 101]⟩)], [.v (.string ⟨#[114, 101, 116, 117, 114, 110]⟩)], [.v (.string ⟨#[101, 110, 100]⟩)]] := rfl
theorem allV_S' (L : List ByteArray) : allV (L.map encS) := fun row hr c hc => by
  obtain ⟨x, _, rfl⟩ := List.mem_map.1 hr
  simp only [encS, List.mem_cons, List.not_mem_nil, or_false] at hc
  exact ⟨_, hc⟩
theorem cWordsI0 : Cn Tryz.prog 75 kWords0 := by
  refine Cn.pur Tryz.func75 (by kernel_rfl) rfl fun d x hx => ?_
  refine Holds.go (c := cx0) Tryz.func75 rfl Tryz.results75 Tryz.ntmps75 (by omega) (by simp) rfl ?_
  intro X0 w0
  rw [kwS_rows]
  (repeat' (first | refine WP.seq ?_ | refine WP.block ?_ | ((first | refine WP.region ?_ | refine WP.condW ?_ | refine WP.ret ?_ | refine WP.exit ?_ | refine WP.skip ?_); simp only [go_sem, tyAll]) |  refine And.intro ?_ ?_ | intro _))
  all_goals first | omega | exact ⟨_, _, rfl⟩ | skip
theorem cWordsS0 : Cn Tryz.prog 61 kWords0 := by
  refine Cn.pur Tryz.func61 (by kernel_rfl) rfl fun d x hx => ?_
  refine Holds.go (c := cx0) Tryz.func61 rfl Tryz.results61 Tryz.ntmps61 (by omega) (by simp) rfl ?_
  intro X0 w0
  rw [kwS_rows]
  (repeat' (first | refine WP.seq ?_ | refine WP.block ?_ | ((first | refine WP.region ?_ | refine WP.condW ?_ | refine WP.ret ?_ | refine WP.exit ?_ | refine WP.skip ?_); simp only [go_sem, tyAll]) |  refine And.intro ?_ ?_ | intro _))
  all_goals first | omega | exact ⟨_, _, rfl⟩ | skip
theorem cWordsI : Cn Tryz.prog 75 kWords := Cn.frozen (fun _ => allV_S' _) cWordsI0
theorem cWordsS : Cn Tryz.prog 61 kWords := Cn.frozen (fun _ => allV_S' _) cWordsS0
theorem kwS_get {j : Nat} (h : j < kwS.length) : kwS[j] = bts (kw j) := by
  have h8 : j < 8 := h
  have : j = 0 ∨ j = 1 ∨ j = 2 ∨ j = 3 ∨ j = 4 ∨ j = 5 ∨ j = 6 ∨ j = 7 := by omega
  rcases this with rfl | rfl | rfl | rfl | rfl | rfl | rfl | rfl <;> rfl
theorem decS_cons (s : ByteArray) (R : List (List SV)) : decS ([.v (.string s)] :: R) = s :: decS R := rfl
theorem decS_app (R T : List (List SV)) : decS (R ++ T) = decS R ++ decS T := List.map_append
theorem decS_nil : decS [] = [] := rfl
theorem joinL_in (c : UInt8) : ∀ (A B : List (List UInt8)), B ≠ [] → joinL c (A ++ [joinL c B]) = joinL c (A ++ B)
  | [], B, _ => rfl
  | [x], B, h => by
    cases B with
    | nil => exact absurd rfl h
    | cons b l => rfl
  | x :: y :: A, B, h => by
    have ih := joinL_in c (y :: A) B h
    show x ++ c :: joinL c (y :: A ++ [joinL c B]) = x ++ c :: joinL c (y :: A ++ B)
    rw [ih]
def kFmtL : Ctr := pur (fun args => oneLine (aC args 0)) (fun x => [.agg [.v (.int .i64 x.kind), .v (.string x.name), .sl 1 (x.args.map encS), .sl 3 (x.expr.map encTok)]]) smLine (fun _ x => .v (.string (fmtLine x))) (fun _ _ => [])
theorem fmtLine_bad {x : Line} (h : ¬ LineP x) : fmtLine x = ⟨#[]⟩ := if_neg h
theorem smLine_get {x : Line} (h : smLine x) : x.name.size ≤ 1048576 ∧ x.args.length ≤ 1048576 ∧ smToks x.expr := ⟨h.1, h.2.1.1, h.2.2⟩
theorem args_small {x : Line} (h : LineP x) : x.args.length ≤ 4 := h.few
section
attribute [local irreducible] smLine smToks
attribute [local go_sem] decS_cons decS_app decS_nil
noncomputable def cxFlI : Cx := { P := Tryz.prog, tys := tys, C := [(67, kLnOk), (75, kWords), (76, kFmtE), (77, kJoin)], hty := tysOk, hC := COk.cons cLnOkI (COk.cons cWordsI (COk.cons cFmtEI (COk.cons cJoin (COk.nil _)))) }
theorem cxFlI_t : cxFlI.tys = tys := rfl
theorem cxFlI_c : cxFlI.C = [(67, kLnOk), (75, kWords), (76, kFmtE), (77, kJoin)] := rfl
attribute [local go_sem] cxFlI_t cxFlI_c kLnOk kWords kFmtE kJoin
set_option maxHeartbeats 4000000
theorem cFmtLI : Cn Tryz.prog 34 kFmtL := by
  refine Cn.pur Tryz.func34 (by kernel_rfl) rfl fun d x hx => ?_
  obtain ⟨k, n, A, E⟩ := x
  have hsm : smLine ⟨k, n, A, E⟩ := hx
  obtain ⟨hn, hAl, hE⟩ := smLine_get hx
  simp only at hn hAl hE ⊢
  refine Holds.go (c := cxFlI) Tryz.func34 rfl Tryz.results34 Tryz.ntmps34 (by omega) (by simp) rfl ?_
  intro X0 w0
  by_cases hp : LineP ⟨k, n, A, E⟩
  · have hpT : decide (LineP ⟨k, n, A, E⟩) = true := decide_eq_true hp
    obtain ⟨j, rfl⟩ : ∃ j : Nat, k = j := ⟨k.toNat, by have := hp.kind.1; simp only at this; omega⟩
    have hj8 : j < kwS.length := by have := hp.kind.2; simp only at this; show j < 8; omega
    have hj8i : (j : Int) < kwS.length := by omega
    have h1 := rowAt_map encS kwS j hj8
    rw [kwS_get hj8] at h1
    have hA4 := args_small hp
    simp only at hA4
    have hlen := line_len' hp
    rw [fmtLine_ok hp]
    have e32 : (⟨#[32]⟩ : ByteArray)[0]! = 32 := rfl
    have z32 : ByteArray.size ⟨#[32]⟩ = 1 := rfl
    have hbt := bts_toL (kw j)
    by_cases hne : n = ⟨#[]⟩
    · have hneT : (n = ⟨#[]⟩) = True := eq_true hne
      by_cases hE0 : E = []
      · have hl0 : (E.length : Int) = 0 := by rw [hE0]; rfl
        have hj : joinL 32 (kw j :: A.map (·.data.toList)) = joinL 32 (wordsL ⟨j, n, A, E⟩) := by
          unfold wordsL nameW; rw [if_pos hne, hE0]; simp
        (repeat' (first | refine WP.seq ?_ | refine WP.block ?_ | ((first | refine WP.region ?_ | refine WP.condW ?_ | refine WP.ret ?_ | refine WP.exit ?_ | refine WP.skip ?_); simp only [go_sem, hpT, hj8i, h1, encS, hneT, hl0, e32, z32, hj, hbt, tyAll]) | ((first | refine WP.flowW 3 fl74b376e2f6 [7, 8, 9] [] [] (by decide +kernel) (by kernel_rfl) (by kernel_rfl) (by kernel_rfl) ?_); simp only [go_sem, hpT, hj8i, h1, encS, hneT, hl0, e32, z32, hj, hbt, tyAll]) |  refine And.intro ?_ ?_ | intro _))
        all_goals first | omega | exact hsm | exact hE | rfl | exact hj8 | (obtain ⟨_, _, rfl⟩ := List.mem_map.1 ‹_›; rfl) | skip
      · have hl0 : (0 : Int) < E.length := by have := List.length_pos_iff.2 hE0; omega
        have hex : hasEx j = true := by
          cases hh : hasEx j with
          | true => rfl
          | false => exact absurd (hp.noExpr hh) hE0
        have hfe := fmtExpr_ok (hp.expr hex)
        simp only at hfe
        have hj : joinL 32 (kw j :: (A.map (·.data.toList) ++ [joinL 32 (E.map tokL)])) = joinL 32 (wordsL ⟨j, n, A, E⟩) := by
          have h3 := joinL_in 32 (kw j :: A.map (·.data.toList)) (E.map tokL) (by simpa using hE0)
          unfold wordsL nameW; rw [if_pos hne]; simpa using h3
        have hbt2 := bts_toL (joinL 32 (E.map tokL))
        (repeat' (first | refine WP.seq ?_ | refine WP.block ?_ | ((first | refine WP.region ?_ | refine WP.condW ?_ | refine WP.ret ?_ | refine WP.exit ?_ | refine WP.skip ?_); simp only [go_sem, hpT, hj8i, h1, encS, hneT, hl0, e32, z32, hj, hbt, hfe, hbt2, List.map_append, List.length_append, tyAll]) | ((first | refine WP.flowW 3 fl74b376e2f6 [7, 8, 9] [] [] (by decide +kernel) (by kernel_rfl) (by kernel_rfl) (by kernel_rfl) ?_); simp only [go_sem, hpT, hj8i, h1, encS, hneT, hl0, e32, z32, hj, hbt, hfe, hbt2, List.map_append, List.length_append, tyAll]) |  refine And.intro ?_ ?_ | intro _))
        all_goals first | omega | exact hsm | exact hE | rfl | exact hj8 | (obtain ⟨_, _, rfl⟩ := List.mem_map.1 ‹_›; rfl) | skip
    · by_cases hE0 : E = []
      · have hl0 : (E.length : Int) = 0 := by rw [hE0]; rfl
        have hj : joinL 32 (kw j :: n.data.toList :: A.map (·.data.toList)) = joinL 32 (wordsL ⟨j, n, A, E⟩) := by
          unfold wordsL nameW; rw [if_neg hne, hE0]; simp
        (repeat' (first | refine WP.seq ?_ | refine WP.block ?_ | ((first | refine WP.region ?_ | refine WP.condW ?_ | refine WP.ret ?_ | refine WP.exit ?_ | refine WP.skip ?_); simp only [go_sem, hpT, hj8i, h1, encS, hne, hl0, e32, z32, hj, hbt, tyAll]) | ((first | refine WP.flowW 3 fl74b376e2f6 [7, 8, 9] [] [] (by decide +kernel) (by kernel_rfl) (by kernel_rfl) (by kernel_rfl) ?_); simp only [go_sem, hpT, hj8i, h1, encS, hne, hl0, e32, z32, hj, hbt, tyAll]) |  refine And.intro ?_ ?_ | intro _))
        all_goals first | omega | exact hsm | exact hE | rfl | exact hj8 | (obtain ⟨_, _, rfl⟩ := List.mem_map.1 ‹_›; rfl) | skip
      · have hl0 : (0 : Int) < E.length := by have := List.length_pos_iff.2 hE0; omega
        have hex : hasEx j = true := by
          cases hh : hasEx j with
          | true => rfl
          | false => exact absurd (hp.noExpr hh) hE0
        have hfe := fmtExpr_ok (hp.expr hex)
        simp only at hfe
        have hj : joinL 32 (kw j :: n.data.toList :: (A.map (·.data.toList) ++ [joinL 32 (E.map tokL)])) = joinL 32 (wordsL ⟨j, n, A, E⟩) := by
          have h3 := joinL_in 32 (kw j :: n.data.toList :: A.map (·.data.toList)) (E.map tokL) (by simpa using hE0)
          unfold wordsL nameW; rw [if_neg hne]; simpa using h3
        have hbt2 := bts_toL (joinL 32 (E.map tokL))
        (repeat' (first | refine WP.seq ?_ | refine WP.block ?_ | ((first | refine WP.region ?_ | refine WP.condW ?_ | refine WP.ret ?_ | refine WP.exit ?_ | refine WP.skip ?_); simp only [go_sem, hpT, hj8i, h1, encS, hne, hl0, e32, z32, hj, hbt, hfe, hbt2, List.map_append, List.length_append, tyAll]) | ((first | refine WP.flowW 3 fl74b376e2f6 [7, 8, 9] [] [] (by decide +kernel) (by kernel_rfl) (by kernel_rfl) (by kernel_rfl) ?_); simp only [go_sem, hpT, hj8i, h1, encS, hne, hl0, e32, z32, hj, hbt, hfe, hbt2, List.map_append, List.length_append, tyAll]) |  refine And.intro ?_ ?_ | intro _))
        all_goals first | omega | exact hsm | exact hE | rfl | exact hj8 | (obtain ⟨_, _, rfl⟩ := List.mem_map.1 ‹_›; rfl) | skip
  · have hpF : decide (LineP ⟨k, n, A, E⟩) = false := decide_eq_false hp
    rw [fmtLine_bad hp]
    (repeat' (first | refine WP.seq ?_ | refine WP.block ?_ | ((first | refine WP.region ?_ | refine WP.condW ?_ | refine WP.ret ?_ | refine WP.exit ?_ | refine WP.skip ?_); simp only [go_sem, hpF, tyAll]) | ((first | refine WP.flowW 3 fl74b376e2f6 [7, 8, 9] [] [] (by decide +kernel) (by kernel_rfl) (by kernel_rfl) (by kernel_rfl) ?_); simp only [go_sem, hpF, tyAll]) |  refine And.intro ?_ ?_ | intro _))
    all_goals first | omega | exact hsm | exact hj8 | skip
end
section
attribute [local irreducible] smLine smToks
theorem joinA_take (P : List (List UInt8)) (hP : P ≠ []) (A : List ByteArray) (k : Nat) (hk : k < A.length) : bts (joinL 32 (P ++ (A.take (k + 1)).map (·.data.toList))) = bts (joinL 32 (P ++ (A.take k).map (·.data.toList))) ++ ⟨#[32]⟩ ++ A[k] := by
  rw [List.take_succ_eq_append_getElem hk, List.map_append, List.map_cons, List.map_nil, ← List.append_assoc, joinL_snoc, if_neg (by simp [hP]), show (⟨#[32]⟩ : ByteArray) = bts [32] from rfl, bts_append]
  conv => rhs; rw [← bts_list A[k], bts_append]
  congr 1
  simp
theorem joinE_end (P : List (List UInt8)) (hP : P ≠ []) (E : List Tok) (hE : E ≠ []) : bts (joinL 32 P) ++ ⟨#[32]⟩ ++ bts (joinL 32 (E.map tokL)) = bts (joinL 32 (P ++ E.map tokL)) := by
  rw [← joinL_in 32 P (E.map tokL) (by simpa using hE), joinL_snoc, if_neg hP, show (⟨#[32]⟩ : ByteArray) = bts [32] from rfl, bts_append, bts_append]
  congr 1
  simp
theorem joinL_part (c : UInt8) : ∀ (A B : List (List UInt8)), (joinL c A).length ≤ (joinL c (A ++ B)).length
  | [], B => by simp [joinL]
  | [x], [] => by simp
  | [x], b :: B => by simp [joinL]
  | x :: y :: A, B => by
    have ih := joinL_part c (y :: A) B
    show (x ++ c :: joinL c (y :: A)).length ≤ (x ++ c :: joinL c (y :: A ++ B)).length
    simp only [List.length_append, List.length_cons] at ih ⊢
    omega
theorem joinL_two (c : UInt8) (x y : List UInt8) : joinL c [x, y] = x ++ c :: y := rfl
noncomputable def cxFlS : Cx := { P := Tryz.prog, tys := tys, C := [(45, kLnOk), (61, kWords), (62, kFmtE)], hty := tysOk, hC := COk.cons cLnOkS (COk.cons cWordsS (COk.cons cFmtES (COk.nil _))) }
theorem cxFlS_t : cxFlS.tys = tys := rfl
theorem cxFlS_c : cxFlS.C = [(45, kLnOk), (61, kWords), (62, kFmtE)] := rfl
attribute [local go_sem] cxFlS_t cxFlS_c kLnOk kWords kFmtE
set_option maxHeartbeats 4000000
theorem cFmtLS : Cn Tryz.prog 27 kFmtL := by
  refine Cn.pur Tryz.func27 (by kernel_rfl) rfl fun d x hx => ?_
  obtain ⟨k, n, A, E⟩ := x
  have hsm : smLine ⟨k, n, A, E⟩ := hx
  obtain ⟨hn, hAl, hE⟩ := smLine_get hx
  simp only at hn hAl hE ⊢
  refine Holds.go (c := cxFlS) Tryz.func27 rfl Tryz.results27 Tryz.ntmps27 (by omega) (by simp) rfl ?_
  intro X0 w0
  by_cases hp : LineP ⟨k, n, A, E⟩
  · have hpT : decide (LineP ⟨k, n, A, E⟩) = true := decide_eq_true hp
    obtain ⟨j, rfl⟩ : ∃ j : Nat, k = j := ⟨k.toNat, by have := hp.kind.1; simp only at this; omega⟩
    have hj8 : j < kwS.length := by have := hp.kind.2; simp only at this; show j < 8; omega
    have hj8i : (j : Int) < kwS.length := by omega
    have h1 := rowAt_map encS kwS j hj8
    rw [kwS_get hj8] at h1
    have hA4 := args_small hp
    simp only at hA4
    have hlen := line_len' hp
    rw [fmtLine_ok hp]
    have z32 : ByteArray.size ⟨#[32]⟩ = 1 := rfl
    have hkl := (kw_chars (k := (j : Int)) (by omega) (by have := hp.kind.2; simpa using this)).2.2
    rw [← bts_size] at hkl
    obtain ⟨P, hPd⟩ : ∃ P : List (List UInt8), P = kw j :: nameW n := ⟨_, rfl⟩
    have hW : wordsL ⟨j, n, A, E⟩ = (P ++ A.map (·.data.toList)) ++ E.map tokL := by rw [hPd]; unfold wordsL; simp
    have hPl : ∀ a, (bts (joinL 32 (P ++ (A.take a).map (·.data.toList)))).size ≤ 242 := fun a => by
      rw [bts_size]
      refine Nat.le_trans (joinL_part 32 _ ((A.drop a).map (·.data.toList) ++ E.map tokL)) ?_
      rw [← List.append_assoc, List.append_assoc P, ← List.map_append, List.take_append_drop, ← hW]; exact hlen
    have hP0 : P ≠ [] := by rw [hPd]; simp
    have key : ∀ T : ByteArray, T = bts (joinL 32 P) → bts (joinL 32 (P ++ (A.take 0).map (·.data.toList))) = T := fun T h => by rw [h]; simp
    by_cases hne : n = ⟨#[]⟩
    · have hneT : (n = ⟨#[]⟩) = True := eq_true hne
      have hk0 := key (bts (kw j)) (by rw [hPd]; unfold nameW; rw [if_pos hne]; rfl)
      (repeat' (first | refine WP.seq ?_ | refine WP.block ?_ | ((first | refine WP.region ?_ | refine WP.condW ?_ | refine WP.ret ?_ | refine WP.exit ?_ | refine WP.skip ?_); simp only [go_sem, hpT, hj8i, h1, encS, hneT, tyAll]) | ((first | refine WP.drawW 5 (by decide +kernel) (by kernel_rfl) ?_); simp only [go_sem, hpT, hj8i, h1, encS, hneT, tyAll]) |  refine And.intro ?_ ?_ | intro _))
      all_goals first | omega | exact hsm | exact hj8 | skip
      refine WP.loop (fun a : Nat => ⟨[(1, .ptr 1 0 0 0), (3, .v (.string (bts (joinL 32 (P ++ (A.take a).map (·.data.toList)))))), (4, .v (.int .i64 a))], [(1, .box 68 [.v (.int .i64 j), .v (.string n), .sl 1 (A.map encS), .sl 3 (E.map encTok)])]⟩) (fun a => a ≤ A.length) (fun a => A.length - a) 0 (by simp) ?_ ?_
      · rw [hk0]; (simp only [go_sem, tyAll] <;> (first | rfl | exact ⟨rfl, rfl⟩ | exact ⟨rfl, rfl, rfl⟩ | exact ⟨rfl, rfl, rfl, rfl⟩ | exact ⟨rfl, rfl, rfl, rfl, rfl⟩ | exact ⟨⟨rfl, rfl⟩, rfl⟩ | simp))
      intro a ha
      by_cases hlt : a < A.length
      · have hli : (a : Int) < A.length := by omega
        have h3 := rowAt_map encS A a hlt
        have htk := joinA_take P hP0 A a hlt
        have hl1 := hPl a
        have hl2 := hPl (a + 1)
        rw [htk] at hl2
        generalize bts (joinL 32 (P ++ (A.take a).map (·.data.toList))) = T at *
        simp only [ByteArray.size_append, z32] at hl2
        (repeat' (first | refine WP.seq ?_ | refine WP.block ?_ | ((first | refine WP.region ?_ | refine WP.condW ?_ | refine WP.ret ?_ | refine WP.exit ?_ | refine WP.skip ?_); simp only [go_sem, hli, h3, encS, ByteArray.size_append, z32, tyAll]) | ((first | refine WP.flowW 3 flb18b91f8f5 [8, 9, 10] [8] [] (by decide +kernel) (by kernel_rfl) (by kernel_rfl) (by kernel_rfl) ?_); simp only [go_sem, hli, h3, encS, ByteArray.size_append, z32, tyAll]) |  refine And.intro ?_ ?_ | intro _))
        all_goals first | omega | exact ⟨a + 1, by omega, by omega, by rw [htk]; (first | rfl | exact ⟨rfl, rfl⟩ | exact ⟨rfl, rfl, rfl⟩ | exact ⟨rfl, rfl, rfl, rfl⟩ | exact ⟨rfl, rfl, rfl, rfl, rfl⟩ | exact ⟨⟨rfl, rfl⟩, rfl⟩ | simp)⟩ | skip
      · have hge : ¬ (a : Int) < A.length := by omega
        have hl1 := hPl a
        rw [List.take_of_length_le (by omega)] at hl1 ⊢
        by_cases hE0 : E = []
        · have hl0 : (E.length : Int) = 0 := by rw [hE0]; rfl
          have hfin : joinL 32 (P ++ A.map (·.data.toList)) = joinL 32 (wordsL ⟨j, n, A, E⟩) := by rw [hW, hE0]; simp
          rw [hfin]
          (repeat' (first | refine WP.seq ?_ | refine WP.block ?_ | ((first | refine WP.region ?_ | refine WP.condW ?_ | refine WP.ret ?_ | refine WP.exit ?_ | refine WP.skip ?_); simp only [go_sem, hge, hl0, tyAll]) | ((first | refine WP.flowW 3 flb18b91f8f5 [8, 9, 10] [8] [] (by decide +kernel) (by kernel_rfl) (by kernel_rfl) (by kernel_rfl) ?_); simp only [go_sem, hge, hl0, tyAll]) |  refine And.intro ?_ ?_ | intro _))
          all_goals first | omega | skip
        · have hl0 : (0 : Int) < E.length := by have := List.length_pos_iff.2 hE0; omega
          have hex : hasEx j = true := by
            cases hh : hasEx j with
            | true => rfl
            | false => exact absurd (hp.noExpr hh) hE0
          have hfe := fmtExpr_ok (hp.expr hex)
          simp only at hfe
          have hfin := joinE_end (P ++ A.map (·.data.toList)) (by simp [hP0]) E hE0
          rw [← hW] at hfin
          have hs2 : (bts (joinL 32 (E.map tokL))).size ≤ 242 := by
            have : (bts (joinL 32 (wordsL ⟨j, n, A, E⟩))).size ≤ 242 := by rw [bts_size]; exact hlen
            rw [← hfin, ByteArray.size_append, ByteArray.size_append] at this
            omega
          rw [← hfin]
          (repeat' (first | refine WP.seq ?_ | refine WP.block ?_ | ((first | refine WP.region ?_ | refine WP.condW ?_ | refine WP.ret ?_ | refine WP.exit ?_ | refine WP.skip ?_); simp only [go_sem, hge, hl0, hfe, ByteArray.size_append, z32, tyAll]) | ((first | refine WP.flowW 3 flb18b91f8f5 [8, 9, 10] [8] [] (by decide +kernel) (by kernel_rfl) (by kernel_rfl) (by kernel_rfl) ?_); simp only [go_sem, hge, hl0, hfe, ByteArray.size_append, z32, tyAll]) |  refine And.intro ?_ ?_ | intro _))
          all_goals first | omega | exact hE | skip
    · have hk0 := key (bts (kw j) ++ ⟨#[32]⟩ ++ n) (by
        rw [hPd]; unfold nameW; rw [if_neg hne, joinL_two, show (⟨#[32]⟩ : ByteArray) = bts [32] from rfl, bts_append]
        conv => lhs; rw [← bts_list n, bts_append]
        congr 1; simp)
      (repeat' (first | refine WP.seq ?_ | refine WP.block ?_ | ((first | refine WP.region ?_ | refine WP.condW ?_ | refine WP.ret ?_ | refine WP.exit ?_ | refine WP.skip ?_); simp only [go_sem, hpT, hj8i, h1, encS, hne, ByteArray.size_append, z32, tyAll]) | ((first | refine WP.drawW 5 (by decide +kernel) (by kernel_rfl) ?_); simp only [go_sem, hpT, hj8i, h1, encS, hne, ByteArray.size_append, z32, tyAll]) |  refine And.intro ?_ ?_ | intro _))
      all_goals first | omega | exact hsm | exact hj8 | skip
      refine WP.loop (fun a : Nat => ⟨[(1, .ptr 1 0 0 0), (3, .v (.string (bts (joinL 32 (P ++ (A.take a).map (·.data.toList)))))), (4, .v (.int .i64 a))], [(1, .box 68 [.v (.int .i64 j), .v (.string n), .sl 1 (A.map encS), .sl 3 (E.map encTok)])]⟩) (fun a => a ≤ A.length) (fun a => A.length - a) 0 (by simp) ?_ ?_
      · rw [hk0]; (simp only [go_sem, tyAll] <;> (first | rfl | exact ⟨rfl, rfl⟩ | exact ⟨rfl, rfl, rfl⟩ | exact ⟨rfl, rfl, rfl, rfl⟩ | exact ⟨rfl, rfl, rfl, rfl, rfl⟩ | exact ⟨⟨rfl, rfl⟩, rfl⟩ | simp))
      intro a ha
      by_cases hlt : a < A.length
      · have hli : (a : Int) < A.length := by omega
        have h3 := rowAt_map encS A a hlt
        have htk := joinA_take P hP0 A a hlt
        have hl1 := hPl a
        have hl2 := hPl (a + 1)
        rw [htk] at hl2
        generalize bts (joinL 32 (P ++ (A.take a).map (·.data.toList))) = T at *
        simp only [ByteArray.size_append, z32] at hl2
        (repeat' (first | refine WP.seq ?_ | refine WP.block ?_ | ((first | refine WP.region ?_ | refine WP.condW ?_ | refine WP.ret ?_ | refine WP.exit ?_ | refine WP.skip ?_); simp only [go_sem, hli, h3, encS, ByteArray.size_append, z32, tyAll]) | ((first | refine WP.flowW 3 flb18b91f8f5 [8, 9, 10] [8] [] (by decide +kernel) (by kernel_rfl) (by kernel_rfl) (by kernel_rfl) ?_); simp only [go_sem, hli, h3, encS, ByteArray.size_append, z32, tyAll]) |  refine And.intro ?_ ?_ | intro _))
        all_goals first | omega | exact ⟨a + 1, by omega, by omega, by rw [htk]; (first | rfl | exact ⟨rfl, rfl⟩ | exact ⟨rfl, rfl, rfl⟩ | exact ⟨rfl, rfl, rfl, rfl⟩ | exact ⟨rfl, rfl, rfl, rfl, rfl⟩ | exact ⟨⟨rfl, rfl⟩, rfl⟩ | simp)⟩ | skip
      · have hge : ¬ (a : Int) < A.length := by omega
        have hl1 := hPl a
        rw [List.take_of_length_le (by omega)] at hl1 ⊢
        by_cases hE0 : E = []
        · have hl0 : (E.length : Int) = 0 := by rw [hE0]; rfl
          have hfin : joinL 32 (P ++ A.map (·.data.toList)) = joinL 32 (wordsL ⟨j, n, A, E⟩) := by rw [hW, hE0]; simp
          rw [hfin]
          (repeat' (first | refine WP.seq ?_ | refine WP.block ?_ | ((first | refine WP.region ?_ | refine WP.condW ?_ | refine WP.ret ?_ | refine WP.exit ?_ | refine WP.skip ?_); simp only [go_sem, hge, hl0, tyAll]) | ((first | refine WP.flowW 3 flb18b91f8f5 [8, 9, 10] [8] [] (by decide +kernel) (by kernel_rfl) (by kernel_rfl) (by kernel_rfl) ?_); simp only [go_sem, hge, hl0, tyAll]) |  refine And.intro ?_ ?_ | intro _))
          all_goals first | omega | skip
        · have hl0 : (0 : Int) < E.length := by have := List.length_pos_iff.2 hE0; omega
          have hex : hasEx j = true := by
            cases hh : hasEx j with
            | true => rfl
            | false => exact absurd (hp.noExpr hh) hE0
          have hfe := fmtExpr_ok (hp.expr hex)
          simp only at hfe
          have hfin := joinE_end (P ++ A.map (·.data.toList)) (by simp [hP0]) E hE0
          rw [← hW] at hfin
          have hs2 : (bts (joinL 32 (E.map tokL))).size ≤ 242 := by
            have : (bts (joinL 32 (wordsL ⟨j, n, A, E⟩))).size ≤ 242 := by rw [bts_size]; exact hlen
            rw [← hfin, ByteArray.size_append, ByteArray.size_append] at this
            omega
          rw [← hfin]
          (repeat' (first | refine WP.seq ?_ | refine WP.block ?_ | ((first | refine WP.region ?_ | refine WP.condW ?_ | refine WP.ret ?_ | refine WP.exit ?_ | refine WP.skip ?_); simp only [go_sem, hge, hl0, hfe, ByteArray.size_append, z32, tyAll]) | ((first | refine WP.flowW 3 flb18b91f8f5 [8, 9, 10] [8] [] (by decide +kernel) (by kernel_rfl) (by kernel_rfl) (by kernel_rfl) ?_); simp only [go_sem, hge, hl0, hfe, ByteArray.size_append, z32, tyAll]) |  refine And.intro ?_ ?_ | intro _))
          all_goals first | omega | exact hE | skip
  · have hpF : decide (LineP ⟨k, n, A, E⟩) = false := decide_eq_false hp
    rw [fmtLine_bad hp]
    (repeat' (first | refine WP.seq ?_ | refine WP.block ?_ | ((first | refine WP.region ?_ | refine WP.condW ?_ | refine WP.ret ?_ | refine WP.exit ?_ | refine WP.skip ?_); simp only [go_sem, hpF, tyAll]) | ((first | refine WP.flowW 3 flb18b91f8f5 [8, 9, 10] [8] [] (by decide +kernel) (by kernel_rfl) (by kernel_rfl) (by kernel_rfl) ?_); simp only [go_sem, hpF, tyAll]) |  refine And.intro ?_ ?_ | intro _))
    all_goals first | omega | exact hsm | exact hj8 | skip
end
end
section
open Go.Vc
set_option linter.unusedSimpArgs false
set_option linter.unusedVariables false
set_option maxHeartbeats 1000000
set_option maxRecDepth 10000
attribute [local irreducible] Go.Vc.WP
attribute [local go_sem] cx0_t cx0_c
attribute [local go_sem] decS_enc decTok_enc decLine_enc oneLine_f line_eta oneTok_f aPk decI_enc St.fzS addL behind St.runO St.stepO St.cutK
theorem LineP.shL {x : Line} (h : LineP x) : shLine x := by
  refine ⟨by have := h.few; omega, ?_⟩
  cases hk : hasEx x.kind with
  | true => have := (exprOk_iff.1 (h.expr hk)).1; omega
  | false => rw [h.noExpr hk]; simp
theorem LineP.shE {x : Line} (h : LineP x) : x.expr.length ≤ 1048576 := (LineP.shL h).2
theorem LineP.shA {x : Line} (h : LineP x) : x.args.length ≤ 1048576 := (LineP.shL h).1
def kLclZ : Ctr := pur aPk (fun x => [.sl 4 (x.1.map encLine), .v (.int .i64 x.2)]) (fun x => x.1.length ≤ 1048576 ∧ ∀ y ∈ x.1, shLine y) (fun _ x => .sl 1 ((localsOf x.1 x.2).map encS)) (fun _ _ => [])
theorem cLclZI : Cn Tryz.prog 121 kLclZ := Cn.frozen (fun _ => allV_S' _) cLclI
noncomputable def kFnOk : Ctr := pur (fun args => (decLine (aR args 0), aI args 1, aI args 2)) (fun x => [.sl 4 (x.1.map encLine), .v (.int .i64 x.2.1), .v (.int .i64 x.2.2)])
  (fun x => x.1.length ≤ 60 ∧ (∀ y ∈ x.1, LineP y) ∧ ∃ k e : Nat, x.2.1 = k ∧ x.2.2 = e ∧ kd x.1 k = 0 ∧ IsEnd x.1 k e)
  (fun _ x => .v (.bool (bodyIB x.1 x.2.1.toNat x.2.2.toNat))) (fun _ _ => [])
section
attribute [local irreducible] shLine
noncomputable def cxFnOkI : Cx := { P := Tryz.prog, tys := tys, C := [(121, kLclZ), (68, kBlk), (122, kKnown)], hty := tysOk, hC := COk.cons cLclZI (COk.cons cBlkI (COk.cons cKnownI (COk.nil _))) }
theorem cxFnOkI_t : cxFnOkI.tys = tys := rfl
theorem cxFnOkI_c : cxFnOkI.C = [(121, kLclZ), (68, kBlk), (122, kKnown)] := rfl
attribute [local go_sem] cxFnOkI_t cxFnOkI_c kLclZ kBlk kKnown
set_option maxHeartbeats 16000000
theorem cFnOkI : Cn Tryz.prog 70 kFnOk := by
  refine Cn.pur Tryz.func70 (by kernel_rfl) rfl fun d x hx => ?_
  obtain ⟨P, k0, e0⟩ := x
  obtain ⟨hx, hL, k, e, hk0, he0, hk, hE⟩ := hx
  simp only at hx hL hk0 he0 hk hE
  subst hk0 he0
  have hsh : ∀ y ∈ P, shLine y := fun y hy => LineP.shL (hL y hy)
  have hel := hE.lt
  have hke := hE.lt' hk
  simp only [Int.toNat_natCast]
  refine Holds.go (c := cxFnOkI) Tryz.func70 rfl Tryz.results70 Tryz.ntmps70 (by omega) (by simp) rfl ?_
  intro X0 w0
  have lk0 : lk 0 tys = none := rfl
  generalize hA : localsOf P k = A
  by_cases h8 : A.length ≤ 8
  rotate_left
  · have h8' : (8 : Int) < A.length := by omega
    rw [bodyIB_no (P := P) (k := k) (e := e) fun q => h8 (by have := q.1; rw [hA] at this; exact this)]
    (repeat' (first | refine WP.seq ?_ | refine WP.block ?_ | ((first | refine WP.region ?_ | refine WP.condW ?_ | refine WP.ret ?_ | refine WP.exit ?_ | refine WP.skip ?_); simp only [go_sem, hA, h8', tyAll]) |  refine And.intro ?_ ?_ | intro _))
    all_goals first | omega | rfl | assumption | exact hsh _ ‹_› | skip
  have h8' : ¬ (8 : Int) < A.length := by omega
  (repeat' (first | refine WP.seq ?_ | refine WP.block ?_ | ((first | refine WP.region ?_ | refine WP.condW ?_ | refine WP.ret ?_ | refine WP.exit ?_ | refine WP.skip ?_); simp only [go_sem, hA, h8', tyAll]) |  refine And.intro ?_ ?_ | intro _))
  all_goals first | omega | assumption | exact hsh _ ‹_› | skip
  refine WP.loop (fun s : Nat × List Int => ⟨[(0, .sl 4 (P.map encLine)), (2, .v (.int .i64 e)), (7, .sl 1 (A.map encS)), (8, .own 16), (9, .v (.int .i64 s.1))], [(16, .sl 3 1 (s.2.map encI))]⟩)
    (fun s => k < s.1 ∧ s.1 ≤ e + 1 ∧ s.2.length ≤ s.1 ∧ (∀ t : Nat, k < t → t < s.1 → condI P k t) ∧ (s.1 ≤ e → Stk P (sumTo P (k + 1)) s.1 (popL s.1 s.2))) (fun s => e + 1 - s.1) (k + 1, [])
    ⟨by simp only; omega, by simp only; omega, by simp, fun t a b => by simp only at b; omega, fun _ => .nil rfl⟩ ?_ ?_
  · (simp only [go_sem, tyAll] <;> (first | rfl | exact ⟨rfl, rfl⟩ | exact ⟨rfl, rfl, rfl⟩ | exact ⟨rfl, rfl, rfl, rfl⟩ | exact ⟨rfl, rfl, rfl, rfl, rfl⟩ | exact ⟨⟨rfl, rfl⟩, rfl⟩ | simp))
  rintro ⟨i, L⟩ ⟨q1, q2, q3, q4, q5⟩
  simp only at q1 q2 q3 q4 q5 ⊢
  by_cases hlt : i ≤ e
  rotate_left
  · have hge : ¬ (i : Int) ≤ (e : Int) := by omega
    rw [bodyIB_yes (P := P) (k := k) (e := e) ⟨by rw [hA]; exact h8, fun t a b => q4 t a (by omega)⟩]
    (repeat' (first | refine WP.seq ?_ | refine WP.block ?_ | ((first | refine WP.region ?_ | refine WP.condW ?_ | refine WP.ret ?_ | refine WP.exit ?_ | refine WP.skip ?_); simp only [go_sem, hge, tyAll]) |  refine And.intro ?_ ?_ | intro _))
    all_goals first | omega | rfl | exact hsh _ ‹_› | skip
  have hli : (i : Int) ≤ (e : Int) := by omega
  have hiP : i < P.length := by omega
  (repeat' (first | refine WP.seq ?_ | refine WP.block ?_ | ((first | refine WP.region ?_ | refine WP.condW ?_ | refine WP.ret ?_ | refine WP.exit ?_ | refine WP.skip ?_); simp only [go_sem, hli, tyAll]) |  refine And.intro ?_ ?_ | intro _))
  all_goals first | omega | skip
  refine WP.loop (fun M : List Int => ⟨[(0, .sl 4 (P.map encLine)), (2, .v (.int .i64 e)), (7, .sl 1 (A.map encS)), (8, .own 16), (9, .v (.int .i64 i))], [(16, .sl 3 1 (M.map encI))]⟩)
    (fun M => popL i M = popL i L ∧ M.length ≤ L.length) (fun M => M.length) L ⟨rfl, Nat.le_refl _⟩ ?_ ?_
  · (simp only [go_sem, tyAll] <;> (first | rfl | exact ⟨rfl, rfl⟩ | exact ⟨rfl, rfl, rfl⟩ | exact ⟨rfl, rfl, rfl, rfl⟩ | exact ⟨rfl, rfl, rfl, rfl, rfl⟩ | exact ⟨⟨rfl, rfl⟩, rfl⟩ | simp))
  rintro M ⟨m1, m2⟩
  rcases List.eq_nil_or_concat M with hM | ⟨M0, x, hM⟩
  · have hpos : ¬ (0 : Int) < (M.length : Int) := by rw [hM]; simp
    have hrow : Go.Vc.rowAt (M.map encI) ((M.length : Int) - 1).toNat = [] := by rw [hM]; rfl
    have hS : popL i M = M := by rw [hM]; rfl
    have hSt := q5 hlt
    rw [← m1, hS] at hSt
    have hlen := hSt.len
    have hs4 := sumTo_bound P i
    have h2 := rowAt_map encLine P i hiP
    rw [encLine] at h2
    have hkd := kd_lt hiP
    have hex := exprAt_lt hiP
    have hyl := hL _ (List.getElem_mem hiP)
    have hel2 : P[i].expr.length ≤ 1048576 := LineP.shE hyl
    generalize P[i].kind = kk at h2 hkd
    generalize P[i].expr = EE at h2 hex hel2
    generalize hz : endOf P i = z
    by_cases k0 : kk = 0
    · rw [condI_no (P := P) (k := k) q1 hlt (fun q => q.kn (by rw [hkd]; exact k0))]
      (repeat' (first | (refine WP.regionO (id := 8) ?_; simp only [go_sem, hpos, hrow, h2, k0, tyAll]) | refine WP.seq ?_ | refine WP.block ?_ | ((first | refine WP.region ?_ | refine WP.condW ?_ | refine WP.ret ?_ | refine WP.exit ?_ | refine WP.skip ?_); simp only [go_sem, hpos, hrow, h2, k0, tyAll]) |  refine And.intro ?_ ?_ | intro _))
      all_goals first | omega | rfl | exact hsh _ ‹_› | skip
    by_cases k35 : kk = 3 ∨ kk = 5
    · have hln : (M.map encI ++ [[SV.v (.int .i64 z)]]).length = M.length + 1 := by simp
      have hcd : condI P k i ↔ ((M.length + 1 ≤ 4) ∧ knownE P A EE = true) := by
        unfold condI
        rw [hkd, if_pos k35, hex, hA]
        constructor
        · rintro ⟨_, b, c⟩; exact ⟨by omega, c⟩
        · rintro ⟨b, c⟩; exact ⟨k0, by omega, c⟩
      by_cases h4 : M.length + 1 ≤ 4
      · have h4a : ¬ (4 : Int) < ((M.length + 1 : Nat) : Int) := by omega
        have h4b : ¬ (4 : Int) < (M.length : Int) + 1 := by omega
        cases hkn : knownE P A EE with
        | true =>
          have hnx : ∀ t : Nat, k < t → t < i + 1 → condI P k t := fun t a b => by
            rcases Nat.lt_or_ge t i with c | c
            · exact q4 t a c
            · rw [show t = i by omega]; exact hcd.2 ⟨h4, hkn⟩
          have hst : i + 1 ≤ e → Stk P (sumTo P (k + 1)) (i + 1) (popL ((i + 1 : Nat) : Int) (M ++ [z])) := fun q => by
            have := hSt.next hk hE q1 (by omega) (by rw [hkd]; exact k0)
            rw [hkd, if_pos k35, hz] at this; exact this
          rcases k35 with k35 | k35
          · (repeat' (first | (refine WP.regionO (id := 8) ?_; simp only [go_sem, hpos, hrow, h2, k35, hz, hln, h4a, h4b, hkn, tyAll]) | refine WP.seq ?_ | refine WP.block ?_ | ((first | refine WP.region ?_ | refine WP.condW ?_ | refine WP.ret ?_ | refine WP.exit ?_ | refine WP.skip ?_); simp only [go_sem, hpos, hrow, h2, k35, hz, hln, h4a, h4b, hkn, tyAll]) |  refine And.intro ?_ ?_ | intro _))
            all_goals first | omega | rfl | exact hsh _ ‹_› | exact ⟨(i + 1, M ++ [z]), ⟨by simp only; omega, by simp only; omega, by simp only [List.length_append, List.length_cons, List.length_nil]; omega, hnx, hst⟩, by simp only; omega, by simp only [List.map_append, List.map_cons, List.map_nil, encI]; (first | rfl | exact ⟨rfl, rfl⟩ | exact ⟨rfl, rfl, rfl⟩ | exact ⟨rfl, rfl, rfl, rfl⟩ | exact ⟨rfl, rfl, rfl, rfl, rfl⟩ | exact ⟨⟨rfl, rfl⟩, rfl⟩ | simp)⟩ | skip
          · (repeat' (first | (refine WP.regionO (id := 8) ?_; simp only [go_sem, hpos, hrow, h2, k35, hz, hln, h4a, h4b, hkn, tyAll]) | refine WP.seq ?_ | refine WP.block ?_ | ((first | refine WP.region ?_ | refine WP.condW ?_ | refine WP.ret ?_ | refine WP.exit ?_ | refine WP.skip ?_); simp only [go_sem, hpos, hrow, h2, k35, hz, hln, h4a, h4b, hkn, tyAll]) |  refine And.intro ?_ ?_ | intro _))
            all_goals first | omega | rfl | exact hsh _ ‹_› | exact ⟨(i + 1, M ++ [z]), ⟨by simp only; omega, by simp only; omega, by simp only [List.length_append, List.length_cons, List.length_nil]; omega, hnx, hst⟩, by simp only; omega, by simp only [List.map_append, List.map_cons, List.map_nil, encI]; (first | rfl | exact ⟨rfl, rfl⟩ | exact ⟨rfl, rfl, rfl⟩ | exact ⟨rfl, rfl, rfl, rfl⟩ | exact ⟨rfl, rfl, rfl, rfl, rfl⟩ | exact ⟨⟨rfl, rfl⟩, rfl⟩ | simp)⟩ | skip
        | false =>
          rw [condI_no (P := P) (k := k) q1 hlt (fun q => by have := (hcd.1 q).2; rw [hkn] at this; cases this)]
          rcases k35 with k35 | k35
          · (repeat' (first | (refine WP.regionO (id := 8) ?_; simp only [go_sem, hpos, hrow, h2, k35, hz, hln, h4a, h4b, hkn, tyAll]) | refine WP.seq ?_ | refine WP.block ?_ | ((first | refine WP.region ?_ | refine WP.condW ?_ | refine WP.ret ?_ | refine WP.exit ?_ | refine WP.skip ?_); simp only [go_sem, hpos, hrow, h2, k35, hz, hln, h4a, h4b, hkn, tyAll]) |  refine And.intro ?_ ?_ | intro _))
            all_goals first | omega | rfl | exact hsh _ ‹_› | skip
          · (repeat' (first | (refine WP.regionO (id := 8) ?_; simp only [go_sem, hpos, hrow, h2, k35, hz, hln, h4a, h4b, hkn, tyAll]) | refine WP.seq ?_ | refine WP.block ?_ | ((first | refine WP.region ?_ | refine WP.condW ?_ | refine WP.ret ?_ | refine WP.exit ?_ | refine WP.skip ?_); simp only [go_sem, hpos, hrow, h2, k35, hz, hln, h4a, h4b, hkn, tyAll]) |  refine And.intro ?_ ?_ | intro _))
            all_goals first | omega | rfl | exact hsh _ ‹_› | skip
      · have h4a : (4 : Int) < ((M.length + 1 : Nat) : Int) := by omega
        have h4b : (4 : Int) < (M.length : Int) + 1 := by omega
        rw [condI_no (P := P) (k := k) q1 hlt (fun q => h4 (hcd.1 q).1)]
        rcases k35 with k35 | k35
        · (repeat' (first | (refine WP.regionO (id := 8) ?_; simp only [go_sem, hpos, hrow, h2, k35, hz, hln, h4a, h4b, tyAll]) | refine WP.seq ?_ | refine WP.block ?_ | ((first | refine WP.region ?_ | refine WP.condW ?_ | refine WP.ret ?_ | refine WP.exit ?_ | refine WP.skip ?_); simp only [go_sem, hpos, hrow, h2, k35, hz, hln, h4a, h4b, tyAll]) |  refine And.intro ?_ ?_ | intro _))
          all_goals first | omega | rfl | exact hsh _ ‹_› | skip
        · (repeat' (first | (refine WP.regionO (id := 8) ?_; simp only [go_sem, hpos, hrow, h2, k35, hz, hln, h4a, h4b, tyAll]) | refine WP.seq ?_ | refine WP.block ?_ | ((first | refine WP.region ?_ | refine WP.condW ?_ | refine WP.ret ?_ | refine WP.exit ?_ | refine WP.skip ?_); simp only [go_sem, hpos, hrow, h2, k35, hz, hln, h4a, h4b, tyAll]) |  refine And.intro ?_ ?_ | intro _))
          all_goals first | omega | rfl | exact hsh _ ‹_› | skip
    · have n3 : ¬ kk = 3 := fun e => k35 (.inl e)
      have n5 : ¬ kk = 5 := fun e => k35 (.inr e)
      have hcd : condI P k i ↔ (M.length ≤ 4 ∧ knownE P A EE = true) := by
        unfold condI
        rw [hkd, if_neg k35, hex, hA]
        constructor
        · rintro ⟨_, b, c⟩; exact ⟨by omega, c⟩
        · rintro ⟨b, c⟩; exact ⟨k0, by omega, c⟩
      by_cases h4 : M.length ≤ 4
      · have h4a : ¬ (4 : Int) < (M.length : Int) := by omega
        cases hkn : knownE P A EE with
        | true =>
          have hnx : ∀ t : Nat, k < t → t < i + 1 → condI P k t := fun t a b => by
            rcases Nat.lt_or_ge t i with c | c
            · exact q4 t a c
            · rw [show t = i by omega]; exact hcd.2 ⟨h4, hkn⟩
          have hst : i + 1 ≤ e → Stk P (sumTo P (k + 1)) (i + 1) (popL ((i + 1 : Nat) : Int) M) := fun q => by
            have := hSt.next hk hE q1 (by omega) (by rw [hkd]; exact k0)
            rw [hkd, if_neg k35] at this; exact this
          (repeat' (first | (refine WP.regionO (id := 8) ?_; simp only [go_sem, hpos, hrow, h2, k0, n3, n5, h4a, hkn, tyAll]) | refine WP.seq ?_ | refine WP.block ?_ | ((first | refine WP.region ?_ | refine WP.condW ?_ | refine WP.ret ?_ | refine WP.exit ?_ | refine WP.skip ?_); simp only [go_sem, hpos, hrow, h2, k0, n3, n5, h4a, hkn, tyAll]) |  refine And.intro ?_ ?_ | intro _))
          all_goals first | omega | rfl | exact hsh _ ‹_› | exact ⟨(i + 1, M), ⟨by simp only; omega, by simp only; omega, by simp only; omega, hnx, hst⟩, by simp only; omega, by (first | rfl | exact ⟨rfl, rfl⟩ | exact ⟨rfl, rfl, rfl⟩ | exact ⟨rfl, rfl, rfl, rfl⟩ | exact ⟨rfl, rfl, rfl, rfl, rfl⟩ | exact ⟨⟨rfl, rfl⟩, rfl⟩ | simp)⟩ | skip
        | false =>
          rw [condI_no (P := P) (k := k) q1 hlt (fun q => by have := (hcd.1 q).2; rw [hkn] at this; cases this)]
          (repeat' (first | (refine WP.regionO (id := 8) ?_; simp only [go_sem, hpos, hrow, h2, k0, n3, n5, h4a, hkn, tyAll]) | refine WP.seq ?_ | refine WP.block ?_ | ((first | refine WP.region ?_ | refine WP.condW ?_ | refine WP.ret ?_ | refine WP.exit ?_ | refine WP.skip ?_); simp only [go_sem, hpos, hrow, h2, k0, n3, n5, h4a, hkn, tyAll]) |  refine And.intro ?_ ?_ | intro _))
          all_goals first | omega | rfl | exact hsh _ ‹_› | skip
      · have h4a : (4 : Int) < (M.length : Int) := by omega
        rw [condI_no (P := P) (k := k) q1 hlt (fun q => h4 (hcd.1 q).1)]
        (repeat' (first | (refine WP.regionO (id := 8) ?_; simp only [go_sem, hpos, hrow, h2, k0, n3, n5, h4a, tyAll]) | refine WP.seq ?_ | refine WP.block ?_ | ((first | refine WP.region ?_ | refine WP.condW ?_ | refine WP.ret ?_ | refine WP.exit ?_ | refine WP.skip ?_); simp only [go_sem, hpos, hrow, h2, k0, n3, n5, h4a, tyAll]) |  refine And.intro ?_ ?_ | intro _))
        all_goals first | omega | rfl | exact hsh _ ‹_› | skip
  · rw [List.concat_eq_append] at hM
    have hml : M.length = M0.length + 1 := by rw [hM]; simp
    have hpos : (0 : Int) < (M.length : Int) := by omega
    have hrow : Go.Vc.rowAt (M.map encI) ((M.length : Int) - 1).toNat = [.v (.int .i64 x)] := by
      rw [show ((M.length : Int) - 1).toNat = M0.length by omega, hM]
      unfold Go.Vc.rowAt
      simp [encI]
    by_cases hxi : x < (i : Int)
    · have htk : List.take ((M.length : Int) - 1).toNat (M.map encI) = M0.map encI := by
        rw [show ((M.length : Int) - 1).toNat = M0.length by omega, hM, List.map_append, List.take_left' (by rw [List.length_map])]
      have hp : popL i M0 = popL i L := by rw [← m1, hM, popL_lt _ hxi]
      (repeat' (first | (refine WP.regionO (id := 8) ?_; simp only [go_sem, hpos, hrow, hxi, htk, tyAll]) | (refine WP.regionCut6 (id := 9) ?_; simp only [go_sem, hpos, hrow, hxi, htk, tyAll]) | refine WP.seq ?_ | refine WP.block ?_ | ((first | refine WP.region ?_ | refine WP.condW ?_ | refine WP.ret ?_ | refine WP.exit ?_ | refine WP.skip ?_); simp only [go_sem, hpos, hrow, hxi, htk, tyAll]) |  refine And.intro ?_ ?_ | intro _))
      all_goals first | omega | rfl | exact hsh _ ‹_› | exact ⟨M0, ⟨hp, by omega⟩, by omega, by (first | rfl | exact ⟨rfl, rfl⟩ | exact ⟨rfl, rfl, rfl⟩ | exact ⟨rfl, rfl, rfl, rfl⟩ | exact ⟨rfl, rfl, rfl, rfl, rfl⟩ | exact ⟨⟨rfl, rfl⟩, rfl⟩ | simp)⟩ | skip
    have hS : popL i M = M := by rw [hM, popL_ge _ hxi]
    have hSt := q5 hlt
    rw [← m1, hS] at hSt
    have hlen := hSt.len
    have hs4 := sumTo_bound P i
    have h2 := rowAt_map encLine P i hiP
    rw [encLine] at h2
    have hkd := kd_lt hiP
    have hex := exprAt_lt hiP
    have hyl := hL _ (List.getElem_mem hiP)
    have hel2 : P[i].expr.length ≤ 1048576 := LineP.shE hyl
    generalize P[i].kind = kk at h2 hkd
    generalize P[i].expr = EE at h2 hex hel2
    generalize hz : endOf P i = z
    by_cases k0 : kk = 0
    · rw [condI_no (P := P) (k := k) q1 hlt (fun q => q.kn (by rw [hkd]; exact k0))]
      (repeat' (first | refine WP.seq ?_ | refine WP.block ?_ | ((first | refine WP.region ?_ | refine WP.condW ?_ | refine WP.ret ?_ | refine WP.exit ?_ | refine WP.skip ?_); simp only [go_sem, hpos, hrow, hxi, h2, k0, tyAll]) |  refine And.intro ?_ ?_ | intro _))
      all_goals first | omega | rfl | exact hsh _ ‹_› | skip
    by_cases k35 : kk = 3 ∨ kk = 5
    · have hln : (M.map encI ++ [[SV.v (.int .i64 z)]]).length = M.length + 1 := by simp
      have hcd : condI P k i ↔ ((M.length + 1 ≤ 4) ∧ knownE P A EE = true) := by
        unfold condI
        rw [hkd, if_pos k35, hex, hA]
        constructor
        · rintro ⟨_, b, c⟩; exact ⟨by omega, c⟩
        · rintro ⟨b, c⟩; exact ⟨k0, by omega, c⟩
      by_cases h4 : M.length + 1 ≤ 4
      · have h4a : ¬ (4 : Int) < ((M.length + 1 : Nat) : Int) := by omega
        have h4b : ¬ (4 : Int) < (M.length : Int) + 1 := by omega
        cases hkn : knownE P A EE with
        | true =>
          have hnx : ∀ t : Nat, k < t → t < i + 1 → condI P k t := fun t a b => by
            rcases Nat.lt_or_ge t i with c | c
            · exact q4 t a c
            · rw [show t = i by omega]; exact hcd.2 ⟨h4, hkn⟩
          have hst : i + 1 ≤ e → Stk P (sumTo P (k + 1)) (i + 1) (popL ((i + 1 : Nat) : Int) (M ++ [z])) := fun q => by
            have := hSt.next hk hE q1 (by omega) (by rw [hkd]; exact k0)
            rw [hkd, if_pos k35, hz] at this; exact this
          rcases k35 with k35 | k35
          · (repeat' (first | refine WP.seq ?_ | refine WP.block ?_ | ((first | refine WP.region ?_ | refine WP.condW ?_ | refine WP.ret ?_ | refine WP.exit ?_ | refine WP.skip ?_); simp only [go_sem, hpos, hrow, hxi, h2, k35, hz, hln, h4a, h4b, hkn, tyAll]) |  refine And.intro ?_ ?_ | intro _))
            all_goals first | omega | rfl | exact hsh _ ‹_› | exact ⟨(i + 1, M ++ [z]), ⟨by simp only; omega, by simp only; omega, by simp only [List.length_append, List.length_cons, List.length_nil]; omega, hnx, hst⟩, by simp only; omega, by simp only [List.map_append, List.map_cons, List.map_nil, encI]; (first | rfl | exact ⟨rfl, rfl⟩ | exact ⟨rfl, rfl, rfl⟩ | exact ⟨rfl, rfl, rfl, rfl⟩ | exact ⟨rfl, rfl, rfl, rfl, rfl⟩ | exact ⟨⟨rfl, rfl⟩, rfl⟩ | simp)⟩ | skip
          · (repeat' (first | refine WP.seq ?_ | refine WP.block ?_ | ((first | refine WP.region ?_ | refine WP.condW ?_ | refine WP.ret ?_ | refine WP.exit ?_ | refine WP.skip ?_); simp only [go_sem, hpos, hrow, hxi, h2, k35, hz, hln, h4a, h4b, hkn, tyAll]) |  refine And.intro ?_ ?_ | intro _))
            all_goals first | omega | rfl | exact hsh _ ‹_› | exact ⟨(i + 1, M ++ [z]), ⟨by simp only; omega, by simp only; omega, by simp only [List.length_append, List.length_cons, List.length_nil]; omega, hnx, hst⟩, by simp only; omega, by simp only [List.map_append, List.map_cons, List.map_nil, encI]; (first | rfl | exact ⟨rfl, rfl⟩ | exact ⟨rfl, rfl, rfl⟩ | exact ⟨rfl, rfl, rfl, rfl⟩ | exact ⟨rfl, rfl, rfl, rfl, rfl⟩ | exact ⟨⟨rfl, rfl⟩, rfl⟩ | simp)⟩ | skip
        | false =>
          rw [condI_no (P := P) (k := k) q1 hlt (fun q => by have := (hcd.1 q).2; rw [hkn] at this; cases this)]
          rcases k35 with k35 | k35
          · (repeat' (first | refine WP.seq ?_ | refine WP.block ?_ | ((first | refine WP.region ?_ | refine WP.condW ?_ | refine WP.ret ?_ | refine WP.exit ?_ | refine WP.skip ?_); simp only [go_sem, hpos, hrow, hxi, h2, k35, hz, hln, h4a, h4b, hkn, tyAll]) |  refine And.intro ?_ ?_ | intro _))
            all_goals first | omega | rfl | exact hsh _ ‹_› | skip
          · (repeat' (first | refine WP.seq ?_ | refine WP.block ?_ | ((first | refine WP.region ?_ | refine WP.condW ?_ | refine WP.ret ?_ | refine WP.exit ?_ | refine WP.skip ?_); simp only [go_sem, hpos, hrow, hxi, h2, k35, hz, hln, h4a, h4b, hkn, tyAll]) |  refine And.intro ?_ ?_ | intro _))
            all_goals first | omega | rfl | exact hsh _ ‹_› | skip
      · have h4a : (4 : Int) < ((M.length + 1 : Nat) : Int) := by omega
        have h4b : (4 : Int) < (M.length : Int) + 1 := by omega
        rw [condI_no (P := P) (k := k) q1 hlt (fun q => h4 (hcd.1 q).1)]
        rcases k35 with k35 | k35
        · (repeat' (first | refine WP.seq ?_ | refine WP.block ?_ | ((first | refine WP.region ?_ | refine WP.condW ?_ | refine WP.ret ?_ | refine WP.exit ?_ | refine WP.skip ?_); simp only [go_sem, hpos, hrow, hxi, h2, k35, hz, hln, h4a, h4b, tyAll]) |  refine And.intro ?_ ?_ | intro _))
          all_goals first | omega | rfl | exact hsh _ ‹_› | skip
        · (repeat' (first | refine WP.seq ?_ | refine WP.block ?_ | ((first | refine WP.region ?_ | refine WP.condW ?_ | refine WP.ret ?_ | refine WP.exit ?_ | refine WP.skip ?_); simp only [go_sem, hpos, hrow, hxi, h2, k35, hz, hln, h4a, h4b, tyAll]) |  refine And.intro ?_ ?_ | intro _))
          all_goals first | omega | rfl | exact hsh _ ‹_› | skip
    · have n3 : ¬ kk = 3 := fun e => k35 (.inl e)
      have n5 : ¬ kk = 5 := fun e => k35 (.inr e)
      have hcd : condI P k i ↔ (M.length ≤ 4 ∧ knownE P A EE = true) := by
        unfold condI
        rw [hkd, if_neg k35, hex, hA]
        constructor
        · rintro ⟨_, b, c⟩; exact ⟨by omega, c⟩
        · rintro ⟨b, c⟩; exact ⟨k0, by omega, c⟩
      by_cases h4 : M.length ≤ 4
      · have h4a : ¬ (4 : Int) < (M.length : Int) := by omega
        cases hkn : knownE P A EE with
        | true =>
          have hnx : ∀ t : Nat, k < t → t < i + 1 → condI P k t := fun t a b => by
            rcases Nat.lt_or_ge t i with c | c
            · exact q4 t a c
            · rw [show t = i by omega]; exact hcd.2 ⟨h4, hkn⟩
          have hst : i + 1 ≤ e → Stk P (sumTo P (k + 1)) (i + 1) (popL ((i + 1 : Nat) : Int) M) := fun q => by
            have := hSt.next hk hE q1 (by omega) (by rw [hkd]; exact k0)
            rw [hkd, if_neg k35] at this; exact this
          (repeat' (first | refine WP.seq ?_ | refine WP.block ?_ | ((first | refine WP.region ?_ | refine WP.condW ?_ | refine WP.ret ?_ | refine WP.exit ?_ | refine WP.skip ?_); simp only [go_sem, hpos, hrow, hxi, h2, k0, n3, n5, h4a, hkn, tyAll]) |  refine And.intro ?_ ?_ | intro _))
          all_goals first | omega | rfl | exact hsh _ ‹_› | exact ⟨(i + 1, M), ⟨by simp only; omega, by simp only; omega, by simp only; omega, hnx, hst⟩, by simp only; omega, by (first | rfl | exact ⟨rfl, rfl⟩ | exact ⟨rfl, rfl, rfl⟩ | exact ⟨rfl, rfl, rfl, rfl⟩ | exact ⟨rfl, rfl, rfl, rfl, rfl⟩ | exact ⟨⟨rfl, rfl⟩, rfl⟩ | simp)⟩ | skip
        | false =>
          rw [condI_no (P := P) (k := k) q1 hlt (fun q => by have := (hcd.1 q).2; rw [hkn] at this; cases this)]
          (repeat' (first | refine WP.seq ?_ | refine WP.block ?_ | ((first | refine WP.region ?_ | refine WP.condW ?_ | refine WP.ret ?_ | refine WP.exit ?_ | refine WP.skip ?_); simp only [go_sem, hpos, hrow, hxi, h2, k0, n3, n5, h4a, hkn, tyAll]) |  refine And.intro ?_ ?_ | intro _))
          all_goals first | omega | rfl | exact hsh _ ‹_› | skip
      · have h4a : (4 : Int) < (M.length : Int) := by omega
        rw [condI_no (P := P) (k := k) q1 hlt (fun q => h4 (hcd.1 q).1)]
        (repeat' (first | refine WP.seq ?_ | refine WP.block ?_ | ((first | refine WP.region ?_ | refine WP.condW ?_ | refine WP.ret ?_ | refine WP.exit ?_ | refine WP.skip ?_); simp only [go_sem, hpos, hrow, hxi, h2, k0, n3, n5, h4a, tyAll]) |  refine And.intro ?_ ?_ | intro _))
        all_goals first | omega | rfl | exact hsh _ ‹_› | skip
end
end
end Go.Proofs.YtdhkhapbldkkdaaGreatDoor
namespace Go.Vc
set_option linter.unusedVariables false
section
variable {c : Cx} {N : Nat} {X0 : Nat → Prop} {M : Nat → BV → Prop} {w0 : World} {st : St} {K : Exit → St → Prop}
theorem WP.mid {S : Type} {x y : Code} (T : S → St) (J : S → Prop) (h1 : WP c N X0 M w0 x st (thenK (fun st' => ∃ s, J s ∧ st'.has (T s)) K)) (h2 : ∀ s, J s → WP c N X0 M w0 y (T s) K) : WP c N X0 M w0 x st (thenK (fun st' => WP c N X0 M w0 y st' K) K) := fun hA β a w hs =>
  Code.wp_mono (fun e a w hq => by
    cases e with
    | normal => obtain ⟨st', β', ⟨s, hJ, hh⟩, h3⟩ := hq; exact ⟨T s, β', h2 s hJ, h3.has hh⟩
    | _ => exact hq) (h1 hA β a w hs)
theorem WP.atBlk {b : Nat} {p : Code} (h : WP c N X0 M w0 (.block b p) st K) : WP c N X0 M w0 (.block b p) st K := h
end
end Go.Vc

namespace Go.Proofs.YtdhkhapbldkkdaaGreatDoor
open Go.Vc
attribute [local go_sem] St.runR St.runW St.stepV offV St.step St.stepU St.stepG mkCond guardB St.prK St.pr St.prLen St.eff St.callE St.callD St.callF St.callL aI aS aR aC St.isM St.argL Ctr.pure Ctr.lend Ctr.move Ctr.isL Ctr.wri pur len lentBy St.lentV St.lent1 nthS argsR restOf obsR pairs swapL unObs backL St.resL erL SV.ren1 SV.up SV.up2 Ob.up St.fzL cellIds partIds St.intoRow SV.ownId St.fz SV.fz1 St.prep St.mvL St.mv SV.re1 rnOk St.prEq vals eqCells scEq Value.kd St.prStr St.prCut cutR St.bnd St.prMin St.bld isShift outL retL outJ oR SV.upq SV.isSl SV.shut St.deepK St.dpArg St.deepQ absC Ob.pl St.ev St.get St.put St.new St.kill SV.kill SV.kill1 Ob.kill St.app St.wrt St.rowsOf St.res St.killL lk er argsL SV.strip SV.need SV.share SV.share1 SV.owns SV.owns1 SV.owns2 SV.good SV.good1 SV.rok SV.rok1 SV.rok2 SV.isV SV.isV2 nodupN SV.cells SV.one SV.pur Ob.pb partsIn rowsIn splice cellsAt dstOk scal2 scal1 thenK blockK retK outK outs okC okL okA okT nilC nilL nilA nilT keepC keepL keepA keepT St.runG St.dltK St.least St.clean St.final St.hide offK badS badO SV.refs SV.leaf SV.leaf2 Ob.refs dlOk fpAt Go.Vc.cover tups SV.ofAgg St.out outC subL St.has rng wr Value.oneCell' Option.isSome_some Option.isSome_none List.nil_append Bool.false_eq_true List.map_cons List.map_nil List.all_cons List.all_nil List.length_cons List.length_nil List.drop_zero List.drop_succ_cons List.take_succ_cons List.take_zero List.drop_nil List.take_nil List.getElem?_cons_zero List.getElem?_cons_succ List.getElem?_nil List.cons_append List.nil_append List.append_nil List.append_assoc List.flatMap_cons List.flatMap_nil List.contains_cons List.contains_nil List.set_cons_zero List.set_cons_succ List.getElem?_toArray Option.getD_some Option.getD_none Option.map_some Option.map_none Option.bind_some Option.some.injEq Prod.mk.injEq if_true if_false true_and and_true and_self and_false false_and Bool.and_false Bool.false_and Bool.or_true Bool.true_or Bool.or_false Bool.false_or ne_eq not_true_eq_false not_false_eq_true decide_true decide_false List.mem_cons List.not_mem_nil List.filter_cons List.filter_nil List.any_cons List.any_nil List.isEmpty_nil List.isEmpty_cons Option.getD_none or_false false_or true_or or_true forall_eq_or_imp forall_eq reduceCtorEq exists_eq exists_eq' exists_eq_left' exists_eq_left exists_eq_right exists_eq_right' imp_self implies_true Bool.and_true Bool.true_and Bool.and_self beq_self_eq_true List.replicate_succ List.replicate_zero forall_const false_implies pickB_or pickB_and beqT beqF Int.toNat_natCast List.length_map List.length_replicate ge_iff_le gt_iff_lt decide_eq_true_eq decide_eq_false_iff_not Bool.and_eq_true Bool.or_eq_true Bool.not_eq_true' Bool.not_eq_false' condG List.toList_toArray Bool.or_eq_false_iff Bool.and_eq_false_iff Int.not_lt Int.not_le beq_iff_eq beq_eq_false_iff_ne bne_iff_ne bne_eq_false_iff_eq ne_eq Bool.not_true Bool.not_false exists_and_left Nat.reduceAdd Nat.reduceLT Nat.reduceLeDiff Nat.reduceEqDiff Nat.reduceMul Nat.reduceSub Nat.reduceGT reduceIte Int.reduceNeg Int.reduceToNat
section
open Go.Vc
set_option linter.unusedSimpArgs false
set_option linter.unusedVariables false
set_option maxHeartbeats 1000000
set_option maxRecDepth 10000
attribute [local irreducible] Go.Vc.WP
attribute [local go_sem] cx0_t cx0_c
attribute [local go_sem] decS_enc decTok_enc decLine_enc oneLine_f line_eta oneTok_f aPk decI_enc St.fzS addL behind St.runO St.stepO
theorem cLclZS : Cn Tryz.prog 98 kLclZ := Cn.frozen (fun _ => allV_S' _) cLclS
def swJ (P : List Line) (k i : Nat) (dp kk d : Int) : Prop := d = dp + delta kk ∧ kk ≠ 0 ∧ (kk = 4 → ∃ j : Nat, k ≤ j ∧ j < i ∧ elseOf P j = (i : Int))
noncomputable def kBody : Ctr := pur (fun args => (decLine (aR args 0), aI args 1, aI args 2)) (fun x => [.sl 4 (x.1.map encLine), .v (.int .i64 x.2.1), .v (.int .i64 x.2.2)])
  (fun x => x.1.length ≤ 60 ∧ (∀ y ∈ x.1, LineP y) ∧ ∃ k e : Nat, x.2.1 = k ∧ x.2.2 = e ∧ kd x.1 k = 0 ∧ IsEnd x.1 k e)
  (fun _ x => .v (.bool (bodySB x.1 x.2.1.toNat x.2.2.toNat))) (fun _ _ => [])
section
attribute [local irreducible] shLine
noncomputable def cxBody : Cx := { P := Tryz.prog, tys := tys, C := [(98, kLclZ), (99, kElse), (46, kFind), (100, kIdxS)], hty := tysOk, hC := COk.cons cLclZS (COk.cons cElseS (COk.cons cFindS (COk.cons cIdxSS (COk.nil _)))) }
theorem cxBody_t : cxBody.tys = tys := rfl
theorem cxBody_c : cxBody.C = [(98, kLclZ), (99, kElse), (46, kFind), (100, kIdxS)] := rfl
attribute [local go_sem] cxBody_t cxBody_c kLclZ kElse kFind kIdxS
set_option maxHeartbeats 32000000
theorem cBody : Cn Tryz.prog 48 kBody := by
  refine Cn.pur Tryz.func48 (by kernel_rfl) rfl fun d x hx => ?_
  obtain ⟨P, k0, e0⟩ := x
  obtain ⟨hx, hL, k, e, hk0, he0, hk, hE⟩ := hx
  simp only at hx hL hk0 he0 hk hE
  subst hk0 he0
  have hsh : ∀ y ∈ P, shLine y := fun y hy => LineP.shL (hL y hy)
  have hel := hE.lt
  have hke := hE.lt' hk
  simp only [Int.toNat_natCast]
  refine Holds.go (c := cxBody) Tryz.func48 rfl Tryz.results48 Tryz.ntmps48 (by omega) (by simp) rfl ?_
  intro X0 w0
  have lk0 : lk 0 tys = none := rfl
  generalize hA : localsOf P k = A
  by_cases h8 : A.length ≤ 8
  rotate_left
  · have h8' : (8 : Int) < A.length := by omega
    rw [bodySB_no (P := P) (k := k) (e := e) fun q => h8 (by have := q.1; rw [hA] at this; exact this)]
    (repeat' (first | refine WP.seq ?_ | refine WP.block ?_ | ((first | refine WP.region ?_ | refine WP.condW ?_ | refine WP.ret ?_ | refine WP.exit ?_ | refine WP.skip ?_); simp only [go_sem, hA, h8', tyAll]) | ((first | refine WP.drawW 13 (by decide +kernel) (by kernel_rfl) ?_); simp only [go_sem, hA, h8', tyAll]) |  refine And.intro ?_ ?_ | intro _))
    all_goals first | omega | rfl | assumption | exact hsh _ ‹_› | skip
  have h8' : ¬ (8 : Int) < A.length := by omega
  (repeat' (first | refine WP.seq ?_ | refine WP.block ?_ | ((first | refine WP.region ?_ | refine WP.condW ?_ | refine WP.ret ?_ | refine WP.exit ?_ | refine WP.skip ?_); simp only [go_sem, hA, h8', tyAll]) | ((first | refine WP.drawW 13 (by decide +kernel) (by kernel_rfl) ?_); simp only [go_sem, hA, h8', tyAll]) |  refine And.intro ?_ ?_ | intro _))
  all_goals first | omega | assumption | exact hsh _ ‹_› | skip
  refine WP.loop (fun s : Nat × Int => ⟨[(0, .sl 4 (P.map encLine)), (1, .v (.int .i64 k)), (2, .v (.int .i64 e)), (7, .sl 1 (A.map encS)), (8, .v (.int .i64 s.2)), (9, .v (.int .i64 s.1))], []⟩)
    (fun s => k < s.1 ∧ s.1 ≤ e ∧ s.2 = sumTo P s.1 - sumTo P (k + 1) ∧ (∀ t : Nat, k < t → t < s.1 → condS P k t)) (fun s => e - s.1) (k + 1, 0)
    ⟨by simp only; omega, by simp only; omega, by simp only; omega, fun t a b => by simp only at b; omega⟩ ?_ ?_
  · (simp only [go_sem, tyAll] <;> (first | rfl | exact ⟨rfl, rfl⟩ | exact ⟨rfl, rfl, rfl⟩ | exact ⟨rfl, rfl, rfl, rfl⟩ | exact ⟨rfl, rfl, rfl, rfl, rfl⟩ | exact ⟨⟨rfl, rfl⟩, rfl⟩ | simp))
  rintro ⟨i, dp⟩ ⟨q1, q2, q3, q4⟩
  simp only at q1 q2 q3 q4 ⊢
  by_cases hlt : i < e
  rotate_left
  · have hge : ¬ (i : Int) < (e : Int) := by omega
    rw [bodySB_yes (P := P) (k := k) (e := e) ⟨by rw [hA]; exact h8, fun t a b => q4 t a (by omega)⟩]
    (repeat' (first | refine WP.seq ?_ | refine WP.block ?_ | ((first | refine WP.region ?_ | refine WP.condW ?_ | refine WP.ret ?_ | refine WP.exit ?_ | refine WP.skip ?_); simp only [go_sem, hge, tyAll]) | ((first | refine WP.drawW 13 (by decide +kernel) (by kernel_rfl) ?_); simp only [go_sem, hge, tyAll]) |  refine And.intro ?_ ?_ | intro _))
    all_goals first | omega | rfl | exact hsh _ ‹_› | skip
  have hli : (i : Int) < (e : Int) := by omega
  have hiP : i < P.length := by omega
  have hs4 := sumTo_bound P i
  have hs5 := sumTo_bound P (k + 1)
  have hs6 : sumTo P (i + 1) = sumTo P i + delta (kd P i) := rfl
  have h2 := rowAt_map encLine P i hiP
  rw [encLine] at h2
  have hkd := kd_lt hiP
  have hex := exprAt_lt hiP
  have hel2 : P[i].expr.length ≤ 1048576 := LineP.shE (hL _ (List.getElem_mem hiP))
  generalize P[i].kind = kk at h2 hkd
  generalize P[i].expr = EE at h2 hex hel2
  rw [hkd] at hs6
  (repeat' ((fail_if_success refine WP.atBlk (b := 2) ?_); first | refine WP.seq ?_ | refine WP.block ?_ | ((first | refine WP.region ?_ | refine WP.condW ?_ | refine WP.ret ?_ | refine WP.exit ?_ | refine WP.skip ?_); simp only [go_sem, hli, h2, tyAll]) | ((first | refine WP.drawW 13 (by decide +kernel) (by kernel_rfl) ?_); simp only [go_sem, hli, h2, tyAll]) |  refine And.intro ?_ ?_ | intro _))
  all_goals first | omega | skip
  refine WP.mid (fun d : Int => ⟨[(0, .sl 4 (P.map encLine)), (1, .v (.int .i64 k)), (2, .v (.int .i64 e)), (7, .sl 1 (A.map encS)), (8, .v (.int .i64 d)), (9, .v (.int .i64 i))], []⟩)
    (swJ P k i dp kk) ?_ ?_
  · by_cases k0 : kk = 0
    · rw [condS_no (P := P) (k := k) q1 hlt (fun q => q.kn (by rw [hkd]; exact k0))]
      (repeat' (first | refine WP.seq ?_ | refine WP.block ?_ | ((first | refine WP.region ?_ | refine WP.condW ?_ | refine WP.ret ?_ | refine WP.exit ?_ | refine WP.skip ?_); simp only [go_sem, k0, tyAll]) | ((first | refine WP.drawW 13 (by decide +kernel) (by kernel_rfl) ?_); simp only [go_sem, k0, tyAll]) |  refine And.intro ?_ ?_ | intro _))
      all_goals first | omega | rfl | skip
    by_cases k3 : kk = 3
    · have hdl : delta kk = 1 := by rw [k3]; rfl
      have hk4 : ¬ kk = 4 := by omega
      have hJ : swJ P k i dp kk (dp + 1) := ⟨by rw [hdl], k0, fun c => absurd c hk4⟩
      (repeat' (first | refine WP.seq ?_ | refine WP.block ?_ | ((first | refine WP.region ?_ | refine WP.condW ?_ | refine WP.ret ?_ | refine WP.exit ?_ | refine WP.skip ?_); simp only [go_sem, k3, tyAll]) | ((first | refine WP.drawW 13 (by decide +kernel) (by kernel_rfl) ?_); simp only [go_sem, k3, tyAll]) |  refine And.intro ?_ ?_ | intro _))
      all_goals first | omega | rfl | exact ⟨dp + 1, hJ, by (first | rfl | exact ⟨rfl, rfl⟩ | exact ⟨rfl, rfl, rfl⟩ | exact ⟨rfl, rfl, rfl, rfl⟩ | exact ⟨rfl, rfl, rfl, rfl, rfl⟩ | exact ⟨⟨rfl, rfl⟩, rfl⟩ | simp)⟩ | exact ⟨dp + 1, by rw [← k3]; exact hJ, by (first | rfl | exact ⟨rfl, rfl⟩ | exact ⟨rfl, rfl, rfl⟩ | exact ⟨rfl, rfl, rfl, rfl⟩ | exact ⟨rfl, rfl, rfl, rfl, rfl⟩ | exact ⟨⟨rfl, rfl⟩, rfl⟩ | simp)⟩ | skip
    by_cases k5 : kk = 5
    · have hdl : delta kk = 1 := by rw [k5]; rfl
      have hk4 : ¬ kk = 4 := by omega
      have hJ : swJ P k i dp kk (dp + 1) := ⟨by rw [hdl], k0, fun c => absurd c hk4⟩
      (repeat' (first | refine WP.seq ?_ | refine WP.block ?_ | ((first | refine WP.region ?_ | refine WP.condW ?_ | refine WP.ret ?_ | refine WP.exit ?_ | refine WP.skip ?_); simp only [go_sem, k5, tyAll]) | ((first | refine WP.drawW 13 (by decide +kernel) (by kernel_rfl) ?_); simp only [go_sem, k5, tyAll]) |  refine And.intro ?_ ?_ | intro _))
      all_goals first | omega | rfl | exact ⟨dp + 1, hJ, by (first | rfl | exact ⟨rfl, rfl⟩ | exact ⟨rfl, rfl, rfl⟩ | exact ⟨rfl, rfl, rfl, rfl⟩ | exact ⟨rfl, rfl, rfl, rfl, rfl⟩ | exact ⟨⟨rfl, rfl⟩, rfl⟩ | simp)⟩ | exact ⟨dp + 1, by rw [← k5]; exact hJ, by (first | rfl | exact ⟨rfl, rfl⟩ | exact ⟨rfl, rfl, rfl⟩ | exact ⟨rfl, rfl, rfl, rfl⟩ | exact ⟨rfl, rfl, rfl, rfl, rfl⟩ | exact ⟨⟨rfl, rfl⟩, rfl⟩ | simp)⟩ | skip
    by_cases k7 : kk = 7
    · have hdl : delta kk = -1 := by rw [k7]; rfl
      have hk4 : ¬ kk = 4 := by omega
      have hJ : swJ P k i dp kk (dp - 1) := ⟨by rw [hdl]; omega, k0, fun c => absurd c hk4⟩
      (repeat' (first | refine WP.seq ?_ | refine WP.block ?_ | ((first | refine WP.region ?_ | refine WP.condW ?_ | refine WP.ret ?_ | refine WP.exit ?_ | refine WP.skip ?_); simp only [go_sem, k7, tyAll]) | ((first | refine WP.drawW 13 (by decide +kernel) (by kernel_rfl) ?_); simp only [go_sem, k7, tyAll]) |  refine And.intro ?_ ?_ | intro _))
      all_goals first | omega | rfl | exact ⟨dp - 1, hJ, by (first | rfl | exact ⟨rfl, rfl⟩ | exact ⟨rfl, rfl, rfl⟩ | exact ⟨rfl, rfl, rfl, rfl⟩ | exact ⟨rfl, rfl, rfl, rfl, rfl⟩ | exact ⟨⟨rfl, rfl⟩, rfl⟩ | simp)⟩ | exact ⟨dp - 1, by rw [← k7]; exact hJ, by (first | rfl | exact ⟨rfl, rfl⟩ | exact ⟨rfl, rfl, rfl⟩ | exact ⟨rfl, rfl, rfl, rfl⟩ | exact ⟨rfl, rfl, rfl, rfl, rfl⟩ | exact ⟨⟨rfl, rfl⟩, rfl⟩ | simp)⟩ | skip
    have hdl : delta kk = 0 := delta_else (opensK_f k0 k3 k5) k7
    by_cases hk4 : kk = 4
    rotate_left
    · have hJ : swJ P k i dp kk dp := ⟨by rw [hdl]; omega, k0, fun c => absurd c hk4⟩
      (repeat' (first | refine WP.seq ?_ | refine WP.block ?_ | ((first | refine WP.region ?_ | refine WP.condW ?_ | refine WP.ret ?_ | refine WP.exit ?_ | refine WP.skip ?_); simp only [go_sem, k0, k3, k5, k7, hk4, tyAll]) | ((first | refine WP.drawW 13 (by decide +kernel) (by kernel_rfl) ?_); simp only [go_sem, k0, k3, k5, k7, hk4, tyAll]) |  refine And.intro ?_ ?_ | intro _))
      all_goals first | omega | rfl | exact ⟨dp, hJ, by (first | rfl | exact ⟨rfl, rfl⟩ | exact ⟨rfl, rfl, rfl⟩ | exact ⟨rfl, rfl, rfl, rfl⟩ | exact ⟨rfl, rfl, rfl, rfl, rfl⟩ | exact ⟨⟨rfl, rfl⟩, rfl⟩ | simp)⟩ | skip
    (repeat' (first | refine WP.seq ?_ | refine WP.block ?_ | ((first | refine WP.region ?_ | refine WP.condW ?_ | refine WP.ret ?_ | refine WP.exit ?_ | refine WP.skip ?_); simp only [go_sem, hk4, tyAll]) | ((first | refine WP.drawW 13 (by decide +kernel) (by kernel_rfl) ?_); simp only [go_sem, hk4, tyAll]) |  refine And.intro ?_ ?_ | intro _))
    all_goals first | omega | skip
    refine WP.loop (fun s : Nat × Bool => ⟨[(0, .sl 4 (P.map encLine)), (1, .v (.int .i64 k)), (2, .v (.int .i64 e)), (7, .sl 1 (A.map encS)), (8, .v (.int .i64 dp)), (9, .v (.int .i64 i)), (10, .v (.bool s.2)), (11, .v (.int .i64 s.1))], []⟩)
      (fun s => k ≤ s.1 ∧ s.1 ≤ i ∧ (s.2 = true ↔ ∃ j : Nat, k ≤ j ∧ j < s.1 ∧ elseOf P j = (i : Int))) (fun s => i - s.1) (k, false) ⟨Nat.le_refl _, by simp only; omega, ⟨(fun h => by simp at h), fun ⟨j, a, b, _⟩ => by simp only at b; omega⟩⟩ ?_ ?_
    · (simp only [go_sem, tyAll] <;> (first | rfl | exact ⟨rfl, rfl⟩ | exact ⟨rfl, rfl, rfl⟩ | exact ⟨rfl, rfl, rfl, rfl⟩ | exact ⟨rfl, rfl, rfl, rfl, rfl⟩ | exact ⟨⟨rfl, rfl⟩, rfl⟩ | simp))
    rintro ⟨j, fb⟩ ⟨g1, g2, g3⟩
    simp only at g1 g2 g3 ⊢
    by_cases hltf : j < i
    · have hlif : (j : Int) < (i : Int) := by omega
      cases fb with
      | true =>
        obtain ⟨j0, a, b, c⟩ := g3.1 rfl
        have hnx : (true = true ↔ ∃ t : Nat, k ≤ t ∧ t < j + 1 ∧ elseOf P t = (i : Int)) := ⟨fun _ => ⟨j0, a, by omega, c⟩, fun _ => rfl⟩
        (repeat' (first | refine WP.seq ?_ | refine WP.block ?_ | ((first | refine WP.region ?_ | refine WP.condW ?_ | refine WP.ret ?_ | refine WP.exit ?_ | refine WP.skip ?_); simp only [go_sem, hlif, tyAll]) | ((first | refine WP.drawW 13 (by decide +kernel) (by kernel_rfl) ?_); simp only [go_sem, hlif, tyAll]) |  refine And.intro ?_ ?_ | intro _))
        all_goals first | omega | exact ⟨(j + 1, true), ⟨by simp only; omega, by simp only; omega, hnx⟩, by simp only; omega, by (first | rfl | exact ⟨rfl, rfl⟩ | exact ⟨rfl, rfl, rfl⟩ | exact ⟨rfl, rfl, rfl, rfl⟩ | exact ⟨rfl, rfl, rfl, rfl, rfl⟩ | exact ⟨⟨rfl, rfl⟩, rfl⟩ | simp)⟩ | skip
      | false =>
        have hz : ∀ t : Nat, k ≤ t → t < j → ¬ elseOf P t = (i : Int) := fun t a b c => by have := g3.2 ⟨t, a, b, c⟩; cases this
        by_cases hc : elseOf P j = (i : Int)
        · have hnx : (true = true ↔ ∃ t : Nat, k ≤ t ∧ t < j + 1 ∧ elseOf P t = (i : Int)) := ⟨fun _ => ⟨j, g1, by omega, hc⟩, fun _ => rfl⟩
          (repeat' (first | refine WP.seq ?_ | refine WP.block ?_ | ((first | refine WP.region ?_ | refine WP.condW ?_ | refine WP.ret ?_ | refine WP.exit ?_ | refine WP.skip ?_); simp only [go_sem, hlif, hc, tyAll]) | ((first | refine WP.drawW 13 (by decide +kernel) (by kernel_rfl) ?_); simp only [go_sem, hlif, hc, tyAll]) |  refine And.intro ?_ ?_ | intro _))
          all_goals first | omega | exact ⟨(j + 1, true), ⟨by simp only; omega, by simp only; omega, hnx⟩, by simp only; omega, by (first | rfl | exact ⟨rfl, rfl⟩ | exact ⟨rfl, rfl, rfl⟩ | exact ⟨rfl, rfl, rfl, rfl⟩ | exact ⟨rfl, rfl, rfl, rfl, rfl⟩ | exact ⟨⟨rfl, rfl⟩, rfl⟩ | simp)⟩ | skip
        · have hnx : (false = true ↔ ∃ t : Nat, k ≤ t ∧ t < j + 1 ∧ elseOf P t = (i : Int)) := ⟨(fun h => by cases h), fun ⟨t, a, b, c⟩ => by
            rcases Nat.lt_or_ge t j with q | q
            · exact absurd c (hz t a q)
            · rw [show t = j by omega] at c; exact absurd c hc⟩
          (repeat' (first | refine WP.seq ?_ | refine WP.block ?_ | ((first | refine WP.region ?_ | refine WP.condW ?_ | refine WP.ret ?_ | refine WP.exit ?_ | refine WP.skip ?_); simp only [go_sem, hlif, hc, tyAll]) | ((first | refine WP.drawW 13 (by decide +kernel) (by kernel_rfl) ?_); simp only [go_sem, hlif, hc, tyAll]) |  refine And.intro ?_ ?_ | intro _))
          all_goals first | omega | exact ⟨(j + 1, false), ⟨by simp only; omega, by simp only; omega, hnx⟩, by simp only; omega, by simp [hc]⟩ | skip
    have hgef : ¬ (j : Int) < (i : Int) := by omega
    have hji : i = j := by omega
    subst hji
    cases fb with
    | false =>
      rw [condS_no (P := P) (k := k) q1 hlt (fun q => by have := g3.2 (q.el (by rw [hkd]; exact hk4)); cases this)]
      (repeat' (first | refine WP.seq ?_ | refine WP.block ?_ | ((first | refine WP.region ?_ | refine WP.condW ?_ | refine WP.ret ?_ | refine WP.exit ?_ | refine WP.skip ?_); simp only [go_sem, hgef, tyAll]) | ((first | refine WP.drawW 13 (by decide +kernel) (by kernel_rfl) ?_); simp only [go_sem, hgef, tyAll]) |  refine And.intro ?_ ?_ | intro _))
      all_goals first | omega | rfl | skip
    | true =>
      have hfnd := g3.1 rfl
      have hJ : swJ P k i dp kk dp := ⟨by rw [hdl]; omega, k0, fun _ => hfnd⟩
      (repeat' (first | refine WP.seq ?_ | refine WP.block ?_ | ((first | refine WP.region ?_ | refine WP.condW ?_ | refine WP.ret ?_ | refine WP.exit ?_ | refine WP.skip ?_); simp only [go_sem, hgef, tyAll]) | ((first | refine WP.drawW 13 (by decide +kernel) (by kernel_rfl) ?_); simp only [go_sem, hgef, tyAll]) |  refine And.intro ?_ ?_ | intro _))
      all_goals first | omega | rfl | exact ⟨dp, hJ, by (first | rfl | exact ⟨rfl, rfl⟩ | exact ⟨rfl, rfl, rfl⟩ | exact ⟨rfl, rfl, rfl, rfl⟩ | exact ⟨rfl, rfl, rfl, rfl, rfl⟩ | exact ⟨⟨rfl, rfl⟩, rfl⟩ | simp)⟩ | exact ⟨dp, by rw [← hk4]; exact hJ, by (first | rfl | exact ⟨rfl, rfl⟩ | exact ⟨rfl, rfl, rfl⟩ | exact ⟨rfl, rfl, rfl, rfl⟩ | exact ⟨rfl, rfl, rfl, rfl, rfl⟩ | exact ⟨⟨rfl, rfl⟩, rfl⟩ | simp)⟩ | skip
  rintro d ⟨hd, k0, hel4⟩
  by_cases h4 : d ≤ 4
  rotate_left
  · have h4a : (4 : Int) < d := by omega
    rw [condS_no (P := P) (k := k) q1 hlt (fun q => by have := q.dp; omega)]
    (repeat' (first | refine WP.seq ?_ | refine WP.block ?_ | ((first | refine WP.region ?_ | refine WP.condW ?_ | refine WP.ret ?_ | refine WP.exit ?_ | refine WP.skip ?_); simp only [go_sem, h4a, tyAll]) | ((first | refine WP.drawW 13 (by decide +kernel) (by kernel_rfl) ?_); simp only [go_sem, h4a, tyAll]) |  refine And.intro ?_ ?_ | intro _))
    all_goals first | omega | rfl | exact hsh _ ‹_› | skip
  have h4a : ¬ (4 : Int) < d := by omega
  have hyes : knownE P A EE = true → condS P k i := fun q => ⟨by rw [hkd]; exact k0, fun c => hel4 (hkd.symm.trans c), by omega, by rw [hA, hex]; exact q⟩
  have hnon : ∀ (j : Nat) (hj : j < EE.length), knownT P A EE[j] = false → bodySB P k e = false := fun j hj q => condS_no (P := P) (k := k) q1 hlt (fun c => by have := c.kw; rw [hA, hex, knownE_no hj q] at this; cases this)
  (repeat' (first | refine WP.seq ?_ | refine WP.block ?_ | ((first | refine WP.region ?_ | refine WP.condW ?_ | refine WP.ret ?_ | refine WP.exit ?_ | refine WP.skip ?_); simp only [go_sem, h4a, tyAll]) | ((first | refine WP.drawW 13 (by decide +kernel) (by kernel_rfl) ?_); simp only [go_sem, h4a, tyAll]) |  refine And.intro ?_ ?_ | intro _))
  all_goals first | omega | skip
  refine WP.loop (fun j : Nat => ⟨[(0, .sl 4 (P.map encLine)), (1, .v (.int .i64 k)), (2, .v (.int .i64 e)), (7, .sl 1 (A.map encS)), (8, .v (.int .i64 (d))), (9, .v (.int .i64 i)), (12, .v (.int .i64 j))], []⟩)
    (fun j => j ≤ EE.length ∧ ∀ t (ht : t < EE.length), t < j → knownT P A EE[t] = true) (fun j => EE.length - j) 0 ⟨by omega, fun t ht h => by omega⟩ ?_ ?_
  · (simp only [go_sem, tyAll] <;> (first | rfl | exact ⟨rfl, rfl⟩ | exact ⟨rfl, rfl, rfl⟩ | exact ⟨rfl, rfl, rfl, rfl⟩ | exact ⟨rfl, rfl, rfl, rfl, rfl⟩ | exact ⟨⟨rfl, rfl⟩, rfl⟩ | simp))
  rintro j ⟨hj, hb⟩
  by_cases hltj : j < EE.length
  rotate_left
  · have hgej : ¬ (j : Int) < EE.length := by omega
    have hcc := hyes (knownE_yes fun t ht => hb t ht (by omega))
    have hnx : ∀ t : Nat, k < t → t < i + 1 → condS P k t := fun t a b => by
      rcases Nat.lt_or_ge t i with c | c
      · exact q4 t a c
      · rw [show t = i by omega]; exact hcc
    (repeat' (first | refine WP.seq ?_ | refine WP.block ?_ | ((first | refine WP.region ?_ | refine WP.condW ?_ | refine WP.ret ?_ | refine WP.exit ?_ | refine WP.skip ?_); simp only [go_sem, h2, hgej, tyAll]) | ((first | refine WP.drawW 13 (by decide +kernel) (by kernel_rfl) ?_); simp only [go_sem, h2, hgej, tyAll]) |  refine And.intro ?_ ?_ | intro _))
    all_goals first | omega | rfl | exact hsh _ ‹_› | exact ⟨(i + 1, d), ⟨by simp only; omega, by simp only; omega, by simp only; omega, hnx⟩, by simp only; omega, by (first | rfl | exact ⟨rfl, rfl⟩ | exact ⟨rfl, rfl, rfl⟩ | exact ⟨rfl, rfl, rfl, rfl⟩ | exact ⟨rfl, rfl, rfl, rfl, rfl⟩ | exact ⟨⟨rfl, rfl⟩, rfl⟩ | simp)⟩ | skip
  have hlij : (j : Int) < EE.length := by omega
  have h5 := rowAt_map encTok EE j hltj
  have hno := hnon j hltj
  have hnx := fun q => knownE_nx (P := P) (A := A) hltj q hb
  generalize EE[j] = t at h5 hno hnx
  obtain ⟨tk, tn, ts⟩ := t
  rw [encTok] at h5
  simp only at h5
  by_cases t1 : tk = 1
  · subst t1
    by_cases hm : ts ∈ A
    · have hmi : ¬ firstIdx (strIs ts) A < 0 := by have := hm; rw [← firstIdx_mem] at this; omega
      have hkt : knownT P A ⟨1, tn, ts⟩ = true := by simp [knownT, hm]
      have hq := hnx hkt
      (repeat' (first | refine WP.seq ?_ | refine WP.block ?_ | ((first | refine WP.region ?_ | refine WP.condW ?_ | refine WP.ret ?_ | refine WP.exit ?_ | refine WP.skip ?_); simp only [go_sem, h2, hlij, h5, hmi, tyAll]) | ((first | refine WP.drawW 13 (by decide +kernel) (by kernel_rfl) ?_); simp only [go_sem, h2, hlij, h5, hmi, tyAll]) |  refine And.intro ?_ ?_ | intro _))
      all_goals first | omega | rfl | exact hsh _ ‹_› | exact ⟨j + 1, ⟨by omega, hq⟩, by omega, by (first | rfl | exact ⟨rfl, rfl⟩ | exact ⟨rfl, rfl, rfl⟩ | exact ⟨rfl, rfl, rfl, rfl⟩ | exact ⟨rfl, rfl, rfl, rfl, rfl⟩ | exact ⟨⟨rfl, rfl⟩, rfl⟩ | simp)⟩ | skip
    · have hmi : firstIdx (strIs ts) A < 0 := by have := hm; rw [← firstIdx_mem] at this; omega
      rw [hno (by simp [knownT, hm])]
      (repeat' (first | refine WP.seq ?_ | refine WP.block ?_ | ((first | refine WP.region ?_ | refine WP.condW ?_ | refine WP.ret ?_ | refine WP.exit ?_ | refine WP.skip ?_); simp only [go_sem, h2, hlij, h5, hmi, tyAll]) | ((first | refine WP.drawW 13 (by decide +kernel) (by kernel_rfl) ?_); simp only [go_sem, h2, hlij, h5, hmi, tyAll]) |  refine And.intro ?_ ?_ | intro _))
      all_goals first | omega | rfl | exact hsh _ ‹_› | skip
  by_cases t7 : tk = 7
  rotate_left
  · have hq := hnx (by simp [knownT, t1, t7])
    (repeat' (first | refine WP.seq ?_ | refine WP.block ?_ | ((first | refine WP.region ?_ | refine WP.condW ?_ | refine WP.ret ?_ | refine WP.exit ?_ | refine WP.skip ?_); simp only [go_sem, h2, hlij, h5, t1, t7, tyAll]) | ((first | refine WP.drawW 13 (by decide +kernel) (by kernel_rfl) ?_); simp only [go_sem, h2, hlij, h5, t1, t7, tyAll]) |  refine And.intro ?_ ?_ | intro _))
    all_goals first | omega | rfl | exact hsh _ ‹_› | exact ⟨j + 1, ⟨by omega, hq⟩, by omega, by (first | rfl | exact ⟨rfl, rfl⟩ | exact ⟨rfl, rfl, rfl⟩ | exact ⟨rfl, rfl, rfl, rfl⟩ | exact ⟨rfl, rfl, rfl, rfl, rfl⟩ | exact ⟨⟨rfl, rfl⟩, rfl⟩ | simp)⟩ | skip
  subst t7
  rcases findFn_form P ts with hf | ⟨f, hf, hff⟩
  · rw [hno (by simp [knownT, hf])]
    have h3 := rowAt_map encLine P 0 (by omega)
    rw [encLine] at h3
    (repeat' (first | refine WP.seq ?_ | refine WP.block ?_ | ((first | refine WP.region ?_ | refine WP.condW ?_ | refine WP.ret ?_ | refine WP.exit ?_ | refine WP.skip ?_); simp only [go_sem, h2, hlij, h5, hf, h3, tyAll]) | ((first | refine WP.drawW 13 (by decide +kernel) (by kernel_rfl) ?_); simp only [go_sem, h2, hlij, h5, hf, h3, tyAll]) |  refine And.intro ?_ ?_ | intro _))
    all_goals first | omega | rfl | exact hsh _ ‹_› | skip
  · have h3 := rowAt_map encLine P f hf
    rw [encLine] at h3
    have hal := argsAt_lt hf
    have hf0 : ¬ (f : Int) < 0 := by omega
    have hkt : knownT P A ⟨7, tn, ts⟩ = decide ((P[f].args.length : Int) = tn) := by simp [knownT, hff, hal]
    have hsl : P[f].args.length ≤ 1048576 := LineP.shA (hL _ (List.getElem_mem hf))
    generalize P[f].args = AA at h3 hkt hsl
    by_cases hc : (AA.length : Int) = tn
    · have hq := hnx (by rw [hkt]; exact decide_eq_true hc)
      (repeat' (first | refine WP.seq ?_ | refine WP.block ?_ | ((first | refine WP.region ?_ | refine WP.condW ?_ | refine WP.ret ?_ | refine WP.exit ?_ | refine WP.skip ?_); simp only [go_sem, h2, hlij, h5, hff, hf0, h3, hc, tyAll]) | ((first | refine WP.drawW 13 (by decide +kernel) (by kernel_rfl) ?_); simp only [go_sem, h2, hlij, h5, hff, hf0, h3, hc, tyAll]) |  refine And.intro ?_ ?_ | intro _))
      all_goals first | omega | rfl | exact hsh _ ‹_› | exact ⟨j + 1, ⟨by omega, hq⟩, by omega, by (first | rfl | exact ⟨rfl, rfl⟩ | exact ⟨rfl, rfl, rfl⟩ | exact ⟨rfl, rfl, rfl, rfl⟩ | exact ⟨rfl, rfl, rfl, rfl, rfl⟩ | exact ⟨⟨rfl, rfl⟩, rfl⟩ | simp)⟩ | skip
    · rw [hno (by rw [hkt]; exact decide_eq_false hc)]
      (repeat' (first | refine WP.seq ?_ | refine WP.block ?_ | ((first | refine WP.region ?_ | refine WP.condW ?_ | refine WP.ret ?_ | refine WP.exit ?_ | refine WP.skip ?_); simp only [go_sem, h2, hlij, h5, hff, hf0, h3, hc, tyAll]) | ((first | refine WP.drawW 13 (by decide +kernel) (by kernel_rfl) ?_); simp only [go_sem, h2, hlij, h5, hff, hf0, h3, hc, tyAll]) |  refine And.intro ?_ ?_ | intro _))
      all_goals first | omega | rfl | exact hsh _ ‹_› | skip
end
end
end Go.Proofs.YtdhkhapbldkkdaaGreatDoor
namespace Go.Proofs.YtdhkhapbldkkdaaGreatDoor
set_option linter.unusedVariables false
theorem funs_mem {P : List Line} {n : Nat} {x : Int} : x ∈ funs P n ↔ ∃ t : Nat, t < n ∧ kd P t = 0 ∧ x = (t : Int) := by
  unfold funs
  rw [List.mem_map]
  constructor
  · rintro ⟨t, ht, rfl⟩
    obtain ⟨a, b⟩ := List.mem_filter.1 ht
    exact ⟨t, List.mem_range.1 a, of_decide_eq_true b, rfl⟩
  · rintro ⟨t, a, b, rfl⟩
    exact ⟨t, List.mem_filter.2 ⟨List.mem_range.2 a, decide_eq_true b⟩, rfl⟩
theorem funs_sorted (P : List Line) : ∀ n : Nat, (funs P n).Pairwise (· < ·)
  | 0 => by simp [funs]
  | n + 1 => by
    rw [funs_succ]
    split
    · rw [List.pairwise_append]
      refine ⟨funs_sorted P n, by simp, fun a ha b hb => ?_⟩
      obtain ⟨t, h1, _, rfl⟩ := funs_mem.1 ha
      simp only [List.mem_cons, List.not_mem_nil, or_false] at hb
      subst hb; omega
    · rw [List.append_nil]; exact funs_sorted P n
theorem funs_le {P : List Line} {n i j : Nat} (hi : i < (funs P n).length) (hj : j < (funs P n).length) (h : i ≤ j) : (funs P n)[i] ≤ (funs P n)[j] := by
  rcases Nat.lt_or_ge i j with q | q
  · exact Int.le_of_lt (List.pairwise_iff_getElem.1 (funs_sorted P n) i j hi hj q)
  · have : i = j := by omega
    subst this; exact Int.le_refl _
theorem funs_lt {P : List Line} {n i j : Nat} (hi : i < (funs P n).length) (hj : j < (funs P n).length) (h : i < j) : (funs P n)[i] < (funs P n)[j] := List.pairwise_iff_getElem.1 (funs_sorted P n) i j hi hj h
theorem funs_get {P : List Line} {n i : Nat} (hi : i < (funs P n).length) : ∃ t : Nat, t < n ∧ kd P t = 0 ∧ (funs P n)[i] = (t : Int) := funs_mem.1 (List.getElem_mem hi)
structure FnI (P : List Line) (idx next : Nat) : Prop where
  nle : next ≤ P.length
  up : Tiles (bodyI P) P next → Tiles (bodyI P) P 0
  dn : Tiles (bodyI P) P 0 → Tiles (bodyI P) P next
  first : ∀ t : Nat, t < next → kd P t = 0 → findFn P (nameAt P t) = (t : Int)
  lt : ∀ (j : Nat) (hj : j < (funs P P.length).length), idx ≤ j → (next : Int) ≤ (funs P P.length)[j]
  rest : ∀ t : Nat, t < P.length → kd P t = 0 → next ≤ t → ∃ (j : Nat) (hj : j < (funs P P.length).length), idx ≤ j ∧ (funs P P.length)[j] = (t : Int)
theorem FnI.zero (P : List Line) : FnI P 0 0 := by
  refine ⟨by omega, id, id, fun t h => by omega, fun j hj _ => ?_, fun t h1 h2 _ => ?_⟩
  · obtain ⟨t, _, _, h⟩ := funs_get hj; omega
  · obtain ⟨j, hj, h⟩ := List.mem_iff_getElem.1 (funs_mem.2 ⟨t, h1, h2, rfl⟩ : (t : Int) ∈ funs P P.length)
    exact ⟨j, hj, by omega, h⟩
theorem FnI.head {P : List Line} {idx next k : Nat} (h : FnI P idx next) (hi : idx < (funs P P.length).length) (hk : (funs P P.length)[idx] = (k : Int)) (hT : Tiles (bodyI P) P 0) : k = next := by
  obtain ⟨t, t1, t2, t3⟩ := funs_get hi
  have h1 := h.lt idx hi (Nat.le_refl _)
  cases h.dn hT with
  | done => omega
  | step hk0 he hb hr =>
    have hlt : next < P.length := kd_in (by omega)
    obtain ⟨j, hj, a, b⟩ := h.rest next hlt hk0 (Nat.le_refl _)
    have := funs_le hi hj a
    omega
theorem FnI.ends {P : List Line} {idx next k : Nat} (h : FnI P idx next) (hi : idx < (funs P P.length).length) (hk : (funs P P.length)[idx] = (k : Int)) (hT : Tiles (bodyI P) P 0) : ∃ e : Nat, endOf P k = (e : Int) ∧ IsEnd P k e ∧ bodyI P k e := by
  have hkn := h.head hi hk hT
  subst hkn
  obtain ⟨t, t1, t2, t3⟩ := funs_get hi
  have hT' := h.dn hT
  cases hT' with
  | done => omega
  | step hk0 he hb hr => exact ⟨_, endOf_of (opens_of (.inl hk0)) he, he, hb⟩
theorem FnI.next {P : List Line} {idx k e : Nat} (h : FnI P idx k) (hi : idx < (funs P P.length).length) (hk : (funs P P.length)[idx] = (k : Int)) (he : IsEnd P k e) (hb : bodyI P k e) (hf : findFn P (nameAt P k) = (k : Int)) : FnI P (idx + 1) (e + 1) := by
  obtain ⟨t, t1, t2, t3⟩ := funs_get hi
  have hkt : t = k := by omega
  subst hkt
  have hel := he.lt
  have hle := he.le
  refine ⟨by omega, fun hT => h.up (.step t2 he hb hT), fun hT => ?_, fun s hs hs0 => ?_, fun j hj hij => ?_, fun s hs hs0 hn => ?_⟩
  · have hT' := h.dn hT
    cases hT' with
    | done => omega
    | step hk0 he' hb' hr => rw [he.inj he']; exact hr
  · rcases Nat.lt_or_ge s t with q | q
    · exact h.first s q hs0
    · rcases Nat.lt_or_ge t s with q2 | q2
      · exact absurd hs0 (hb.2 s q2 (by omega)).1
      · rw [show s = t by omega]; exact hf
  · have h1 := funs_lt hi hj (by omega)
    obtain ⟨u, u1, u2, u3⟩ := funs_get hj
    rcases Nat.lt_or_ge e u with q | q
    · omega
    · exact absurd u2 (hb.2 u (by omega) q).1
  · obtain ⟨j, hj, a, b⟩ := h.rest s hs hs0 (by omega)
    refine ⟨j, hj, ?_, b⟩
    rcases Nat.lt_or_ge idx j with q | q
    · exact q
    · have : j = idx := by omega
      subst this; omega
theorem FnI.fin {P : List Line} {next : Nat} (h : FnI P (funs P P.length).length next) : Tiles (bodyI P) P 0 ↔ next = P.length := by
  constructor
  · intro hT
    have hT' := h.dn hT
    cases hT' with
    | done => rfl
    | step hk0 he hb hr =>
      obtain ⟨j, hj, a, _⟩ := h.rest next (kd_in (by omega)) hk0 (Nat.le_refl _)
      omega
  · intro hn
    exact h.up (by rw [hn]; exact .done)
theorem progOk_no {P : List Line} (h : ProgI P → False) : progOk P = false := by
  cases hb : progOk P with
  | false => rfl
  | true => exact (h (progOk_iff'.1 hb)).elim
theorem progOk_noS {P : List Line} (h : ProgS P → False) : progOk P = false := by
  cases hb : progOk P with
  | false => rfl
  | true => exact (h (progOk_iff.1 hb)).elim
end Go.Proofs.YtdhkhapbldkkdaaGreatDoor

