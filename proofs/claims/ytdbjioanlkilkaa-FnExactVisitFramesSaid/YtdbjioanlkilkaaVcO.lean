/-
  DERIVED. As VcN: an operation there is what the model's run does; any order.
-/
import Derived.Test.YtdbjioanlkilkaaVcN
namespace Go.Vc
set_option linter.unusedVariables false
set_option linter.unusedSimpArgs false
section
variable {P : Program} {tys : List (Nat × TyD)} {C : List (FuncId × Ctr)} {N : Nat} {X0 : Nat → Prop} {M : Nat → BV → Prop} {w0 : World} {st : St} {β : Nat → BV} {a : Act} {w : World}

theorem map_kill_v (d : Nat) (l : List Value) : (l.map SV.v).map (SV.kill d) = l.map SV.v := by
  rw [List.map_map]; rfl

theorem dlt_sound (hA : Ap P X0 M w0) (hty : ∀ T d, lk T tys = some d → TyOk P T d) (hC : COk P C) (h : Sim N X0 M w0 st β a w) {ops : Array Oper} {o : Oper} {d : Nat} {δ : Dl} (hw : st.dlt tys C N ops o d δ) {Q : Exit → Act → World → Prop} :
    if Region.wanted o (yielded ops a.tmps) then o.wp P a w (Ok N X0 M w0 fun st' => st' = st.dapp d δ) Q else Ok N X0 M w0 (fun st' => st' = st.dapp d δ) (a.put o.dst undef) w := by
  obtain ⟨hod, hw⟩ := hw
  rcases hw with ⟨hv, hm, hg⟩ | ⟨hgd, hd, hw⟩
  · have e : st.dapp d δ = st.put o.dst δ.x := by
      rw [hod]
      simp [St.dapp, Dl.ids, hm, hg, St.killL, St.put]
    rw [e]
    exact val_sound hA hty hC h hv
  · have hwant : Region.wanted o (yielded ops a.tmps) = true := by simp [Region.wanted, hgd]
    rw [if_pos hwant]
    have hdN : d < N := by rw [hod] at hd; simpa [dstOk] using hd
    have hN : ∀ e, o.dst = some e → e < N := dst_lt hd
    cases ho : o.op with
    | alloc T =>
      rw [ho] at hw
      simp only at hw
      split at hw
      case h_2 => exact hw.elim
      case h_1 _ t ht =>
        obtain ⟨h1, rfl⟩ := hw
        refine eff_alloc hty h ho hN ?_
        unfold St.eff
        rw [ho]
        simp only [hod, ht]
        refine ⟨h1, ?_⟩
        simp only [St.new, St.dapp, Dl.ids, List.map_cons, List.map_nil, List.append_nil, St.killL, Ob.kill, map_kill_v, List.cons_append, List.nil_append]
    | box T x =>
      rw [ho] at hw
      simp only at hw
      obtain ⟨h1, h2, h3, rfl⟩ := hw
      refine eff_box (tys := tys) h ho hN ?_
      unfold St.eff
      rw [ho]
      simp only [hod]
      refine ⟨h1, h2, ?_⟩
      simp only [St.new, St.dapp, Dl.ids, List.map_cons, List.map_nil, List.append_nil, St.killL, Ob.kill, h3, List.cons_append, List.nil_append]
    | buildSlice T n parts =>
      rw [ho] at hw
      simp only at hw
      split at hw
      case h_2 => exact hw.elim
      case h_1 _ t ht =>
        split at hw
        case h_2 => exact hw.elim
        case h_1 _ e he =>
          obtain ⟨h1, h2, h3, h4, h5, h6, rfl⟩ := hw
          refine eff_buildSlice hty h ho hN ?_
          unfold St.eff
          rw [ho]
          simp only [hod, ht, he]
          exact ⟨h1, h2, h3, h4, h5, h6, rfl⟩
    | makeSlice T l cc =>
      rw [ho] at hw
      simp only at hw
      split at hw
      case h_2 => exact hw.elim
      case h_1 _ _ _ t n m ht hl hc =>
        split at hw
        case h_2 => exact hw.elim
        case h_1 _ e he =>
          obtain ⟨h1, h2, h3, h4, h5, h6, h7, h8, h9, rfl⟩ := hw
          refine eff_makeSlice hty h ho hN ?_
          unfold St.eff
          rw [ho]
          simp only [hod, ht, hl, hc, he]
          exact ⟨h1, h2, h3, h4, h5, h6, h7, h8, h9, rfl⟩
    | call c =>
      rw [ho] at hw
      simp only at hw
      cases hc : c.callee with
      | value x =>
        rw [hc] at hw
        simp only at hw
        split at hw
        case h_2 => exact hw.elim
        case h_1 _ f caps hf =>
          split at hw
          case h_2 => exact hw.elim
          case h_1 _ ctr hctr =>
            obtain ⟨hL, hw⟩ := hw
            refine eff_call (dd := d) hC hA h hN ?_
            unfold St.callD
            rw [ho]
            simp only [hc, hf, hctr]
            generalize ctr.pure d ((st.argL c caps).map (SV.share st.hp)) = q at hw ⊢
            obtain ⟨q1, q2, q3⟩ := q
            obtain ⟨g1, g2, g3, g4, g5, g6, g7, g8, g9, rfl⟩ := hw
            refine ⟨g1, g2, g3, g4, g5, g6, g7, List.all_eq_true.2 fun p hp => (by obtain ⟨e, s, rows, hh⟩ := g8 p hp; rw [hh]; rfl), g9, ?_⟩
            rw [hod]
            simp [St.res, St.put, St.dapp, Dl.ids]
      | invoke r q => rw [hc] at hw; exact hw.elim
      | builtin b =>
        rw [hc] at hw
        cases b <;> first | exact False.elim hw | skip
        simp only at hw ⊢
        split at hw
        case h_2 => exact hw.elim
        case h_1 _ _ x y T T' ha hAt =>
          split at hw
          case h_2 => exact hw.elim
          case h_1 _ _ t news ht hnr =>
            split at hw
            case h_2 => exact hw.elim
            case h_1 _ e he =>
              obtain ⟨h1, h2, h3, h4, h5, h6, h7, hw⟩ := hw
              split at hw
              case h_3 => exact hw.elim
              case h_1 _ j hj =>
                split at hw
                case h_2 => exact hw.elim
                case h_1 _ e' s' rows hl =>
                  obtain ⟨g1, g2, g3, g4, g5, g6, rfl⟩ := hw
                  refine Oper.wp_mono (fun a' w' hk => ?_) (eff_append (K := fun st' => st' = st.app j d (.sl e' s' (rows ++ news))) hty h ho hc hN ?_)
                  · obtain ⟨st', β', rfl, h'⟩ := hk
                    obtain ⟨β2, h2⟩ := Sim.app2 g2 hdN h'
                    exact ⟨_, β2, rfl, h2⟩
                  · unfold St.eff
                    rw [ho]
                    simp only [hc, hod, ha, hAt, ht, hnr, he, hj, hl]
                    exact ⟨h1, h2, h3, h4, h5, h6, h7, g1, g3, g4, g5, g6, trivial⟩
              case h_2 _ hj =>
                obtain ⟨g5, g6, rfl⟩ := hw
                refine eff_append hty h ho hc hN ?_
                unfold St.eff
                rw [ho]
                simp only [hc, hod, ha, hAt, ht, hnr, he, hj]
                exact ⟨h1, h2, h3, h4, h5, h6, h7, g5, g6, rfl⟩
    | _ => rw [ho] at hw; exact hw.elim

theorem parts_mono {st2 : St} {n s : Nat} : ∀ {l : List (Nat × Operand)}, (∀ p ∈ l, st2.ev p.2 = st.ev p.2) → partsIn st n s l → partsIn st2 n s l
  | [], _, h => h
  | (i, x) :: l, he, h => by
    obtain ⟨h1, h2, h3, h4, h5⟩ := h
    have e := he (i, x) List.mem_cons_self
    simp only at e
    exact ⟨by rw [e]; exact h1, h2, by rw [e]; exact h3, by rw [e]; exact h4, parts_mono (fun p hp => he p (List.mem_cons_of_mem _ hp)) h5⟩
theorem rowsIn_mono {st2 : St} {z : List SV} : ∀ {l : List (Nat × Operand)} {rows : List (List SV)}, (∀ p ∈ l, st2.ev p.2 = st.ev p.2) → rowsIn st2 z l rows = rowsIn st z l rows
  | [], _, _ => rfl
  | (i, x) :: l, rows, he => by
    have e := he (i, x) List.mem_cons_self
    simp only at e
    simp only [rowsIn, e]
    exact rowsIn_mono fun p hp => he p (List.mem_cons_of_mem _ hp)

theorem dlt_mono {st2 : St} {ops : Array Oper} {o : Oper} {d : Nat} {δ : Dl} (h : ∀ t ∈ o.looksAt ops, st2.get t = st.get t) (hh : ∀ id ob, lk id st.hp = some ob → lk id st2.hp = some ob) (hw : st.dlt tys C N ops o d δ) : st2.dlt tys C N ops o d δ := by
  obtain ⟨hod, hw⟩ := hw
  refine ⟨hod, ?_⟩
  rcases hw with ⟨hv, hm, hg⟩ | ⟨hgd, hd, hw⟩
  · exact .inl ⟨val_mono h hh hv, hm, hg⟩
  · refine .inr ⟨hgd, hd, ?_⟩
    have hop : ∀ y ∈ o.op.operands, st2.ev y = st.ev y := fun y hy => by
      cases y with
      | tmp t => exact h t (List.mem_append_left _ (List.mem_filterMap.2 ⟨.tmp t, by simpa using hy, rfl⟩))
      | _ => rfl
    cases ho : o.op with
    | alloc T => rw [ho] at hw; exact hw
    | box T x =>
      rw [ho] at hw hop
      simp only [hop x (by simp [Op.operands])] at hw ⊢
      exact hw
    | buildSlice T n parts =>
      rw [ho] at hw hop
      have e : ∀ p ∈ parts.toList, st2.ev p.2 = st.ev p.2 := fun p hp => hop p.2 (by
        simp only [Op.operands, List.mem_toArray, List.mem_map]
        exact ⟨p, hp, rfl⟩)
      simp only at hw ⊢
      split at hw
      case h_2 => exact hw.elim
      case h_1 _ t ht =>
        split at hw
        case h_2 => exact hw.elim
        case h_1 _ e' he =>
          obtain ⟨h1, h2, h3, h4, h5, h6, rfl⟩ := hw
          exact ⟨h1, h2, h3, h4, h5, parts_mono e h6, by rw [rowsIn_mono e]⟩
    | makeSlice T l cc =>
      rw [ho] at hw hop
      simp only [hop l (by simp [Op.operands]), hop cc (by simp [Op.operands])] at hw ⊢
      exact hw
    | call c =>
      rw [ho] at hw hop
      have ha : ∀ y ∈ c.args.toList, st2.ev y = st.ev y := fun y hy => hop y (by simp only [Op.operands, Call.operands, Array.mem_append]; right; simpa using hy)
      simp only at hw ⊢
      cases hc : c.callee with
      | value x =>
        rw [hc] at hw
        have hx : st2.ev x = st.ev x := hop x (by simp [Op.operands, Call.operands, hc])
        simp only [hx] at hw ⊢
        split at hw
        case h_2 => exact hw.elim
        case h_1 _ f caps hf =>
          split at hw
          case h_2 => exact hw.elim
          case h_1 _ ctr hctr =>
            refine ⟨hw.1, ?_⟩
            have hw2 := hw.2
            have hg : ((st.argL c caps).all fun y => (y.share st.hp).good) = true := by
              generalize ctr.pure d ((st.argL c caps).map (SV.share st.hp)) = q at hw2
              obtain ⟨q1, q2, q3⟩ := q
              exact hw2.2.2.1
            obtain ⟨e1, e2⟩ := shareL_mono hh hg
            rw [argL_mono ha, e1]
            generalize ctr.pure d ((st.argL c caps).map (SV.share st.hp)) = q at hw2
            obtain ⟨q1, q2, q3⟩ := q
            obtain ⟨g1, g2, g3, g⟩ := hw2
            exact ⟨g1, fun y hy => by rw [ha y hy]; exact g2 y hy, e2, g⟩
      | invoke r q => rw [hc] at hw; exact hw.elim
      | builtin b =>
        rw [hc] at hw
        cases b <;> first | exact False.elim hw | skip
        simp only at hw ⊢
        split at hw
        case h_2 => exact hw.elim
        case h_1 _ _ x y T T' hxy hAt =>
          have ex := ha x (by rw [hxy]; simp)
          have ey := ha y (by rw [hxy]; simp)
          split at hw
          case h_2 => exact hw.elim
          case h_1 _ _ t news ht hnr =>
            split at hw
            case h_2 => exact hw.elim
            case h_1 _ e he =>
              obtain ⟨h1, h2, h3, h4, h5, h6, h7, hw⟩ := hw
              rw [← ey] at hnr h4
              rw [← ex] at h3 hw
              simp only [hxy, hAt, ht, rowsOf_mono hh hnr, he]
              refine ⟨h1, h2, h3, h4, h5, h6, h7, ?_⟩
              split at hw
              case h_3 => exact hw.elim
              case h_1 _ j hj =>
                split at hw
                case h_2 => exact hw.elim
                case h_1 _ e' s' rows hl =>
                  simp only [hh _ _ hl]
                  exact hw
              case h_2 => exact hw
    | _ => rw [ho] at hw; exact hw
end
end Go.Vc
