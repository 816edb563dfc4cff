/-
  DERIVED. VcS in the form that simp carries out.
-/
import Derived.Test.YtdbjioanlkilkaaVcS
import Derived.Test.YtdbjioanlkilkaaVcK
namespace Go.Vc
set_option linter.unusedVariables false
set_option linter.unusedSimpArgs false

/-- one operation of a region that makes objects -/
def St.dltK (tys : List (Nat × TyD)) (C : List (FuncId × Ctr)) (N : Nat) (ops : Array Oper) (o : Oper) (st : St) (K : Nat → Dl → Prop) : Prop :=
  match o.dst with
  | none => False
  | some d => match o.guard with
    | some _ => st.stepV tys C N ops o fun x => K d ⟨x, [], []⟩
    | none => match o.op with
      | .alloc T => match lk T tys with
        | some t => dstOk N o.dst = true ∧ t.z.all Value.oneCell' = true ∧ K d ⟨.ptr d 0 0 0, [(d, .box T (t.z.map .v))], []⟩
        | none => False
      | .box T x => dstOk N o.dst = true ∧ (st.ev x).need ∧ (st.ev x).strip.cells.all SV.one = true ∧ (st.ev x).strip.cells.map (SV.kill d) = (st.ev x).strip.cells ∧ K d ⟨.ptr d 0 0 0, [(d, .box T (st.ev x).strip.cells)], []⟩
      | .buildSlice T n parts => match lk T tys with
        | some t => match lk t.elem tys with
          | some e => dstOk N o.dst = true ∧ t.kind = 1 ∧ 0 < e.size ∧ n * e.size ≤ 16777216 ∧ e.z.length = e.size ∧ e.z.all Value.oneCell' = true ∧ partsIn st n e.size parts.toList ∧
              K d ⟨.own d, [(d, .sl t.elem e.size (rowsIn st (e.z.map .v) parts.toList (List.replicate n (e.z.map .v))))], []⟩
          | none => False
        | none => False
      | .makeSlice T l c => match lk T tys, (st.ev l).strip, (st.ev c).strip with
        | some t, .v (.int .i64 n), .v (.int .i64 m) => match lk t.elem tys with
          | some e => dstOk N o.dst = true ∧ t.kind = 1 ∧ (st.ev l).need ∧ (st.ev c).need ∧ 0 ≤ n ∧ n ≤ m ∧ m * (e.bytes : Int) ≤ 281474976710656 ∧ 0 < e.bytes ∧ e.z.length = e.size ∧ e.z.all Value.oneCell' = true ∧
              K d ⟨.own d, [(d, .sl t.elem e.size (List.replicate n.toNat (e.z.map .v)))], []⟩
          | none => False
        | _, _, _ => False
      | .call c => match c.callee with
        | .value x => match st.ev x with
          | .fn f caps => match lk f C with
            | some ctr => dstOk N o.dst = true ∧ ctr.isL = false ∧ (match ctr.pure d ((st.argL c caps).map (SV.share st.hp)) with
              | (ob, res, robs) => ob ∧ (∀ y ∈ c.args.toList, (st.ev y).need) ∧ ((st.argL c caps).all fun y => (y.share st.hp).good) = true ∧ res.rok = true ∧ (res.owns2.all fun i => (robs.map (·.1)).contains i) = true ∧
                nodupN (robs.map (·.1)) = true ∧ ((robs.map (·.1)).all fun i => decide (i < 1000000)) = true ∧ (∀ p ∈ robs, ∃ e s rows, p.2 = .sl e s rows) ∧
                (((st.argL c caps).flatMap SV.owns) = [] ∨ (res.isV2 = true ∧ ∀ p ∈ robs, p.2.isV)) ∧ K d ⟨res, robs, []⟩)
            | none => False
          | _ => False
        | .builtin .append => match c.args.toList, c.argTypes.toList with
          | [x, y], [T, T'] => match lk T tys, st.rowsOf (st.ev y).strip with
            | some t, some news => match lk t.elem tys with
              | some e => dstOk N o.dst = true ∧ T = T' ∧ t.kind = 1 ∧ (st.ev x).need ∧ (st.ev y).need ∧ 0 < e.size ∧ 0 < e.bytes ∧ e.z.length = e.size ∧
                (match (st.ev x).strip with
                | .own j => match lk j st.hp with
                  | some (.sl e' s' rows) => j < 1000000 ∧ j ≠ d ∧ e' = t.elem ∧ s' = e.size ∧ (rows.length + news.length) * e.bytes ≤ 140737488355328 ∧ (∀ row ∈ news, row.length = e.size) ∧ K d ⟨.own d, [(d, .sl e' s' (rows ++ news))], [j]⟩
                  | _ => False
                | .v (.slice none 0 0) => news.length * e.bytes ≤ 140737488355328 ∧ (∀ row ∈ news, row.length = e.size) ∧ K d ⟨.own d, [(d, .sl t.elem e.size news)], []⟩
                | _ => False)
              | none => False
            | _, _ => False
          | _, _ => False
        | _ => st.stepV tys C N ops o fun x => K d ⟨x, [], []⟩
      | _ => st.stepV tys C N ops o fun x => K d ⟨x, [], []⟩

theorem dltK_ex {tys : List (Nat × TyD)} {C : List (FuncId × Ctr)} {N : Nat} {ops : Array Oper} {o : Oper} {st : St} {K : Nat → Dl → Prop} (h : st.dltK tys C N ops o K) : ∃ d δ, st.dlt tys C N ops o d δ ∧ K d δ := by
  unfold St.dltK at h
  cases hod : o.dst with
  | none => rw [hod] at h; exact h.elim
  | some d =>
    rw [hod] at h
    simp only at h
    have val : (st.stepV tys C N ops o fun x => K d ⟨x, [], []⟩) → ∃ d δ, st.dlt tys C N ops o d δ ∧ K d δ := fun hv => by
      obtain ⟨x, h1, h2⟩ := stepV_val hv
      exact ⟨d, _, ⟨hod, .inl ⟨h1, rfl, rfl⟩⟩, h2⟩
    cases hg : o.guard with
    | some g => rw [hg] at h; exact val h
    | none =>
      rw [hg] at h
      simp only at h
      cases ho : o.op with
      | alloc T =>
        rw [ho] at h
        simp only at h
        split at h
        case h_2 => exact h.elim
        case h_1 _ t ht =>
          refine ⟨d, _, ⟨hod, .inr ⟨hg, by rw [hod]; exact h.1, ?_⟩⟩, h.2.2⟩
          rw [ho]
          simp only [ht]
          exact ⟨h.2.1, trivial⟩
      | box T x =>
        rw [ho] at h
        simp only at h
        refine ⟨d, _, ⟨hod, .inr ⟨hg, by rw [hod]; exact h.1, ?_⟩⟩, h.2.2.2.2⟩
        rw [ho]
        exact ⟨h.2.1, h.2.2.1, h.2.2.2.1, rfl⟩
      | buildSlice T n parts =>
        rw [ho] at h
        simp only at h
        split at h
        case h_2 => exact h.elim
        case h_1 _ t ht =>
          split at h
          case h_2 => exact h.elim
          case h_1 _ e he =>
            obtain ⟨h0, h1, h2, h3, h4, h5, h6, h7⟩ := h
            refine ⟨d, _, ⟨hod, .inr ⟨hg, by rw [hod]; exact h0, ?_⟩⟩, h7⟩
            rw [ho]
            simp only [ht, he]
            exact ⟨h1, h2, h3, h4, h5, h6, trivial⟩
      | makeSlice T l cc =>
        rw [ho] at h
        simp only at h
        split at h
        case h_2 => exact h.elim
        case h_1 _ _ _ t n m ht hl hc =>
          split at h
          case h_2 => exact h.elim
          case h_1 _ e he =>
            obtain ⟨h0, h1, h2, h3, h4, h5, h6, h7, h8, h9, h10⟩ := h
            refine ⟨d, _, ⟨hod, .inr ⟨hg, by rw [hod]; exact h0, ?_⟩⟩, h10⟩
            rw [ho]
            simp only [ht, hl, hc, he]
            exact ⟨h1, h2, h3, h4, h5, h6, h7, h8, h9, trivial⟩
      | call c =>
        rw [ho] at h
        simp only at h
        cases hc : c.callee with
        | value x =>
          rw [hc] at h
          simp only at h
          split at h
          case h_2 => exact h.elim
          case h_1 _ f caps hf =>
            split at h
            case h_2 => exact h.elim
            case h_1 _ ctr hctr =>
              obtain ⟨h0, h1, h⟩ := h
              have hdl : ∀ {δ : Dl}, (match ctr.pure d ((st.argL c caps).map (SV.share st.hp)) with
                  | (ob, res, robs) => ob ∧ (∀ y ∈ c.args.toList, (st.ev y).need) ∧ ((st.argL c caps).all fun y => (y.share st.hp).good) = true ∧ res.rok = true ∧ (res.owns2.all fun i => (robs.map (·.1)).contains i) = true ∧
                    nodupN (robs.map (·.1)) = true ∧ ((robs.map (·.1)).all fun i => decide (i < 1000000)) = true ∧ (∀ p ∈ robs, ∃ e s rows, p.2 = .sl e s rows) ∧
                    (((st.argL c caps).flatMap SV.owns) = [] ∨ (res.isV2 = true ∧ ∀ p ∈ robs, p.2.isV)) ∧ δ = ⟨res, robs, []⟩) → st.dlt tys C N ops o d δ := fun {δ} hq => by
                refine ⟨hod, .inr ⟨hg, by rw [hod]; exact h0, ?_⟩⟩
                rw [ho]
                simp only [hc, hf, hctr]
                exact ⟨h1, hq⟩
              obtain ⟨g1, g2, g3, g4, g5, g6, g7, g8, g9, g10⟩ := h
              have hq := hdl (δ := ⟨(ctr.pure d ((st.argL c caps).map (SV.share st.hp))).2.1, (ctr.pure d ((st.argL c caps).map (SV.share st.hp))).2.2, []⟩) ⟨g1, g2, g3, g4, g5, g6, g7, g8, g9, rfl⟩
              exact ⟨d, _, hq, g10⟩
        | invoke r q => rw [hc] at h; exact val h
        | builtin b =>
          rw [hc] at h
          cases b <;> first | exact val h | skip
          simp only at h
          split at h
          case h_2 => exact h.elim
          case h_1 _ _ x y T T' ha hAt =>
            split at h
            case h_2 => exact h.elim
            case h_1 _ _ t news ht hnr =>
              split at h
              case h_2 => exact h.elim
              case h_1 _ e he =>
                obtain ⟨h0, h1, h2, h3, h4, h5, h6, h7, h⟩ := h
                split at h
                case h_3 => exact h.elim
                case h_1 _ j hj =>
                  split at h
                  case h_2 => exact h.elim
                  case h_1 _ e' s' rows hl =>
                    obtain ⟨g1, g2, g3, g4, g5, g6, g7⟩ := h
                    refine ⟨d, _, ⟨hod, .inr ⟨hg, by rw [hod]; exact h0, ?_⟩⟩, g7⟩
                    rw [ho]
                    simp only [hc, ha, hAt, ht, hnr, he, hj, hl]
                    exact ⟨h1, h2, h3, h4, h5, h6, h7, g1, g2, g3, g4, g5, g6, trivial⟩
                case h_2 _ hj =>
                  obtain ⟨g5, g6, g7⟩ := h
                  refine ⟨d, _, ⟨hod, .inr ⟨hg, by rw [hod]; exact h0, ?_⟩⟩, g7⟩
                  rw [ho]
                  simp only [hc, ha, hAt, ht, hnr, he, hj]
                  exact ⟨h1, h2, h3, h4, h5, h6, h7, g5, g6, trivial⟩
      | _ => rw [ho] at h; exact val h

def St.runG (tys : List (Nat × TyD)) (C : List (FuncId × Ctr)) (N : Nat) (ops : Array Oper) (fl : List Fp) (base : St) : List Oper → Nat → Acc → (Acc → Prop) → Prop
  | [], _, acc, K => K acc
  | o :: l, i, acc, K => (base.least acc (fpAt fl i)).dltK tys C N ops o fun d δ => ((fpAt fl i).lks.all fun t => (lk t (base.least acc (fpAt fl i)).fr).isSome) = true ∧ dlOk (fpAt fl i) δ ∧ St.runG tys C N ops fl base l (i + 1) (acc ++ [(i, d, δ)]) K
theorem runF_of_runG {tys : List (Nat × TyD)} {C : List (FuncId × Ctr)} {N : Nat} {ops : Array Oper} {fl : List Fp} {base : St} {K : Acc → Prop} : ∀ (l : List Oper) (i : Nat) (acc : Acc), St.runG tys C N ops fl base l i acc K → St.runF tys C N ops fl base l i acc K
  | [], _, _, h => h
  | o :: l, i, acc, h => by
    obtain ⟨d, δ, h1, h2, h3, h4⟩ := dltK_ex h
    exact ⟨d, δ, h1, h2, h3, runF_of_runG l (i + 1) _ h4⟩
theorem WP.flowW {c : Cx} {N : Nat} {X0 : Nat → Prop} {M : Nat → BV → Prop} {w0 : World} {K : Exit → St → Prop} {id : Nat} {l : List Oper} {st : St} (m : Nat) (fl : List Fp) (ds mks gs : List Nat) (hB : flowB l.toArray m fl = true)
    (hD : ((List.range m).all fun k => match dstAt l.toArray k with | some d => ds.contains d | none => false) = true)
    (hM : ((List.range m).all fun k => ((fpAt fl k).mks.all fun d => mks.contains d) && ((fpAt fl k).gn.all fun d => gs.contains d)) = true) (hm : c.P.follows .mixedOrders = true)
    (h : St.runG c.tys c.C N l.toArray fl (st.clean ds mks) (l.take m) 0 [] fun acc => St.runR c.tys c.C N l.toArray (l.drop m) ((st.clean ds mks).final acc gs) (K .normal)) : WP c N X0 M w0 (.region id l.toArray true) st K :=
  WP.flow m fl ds mks gs hB hD hM hm (runF_of_runG _ _ _ h)
end Go.Vc
