/-
  DERIVED. Several texts of ours in one: VcNs, VcFz, VcFr, VtLine, VpNest, VtLine2, VgFrameM, VtWeighS, VtTot.
-/
import Derived.Test.YtdbjioanlkilkaaVb0
import Derived.Test.YtdbjioanlkilkaaVb1
import Derived.Test.YtdbjioanlkilkaaVb2
import Derived.Test.YtdbjioanlkilkaaVb3
import Derived.Test.YtdbjioanlkilkaaVb4
import Derived.Test.YtdbjioanlkilkaaVb5
import Derived.Test.YtdbjioanlkilkaaVb6
set_option linter.unusedSimpArgs false
set_option linter.unusedVariables false
/-
  DERIVED. Lists that own the lists in their cells: a row opened and shut again, one of its lists taken out and put back.
-/
namespace Go.Vc
set_option linter.unusedVariables false
set_option linter.unusedSimpArgs false
def allVs (rows : List (List SV)) : Prop := ∀ row ∈ rows, ∀ c ∈ row, ∃ x, c = .v x

/-- what is told anew of the objects, the world as it is -/
inductive Gh where
  /-- a list of cells that hold no memory owns what is in its cells -/
  | dp (id : Nat)
  /-- row i stands open -/
  | opn (id i : Nat)
  /-- cell k's list is an object of its own, j -/
  | bor (id k j : Nat)
  /-- .. whose cells hold no memory -/
  | borV (id k j : Nat)
  /-- cell k's object is a list of the row again -/
  | abs (id k : Nat)
  /-- the row is shut -/
  | fld (id : Nat)

def SV.flat (c : SV) : Bool := match c with
  | .v _ => true
  | .sl _ _ => true
  | _ => false
def St.gh (st : St) (K : St → Prop) : Gh → Prop
  | .dp id => match lk id st.hp with
    | some (.sl e s rows) => allVs rows ∧ K (st.wrt id (.dp e s rows))
    | some (.dp e s rows) => K st
    | _ => False
  | .opn id i => match lk id st.hp with
    | some (.dp e s rows) => i < rows.length ∧ K (st.wrt id (.dq e s rows i (rowAt rows i)))
    | _ => False
  | .bor id k j => match lk id st.hp with
    | some (.dq e s rows i row0) => match row0[k]? with
      | some (.sl s' rows') => j < 1000000 ∧ j ≠ id ∧ ∀ e', K { fr := (st.kill j).fr, hp := (j, .dp e' s' rows') :: (id, .dq e s rows i ((row0.map (SV.upq (SV.kill j))).set k (.own j))) :: er id (st.kill j).hp }
      | _ => False
    | _ => False
  | .borV id k j => match lk id st.hp with
    | some (.dq e s rows i row0) => match row0[k]? with
      | some (.sl s' rows') => j < 1000000 ∧ j ≠ id ∧ allVs rows' ∧ ∀ e', K { fr := (st.kill j).fr, hp := (j, .sl e' s' rows') :: (id, .dq e s rows i ((row0.map (SV.upq (SV.kill j))).set k (.own j))) :: er id (st.kill j).hp }
      | _ => False
    | _ => False
  | .abs id k => match lk id st.hp with
    | some (.dq e s rows i row0) => match row0[k]? with
      | some (.own j) => j ≠ id ∧ (match lk j st.hp with
        | some (.sl e' s' rows') => allVs rows' ∧ K { fr := (st.kill j).fr, hp := (id, .dq e s rows i ((row0.map (SV.upq (SV.kill j))).set k (.sl s' rows'))) :: er id (st.kill j).hp }
        | some (.dp e' s' rows') => K { fr := (st.kill j).fr, hp := (id, .dq e s rows i ((row0.map (SV.upq (SV.kill j))).set k (.sl s' rows'))) :: er id (st.kill j).hp }
        | _ => False)
      | _ => False
    | _ => False
  | .fld id => match lk id st.hp with
    | some (.dq e s rows i row0) => (row0.all SV.flat) = true ∧ K (st.wrt id (.dp e s (rows.set i row0)))
    | _ => False
def St.gho (st : St) (K : St → Prop) : List Gh → Prop
  | [] => K st
  | g :: l => st.gh (fun st' => st'.gho K l) g

section
variable {N : Nat} {X0 : Nat → Prop} {M : Nat → BV → Prop} {w0 : World} {st : St} {β : Nat → BV} {a : Act} {w : World}

theorem Sim.reob (h : Sim N X0 M w0 st β a w) {j : Nat} {ob ob' : Ob} (hj : lk j st.hp = some ob) (hob : ObR w (XX X0 β st.hp) β (β j) ob → ObR w (XX X0 β st.hp) β (β j) ob') : Sim N X0 M w0 (st.wrt j ob') β a w :=
  h.write hj rfl rfl rfl (Nat.le_refl _) (fun _ _ _ => rfl) (hob (h.objs j ob hj))

theorem XX_ghost {hp' : List (Nat × Ob)} {β' : Nat → BV} (hft : ∀ id ob b, lk id hp' = some ob → (β' id).ft b → ∃ i o, lk i st.hp = some o ∧ (β i).ft b) {b : Nat} (hb : XX X0 β' hp' b) : XX X0 β st.hp b := by
  rcases hb with hb | ⟨id, ob, hi, hb⟩
  · exact .inl hb
  · exact .inr (hft id ob b hi hb)
theorem Sim.ghost (h : Sim N X0 M w0 st β a w) {st' : St} {β' : Nat → BV} (hone : ∀ i, (β' i).val.oneCell' = true) (hpin : ∀ i, 1000000 ≤ i → (β' i).val = (β i).val)
    (hft : ∀ id ob b, lk id st'.hp = some ob → (β' id).ft b → ∃ i o, lk i st.hp = some o ∧ (β i).ft b)
    (hslots : ∀ t x', lk t st'.fr = some x' → ∃ x, lk t st.fr = some x ∧ ∀ v, R w (XX X0 β' st'.hp) β x v → R w (XX X0 β' st'.hp) β' x' v)
    (hobjs : ∀ id ob, lk id st'.hp = some ob → ObR w (XX X0 β' st'.hp) β' (β' id) ob)
    (hinj : ∀ i j oi oj b, lk i st'.hp = some oi → lk j st'.hp = some oj → (β' i).ft b → (β' j).ft b → i = j) : Sim N X0 M w0 st' β' a w := by
  have hS : Same (XX X0 β st.hp) w w := ⟨Nat.le_refl _, fun _ _ _ => rfl⟩
  exact { h with
    beta := hone
    slots := fun t x hx => by
      obtain ⟨y, h1, h2⟩ := hslots t x hx
      exact h2 _ ((h.slots t y h1).mono hS (fun b _ hb => XX_ghost hft hb))
    objs := hobjs
    inj := hinj
    mine := fun id ob b hi hb => by
      obtain ⟨i, o, h1, h2⟩ := hft id ob b hi hb
      exact h.mine i o b h1 h2
    pin := fun id u hm h1 => by rw [hpin id h1]; exact h.pin id u hm h1 }

theorem Dp.v_foot {x : Value} {v : Value} {F : Nat → Prop} (h : Dp w (.v x) v F) : v = x ∧ ∀ b, ¬ F b := by
  cases h with
  | v _ F hF => exact ⟨rfl, hF⟩
theorem Dp.v_of {c : SV} {v : Value} {F : Nat → Prop} (h : Dp w c v F) (hc : c.isSl = false) : c = .v v ∧ ∀ b, ¬ F b := by
  cases h with
  | v _ F hF => exact ⟨rfl, hF⟩
  | nil => cases hc
  | sl => cases hc
theorem isSl_eq {c : SV} (h : c.isSl = true) : ∃ s rows, c = .sl s rows := by
  cases c <;> first | exact ⟨_, _, rfl⟩ | cases h

/-- a list of cells that hold no memory, as one that owns what is in it .. -/
theorem ObR.sl_dp {X : Nat → Prop} {v : BV} {e s : Nat} {rows : List (List SV)} (h : ObR w X β v (.sl e s rows)) (hv : allVs rows) : ObR w X β v (.dp e s rows) := by
  cases h with
  | nil e s h => subst h; exact .dp (.nil s _ (fun b hb => by cases hb)) (fun b hb => by cases hb)
  | sl b cap cur us hv' hh h1 h2 h3 h4 h5 h6 h7 =>
    subst hv'
    refine .dp (.sl e b cap cur us (fun _ _ _ => False) _ hh h1 h2 h3 h4 (fun i k q1 q2 => ?_) (fun i k q1 q2 => ?_) (fun i k row c q1 q2 => ?_) (fun _ _ _ hf => hf.elim) (fun _ _ hf => hf) (fun _ _ _ _ _ hf => hf.elim) (fun b' => ?_)) (fun b' hb => ?_)
    · obtain ⟨row, c, r1, r2⟩ := row_cell h4 q1 q2
      exact h5 i k row c r1 r2
    · obtain ⟨row, c, r1, r2⟩ := row_cell h4 q1 q2
      exact h6 i k row c r1 r2
    · obtain ⟨x, rfl⟩ := hv row (List.mem_of_getElem? q1) c (List.mem_of_getElem? q2)
      have := h7 i k row _ q1 q2
      generalize us i k = u at this
      cases this
      exact .v x _ (fun _ hf => hf)
    · show blk (.slice (some ⟨b, 0, none⟩) rows.length cap) = some b' ↔ _
      simp [blk, eq_comm]
    · have hb' : some b = some b' := hb
      injection hb' with hb'
      subst hb'
      exact ⟨cur, hh⟩
/-- .. and back -/
theorem Dp.dp_sl {X : Nat → Prop} {s : Nat} {rows : List (List SV)} {v : Value} {F : Nat → Prop} (h : Dp w (.sl s rows) v F) (hv : allVs rows) : ∃ e, ObR w X β ⟨v, F⟩ (.sl e s rows) := by
  cases h with
  | nil s F hF => exact ⟨0, .nil 0 s (by
      unfold nilB plain
      congr 1
      funext b
      exact propext ⟨fun h => absurd h (hF b), fun h => by cases h⟩)⟩
  | sl e b cap cur us fs F hh h1 h2 h3 h4 h5 h6 h7 h8 h9 h10 hF =>
    have hempty : ∀ i k b', ¬ fs i k b' := fun i k b' hb => by
      obtain ⟨q1, q2⟩ := h8 i k b' hb
      obtain ⟨row, c, r1, r2⟩ := row_cell h4 q1 q2
      obtain ⟨x, rfl⟩ := hv row (List.mem_of_getElem? r1) c (List.mem_of_getElem? r2)
      exact (h7 i k row _ r1 r2).v_foot.2 b' hb
    refine ⟨e, .sl b cap cur us ?_ hh h1 h2 h3 h4 (fun i k row c r1 r2 => h5 i k (row_lt h4 r1 r2).1 (row_lt h4 r1 r2).2) (fun i k row c r1 r2 => h6 i k (row_lt h4 r1 r2).1 (row_lt h4 r1 r2).2) (fun i k row c r1 r2 => ?_)⟩
    · unfold plain
      congr 1
      funext b'
      refine propext ((hF b').trans ⟨fun h => ?_, fun h => .inl ?_⟩)
      · rcases h with rfl | ⟨i, k, h⟩
        · rfl
        · exact absurd h (hempty i k b')
      · have hb' : some b = some b' := h
        injection hb' with hb'
        exact hb'.symm
    · obtain ⟨x, rfl⟩ := hv row (List.mem_of_getElem? r1) c (List.mem_of_getElem? r2)
      have := (h7 i k row _ r1 r2).v_foot.1
      rw [this]
      exact .v x
theorem Dp.dp_ob {X : Nat → Prop} {s : Nat} {rows : List (List SV)} {v : Value} {F : Nat → Prop} (h : Dp w (.sl s rows) v F) : ∃ e, ObR w X β ⟨v, F⟩ (.dp e s rows) := by
  have h0 := h
  cases h with
  | nil s F hF => exact ⟨0, .dp h0 (fun b hb => by cases hb)⟩
  | sl e b cap cur us fs F hh => exact ⟨e, .dp h0 (fun b' hb => by
      have hb' : some b = some b' := hb
      injection hb' with hb'
      subst hb'
      exact ⟨cur, hh⟩)⟩

theorem ObR.dp_dq {X : Nat → Prop} {v : BV} {e s i : Nat} {rows : List (List SV)} (h : ObR w X β v (.dp e s rows)) (hi : i < rows.length) : ObR w X β v (.dq e s rows i (rowAt rows i)) := by
  cases h with
  | dp hd he =>
    obtain ⟨vv, F⟩ := v
    simp only at hd he
    have hrow : rows[i]? = some (rowAt rows i) := by unfold rowAt; rw [List.getElem?_eq_getElem hi]; rfl
    cases hd with
    | nil => simp at hi
    | sl e' b cap cur us fs F hh h1 h2 h3 h4 h5 h6 h7 h8 h9 h10 hF =>
      obtain ⟨cur', hcur'⟩ := he b rfl
      rw [hh] at hcur'
      cases hcur'
      refine .dq b cap cur us fs rfl hh h1 h2 h3 hi (h4 i _ hrow) h4 h5 h6 (fun i' k row c _ r1 r2 => h7 i' k row c r1 r2) (fun k c hc => ?_) h8 h9 h10 hF
      have hd := h7 i k _ c hrow hc
      cases hsl : c.isSl with
      | true => exact .inl ⟨hsl, hd⟩
      | false =>
        obtain ⟨e1, e2⟩ := hd.v_of hsl
        refine .inr ⟨hsl, ?_, e2⟩
        rw [e1]; exact .p (.v _)
theorem ObR.dq_dp {X : Nat → Prop} {v : BV} {e s i : Nat} {rows : List (List SV)} {row0 : List SV} (h : ObR w X β v (.dq e s rows i row0)) (hall : row0.all SV.flat = true) : ObR w X β v (.dp e s (rows.set i row0)) := by
  cases h with
  | dq b cap cur us fs hv hh h1 h2 h3 h4 h5 h6 h7 h8 h9 h10 h11 h12 h13 hF =>
    have hlen : ∀ (i' : Nat) (row : List SV), (rows.set i row0)[i']? = some row → row.length = s := fun i' row hr => by
      rw [List.getElem?_set] at hr
      split at hr
      · simp only [h4, if_true, Option.some.injEq] at hr
        rw [← hr]; exact h5
      · exact h6 i' row hr
    refine .dp ?_ (fun b' hb => ?_)
    · rw [hv]
      have := Dp.sl (w := w) (s := s) (rows := rows.set i row0) e b cap cur us fs v.ft hh (by rw [List.length_set]; exact h1) h2 h3 hlen (fun i' k q1 q2 => h7 i' k (by rwa [List.length_set] at q1) q2) (fun i' k q1 q2 => h8 i' k (by rwa [List.length_set] at q1) q2)
        (fun i' k row c r1 r2 => ?_) (fun i' k b' hb => by rw [List.length_set]; exact h11 i' k b' hb) h12 h13 hF
      · rw [List.length_set] at this; exact this
      · rw [List.getElem?_set] at r1
        split at r1
        · rename_i he
          subst he
          simp only [h4, if_true, Option.some.injEq] at r1
          subst r1
          have hfl := List.all_eq_true.1 hall c (List.mem_of_getElem? r2)
          rcases h10 k c r2 with ⟨_, hd⟩ | ⟨q1, q2, q3⟩
          · exact hd
          · cases c with
            | v x => have := q2.v_inv; rw [this]; exact .v x _ q3
            | sl _ _ => cases q1
            | _ => cases hfl
        · rename_i hne
          exact h9 i' k row c (fun e => hne e.symm) r1 r2
    · rw [hv] at hb
      have hb' : some b = some b' := hb
      injection hb' with hb'
      subst hb'
      exact ⟨cur, hh⟩

theorem upq_isSl {f : SV → SV} {c : SV} (h : c.isSl = true) : c.upq f = c := by unfold SV.upq; rw [if_pos h]

/-- cell k of the open row, taken out as object j -/
theorem Sim.bor (h : Sim N X0 M w0 st β a w) {id k j e s i s' : Nat} {rows rows' : List (List SV)} {row0 : List SV} (hl : lk id st.hp = some (.dq e s rows i row0)) (hk : row0[k]? = some (.sl s' rows')) (hj : j < 1000000) (hne : j ≠ id)
    {ob : Nat → Ob} (hob : ∀ (X : Nat → Prop) (β : Nat → BV) (v : Value) (F : Nat → Prop), Dp w (.sl s' rows') v F → ∃ e', ObR w X β ⟨v, F⟩ (ob e')) (hobe : ∀ e', (∀ X β β' v, ObR w X β v (ob e') → ObR w X β' v (ob e'))) :
    ∃ e' β', Sim N X0 M w0 { fr := (st.kill j).fr, hp := (j, ob e') :: (id, .dq e s rows i ((row0.map (SV.upq (SV.kill j))).set k (.own j))) :: er id (st.kill j).hp } β' a w := by
  have hO := h.objs id _ hl
  generalize hbv : β id = bv at hO
  cases hO with
  | dq b cap cur us fs hv hh h1 h2 h3 h4 h5 h6 h7 h8 h9 h10 h11 h12 h13 hF =>
    have hks : k < s := by rw [← h5]; exact (List.getElem?_eq_some_iff.1 hk).1
    have hD : Dp w (.sl s' rows') (us i k) (fs i k) := by
      rcases h10 k _ hk with ⟨_, hd⟩ | ⟨q, _⟩
      · exact hd
      · cases q
    obtain ⟨e', he'⟩ := hob (XX X0 β st.hp) β _ _ hD
    let fs' : Nat → Nat → Nat → Prop := fun i' k' b' => fs i' k' b' ∧ ¬ (i' = i ∧ k' = k)
    let vid : BV := ⟨bv.val, fun b' => b' = b ∨ ∃ i' k', fs' i' k' b'⟩
    let β' : Nat → BV := fun q => if q = j then ⟨us i k, fs i k⟩ else if q = id then vid else β q
    have hβj : β' j = ⟨us i k, fs i k⟩ := if_pos rfl
    have hβid : β' id = vid := by show (if id = j then _ else if id = id then vid else _) = _; rw [if_neg (fun e => hne e.symm), if_pos rfl]
    have hβo : ∀ q, q ≠ j → q ≠ id → β' q = β q := fun q h1 h2 => by show (if q = j then _ else if q = id then vid else _) = _; rw [if_neg h1, if_neg h2]
    have hβv : ∀ q, q ≠ j → (β' q).val = (β q).val := fun q hq => by
      by_cases hid : q = id
      · rw [hid, hβid, hbv]
      · rw [hβo q hq hid]
    have hlk : ∀ (t : Nat) (o : Ob), lk t ((j, ob e') :: (id, .dq e s rows i ((row0.map (SV.upq (SV.kill j))).set k (.own j))) :: er id (st.kill j).hp) = some o →
        (t = j ∧ o = ob e') ∨ (t = id ∧ o = .dq e s rows i ((row0.map (SV.upq (SV.kill j))).set k (.own j))) ∨ (t ≠ j ∧ t ≠ id ∧ ∃ o0, lk t st.hp = some o0 ∧ o = o0.kill j) := fun t o ht => by
      simp only [lk] at ht
      by_cases e1 : t = j
      · rw [if_pos e1] at ht; cases ht; exact .inl ⟨e1, rfl⟩
      · rw [if_neg e1] at ht
        by_cases e2 : t = id
        · rw [if_pos e2] at ht; cases ht; exact .inr (.inl ⟨e2, rfl⟩)
        · rw [if_neg e2, lk_er_ne e2, lk_kill_ne e1] at ht
          cases hq : lk t st.hp with
          | none => rw [hq] at ht; cases ht
          | some o0 => rw [hq] at ht; exact .inr (.inr ⟨e1, e2, o0, rfl, by simpa using ht.symm⟩)
    have hftid : ∀ b', vid.ft b' → bv.ft b' := fun b' hb => (hF b').2 (hb.imp _root_.id fun ⟨i', k', q, _⟩ => ⟨i', k', q⟩)
    have hftj : ∀ b', fs i k b' → bv.ft b' := fun b' hb => (hF b').2 (.inr ⟨i, k, hb⟩)
    have hft : ∀ t o b', lk t ((j, ob e') :: (id, .dq e s rows i ((row0.map (SV.upq (SV.kill j))).set k (.own j))) :: er id (st.kill j).hp) = some o → (β' t).ft b' → ∃ t0 o0, lk t0 st.hp = some o0 ∧ (β t0).ft b' ∧ (t = j ∨ t = id → t0 = id) ∧ (t ≠ j → t0 = t) := fun t o b' ht hb => by
      rcases hlk t o ht with ⟨rfl, _⟩ | ⟨rfl, _⟩ | ⟨n1, n2, o0, q, _⟩
      · rw [hβj] at hb; exact ⟨id, _, hl, by rw [hbv]; exact hftj b' hb, fun _ => rfl, fun q => absurd rfl q⟩
      · rw [hβid] at hb; exact ⟨t, _, hl, by rw [hbv]; exact hftid b' hb, fun _ => rfl, fun _ => rfl⟩
      · rw [hβo t n1 n2] at hb; exact ⟨t, o0, q, hb, fun q => by rcases q with q | q <;> contradiction, fun _ => rfl⟩
    have hft1 : ∀ t o b', lk t ((j, ob e') :: (id, .dq e s rows i ((row0.map (SV.upq (SV.kill j))).set k (.own j))) :: er id (st.kill j).hp) = some o → (β' t).ft b' → ∃ t0 o0, lk t0 st.hp = some o0 ∧ (β t0).ft b' := fun t o b' ht hb => by
      obtain ⟨t0, o0, q1, q2, _⟩ := hft t o b' ht hb
      exact ⟨t0, o0, q1, q2⟩
    have hS : Same (XX X0 β st.hp) w w := ⟨Nat.le_refl _, fun _ _ _ => rfl⟩
    refine ⟨e', β', h.ghost (fun q => ?_) (fun q hq => hβv q (by omega)) hft1 (fun t x' hx => ?_) (fun t o ht => ?_) (fun p q op oq b' hp hq hbp hbq => ?_)⟩
    · by_cases hq : q = j
      · rw [hq, hβj]; exact h8 i k h4 hks
      · rw [hβv q hq]; exact h.beta q
    · simp only [St.kill, lk_map] at hx
      cases hy : lk t st.fr with
      | none => rw [hy] at hx; cases hx
      | some y =>
        rw [hy] at hx
        have hx' : y.kill j = x' := by simpa using hx
        subst hx'
        exact ⟨y, rfl, fun v hR => hR.kill hβv⟩
    · rcases hlk t o ht with ⟨rfl, rfl⟩ | ⟨rfl, rfl⟩ | ⟨n1, n2, o0, q, rfl⟩
      · rw [hβj]
        exact hobe e' _ _ _ _ (he'.mono hS (fun b' _ hb => XX_ghost hft1 hb) (fun _ _ => rfl))
      · rw [hβid]
        refine .dq b cap cur us fs' hv hh h1 h2 h3 h4 (by simp [h5]) h6 h7 h8 (fun i' k' row c q0 r1 r2 => (h9 i' k' row c q0 r1 r2).ext fun b' => ⟨fun g => g.1, fun g => ⟨g, fun g2 => q0 g2.1⟩⟩) (fun k' c hc => ?_) (fun i' k' b' g => h11 i' k' b' g.1) (fun i' k' g => h12 i' k' g.1) (fun i1 k1 i2 k2 b' g1 g2 => h13 i1 k1 i2 k2 b' g1.1 g2.1) (fun b' => Iff.rfl)
        rw [List.getElem?_set] at hc
        split at hc
        · rename_i hkk
          subst hkk
          simp only [List.length_map, h5, hks, if_true, Option.some.injEq] at hc
          subst hc
          have hR := R.own (w := w) (X := XX X0 β' ((j, ob e') :: (t, .dq e s rows i ((row0.map (SV.upq (SV.kill j))).set k (.own j))) :: er t (st.kill j).hp)) (β := β') j
          rw [hβj] at hR
          exact .inr ⟨rfl, hR, fun b' g => g.2 ⟨rfl, rfl⟩⟩
        · rename_i hkk
          obtain ⟨c0, hc0, rfl⟩ := map_get hc
          have hex : ∀ b', fs' i k' b' ↔ fs i k' b' := fun b' => ⟨fun g => g.1, fun g => ⟨g, fun g2 => hkk g2.2.symm⟩⟩
          have h0 : DqC w (XX X0 β' ((j, ob e') :: (t, .dq e s rows i ((row0.map (SV.upq (SV.kill j))).set k (.own j))) :: er t (st.kill j).hp)) β' (c0.upq (SV.kill j)) (us i k') (fs i k') :=
            (h10 k' c0 hc0).upq fun hR => R.kill hβv (hR.mono (X' := XX X0 β' ((j, ob e') :: (t, .dq e s rows i ((row0.map (SV.upq (SV.kill j))).set k (.own j))) :: er t (st.kill j).hp)) hS (fun b' _ hb => XX_ghost hft1 hb))
          rcases h0 with ⟨g1, g2⟩ | ⟨g1, g2, g3⟩
          · exact .inl ⟨g1, g2.ext hex⟩
          · exact .inr ⟨g1, g2, fun b' g => g3 b' ((hex b').1 g)⟩
      · rw [hβo t n1 n2]
        exact ((h.objs t o0 q).mono hS (fun b' _ hb => XX_ghost hft1 hb) (fun _ _ => rfl)).kill hβv
    · obtain ⟨t1, o1, q1, q2, q3, q4⟩ := hft p op b' hp hbp
      obtain ⟨t2, o2, r1, r2, r3, r4⟩ := hft q oq b' hq hbq
      have := h.inj t1 t2 o1 o2 b' q1 r1 q2 r2
      subst this
      by_cases p1 : p = j <;> by_cases p2 : q = j
      · rw [p1, p2]
      · exfalso
        have := r4 p2
        have := q3 (.inl p1)
        have hqi : q = id := by omega
        rw [p1, hβj] at hbp
        rw [hqi, hβid] at hbq
        have hbp : fs i k b' := hbp
        rcases hbq with g | ⟨i', k', g, g2⟩
        · exact h12 i k (g ▸ hbp)
        · exact g2 (h13 i' k' i k b' g hbp)
      · exfalso
        have := q4 p1
        have := r3 (.inl p2)
        have hpi : p = id := by omega
        rw [p2, hβj] at hbq
        rw [hpi, hβid] at hbp
        have hbq : fs i k b' := hbq
        rcases hbp with g | ⟨i', k', g, g2⟩
        · exact h12 i k (g ▸ hbq)
        · exact g2 (h13 i' k' i k b' g hbq)
      · have := q4 p1
        have := r4 p2
        omega

/-- cell k's object, a list of the row again -/
theorem Sim.absb (h : Sim N X0 M w0 st β a w) {id k j e s i s' : Nat} {rows rows' : List (List SV)} {row0 : List SV} {oj : Ob} (hl : lk id st.hp = some (.dq e s rows i row0)) (hk : row0[k]? = some (.own j)) (hne : j ≠ id)
    (hoj : lk j st.hp = some oj) (hob : ObR w (XX X0 β st.hp) β (β j) oj → Dp w (.sl s' rows') (β j).val (β j).ft) :
    ∃ β', Sim N X0 M w0 { fr := (st.kill j).fr, hp := (id, .dq e s rows i ((row0.map (SV.upq (SV.kill j))).set k (.sl s' rows'))) :: er id (st.kill j).hp } β' a w := by
  have hO := h.objs id _ hl
  have hD := hob (h.objs j oj hoj)
  have hdisj : ∀ b', (β j).ft b' → ¬ (β id).ft b' := fun b' g1 g2 => hne (h.inj j id oj _ b' hoj hl g1 g2)
  generalize hbv : β id = bv at hO hdisj
  cases hO with
  | dq b cap cur us fs hv hh h1 h2 h3 h4 h5 h6 h7 h8 h9 h10 h11 h12 h13 hF =>
    have hks : k < s := by rw [← h5]; exact (List.getElem?_eq_some_iff.1 hk).1
    have hR0 : us i k = (β j).val ∧ ∀ b', ¬ fs i k b' := by
      rcases h10 k _ hk with ⟨q, _⟩ | ⟨_, hR, g⟩
      · cases q
      · exact ⟨hR.own_inv, g⟩
    let fs' : Nat → Nat → Nat → Prop := fun i' k' b' => if i' = i ∧ k' = k then (β j).ft b' else fs i' k' b'
    have hfs1 : ∀ b', fs' i k b' ↔ (β j).ft b' := fun b' => by show (if i = i ∧ k = k then _ else _) ↔ _; rw [if_pos ⟨rfl, rfl⟩]
    have hfs2 : ∀ i' k' b', ¬ (i' = i ∧ k' = k) → (fs' i' k' b' ↔ fs i' k' b') := fun i' k' b' hn => by show (if i' = i ∧ k' = k then _ else _) ↔ _; rw [if_neg hn]
    let vid : BV := ⟨bv.val, fun b' => b' = b ∨ ∃ i' k', fs' i' k' b'⟩
    let β' : Nat → BV := fun q => if q = id then vid else β q
    have hβid : β' id = vid := if_pos rfl
    have hβo : ∀ q, q ≠ id → β' q = β q := fun q h2 => if_neg h2
    have hβv : ∀ q, (β' q).val = (β q).val := fun q => by
      by_cases hid : q = id
      · rw [hid, hβid, hbv]
      · rw [hβo q hid]
    have hlk : ∀ (t : Nat) (o : Ob), lk t ((id, .dq e s rows i ((row0.map (SV.upq (SV.kill j))).set k (.sl s' rows'))) :: er id (st.kill j).hp) = some o →
        (t = id ∧ o = .dq e s rows i ((row0.map (SV.upq (SV.kill j))).set k (.sl s' rows'))) ∨ (t ≠ j ∧ t ≠ id ∧ ∃ o0, lk t st.hp = some o0 ∧ o = o0.kill j) := fun t o ht => by
      simp only [lk] at ht
      by_cases e2 : t = id
      · rw [if_pos e2] at ht; cases ht; exact .inl ⟨e2, rfl⟩
      · rw [if_neg e2, lk_er_ne e2] at ht
        by_cases e1 : t = j
        · subst e1; rw [lk_kill] at ht; cases ht
        · rw [lk_kill_ne e1] at ht
          cases hq : lk t st.hp with
          | none => rw [hq] at ht; cases ht
          | some o0 => rw [hq] at ht; exact .inr ⟨e1, e2, o0, rfl, by simpa using ht.symm⟩
    have hvid : ∀ b', vid.ft b' → bv.ft b' ∨ (β j).ft b' := fun b' hb => by
      rcases hb with g | ⟨i', k', g⟩
      · exact .inl ((hF b').2 (.inl g))
      · by_cases hik : i' = i ∧ k' = k
        · obtain ⟨rfl, rfl⟩ := hik; exact .inr ((hfs1 b').1 g)
        · exact .inl ((hF b').2 (.inr ⟨i', k', (hfs2 i' k' b' hik).1 g⟩))
    have hft : ∀ t o b', lk t ((id, .dq e s rows i ((row0.map (SV.upq (SV.kill j))).set k (.sl s' rows'))) :: er id (st.kill j).hp) = some o → (β' t).ft b' → ∃ t0 o0, lk t0 st.hp = some o0 ∧ (β t0).ft b' ∧ (t ≠ id → t0 = t) ∧ (t = id → t0 = id ∨ t0 = j) := fun t o b' ht hb => by
      rcases hlk t o ht with ⟨rfl, _⟩ | ⟨n1, n2, o0, q, _⟩
      · rw [hβid] at hb
        rcases hvid b' hb with g | g
        · exact ⟨t, _, hl, by rw [hbv]; exact g, fun q => absurd rfl q, fun _ => .inl rfl⟩
        · exact ⟨j, _, hoj, g, fun q => absurd rfl q, fun _ => .inr rfl⟩
      · rw [hβo t n2] at hb; exact ⟨t, o0, q, hb, fun _ => rfl, fun q => absurd q n2⟩
    have hft1 : ∀ t o b', lk t ((id, .dq e s rows i ((row0.map (SV.upq (SV.kill j))).set k (.sl s' rows'))) :: er id (st.kill j).hp) = some o → (β' t).ft b' → ∃ t0 o0, lk t0 st.hp = some o0 ∧ (β t0).ft b' := fun t o b' ht hb => by
      obtain ⟨t0, o0, q1, q2, _⟩ := hft t o b' ht hb
      exact ⟨t0, o0, q1, q2⟩
    have hS : Same (XX X0 β st.hp) w w := ⟨Nat.le_refl _, fun _ _ _ => rfl⟩
    refine ⟨β', h.ghost (fun q => by rw [hβv]; exact h.beta q) (fun q _ => hβv q) hft1 (fun t x' hx => ?_) (fun t o ht => ?_) (fun p q op oq b' hp hq hbp hbq => ?_)⟩
    · simp only [St.kill, lk_map] at hx
      cases hy : lk t st.fr with
      | none => rw [hy] at hx; cases hx
      | some y =>
        rw [hy] at hx
        have hx' : y.kill j = x' := by simpa using hx
        subst hx'
        exact ⟨y, rfl, fun v hR => hR.kill fun q _ => hβv q⟩
    · rcases hlk t o ht with ⟨rfl, rfl⟩ | ⟨n1, n2, o0, q, rfl⟩
      · rw [hβid]
        refine .dq b cap cur us fs' hv hh h1 h2 h3 h4 (by simp [h5]) h6 h7 h8 (fun i' k' row c q0 r1 r2 => (h9 i' k' row c q0 r1 r2).ext fun b' => hfs2 i' k' b' (fun g => q0 g.1)) (fun k' c hc => ?_) (fun i' k' b' g => ?_) (fun i' k' g => ?_) (fun i1 k1 i2 k2 b' g1 g2 => ?_) (fun b' => Iff.rfl)
        · rw [List.getElem?_set] at hc
          split at hc
          · rename_i hkk
            subst hkk
            simp only [List.length_map, h5, hks, if_true, Option.some.injEq] at hc
            subst hc
            refine .inl ⟨rfl, ?_⟩
            rw [hR0.1]
            exact hD.ext hfs1
          · rename_i hkk
            obtain ⟨c0, hc0, rfl⟩ := map_get hc
            have hex : ∀ b', fs' i k' b' ↔ fs i k' b' := fun b' => hfs2 i k' b' (fun g2 => hkk g2.2.symm)
            have h0 := (h10 k' c0 hc0).upq (f := SV.kill j) (X' := XX X0 β' ((t, .dq e s rows i ((row0.map (SV.upq (SV.kill j))).set k (.sl s' rows'))) :: er t (st.kill j).hp)) (β' := β') fun hR => R.kill (fun q _ => hβv q) (hR.mono (X' := XX X0 β' ((t, .dq e s rows i ((row0.map (SV.upq (SV.kill j))).set k (.sl s' rows'))) :: er t (st.kill j).hp)) hS (fun b' _ hb => XX_ghost hft1 hb))
            rcases h0 with ⟨g1, g2⟩ | ⟨g1, g2, g3⟩
            · exact .inl ⟨g1, g2.ext hex⟩
            · exact .inr ⟨g1, g2, fun b' g => g3 b' ((hex b').1 g)⟩
        · by_cases hik : i' = i ∧ k' = k
          · obtain ⟨rfl, rfl⟩ := hik; exact ⟨h4, hks⟩
          · exact h11 i' k' b' ((hfs2 i' k' b' hik).1 g)
        · by_cases hik : i' = i ∧ k' = k
          · obtain ⟨rfl, rfl⟩ := hik
            exact hdisj b ((hfs1 b).1 g) ((hF b).2 (.inl rfl))
          · exact h12 i' k' ((hfs2 i' k' b hik).1 g)
        · by_cases hik1 : i1 = i ∧ k1 = k <;> by_cases hik2 : i2 = i ∧ k2 = k
          · exact ⟨hik1.1.trans hik2.1.symm, hik1.2.trans hik2.2.symm⟩
          · obtain ⟨rfl, rfl⟩ := hik1
            exact absurd ((hF b').2 (.inr ⟨i2, k2, (hfs2 i2 k2 b' hik2).1 g2⟩)) (hdisj b' ((hfs1 b').1 g1))
          · obtain ⟨rfl, rfl⟩ := hik2
            exact absurd ((hF b').2 (.inr ⟨i1, k1, (hfs2 i1 k1 b' hik1).1 g1⟩)) (hdisj b' ((hfs1 b').1 g2))
          · exact h13 i1 k1 i2 k2 b' ((hfs2 i1 k1 b' hik1).1 g1) ((hfs2 i2 k2 b' hik2).1 g2)
      · rw [hβo t n2]
        exact ((h.objs t o0 q).mono hS (fun b' _ hb => XX_ghost hft1 hb) (fun _ _ => rfl)).kill fun q _ => hβv q
    · obtain ⟨t1, o1, q1, q2, q3, q4⟩ := hft p op b' hp hbp
      obtain ⟨t2, o2, r1, r2, r3, r4⟩ := hft q oq b' hq hbq
      have := h.inj t1 t2 o1 o2 b' q1 r1 q2 r2
      subst this
      have nj : ∀ {t o}, lk t ((id, .dq e s rows i ((row0.map (SV.upq (SV.kill j))).set k (.sl s' rows'))) :: er id (st.kill j).hp) = some o → t ≠ j := fun {t o} ht => by
        rcases hlk t o ht with ⟨rfl, _⟩ | ⟨n1, _⟩
        · exact fun e => hne e.symm
        · exact n1
      have n1 := nj hp
      have n2 := nj hq
      by_cases p1 : p = id <;> by_cases p2 : q = id
      · rw [p1, p2]
      · have := r3 p2
        rcases q4 p1 with g | g <;> omega
      · have := q3 p1
        rcases r4 p2 with g | g <;> omega
      · have := q3 p1
        have := r3 p2
        omega

theorem Sim.gh (h : Sim N X0 M w0 st β a w) {K : St → Prop} {g : Gh} (hK : st.gh K g) : ∃ st' β', K st' ∧ Sim N X0 M w0 st' β' a w := by
  cases g with
  | dp id =>
    simp only [St.gh] at hK
    split at hK
    · rename_i e s rows hl; exact ⟨_, β, hK.2, h.reob hl fun hO => hO.sl_dp hK.1⟩
    · exact ⟨st, β, hK, h⟩
    · exact hK.elim
  | opn id i =>
    simp only [St.gh] at hK
    split at hK
    · rename_i e s rows hl; exact ⟨_, β, hK.2, h.reob hl fun hO => hO.dp_dq hK.1⟩
    · exact hK.elim
  | bor id k j =>
    simp only [St.gh] at hK
    split at hK
    · rename_i e s rows i row0 hl
      split at hK
      · rename_i s' rows' hk
        obtain ⟨e', β', h'⟩ := h.bor hl hk hK.1 hK.2.1 (ob := fun e' => .dp e' s' rows') (fun X β v F hD => hD.dp_ob) (fun e' X β β' v hO => by cases hO with | dp hd he => exact .dp hd he)
        exact ⟨_, β', hK.2.2 e', h'⟩
      · exact hK.elim
    · exact hK.elim
  | borV id k j =>
    simp only [St.gh] at hK
    split at hK
    · rename_i e s rows i row0 hl
      split at hK
      · rename_i s' rows' hk
        obtain ⟨e', β', h'⟩ := h.bor hl hk hK.1 hK.2.1 (ob := fun e' => .sl e' s' rows') (fun X β v F hD => hD.dp_sl hK.2.2.1) (fun e' X β β' v hO => hO.sl_beta)
        exact ⟨_, β', hK.2.2.2 e', h'⟩
      · exact hK.elim
    · exact hK.elim
  | abs id k =>
    simp only [St.gh] at hK
    split at hK
    · rename_i e s rows i row0 hl
      split at hK
      · rename_i j hk
        obtain ⟨hne, hK⟩ := hK
        split at hK
        · rename_i e' s' rows' hj
          obtain ⟨β', h'⟩ := h.absb hl hk hne hj (s' := s') (rows' := rows') (fun hO => by
            have := hO.sl_dp hK.1
            cases this with
            | dp hd he => exact hd)
          exact ⟨_, β', hK.2, h'⟩
        · rename_i e' s' rows' hj
          obtain ⟨β', h'⟩ := h.absb hl hk hne hj (s' := s') (rows' := rows') (fun hO => by
            cases hO with
            | dp hd he => exact hd)
          exact ⟨_, β', hK, h'⟩
        · exact hK.elim
      · exact hK.elim
    · exact hK.elim
  | fld id =>
    simp only [St.gh] at hK
    split at hK
    · rename_i e s rows i row0 hl; exact ⟨_, β, hK.2, h.reob hl fun hO => hO.dq_dp hK.1⟩
    · exact hK.elim
theorem Sim.gho {a : Act} {w : World} {K : St → Prop} : ∀ {l : List Gh} {st : St} {β : Nat → BV}, Sim N X0 M w0 st β a w → st.gho K l → ∃ st' β', K st' ∧ Sim N X0 M w0 st' β' a w
  | [], st, β, h, hK => ⟨st, β, hK, h⟩
  | g :: l, st, β, h, hK => by
    obtain ⟨st1, β1, h1, h2⟩ := h.gh (g := g) hK
    exact Sim.gho h2 h1
end
section
variable {c : Cx} {N : Nat} {X0 : Nat → Prop} {M : Nat → BV → Prop} {w0 : World} {st : St} {K : Exit → St → Prop}
theorem WP.gho (l : List Gh) {code : Code} (h : st.gho (fun st' => WP c N X0 M w0 code st' K) l) : WP c N X0 M w0 code st K := fun hA β a w hs => by
  obtain ⟨st', β', h1, h2⟩ := hs.gho h
  exact h1 hA β' a w h2
/-- the same behind a piece of code -/
def ghoK (l : List Gh) (K : Exit → St → Prop) : Exit → St → Prop
  | .normal, st => st.gho (K .normal) l
  | e, st => K e st
theorem WP.post (l : List Gh) {code : Code} (h : WP c N X0 M w0 code st (ghoK l K)) : WP c N X0 M w0 code st K := fun hA β a w hs =>
  Code.wp_mono (fun e a' w' hq => by
    cases e with
    | normal =>
      obtain ⟨st', β', h1, h2⟩ := hq
      obtain ⟨st2, β2, h3, h4⟩ := h2.gho h1
      exact ⟨st2, β2, h3, h4⟩
    | _ => exact hq) (h hA β a w hs)
end

/-! ## a result that owns what is in it, as one that is read -/
theorem Holds.frozenD {P : Program} {f : FuncId} {args : List SV} {d e s : Nat} {rows : List (List SV)} (h : Holds P f args (.own d) [(d, .dp e s rows)]) : Holds P f args (.sl s rows) [] := by
  intro w X vs hG hX hl ha
  refine (h w X vs hG hX hl ha).mono fun en w' ⟨v, β, he, hb, hβ, hR, hO, hn⟩ => ?_
  refine ⟨v, β, he, hb, hβ, ?_, ⟨fun id ob hi => (by cases hi), fun i j oi oj b hi => (by cases hi)⟩, fun id ob b hi => (by cases hi)⟩
  have := hR.own_inv; subst this
  refine .p ((hO.1 d (.dp e s rows) (by simp [lk])).rd rfl (fun b hb' hx => ?_) (fun b hx => ?_))
  · have h1 := hn d (.dp e s rows) b (by simp [lk]) hb'
    rcases hx with hx | ⟨i, o, hi, _⟩
    · have := hX b hx; omega
    · cases hi
  · rcases hx with hx | ⟨i, o, hi, _⟩
    · exact .inl hx
    · cases hi
end Go.Vc

/-
  DERIVED. A list that a call hands back as its own, taken as one that may only be read.
-/
namespace Go.Vc
set_option linter.unusedVariables false
def allV (rows : List (List SV)) : Prop := ∀ row ∈ rows, ∀ c ∈ row, ∃ x, c = .v x
theorem ObR.toSl {w : World} {X X' : Nat → Prop} {β : Nat → BV} {v : BV} {e s : Nat} {rows : List (List SV)} (h : ObR w X' β v (.sl e s rows)) (hX : ∀ b, v.ft b → ¬ X b) (hv : allV rows) : Rp w X (.sl s rows) v.val := by
  cases h with
  | nil e s h => subst h; exact .nil s _ _
  | sl b cap cur us hv' hh h1 h2 h3 h4 h5 h6 h7 =>
    subst hv'
    refine .sl b 0 cap us (hX b rfl) (lt_of_heap hh) h1 h4 (fun i k row c hr hc => ?_) h6 (fun i k row c hr hc => ?_)
    · simp only [World.cell?, hh, Nat.zero_add]
      exact h5 i k row c hr hc
    · obtain ⟨x, rfl⟩ := hv row (List.mem_of_getElem? hr) c (List.mem_of_getElem? hc)
      have := h7 i k row _ hr hc
      cases this
      exact .v _
section
variable {P : Program} {f : FuncId} {args : List SV} {d e s : Nat} {rows : List (List SV)}
theorem Holds.frozen (h : Holds P f args (.own d) [(d, .sl e s rows)]) (hv : allV rows) : Holds P f args (.sl s rows) [] := by
  intro w X vs hG hX hl ha
  refine (h w X vs hG hX hl ha).mono fun en w' ⟨v, β, he, hb, hβ, hR, hO, hn⟩ => ?_
  refine ⟨v, β, he, hb, hβ, ?_, ⟨fun id ob hi => (by cases hi), fun i j oi oj b hi => (by cases hi)⟩, fun id ob b hi => (by cases hi)⟩
  have := hR.own_inv; subst this
  refine .p ((hO.1 d (.sl e s rows) (by simp [lk])).toSl (fun b hb' hx => ?_) hv)
  have h1 := hn d (.sl e s rows) b (by simp [lk]) hb'
  rcases hx with hx | ⟨i, o, hi, _⟩
  · have := hX b hx; omega
  · cases hi
theorem Holds.frozenT {y : Value} (h : Holds P f args (.tup [.own d, .v y]) [(d, .sl e s rows)]) (hv : allV rows) : Holds P f args (.tup [.sl s rows, .v y]) [] := by
  intro w X vs hG hX hl ha
  refine (h w X vs hG hX hl ha).mono fun en w' ⟨v, β, he, hb, hβ, hR, hO, hn⟩ => ?_
  refine ⟨v, β, he, hb, hβ, ?_, ⟨fun id ob hi => (by cases hi), fun i j oi oj b hi => (by cases hi)⟩, fun id ob b hi => (by cases hi)⟩
  obtain ⟨us, rfl, hul, hh⟩ := hR.tup_inv
  refine .tup hul fun k c u hc hu => ?_
  match k, hc with
  | 0, hc =>
    simp at hc; subst hc
    have := (hh 0 _ u rfl hu).own_inv
    subst this
    refine .p ((hO.1 d (.sl e s rows) (by simp [lk])).toSl (fun b hb' hx => ?_) hv)
    have h1 := hn d (.sl e s rows) b (by simp [lk]) hb'
    rcases hx with hx | ⟨i, o, hi, _⟩
    · have := hX b hx; omega
    · cases hi
  | 1, hc =>
    simp at hc; subst hc
    have := (hh 1 _ u rfl hu).v_inv
    subst this; exact .p (.v _)
  | k + 2, hc => simp at hc
end
/-- the same of a struct of two lists -/
theorem Holds.frozenA {P : Program} {f : FuncId} {args : List SV} {d1 d2 e1 s1 e2 s2 : Nat} {rows1 rows2 : List (List SV)} (hd : d1 ≠ d2) (h : Holds P f args (.agg [.own d1, .own d2]) [(d1, .sl e1 s1 rows1), (d2, .sl e2 s2 rows2)]) (hv1 : allV rows1) (hv2 : allV rows2) : Holds P f args (.agg [.sl s1 rows1, .sl s2 rows2]) [] := by
  intro w X vs hG hX hl ha
  refine (h w X vs hG hX hl ha).mono fun en w' ⟨v, β, he, hb, hβ, hR, hO, hn⟩ => ?_
  refine ⟨v, β, he, hb, hβ, ?_, ⟨fun id ob hi => (by cases hi), fun i j oi oj b hi => (by cases hi)⟩, fun id ob b hi => (by cases hi)⟩
  obtain ⟨us, rfl, hul, hh⟩ := hR.agg_inv
  have l1 : lk d1 [(d1, Ob.sl e1 s1 rows1), (d2, .sl e2 s2 rows2)] = some (.sl e1 s1 rows1) := by simp [lk]
  have l2 : lk d2 [(d1, Ob.sl e1 s1 rows1), (d2, .sl e2 s2 rows2)] = some (.sl e2 s2 rows2) := by simp [lk, Ne.symm hd]
  have key : ∀ {d e s : Nat} {rows : List (List SV)}, lk d [(d1, Ob.sl e1 s1 rows1), (d2, .sl e2 s2 rows2)] = some (.sl e s rows) → allV rows → R w' (XX X β []) β (.sl s rows) (β d).val := fun {d e s rows} hl hv => by
    refine .p ((hO.1 d _ hl).toSl (fun b hb' hx => ?_) hv)
    have h1 := hn d _ b hl hb'
    rcases hx with hx | ⟨i, o, hi, _⟩
    · have := hX b hx; omega
    · cases hi
  refine .agg hul fun k c u hc hu => ?_
  match k, hc with
  | 0, hc =>
    simp at hc; subst hc
    have := (hh 0 _ u rfl hu).own_inv
    subst this; exact key l1 hv1
  | 1, hc =>
    simp at hc; subst hc
    have := (hh 1 _ u rfl hu).own_inv
    subst this; exact key l2 hv2
  | k + 2, hc => simp at hc
theorem Cn.frozenA {P : Program} {f : FuncId} {X : Type} {dec : List SV → X} {A : X → List SV} {pre : X → Prop} {e1 s1 e2 s2 : Nat} {rows1 rows2 : X → List (List SV)} (hv1 : ∀ x, allV (rows1 x)) (hv2 : ∀ x, allV (rows2 x))
    (h : Cn P f (Go.Vc.pur dec A pre (fun d _ => .agg [.own d, .own (d + 1000)]) (fun d x => [(d, .sl e1 s1 (rows1 x)), (d + 1000, .sl e2 s2 (rows2 x))]))) : Cn P f (Go.Vc.pur dec A pre (fun _ x => .agg [.sl s1 (rows1 x), .sl s2 (rows2 x)]) (fun _ _ => [])) :=
  ⟨h.call, fun d args ha => (h.holds d args ha).frozenA (by omega) (hv1 _) (hv2 _), fun _ _ _ h => h.elim⟩
theorem Cn.frozen {P : Program} {f : FuncId} {X : Type} {dec : List SV → X} {A : X → List SV} {pre : X → Prop} {e s : Nat} {rows : X → List (List SV)} (hv : ∀ x, allV (rows x))
    (h : Cn P f (Go.Vc.pur dec A pre (fun d _ => .own d) (fun d x => [(d, .sl e s (rows x))]))) : Cn P f (Go.Vc.pur dec A pre (fun _ x => .sl s (rows x)) (fun _ _ => [])) :=
  ⟨h.call, fun d args ha => (h.holds d args ha).frozen (hv _), fun _ _ _ h => h.elim⟩
theorem Cn.frozenT {P : Program} {f : FuncId} {X : Type} {dec : List SV → X} {A : X → List SV} {pre : X → Prop} {e s : Nat} {rows : X → List (List SV)} {y : X → Value} (hv : ∀ x, allV (rows x))
    (h : Cn P f (Go.Vc.pur dec A pre (fun d x => .tup [.own d, .v (y x)]) (fun d x => [(d, .sl e s (rows x))]))) : Cn P f (Go.Vc.pur dec A pre (fun _ x => .tup [.sl s (rows x), .v (y x)]) (fun _ _ => [])) :=
  ⟨h.call, fun d args ha => (h.holds d args ha).frozenT (hv _), fun _ _ _ h => h.elim⟩
end Go.Vc

/-
  DERIVED. What a call hands back as its own, taken as what may only be read: whatever its shape.
-/
namespace Go.Vc
set_option linter.unusedVariables false
def fz1m (robs : List (Nat × Ob)) : SV → SV
  | .own id => match lk id robs with
    | some (.sl _ s rows) => .sl s rows
    | _ => .junk
  | .v x => .v x
  | .sl s rows => .sl s rows
  | _ => .junk
theorem Holds.frz {P : Program} {f : FuncId} {args : List SV} {res : SV} {robs : List (Nat × Ob)} (h : Holds P f args res robs) (hv : ∀ id e s rows, lk id robs = some (.sl e s rows) → allV rows) : Holds P f args (res.up (fz1m robs)) [] := by
  intro w X vs hG hX hl ha
  refine (h w X vs hG hX hl ha).mono fun en w' ⟨v, β, he, hb, hβ, hR, hO, hn⟩ => ?_
  refine ⟨v, β, he, hb, hβ, ?_, ⟨fun id ob hi => (by cases hi), fun i j oi oj b hi => (by cases hi)⟩, fun id ob b hi => (by cases hi)⟩
  have hS : Same (XX X β robs) w' w' := ⟨Nat.le_refl _, fun _ _ _ => rfl⟩
  refine hR.up fun x u hx => ?_
  cases x with
  | own id =>
    have := hx.own_inv; subst this
    simp only [fz1m]
    split
    · rename_i e s rows hlk
      refine .p ((hO.1 id _ hlk).toSl (fun b hb' hx => ?_) (hv id e s rows hlk))
      have h1 := hn id _ b hlk hb'
      rcases hx with hx | ⟨i, o, hi, _⟩
      · have := hX b hx; omega
      · cases hi
    · exact .junk _
  | v y => have := hx.v_inv; subst this; exact .p (.v _)
  | sl s rows => exact .p (hx.sl_inv.mono hS (fun b _ hx => by
      rcases hx with hx | ⟨i, o, hi, _⟩
      · exact .inl hx
      · cases hi))
  | _ => exact .junk _
theorem Cn.frz {P : Program} {f : FuncId} {X : Type} {dec : List SV → X} {A : X → List SV} {pre : X → Prop} {res : Nat → X → SV} {robs : Nat → X → List (Nat × Ob)} {res' : X → SV}
    (h : Cn P f (Go.Vc.pur dec A pre res robs)) (hv : ∀ d x id e s rows, lk id (robs d x) = some (.sl e s rows) → allV rows) (he : ∀ d x, (res d x).up (fz1m (robs d x)) = res' x) : Cn P f (Go.Vc.pur dec A pre (fun _ x => res' x) (fun _ _ => [])) :=
  ⟨h.call, fun d args ha => (by have := (h.holds d args ha).frz (hv d _); rw [show ((Go.Vc.pur dec A pre res robs).pure d args).2.1 = res d (dec args) from rfl, show ((Go.Vc.pur dec A pre res robs).pure d args).2.2 = robs d (dec args) from rfl, he] at this; exact this), fun _ _ _ h => h.elim⟩
end Go.Vc

namespace Go.Proofs.Ytdbjioanlkilkaa
open Go.Vc
attribute [local go_sem] St.runR St.runW St.stepV offV St.step St.stepU St.stepG mkCond guardB St.prK St.pr St.prLen St.eff St.callE St.callD St.callF St.callL aI aB aS aR aC St.isM St.argL Ctr.pure Ctr.lend Ctr.move Ctr.isL Ctr.wri pur len lentBy St.lentV St.lent1 nthS argsR restOf obsR pairs swapL unObs backL St.resL erL SV.ren1 SV.up SV.up2 Ob.up St.fzL cellIds partIds St.intoRow SV.ownId St.fz SV.fz1 St.prep St.mvL St.mv SV.re1 rnOk St.prEq vals eqCells scEq Value.kd St.prStr St.prCut cutR St.bnd St.prMin St.bld isShift outL retL outJ oR oC oE oD SV.upq SV.isSl SV.shut St.ev St.get St.put St.new St.kill SV.kill SV.kill1 Ob.kill St.app St.wrt St.rowsOf St.res St.killL lk er argsL SV.strip SV.need SV.share SV.share1 SV.owns SV.owns1 SV.owns2 SV.good SV.good1 SV.rok SV.rok1 SV.rok2 SV.isV SV.isV2 nodupN SV.cells SV.one SV.pur Ob.pb partsIn rowsIn splice cellsAt dstOk scal2 scal1 thenK blockK retK outK outs okC okL okA okT nilC nilL nilA nilT keepC keepL keepA keepT St.runG St.dltK St.least St.clean St.final St.hide offK badS badO SV.refs SV.leaf SV.leaf2 Ob.refs dlOk fpAt Go.Vc.cover tups SV.ofAgg St.out outC subL St.has rng wr Value.oneCell' Option.isSome_some Option.isSome_none List.nil_append Bool.false_eq_true List.map_cons List.map_nil List.all_cons List.all_nil List.length_cons List.length_nil List.drop_zero List.drop_succ_cons List.take_succ_cons List.take_zero List.drop_nil List.take_nil List.getElem?_cons_zero List.getElem?_cons_succ List.getElem?_nil List.cons_append List.nil_append List.append_nil List.append_assoc List.flatMap_cons List.flatMap_nil List.contains_cons List.contains_nil List.set_cons_zero List.set_cons_succ List.getElem?_toArray Option.getD_some Option.getD_none Option.map_some Option.map_none Option.bind_some Option.some.injEq Prod.mk.injEq if_true if_false true_and and_true and_self and_false false_and Bool.and_false Bool.false_and Bool.or_true Bool.true_or Bool.or_false Bool.false_or ne_eq not_true_eq_false not_false_eq_true decide_true decide_false List.mem_cons List.not_mem_nil List.filter_cons List.filter_nil List.any_cons List.any_nil List.isEmpty_nil List.isEmpty_cons Option.getD_none or_false false_or true_or or_true forall_eq_or_imp forall_eq reduceCtorEq exists_eq exists_eq' exists_eq_left' exists_eq_left exists_eq_right exists_eq_right' imp_self implies_true Bool.and_true Bool.true_and Bool.and_self beq_self_eq_true List.replicate_succ List.replicate_zero forall_const false_implies pickB_or pickB_and beqT beqF Int.toNat_natCast List.length_map List.length_replicate ge_iff_le gt_iff_lt decide_eq_true_eq decide_eq_false_iff_not Bool.and_eq_true Bool.or_eq_true Bool.not_eq_true' Bool.not_eq_false' condG List.toList_toArray Bool.or_eq_false_iff Bool.and_eq_false_iff Int.not_lt Int.not_le beq_iff_eq beq_eq_false_iff_ne bne_iff_ne bne_eq_false_iff_eq ne_eq Bool.not_true Bool.not_false exists_and_left
section
open Go.Vc
set_option linter.unusedSimpArgs false
set_option linter.unusedVariables false
set_option maxHeartbeats 1000000
set_option maxRecDepth 10000
attribute [local irreducible] Go.Vc.WP
attribute [local go_sem] cx0_t cx0_c
structure Line where
  kind : Int
  name : ByteArray
  args : List ByteArray
  expr : List Tok
deriving DecidableEq
def encLine (x : Line) : List SV := [.v (.int .i64 x.kind), .v (.string x.name), .sl 1 (x.args.map encS), .sl 3 (x.expr.map encTok)]
def oneLine : List SV → Line
  | [.v (.int _ k), .v (.string n), .sl _ a, .sl _ t] => ⟨k, n, decS a, decTok t⟩
  | _ => ⟨0, ⟨#[]⟩, [], []⟩
def decLine (rows : List (List SV)) : List Line := rows.map oneLine
theorem oneLine_enc (x : Line) : oneLine (encLine x) = x := by
  show (⟨x.kind, x.name, decS (x.args.map encS), decTok (x.expr.map encTok)⟩ : Line) = x
  rw [decS_enc, decTok_enc]
theorem oneLine_f (k : Int) (n : ByteArray) (a : List ByteArray) (t : List Tok) : oneLine [.v (.int .i64 k), .v (.string n), .sl 1 (a.map encS), .sl 3 (t.map encTok)] = ⟨k, n, a, t⟩ := oneLine_enc ⟨k, n, a, t⟩
theorem decLine_enc (L : List Line) : decLine (L.map encLine) = L := by
  unfold decLine
  rw [List.map_map]
  exact List.map_id'' oneLine_enc L
theorem line_eta (x : Line) : (⟨x.kind, x.name, x.args, x.expr⟩ : Line) = x := rfl
attribute [local go_sem] decS_enc decTok_enc decLine_enc oneLine_f line_eta
def shLine (x : Line) : Prop := x.args.length ≤ 1048576 ∧ x.expr.length ≤ 1048576
def bigLine (x : Line) : Prop := x.name.size ≤ maxLen ∧ x.args.length ≤ maxLen ∧ (∀ s ∈ x.args, s.size ≤ maxLen) ∧ x.expr.length ≤ maxLen ∧ ∀ r ∈ x.expr, r.name.size ≤ maxLen

theorem szvTok_f (Y : List Tok) : Szf (szvTok Y) := fun l h => by
  unfold szvTok
  split
  · omega
  · have := szGo_f (sizesTok Y) (l - Y.length) (by omega); omega
def szvLine (x : Line) : Int → Int := szT (szA x.name.size) (szT (szvStr x.args) (szvTok x.expr))
theorem szvStr_f (L : List ByteArray) : Szf (szvStr L) := szList_f _ (by simp only [List.mem_map]; rintro _ ⟨x, _, rfl⟩; exact szA_f _)
theorem szvLine_f (x : Line) : Szf (szvLine x) := szT_f (szA_f _) (szT_f (szvStr_f _) (szvTok_f _))
def kszLine : Ctr := pur (fun args => (oneLine (aC args 0), aI args 1)) (fun x => [.agg [.v (.int .i64 x.1.kind), .v (.string x.1.name), .sl 1 (x.1.args.map encS), .sl 3 (x.1.expr.map encTok)], .v (.int .i64 x.2)]) (fun x => bigLine x.1 ∧ 0 ≤ x.2 ∧ x.2 ≤ 1048576)
  (fun _ x => .v (.int .i64 (szvLine x.1 x.2))) (fun _ _ => [])
section
noncomputable def cxZln : Cx := { P := Try.prog, tys := tys, C := [(82, kszStr), (83, kszTokS)], hty := tysOk, hC := COk.cons cszStr (COk.cons cszTokS (COk.nil _)) }
theorem cxZln_t : cxZln.tys = tys := rfl
theorem cxZln_c : cxZln.C = [(82, kszStr), (83, kszTokS)] := rfl
attribute [local go_sem] cxZln_t cxZln_c kszStr kszTokS
theorem cszLine : Cn Try.prog 40 kszLine := by
  refine Cn.pur Try.func40 (by kernel_rfl) rfl fun d x hx => ?_
  obtain ⟨⟨k, n, A, E⟩, left⟩ := x
  obtain ⟨⟨hn, hA, hAs, hE, hEs⟩, h0, h1⟩ := hx
  simp only at hn hA hAs hE hEs h0 h1 ⊢
  have hm : maxLen = 9223372036854775807 := rfl
  have hu : szvLine ⟨k, n, A, E⟩ left = if szA n.size left < 0 then -1 else (if szvStr A (szA n.size left) < 0 then -1 else szvTok E (szvStr A (szA n.size left))) := rfl
  have ha : szA n.size left = if left - (n.size : Int) < 0 then -1 else left - (n.size : Int) := rfl
  refine Holds.go (c := cxZln) Try.func40 rfl Try.results40 Try.ntmps40 (by omega) (by simp) rfl ?_
  intro X0 w0
  by_cases h5 : left - (n.size : Int) < 0
  · rw [if_pos h5] at ha
    rw [hu, ha, if_pos (by omega)]
    (repeat' (first | refine WP.seq ?_ | refine WP.block ?_ | ((first | refine WP.region ?_ | refine WP.condW ?_ | refine WP.ret ?_ | refine WP.exit ?_ | refine WP.skip ?_); simp only [go_sem, h5, tyAll, Nat.reduceAdd, Nat.reduceLT, Nat.reduceLeDiff, Nat.reduceEqDiff, Nat.reduceMul, Nat.reduceSub, Nat.reduceGT, reduceIte, Int.reduceNeg, Int.reduceToNat]) |  refine And.intro ?_ ?_ | intro _))
    all_goals first | omega | skip
    all_goals trace_state
  · rw [if_neg h5] at ha
    rw [ha, if_neg (by omega)] at hu
    have b1 := szvStr_f A (left - (n.size : Int)) (by omega)
    generalize hz : szvStr A (left - (n.size : Int)) = z at hu b1
    by_cases h6 : z < 0
    · rw [if_pos h6] at hu
      rw [hu]
      (repeat' (first | refine WP.seq ?_ | refine WP.block ?_ | ((first | refine WP.region ?_ | refine WP.condW ?_ | refine WP.ret ?_ | refine WP.exit ?_ | refine WP.skip ?_); simp only [go_sem, h5, hz, h6, tyAll, Nat.reduceAdd, Nat.reduceLT, Nat.reduceLeDiff, Nat.reduceEqDiff, Nat.reduceMul, Nat.reduceSub, Nat.reduceGT, reduceIte, Int.reduceNeg, Int.reduceToNat]) |  refine And.intro ?_ ?_ | intro _))
      all_goals first | omega | assumption | exact hAs _ ‹_› | exact hEs _ ‹_› | skip
      all_goals trace_state
    · rw [if_neg h6] at hu
      have b2 := szvTok_f E z (by omega)
      generalize hz2 : szvTok E z = z2 at hu b2
      rw [hu]
      by_cases h7 : z2 < 0
      · (repeat' (first | refine WP.seq ?_ | refine WP.block ?_ | ((first | refine WP.region ?_ | refine WP.condW ?_ | refine WP.ret ?_ | refine WP.exit ?_ | refine WP.skip ?_); simp only [go_sem, h5, hz, h6, hz2, h7, tyAll, Nat.reduceAdd, Nat.reduceLT, Nat.reduceLeDiff, Nat.reduceEqDiff, Nat.reduceMul, Nat.reduceSub, Nat.reduceGT, reduceIte, Int.reduceNeg, Int.reduceToNat]) |  refine And.intro ?_ ?_ | intro _))
        all_goals first | omega | assumption | exact hAs _ ‹_› | exact hEs _ ‹_› | skip
        all_goals first | rw [show z2 = -1 by omega] | skip
        all_goals trace_state
      · (repeat' (first | refine WP.seq ?_ | refine WP.block ?_ | ((first | refine WP.region ?_ | refine WP.condW ?_ | refine WP.ret ?_ | refine WP.exit ?_ | refine WP.skip ?_); simp only [go_sem, h5, hz, h6, hz2, h7, tyAll, Nat.reduceAdd, Nat.reduceLT, Nat.reduceLeDiff, Nat.reduceEqDiff, Nat.reduceMul, Nat.reduceSub, Nat.reduceGT, reduceIte, Int.reduceNeg, Int.reduceToNat]) |  refine And.intro ?_ ?_ | intro _))
        all_goals first | omega | assumption | exact hAs _ ‹_› | exact hEs _ ‹_› | skip
        all_goals trace_state
end
def szvLineS (L : List Line) : Int → Int := szList (L.map szvLine)
def kszLineS : Ctr := pur (fun args => (decLine (aR args 0), aI args 1)) (fun x => [.sl 4 (x.1.map encLine), .v (.int .i64 x.2)]) (fun x => x.1.length ≤ maxLen ∧ (∀ s ∈ x.1, bigLine s) ∧ 0 ≤ x.2 ∧ x.2 ≤ 1048576)
  (fun _ x => .v (.int .i64 (szvLineS x.1 x.2))) (fun _ _ => [])
section
attribute [local irreducible] bigLine
noncomputable def cxZls : Cx := { P := Try.prog, tys := tys, C := [(40, kszLine)], hty := tysOk, hC := COk.cons cszLine (COk.nil _) }
theorem cxZls_t : cxZls.tys = tys := rfl
theorem cxZls_c : cxZls.C = [(40, kszLine)] := rfl
attribute [local go_sem] cxZls_t cxZls_c kszLine
theorem cszLineS : Cn Try.prog 7 kszLineS := by
  refine Cn.pur Try.func7 (by kernel_rfl) rfl fun d x hx => ?_
  obtain ⟨L, left⟩ := x
  obtain ⟨hL, hs, h0, h1⟩ := hx
  simp only at hL hs h0 h1 ⊢
  have hm : maxLen = 9223372036854775807 := rfl
  generalize hF : L.map szvLine = F
  have hlen : F.length = L.length := by rw [← hF, List.length_map]
  have hsz : szvLineS L left = szList F left := by rw [← hF]; rfl
  rw [hsz]
  refine Holds.go (c := cxZls) Try.func7 rfl Try.results7 Try.ntmps7 (by omega) (by simp) rfl ?_
  intro X0 w0
  (repeat' (first | refine WP.seq ?_ | refine WP.block ?_ | ((first | refine WP.region ?_ | refine WP.condW ?_ | refine WP.ret ?_ | refine WP.exit ?_ | refine WP.skip ?_); simp only [go_sem, tyAll, Nat.reduceAdd, Nat.reduceLT, Nat.reduceLeDiff, Nat.reduceEqDiff, Nat.reduceMul, Nat.reduceSub, Nat.reduceGT, reduceIte, Int.reduceNeg, Int.reduceToNat]) |  refine And.intro ?_ ?_ | intro _))
  all_goals first | omega | skip
  · rename_i h; rw [szList, hlen, if_pos h]
  rename_i hge
  refine WP.loop (fun s : Nat × Int => ⟨[(0, .sl 4 (L.map encLine)), (1, .v (.int .i64 s.2)), (5, .v (.int .i64 s.1))], []⟩)
    (fun s => s.1 ≤ L.length ∧ 0 ≤ s.2 ∧ s.2 ≤ 1048576 ∧ szList F left = szL (F.drop s.1) s.2) (fun s => L.length - s.1) (0, left - L.length)
    ⟨by simp, by simpa using hge, by simp only; omega, by rw [szList, hlen, if_neg (by omega)]; rfl⟩ ?_ ?_
  · simp only [go_sem, tyAll, Nat.reduceAdd, Nat.reduceLT, Nat.reduceLeDiff, Nat.reduceEqDiff, Nat.reduceMul, Nat.reduceSub, Nat.reduceGT, reduceIte, Int.reduceNeg, Int.reduceToNat]; first | exact ⟨rfl, rfl⟩ | rfl
  rintro ⟨k, r⟩ ⟨hk, hr0, hr1, he⟩
  simp only at hk hr0 hr1 he ⊢
  by_cases hlt : k < L.length
  · have h2 := rowAt_map encLine L k hlt
    have h3 := hs _ (List.getElem_mem hlt)
    have hFk : F[k]'(by omega) = szvLine L[k] := by subst hF; simp
    have h4 := szL_drop F k r (by omega)
    rw [hFk] at h4
    have hb := szvLine_f L[k] r hr0
    generalize hz : szvLine L[k] r = z at h4 hb
    by_cases h5 : z < 0
    · rw [he, h4, if_pos h5]
      (repeat' (first | refine WP.seq ?_ | refine WP.block ?_ | ((first | refine WP.region ?_ | refine WP.condW ?_ | refine WP.ret ?_ | refine WP.exit ?_ | refine WP.skip ?_); simp only [go_sem, h2, encLine, hz, h5, tyAll, Nat.reduceAdd, Nat.reduceLT, Nat.reduceLeDiff, Nat.reduceEqDiff, Nat.reduceMul, Nat.reduceSub, Nat.reduceGT, reduceIte, Int.reduceNeg, Int.reduceToNat]) |  refine And.intro ?_ ?_ | intro _))
      all_goals first | omega | exact h3 | skip
      all_goals trace_state
    · rw [if_neg h5] at h4
      (repeat' (first | refine WP.seq ?_ | refine WP.block ?_ | ((first | refine WP.region ?_ | refine WP.condW ?_ | refine WP.ret ?_ | refine WP.exit ?_ | refine WP.skip ?_); simp only [go_sem, h2, encLine, hz, h5, tyAll, Nat.reduceAdd, Nat.reduceLT, Nat.reduceLeDiff, Nat.reduceEqDiff, Nat.reduceMul, Nat.reduceSub, Nat.reduceGT, reduceIte, Int.reduceNeg, Int.reduceToNat]) |  refine And.intro ?_ ?_ | intro _))
      all_goals first | omega | exact h3 | exact ⟨(k + 1, z), ⟨by simp only; omega, by simp only; omega, by simp only; omega, by rw [he, h4]⟩, by simp only; omega, rfl, rfl⟩ | skip
      all_goals trace_state
  · (repeat' (first | refine WP.seq ?_ | refine WP.block ?_ | ((first | refine WP.region ?_ | refine WP.condW ?_ | refine WP.ret ?_ | refine WP.exit ?_ | refine WP.skip ?_); simp only [go_sem, tyAll, Nat.reduceAdd, Nat.reduceLT, Nat.reduceLeDiff, Nat.reduceEqDiff, Nat.reduceMul, Nat.reduceSub, Nat.reduceGT, reduceIte, Int.reduceNeg, Int.reduceToNat]) |  refine And.intro ?_ ?_ | intro _))
    all_goals first | omega | skip
    rw [he, List.drop_of_length_le (by omega)]
    rfl
end

def zerLine : List SV := [.v (.int .i64 0), .v (.string ⟨#[]⟩), .v (.slice none 0 0), .v (.slice none 0 0)]
def ktoLine : Ctr := pur (fun args => oneLine (aC args 0)) (fun x => [.agg [.v (.int .i64 x.kind), .v (.string x.name), .sl 1 (x.args.map encS), .sl 3 (x.expr.map encTok)]]) (fun x => x.args.length ≤ 1048576 ∧ x.expr.length ≤ 1048576)
  (fun d x => .agg [.v (.int .i64 x.kind), .v (.string x.name), .own d, .own (d + 1000)]) (fun d x => [(d, .sl 9 1 (x.args.map encS)), (d + 1000, .sl 149 3 (x.expr.map encTok))])
section
noncomputable def cxTln : Cx := { P := Try.prog, tys := tys, C := [(84, ktoSo), (85, ktoTokS)], hty := tysOk, hC := COk.cons ctoSo (COk.cons ctoTokS (COk.nil _)) }
theorem cxTln_t : cxTln.tys = tys := rfl
theorem cxTln_c : cxTln.C = [(84, ktoSo), (85, ktoTokS)] := rfl
attribute [local go_sem] cxTln_t cxTln_c ktoSo ktoTokS
theorem ctoLine : Cn Try.prog 42 ktoLine := by
  refine Cn.pur Try.func42 (by kernel_rfl) rfl fun d x hx => ?_
  obtain ⟨k, n, A, E⟩ := x
  obtain ⟨hA, hE⟩ := hx
  simp only at hA hE ⊢
  refine Holds.go (c := cxTln) Try.func42 rfl Try.results42 Try.ntmps42 (by omega) (by simp) rfl ?_
  intro X0 w0
  (repeat' (first | refine WP.seq ?_ | refine WP.block ?_ | ((first | refine WP.region ?_ | refine WP.condW ?_ | refine WP.ret ?_ | refine WP.exit ?_ | refine WP.skip ?_); simp only [go_sem, tyAll, Nat.reduceAdd, Nat.reduceLT, Nat.reduceLeDiff, Nat.reduceEqDiff, Nat.reduceMul, Nat.reduceSub, Nat.reduceGT, reduceIte, Int.reduceNeg, Int.reduceToNat]) |  refine And.intro ?_ ?_ | intro _))
  all_goals first | omega | exact ⟨_, _, rfl, _, _, rfl, rfl⟩ | exact if_neg (by omega) | skip
  all_goals trace_state
end
end
end Go.Proofs.Ytdbjioanlkilkaa
/-
  DERIVED. Marks of lists whose elements take several numbers each.
-/
namespace Go.Proofs.Ytdbjioanlkilkaa
open Go.Vc
section
variable {α : Type} (cnt : α → Nat) (mrk : Int → α → α)
def cntA (L : List α) : Nat := (L.map cnt).sum
def mkA : Int → List α → List α
  | _, [] => []
  | k, x :: L => mrk k x :: mkA (k + (cnt x : Int)) L
def hfA (k : Int) (L : List α) (i : Nat) : List α := mkA cnt mrk k (L.take i) ++ L.drop i
variable {cnt mrk}
theorem mkA_len : ∀ (L : List α) (k : Int), (mkA cnt mrk k L).length = L.length
  | [], _ => rfl
  | x :: L, k => by simp [mkA, mkA_len L]
theorem mkA_app : ∀ (L M : List α) (k : Int), mkA cnt mrk k (L ++ M) = mkA cnt mrk k L ++ mkA cnt mrk (k + (cntA cnt L : Int)) M
  | [], M, k => by simp [mkA, cntA]
  | x :: L, M, k => by
    rw [List.cons_append, mkA, mkA, mkA_app L M, List.cons_append]
    congr 2
    simp only [cntA, List.map_cons, List.sum_cons]
    congr 1
    omega
theorem cntA_take (L : List α) (i : Nat) (h : i < L.length) : cntA cnt (L.take (i + 1)) = cntA cnt (L.take i) + cnt L[i] := by
  unfold cntA
  rw [List.take_succ_eq_append_getElem h, List.map_append, List.sum_append]
  simp
theorem cntA_le (L : List α) (m : Nat) (h : ∀ x ∈ L, cnt x ≤ m) : cntA cnt L ≤ L.length * m := by
  induction L with
  | nil => simp [cntA]
  | cons x L ih =>
    have h1 := h x List.mem_cons_self
    have h2 := ih fun y hy => h y (List.mem_cons_of_mem _ hy)
    simp only [cntA, List.map_cons, List.sum_cons, List.length_cons, Nat.add_mul] at h2 ⊢
    omega
theorem cntA_take_le (L : List α) (i : Nat) : cntA cnt (L.take i) ≤ cntA cnt L := by
  have := List.take_append_drop i L
  have h2 : cntA cnt L = cntA cnt (L.take i) + cntA cnt (L.drop i) := by
    unfold cntA
    rw [← List.sum_append, ← List.map_append, this]
  omega
theorem hfA_zero (L : List α) (k : Int) : hfA cnt mrk k L 0 = L := by simp [hfA, mkA]
theorem hfA_len (L : List α) (k : Int) (i : Nat) (h : i ≤ L.length) : (hfA cnt mrk k L i).length = L.length := by simp [hfA, mkA_len]; omega
theorem hfA_get (L : List α) (k : Int) (i : Nat) (h : i < L.length) : (hfA cnt mrk k L i)[i]? = some L[i] := by
  unfold hfA
  rw [List.getElem?_append_right (by simp [mkA_len]; omega)]
  simp [mkA_len, Nat.min_eq_left (Nat.le_of_lt h)]
theorem hfA_row {en : α → List SV} (L : List α) (k : Int) (i : Nat) (h : i < L.length) : Go.Vc.rowAt ((hfA cnt mrk k L i).map en) i = en L[i] := by
  unfold Go.Vc.rowAt
  rw [List.getElem?_map, hfA_get L k i h]; rfl
theorem hfA_set {en : α → List SV} (L : List α) (k : Int) (i : Nat) (h : i < L.length) : ((hfA cnt mrk k L i).map en).set i (en (mrk (k + (cntA cnt (L.take i) : Int)) L[i])) = (hfA cnt mrk k L (i + 1)).map en := by
  rw [← List.map_set]
  congr 1
  unfold hfA
  have hl : (mkA cnt mrk k (L.take i)).length = i := by rw [mkA_len, List.length_take]; omega
  rw [List.set_append, if_neg (by omega), hl, Nat.sub_self, List.drop_eq_getElem_cons h, List.set_cons_zero, List.take_succ_eq_append_getElem h, mkA_app, List.append_assoc]
  rfl
theorem hfA_all (L : List α) (k : Int) : hfA cnt mrk k L L.length = mkA cnt mrk k L := by simp [hfA]
theorem mkA_get : ∀ (L : List α) (k : Int) (i : Nat) (h : i < L.length), (mkA cnt mrk k L)[i]'(by rw [mkA_len]; exact h) = mrk (k + (cntA cnt (L.take i) : Int)) L[i]
  | x :: L, k, 0, _ => by simp [mkA, cntA]
  | x :: L, k, i + 1, h => by
    simp only [mkA, List.getElem_cons_succ, List.take_succ_cons]
    rw [mkA_get L _ i (by simpa using h)]
    congr 1
    simp only [cntA, List.map_cons, List.sum_cons]
    omega
end
end Go.Proofs.Ytdbjioanlkilkaa

namespace Go.Proofs.Ytdbjioanlkilkaa
open Go.Vc
attribute [local go_sem] St.runR St.runW St.stepV offV St.step St.stepU St.stepG mkCond guardB St.prK St.pr St.prLen St.eff St.callE St.callD St.callF St.callL aI aB aS aR aC St.isM St.argL Ctr.pure Ctr.lend Ctr.move Ctr.isL Ctr.wri pur len lentBy St.lentV St.lent1 nthS argsR restOf obsR pairs swapL unObs backL St.resL erL SV.ren1 SV.up SV.up2 Ob.up St.fzL cellIds partIds St.intoRow SV.ownId St.fz SV.fz1 St.prep St.mvL St.mv SV.re1 rnOk St.prEq vals eqCells scEq Value.kd St.prStr St.prCut cutR St.bnd St.prMin St.bld isShift outL retL outJ oR oC oE oD SV.upq SV.isSl SV.shut St.ev St.get St.put St.new St.kill SV.kill SV.kill1 Ob.kill St.app St.wrt St.rowsOf St.res St.killL lk er argsL SV.strip SV.need SV.share SV.share1 SV.owns SV.owns1 SV.owns2 SV.good SV.good1 SV.rok SV.rok1 SV.rok2 SV.isV SV.isV2 nodupN SV.cells SV.one SV.pur Ob.pb partsIn rowsIn splice cellsAt dstOk scal2 scal1 thenK blockK retK outK outs okC okL okA okT nilC nilL nilA nilT keepC keepL keepA keepT St.runG St.dltK St.least St.clean St.final St.hide offK badS badO SV.refs SV.leaf SV.leaf2 Ob.refs dlOk fpAt Go.Vc.cover tups SV.ofAgg St.out outC subL St.has rng wr Value.oneCell' Option.isSome_some Option.isSome_none List.nil_append Bool.false_eq_true List.map_cons List.map_nil List.all_cons List.all_nil List.length_cons List.length_nil List.drop_zero List.drop_succ_cons List.take_succ_cons List.take_zero List.drop_nil List.take_nil List.getElem?_cons_zero List.getElem?_cons_succ List.getElem?_nil List.cons_append List.nil_append List.append_nil List.append_assoc List.flatMap_cons List.flatMap_nil List.contains_cons List.contains_nil List.set_cons_zero List.set_cons_succ List.getElem?_toArray Option.getD_some Option.getD_none Option.map_some Option.map_none Option.bind_some Option.some.injEq Prod.mk.injEq if_true if_false true_and and_true and_self and_false false_and Bool.and_false Bool.false_and Bool.or_true Bool.true_or Bool.or_false Bool.false_or ne_eq not_true_eq_false not_false_eq_true decide_true decide_false List.mem_cons List.not_mem_nil List.filter_cons List.filter_nil List.any_cons List.any_nil List.isEmpty_nil List.isEmpty_cons Option.getD_none or_false false_or true_or or_true forall_eq_or_imp forall_eq reduceCtorEq exists_eq exists_eq' exists_eq_left' exists_eq_left exists_eq_right exists_eq_right' imp_self implies_true Bool.and_true Bool.true_and Bool.and_self beq_self_eq_true List.replicate_succ List.replicate_zero forall_const false_implies pickB_or pickB_and beqT beqF Int.toNat_natCast List.length_map List.length_replicate ge_iff_le gt_iff_lt decide_eq_true_eq decide_eq_false_iff_not Bool.and_eq_true Bool.or_eq_true Bool.not_eq_true' Bool.not_eq_false' condG List.toList_toArray Bool.or_eq_false_iff Bool.and_eq_false_iff Int.not_lt Int.not_le beq_iff_eq beq_eq_false_iff_ne bne_iff_ne bne_eq_false_iff_eq ne_eq Bool.not_true Bool.not_false exists_and_left
section
open Go.Vc
set_option linter.unusedSimpArgs false
set_option linter.unusedVariables false
set_option maxHeartbeats 1000000
set_option maxRecDepth 10000
attribute [local irreducible] Go.Vc.WP
attribute [local go_sem] cx0_t cx0_c
attribute [local go_sem] decS_enc decTok_enc decLine_enc oneLine_f line_eta ghoK St.gho St.gh SV.flat
theorem allVs_map {α : Type} {en : α → List SV} (h : ∀ x, ∀ c ∈ en x, ∃ v, c = SV.v v) (L : List α) : allVs (L.map en) ↔ True := iff_true_intro (by
  intro row hr c hc
  obtain ⟨n, _, rfl⟩ := List.mem_map.1 hr
  exact h n c hc)
theorem allVs_S (L : List ByteArray) : allVs (L.map encS) ↔ True := allVs_map (fun x c hc => by simp only [encS, List.mem_cons, List.not_mem_nil, or_false] at hc; exact ⟨_, hc⟩) L
theorem allVs_Tok (L : List Tok) : allVs (L.map encTok) ↔ True := allVs_map (fun x c hc => by simp only [encTok, List.mem_cons, List.not_mem_nil, or_false] at hc; rcases hc with rfl | rfl | rfl <;> exact ⟨_, rfl⟩) L
theorem allVs_rep {n : Nat} {z : List SV} (h : ∀ c ∈ z, ∃ v, c = SV.v v) : allVs (List.replicate n z) := fun row hr c hc => by
  rw [List.eq_of_mem_replicate hr] at hc
  exact h c hc
attribute [local go_sem] allVs_S allVs_Tok
def ktoLineO : Ctr := pur (fun args => decLine (aR args 0)) (fun L => [.sl 4 (L.map encLine)]) (fun L => L.length ≤ 1048576 ∧ ∀ x ∈ L, shLine x) (fun d _ => .own d) (fun d L => [(d, .dp 103 4 (L.map encLine))])
section
noncomputable def cxTls : Cx := { P := Try.prog, tys := tys, C := [(42, ktoLine)], hty := tysOk, hC := COk.cons ctoLine (COk.nil _) }
theorem cxTls_t : cxTls.tys = tys := rfl
theorem cxTls_c : cxTls.C = [(42, ktoLine)] := rfl
attribute [local go_sem] cxTls_t cxTls_c ktoLine
theorem ctoLineO : Cn Try.prog 9 ktoLineO := by
  refine Cn.pur Try.func9 (by kernel_rfl) rfl fun d x hx => ?_
  rename List Line => L
  obtain ⟨hL, hY⟩ := hx
  refine Holds.go (c := cxTls) Try.func9 rfl Try.results9 Try.ntmps9 (by omega) (by simp) rfl ?_
  intro X0 w0
  (repeat' (first | refine WP.seq ?_ | refine WP.block ?_ | ((first | refine WP.region ?_ | refine WP.condW ?_ | refine WP.ret ?_ | refine WP.exit ?_ | refine WP.skip ?_); simp only [go_sem, tyAll, Nat.reduceAdd, Nat.reduceLT, Nat.reduceLeDiff, Nat.reduceEqDiff, Nat.reduceMul, Nat.reduceSub, Nat.reduceGT, reduceIte, Int.reduceNeg, Int.reduceToNat]) |  refine And.intro ?_ ?_ | intro _))
  all_goals first | omega | skip
  refine WP.gho [.dp 7] ?_
  simp only [go_sem, tyAll, Nat.reduceAdd, Nat.reduceLT, Nat.reduceLeDiff, Nat.reduceEqDiff, Nat.reduceMul, Nat.reduceSub, Nat.reduceGT, reduceIte, Int.reduceNeg, Int.reduceToNat]
  refine ⟨allVs_rep (by simp), ?_⟩
  refine WP.loop (fun k : Nat => ⟨[(0, .sl 4 (L.map encLine)), (3, .own 7), (4, .v (.int .i64 k))], [(7, .dp 103 4 (filled encLine zerLine L k))]⟩) (fun k => k ≤ L.length) (fun k => L.length - k) 0 (by omega) ?_ ?_
  · rw [filled_zero]; simp only [go_sem, tyAll, Nat.reduceAdd, Nat.reduceLT, Nat.reduceLeDiff, Nat.reduceEqDiff, Nat.reduceMul, Nat.reduceSub, Nat.reduceGT, reduceIte, Int.reduceNeg, Int.reduceToNat]; first | exact ⟨rfl, rfl⟩ | rfl
  intro k hk
  by_cases hlt : k < L.length
  · have h0 := hY _ (List.getElem_mem hlt)
    have h1 := rowAt_map encLine L k hlt
    have h2 := filled_len encLine zerLine L k hk
    have h3 : Go.Vc.rowAt (filled encLine zerLine L k) k = [.v (.int .i64 0), .v (.string ⟨#[]⟩), .v (.slice none 0 0), .v (.slice none 0 0)] := filled_row encLine zerLine L k hlt
    have h4 := filled_set encLine zerLine L k hlt
    rw [encLine] at h4
    refine WP.post [.abs 7 2, .abs 7 3, .fld 7] ?_
    refine WP.gho [.opn 7 k] ?_
    simp only [go_sem, h2, h3, tyAll, Nat.reduceAdd, Nat.reduceLT, Nat.reduceLeDiff, Nat.reduceEqDiff, Nat.reduceMul, Nat.reduceSub, Nat.reduceGT, reduceIte, Int.reduceNeg, Int.reduceToNat]
    refine ⟨hlt, ?_⟩
    (repeat' (first | refine WP.seq ?_ | refine WP.block ?_ | ((first | refine WP.region ?_ | refine WP.condW ?_ | refine WP.ret ?_ | refine WP.exit ?_ | refine WP.skip ?_); simp only [go_sem, h1, h2, h3, h4, encLine, tyAll, Nat.reduceAdd, Nat.reduceLT, Nat.reduceLeDiff, Nat.reduceEqDiff, Nat.reduceMul, Nat.reduceSub, Nat.reduceGT, reduceIte, Int.reduceNeg, Int.reduceToNat]) |  refine And.intro ?_ ?_ | intro _))
    all_goals first | omega | exact h0.1 | exact h0.2 | exact ⟨k + 1, by omega, by omega, rfl, rfl⟩ | skip
    all_goals trace_state
  · have h2 := filled_len encLine zerLine L k hk
    have h5 : filled encLine zerLine L k = L.map encLine := by rw [show k = L.length by omega]; exact filled_all _ _ _
    (repeat' (first | refine WP.seq ?_ | refine WP.block ?_ | ((first | refine WP.region ?_ | refine WP.condW ?_ | refine WP.ret ?_ | refine WP.exit ?_ | refine WP.skip ?_); simp only [go_sem, h2, h5, tyAll, Nat.reduceAdd, Nat.reduceLT, Nat.reduceLeDiff, Nat.reduceEqDiff, Nat.reduceMul, Nat.reduceSub, Nat.reduceGT, reduceIte, Int.reduceNeg, Int.reduceToNat]) |  refine And.intro ?_ ?_ | intro _))
    all_goals first | omega | skip
    all_goals trace_state
end

def ktoLineZ : Ctr := pur (fun args => decLine (aR args 0)) (fun L => [.sl 4 (L.map encLine)]) (fun L => L.length ≤ 1048576 ∧ ∀ x ∈ L, shLine x) (fun _ L => .sl 4 (L.map encLine)) (fun _ _ => [])
theorem ctoLineZ : Cn Try.prog 9 ktoLineZ := ⟨ctoLineO.call, fun d args ha => (ctoLineO.holds d args ha).frozenD, fun _ _ _ h => h.elim⟩

/-! ## the same? (of two that are) -/
def kqLine : Ctr := pur (fun args => oneLine (aC args 0)) (fun x => [.agg [.v (.int .i64 x.kind), .v (.string x.name), .sl 1 (x.args.map encS), .sl 3 (x.expr.map encTok)], .agg [.v (.int .i64 x.kind), .v (.string x.name), .sl 1 (x.args.map encS), .sl 3 (x.expr.map encTok)]]) shLine (fun _ _ => .v (.bool true)) (fun _ _ => [])
section
noncomputable def cxQln : Cx := { P := Try.prog, tys := tys, C := [(86, keqS), (87, keqTokS)], hty := tysOk, hC := COk.cons ceqS (COk.cons ceqTokS (COk.nil _)) }
theorem cxQln_t : cxQln.tys = tys := rfl
theorem cxQln_c : cxQln.C = [(86, keqS), (87, keqTokS)] := rfl
attribute [local go_sem] cxQln_t cxQln_c keqS keqTokS
theorem cqLine : Cn Try.prog 45 kqLine := by
  refine Cn.pur Try.func45 (by kernel_rfl) rfl fun d x hx => ?_
  obtain ⟨k, n, A, E⟩ := x
  unfold shLine at hx
  obtain ⟨hA, hE⟩ := hx
  simp only at hA hE ⊢
  refine Holds.go (c := cxQln) Try.func45 rfl Try.results45 Try.ntmps45 (by omega) (by simp) rfl ?_
  intro X0 w0
  (repeat' (first | refine WP.seq ?_ | refine WP.block ?_ | ((first | refine WP.region ?_ | refine WP.condW ?_ | refine WP.ret ?_ | refine WP.exit ?_ | refine WP.skip ?_); simp only [go_sem, tyAll, Nat.reduceAdd, Nat.reduceLT, Nat.reduceLeDiff, Nat.reduceEqDiff, Nat.reduceMul, Nat.reduceSub, Nat.reduceGT, reduceIte, Int.reduceNeg, Int.reduceToNat]) |  refine And.intro ?_ ?_ | intro _))
  all_goals first | omega | skip
  all_goals trace_state
end
def kqLineS : Ctr := pur (fun args => decLine (aR args 0)) (fun L => [.sl 4 (L.map encLine), .sl 4 (L.map encLine)]) (fun L => L.length ≤ 1048576 ∧ ∀ x ∈ L, shLine x) (fun _ _ => .v (.bool true)) (fun _ _ => [])
section
attribute [local irreducible] shLine
noncomputable def cxQls : Cx := { P := Try.prog, tys := tys, C := [(45, kqLine)], hty := tysOk, hC := COk.cons cqLine (COk.nil _) }
theorem cxQls_t : cxQls.tys = tys := rfl
theorem cxQls_c : cxQls.C = [(45, kqLine)] := rfl
attribute [local go_sem] cxQls_t cxQls_c kqLine
theorem cqLineS : Cn Try.prog 13 kqLineS := by
  refine Cn.pur Try.func13 (by kernel_rfl) rfl fun d x hx => ?_
  rename List Line => L
  obtain ⟨hL, hY⟩ := hx
  refine Holds.go (c := cxQls) Try.func13 rfl Try.results13 Try.ntmps13 (by omega) (by simp) rfl ?_
  intro X0 w0
  (repeat' (first | refine WP.seq ?_ | refine WP.block ?_ | ((first | refine WP.region ?_ | refine WP.condW ?_ | refine WP.ret ?_ | refine WP.exit ?_ | refine WP.skip ?_); simp only [go_sem, tyAll, Nat.reduceAdd, Nat.reduceLT, Nat.reduceLeDiff, Nat.reduceEqDiff, Nat.reduceMul, Nat.reduceSub, Nat.reduceGT, reduceIte, Int.reduceNeg, Int.reduceToNat]) | ((first | refine WP.drawW 10 (by decide +kernel) (by kernel_rfl) ?_); simp only [go_sem, tyAll, Nat.reduceAdd, Nat.reduceLT, Nat.reduceLeDiff, Nat.reduceEqDiff, Nat.reduceMul, Nat.reduceSub, Nat.reduceGT, reduceIte, Int.reduceNeg, Int.reduceToNat]) |  refine And.intro ?_ ?_ | intro _))
  all_goals first | omega | skip
  refine WP.loop (fun k : Nat => ⟨[(0, .sl 4 (L.map encLine)), (1, .sl 4 (L.map encLine)), (5, .v (.int .i64 k))], []⟩) (fun k => k ≤ L.length) (fun k => L.length - k) 0 (by simp) ?_ ?_
  · simp only [go_sem, tyAll, Nat.reduceAdd, Nat.reduceLT, Nat.reduceLeDiff, Nat.reduceEqDiff, Nat.reduceMul, Nat.reduceSub, Nat.reduceGT, reduceIte, Int.reduceNeg, Int.reduceToNat]; first | exact ⟨rfl, rfl⟩ | rfl
  intro k hk
  by_cases hlt : k < L.length
  · have h1 := rowAt_map encLine L k hlt
    have h0 := hY _ (List.getElem_mem hlt)
    (repeat' (first | refine WP.seq ?_ | refine WP.block ?_ | ((first | refine WP.region ?_ | refine WP.condW ?_ | refine WP.ret ?_ | refine WP.exit ?_ | refine WP.skip ?_); simp only [go_sem, h1, encLine, tyAll, Nat.reduceAdd, Nat.reduceLT, Nat.reduceLeDiff, Nat.reduceEqDiff, Nat.reduceMul, Nat.reduceSub, Nat.reduceGT, reduceIte, Int.reduceNeg, Int.reduceToNat]) | ((first | refine WP.drawW 10 (by decide +kernel) (by kernel_rfl) ?_); simp only [go_sem, h1, encLine, tyAll, Nat.reduceAdd, Nat.reduceLT, Nat.reduceLeDiff, Nat.reduceEqDiff, Nat.reduceMul, Nat.reduceSub, Nat.reduceGT, reduceIte, Int.reduceNeg, Int.reduceToNat]) |  refine And.intro ?_ ?_ | intro _))
    all_goals first | omega | exact h0 | exact ⟨k + 1, by omega, by omega, rfl⟩ | exact ⟨k + 1, by omega, by omega, rfl, rfl⟩ | skip
    all_goals trace_state
  · (repeat' (first | refine WP.seq ?_ | refine WP.block ?_ | ((first | refine WP.region ?_ | refine WP.condW ?_ | refine WP.ret ?_ | refine WP.exit ?_ | refine WP.skip ?_); simp only [go_sem, tyAll, Nat.reduceAdd, Nat.reduceLT, Nat.reduceLeDiff, Nat.reduceEqDiff, Nat.reduceMul, Nat.reduceSub, Nat.reduceGT, reduceIte, Int.reduceNeg, Int.reduceToNat]) | ((first | refine WP.drawW 10 (by decide +kernel) (by kernel_rfl) ?_); simp only [go_sem, tyAll, Nat.reduceAdd, Nat.reduceLT, Nat.reduceLeDiff, Nat.reduceEqDiff, Nat.reduceMul, Nat.reduceSub, Nat.reduceGT, reduceIte, Int.reduceNeg, Int.reduceToNat]) |  refine And.intro ?_ ?_ | intro _))
    all_goals first | omega | skip
    all_goals trace_state
end

/-! ## marks -/
def cntLine (x : Line) : Nat := 2 + x.args.length + 3 * x.expr.length
def mrkLine (k : Int) (x : Line) : Line := ⟨k, markT (k + 1), marksS (k + 1 + 1) x.args.length, marksTok (k + 1 + 1 + (x.args.length : Int)) x.expr.length⟩
theorem cntLine_le {x : Line} (h : shLine x) : cntLine x ≤ 8388608 := by unfold cntLine; have := h.1; have := h.2; omega
def kmarkLineS : Ctr := len [0] [] (fun args obs => (decLine (oD obs 1000000), aI args 1, oE obs 1000000)) (fun x => [.own 1000000, .v (.int .i64 x.2.1)]) (fun x => [(1000000, .dp x.2.2 4 (x.1.map encLine))]) (fun x => x.1.length ≤ 1048576 ∧ (∀ y ∈ x.1, shLine y) ∧ 0 ≤ x.2.1 ∧ x.2.1 ≤ 100000000000000)
  (fun _ x => .v (.int .i64 (x.2.1 + (cntA cntLine x.1 : Int)))) (fun _ _ => []) (fun x => [(1000000, .dp x.2.2 4 ((mkA cntLine mrkLine x.2.1 x.1).map encLine))])
section
noncomputable def cxMln : Cx := { P := Try.prog, tys := tys, C := [(46, kmarkT), (47, kmarkSE), (48, kmarkTokE)], hty := tysOk, hC := COk.cons cmarkT (COk.cons cmarkSE (COk.cons cmarkTokE (COk.nil _))) }
theorem cxMln_t : cxMln.tys = tys := rfl
theorem cxMln_c : cxMln.C = [(46, kmarkT), (47, kmarkSE), (48, kmarkTokE)] := rfl
attribute [local go_sem] cxMln_t cxMln_c kmarkT kmarkSE kmarkTokE
theorem cmarkLineS : Cn Try.prog 15 kmarkLineS := by
  refine Cn.len Try.func15 (by kernel_rfl) rfl fun d x hd hx => ?_
  obtain ⟨L, k0, ee⟩ := x
  obtain ⟨hL, hY, h0, h1⟩ := hx
  simp only at hL hY h0 h1 ⊢
  have hcnt : cntA cntLine L ≤ 8796093022208 := Nat.le_trans (cntA_le L 8388608 fun x hx => cntLine_le (hY x hx)) (Nat.le_trans (Nat.mul_le_mul_right _ hL) (by decide))
  refine HoldsL.go (c := cxMln) Try.func15 rfl Try.results15 Try.ntmps15 (by omega) (by simp) rfl (by simp <;> omega) (by simp [SV.owns2, SV.owns, SV.owns1]) (by simp) rfl rfl (by simp) ?_
  intro X0 M w0
  (repeat' (first | refine WP.seq ?_ | refine WP.block ?_ | ((first | refine WP.region ?_ | refine WP.condW ?_ | refine WP.ret ?_ | refine WP.exit ?_ | refine WP.skip ?_); simp only [go_sem, tyAll, Nat.reduceAdd, Nat.reduceLT, Nat.reduceLeDiff, Nat.reduceEqDiff, Nat.reduceMul, Nat.reduceSub, Nat.reduceGT, reduceIte, Int.reduceNeg, Int.reduceToNat]) |  refine And.intro ?_ ?_ | intro _))
  refine WP.loop (fun k : Nat => ⟨[(0, .own 1000000), (1, .v (.int .i64 (k0 + (cntA cntLine (L.take k) : Int)))), (5, .v (.int .i64 k))], [(1000000, .dp ee 4 ((hfA cntLine mrkLine k0 L k).map encLine))]⟩) (fun k => k ≤ L.length) (fun k => L.length - k) 0 (by omega) ?_ ?_
  · have e2 : cntA cntLine (L.take 0) = 0 := rfl
    rw [hfA_zero, e2]; (simp only [go_sem, tyAll, Nat.reduceAdd, Nat.reduceLT, Nat.reduceLeDiff, Nat.reduceEqDiff, Nat.reduceMul, Nat.reduceSub, Nat.reduceGT, reduceIte, Int.reduceNeg, Int.reduceToNat] <;> (first | rfl | exact ⟨rfl, rfl⟩ | exact ⟨rfl, rfl, rfl⟩ | exact ⟨rfl, rfl, rfl, rfl⟩ | exact ⟨rfl, rfl, rfl, rfl, rfl⟩ | exact ⟨⟨rfl, rfl⟩, rfl⟩ | simp))
  intro k hk
  have h2 := hfA_len (cnt := cntLine) (mrk := mrkLine) L k0 k hk
  have hc2 := cntA_take_le (cnt := cntLine) L k
  by_cases hlt : k < L.length
  · have h3 := hfA_set (cnt := cntLine) (mrk := mrkLine) (en := encLine) L k0 k hlt
    have h4 := hfA_row (cnt := cntLine) (mrk := mrkLine) (en := encLine) L k0 k hlt
    have hsh := hY _ (List.getElem_mem hlt)
    have hc3 := cntA_take (cnt := cntLine) L k hlt
    have hc4 := cntA_take_le (cnt := cntLine) L (k + 1)
    generalize L[k] = y at h3 h4 hsh hc3
    obtain ⟨yk, yn, yA, yE⟩ := y
    obtain ⟨hA, hE⟩ := hsh
    generalize hkk : k0 + (cntA cntLine (L.take k) : Int) = kk at h3
    rw [encLine, mrkLine] at h3
    rw [encLine] at h4
    simp only at h3 h4 hA hE
    rw [show cntLine ⟨yk, yn, yA, yE⟩ = 2 + yA.length + 3 * yE.length from rfl] at hc3
    refine WP.post [.abs 1000000 2, .abs 1000000 3, .fld 1000000] ?_
    refine WP.gho [.opn 1000000 k, .borV 1000000 2 500, .borV 1000000 3 501] ?_
    simp only [go_sem, h2, h4, tyAll, Nat.reduceAdd, Nat.reduceLT, Nat.reduceLeDiff, Nat.reduceEqDiff, Nat.reduceMul, Nat.reduceSub, Nat.reduceGT, reduceIte, Int.reduceNeg, Int.reduceToNat]
    refine ⟨hlt, fun e1 e2 => ?_⟩
    (repeat' (first | refine WP.seq ?_ | refine WP.block ?_ | ((first | refine WP.region ?_ | refine WP.condW ?_ | refine WP.ret ?_ | refine WP.exit ?_ | refine WP.skip ?_); simp only [go_sem, h2, h3, h4, tyAll, Nat.reduceAdd, Nat.reduceLT, Nat.reduceLeDiff, Nat.reduceEqDiff, Nat.reduceMul, Nat.reduceSub, Nat.reduceGT, reduceIte, Int.reduceNeg, Int.reduceToNat]) |  refine And.intro ?_ ?_ | intro _))
    all_goals first | omega | skip
    refine ⟨k + 1, by omega, by omega, ⟨?_, rfl⟩, rfl⟩
    rw [show kk + 1 + 1 + (yA.length : Int) + 3 * (yE.length : Int) = k0 + (cntA cntLine (List.take (k + 1) L) : Int) by omega]
  · have h5 : hfA cntLine mrkLine k0 L k = mkA cntLine mrkLine k0 L := by rw [show k = L.length by omega]; exact hfA_all _ _
    have h6 := mkA_len (cnt := cntLine) (mrk := mrkLine) L k0
    (repeat' (first | refine WP.seq ?_ | refine WP.block ?_ | ((first | refine WP.region ?_ | refine WP.condW ?_ | refine WP.ret ?_ | refine WP.exit ?_ | refine WP.skip ?_); simp only [go_sem, h2, h5, h6, tyAll, Nat.reduceAdd, Nat.reduceLT, Nat.reduceLeDiff, Nat.reduceEqDiff, Nat.reduceMul, Nat.reduceSub, Nat.reduceGT, reduceIte, Int.reduceNeg, Int.reduceToNat]) |  refine And.intro ?_ ?_ | intro _))
    all_goals first | omega | skip
    all_goals rw [show k = L.length by omega, List.take_length]
end
end
section
open Go.Vc
set_option linter.unusedSimpArgs false
set_option linter.unusedVariables false
set_option maxHeartbeats 1000000
attribute [local irreducible] Go.Vc.WP
attribute [local go_sem] cx0_t cx0_c

noncomputable def cxtoFrame : Cx := { P := Try.prog, tys := tys, C := [(100, ktoFrame)], hty := tysOk, hC := COk.cons ctoFrame (COk.nil _) }
theorem cxtoFrame_t : cxtoFrame.tys = tys := rfl
theorem cxtoFrame_c : cxtoFrame.C = [(100, ktoFrame)] := rfl
def ktoFrameS : Ctr := pur (fun args => decFrame (aR args 0)) (fun L => [.sl 2 (L.map encFrame)]) (fun L => L.length ≤ 2097152) (fun d _ => .own d) (fun d L => [(d, .sl 100 2 (L.map encFrame))])
section
attribute [local go_sem] cxtoFrame_t cxtoFrame_c ktoFrame oneFrame
theorem ctoFrameS : Cn Try.prog 60 ktoFrameS := by
  refine Cn.pur Try.func60 (by kernel_rfl) rfl fun d L hL => ?_
  refine Holds.go (c := cxtoFrame) Try.func60 rfl Try.results60 Try.ntmps60 (by omega) (by simp) rfl ?_
  intro X0 w0
  (repeat' (first | refine WP.seq ?_ | refine WP.block ?_ | ((first | refine WP.region ?_ | refine WP.condW ?_ | refine WP.ret ?_ | refine WP.exit ?_ | refine WP.skip ?_); simp only [go_sem, tyAll, Nat.reduceAdd, Nat.reduceLT, Nat.reduceLeDiff, Nat.reduceEqDiff, Nat.reduceMul, Nat.reduceSub, Nat.reduceGT, reduceIte, Int.reduceNeg, Int.reduceToNat]) |  refine And.intro ?_ ?_ | intro _))
  all_goals first | omega | skip
  refine WP.loop (fun k : Nat => ⟨[(0, .sl 2 (L.map encFrame)), (3, .own 7), (4, .v (.int .i64 k))], [(7, .sl 100 2 (filled encFrame zerFrame L k))]⟩) (fun k => k ≤ L.length) (fun k => L.length - k) 0 (by omega) ?_ ?_
  · rw [filled_zero]; simp only [go_sem, tyAll, Nat.reduceAdd, Nat.reduceLT, Nat.reduceLeDiff, Nat.reduceEqDiff, Nat.reduceMul, Nat.reduceSub, Nat.reduceGT, reduceIte, Int.reduceNeg, Int.reduceToNat]; first | exact ⟨rfl, rfl⟩ | rfl
  intro k hk
  by_cases hlt : k < L.length
  · have h1 := rowAt_map encFrame L k hlt
    have h2 := filled_len encFrame zerFrame L k hk
    have h3 : Go.Vc.rowAt (filled encFrame zerFrame L k) k = [.v (.string ⟨#[]⟩), .v (.int .i64 0)] := filled_row encFrame zerFrame L k hlt
    have h4 := filled_set encFrame zerFrame L k hlt
    rw [encFrame] at h4
    (repeat' (first | refine WP.seq ?_ | refine WP.block ?_ | ((first | refine WP.region ?_ | refine WP.condW ?_ | refine WP.ret ?_ | refine WP.exit ?_ | refine WP.skip ?_); simp only [go_sem, h1, h2, h3, h4, encFrame, tyAll, Nat.reduceAdd, Nat.reduceLT, Nat.reduceLeDiff, Nat.reduceEqDiff, Nat.reduceMul, Nat.reduceSub, Nat.reduceGT, reduceIte, Int.reduceNeg, Int.reduceToNat]) |  refine And.intro ?_ ?_ | intro _))
    all_goals first | omega | skip
    exact ⟨k + 1, by omega, by omega, rfl, rfl⟩
  · have h2 := filled_len encFrame zerFrame L k hk
    have h5 : filled encFrame zerFrame L k = L.map encFrame := by rw [show k = L.length by omega]; exact filled_all _ _ _
    (repeat' (first | refine WP.seq ?_ | refine WP.block ?_ | ((first | refine WP.region ?_ | refine WP.condW ?_ | refine WP.ret ?_ | refine WP.exit ?_ | refine WP.skip ?_); simp only [go_sem, h2, h5, tyAll, Nat.reduceAdd, Nat.reduceLT, Nat.reduceLeDiff, Nat.reduceEqDiff, Nat.reduceMul, Nat.reduceSub, Nat.reduceGT, reduceIte, Int.reduceNeg, Int.reduceToNat]) |  refine And.intro ?_ ?_ | intro _))
    all_goals first | omega | skip
end

noncomputable def cxeqFrame : Cx := { P := Try.prog, tys := tys, C := [(44, keqFrame)], hty := tysOk, hC := COk.cons ceqFrame (COk.nil _) }
theorem cxeqFrame_t : cxeqFrame.tys = tys := rfl
theorem cxeqFrame_c : cxeqFrame.C = [(44, keqFrame)] := rfl
def keqFrameS : Ctr := pur (fun args => (decFrame (aR args 0), decFrame (aR args 1))) (fun x => [.sl 2 (x.1.map encFrame), .sl 2 (x.2.map encFrame)]) (fun x => x.1.length ≤ 4398046511104) (fun _ x => .v (.bool (decide (x.1 = x.2)))) (fun _ _ => [])
section
attribute [local go_sem] cxeqFrame_t cxeqFrame_c keqFrame oneFrame
theorem ceqFrameS : Cn Try.prog 12 keqFrameS := by
  refine Cn.pur Try.func12 (by kernel_rfl) rfl fun d x hL => ?_
  obtain ⟨L, M⟩ := x
  simp only at hL ⊢
  refine Holds.go (c := cxeqFrame) Try.func12 rfl Try.results12 Try.ntmps12 (by omega) (by simp) rfl ?_
  intro X0 w0
  (repeat' (first | refine WP.seq ?_ | refine WP.block ?_ | ((first | refine WP.region ?_ | refine WP.condW ?_ | refine WP.ret ?_ | refine WP.exit ?_ | refine WP.skip ?_); simp only [go_sem, tyAll, Nat.reduceAdd, Nat.reduceLT, Nat.reduceLeDiff, Nat.reduceEqDiff, Nat.reduceMul, Nat.reduceSub, Nat.reduceGT, reduceIte, Int.reduceNeg, Int.reduceToNat]) |  refine And.intro ?_ ?_ | intro _))
  · simp; intro h; subst h; simp_all
  have hlen : L.length = M.length := by omega
  refine WP.loop (fun k : Nat => ⟨[(0, .sl 2 (L.map encFrame)), (1, .sl 2 (M.map encFrame)), (5, .v (.int .i64 k))], []⟩) (fun k => k ≤ L.length ∧ L.take k = M.take k) (fun k => L.length - k) 0 (by simp) ?_ ?_
  · simp only [go_sem, tyAll, Nat.reduceAdd, Nat.reduceLT, Nat.reduceLeDiff, Nat.reduceEqDiff, Nat.reduceMul, Nat.reduceSub, Nat.reduceGT, reduceIte, Int.reduceNeg, Int.reduceToNat]; rfl
  intro k ⟨hk, ht⟩
  by_cases hlt : k < L.length
  · have h1 := rowAt_map encFrame L k hlt
    have h2 := rowAt_map encFrame M k (by omega)
    (repeat' (first | refine WP.seq ?_ | refine WP.block ?_ | ((first | refine WP.region ?_ | refine WP.condW ?_ | refine WP.ret ?_ | refine WP.exit ?_ | refine WP.skip ?_); simp only [go_sem, h1, h2, encFrame, tyAll, Nat.reduceAdd, Nat.reduceLT, Nat.reduceLeDiff, Nat.reduceEqDiff, Nat.reduceMul, Nat.reduceSub, Nat.reduceGT, reduceIte, Int.reduceNeg, Int.reduceToNat]) | (refine WP.drawW 10 (by kernel_rfl) (by kernel_rfl) ?_; simp only [go_sem, h1, h2, encFrame, tyAll, Nat.reduceAdd, Nat.reduceLT, Nat.reduceLeDiff, Nat.reduceEqDiff, Nat.reduceMul, Nat.reduceSub, Nat.reduceGT, reduceIte, Int.reduceNeg, Int.reduceToNat]) |  refine And.intro ?_ ?_ | intro _))
    all_goals first | omega | skip
    · rename_i hne
      rw [show decide (L = M) = false from decide_eq_false fun e => by subst e; exact hne rfl]
    · rename_i he
      refine ⟨k + 1, ⟨by omega, ?_⟩, by omega, rfl⟩
      have he' : L[k] = M[k] := he
      rw [List.take_succ_eq_append_getElem hlt, List.take_succ_eq_append_getElem (by omega : k < M.length), ht, he']
  · (repeat' (first | refine WP.seq ?_ | refine WP.block ?_ | ((first | refine WP.region ?_ | refine WP.condW ?_ | refine WP.ret ?_ | refine WP.exit ?_ | refine WP.skip ?_); simp only [go_sem, tyAll, Nat.reduceAdd, Nat.reduceLT, Nat.reduceLeDiff, Nat.reduceEqDiff, Nat.reduceMul, Nat.reduceSub, Nat.reduceGT, reduceIte, Int.reduceNeg, Int.reduceToNat]) |  refine And.intro ?_ ?_ | intro _))
    all_goals first | omega | skip
    rw [show decide (L = M) = true from decide_eq_true ?_]
    rw [show k = L.length by omega, List.take_length, hlen, List.take_length] at ht
    exact ht
end

noncomputable def cxszFrame : Cx := { P := Try.prog, tys := tys, C := [(97, kszFrame)], hty := tysOk, hC := COk.cons cszFrame (COk.nil _) }
theorem cxszFrame_t : cxszFrame.tys = tys := rfl
theorem cxszFrame_c : cxszFrame.C = [(97, kszFrame)] := rfl
def sizesFrame (L : List Frame) : List Nat := L.map fun x => x.name.size
def szvFrame (L : List Frame) (left : Int) : Int := if left - L.length < 0 then -1 else szGo (sizesFrame L) (left - L.length)
def kszFrameS : Ctr := pur (fun args => (decFrame (aR args 0), aI args 1)) (fun x => [.sl 2 (x.1.map encFrame), .v (.int .i64 x.2)]) (fun x => x.1.length ≤ maxLen ∧ (∀ r ∈ x.1, r.name.size ≤ maxLen) ∧ 0 ≤ x.2 ∧ x.2 ≤ 1048576)
  (fun _ x => .v (.int .i64 (szvFrame x.1 x.2))) (fun _ _ => [])
section
attribute [local go_sem] cxszFrame_t cxszFrame_c kszFrame oneFrame
theorem cszFrameS : Cn Try.prog 58 kszFrameS := by
  refine Cn.pur Try.func58 (by kernel_rfl) rfl fun d x h => ?_
  obtain ⟨L, left⟩ := x
  obtain ⟨hL, hs, h0, h1⟩ := h
  simp only at hL hs h0 h1 ⊢
  have hm : maxLen = 9223372036854775807 := rfl
  refine Holds.go (c := cxszFrame) Try.func58 rfl Try.results58 Try.ntmps58 (by omega) (by simp) rfl ?_
  intro X0 w0
  (repeat' (first | refine WP.seq ?_ | refine WP.block ?_ | ((first | refine WP.region ?_ | refine WP.condW ?_ | refine WP.ret ?_ | refine WP.exit ?_ | refine WP.skip ?_); simp only [go_sem, tyAll, Nat.reduceAdd, Nat.reduceLT, Nat.reduceLeDiff, Nat.reduceEqDiff, Nat.reduceMul, Nat.reduceSub, Nat.reduceGT, reduceIte, Int.reduceNeg, Int.reduceToNat]) |  refine And.intro ?_ ?_ | intro _))
  all_goals first | omega | skip
  · rename_i h; rw [szvFrame, if_pos h]
  rename_i hge
  refine WP.loop (fun s : Nat × Int => ⟨[(0, .sl 2 (L.map encFrame)), (1, .v (.int .i64 s.2)), (5, .v (.int .i64 s.1))], []⟩)
    (fun s => s.1 ≤ L.length ∧ 0 ≤ s.2 ∧ s.2 ≤ 1048576 ∧ szvFrame L left = szGo ((sizesFrame L).drop s.1) s.2) (fun s => L.length - s.1) (0, left - L.length)
    ⟨by simp, by simpa using hge, by simp only; omega, by rw [szvFrame, if_neg (by omega)]; rfl⟩ ?_ ?_
  · simp only [go_sem, tyAll, Nat.reduceAdd, Nat.reduceLT, Nat.reduceLeDiff, Nat.reduceEqDiff, Nat.reduceMul, Nat.reduceSub, Nat.reduceGT, reduceIte, Int.reduceNeg, Int.reduceToNat]; first | exact ⟨rfl, rfl⟩ | rfl
  rintro ⟨k, r⟩ ⟨hk, hr0, hr1, he⟩
  simp only at hk hr0 hr1 he ⊢
  by_cases hlt : k < L.length
  · have h2 := rowAt_map encFrame L k hlt
    have h3 := hs _ (List.getElem_mem hlt)
    have h4 : szGo ((sizesFrame L).drop k) r = if r - (L[k].name.size : Int) < 0 then -1 else szGo ((sizesFrame L).drop (k + 1)) (r - (L[k].name.size : Int)) := by
      rw [szGo_drop (sizesFrame L) k r (by simpa [sizesFrame] using hlt)]
      simp only [sizesFrame, List.getElem_map]
    (repeat' (first | refine WP.seq ?_ | refine WP.block ?_ | ((first | refine WP.region ?_ | refine WP.condW ?_ | refine WP.ret ?_ | refine WP.exit ?_ | refine WP.skip ?_); simp only [go_sem, h2, encFrame, tyAll, Nat.reduceAdd, Nat.reduceLT, Nat.reduceLeDiff, Nat.reduceEqDiff, Nat.reduceMul, Nat.reduceSub, Nat.reduceGT, reduceIte, Int.reduceNeg, Int.reduceToNat]) |  refine And.intro ?_ ?_ | intro _))
    all_goals first | omega | skip
    · rename_i h
      have h5 : r - (L[k].name.size : Int) < 0 := by
        refine Int.not_le.1 fun h6 => ?_
        rw [if_neg (by omega)] at h
        omega
      rw [he, h4, if_pos h5]
    · rename_i h
      have h5 : ¬ r - (L[k].name.size : Int) < 0 := fun h6 => by
        rw [if_pos h6] at h
        omega
      rw [if_neg h5]
      refine ⟨(k + 1, r - L[k].name.size), ⟨by simp only; omega, by simp only; omega, by simp only; omega, ?_⟩, by simp only; omega, rfl, rfl⟩
      rw [he, h4, if_neg h5]
  · (repeat' (first | refine WP.seq ?_ | refine WP.block ?_ | ((first | refine WP.region ?_ | refine WP.condW ?_ | refine WP.ret ?_ | refine WP.exit ?_ | refine WP.skip ?_); simp only [go_sem, tyAll, Nat.reduceAdd, Nat.reduceLT, Nat.reduceLeDiff, Nat.reduceEqDiff, Nat.reduceMul, Nat.reduceSub, Nat.reduceGT, reduceIte, Int.reduceNeg, Int.reduceToNat]) |  refine And.intro ?_ ?_ | intro _))
    all_goals first | omega | skip
    rw [he, List.drop_of_length_le (by simp [sizesFrame]; omega)]
    rfl
end
theorem szvFrame_ok {L : List Frame} (h : ¬ szvFrame L 1048576 < 0) : L.length ≤ 1048576 ∧ ∀ x ∈ L, x.name.size ≤ 1048576 := by
  unfold szvFrame at h
  split at h
  · omega
  · rename_i h2
    refine ⟨by omega, fun x hx => ?_⟩
    have := szGo_ok (sizesFrame L) _ (by omega) (Int.not_lt.1 h) x.name.size (List.mem_map.2 ⟨x, hx, rfl⟩)
    omega

theorem extFrame {a b : Frame} (h0 : a.name = b.name) (h1 : a.line = b.line) : a = b := by cases a; cases b; simp_all
def mrkFrame (v : Int) : Frame := ⟨markT (v), v + 1⟩
def marksFrame (k : Int) (n : Nat) : List Frame := (List.range n).map fun i : Nat => mrkFrame (k + 2 * (i : Int))
theorem marksFrame_len (k : Int) (n : Nat) : (marksFrame k n).length = n := by simp [marksFrame]
def halfFrame (L : List Frame) (k0 : Int) (k : Nat) : List Frame := marksFrame k0 k ++ L.drop k
theorem halfFrame_len (L : List Frame) (k0 : Int) (k : Nat) (h : k ≤ L.length) : (halfFrame L k0 k).length = L.length := by simp [halfFrame, marksFrame_len]; omega
theorem halfFrame_set (L : List Frame) (k0 : Int) (k : Nat) (h : k < L.length) : ((halfFrame L k0 k).map encFrame).set k (encFrame (mrkFrame (k0 + 2 * (k : Int)))) = (halfFrame L k0 (k + 1)).map encFrame := by
  rw [← List.map_set]
  congr 1
  unfold halfFrame
  rw [List.set_append, if_neg (by simp [marksFrame_len]), marksFrame_len, Nat.sub_self, List.drop_eq_getElem_cons h, List.set_cons_zero]
  simp [marksFrame, List.range_succ]
noncomputable def cxMkFrame : Cx := { P := Try.prog, tys := tys, C := [(46, kmarkT)], hty := tysOk, hC := COk.cons cmarkT (COk.nil _) }
theorem cxMkFrame_t : cxMkFrame.tys = tys := rfl
theorem cxMkFrame_c : cxMkFrame.C = [(46, kmarkT)] := rfl
attribute [local go_sem] cxMkFrame_t cxMkFrame_c kmarkT

def kmarkFrameS : Ctr := len [0] [] (fun args obs => (decFrame (oR obs 1000000), aI args 1)) (fun x => [.own 1000000, .v (.int .i64 x.2)]) (fun x => [(1000000, .sl 100 2 (x.1.map encFrame))]) (fun x => x.1.length ≤ 4398046511104 ∧ 0 ≤ x.2 ∧ x.2 ≤ 500000000000000)
  (fun _ x => .v (.int .i64 (x.2 + 2 * x.1.length))) (fun _ _ => []) (fun x => [(1000000, .sl 100 2 ((marksFrame x.2 x.1.length).map encFrame))])
theorem cmarkFrameS : Cn Try.prog 17 kmarkFrameS := by
  refine Cn.len Try.func17 (by kernel_rfl) rfl fun d x hd hx => ?_
  obtain ⟨L, k0⟩ := x
  obtain ⟨hL, h0, h1⟩ := hx
  simp only at hL h0 h1 ⊢
  refine HoldsL.go (c := cxMkFrame) Try.func17 rfl Try.results17 Try.ntmps17 (by omega) (by simp) rfl (by simp <;> omega) (by simp [SV.owns2, SV.owns, SV.owns1]) (by simp) rfl rfl (by simp) ?_
  intro X0 M w0
  (repeat' (first | refine WP.seq ?_ | refine WP.block ?_ | ((first | refine WP.region ?_ | refine WP.condW ?_ | refine WP.ret ?_ | refine WP.exit ?_ | refine WP.skip ?_); simp only [go_sem, tyAll, Nat.reduceAdd, Nat.reduceLT, Nat.reduceLeDiff, Nat.reduceEqDiff, Nat.reduceMul, Nat.reduceSub, Nat.reduceGT, reduceIte, Int.reduceNeg, Int.reduceToNat]) |  refine And.intro ?_ ?_ | intro _))
  refine WP.loop (fun k : Nat => ⟨[(0, .own 1000000), (1, .v (.int .i64 (k0 + 2 * (k : Int)))), (5, .v (.int .i64 k))], [(1000000, .sl 100 2 ((halfFrame L k0 k).map encFrame))]⟩) (fun k => k ≤ L.length) (fun k => L.length - k) 0 (by omega) ?_ ?_
  · have e : halfFrame L k0 0 = L := by simp [halfFrame, marksFrame]
    rw [e]; (simp only [go_sem, tyAll, Nat.reduceAdd, Nat.reduceLT, Nat.reduceLeDiff, Nat.reduceEqDiff, Nat.reduceMul, Nat.reduceSub, Nat.reduceGT, reduceIte, Int.reduceNeg, Int.reduceToNat] <;> (first | rfl | exact ⟨rfl, rfl⟩ | exact ⟨rfl, rfl, rfl⟩ | exact ⟨rfl, rfl, rfl, rfl⟩ | exact ⟨rfl, rfl, rfl, rfl, rfl⟩ | exact ⟨⟨rfl, rfl⟩, rfl⟩ | simp))
  intro k hk
  have h2 := halfFrame_len L k0 k hk
  by_cases hlt : k < L.length
  · have h3 := halfFrame_set L k0 k hlt
    rw [encFrame, mrkFrame] at h3
    simp only at h3
    have h4 := rowAt_map encFrame (halfFrame L k0 k) k (by omega)
    have h5 : ∀ r : List SV, Go.Vc.rowAt (((halfFrame L k0 k).map encFrame).set k r) k = r := fun r => rowAt_set _ _ _ (by rw [List.length_map]; omega)
    (repeat' (first | refine WP.seq ?_ | refine WP.block ?_ | ((first | refine WP.region ?_ | refine WP.condW ?_ | refine WP.ret ?_ | refine WP.exit ?_ | refine WP.skip ?_); simp only [go_sem, h2, h3, h4, h5, encFrame, List.set_set, List.length_set, tyAll, Nat.reduceAdd, Nat.reduceLT, Nat.reduceLeDiff, Nat.reduceEqDiff, Nat.reduceMul, Nat.reduceSub, Nat.reduceGT, reduceIte, Int.reduceNeg, Int.reduceToNat]) |  refine And.intro ?_ ?_ | intro _))
    all_goals first | omega | skip
    refine ⟨k + 1, by omega, by omega, ⟨?_, rfl⟩, rfl⟩
    rw [show k0 + 2 * (k : Int) + 1 + 1 = k0 + 2 * ((k + 1 : Nat) : Int) by omega]
  · have h5 : halfFrame L k0 k = marksFrame k0 L.length := by rw [show k = L.length by omega]; simp [halfFrame]
    have h6 := marksFrame_len k0 L.length
    (repeat' (first | refine WP.seq ?_ | refine WP.block ?_ | ((first | refine WP.region ?_ | refine WP.condW ?_ | refine WP.ret ?_ | refine WP.exit ?_ | refine WP.skip ?_); simp only [go_sem, h2, h5, h6, tyAll, Nat.reduceAdd, Nat.reduceLT, Nat.reduceLeDiff, Nat.reduceEqDiff, Nat.reduceMul, Nat.reduceSub, Nat.reduceGT, reduceIte, Int.reduceNeg, Int.reduceToNat]) |  refine And.intro ?_ ?_ | intro _))
    all_goals first | omega | skip
    all_goals rw [show k = L.length by omega]

def kmarkFrameE : Ctr := len [0] [] (fun args obs => (decFrame (oR obs 1000000), aI args 1, oE obs 1000000)) (fun x => [.own 1000000, .v (.int .i64 x.2.1)]) (fun x => [(1000000, .sl x.2.2 2 (x.1.map encFrame))]) (fun x => x.1.length ≤ 4398046511104 ∧ 0 ≤ x.2.1 ∧ x.2.1 ≤ 500000000000000)
  (fun _ x => .v (.int .i64 (x.2.1 + 2 * x.1.length))) (fun _ _ => []) (fun x => [(1000000, .sl x.2.2 2 ((marksFrame x.2.1 x.1.length).map encFrame))])
theorem cmarkFrameE : Cn Try.prog 17 kmarkFrameE := by
  refine Cn.len Try.func17 (by kernel_rfl) rfl fun d x hd hx => ?_
  obtain ⟨L, k0, ee⟩ := x
  obtain ⟨hL, h0, h1⟩ := hx
  simp only at hL h0 h1 ⊢
  refine HoldsL.go (c := cxMkFrame) Try.func17 rfl Try.results17 Try.ntmps17 (by omega) (by simp) rfl (by simp <;> omega) (by simp [SV.owns2, SV.owns, SV.owns1]) (by simp) rfl rfl (by simp) ?_
  intro X0 M w0
  (repeat' (first | refine WP.seq ?_ | refine WP.block ?_ | ((first | refine WP.region ?_ | refine WP.condW ?_ | refine WP.ret ?_ | refine WP.exit ?_ | refine WP.skip ?_); simp only [go_sem, tyAll, Nat.reduceAdd, Nat.reduceLT, Nat.reduceLeDiff, Nat.reduceEqDiff, Nat.reduceMul, Nat.reduceSub, Nat.reduceGT, reduceIte, Int.reduceNeg, Int.reduceToNat]) |  refine And.intro ?_ ?_ | intro _))
  refine WP.loop (fun k : Nat => ⟨[(0, .own 1000000), (1, .v (.int .i64 (k0 + 2 * (k : Int)))), (5, .v (.int .i64 k))], [(1000000, .sl ee 2 ((halfFrame L k0 k).map encFrame))]⟩) (fun k => k ≤ L.length) (fun k => L.length - k) 0 (by omega) ?_ ?_
  · have e : halfFrame L k0 0 = L := by simp [halfFrame, marksFrame]
    rw [e]; (simp only [go_sem, tyAll, Nat.reduceAdd, Nat.reduceLT, Nat.reduceLeDiff, Nat.reduceEqDiff, Nat.reduceMul, Nat.reduceSub, Nat.reduceGT, reduceIte, Int.reduceNeg, Int.reduceToNat] <;> (first | rfl | exact ⟨rfl, rfl⟩ | exact ⟨rfl, rfl, rfl⟩ | exact ⟨rfl, rfl, rfl, rfl⟩ | exact ⟨rfl, rfl, rfl, rfl, rfl⟩ | exact ⟨⟨rfl, rfl⟩, rfl⟩ | simp))
  intro k hk
  have h2 := halfFrame_len L k0 k hk
  by_cases hlt : k < L.length
  · have h3 := halfFrame_set L k0 k hlt
    rw [encFrame, mrkFrame] at h3
    simp only at h3
    have h4 := rowAt_map encFrame (halfFrame L k0 k) k (by omega)
    have h5 : ∀ r : List SV, Go.Vc.rowAt (((halfFrame L k0 k).map encFrame).set k r) k = r := fun r => rowAt_set _ _ _ (by rw [List.length_map]; omega)
    (repeat' (first | refine WP.seq ?_ | refine WP.block ?_ | ((first | refine WP.region ?_ | refine WP.condW ?_ | refine WP.ret ?_ | refine WP.exit ?_ | refine WP.skip ?_); simp only [go_sem, h2, h3, h4, h5, encFrame, List.set_set, List.length_set, tyAll, Nat.reduceAdd, Nat.reduceLT, Nat.reduceLeDiff, Nat.reduceEqDiff, Nat.reduceMul, Nat.reduceSub, Nat.reduceGT, reduceIte, Int.reduceNeg, Int.reduceToNat]) |  refine And.intro ?_ ?_ | intro _))
    all_goals first | omega | skip
    refine ⟨k + 1, by omega, by omega, ⟨?_, rfl⟩, rfl⟩
    rw [show k0 + 2 * (k : Int) + 1 + 1 = k0 + 2 * ((k + 1 : Nat) : Int) by omega]
  · have h5 : halfFrame L k0 k = marksFrame k0 L.length := by rw [show k = L.length by omega]; simp [halfFrame]
    have h6 := marksFrame_len k0 L.length
    (repeat' (first | refine WP.seq ?_ | refine WP.block ?_ | ((first | refine WP.region ?_ | refine WP.condW ?_ | refine WP.ret ?_ | refine WP.exit ?_ | refine WP.skip ?_); simp only [go_sem, h2, h5, h6, tyAll, Nat.reduceAdd, Nat.reduceLT, Nat.reduceLeDiff, Nat.reduceEqDiff, Nat.reduceMul, Nat.reduceSub, Nat.reduceGT, reduceIte, Int.reduceNeg, Int.reduceToNat]) |  refine And.intro ?_ ?_ | intro _))
    all_goals first | omega | skip
    all_goals rw [show k = L.length by omega]

def kheldFrameS : Ctr := pur (fun args => (decFrame (aR args 0), aI args 1)) (fun x => [.sl 2 (x.1.map encFrame), .v (.int .i64 x.2)]) (fun x => x.1.length ≤ 4398046511104 ∧ 0 ≤ x.2 ∧ x.2 ≤ 500000000000000)
  (fun _ x => .v (.int .i64 (if x.1 = marksFrame x.2 x.1.length then x.2 + 2 * x.1.length else -1))) (fun _ _ => [])
theorem cheldFrameS : Cn Try.prog 18 kheldFrameS := by
  refine Cn.pur Try.func18 (by kernel_rfl) rfl fun d x hx => ?_
  obtain ⟨L, k0⟩ := x
  obtain ⟨hL, h0, h1⟩ := hx
  simp only at hL h0 h1 ⊢
  refine Holds.go (c := cxMkFrame) Try.func18 rfl Try.results18 Try.ntmps18 (by omega) (by simp) rfl ?_
  intro X0 w0
  (repeat' (first | refine WP.seq ?_ | refine WP.block ?_ | ((first | refine WP.region ?_ | refine WP.condW ?_ | refine WP.ret ?_ | refine WP.exit ?_ | refine WP.skip ?_); simp only [go_sem, tyAll, Nat.reduceAdd, Nat.reduceLT, Nat.reduceLeDiff, Nat.reduceEqDiff, Nat.reduceMul, Nat.reduceSub, Nat.reduceGT, reduceIte, Int.reduceNeg, Int.reduceToNat]) | ((first | refine WP.drawW 8 (by decide +kernel) (by kernel_rfl) ?_); simp only [go_sem, tyAll, Nat.reduceAdd, Nat.reduceLT, Nat.reduceLeDiff, Nat.reduceEqDiff, Nat.reduceMul, Nat.reduceSub, Nat.reduceGT, reduceIte, Int.reduceNeg, Int.reduceToNat]) |  refine And.intro ?_ ?_ | intro _))
  refine WP.loop (fun k : Nat => ⟨[(0, .sl 2 (L.map encFrame)), (1, .v (.int .i64 (k0 + 2 * (k : Int)))), (5, .v (.int .i64 k))], []⟩) (fun k => k ≤ L.length ∧ L.take k = marksFrame k0 k) (fun k => L.length - k) 0 (by simp [marksFrame]) ?_ ?_
  · (simp only [go_sem, tyAll, Nat.reduceAdd, Nat.reduceLT, Nat.reduceLeDiff, Nat.reduceEqDiff, Nat.reduceMul, Nat.reduceSub, Nat.reduceGT, reduceIte, Int.reduceNeg, Int.reduceToNat] <;> (first | rfl | exact ⟨rfl, rfl⟩ | exact ⟨rfl, rfl, rfl⟩ | exact ⟨rfl, rfl, rfl, rfl⟩ | exact ⟨rfl, rfl, rfl, rfl, rfl⟩ | exact ⟨⟨rfl, rfl⟩, rfl⟩ | simp))
  intro k ⟨hk, ht⟩
  by_cases hlt : k < L.length
  · have h3 := rowAt_map encFrame L k hlt
    (repeat' (first | refine WP.seq ?_ | refine WP.block ?_ | ((first | refine WP.region ?_ | refine WP.condW ?_ | refine WP.ret ?_ | refine WP.exit ?_ | refine WP.skip ?_); simp only [go_sem, h3, encFrame, tyAll, Nat.reduceAdd, Nat.reduceLT, Nat.reduceLeDiff, Nat.reduceEqDiff, Nat.reduceMul, Nat.reduceSub, Nat.reduceGT, reduceIte, Int.reduceNeg, Int.reduceToNat]) | ((first | refine WP.drawW 8 (by decide +kernel) (by kernel_rfl) ?_); simp only [go_sem, h3, encFrame, tyAll, Nat.reduceAdd, Nat.reduceLT, Nat.reduceLeDiff, Nat.reduceEqDiff, Nat.reduceMul, Nat.reduceSub, Nat.reduceGT, reduceIte, Int.reduceNeg, Int.reduceToNat]) |  refine And.intro ?_ ?_ | intro _))
    all_goals first | omega | skip
    · rename_i hne
      rw [if_neg]
      intro e
      have e2 : L[k] = (marksFrame k0 L.length)[k]'(by rw [marksFrame_len]; exact hlt) := by congr 1
      exact hne (by rw [e2]; simp [marksFrame, mrkFrame])
    · rename_i hne
      rw [if_neg]
      intro e
      have e2 : L[k] = (marksFrame k0 L.length)[k]'(by rw [marksFrame_len]; exact hlt) := by congr 1
      exact hne (by rw [e2]; simp [marksFrame, mrkFrame])
    · rename_i g0 g1
      refine ⟨k + 1, ⟨by omega, ?_⟩, by omega, ?_, rfl⟩
      · have he : L[k] = mrkFrame (k0 + 2 * (k : Int)) := extFrame g0 g1
        rw [List.take_succ_eq_append_getElem hlt, ht, he]; simp [marksFrame, List.range_succ]
      · rw [show k0 + 2 * (k : Int) + 1 + 1 = k0 + 2 * ((k + 1 : Nat) : Int) by omega]
  · (repeat' (first | refine WP.seq ?_ | refine WP.block ?_ | ((first | refine WP.region ?_ | refine WP.condW ?_ | refine WP.ret ?_ | refine WP.exit ?_ | refine WP.skip ?_); simp only [go_sem, tyAll, Nat.reduceAdd, Nat.reduceLT, Nat.reduceLeDiff, Nat.reduceEqDiff, Nat.reduceMul, Nat.reduceSub, Nat.reduceGT, reduceIte, Int.reduceNeg, Int.reduceToNat]) | ((first | refine WP.drawW 8 (by decide +kernel) (by kernel_rfl) ?_); simp only [go_sem, tyAll, Nat.reduceAdd, Nat.reduceLT, Nat.reduceLeDiff, Nat.reduceEqDiff, Nat.reduceMul, Nat.reduceSub, Nat.reduceGT, reduceIte, Int.reduceNeg, Int.reduceToNat]) |  refine And.intro ?_ ?_ | intro _))
    all_goals first | omega | skip
    rw [show k = L.length by omega, List.take_length] at ht
    rw [if_pos ht, show k = L.length by omega]
end
section
open Go.Vc
set_option linter.unusedSimpArgs false
set_option linter.unusedVariables false
set_option maxHeartbeats 1000000
set_option maxRecDepth 10000
attribute [local irreducible] Go.Vc.WP
attribute [local go_sem] cx0_t cx0_c
def fl30778c42e5 : List Go.Vc.Fp := [⟨[6], [], [], [8, 33, 1033], [], []⟩, ⟨[0], [], [], [8, 33, 1033], [], []⟩, ⟨[7], [], [], [8, 33, 1033], [], []⟩, ⟨[25, 26], [1, 2], [], [8, 33, 1033], [], []⟩, ⟨[27], [1, 2, 3], [], [8, 33, 1033], [], []⟩, ⟨[1], [], [], [8, 33, 1033], [], []⟩, ⟨[7], [], [], [8, 33, 1033], [], []⟩, ⟨[29, 30], [5, 6], [], [8, 33, 1033], [], []⟩, ⟨[31], [5, 6, 7], [], [8, 33, 1033], [], []⟩, ⟨[24, 28, 32], [0, 1, 2, 3, 4, 5, 6, 7, 8], [], [8], [], [33, 1033]⟩, ⟨[33], [0, 1, 2, 3, 4, 5, 6, 7, 8, 9], [], [8], [], []⟩, ⟨[23], [0, 1, 2, 3, 4, 5, 6, 7, 8, 9, 10], [], [8], [], []⟩, ⟨[23], [0, 1, 2, 3, 4, 5, 6, 7, 8, 9, 10], [], [8], [], []⟩, ⟨[], [], [], [33, 1033], [], [8]⟩, ⟨[], [0, 1, 2, 3, 4, 5, 6, 7, 8, 9, 10, 11, 12, 13], [], [], [], []⟩, ⟨[], [0, 1, 2, 3, 4, 5, 6, 7, 8, 9, 10, 11, 12, 13, 14], [], [], [], []⟩]
attribute [local go_sem] fl30778c42e5
attribute [local go_sem] isV_Node isV_It decNode_enc decFrame_enc oneFrame_enc stkA oneFrame_ab oneNode_abc decI_enc aU prA St.ado St.adoptB St.adoptS rp isNil St.fzS addL behind decFS_enc ghoK St.gho St.gh SV.flat
section
noncomputable def cxWgS : Cx := { P := Try.prog, tys := tys, C := [(59, kAddStack)], hty := tysOk, hC := COk.cons cAddStackS (COk.nil _) }
theorem cxWgS_t : cxWgS.tys = tys := rfl
theorem cxWgS_c : cxWgS.C = [(59, kAddStack)] := rfl
attribute [local go_sem] cxWgS_t cxWgS_c kAddStack
theorem cWgS : Cn Try.prog 27 kWg := by
  refine Cn.pur Try.func27 (by kernel_rfl) rfl fun d x hx => ?_
  obtain ⟨S, W⟩ := x
  have hS := hx.1
  simp only at hS ⊢
  refine Holds.go (c := cxWgS) Try.func27 rfl Try.results27 Try.ntmps27 (by omega) (by simp) rfl ?_
  intro X0 w0
  by_cases hlen : S.length = W.length
  rotate_left
  · have hle : ¬ (S.length : Int) = W.length := by omega
    have hno : weigh S W = none := if_neg hlen
    (repeat' (first | refine WP.seq ?_ | refine WP.block ?_ | ((first | refine WP.region ?_ | refine WP.condW ?_ | refine WP.ret ?_ | refine WP.exit ?_ | refine WP.skip ?_); simp only [go_sem, hle, tyAll, Nat.reduceAdd, Nat.reduceLT, Nat.reduceLeDiff, Nat.reduceEqDiff, Nat.reduceMul, Nat.reduceSub, Nat.reduceGT, reduceIte, Int.reduceNeg, Int.reduceToNat]) | ((first | refine WP.flowE 14 12 [] 14 fl30778c42e5 [8, 23, 24, 25, 26, 27, 28, 29, 30, 31, 32, 33, 34, 35] [8, 33, 1033] [] (by decide +kernel) (by decide +kernel) (by kernel_rfl) (by kernel_rfl) (by kernel_rfl) ?_); simp only [go_sem, hle, tyAll, Nat.reduceAdd, Nat.reduceLT, Nat.reduceLeDiff, Nat.reduceEqDiff, Nat.reduceMul, Nat.reduceSub, Nat.reduceGT, reduceIte, Int.reduceNeg, Int.reduceToNat]) |  refine And.intro ?_ ?_ | intro _))
    all_goals first | omega | exact ⟨_, _, rfl, _, _, rfl, rfl⟩ | (rw [hno]; first | rfl | exact ⟨_, _, rfl⟩ | exact ⟨_, _, if_neg (by omega)⟩ | exact if_neg (by omega)) | skip
    all_goals trace_state
  have hle : (S.length : Int) = W.length := by omega
  (repeat' (first | refine WP.seq ?_ | refine WP.block ?_ | ((first | refine WP.region ?_ | refine WP.condW ?_ | refine WP.ret ?_ | refine WP.exit ?_ | refine WP.skip ?_); simp only [go_sem, hle, tyAll, Nat.reduceAdd, Nat.reduceLT, Nat.reduceLeDiff, Nat.reduceEqDiff, Nat.reduceMul, Nat.reduceSub, Nat.reduceGT, reduceIte, Int.reduceNeg, Int.reduceToNat]) | ((first | refine WP.flowE 14 12 [] 14 fl30778c42e5 [8, 23, 24, 25, 26, 27, 28, 29, 30, 31, 32, 33, 34, 35] [8, 33, 1033] [] (by decide +kernel) (by decide +kernel) (by kernel_rfl) (by kernel_rfl) (by kernel_rfl) ?_); simp only [go_sem, hle, tyAll, Nat.reduceAdd, Nat.reduceLT, Nat.reduceLeDiff, Nat.reduceEqDiff, Nat.reduceMul, Nat.reduceSub, Nat.reduceGT, reduceIte, Int.reduceNeg, Int.reduceToNat]) |  refine And.intro ?_ ?_ | intro _))
  all_goals first | omega | skip
  refine WP.ado [.b 6 0 33 187 3, .b 6 1 1033 3 1] ?_
  refine WP.loop (fun q : Nat × Pr => ⟨[(0, .sl 1 (S.map encFS)), (1, .sl 1 (W.map encI)), (4, .ptr 4 0 0 0), (6, .ptr 6 0 0 0), (7, .v (.int .i64 q.1))],
    [(4, .box 43 [.v (.slice none 0 0), .v (.slice none 0 0)]), (6, .box 43 [.own 33, .own 1033]), (33, .sl 187 3 (q.2.1.map encNode)), (1033, .sl 3 1 (q.2.2.map encI))]⟩)
    (fun q => q.1 ≤ S.length ∧ wInv S W q.1 q.2) (fun q => S.length - q.1) (0, [], []) ⟨by simp, wInv_zero hlen⟩ ?_ ?_
  · (simp only [go_sem, hle, tyAll, Nat.reduceAdd, Nat.reduceLT, Nat.reduceLeDiff, Nat.reduceEqDiff, Nat.reduceMul, Nat.reduceSub, Nat.reduceGT, reduceIte, Int.reduceNeg, Int.reduceToNat] <;> (first | rfl | exact ⟨rfl, rfl⟩ | exact ⟨rfl, rfl, rfl⟩ | exact ⟨rfl, rfl, rfl, rfl⟩ | exact ⟨rfl, rfl, rfl, rfl, rfl⟩ | exact ⟨⟨rfl, rfl⟩, rfl⟩ | simp))
  rintro ⟨k, N, C⟩ ⟨hk, hI⟩
  refine WP.prep [] [(33, 50), (1033, 1050)] rfl ?_
  simp only at hk hI ⊢
  have h2 := hI.2.1
  have h3 := hI.2.2.1
  have h4 := hI.2.2.2
  simp only at h2 h3 h4
  have hkb : 1048576 * k ≤ 1048576 * 1048576 := Nat.mul_le_mul_left _ (by omega)
  have hnb : ∀ x ∈ N, x.name.size ≤ 1099511627776 := fun x hx => by have := h4 x hx; omega
  by_cases hlt : k < S.length
  · have hli : (k : Int) < S.length := by omega
    have hlw : (k : Int) < W.length := by omega
    have hlt2 : k < W.length := by omega
    have h1 := rowAt_map encFS S k hlt
    have h1b := rowAt_map encI W k hlt2
    obtain ⟨h5, h6⟩ := hx.2 _ (List.getElem_mem hlt)
    have hfb : ∀ g ∈ S[k], g.name.size ≤ 1099511627776 := fun g hg => by have := h6 g hg; omega
    cases hb : (addStack N C S[k] W[k]).2 with
    | false =>
      have hno := wInv_bad hI hlt hlt2 hb
      (repeat' (first | refine WP.seq ?_ | refine WP.block ?_ | ((first | refine WP.region ?_ | refine WP.condW ?_ | refine WP.ret ?_ | refine WP.exit ?_ | refine WP.skip ?_); simp only [go_sem, hli, hlw, h1, encFS, h1b, encI, hb, tyAll, Nat.reduceAdd, Nat.reduceLT, Nat.reduceLeDiff, Nat.reduceEqDiff, Nat.reduceMul, Nat.reduceSub, Nat.reduceGT, reduceIte, Int.reduceNeg, Int.reduceToNat]) | ((first | refine WP.flowE 14 12 [] 14 fl30778c42e5 [8, 23, 24, 25, 26, 27, 28, 29, 30, 31, 32, 33, 34, 35] [8, 33, 1033] [] (by decide +kernel) (by decide +kernel) (by kernel_rfl) (by kernel_rfl) (by kernel_rfl) ?_); simp only [go_sem, hli, hlw, h1, encFS, h1b, encI, hb, tyAll, Nat.reduceAdd, Nat.reduceLT, Nat.reduceLeDiff, Nat.reduceEqDiff, Nat.reduceMul, Nat.reduceSub, Nat.reduceGT, reduceIte, Int.reduceNeg, Int.reduceToNat]) |  refine And.intro ?_ ?_ | intro _))
      all_goals first | omega | (simp only; omega) | exact hnb _ ‹_› | exact hfb _ ‹_› | exact ⟨_, _, _, rfl⟩ | exact ⟨_, _, rfl, _, _, rfl, rfl⟩ | (rw [hno]; first | rfl | exact ⟨_, _, rfl⟩ | exact ⟨_, _, if_neg (by omega)⟩ | exact if_neg (by omega)) | skip
      all_goals trace_state
    | true =>
      have hyes := wInv_ok hx hI hlt hlt2 hb
      (repeat' (first | refine WP.seq ?_ | refine WP.block ?_ | ((first | refine WP.region ?_ | refine WP.condW ?_ | refine WP.ret ?_ | refine WP.exit ?_ | refine WP.skip ?_); simp only [go_sem, hli, hlw, h1, encFS, h1b, encI, hb, tyAll, Nat.reduceAdd, Nat.reduceLT, Nat.reduceLeDiff, Nat.reduceEqDiff, Nat.reduceMul, Nat.reduceSub, Nat.reduceGT, reduceIte, Int.reduceNeg, Int.reduceToNat]) | ((first | refine WP.flowE 14 12 [] 14 fl30778c42e5 [8, 23, 24, 25, 26, 27, 28, 29, 30, 31, 32, 33, 34, 35] [8, 33, 1033] [] (by decide +kernel) (by decide +kernel) (by kernel_rfl) (by kernel_rfl) (by kernel_rfl) ?_); simp only [go_sem, hli, hlw, h1, encFS, h1b, encI, hb, tyAll, Nat.reduceAdd, Nat.reduceLT, Nat.reduceLeDiff, Nat.reduceEqDiff, Nat.reduceMul, Nat.reduceSub, Nat.reduceGT, reduceIte, Int.reduceNeg, Int.reduceToNat]) |  refine And.intro ?_ ?_ | intro _))
      all_goals first | omega | (simp only; omega) | exact hnb _ ‹_› | exact hfb _ ‹_› | exact ⟨_, _, _, rfl⟩ | exact ⟨_, _, rfl, _, _, rfl, rfl⟩ | skip
      all_goals first | exact ⟨(k + 1, (addStack N C S[k] W[k]).1), ⟨by simp only; omega, hyes⟩, by simp only; omega, rfl, rfl, rfl⟩ | trace_state
  · have hge : ¬ (k : Int) < S.length := by omega
    have he := wInv_end hI (by omega)
    (repeat' (first | refine WP.seq ?_ | refine WP.block ?_ | ((first | refine WP.region ?_ | refine WP.condW ?_ | refine WP.ret ?_ | refine WP.exit ?_ | refine WP.skip ?_); simp only [go_sem, hge, tyAll, Nat.reduceAdd, Nat.reduceLT, Nat.reduceLeDiff, Nat.reduceEqDiff, Nat.reduceMul, Nat.reduceSub, Nat.reduceGT, reduceIte, Int.reduceNeg, Int.reduceToNat]) | ((first | refine WP.flowE 14 12 [] 14 fl30778c42e5 [8, 23, 24, 25, 26, 27, 28, 29, 30, 31, 32, 33, 34, 35] [8, 33, 1033] [] (by decide +kernel) (by decide +kernel) (by kernel_rfl) (by kernel_rfl) (by kernel_rfl) ?_); simp only [go_sem, hge, tyAll, Nat.reduceAdd, Nat.reduceLT, Nat.reduceLeDiff, Nat.reduceEqDiff, Nat.reduceMul, Nat.reduceSub, Nat.reduceGT, reduceIte, Int.reduceNeg, Int.reduceToNat]) |  refine And.intro ?_ ?_ | intro _))
    all_goals first | omega | exact ⟨_, _, rfl, _, _, rfl, rfl⟩ | (rw [he]; first | rfl | exact if_neg (by omega)) | skip
    all_goals trace_state
end
/-! ## lists of lists of frames -/
theorem allVs_Frame (L : List Frame) : allVs (L.map encFrame) ↔ True := allVs_map (fun x c hc => by simp only [encFrame, List.mem_cons, List.not_mem_nil, or_false] at hc; rcases hc with rfl | rfl <;> exact ⟨_, rfl⟩) L
attribute [local go_sem] allVs_Frame
theorem szvFrame_f (Y : List Frame) : Szf (szvFrame Y) := fun l h => by
  unfold szvFrame
  split
  · omega
  · have := szGo_f (sizesFrame Y) (l - Y.length) (by omega); omega
theorem szvFrame_ok' {L : List Frame} {l : Int} (h : 0 ≤ szvFrame L l) : L.length ≤ l ∧ ∀ x ∈ L, x.name.size ≤ l := by
  unfold szvFrame at h
  split at h
  · omega
  · rename_i h2
    refine ⟨by omega, fun x hx => ?_⟩
    have := szGo_ok (sizesFrame L) _ (by omega) h x.name.size (List.mem_map.2 ⟨x, hx, rfl⟩)
    omega
def bigFS (F : List Frame) : Prop := F.length ≤ maxLen ∧ ∀ x ∈ F, x.name.size ≤ maxLen
def szvFSS (L : List (List Frame)) : Int → Int := szList (L.map szvFrame)
def kszFSS : Ctr := pur (fun args => (decFS (aR args 0), aI args 1)) (fun x => [.sl 1 (x.1.map encFS), .v (.int .i64 x.2)]) (fun x => x.1.length ≤ maxLen ∧ (∀ s ∈ x.1, bigFS s) ∧ 0 ≤ x.2 ∧ x.2 ≤ 1048576)
  (fun _ x => .v (.int .i64 (szvFSS x.1 x.2))) (fun _ _ => [])
section
noncomputable def cxZfs : Cx := { P := Try.prog, tys := tys, C := [(58, kszFrameS)], hty := tysOk, hC := COk.cons cszFrameS (COk.nil _) }
theorem cxZfs_t : cxZfs.tys = tys := rfl
theorem cxZfs_c : cxZfs.C = [(58, kszFrameS)] := rfl
attribute [local go_sem] cxZfs_t cxZfs_c kszFrameS
theorem cszFSS : Cn Try.prog 26 kszFSS := by
  refine Cn.pur Try.func26 (by kernel_rfl) rfl fun d x hx => ?_
  obtain ⟨L, left⟩ := x
  obtain ⟨hL, hs, h0, h1⟩ := hx
  simp only at hL hs h0 h1 ⊢
  have hm : maxLen = 9223372036854775807 := rfl
  generalize hF : L.map szvFrame = F
  have hlen : F.length = L.length := by rw [← hF, List.length_map]
  have hsz : szvFSS L left = szList F left := by rw [← hF]; rfl
  rw [hsz]
  refine Holds.go (c := cxZfs) Try.func26 rfl Try.results26 Try.ntmps26 (by omega) (by simp) rfl ?_
  intro X0 w0
  (repeat' (first | refine WP.seq ?_ | refine WP.block ?_ | ((first | refine WP.region ?_ | refine WP.condW ?_ | refine WP.ret ?_ | refine WP.exit ?_ | refine WP.skip ?_); simp only [go_sem, tyAll, Nat.reduceAdd, Nat.reduceLT, Nat.reduceLeDiff, Nat.reduceEqDiff, Nat.reduceMul, Nat.reduceSub, Nat.reduceGT, reduceIte, Int.reduceNeg, Int.reduceToNat]) |  refine And.intro ?_ ?_ | intro _))
  all_goals first | omega | skip
  · rename_i h; rw [szList, hlen, if_pos h]
  rename_i hge
  refine WP.loop (fun s : Nat × Int => ⟨[(0, .sl 1 (L.map encFS)), (1, .v (.int .i64 s.2)), (5, .v (.int .i64 s.1))], []⟩)
    (fun s => s.1 ≤ L.length ∧ 0 ≤ s.2 ∧ s.2 ≤ 1048576 ∧ szList F left = szL (F.drop s.1) s.2) (fun s => L.length - s.1) (0, left - L.length)
    ⟨by simp, by simpa using hge, by simp only; omega, by rw [szList, hlen, if_neg (by omega)]; rfl⟩ ?_ ?_
  · simp only [go_sem, tyAll, Nat.reduceAdd, Nat.reduceLT, Nat.reduceLeDiff, Nat.reduceEqDiff, Nat.reduceMul, Nat.reduceSub, Nat.reduceGT, reduceIte, Int.reduceNeg, Int.reduceToNat]; first | exact ⟨rfl, rfl⟩ | rfl
  rintro ⟨k, r⟩ ⟨hk, hr0, hr1, he⟩
  simp only at hk hr0 hr1 he ⊢
  by_cases hlt : k < L.length
  · have h2 := rowAt_map encFS L k hlt
    have h3 := hs _ (List.getElem_mem hlt)
    have hFk : F[k]'(by omega) = szvFrame L[k] := by subst hF; simp
    have h4 := szL_drop F k r (by omega)
    rw [hFk] at h4
    have hb := szvFrame_f L[k] r hr0
    generalize hz : szvFrame L[k] r = z at h4 hb
    obtain ⟨h3a, h3b⟩ := h3
    by_cases h5 : z < 0
    · rw [he, h4, if_pos h5]
      (repeat' (first | refine WP.seq ?_ | refine WP.block ?_ | ((first | refine WP.region ?_ | refine WP.condW ?_ | refine WP.ret ?_ | refine WP.exit ?_ | refine WP.skip ?_); simp only [go_sem, h2, encFS, hz, h5, tyAll, Nat.reduceAdd, Nat.reduceLT, Nat.reduceLeDiff, Nat.reduceEqDiff, Nat.reduceMul, Nat.reduceSub, Nat.reduceGT, reduceIte, Int.reduceNeg, Int.reduceToNat]) |  refine And.intro ?_ ?_ | intro _))
      all_goals first | omega | exact h3b _ ‹_› | skip
      all_goals trace_state
    · rw [if_neg h5] at h4
      (repeat' (first | refine WP.seq ?_ | refine WP.block ?_ | ((first | refine WP.region ?_ | refine WP.condW ?_ | refine WP.ret ?_ | refine WP.exit ?_ | refine WP.skip ?_); simp only [go_sem, h2, encFS, hz, h5, tyAll, Nat.reduceAdd, Nat.reduceLT, Nat.reduceLeDiff, Nat.reduceEqDiff, Nat.reduceMul, Nat.reduceSub, Nat.reduceGT, reduceIte, Int.reduceNeg, Int.reduceToNat]) |  refine And.intro ?_ ?_ | intro _))
      all_goals first | omega | exact h3b _ ‹_› | exact ⟨(k + 1, z), ⟨by simp only; omega, by simp only; omega, by simp only; omega, by rw [he, h4]⟩, by simp only; omega, rfl, rfl⟩ | skip
      all_goals trace_state
  · (repeat' (first | refine WP.seq ?_ | refine WP.block ?_ | ((first | refine WP.region ?_ | refine WP.condW ?_ | refine WP.ret ?_ | refine WP.exit ?_ | refine WP.skip ?_); simp only [go_sem, tyAll, Nat.reduceAdd, Nat.reduceLT, Nat.reduceLeDiff, Nat.reduceEqDiff, Nat.reduceMul, Nat.reduceSub, Nat.reduceGT, reduceIte, Int.reduceNeg, Int.reduceToNat]) |  refine And.intro ?_ ?_ | intro _))
    all_goals first | omega | skip
    rw [he, List.drop_of_length_le (by omega)]
    rfl
end
def zerFS : List SV := [.v (.slice none 0 0)]
def ktoFSS : Ctr := pur (fun args => decFS (aR args 0)) (fun L => [.sl 1 (L.map encFS)]) (fun L => L.length ≤ 1048576 ∧ ∀ x ∈ L, x.length ≤ 1048576) (fun d _ => .own d) (fun d L => [(d, .dp 25 1 (L.map encFS))])
section
noncomputable def cxTfs : Cx := { P := Try.prog, tys := tys, C := [(60, ktoFrameS)], hty := tysOk, hC := COk.cons ctoFrameS (COk.nil _) }
theorem cxTfs_t : cxTfs.tys = tys := rfl
theorem cxTfs_c : cxTfs.C = [(60, ktoFrameS)] := rfl
attribute [local go_sem] cxTfs_t cxTfs_c ktoFrameS
theorem ctoFSS : Cn Try.prog 28 ktoFSS := by
  refine Cn.pur Try.func28 (by kernel_rfl) rfl fun d x hx => ?_
  rename List (List Frame) => L
  obtain ⟨hL, hY⟩ := hx
  refine Holds.go (c := cxTfs) Try.func28 rfl Try.results28 Try.ntmps28 (by omega) (by simp) rfl ?_
  intro X0 w0
  (repeat' (first | refine WP.seq ?_ | refine WP.block ?_ | ((first | refine WP.region ?_ | refine WP.condW ?_ | refine WP.ret ?_ | refine WP.exit ?_ | refine WP.skip ?_); simp only [go_sem, tyAll, Nat.reduceAdd, Nat.reduceLT, Nat.reduceLeDiff, Nat.reduceEqDiff, Nat.reduceMul, Nat.reduceSub, Nat.reduceGT, reduceIte, Int.reduceNeg, Int.reduceToNat]) |  refine And.intro ?_ ?_ | intro _))
  all_goals first | omega | skip
  refine WP.gho [.dp 7] ?_
  simp only [go_sem, tyAll, Nat.reduceAdd, Nat.reduceLT, Nat.reduceLeDiff, Nat.reduceEqDiff, Nat.reduceMul, Nat.reduceSub, Nat.reduceGT, reduceIte, Int.reduceNeg, Int.reduceToNat]
  refine ⟨allVs_rep (by simp), ?_⟩
  refine WP.loop (fun k : Nat => ⟨[(0, .sl 1 (L.map encFS)), (3, .own 7), (4, .v (.int .i64 k))], [(7, .dp 25 1 (filled encFS zerFS L k))]⟩) (fun k => k ≤ L.length) (fun k => L.length - k) 0 (by omega) ?_ ?_
  · rw [filled_zero]; simp only [go_sem, tyAll, Nat.reduceAdd, Nat.reduceLT, Nat.reduceLeDiff, Nat.reduceEqDiff, Nat.reduceMul, Nat.reduceSub, Nat.reduceGT, reduceIte, Int.reduceNeg, Int.reduceToNat]; first | exact ⟨rfl, rfl⟩ | rfl
  intro k hk
  by_cases hlt : k < L.length
  · have h0 := hY _ (List.getElem_mem hlt)
    have h1 := rowAt_map encFS L k hlt
    have h2 := filled_len encFS zerFS L k hk
    have h3 : Go.Vc.rowAt (filled encFS zerFS L k) k = [.v (.slice none 0 0)] := filled_row encFS zerFS L k hlt
    have h4 := filled_set encFS zerFS L k hlt
    rw [encFS] at h4
    refine WP.post [.abs 7 0, .fld 7] ?_
    refine WP.gho [.opn 7 k] ?_
    simp only [go_sem, h2, h3, tyAll, Nat.reduceAdd, Nat.reduceLT, Nat.reduceLeDiff, Nat.reduceEqDiff, Nat.reduceMul, Nat.reduceSub, Nat.reduceGT, reduceIte, Int.reduceNeg, Int.reduceToNat]
    refine ⟨hlt, ?_⟩
    (repeat' (first | refine WP.seq ?_ | refine WP.block ?_ | ((first | refine WP.region ?_ | refine WP.condW ?_ | refine WP.ret ?_ | refine WP.exit ?_ | refine WP.skip ?_); simp only [go_sem, h1, h2, h3, h4, encFS, tyAll, Nat.reduceAdd, Nat.reduceLT, Nat.reduceLeDiff, Nat.reduceEqDiff, Nat.reduceMul, Nat.reduceSub, Nat.reduceGT, reduceIte, Int.reduceNeg, Int.reduceToNat]) |  refine And.intro ?_ ?_ | intro _))
    all_goals first | omega | exact h0 | exact ⟨k + 1, by omega, by omega, rfl, rfl⟩ | skip
    all_goals trace_state
  · have h2 := filled_len encFS zerFS L k hk
    have h5 : filled encFS zerFS L k = L.map encFS := by rw [show k = L.length by omega]; exact filled_all _ _ _
    (repeat' (first | refine WP.seq ?_ | refine WP.block ?_ | ((first | refine WP.region ?_ | refine WP.condW ?_ | refine WP.ret ?_ | refine WP.exit ?_ | refine WP.skip ?_); simp only [go_sem, h2, h5, tyAll, Nat.reduceAdd, Nat.reduceLT, Nat.reduceLeDiff, Nat.reduceEqDiff, Nat.reduceMul, Nat.reduceSub, Nat.reduceGT, reduceIte, Int.reduceNeg, Int.reduceToNat]) |  refine And.intro ?_ ?_ | intro _))
    all_goals first | omega | skip
    all_goals trace_state
end
def kqFSS : Ctr := pur (fun args => decFS (aR args 0)) (fun L => [.sl 1 (L.map encFS), .sl 1 (L.map encFS)]) (fun L => L.length ≤ 1048576 ∧ ∀ x ∈ L, x.length ≤ 1048576) (fun _ _ => .v (.bool true)) (fun _ _ => [])
section
noncomputable def cxQfs : Cx := { P := Try.prog, tys := tys, C := [(12, keqFrameS)], hty := tysOk, hC := COk.cons ceqFrameS (COk.nil _) }
theorem cxQfs_t : cxQfs.tys = tys := rfl
theorem cxQfs_c : cxQfs.C = [(12, keqFrameS)] := rfl
attribute [local go_sem] cxQfs_t cxQfs_c keqFrameS
theorem cqFSS : Cn Try.prog 31 kqFSS := by
  refine Cn.pur Try.func31 (by kernel_rfl) rfl fun d x hx => ?_
  rename List (List Frame) => L
  obtain ⟨hL, hY⟩ := hx
  refine Holds.go (c := cxQfs) Try.func31 rfl Try.results31 Try.ntmps31 (by omega) (by simp) rfl ?_
  intro X0 w0
  (repeat' (first | refine WP.seq ?_ | refine WP.block ?_ | ((first | refine WP.region ?_ | refine WP.condW ?_ | refine WP.ret ?_ | refine WP.exit ?_ | refine WP.skip ?_); simp only [go_sem, tyAll, Nat.reduceAdd, Nat.reduceLT, Nat.reduceLeDiff, Nat.reduceEqDiff, Nat.reduceMul, Nat.reduceSub, Nat.reduceGT, reduceIte, Int.reduceNeg, Int.reduceToNat]) | ((first | refine WP.drawW 10 (by decide +kernel) (by kernel_rfl) ?_); simp only [go_sem, tyAll, Nat.reduceAdd, Nat.reduceLT, Nat.reduceLeDiff, Nat.reduceEqDiff, Nat.reduceMul, Nat.reduceSub, Nat.reduceGT, reduceIte, Int.reduceNeg, Int.reduceToNat]) |  refine And.intro ?_ ?_ | intro _))
  all_goals first | omega | skip
  refine WP.loop (fun k : Nat => ⟨[(0, .sl 1 (L.map encFS)), (1, .sl 1 (L.map encFS)), (5, .v (.int .i64 k))], []⟩) (fun k => k ≤ L.length) (fun k => L.length - k) 0 (by simp) ?_ ?_
  · simp only [go_sem, tyAll, Nat.reduceAdd, Nat.reduceLT, Nat.reduceLeDiff, Nat.reduceEqDiff, Nat.reduceMul, Nat.reduceSub, Nat.reduceGT, reduceIte, Int.reduceNeg, Int.reduceToNat]; first | exact ⟨rfl, rfl⟩ | rfl
  intro k hk
  by_cases hlt : k < L.length
  · have h1 := rowAt_map encFS L k hlt
    have h0 := hY _ (List.getElem_mem hlt)
    (repeat' (first | refine WP.seq ?_ | refine WP.block ?_ | ((first | refine WP.region ?_ | refine WP.condW ?_ | refine WP.ret ?_ | refine WP.exit ?_ | refine WP.skip ?_); simp only [go_sem, h1, encFS, tyAll, Nat.reduceAdd, Nat.reduceLT, Nat.reduceLeDiff, Nat.reduceEqDiff, Nat.reduceMul, Nat.reduceSub, Nat.reduceGT, reduceIte, Int.reduceNeg, Int.reduceToNat]) | ((first | refine WP.drawW 10 (by decide +kernel) (by kernel_rfl) ?_); simp only [go_sem, h1, encFS, tyAll, Nat.reduceAdd, Nat.reduceLT, Nat.reduceLeDiff, Nat.reduceEqDiff, Nat.reduceMul, Nat.reduceSub, Nat.reduceGT, reduceIte, Int.reduceNeg, Int.reduceToNat]) |  refine And.intro ?_ ?_ | intro _))
    all_goals first | omega | exact h0 | exact ⟨k + 1, by omega, by omega, rfl⟩ | exact ⟨k + 1, by omega, by omega, rfl, rfl⟩ | skip
    all_goals trace_state
  · (repeat' (first | refine WP.seq ?_ | refine WP.block ?_ | ((first | refine WP.region ?_ | refine WP.condW ?_ | refine WP.ret ?_ | refine WP.exit ?_ | refine WP.skip ?_); simp only [go_sem, tyAll, Nat.reduceAdd, Nat.reduceLT, Nat.reduceLeDiff, Nat.reduceEqDiff, Nat.reduceMul, Nat.reduceSub, Nat.reduceGT, reduceIte, Int.reduceNeg, Int.reduceToNat]) | ((first | refine WP.drawW 10 (by decide +kernel) (by kernel_rfl) ?_); simp only [go_sem, tyAll, Nat.reduceAdd, Nat.reduceLT, Nat.reduceLeDiff, Nat.reduceEqDiff, Nat.reduceMul, Nat.reduceSub, Nat.reduceGT, reduceIte, Int.reduceNeg, Int.reduceToNat]) |  refine And.intro ?_ ?_ | intro _))
    all_goals first | omega | skip
    all_goals trace_state
end
def cntFS (x : List Frame) : Nat := 2 * x.length
def mrkFS (k : Int) (x : List Frame) : List Frame := marksFrame k x.length
def kmarkFSS : Ctr := len [0] [] (fun args obs => (decFS (oD obs 1000000), aI args 1, oE obs 1000000)) (fun x => [.own 1000000, .v (.int .i64 x.2.1)]) (fun x => [(1000000, .dp x.2.2 1 (x.1.map encFS))]) (fun x => x.1.length ≤ 1048576 ∧ (∀ y ∈ x.1, y.length ≤ 1048576) ∧ 0 ≤ x.2.1 ∧ x.2.1 ≤ 100000000000000)
  (fun _ x => .v (.int .i64 (x.2.1 + (cntA cntFS x.1 : Int)))) (fun _ _ => []) (fun x => [(1000000, .dp x.2.2 1 ((mkA cntFS mrkFS x.2.1 x.1).map encFS))])
theorem cntFS_le {S : List (List Frame)} (hL : S.length ≤ 1048576) (hY : ∀ y ∈ S, y.length ≤ 1048576) : cntA cntFS S ≤ 8796093022208 :=
  Nat.le_trans (cntA_le S 8388608 fun x hx => by have := hY x hx; unfold cntFS; omega) (Nat.le_trans (Nat.mul_le_mul_right _ hL) (by decide))
section
noncomputable def cxMfs : Cx := { P := Try.prog, tys := tys, C := [(17, kmarkFrameE)], hty := tysOk, hC := COk.cons cmarkFrameE (COk.nil _) }
theorem cxMfs_t : cxMfs.tys = tys := rfl
theorem cxMfs_c : cxMfs.C = [(17, kmarkFrameE)] := rfl
attribute [local go_sem] cxMfs_t cxMfs_c kmarkFrameE
theorem cmarkFSS : Cn Try.prog 32 kmarkFSS := by
  refine Cn.len Try.func32 (by kernel_rfl) rfl fun d x hd hx => ?_
  obtain ⟨L, k0, ee⟩ := x
  obtain ⟨hL, hY, h0, h1⟩ := hx
  simp only at hL hY h0 h1 ⊢
  have hcnt := cntFS_le hL hY
  refine HoldsL.go (c := cxMfs) Try.func32 rfl Try.results32 Try.ntmps32 (by omega) (by simp) rfl (by simp <;> omega) (by simp [SV.owns2, SV.owns, SV.owns1]) (by simp) rfl rfl (by simp) ?_
  intro X0 M w0
  (repeat' (first | refine WP.seq ?_ | refine WP.block ?_ | ((first | refine WP.region ?_ | refine WP.condW ?_ | refine WP.ret ?_ | refine WP.exit ?_ | refine WP.skip ?_); simp only [go_sem, tyAll, Nat.reduceAdd, Nat.reduceLT, Nat.reduceLeDiff, Nat.reduceEqDiff, Nat.reduceMul, Nat.reduceSub, Nat.reduceGT, reduceIte, Int.reduceNeg, Int.reduceToNat]) |  refine And.intro ?_ ?_ | intro _))
  refine WP.loop (fun k : Nat => ⟨[(0, .own 1000000), (1, .v (.int .i64 (k0 + (cntA cntFS (L.take k) : Int)))), (5, .v (.int .i64 k))], [(1000000, .dp ee 1 ((hfA cntFS mrkFS k0 L k).map encFS))]⟩) (fun k => k ≤ L.length) (fun k => L.length - k) 0 (by omega) ?_ ?_
  · have e2 : cntA cntFS (L.take 0) = 0 := rfl
    rw [hfA_zero, e2]; (simp only [go_sem, tyAll, Nat.reduceAdd, Nat.reduceLT, Nat.reduceLeDiff, Nat.reduceEqDiff, Nat.reduceMul, Nat.reduceSub, Nat.reduceGT, reduceIte, Int.reduceNeg, Int.reduceToNat] <;> (first | rfl | exact ⟨rfl, rfl⟩ | exact ⟨rfl, rfl, rfl⟩ | exact ⟨rfl, rfl, rfl, rfl⟩ | exact ⟨rfl, rfl, rfl, rfl, rfl⟩ | exact ⟨⟨rfl, rfl⟩, rfl⟩ | simp))
  intro k hk
  have h2 := hfA_len (cnt := cntFS) (mrk := mrkFS) L k0 k hk
  have hc2 := cntA_take_le (cnt := cntFS) L k
  by_cases hlt : k < L.length
  · have h3 := hfA_set (cnt := cntFS) (mrk := mrkFS) (en := encFS) L k0 k hlt
    have h4 := hfA_row (cnt := cntFS) (mrk := mrkFS) (en := encFS) L k0 k hlt
    have hsh := hY _ (List.getElem_mem hlt)
    have hc3 := cntA_take (cnt := cntFS) L k hlt
    have hc4 := cntA_take_le (cnt := cntFS) L (k + 1)
    generalize L[k] = y at h3 h4 hsh hc3
    generalize hkk : k0 + (cntA cntFS (L.take k) : Int) = kk at h3
    rw [encFS, mrkFS] at h3
    rw [encFS] at h4
    rw [show cntFS y = 2 * y.length from rfl] at hc3
    refine WP.post [.abs 1000000 0, .fld 1000000] ?_
    refine WP.gho [.opn 1000000 k, .borV 1000000 0 500] ?_
    simp only [go_sem, h2, h4, tyAll, Nat.reduceAdd, Nat.reduceLT, Nat.reduceLeDiff, Nat.reduceEqDiff, Nat.reduceMul, Nat.reduceSub, Nat.reduceGT, reduceIte, Int.reduceNeg, Int.reduceToNat]
    refine ⟨hlt, fun e1 => ?_⟩
    (repeat' (first | refine WP.seq ?_ | refine WP.block ?_ | ((first | refine WP.region ?_ | refine WP.condW ?_ | refine WP.ret ?_ | refine WP.exit ?_ | refine WP.skip ?_); simp only [go_sem, h2, h3, h4, tyAll, Nat.reduceAdd, Nat.reduceLT, Nat.reduceLeDiff, Nat.reduceEqDiff, Nat.reduceMul, Nat.reduceSub, Nat.reduceGT, reduceIte, Int.reduceNeg, Int.reduceToNat]) |  refine And.intro ?_ ?_ | intro _))
    all_goals first | omega | skip
    refine ⟨k + 1, by omega, by omega, ⟨?_, rfl⟩, rfl⟩
    rw [show kk + 2 * (y.length : Int) = k0 + (cntA cntFS (List.take (k + 1) L) : Int) by omega]
  · have h5 : hfA cntFS mrkFS k0 L k = mkA cntFS mrkFS k0 L := by rw [show k = L.length by omega]; exact hfA_all _ _
    have h6 := mkA_len (cnt := cntFS) (mrk := mrkFS) L k0
    (repeat' (first | refine WP.seq ?_ | refine WP.block ?_ | ((first | refine WP.region ?_ | refine WP.condW ?_ | refine WP.ret ?_ | refine WP.exit ?_ | refine WP.skip ?_); simp only [go_sem, h2, h5, h6, tyAll, Nat.reduceAdd, Nat.reduceLT, Nat.reduceLeDiff, Nat.reduceEqDiff, Nat.reduceMul, Nat.reduceSub, Nat.reduceGT, reduceIte, Int.reduceNeg, Int.reduceToNat]) |  refine And.intro ?_ ?_ | intro _))
    all_goals first | omega | skip
    all_goals rw [show k = L.length by omega, List.take_length]
end
end
section
open Go.Vc
set_option linter.unusedSimpArgs false
set_option linter.unusedVariables false
set_option maxHeartbeats 1000000
set_option maxRecDepth 10000
attribute [local irreducible] Go.Vc.WP
attribute [local go_sem] cx0_t cx0_c
attribute [local go_sem] decNode_enc decFrame_enc oneFrame_enc stkA oneFrame_ab oneNode_abc decI_enc prA
def kTotal : Ctr := pur (fun args => prA args 0) (fun x => [.agg [.sl 3 (x.1.map encNode), .sl 1 (x.2.map encI)]]) wfP (fun _ x => .v (.int .i64 (totalOf x.1 x.2))) (fun _ _ => [])
section
noncomputable def cxToI : Cx := { P := Try.prog, tys := tys, C := [(101, kPrOk)], hty := tysOk, hC := COk.cons cPrOkI (COk.nil _) }
theorem cxToI_t : cxToI.tys = tys := rfl
theorem cxToI_c : cxToI.C = [(101, kPrOk)] := rfl
attribute [local go_sem] cxToI_t cxToI_c kPrOk
end
section
noncomputable def cxToS : Cx := { P := Try.prog, tys := tys, C := [(91, kPrOk)], hty := tysOk, hC := COk.cons cPrOkS (COk.nil _) }
theorem cxToS_t : cxToS.tys = tys := rfl
theorem cxToS_c : cxToS.C = [(91, kPrOk)] := rfl
attribute [local go_sem] cxToS_t cxToS_c kPrOk
end
end
end Go.Proofs.Ytdbjioanlkilkaa
