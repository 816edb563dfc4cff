/-
  DERIVED. Lists that own the lists in their cells: a row opened and shut again, one of its lists taken out and put back.
-/
import Derived.Test.YtdbjioanlkilkaaVcM
namespace Go.Vc
set_option linter.unusedVariables false
set_option linter.unusedSimpArgs false
def allVs (rows : List (List SV)) : Prop := ∀ row ∈ rows, ∀ c ∈ row, ∃ x, c = .v x

/-- what is told anew of the objects, the world as it is -/
inductive Gh where
  /-- a list of cells that hold no memory owns what is in its cells -/
  | dp (id : Nat)
  /-- row i stands open -/
  | opn (id i : Nat)
  /-- cell k's list is an object of its own, j -/
  | bor (id k j : Nat)
  /-- .. whose cells hold no memory -/
  | borV (id k j : Nat)
  /-- cell k's object is a list of the row again -/
  | abs (id k : Nat)
  /-- the row is shut -/
  | fld (id : Nat)

def SV.flat (c : SV) : Bool := match c with
  | .v _ => true
  | .sl _ _ => true
  | _ => false
def St.gh (st : St) (K : St → Prop) : Gh → Prop
  | .dp id => match lk id st.hp with
    | some (.sl e s rows) => allVs rows ∧ K (st.wrt id (.dp e s rows))
    | some (.dp e s rows) => K st
    | _ => False
  | .opn id i => match lk id st.hp with
    | some (.dp e s rows) => i < rows.length ∧ K (st.wrt id (.dq e s rows i (rowAt rows i)))
    | _ => False
  | .bor id k j => match lk id st.hp with
    | some (.dq e s rows i row0) => match row0[k]? with
      | some (.sl s' rows') => j < 1000000 ∧ j ≠ id ∧ ∀ e', K { fr := (st.kill j).fr, hp := (j, .dp e' s' rows') :: (id, .dq e s rows i ((row0.map (SV.upq (SV.kill j))).set k (.own j))) :: er id (st.kill j).hp }
      | _ => False
    | _ => False
  | .borV id k j => match lk id st.hp with
    | some (.dq e s rows i row0) => match row0[k]? with
      | some (.sl s' rows') => j < 1000000 ∧ j ≠ id ∧ allVs rows' ∧ ∀ e', K { fr := (st.kill j).fr, hp := (j, .sl e' s' rows') :: (id, .dq e s rows i ((row0.map (SV.upq (SV.kill j))).set k (.own j))) :: er id (st.kill j).hp }
      | _ => False
    | _ => False
  | .abs id k => match lk id st.hp with
    | some (.dq e s rows i row0) => match row0[k]? with
      | some (.own j) => j ≠ id ∧ (match lk j st.hp with
        | some (.sl e' s' rows') => allVs rows' ∧ K { fr := (st.kill j).fr, hp := (id, .dq e s rows i ((row0.map (SV.upq (SV.kill j))).set k (.sl s' rows'))) :: er id (st.kill j).hp }
        | some (.dp e' s' rows') => K { fr := (st.kill j).fr, hp := (id, .dq e s rows i ((row0.map (SV.upq (SV.kill j))).set k (.sl s' rows'))) :: er id (st.kill j).hp }
        | _ => False)
      | _ => False
    | _ => False
  | .fld id => match lk id st.hp with
    | some (.dq e s rows i row0) => (row0.all SV.flat) = true ∧ K (st.wrt id (.dp e s (rows.set i row0)))
    | _ => False
def St.gho (st : St) (K : St → Prop) : List Gh → Prop
  | [] => K st
  | g :: l => st.gh (fun st' => st'.gho K l) g

section
variable {N : Nat} {X0 : Nat → Prop} {M : Nat → BV → Prop} {w0 : World} {st : St} {β : Nat → BV} {a : Act} {w : World}

theorem Sim.reob (h : Sim N X0 M w0 st β a w) {j : Nat} {ob ob' : Ob} (hj : lk j st.hp = some ob) (hob : ObR w (XX X0 β st.hp) β (β j) ob → ObR w (XX X0 β st.hp) β (β j) ob') : Sim N X0 M w0 (st.wrt j ob') β a w :=
  h.write hj rfl rfl rfl (Nat.le_refl _) (fun _ _ _ => rfl) (hob (h.objs j ob hj))

theorem XX_ghost {hp' : List (Nat × Ob)} {β' : Nat → BV} (hft : ∀ id ob b, lk id hp' = some ob → (β' id).ft b → ∃ i o, lk i st.hp = some o ∧ (β i).ft b) {b : Nat} (hb : XX X0 β' hp' b) : XX X0 β st.hp b := by
  rcases hb with hb | ⟨id, ob, hi, hb⟩
  · exact .inl hb
  · exact .inr (hft id ob b hi hb)
theorem Sim.ghost (h : Sim N X0 M w0 st β a w) {st' : St} {β' : Nat → BV} (hone : ∀ i, (β' i).val.oneCell' = true) (hpin : ∀ i, 1000000 ≤ i → (β' i).val = (β i).val)
    (hft : ∀ id ob b, lk id st'.hp = some ob → (β' id).ft b → ∃ i o, lk i st.hp = some o ∧ (β i).ft b)
    (hslots : ∀ t x', lk t st'.fr = some x' → ∃ x, lk t st.fr = some x ∧ ∀ v, R w (XX X0 β' st'.hp) β x v → R w (XX X0 β' st'.hp) β' x' v)
    (hobjs : ∀ id ob, lk id st'.hp = some ob → ObR w (XX X0 β' st'.hp) β' (β' id) ob)
    (hinj : ∀ i j oi oj b, lk i st'.hp = some oi → lk j st'.hp = some oj → (β' i).ft b → (β' j).ft b → i = j) : Sim N X0 M w0 st' β' a w := by
  have hS : Same (XX X0 β st.hp) w w := ⟨Nat.le_refl _, fun _ _ _ => rfl⟩
  exact { h with
    beta := hone
    slots := fun t x hx => by
      obtain ⟨y, h1, h2⟩ := hslots t x hx
      exact h2 _ ((h.slots t y h1).mono hS (fun b _ hb => XX_ghost hft hb))
    objs := hobjs
    inj := hinj
    mine := fun id ob b hi hb => by
      obtain ⟨i, o, h1, h2⟩ := hft id ob b hi hb
      exact h.mine i o b h1 h2
    pin := fun id u hm h1 => by rw [hpin id h1]; exact h.pin id u hm h1 }

theorem Dp.v_foot {x : Value} {v : Value} {F : Nat → Prop} (h : Dp w (.v x) v F) : v = x ∧ ∀ b, ¬ F b := by
  cases h with
  | v _ F hF => exact ⟨rfl, hF⟩
theorem Dp.v_of {c : SV} {v : Value} {F : Nat → Prop} (h : Dp w c v F) (hc : c.isSl = false) : c = .v v ∧ ∀ b, ¬ F b := by
  cases h with
  | v _ F hF => exact ⟨rfl, hF⟩
  | nil => cases hc
  | sl => cases hc
theorem isSl_eq {c : SV} (h : c.isSl = true) : ∃ s rows, c = .sl s rows := by
  cases c <;> first | exact ⟨_, _, rfl⟩ | cases h

/-- a list of cells that hold no memory, as one that owns what is in it .. -/
theorem ObR.sl_dp {X : Nat → Prop} {v : BV} {e s : Nat} {rows : List (List SV)} (h : ObR w X β v (.sl e s rows)) (hv : allVs rows) : ObR w X β v (.dp e s rows) := by
  cases h with
  | nil e s h => subst h; exact .dp (.nil s _ (fun b hb => by cases hb)) (fun b hb => by cases hb)
  | sl b cap cur us hv' hh h1 h2 h3 h4 h5 h6 h7 =>
    subst hv'
    refine .dp (.sl e b cap cur us (fun _ _ _ => False) _ hh h1 h2 h3 h4 (fun i k q1 q2 => ?_) (fun i k q1 q2 => ?_) (fun i k row c q1 q2 => ?_) (fun _ _ _ hf => hf.elim) (fun _ _ hf => hf) (fun _ _ _ _ _ hf => hf.elim) (fun b' => ?_)) (fun b' hb => ?_)
    · obtain ⟨row, c, r1, r2⟩ := row_cell h4 q1 q2
      exact h5 i k row c r1 r2
    · obtain ⟨row, c, r1, r2⟩ := row_cell h4 q1 q2
      exact h6 i k row c r1 r2
    · obtain ⟨x, rfl⟩ := hv row (List.mem_of_getElem? q1) c (List.mem_of_getElem? q2)
      have := h7 i k row _ q1 q2
      generalize us i k = u at this
      cases this
      exact .v x _ (fun _ hf => hf)
    · show blk (.slice (some ⟨b, 0, none⟩) rows.length cap) = some b' ↔ _
      simp [blk, eq_comm]
    · have hb' : some b = some b' := hb
      injection hb' with hb'
      subst hb'
      exact ⟨cur, hh⟩
/-- .. and back -/
theorem Dp.dp_sl {X : Nat → Prop} {s : Nat} {rows : List (List SV)} {v : Value} {F : Nat → Prop} (h : Dp w (.sl s rows) v F) (hv : allVs rows) : ∃ e, ObR w X β ⟨v, F⟩ (.sl e s rows) := by
  cases h with
  | nil s F hF => exact ⟨0, .nil 0 s (by
      unfold nilB plain
      congr 1
      funext b
      exact propext ⟨fun h => absurd h (hF b), fun h => by cases h⟩)⟩
  | sl e b cap cur us fs F hh h1 h2 h3 h4 h5 h6 h7 h8 h9 h10 hF =>
    have hempty : ∀ i k b', ¬ fs i k b' := fun i k b' hb => by
      obtain ⟨q1, q2⟩ := h8 i k b' hb
      obtain ⟨row, c, r1, r2⟩ := row_cell h4 q1 q2
      obtain ⟨x, rfl⟩ := hv row (List.mem_of_getElem? r1) c (List.mem_of_getElem? r2)
      exact (h7 i k row _ r1 r2).v_foot.2 b' hb
    refine ⟨e, .sl b cap cur us ?_ hh h1 h2 h3 h4 (fun i k row c r1 r2 => h5 i k (row_lt h4 r1 r2).1 (row_lt h4 r1 r2).2) (fun i k row c r1 r2 => h6 i k (row_lt h4 r1 r2).1 (row_lt h4 r1 r2).2) (fun i k row c r1 r2 => ?_)⟩
    · unfold plain
      congr 1
      funext b'
      refine propext ((hF b').trans ⟨fun h => ?_, fun h => .inl ?_⟩)
      · rcases h with rfl | ⟨i, k, h⟩
        · rfl
        · exact absurd h (hempty i k b')
      · have hb' : some b = some b' := h
        injection hb' with hb'
        exact hb'.symm
    · obtain ⟨x, rfl⟩ := hv row (List.mem_of_getElem? r1) c (List.mem_of_getElem? r2)
      have := (h7 i k row _ r1 r2).v_foot.1
      rw [this]
      exact .v x
theorem Dp.dp_ob {X : Nat → Prop} {s : Nat} {rows : List (List SV)} {v : Value} {F : Nat → Prop} (h : Dp w (.sl s rows) v F) : ∃ e, ObR w X β ⟨v, F⟩ (.dp e s rows) := by
  have h0 := h
  cases h with
  | nil s F hF => exact ⟨0, .dp h0 (fun b hb => by cases hb)⟩
  | sl e b cap cur us fs F hh => exact ⟨e, .dp h0 (fun b' hb => by
      have hb' : some b = some b' := hb
      injection hb' with hb'
      subst hb'
      exact ⟨cur, hh⟩)⟩

theorem ObR.dp_dq {X : Nat → Prop} {v : BV} {e s i : Nat} {rows : List (List SV)} (h : ObR w X β v (.dp e s rows)) (hi : i < rows.length) : ObR w X β v (.dq e s rows i (rowAt rows i)) := by
  cases h with
  | dp hd he =>
    obtain ⟨vv, F⟩ := v
    simp only at hd he
    have hrow : rows[i]? = some (rowAt rows i) := by unfold rowAt; rw [List.getElem?_eq_getElem hi]; rfl
    cases hd with
    | nil => simp at hi
    | sl e' b cap cur us fs F hh h1 h2 h3 h4 h5 h6 h7 h8 h9 h10 hF =>
      obtain ⟨cur', hcur'⟩ := he b rfl
      rw [hh] at hcur'
      cases hcur'
      refine .dq b cap cur us fs rfl hh h1 h2 h3 hi (h4 i _ hrow) h4 h5 h6 (fun i' k row c _ r1 r2 => h7 i' k row c r1 r2) (fun k c hc => ?_) h8 h9 h10 hF
      have hd := h7 i k _ c hrow hc
      cases hsl : c.isSl with
      | true => exact .inl ⟨hsl, hd⟩
      | false =>
        obtain ⟨e1, e2⟩ := hd.v_of hsl
        refine .inr ⟨hsl, ?_, e2⟩
        rw [e1]; exact .p (.v _)
theorem ObR.dq_dp {X : Nat → Prop} {v : BV} {e s i : Nat} {rows : List (List SV)} {row0 : List SV} (h : ObR w X β v (.dq e s rows i row0)) (hall : row0.all SV.flat = true) : ObR w X β v (.dp e s (rows.set i row0)) := by
  cases h with
  | dq b cap cur us fs hv hh h1 h2 h3 h4 h5 h6 h7 h8 h9 h10 h11 h12 h13 hF =>
    have hlen : ∀ (i' : Nat) (row : List SV), (rows.set i row0)[i']? = some row → row.length = s := fun i' row hr => by
      rw [List.getElem?_set] at hr
      split at hr
      · simp only [h4, if_true, Option.some.injEq] at hr
        rw [← hr]; exact h5
      · exact h6 i' row hr
    refine .dp ?_ (fun b' hb => ?_)
    · rw [hv]
      have := Dp.sl (w := w) (s := s) (rows := rows.set i row0) e b cap cur us fs v.ft hh (by rw [List.length_set]; exact h1) h2 h3 hlen (fun i' k q1 q2 => h7 i' k (by rwa [List.length_set] at q1) q2) (fun i' k q1 q2 => h8 i' k (by rwa [List.length_set] at q1) q2)
        (fun i' k row c r1 r2 => ?_) (fun i' k b' hb => by rw [List.length_set]; exact h11 i' k b' hb) h12 h13 hF
      · rw [List.length_set] at this; exact this
      · rw [List.getElem?_set] at r1
        split at r1
        · rename_i he
          subst he
          simp only [h4, if_true, Option.some.injEq] at r1
          subst r1
          have hfl := List.all_eq_true.1 hall c (List.mem_of_getElem? r2)
          rcases h10 k c r2 with ⟨_, hd⟩ | ⟨q1, q2, q3⟩
          · exact hd
          · cases c with
            | v x => have := q2.v_inv; rw [this]; exact .v x _ q3
            | sl _ _ => cases q1
            | _ => cases hfl
        · rename_i hne
          exact h9 i' k row c (fun e => hne e.symm) r1 r2
    · rw [hv] at hb
      have hb' : some b = some b' := hb
      injection hb' with hb'
      subst hb'
      exact ⟨cur, hh⟩

theorem upq_isSl {f : SV → SV} {c : SV} (h : c.isSl = true) : c.upq f = c := by unfold SV.upq; rw [if_pos h]

/-- cell k of the open row, taken out as object j -/
theorem Sim.bor (h : Sim N X0 M w0 st β a w) {id k j e s i s' : Nat} {rows rows' : List (List SV)} {row0 : List SV} (hl : lk id st.hp = some (.dq e s rows i row0)) (hk : row0[k]? = some (.sl s' rows')) (hj : j < 1000000) (hne : j ≠ id)
    {ob : Nat → Ob} (hob : ∀ (X : Nat → Prop) (β : Nat → BV) (v : Value) (F : Nat → Prop), Dp w (.sl s' rows') v F → ∃ e', ObR w X β ⟨v, F⟩ (ob e')) (hobe : ∀ e', (∀ X β β' v, ObR w X β v (ob e') → ObR w X β' v (ob e'))) :
    ∃ e' β', Sim N X0 M w0 { fr := (st.kill j).fr, hp := (j, ob e') :: (id, .dq e s rows i ((row0.map (SV.upq (SV.kill j))).set k (.own j))) :: er id (st.kill j).hp } β' a w := by
  have hO := h.objs id _ hl
  generalize hbv : β id = bv at hO
  cases hO with
  | dq b cap cur us fs hv hh h1 h2 h3 h4 h5 h6 h7 h8 h9 h10 h11 h12 h13 hF =>
    have hks : k < s := by rw [← h5]; exact (List.getElem?_eq_some_iff.1 hk).1
    have hD : Dp w (.sl s' rows') (us i k) (fs i k) := by
      rcases h10 k _ hk with ⟨_, hd⟩ | ⟨q, _⟩
      · exact hd
      · cases q
    obtain ⟨e', he'⟩ := hob (XX X0 β st.hp) β _ _ hD
    let fs' : Nat → Nat → Nat → Prop := fun i' k' b' => fs i' k' b' ∧ ¬ (i' = i ∧ k' = k)
    let vid : BV := ⟨bv.val, fun b' => b' = b ∨ ∃ i' k', fs' i' k' b'⟩
    let β' : Nat → BV := fun q => if q = j then ⟨us i k, fs i k⟩ else if q = id then vid else β q
    have hβj : β' j = ⟨us i k, fs i k⟩ := if_pos rfl
    have hβid : β' id = vid := by show (if id = j then _ else if id = id then vid else _) = _; rw [if_neg (fun e => hne e.symm), if_pos rfl]
    have hβo : ∀ q, q ≠ j → q ≠ id → β' q = β q := fun q h1 h2 => by show (if q = j then _ else if q = id then vid else _) = _; rw [if_neg h1, if_neg h2]
    have hβv : ∀ q, q ≠ j → (β' q).val = (β q).val := fun q hq => by
      by_cases hid : q = id
      · rw [hid, hβid, hbv]
      · rw [hβo q hq hid]
    have hlk : ∀ (t : Nat) (o : Ob), lk t ((j, ob e') :: (id, .dq e s rows i ((row0.map (SV.upq (SV.kill j))).set k (.own j))) :: er id (st.kill j).hp) = some o →
        (t = j ∧ o = ob e') ∨ (t = id ∧ o = .dq e s rows i ((row0.map (SV.upq (SV.kill j))).set k (.own j))) ∨ (t ≠ j ∧ t ≠ id ∧ ∃ o0, lk t st.hp = some o0 ∧ o = o0.kill j) := fun t o ht => by
      simp only [lk] at ht
      by_cases e1 : t = j
      · rw [if_pos e1] at ht; cases ht; exact .inl ⟨e1, rfl⟩
      · rw [if_neg e1] at ht
        by_cases e2 : t = id
        · rw [if_pos e2] at ht; cases ht; exact .inr (.inl ⟨e2, rfl⟩)
        · rw [if_neg e2, lk_er_ne e2, lk_kill_ne e1] at ht
          cases hq : lk t st.hp with
          | none => rw [hq] at ht; cases ht
          | some o0 => rw [hq] at ht; exact .inr (.inr ⟨e1, e2, o0, rfl, by simpa using ht.symm⟩)
    have hftid : ∀ b', vid.ft b' → bv.ft b' := fun b' hb => (hF b').2 (hb.imp _root_.id fun ⟨i', k', q, _⟩ => ⟨i', k', q⟩)
    have hftj : ∀ b', fs i k b' → bv.ft b' := fun b' hb => (hF b').2 (.inr ⟨i, k, hb⟩)
    have hft : ∀ t o b', lk t ((j, ob e') :: (id, .dq e s rows i ((row0.map (SV.upq (SV.kill j))).set k (.own j))) :: er id (st.kill j).hp) = some o → (β' t).ft b' → ∃ t0 o0, lk t0 st.hp = some o0 ∧ (β t0).ft b' ∧ (t = j ∨ t = id → t0 = id) ∧ (t ≠ j → t0 = t) := fun t o b' ht hb => by
      rcases hlk t o ht with ⟨rfl, _⟩ | ⟨rfl, _⟩ | ⟨n1, n2, o0, q, _⟩
      · rw [hβj] at hb; exact ⟨id, _, hl, by rw [hbv]; exact hftj b' hb, fun _ => rfl, fun q => absurd rfl q⟩
      · rw [hβid] at hb; exact ⟨t, _, hl, by rw [hbv]; exact hftid b' hb, fun _ => rfl, fun _ => rfl⟩
      · rw [hβo t n1 n2] at hb; exact ⟨t, o0, q, hb, fun q => by rcases q with q | q <;> contradiction, fun _ => rfl⟩
    have hft1 : ∀ t o b', lk t ((j, ob e') :: (id, .dq e s rows i ((row0.map (SV.upq (SV.kill j))).set k (.own j))) :: er id (st.kill j).hp) = some o → (β' t).ft b' → ∃ t0 o0, lk t0 st.hp = some o0 ∧ (β t0).ft b' := fun t o b' ht hb => by
      obtain ⟨t0, o0, q1, q2, _⟩ := hft t o b' ht hb
      exact ⟨t0, o0, q1, q2⟩
    have hS : Same (XX X0 β st.hp) w w := ⟨Nat.le_refl _, fun _ _ _ => rfl⟩
    refine ⟨e', β', h.ghost (fun q => ?_) (fun q hq => hβv q (by omega)) hft1 (fun t x' hx => ?_) (fun t o ht => ?_) (fun p q op oq b' hp hq hbp hbq => ?_)⟩
    · by_cases hq : q = j
      · rw [hq, hβj]; exact h8 i k h4 hks
      · rw [hβv q hq]; exact h.beta q
    · simp only [St.kill, lk_map] at hx
      cases hy : lk t st.fr with
      | none => rw [hy] at hx; cases hx
      | some y =>
        rw [hy] at hx
        have hx' : y.kill j = x' := by simpa using hx
        subst hx'
        exact ⟨y, rfl, fun v hR => hR.kill hβv⟩
    · rcases hlk t o ht with ⟨rfl, rfl⟩ | ⟨rfl, rfl⟩ | ⟨n1, n2, o0, q, rfl⟩
      · rw [hβj]
        exact hobe e' _ _ _ _ (he'.mono hS (fun b' _ hb => XX_ghost hft1 hb) (fun _ _ => rfl))
      · rw [hβid]
        refine .dq b cap cur us fs' hv hh h1 h2 h3 h4 (by simp [h5]) h6 h7 h8 (fun i' k' row c q0 r1 r2 => (h9 i' k' row c q0 r1 r2).ext fun b' => ⟨fun g => g.1, fun g => ⟨g, fun g2 => q0 g2.1⟩⟩) (fun k' c hc => ?_) (fun i' k' b' g => h11 i' k' b' g.1) (fun i' k' g => h12 i' k' g.1) (fun i1 k1 i2 k2 b' g1 g2 => h13 i1 k1 i2 k2 b' g1.1 g2.1) (fun b' => Iff.rfl)
        rw [List.getElem?_set] at hc
        split at hc
        · rename_i hkk
          subst hkk
          simp only [List.length_map, h5, hks, if_true, Option.some.injEq] at hc
          subst hc
          have hR := R.own (w := w) (X := XX X0 β' ((j, ob e') :: (t, .dq e s rows i ((row0.map (SV.upq (SV.kill j))).set k (.own j))) :: er t (st.kill j).hp)) (β := β') j
          rw [hβj] at hR
          exact .inr ⟨rfl, hR, fun b' g => g.2 ⟨rfl, rfl⟩⟩
        · rename_i hkk
          obtain ⟨c0, hc0, rfl⟩ := map_get hc
          have hex : ∀ b', fs' i k' b' ↔ fs i k' b' := fun b' => ⟨fun g => g.1, fun g => ⟨g, fun g2 => hkk g2.2.symm⟩⟩
          have h0 : DqC w (XX X0 β' ((j, ob e') :: (t, .dq e s rows i ((row0.map (SV.upq (SV.kill j))).set k (.own j))) :: er t (st.kill j).hp)) β' (c0.upq (SV.kill j)) (us i k') (fs i k') :=
            (h10 k' c0 hc0).upq fun hR => R.kill hβv (hR.mono (X' := XX X0 β' ((j, ob e') :: (t, .dq e s rows i ((row0.map (SV.upq (SV.kill j))).set k (.own j))) :: er t (st.kill j).hp)) hS (fun b' _ hb => XX_ghost hft1 hb))
          rcases h0 with ⟨g1, g2⟩ | ⟨g1, g2, g3⟩
          · exact .inl ⟨g1, g2.ext hex⟩
          · exact .inr ⟨g1, g2, fun b' g => g3 b' ((hex b').1 g)⟩
      · rw [hβo t n1 n2]
        exact ((h.objs t o0 q).mono hS (fun b' _ hb => XX_ghost hft1 hb) (fun _ _ => rfl)).kill hβv
    · obtain ⟨t1, o1, q1, q2, q3, q4⟩ := hft p op b' hp hbp
      obtain ⟨t2, o2, r1, r2, r3, r4⟩ := hft q oq b' hq hbq
      have := h.inj t1 t2 o1 o2 b' q1 r1 q2 r2
      subst this
      by_cases p1 : p = j <;> by_cases p2 : q = j
      · rw [p1, p2]
      · exfalso
        have := r4 p2
        have := q3 (.inl p1)
        have hqi : q = id := by omega
        rw [p1, hβj] at hbp
        rw [hqi, hβid] at hbq
        have hbp : fs i k b' := hbp
        rcases hbq with g | ⟨i', k', g, g2⟩
        · exact h12 i k (g ▸ hbp)
        · exact g2 (h13 i' k' i k b' g hbp)
      · exfalso
        have := q4 p1
        have := r3 (.inl p2)
        have hpi : p = id := by omega
        rw [p2, hβj] at hbq
        rw [hpi, hβid] at hbp
        have hbq : fs i k b' := hbq
        rcases hbp with g | ⟨i', k', g, g2⟩
        · exact h12 i k (g ▸ hbq)
        · exact g2 (h13 i' k' i k b' g hbq)
      · have := q4 p1
        have := r4 p2
        omega

/-- cell k's object, a list of the row again -/
theorem Sim.absb (h : Sim N X0 M w0 st β a w) {id k j e s i s' : Nat} {rows rows' : List (List SV)} {row0 : List SV} {oj : Ob} (hl : lk id st.hp = some (.dq e s rows i row0)) (hk : row0[k]? = some (.own j)) (hne : j ≠ id)
    (hoj : lk j st.hp = some oj) (hob : ObR w (XX X0 β st.hp) β (β j) oj → Dp w (.sl s' rows') (β j).val (β j).ft) :
    ∃ β', Sim N X0 M w0 { fr := (st.kill j).fr, hp := (id, .dq e s rows i ((row0.map (SV.upq (SV.kill j))).set k (.sl s' rows'))) :: er id (st.kill j).hp } β' a w := by
  have hO := h.objs id _ hl
  have hD := hob (h.objs j oj hoj)
  have hdisj : ∀ b', (β j).ft b' → ¬ (β id).ft b' := fun b' g1 g2 => hne (h.inj j id oj _ b' hoj hl g1 g2)
  generalize hbv : β id = bv at hO hdisj
  cases hO with
  | dq b cap cur us fs hv hh h1 h2 h3 h4 h5 h6 h7 h8 h9 h10 h11 h12 h13 hF =>
    have hks : k < s := by rw [← h5]; exact (List.getElem?_eq_some_iff.1 hk).1
    have hR0 : us i k = (β j).val ∧ ∀ b', ¬ fs i k b' := by
      rcases h10 k _ hk with ⟨q, _⟩ | ⟨_, hR, g⟩
      · cases q
      · exact ⟨hR.own_inv, g⟩
    let fs' : Nat → Nat → Nat → Prop := fun i' k' b' => if i' = i ∧ k' = k then (β j).ft b' else fs i' k' b'
    have hfs1 : ∀ b', fs' i k b' ↔ (β j).ft b' := fun b' => by show (if i = i ∧ k = k then _ else _) ↔ _; rw [if_pos ⟨rfl, rfl⟩]
    have hfs2 : ∀ i' k' b', ¬ (i' = i ∧ k' = k) → (fs' i' k' b' ↔ fs i' k' b') := fun i' k' b' hn => by show (if i' = i ∧ k' = k then _ else _) ↔ _; rw [if_neg hn]
    let vid : BV := ⟨bv.val, fun b' => b' = b ∨ ∃ i' k', fs' i' k' b'⟩
    let β' : Nat → BV := fun q => if q = id then vid else β q
    have hβid : β' id = vid := if_pos rfl
    have hβo : ∀ q, q ≠ id → β' q = β q := fun q h2 => if_neg h2
    have hβv : ∀ q, (β' q).val = (β q).val := fun q => by
      by_cases hid : q = id
      · rw [hid, hβid, hbv]
      · rw [hβo q hid]
    have hlk : ∀ (t : Nat) (o : Ob), lk t ((id, .dq e s rows i ((row0.map (SV.upq (SV.kill j))).set k (.sl s' rows'))) :: er id (st.kill j).hp) = some o →
        (t = id ∧ o = .dq e s rows i ((row0.map (SV.upq (SV.kill j))).set k (.sl s' rows'))) ∨ (t ≠ j ∧ t ≠ id ∧ ∃ o0, lk t st.hp = some o0 ∧ o = o0.kill j) := fun t o ht => by
      simp only [lk] at ht
      by_cases e2 : t = id
      · rw [if_pos e2] at ht; cases ht; exact .inl ⟨e2, rfl⟩
      · rw [if_neg e2, lk_er_ne e2] at ht
        by_cases e1 : t = j
        · subst e1; rw [lk_kill] at ht; cases ht
        · rw [lk_kill_ne e1] at ht
          cases hq : lk t st.hp with
          | none => rw [hq] at ht; cases ht
          | some o0 => rw [hq] at ht; exact .inr ⟨e1, e2, o0, rfl, by simpa using ht.symm⟩
    have hvid : ∀ b', vid.ft b' → bv.ft b' ∨ (β j).ft b' := fun b' hb => by
      rcases hb with g | ⟨i', k', g⟩
      · exact .inl ((hF b').2 (.inl g))
      · by_cases hik : i' = i ∧ k' = k
        · obtain ⟨rfl, rfl⟩ := hik; exact .inr ((hfs1 b').1 g)
        · exact .inl ((hF b').2 (.inr ⟨i', k', (hfs2 i' k' b' hik).1 g⟩))
    have hft : ∀ t o b', lk t ((id, .dq e s rows i ((row0.map (SV.upq (SV.kill j))).set k (.sl s' rows'))) :: er id (st.kill j).hp) = some o → (β' t).ft b' → ∃ t0 o0, lk t0 st.hp = some o0 ∧ (β t0).ft b' ∧ (t ≠ id → t0 = t) ∧ (t = id → t0 = id ∨ t0 = j) := fun t o b' ht hb => by
      rcases hlk t o ht with ⟨rfl, _⟩ | ⟨n1, n2, o0, q, _⟩
      · rw [hβid] at hb
        rcases hvid b' hb with g | g
        · exact ⟨t, _, hl, by rw [hbv]; exact g, fun q => absurd rfl q, fun _ => .inl rfl⟩
        · exact ⟨j, _, hoj, g, fun q => absurd rfl q, fun _ => .inr rfl⟩
      · rw [hβo t n2] at hb; exact ⟨t, o0, q, hb, fun _ => rfl, fun q => absurd q n2⟩
    have hft1 : ∀ t o b', lk t ((id, .dq e s rows i ((row0.map (SV.upq (SV.kill j))).set k (.sl s' rows'))) :: er id (st.kill j).hp) = some o → (β' t).ft b' → ∃ t0 o0, lk t0 st.hp = some o0 ∧ (β t0).ft b' := fun t o b' ht hb => by
      obtain ⟨t0, o0, q1, q2, _⟩ := hft t o b' ht hb
      exact ⟨t0, o0, q1, q2⟩
    have hS : Same (XX X0 β st.hp) w w := ⟨Nat.le_refl _, fun _ _ _ => rfl⟩
    refine ⟨β', h.ghost (fun q => by rw [hβv]; exact h.beta q) (fun q _ => hβv q) hft1 (fun t x' hx => ?_) (fun t o ht => ?_) (fun p q op oq b' hp hq hbp hbq => ?_)⟩
    · simp only [St.kill, lk_map] at hx
      cases hy : lk t st.fr with
      | none => rw [hy] at hx; cases hx
      | some y =>
        rw [hy] at hx
        have hx' : y.kill j = x' := by simpa using hx
        subst hx'
        exact ⟨y, rfl, fun v hR => hR.kill fun q _ => hβv q⟩
    · rcases hlk t o ht with ⟨rfl, rfl⟩ | ⟨n1, n2, o0, q, rfl⟩
      · rw [hβid]
        refine .dq b cap cur us fs' hv hh h1 h2 h3 h4 (by simp [h5]) h6 h7 h8 (fun i' k' row c q0 r1 r2 => (h9 i' k' row c q0 r1 r2).ext fun b' => hfs2 i' k' b' (fun g => q0 g.1)) (fun k' c hc => ?_) (fun i' k' b' g => ?_) (fun i' k' g => ?_) (fun i1 k1 i2 k2 b' g1 g2 => ?_) (fun b' => Iff.rfl)
        · rw [List.getElem?_set] at hc
          split at hc
          · rename_i hkk
            subst hkk
            simp only [List.length_map, h5, hks, if_true, Option.some.injEq] at hc
            subst hc
            refine .inl ⟨rfl, ?_⟩
            rw [hR0.1]
            exact hD.ext hfs1
          · rename_i hkk
            obtain ⟨c0, hc0, rfl⟩ := map_get hc
            have hex : ∀ b', fs' i k' b' ↔ fs i k' b' := fun b' => hfs2 i k' b' (fun g2 => hkk g2.2.symm)
            have h0 := (h10 k' c0 hc0).upq (f := SV.kill j) (X' := XX X0 β' ((t, .dq e s rows i ((row0.map (SV.upq (SV.kill j))).set k (.sl s' rows'))) :: er t (st.kill j).hp)) (β' := β') fun hR => R.kill (fun q _ => hβv q) (hR.mono (X' := XX X0 β' ((t, .dq e s rows i ((row0.map (SV.upq (SV.kill j))).set k (.sl s' rows'))) :: er t (st.kill j).hp)) hS (fun b' _ hb => XX_ghost hft1 hb))
            rcases h0 with ⟨g1, g2⟩ | ⟨g1, g2, g3⟩
            · exact .inl ⟨g1, g2.ext hex⟩
            · exact .inr ⟨g1, g2, fun b' g => g3 b' ((hex b').1 g)⟩
        · by_cases hik : i' = i ∧ k' = k
          · obtain ⟨rfl, rfl⟩ := hik; exact ⟨h4, hks⟩
          · exact h11 i' k' b' ((hfs2 i' k' b' hik).1 g)
        · by_cases hik : i' = i ∧ k' = k
          · obtain ⟨rfl, rfl⟩ := hik
            exact hdisj b ((hfs1 b).1 g) ((hF b).2 (.inl rfl))
          · exact h12 i' k' ((hfs2 i' k' b hik).1 g)
        · by_cases hik1 : i1 = i ∧ k1 = k <;> by_cases hik2 : i2 = i ∧ k2 = k
          · exact ⟨hik1.1.trans hik2.1.symm, hik1.2.trans hik2.2.symm⟩
          · obtain ⟨rfl, rfl⟩ := hik1
            exact absurd ((hF b').2 (.inr ⟨i2, k2, (hfs2 i2 k2 b' hik2).1 g2⟩)) (hdisj b' ((hfs1 b').1 g1))
          · obtain ⟨rfl, rfl⟩ := hik2
            exact absurd ((hF b').2 (.inr ⟨i1, k1, (hfs2 i1 k1 b' hik1).1 g1⟩)) (hdisj b' ((hfs1 b').1 g2))
          · exact h13 i1 k1 i2 k2 b' ((hfs2 i1 k1 b' hik1).1 g1) ((hfs2 i2 k2 b' hik2).1 g2)
      · rw [hβo t n2]
        exact ((h.objs t o0 q).mono hS (fun b' _ hb => XX_ghost hft1 hb) (fun _ _ => rfl)).kill fun q _ => hβv q
    · obtain ⟨t1, o1, q1, q2, q3, q4⟩ := hft p op b' hp hbp
      obtain ⟨t2, o2, r1, r2, r3, r4⟩ := hft q oq b' hq hbq
      have := h.inj t1 t2 o1 o2 b' q1 r1 q2 r2
      subst this
      have nj : ∀ {t o}, lk t ((id, .dq e s rows i ((row0.map (SV.upq (SV.kill j))).set k (.sl s' rows'))) :: er id (st.kill j).hp) = some o → t ≠ j := fun {t o} ht => by
        rcases hlk t o ht with ⟨rfl, _⟩ | ⟨n1, _⟩
        · exact fun e => hne e.symm
        · exact n1
      have n1 := nj hp
      have n2 := nj hq
      by_cases p1 : p = id <;> by_cases p2 : q = id
      · rw [p1, p2]
      · have := r3 p2
        rcases q4 p1 with g | g <;> omega
      · have := q3 p1
        rcases r4 p2 with g | g <;> omega
      · have := q3 p1
        have := r3 p2
        omega

theorem Sim.gh (h : Sim N X0 M w0 st β a w) {K : St → Prop} {g : Gh} (hK : st.gh K g) : ∃ st' β', K st' ∧ Sim N X0 M w0 st' β' a w := by
  cases g with
  | dp id =>
    simp only [St.gh] at hK
    split at hK
    · rename_i e s rows hl; exact ⟨_, β, hK.2, h.reob hl fun hO => hO.sl_dp hK.1⟩
    · exact ⟨st, β, hK, h⟩
    · exact hK.elim
  | opn id i =>
    simp only [St.gh] at hK
    split at hK
    · rename_i e s rows hl; exact ⟨_, β, hK.2, h.reob hl fun hO => hO.dp_dq hK.1⟩
    · exact hK.elim
  | bor id k j =>
    simp only [St.gh] at hK
    split at hK
    · rename_i e s rows i row0 hl
      split at hK
      · rename_i s' rows' hk
        obtain ⟨e', β', h'⟩ := h.bor hl hk hK.1 hK.2.1 (ob := fun e' => .dp e' s' rows') (fun X β v F hD => hD.dp_ob) (fun e' X β β' v hO => by cases hO with | dp hd he => exact .dp hd he)
        exact ⟨_, β', hK.2.2 e', h'⟩
      · exact hK.elim
    · exact hK.elim
  | borV id k j =>
    simp only [St.gh] at hK
    split at hK
    · rename_i e s rows i row0 hl
      split at hK
      · rename_i s' rows' hk
        obtain ⟨e', β', h'⟩ := h.bor hl hk hK.1 hK.2.1 (ob := fun e' => .sl e' s' rows') (fun X β v F hD => hD.dp_sl hK.2.2.1) (fun e' X β β' v hO => hO.sl_beta)
        exact ⟨_, β', hK.2.2.2 e', h'⟩
      · exact hK.elim
    · exact hK.elim
  | abs id k =>
    simp only [St.gh] at hK
    split at hK
    · rename_i e s rows i row0 hl
      split at hK
      · rename_i j hk
        obtain ⟨hne, hK⟩ := hK
        split at hK
        · rename_i e' s' rows' hj
          obtain ⟨β', h'⟩ := h.absb hl hk hne hj (s' := s') (rows' := rows') (fun hO => by
            have := hO.sl_dp hK.1
            cases this with
            | dp hd he => exact hd)
          exact ⟨_, β', hK.2, h'⟩
        · rename_i e' s' rows' hj
          obtain ⟨β', h'⟩ := h.absb hl hk hne hj (s' := s') (rows' := rows') (fun hO => by
            cases hO with
            | dp hd he => exact hd)
          exact ⟨_, β', hK, h'⟩
        · exact hK.elim
      · exact hK.elim
    · exact hK.elim
  | fld id =>
    simp only [St.gh] at hK
    split at hK
    · rename_i e s rows i row0 hl; exact ⟨_, β, hK.2, h.reob hl fun hO => hO.dq_dp hK.1⟩
    · exact hK.elim
theorem Sim.gho {a : Act} {w : World} {K : St → Prop} : ∀ {l : List Gh} {st : St} {β : Nat → BV}, Sim N X0 M w0 st β a w → st.gho K l → ∃ st' β', K st' ∧ Sim N X0 M w0 st' β' a w
  | [], st, β, h, hK => ⟨st, β, hK, h⟩
  | g :: l, st, β, h, hK => by
    obtain ⟨st1, β1, h1, h2⟩ := h.gh (g := g) hK
    exact Sim.gho h2 h1
end
section
variable {c : Cx} {N : Nat} {X0 : Nat → Prop} {M : Nat → BV → Prop} {w0 : World} {st : St} {K : Exit → St → Prop}
theorem WP.gho (l : List Gh) {code : Code} (h : st.gho (fun st' => WP c N X0 M w0 code st' K) l) : WP c N X0 M w0 code st K := fun hA β a w hs => by
  obtain ⟨st', β', h1, h2⟩ := hs.gho h
  exact h1 hA β' a w h2
/-- the same behind a piece of code -/
def ghoK (l : List Gh) (K : Exit → St → Prop) : Exit → St → Prop
  | .normal, st => st.gho (K .normal) l
  | e, st => K e st
theorem WP.post (l : List Gh) {code : Code} (h : WP c N X0 M w0 code st (ghoK l K)) : WP c N X0 M w0 code st K := fun hA β a w hs =>
  Code.wp_mono (fun e a' w' hq => by
    cases e with
    | normal =>
      obtain ⟨st', β', h1, h2⟩ := hq
      obtain ⟨st2, β2, h3, h4⟩ := h2.gho h1
      exact ⟨st2, β2, h3, h4⟩
    | _ => exact hq) (h hA β a w hs)
end

/-! ## a result that owns what is in it, as one that is read -/
theorem Holds.frozenD {P : Program} {f : FuncId} {args : List SV} {d e s : Nat} {rows : List (List SV)} (h : Holds P f args (.own d) [(d, .dp e s rows)]) : Holds P f args (.sl s rows) [] := by
  intro w X vs hG hX hl ha
  refine (h w X vs hG hX hl ha).mono fun en w' ⟨v, β, he, hb, hβ, hR, hO, hn⟩ => ?_
  refine ⟨v, β, he, hb, hβ, ?_, ⟨fun id ob hi => (by cases hi), fun i j oi oj b hi => (by cases hi)⟩, fun id ob b hi => (by cases hi)⟩
  have := hR.own_inv; subst this
  refine .p ((hO.1 d (.dp e s rows) (by simp [lk])).rd rfl (fun b hb' hx => ?_) (fun b hx => ?_))
  · have h1 := hn d (.dp e s rows) b (by simp [lk]) hb'
    rcases hx with hx | ⟨i, o, hi, _⟩
    · have := hX b hx; omega
    · cases hi
  · rcases hx with hx | ⟨i, o, hi, _⟩
    · exact .inl hx
    · cases hi
end Go.Vc
