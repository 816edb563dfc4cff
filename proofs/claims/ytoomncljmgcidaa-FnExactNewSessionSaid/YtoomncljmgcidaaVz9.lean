/-
  DERIVED. Several texts of ours in one: VcNs, VcFr, VtLine, VpNest, VtLine2, VtSeD, VcW, VtSeD2, VgSymbolM.
-/
import Derived.Test.YtoomncljmgcidaaVz0
import Derived.Test.YtoomncljmgcidaaVz1
import Derived.Test.YtoomncljmgcidaaVz2
import Derived.Test.YtoomncljmgcidaaVz3
import Derived.Test.YtoomncljmgcidaaVz4
import Derived.Test.YtoomncljmgcidaaVz5
import Derived.Test.YtoomncljmgcidaaVz6
import Derived.Test.YtoomncljmgcidaaVz7
import Derived.Test.YtoomncljmgcidaaVz8
set_option linter.unusedSimpArgs false
set_option linter.unusedVariables false
/-
  DERIVED. Lists that own the lists in their cells: a row opened and shut again, one of its lists taken out and put back.
-/
namespace Go.Vc
set_option linter.unusedVariables false
set_option linter.unusedSimpArgs false

/-- what is told anew of the objects, the world as it is -/
inductive Gh where
  /-- a list of cells that hold no memory owns what is in its cells -/
  | dp (id : Nat)
  /-- row i stands open -/
  | opn (id i : Nat)
  /-- cell k's list is an object of its own, j -/
  | bor (id k j : Nat)
  /-- .. whose cells hold no memory -/
  | borV (id k j : Nat)
  /-- cell k's object is a list of the row again -/
  | abs (id k : Nat)
  /-- the row is shut -/
  | fld (id : Nat)

def SV.flat (c : SV) : Bool := match c with
  | .v _ => true
  | .sl _ _ => true
  | _ => false
def St.gh (st : St) (K : St → Prop) : Gh → Prop
  | .dp id => match lk id st.hp with
    | some (.sl e s rows) => allVs rows ∧ K (st.wrt id (.dp e s rows))
    | some (.dp e s rows) => K st
    | _ => False
  | .opn id i => match lk id st.hp with
    | some (.dp e s rows) => i < rows.length ∧ K (st.wrt id (.dq e s rows i (rowAt rows i)))
    | _ => False
  | .bor id k j => match lk id st.hp with
    | some (.dq e s rows i row0) => match row0[k]? with
      | some (.sl s' rows') => j < 1000000 ∧ j ≠ id ∧ ∀ e', K { fr := (st.kill j).fr, hp := (j, .dp e' s' rows') :: (id, .dq e s rows i ((row0.map (SV.upq (SV.kill j))).set k (.own j))) :: er id (st.kill j).hp }
      | _ => False
    | _ => False
  | .borV id k j => match lk id st.hp with
    | some (.dq e s rows i row0) => match row0[k]? with
      | some (.sl s' rows') => j < 1000000 ∧ j ≠ id ∧ allVs rows' ∧ ∀ e', K { fr := (st.kill j).fr, hp := (j, .sl e' s' rows') :: (id, .dq e s rows i ((row0.map (SV.upq (SV.kill j))).set k (.own j))) :: er id (st.kill j).hp }
      | _ => False
    | _ => False
  | .abs id k => match lk id st.hp with
    | some (.dq e s rows i row0) => match row0[k]? with
      | some (.own j) => j ≠ id ∧ (match lk j st.hp with
        | some (.sl e' s' rows') => allVs rows' ∧ K { fr := (st.kill j).fr, hp := (id, .dq e s rows i ((row0.map (SV.upq (SV.kill j))).set k (.sl s' rows'))) :: er id (st.kill j).hp }
        | some (.dp e' s' rows') => K { fr := (st.kill j).fr, hp := (id, .dq e s rows i ((row0.map (SV.upq (SV.kill j))).set k (.sl s' rows'))) :: er id (st.kill j).hp }
        | _ => False)
      | _ => False
    | _ => False
  | .fld id => match lk id st.hp with
    | some (.dq e s rows i row0) => (row0.all SV.flat) = true ∧ K (st.wrt id (.dp e s (rows.set i row0)))
    | _ => False
def St.gho (st : St) (K : St → Prop) : List Gh → Prop
  | [] => K st
  | g :: l => st.gh (fun st' => st'.gho K l) g

section
variable {N : Nat} {X0 : Nat → Prop} {M : Nat → BV → Prop} {w0 : World} {st : St} {β : Nat → BV} {a : Act} {w : World}

theorem Sim.reob (h : Sim N X0 M w0 st β a w) {j : Nat} {ob ob' : Ob} (hj : lk j st.hp = some ob) (hob : ObR w (XX X0 β st.hp) β (β j) ob → ObR w (XX X0 β st.hp) β (β j) ob') : Sim N X0 M w0 (st.wrt j ob') β a w :=
  h.write hj rfl rfl rfl (Nat.le_refl _) (fun _ _ _ => rfl) (hob (h.objs j ob hj))

theorem XX_ghost {hp' : List (Nat × Ob)} {β' : Nat → BV} (hft : ∀ id ob b, lk id hp' = some ob → (β' id).ft b → ∃ i o, lk i st.hp = some o ∧ (β i).ft b) {b : Nat} (hb : XX X0 β' hp' b) : XX X0 β st.hp b := by
  rcases hb with hb | ⟨id, ob, hi, hb⟩
  · exact .inl hb
  · exact .inr (hft id ob b hi hb)
theorem Sim.ghost (h : Sim N X0 M w0 st β a w) {st' : St} {β' : Nat → BV} (hone : ∀ i, (β' i).val.oneCell' = true) (hpin : ∀ i, 1000000 ≤ i → (β' i).val = (β i).val)
    (hft : ∀ id ob b, lk id st'.hp = some ob → (β' id).ft b → ∃ i o, lk i st.hp = some o ∧ (β i).ft b)
    (hslots : ∀ t x', lk t st'.fr = some x' → ∃ x, lk t st.fr = some x ∧ ∀ v, R w (XX X0 β' st'.hp) β x v → R w (XX X0 β' st'.hp) β' x' v)
    (hobjs : ∀ id ob, lk id st'.hp = some ob → ObR w (XX X0 β' st'.hp) β' (β' id) ob)
    (hinj : ∀ i j oi oj b, lk i st'.hp = some oi → lk j st'.hp = some oj → (β' i).ft b → (β' j).ft b → i = j) : Sim N X0 M w0 st' β' a w := by
  have hS : Same (XX X0 β st.hp) w w := ⟨Nat.le_refl _, fun _ _ _ => rfl⟩
  exact { h with
    beta := hone
    slots := fun t x hx => by
      obtain ⟨y, h1, h2⟩ := hslots t x hx
      exact h2 _ ((h.slots t y h1).mono hS (fun b _ hb => XX_ghost hft hb))
    objs := hobjs
    inj := hinj
    mine := fun id ob b hi hb => by
      obtain ⟨i, o, h1, h2⟩ := hft id ob b hi hb
      exact h.mine i o b h1 h2
    pin := fun id u hm h1 => by rw [hpin id h1]; exact h.pin id u hm h1 }

theorem Dp.v_foot {x : Value} {v : Value} {F : Nat → Prop} (h : Dp w (.v x) v F) : v = x ∧ ∀ b, ¬ F b := by
  cases h with
  | v _ F hF => exact ⟨rfl, hF⟩
theorem Dp.v_of {c : SV} {v : Value} {F : Nat → Prop} (h : Dp w c v F) (hc : c.isSl = false) : c = .v v ∧ ∀ b, ¬ F b := by
  cases h with
  | v _ F hF => exact ⟨rfl, hF⟩
  | nil => cases hc
  | sl => cases hc
theorem isSl_eq {c : SV} (h : c.isSl = true) : ∃ s rows, c = .sl s rows := by
  cases c <;> first | exact ⟨_, _, rfl⟩ | cases h

/-- a list of cells that hold no memory, as one that owns what is in it .. -/
theorem ObR.sl_dp {X : Nat → Prop} {v : BV} {e s : Nat} {rows : List (List SV)} (h : ObR w X β v (.sl e s rows)) (hv : allVs rows) : ObR w X β v (.dp e s rows) := by
  cases h with
  | nil e s h => subst h; exact .dp (.nil s _ (fun b hb => by cases hb)) (fun b hb => by cases hb)
  | sl b cap cur us hv' hh h1 h2 h3 h4 h5 h6 h7 =>
    subst hv'
    refine .dp (.sl e b cap cur us (fun _ _ _ => False) _ hh h1 h2 h3 h4 (fun i k q1 q2 => ?_) (fun i k q1 q2 => ?_) (fun i k row c q1 q2 => ?_) (fun _ _ _ hf => hf.elim) (fun _ _ hf => hf) (fun _ _ _ _ _ hf => hf.elim) (fun b' => ?_)) (fun b' hb => ?_)
    · obtain ⟨row, c, r1, r2⟩ := row_cell h4 q1 q2
      exact h5 i k row c r1 r2
    · obtain ⟨row, c, r1, r2⟩ := row_cell h4 q1 q2
      exact h6 i k row c r1 r2
    · obtain ⟨x, rfl⟩ := hv row (List.mem_of_getElem? q1) c (List.mem_of_getElem? q2)
      have := h7 i k row _ q1 q2
      generalize us i k = u at this
      cases this
      exact .v x _ (fun _ hf => hf)
    · show blk (.slice (some ⟨b, 0, none⟩) rows.length cap) = some b' ↔ _
      simp [blk, eq_comm]
    · have hb' : some b = some b' := hb
      injection hb' with hb'
      subst hb'
      exact ⟨cur, hh⟩
/-- .. and back -/
theorem Dp.dp_sl {X : Nat → Prop} {s : Nat} {rows : List (List SV)} {v : Value} {F : Nat → Prop} (h : Dp w (.sl s rows) v F) (hv : allVs rows) : ∃ e, ObR w X β ⟨v, F⟩ (.sl e s rows) := by
  cases h with
  | nil s F hF => exact ⟨0, .nil 0 s (by
      unfold nilB plain
      congr 1
      funext b
      exact propext ⟨fun h => absurd h (hF b), fun h => by cases h⟩)⟩
  | sl e b cap cur us fs F hh h1 h2 h3 h4 h5 h6 h7 h8 h9 h10 hF =>
    have hempty : ∀ i k b', ¬ fs i k b' := fun i k b' hb => by
      obtain ⟨q1, q2⟩ := h8 i k b' hb
      obtain ⟨row, c, r1, r2⟩ := row_cell h4 q1 q2
      obtain ⟨x, rfl⟩ := hv row (List.mem_of_getElem? r1) c (List.mem_of_getElem? r2)
      exact (h7 i k row _ r1 r2).v_foot.2 b' hb
    refine ⟨e, .sl b cap cur us ?_ hh h1 h2 h3 h4 (fun i k row c r1 r2 => h5 i k (row_lt h4 r1 r2).1 (row_lt h4 r1 r2).2) (fun i k row c r1 r2 => h6 i k (row_lt h4 r1 r2).1 (row_lt h4 r1 r2).2) (fun i k row c r1 r2 => ?_)⟩
    · unfold plain
      congr 1
      funext b'
      refine propext ((hF b').trans ⟨fun h => ?_, fun h => .inl ?_⟩)
      · rcases h with rfl | ⟨i, k, h⟩
        · rfl
        · exact absurd h (hempty i k b')
      · have hb' : some b = some b' := h
        injection hb' with hb'
        exact hb'.symm
    · obtain ⟨x, rfl⟩ := hv row (List.mem_of_getElem? r1) c (List.mem_of_getElem? r2)
      have := (h7 i k row _ r1 r2).v_foot.1
      rw [this]
      exact .v x
theorem Dp.dp_ob {X : Nat → Prop} {s : Nat} {rows : List (List SV)} {v : Value} {F : Nat → Prop} (h : Dp w (.sl s rows) v F) : ∃ e, ObR w X β ⟨v, F⟩ (.dp e s rows) := by
  have h0 := h
  cases h with
  | nil s F hF => exact ⟨0, .dp h0 (fun b hb => by cases hb)⟩
  | sl e b cap cur us fs F hh => exact ⟨e, .dp h0 (fun b' hb => by
      have hb' : some b = some b' := hb
      injection hb' with hb'
      subst hb'
      exact ⟨cur, hh⟩)⟩

theorem ObR.dp_dq {X : Nat → Prop} {v : BV} {e s i : Nat} {rows : List (List SV)} (h : ObR w X β v (.dp e s rows)) (hi : i < rows.length) : ObR w X β v (.dq e s rows i (rowAt rows i)) := by
  cases h with
  | dp hd he =>
    obtain ⟨vv, F⟩ := v
    simp only at hd he
    have hrow : rows[i]? = some (rowAt rows i) := by unfold rowAt; rw [List.getElem?_eq_getElem hi]; rfl
    cases hd with
    | nil => simp at hi
    | sl e' b cap cur us fs F hh h1 h2 h3 h4 h5 h6 h7 h8 h9 h10 hF =>
      obtain ⟨cur', hcur'⟩ := he b rfl
      rw [hh] at hcur'
      cases hcur'
      refine .dq b cap cur us fs rfl hh h1 h2 h3 hi (h4 i _ hrow) h4 h5 h6 (fun i' k row c _ r1 r2 => h7 i' k row c r1 r2) (fun k c hc => ?_) h8 h9 h10 hF
      have hd := h7 i k _ c hrow hc
      cases hsl : c.isSl with
      | true => exact .inl ⟨hsl, hd⟩
      | false =>
        obtain ⟨e1, e2⟩ := hd.v_of hsl
        refine .inr ⟨hsl, ?_, e2⟩
        rw [e1]; exact .p (.v _)
theorem ObR.dq_dp {X : Nat → Prop} {v : BV} {e s i : Nat} {rows : List (List SV)} {row0 : List SV} (h : ObR w X β v (.dq e s rows i row0)) (hall : row0.all SV.flat = true) : ObR w X β v (.dp e s (rows.set i row0)) := by
  cases h with
  | dq b cap cur us fs hv hh h1 h2 h3 h4 h5 h6 h7 h8 h9 h10 h11 h12 h13 hF =>
    have hlen : ∀ (i' : Nat) (row : List SV), (rows.set i row0)[i']? = some row → row.length = s := fun i' row hr => by
      rw [List.getElem?_set] at hr
      split at hr
      · simp only [h4, if_true, Option.some.injEq] at hr
        rw [← hr]; exact h5
      · exact h6 i' row hr
    refine .dp ?_ (fun b' hb => ?_)
    · rw [hv]
      have := Dp.sl (w := w) (s := s) (rows := rows.set i row0) e b cap cur us fs v.ft hh (by rw [List.length_set]; exact h1) h2 h3 hlen (fun i' k q1 q2 => h7 i' k (by rwa [List.length_set] at q1) q2) (fun i' k q1 q2 => h8 i' k (by rwa [List.length_set] at q1) q2)
        (fun i' k row c r1 r2 => ?_) (fun i' k b' hb => by rw [List.length_set]; exact h11 i' k b' hb) h12 h13 hF
      · rw [List.length_set] at this; exact this
      · rw [List.getElem?_set] at r1
        split at r1
        · rename_i he
          subst he
          simp only [h4, if_true, Option.some.injEq] at r1
          subst r1
          have hfl := List.all_eq_true.1 hall c (List.mem_of_getElem? r2)
          rcases h10 k c r2 with ⟨_, hd⟩ | ⟨q1, q2, q3⟩
          · exact hd
          · cases c with
            | v x => have := q2.v_inv; rw [this]; exact .v x _ q3
            | sl _ _ => cases q1
            | _ => cases hfl
        · rename_i hne
          exact h9 i' k row c (fun e => hne e.symm) r1 r2
    · rw [hv] at hb
      have hb' : some b = some b' := hb
      injection hb' with hb'
      subst hb'
      exact ⟨cur, hh⟩

theorem upq_isSl {f : SV → SV} {c : SV} (h : c.isSl = true) : c.upq f = c := by unfold SV.upq; rw [if_pos h]

/-- cell k of the open row, taken out as object j -/
theorem Sim.bor (h : Sim N X0 M w0 st β a w) {id k j e s i s' : Nat} {rows rows' : List (List SV)} {row0 : List SV} (hl : lk id st.hp = some (.dq e s rows i row0)) (hk : row0[k]? = some (.sl s' rows')) (hj : j < 1000000) (hne : j ≠ id)
    {ob : Nat → Ob} (hob : ∀ (X : Nat → Prop) (β : Nat → BV) (v : Value) (F : Nat → Prop), Dp w (.sl s' rows') v F → ∃ e', ObR w X β ⟨v, F⟩ (ob e')) (hobe : ∀ e', (∀ X β β' v, ObR w X β v (ob e') → ObR w X β' v (ob e'))) :
    ∃ e' β', Sim N X0 M w0 { fr := (st.kill j).fr, hp := (j, ob e') :: (id, .dq e s rows i ((row0.map (SV.upq (SV.kill j))).set k (.own j))) :: er id (st.kill j).hp } β' a w := by
  have hO := h.objs id _ hl
  generalize hbv : β id = bv at hO
  cases hO with
  | dq b cap cur us fs hv hh h1 h2 h3 h4 h5 h6 h7 h8 h9 h10 h11 h12 h13 hF =>
    have hks : k < s := by rw [← h5]; exact (List.getElem?_eq_some_iff.1 hk).1
    have hD : Dp w (.sl s' rows') (us i k) (fs i k) := by
      rcases h10 k _ hk with ⟨_, hd⟩ | ⟨q, _⟩
      · exact hd
      · cases q
    obtain ⟨e', he'⟩ := hob (XX X0 β st.hp) β _ _ hD
    let fs' : Nat → Nat → Nat → Prop := fun i' k' b' => fs i' k' b' ∧ ¬ (i' = i ∧ k' = k)
    let vid : BV := ⟨bv.val, fun b' => b' = b ∨ ∃ i' k', fs' i' k' b'⟩
    let β' : Nat → BV := fun q => if q = j then ⟨us i k, fs i k⟩ else if q = id then vid else β q
    have hβj : β' j = ⟨us i k, fs i k⟩ := if_pos rfl
    have hβid : β' id = vid := by show (if id = j then _ else if id = id then vid else _) = _; rw [if_neg (fun e => hne e.symm), if_pos rfl]
    have hβo : ∀ q, q ≠ j → q ≠ id → β' q = β q := fun q h1 h2 => by show (if q = j then _ else if q = id then vid else _) = _; rw [if_neg h1, if_neg h2]
    have hβv : ∀ q, q ≠ j → (β' q).val = (β q).val := fun q hq => by
      by_cases hid : q = id
      · rw [hid, hβid, hbv]
      · rw [hβo q hq hid]
    have hlk : ∀ (t : Nat) (o : Ob), lk t ((j, ob e') :: (id, .dq e s rows i ((row0.map (SV.upq (SV.kill j))).set k (.own j))) :: er id (st.kill j).hp) = some o →
        (t = j ∧ o = ob e') ∨ (t = id ∧ o = .dq e s rows i ((row0.map (SV.upq (SV.kill j))).set k (.own j))) ∨ (t ≠ j ∧ t ≠ id ∧ ∃ o0, lk t st.hp = some o0 ∧ o = o0.kill j) := fun t o ht => by
      simp only [lk] at ht
      by_cases e1 : t = j
      · rw [if_pos e1] at ht; cases ht; exact .inl ⟨e1, rfl⟩
      · rw [if_neg e1] at ht
        by_cases e2 : t = id
        · rw [if_pos e2] at ht; cases ht; exact .inr (.inl ⟨e2, rfl⟩)
        · rw [if_neg e2, lk_er_ne e2, lk_kill_ne e1] at ht
          cases hq : lk t st.hp with
          | none => rw [hq] at ht; cases ht
          | some o0 => rw [hq] at ht; exact .inr (.inr ⟨e1, e2, o0, rfl, by simpa using ht.symm⟩)
    have hftid : ∀ b', vid.ft b' → bv.ft b' := fun b' hb => (hF b').2 (hb.imp _root_.id fun ⟨i', k', q, _⟩ => ⟨i', k', q⟩)
    have hftj : ∀ b', fs i k b' → bv.ft b' := fun b' hb => (hF b').2 (.inr ⟨i, k, hb⟩)
    have hft : ∀ t o b', lk t ((j, ob e') :: (id, .dq e s rows i ((row0.map (SV.upq (SV.kill j))).set k (.own j))) :: er id (st.kill j).hp) = some o → (β' t).ft b' → ∃ t0 o0, lk t0 st.hp = some o0 ∧ (β t0).ft b' ∧ (t = j ∨ t = id → t0 = id) ∧ (t ≠ j → t0 = t) := fun t o b' ht hb => by
      rcases hlk t o ht with ⟨rfl, _⟩ | ⟨rfl, _⟩ | ⟨n1, n2, o0, q, _⟩
      · rw [hβj] at hb; exact ⟨id, _, hl, by rw [hbv]; exact hftj b' hb, fun _ => rfl, fun q => absurd rfl q⟩
      · rw [hβid] at hb; exact ⟨t, _, hl, by rw [hbv]; exact hftid b' hb, fun _ => rfl, fun _ => rfl⟩
      · rw [hβo t n1 n2] at hb; exact ⟨t, o0, q, hb, fun q => by rcases q with q | q <;> contradiction, fun _ => rfl⟩
    have hft1 : ∀ t o b', lk t ((j, ob e') :: (id, .dq e s rows i ((row0.map (SV.upq (SV.kill j))).set k (.own j))) :: er id (st.kill j).hp) = some o → (β' t).ft b' → ∃ t0 o0, lk t0 st.hp = some o0 ∧ (β t0).ft b' := fun t o b' ht hb => by
      obtain ⟨t0, o0, q1, q2, _⟩ := hft t o b' ht hb
      exact ⟨t0, o0, q1, q2⟩
    have hS : Same (XX X0 β st.hp) w w := ⟨Nat.le_refl _, fun _ _ _ => rfl⟩
    refine ⟨e', β', h.ghost (fun q => ?_) (fun q hq => hβv q (by omega)) hft1 (fun t x' hx => ?_) (fun t o ht => ?_) (fun p q op oq b' hp hq hbp hbq => ?_)⟩
    · by_cases hq : q = j
      · rw [hq, hβj]; exact h8 i k h4 hks
      · rw [hβv q hq]; exact h.beta q
    · simp only [St.kill, lk_map] at hx
      cases hy : lk t st.fr with
      | none => rw [hy] at hx; cases hx
      | some y =>
        rw [hy] at hx
        have hx' : y.kill j = x' := by simpa using hx
        subst hx'
        exact ⟨y, rfl, fun v hR => hR.kill hβv⟩
    · rcases hlk t o ht with ⟨rfl, rfl⟩ | ⟨rfl, rfl⟩ | ⟨n1, n2, o0, q, rfl⟩
      · rw [hβj]
        exact hobe e' _ _ _ _ (he'.mono hS (fun b' _ hb => XX_ghost hft1 hb) (fun _ _ => rfl))
      · rw [hβid]
        refine .dq b cap cur us fs' hv hh h1 h2 h3 h4 (by simp [h5]) h6 h7 h8 (fun i' k' row c q0 r1 r2 => (h9 i' k' row c q0 r1 r2).ext fun b' => ⟨fun g => g.1, fun g => ⟨g, fun g2 => q0 g2.1⟩⟩) (fun k' c hc => ?_) (fun i' k' b' g => h11 i' k' b' g.1) (fun i' k' g => h12 i' k' g.1) (fun i1 k1 i2 k2 b' g1 g2 => h13 i1 k1 i2 k2 b' g1.1 g2.1) (fun b' => Iff.rfl)
        rw [List.getElem?_set] at hc
        split at hc
        · rename_i hkk
          subst hkk
          simp only [List.length_map, h5, hks, if_true, Option.some.injEq] at hc
          subst hc
          have hR := R.own (w := w) (X := XX X0 β' ((j, ob e') :: (t, .dq e s rows i ((row0.map (SV.upq (SV.kill j))).set k (.own j))) :: er t (st.kill j).hp)) (β := β') j
          rw [hβj] at hR
          exact .inr ⟨rfl, hR, fun b' g => g.2 ⟨rfl, rfl⟩⟩
        · rename_i hkk
          obtain ⟨c0, hc0, rfl⟩ := map_get hc
          have hex : ∀ b', fs' i k' b' ↔ fs i k' b' := fun b' => ⟨fun g => g.1, fun g => ⟨g, fun g2 => hkk g2.2.symm⟩⟩
          have h0 : DqC w (XX X0 β' ((j, ob e') :: (t, .dq e s rows i ((row0.map (SV.upq (SV.kill j))).set k (.own j))) :: er t (st.kill j).hp)) β' (c0.upq (SV.kill j)) (us i k') (fs i k') :=
            (h10 k' c0 hc0).upq fun hR => R.kill hβv (hR.mono (X' := XX X0 β' ((j, ob e') :: (t, .dq e s rows i ((row0.map (SV.upq (SV.kill j))).set k (.own j))) :: er t (st.kill j).hp)) hS (fun b' _ hb => XX_ghost hft1 hb))
          rcases h0 with ⟨g1, g2⟩ | ⟨g1, g2, g3⟩
          · exact .inl ⟨g1, g2.ext hex⟩
          · exact .inr ⟨g1, g2, fun b' g => g3 b' ((hex b').1 g)⟩
      · rw [hβo t n1 n2]
        exact ((h.objs t o0 q).mono hS (fun b' _ hb => XX_ghost hft1 hb) (fun _ _ => rfl)).kill hβv
    · obtain ⟨t1, o1, q1, q2, q3, q4⟩ := hft p op b' hp hbp
      obtain ⟨t2, o2, r1, r2, r3, r4⟩ := hft q oq b' hq hbq
      have := h.inj t1 t2 o1 o2 b' q1 r1 q2 r2
      subst this
      by_cases p1 : p = j <;> by_cases p2 : q = j
      · rw [p1, p2]
      · exfalso
        have := r4 p2
        have := q3 (.inl p1)
        have hqi : q = id := by omega
        rw [p1, hβj] at hbp
        rw [hqi, hβid] at hbq
        have hbp : fs i k b' := hbp
        rcases hbq with g | ⟨i', k', g, g2⟩
        · exact h12 i k (g ▸ hbp)
        · exact g2 (h13 i' k' i k b' g hbp)
      · exfalso
        have := q4 p1
        have := r3 (.inl p2)
        have hpi : p = id := by omega
        rw [p2, hβj] at hbq
        rw [hpi, hβid] at hbp
        have hbq : fs i k b' := hbq
        rcases hbp with g | ⟨i', k', g, g2⟩
        · exact h12 i k (g ▸ hbq)
        · exact g2 (h13 i' k' i k b' g hbq)
      · have := q4 p1
        have := r4 p2
        omega

/-- cell k's object, a list of the row again -/
theorem Sim.absb (h : Sim N X0 M w0 st β a w) {id k j e s i s' : Nat} {rows rows' : List (List SV)} {row0 : List SV} {oj : Ob} (hl : lk id st.hp = some (.dq e s rows i row0)) (hk : row0[k]? = some (.own j)) (hne : j ≠ id)
    (hoj : lk j st.hp = some oj) (hob : ObR w (XX X0 β st.hp) β (β j) oj → Dp w (.sl s' rows') (β j).val (β j).ft) :
    ∃ β', Sim N X0 M w0 { fr := (st.kill j).fr, hp := (id, .dq e s rows i ((row0.map (SV.upq (SV.kill j))).set k (.sl s' rows'))) :: er id (st.kill j).hp } β' a w := by
  have hO := h.objs id _ hl
  have hD := hob (h.objs j oj hoj)
  have hdisj : ∀ b', (β j).ft b' → ¬ (β id).ft b' := fun b' g1 g2 => hne (h.inj j id oj _ b' hoj hl g1 g2)
  generalize hbv : β id = bv at hO hdisj
  cases hO with
  | dq b cap cur us fs hv hh h1 h2 h3 h4 h5 h6 h7 h8 h9 h10 h11 h12 h13 hF =>
    have hks : k < s := by rw [← h5]; exact (List.getElem?_eq_some_iff.1 hk).1
    have hR0 : us i k = (β j).val ∧ ∀ b', ¬ fs i k b' := by
      rcases h10 k _ hk with ⟨q, _⟩ | ⟨_, hR, g⟩
      · cases q
      · exact ⟨hR.own_inv, g⟩
    let fs' : Nat → Nat → Nat → Prop := fun i' k' b' => if i' = i ∧ k' = k then (β j).ft b' else fs i' k' b'
    have hfs1 : ∀ b', fs' i k b' ↔ (β j).ft b' := fun b' => by show (if i = i ∧ k = k then _ else _) ↔ _; rw [if_pos ⟨rfl, rfl⟩]
    have hfs2 : ∀ i' k' b', ¬ (i' = i ∧ k' = k) → (fs' i' k' b' ↔ fs i' k' b') := fun i' k' b' hn => by show (if i' = i ∧ k' = k then _ else _) ↔ _; rw [if_neg hn]
    let vid : BV := ⟨bv.val, fun b' => b' = b ∨ ∃ i' k', fs' i' k' b'⟩
    let β' : Nat → BV := fun q => if q = id then vid else β q
    have hβid : β' id = vid := if_pos rfl
    have hβo : ∀ q, q ≠ id → β' q = β q := fun q h2 => if_neg h2
    have hβv : ∀ q, (β' q).val = (β q).val := fun q => by
      by_cases hid : q = id
      · rw [hid, hβid, hbv]
      · rw [hβo q hid]
    have hlk : ∀ (t : Nat) (o : Ob), lk t ((id, .dq e s rows i ((row0.map (SV.upq (SV.kill j))).set k (.sl s' rows'))) :: er id (st.kill j).hp) = some o →
        (t = id ∧ o = .dq e s rows i ((row0.map (SV.upq (SV.kill j))).set k (.sl s' rows'))) ∨ (t ≠ j ∧ t ≠ id ∧ ∃ o0, lk t st.hp = some o0 ∧ o = o0.kill j) := fun t o ht => by
      simp only [lk] at ht
      by_cases e2 : t = id
      · rw [if_pos e2] at ht; cases ht; exact .inl ⟨e2, rfl⟩
      · rw [if_neg e2, lk_er_ne e2] at ht
        by_cases e1 : t = j
        · subst e1; rw [lk_kill] at ht; cases ht
        · rw [lk_kill_ne e1] at ht
          cases hq : lk t st.hp with
          | none => rw [hq] at ht; cases ht
          | some o0 => rw [hq] at ht; exact .inr ⟨e1, e2, o0, rfl, by simpa using ht.symm⟩
    have hvid : ∀ b', vid.ft b' → bv.ft b' ∨ (β j).ft b' := fun b' hb => by
      rcases hb with g | ⟨i', k', g⟩
      · exact .inl ((hF b').2 (.inl g))
      · by_cases hik : i' = i ∧ k' = k
        · obtain ⟨rfl, rfl⟩ := hik; exact .inr ((hfs1 b').1 g)
        · exact .inl ((hF b').2 (.inr ⟨i', k', (hfs2 i' k' b' hik).1 g⟩))
    have hft : ∀ t o b', lk t ((id, .dq e s rows i ((row0.map (SV.upq (SV.kill j))).set k (.sl s' rows'))) :: er id (st.kill j).hp) = some o → (β' t).ft b' → ∃ t0 o0, lk t0 st.hp = some o0 ∧ (β t0).ft b' ∧ (t ≠ id → t0 = t) ∧ (t = id → t0 = id ∨ t0 = j) := fun t o b' ht hb => by
      rcases hlk t o ht with ⟨rfl, _⟩ | ⟨n1, n2, o0, q, _⟩
      · rw [hβid] at hb
        rcases hvid b' hb with g | g
        · exact ⟨t, _, hl, by rw [hbv]; exact g, fun q => absurd rfl q, fun _ => .inl rfl⟩
        · exact ⟨j, _, hoj, g, fun q => absurd rfl q, fun _ => .inr rfl⟩
      · rw [hβo t n2] at hb; exact ⟨t, o0, q, hb, fun _ => rfl, fun q => absurd q n2⟩
    have hft1 : ∀ t o b', lk t ((id, .dq e s rows i ((row0.map (SV.upq (SV.kill j))).set k (.sl s' rows'))) :: er id (st.kill j).hp) = some o → (β' t).ft b' → ∃ t0 o0, lk t0 st.hp = some o0 ∧ (β t0).ft b' := fun t o b' ht hb => by
      obtain ⟨t0, o0, q1, q2, _⟩ := hft t o b' ht hb
      exact ⟨t0, o0, q1, q2⟩
    have hS : Same (XX X0 β st.hp) w w := ⟨Nat.le_refl _, fun _ _ _ => rfl⟩
    refine ⟨β', h.ghost (fun q => by rw [hβv]; exact h.beta q) (fun q _ => hβv q) hft1 (fun t x' hx => ?_) (fun t o ht => ?_) (fun p q op oq b' hp hq hbp hbq => ?_)⟩
    · simp only [St.kill, lk_map] at hx
      cases hy : lk t st.fr with
      | none => rw [hy] at hx; cases hx
      | some y =>
        rw [hy] at hx
        have hx' : y.kill j = x' := by simpa using hx
        subst hx'
        exact ⟨y, rfl, fun v hR => hR.kill fun q _ => hβv q⟩
    · rcases hlk t o ht with ⟨rfl, rfl⟩ | ⟨n1, n2, o0, q, rfl⟩
      · rw [hβid]
        refine .dq b cap cur us fs' hv hh h1 h2 h3 h4 (by simp [h5]) h6 h7 h8 (fun i' k' row c q0 r1 r2 => (h9 i' k' row c q0 r1 r2).ext fun b' => hfs2 i' k' b' (fun g => q0 g.1)) (fun k' c hc => ?_) (fun i' k' b' g => ?_) (fun i' k' g => ?_) (fun i1 k1 i2 k2 b' g1 g2 => ?_) (fun b' => Iff.rfl)
        · rw [List.getElem?_set] at hc
          split at hc
          · rename_i hkk
            subst hkk
            simp only [List.length_map, h5, hks, if_true, Option.some.injEq] at hc
            subst hc
            refine .inl ⟨rfl, ?_⟩
            rw [hR0.1]
            exact hD.ext hfs1
          · rename_i hkk
            obtain ⟨c0, hc0, rfl⟩ := map_get hc
            have hex : ∀ b', fs' i k' b' ↔ fs i k' b' := fun b' => hfs2 i k' b' (fun g2 => hkk g2.2.symm)
            have h0 := (h10 k' c0 hc0).upq (f := SV.kill j) (X' := XX X0 β' ((t, .dq e s rows i ((row0.map (SV.upq (SV.kill j))).set k (.sl s' rows'))) :: er t (st.kill j).hp)) (β' := β') fun hR => R.kill (fun q _ => hβv q) (hR.mono (X' := XX X0 β' ((t, .dq e s rows i ((row0.map (SV.upq (SV.kill j))).set k (.sl s' rows'))) :: er t (st.kill j).hp)) hS (fun b' _ hb => XX_ghost hft1 hb))
            rcases h0 with ⟨g1, g2⟩ | ⟨g1, g2, g3⟩
            · exact .inl ⟨g1, g2.ext hex⟩
            · exact .inr ⟨g1, g2, fun b' g => g3 b' ((hex b').1 g)⟩
        · by_cases hik : i' = i ∧ k' = k
          · obtain ⟨rfl, rfl⟩ := hik; exact ⟨h4, hks⟩
          · exact h11 i' k' b' ((hfs2 i' k' b' hik).1 g)
        · by_cases hik : i' = i ∧ k' = k
          · obtain ⟨rfl, rfl⟩ := hik
            exact hdisj b ((hfs1 b).1 g) ((hF b).2 (.inl rfl))
          · exact h12 i' k' ((hfs2 i' k' b hik).1 g)
        · by_cases hik1 : i1 = i ∧ k1 = k <;> by_cases hik2 : i2 = i ∧ k2 = k
          · exact ⟨hik1.1.trans hik2.1.symm, hik1.2.trans hik2.2.symm⟩
          · obtain ⟨rfl, rfl⟩ := hik1
            exact absurd ((hF b').2 (.inr ⟨i2, k2, (hfs2 i2 k2 b' hik2).1 g2⟩)) (hdisj b' ((hfs1 b').1 g1))
          · obtain ⟨rfl, rfl⟩ := hik2
            exact absurd ((hF b').2 (.inr ⟨i1, k1, (hfs2 i1 k1 b' hik1).1 g1⟩)) (hdisj b' ((hfs1 b').1 g2))
          · exact h13 i1 k1 i2 k2 b' ((hfs2 i1 k1 b' hik1).1 g1) ((hfs2 i2 k2 b' hik2).1 g2)
      · rw [hβo t n2]
        exact ((h.objs t o0 q).mono hS (fun b' _ hb => XX_ghost hft1 hb) (fun _ _ => rfl)).kill fun q _ => hβv q
    · obtain ⟨t1, o1, q1, q2, q3, q4⟩ := hft p op b' hp hbp
      obtain ⟨t2, o2, r1, r2, r3, r4⟩ := hft q oq b' hq hbq
      have := h.inj t1 t2 o1 o2 b' q1 r1 q2 r2
      subst this
      have nj : ∀ {t o}, lk t ((id, .dq e s rows i ((row0.map (SV.upq (SV.kill j))).set k (.sl s' rows'))) :: er id (st.kill j).hp) = some o → t ≠ j := fun {t o} ht => by
        rcases hlk t o ht with ⟨rfl, _⟩ | ⟨n1, _⟩
        · exact fun e => hne e.symm
        · exact n1
      have n1 := nj hp
      have n2 := nj hq
      by_cases p1 : p = id <;> by_cases p2 : q = id
      · rw [p1, p2]
      · have := r3 p2
        rcases q4 p1 with g | g <;> omega
      · have := q3 p1
        rcases r4 p2 with g | g <;> omega
      · have := q3 p1
        have := r3 p2
        omega

theorem Sim.gh (h : Sim N X0 M w0 st β a w) {K : St → Prop} {g : Gh} (hK : st.gh K g) : ∃ st' β', K st' ∧ Sim N X0 M w0 st' β' a w := by
  cases g with
  | dp id =>
    simp only [St.gh] at hK
    split at hK
    · rename_i e s rows hl; exact ⟨_, β, hK.2, h.reob hl fun hO => hO.sl_dp hK.1⟩
    · exact ⟨st, β, hK, h⟩
    · exact hK.elim
  | opn id i =>
    simp only [St.gh] at hK
    split at hK
    · rename_i e s rows hl; exact ⟨_, β, hK.2, h.reob hl fun hO => hO.dp_dq hK.1⟩
    · exact hK.elim
  | bor id k j =>
    simp only [St.gh] at hK
    split at hK
    · rename_i e s rows i row0 hl
      split at hK
      · rename_i s' rows' hk
        obtain ⟨e', β', h'⟩ := h.bor hl hk hK.1 hK.2.1 (ob := fun e' => .dp e' s' rows') (fun X β v F hD => hD.dp_ob) (fun e' X β β' v hO => by cases hO with | dp hd he => exact .dp hd he)
        exact ⟨_, β', hK.2.2 e', h'⟩
      · exact hK.elim
    · exact hK.elim
  | borV id k j =>
    simp only [St.gh] at hK
    split at hK
    · rename_i e s rows i row0 hl
      split at hK
      · rename_i s' rows' hk
        obtain ⟨e', β', h'⟩ := h.bor hl hk hK.1 hK.2.1 (ob := fun e' => .sl e' s' rows') (fun X β v F hD => hD.dp_sl hK.2.2.1) (fun e' X β β' v hO => hO.sl_beta)
        exact ⟨_, β', hK.2.2.2 e', h'⟩
      · exact hK.elim
    · exact hK.elim
  | abs id k =>
    simp only [St.gh] at hK
    split at hK
    · rename_i e s rows i row0 hl
      split at hK
      · rename_i j hk
        obtain ⟨hne, hK⟩ := hK
        split at hK
        · rename_i e' s' rows' hj
          obtain ⟨β', h'⟩ := h.absb hl hk hne hj (s' := s') (rows' := rows') (fun hO => by
            have := hO.sl_dp hK.1
            cases this with
            | dp hd he => exact hd)
          exact ⟨_, β', hK.2, h'⟩
        · rename_i e' s' rows' hj
          obtain ⟨β', h'⟩ := h.absb hl hk hne hj (s' := s') (rows' := rows') (fun hO => by
            cases hO with
            | dp hd he => exact hd)
          exact ⟨_, β', hK, h'⟩
        · exact hK.elim
      · exact hK.elim
    · exact hK.elim
  | fld id =>
    simp only [St.gh] at hK
    split at hK
    · rename_i e s rows i row0 hl; exact ⟨_, β, hK.2, h.reob hl fun hO => hO.dq_dp hK.1⟩
    · exact hK.elim
theorem Sim.gho {a : Act} {w : World} {K : St → Prop} : ∀ {l : List Gh} {st : St} {β : Nat → BV}, Sim N X0 M w0 st β a w → st.gho K l → ∃ st' β', K st' ∧ Sim N X0 M w0 st' β' a w
  | [], st, β, h, hK => ⟨st, β, hK, h⟩
  | g :: l, st, β, h, hK => by
    obtain ⟨st1, β1, h1, h2⟩ := h.gh (g := g) hK
    exact Sim.gho h2 h1
end
section
variable {c : Cx} {N : Nat} {X0 : Nat → Prop} {M : Nat → BV → Prop} {w0 : World} {st : St} {K : Exit → St → Prop}
theorem WP.gho (l : List Gh) {code : Code} (h : st.gho (fun st' => WP c N X0 M w0 code st' K) l) : WP c N X0 M w0 code st K := fun hA β a w hs => by
  obtain ⟨st', β', h1, h2⟩ := hs.gho h
  exact h1 hA β' a w h2
/-- the same behind a piece of code -/
def ghoK (l : List Gh) (K : Exit → St → Prop) : Exit → St → Prop
  | .normal, st => st.gho (K .normal) l
  | e, st => K e st
theorem WP.post (l : List Gh) {code : Code} (h : WP c N X0 M w0 code st (ghoK l K)) : WP c N X0 M w0 code st K := fun hA β a w hs =>
  Code.wp_mono (fun e a' w' hq => by
    cases e with
    | normal =>
      obtain ⟨st', β', h1, h2⟩ := hq
      obtain ⟨st2, β2, h3, h4⟩ := h2.gho h1
      exact ⟨st2, β2, h3, h4⟩
    | _ => exact hq) (h hA β a w hs)
end

/-! ## a result that owns what is in it, as one that is read -/
theorem Holds.frozenD {P : Program} {f : FuncId} {args : List SV} {d e s : Nat} {rows : List (List SV)} (h : Holds P f args (.own d) [(d, .dp e s rows)]) : Holds P f args (.sl s rows) [] := by
  intro w X vs hG hX hl ha
  refine (h w X vs hG hX hl ha).mono fun en w' ⟨v, β, he, hb, hβ, hR, hO, hn⟩ => ?_
  refine ⟨v, β, he, hb, hβ, ?_, ⟨fun id ob hi => (by cases hi), fun i j oi oj b hi => (by cases hi)⟩, fun id ob b hi => (by cases hi)⟩
  have := hR.own_inv; subst this
  refine .p ((hO.1 d (.dp e s rows) (by simp [lk])).rd rfl (fun b hb' hx => ?_) (fun b hx => ?_))
  · have h1 := hn d (.dp e s rows) b (by simp [lk]) hb'
    rcases hx with hx | ⟨i, o, hi, _⟩
    · have := hX b hx; omega
    · cases hi
  · rcases hx with hx | ⟨i, o, hi, _⟩
    · exact .inl hx
    · cases hi
end Go.Vc

/-
  DERIVED. What a call hands back as its own, taken as what may only be read: whatever its shape.
-/
namespace Go.Vc
set_option linter.unusedVariables false
def fz1m (robs : List (Nat × Ob)) : SV → SV
  | .own id => match lk id robs with
    | some (.sl _ s rows) => .sl s rows
    | _ => .junk
  | .v x => .v x
  | .sl s rows => .sl s rows
  | _ => .junk
theorem Holds.frz {P : Program} {f : FuncId} {args : List SV} {res : SV} {robs : List (Nat × Ob)} (h : Holds P f args res robs) (hv : ∀ id e s rows, lk id robs = some (.sl e s rows) → allV rows) : Holds P f args (res.up (fz1m robs)) [] := by
  intro w X vs hG hX hl ha
  refine (h w X vs hG hX hl ha).mono fun en w' ⟨v, β, he, hb, hβ, hR, hO, hn⟩ => ?_
  refine ⟨v, β, he, hb, hβ, ?_, ⟨fun id ob hi => (by cases hi), fun i j oi oj b hi => (by cases hi)⟩, fun id ob b hi => (by cases hi)⟩
  have hS : Same (XX X β robs) w' w' := ⟨Nat.le_refl _, fun _ _ _ => rfl⟩
  refine hR.up fun x u hx => ?_
  cases x with
  | own id =>
    have := hx.own_inv; subst this
    simp only [fz1m]
    split
    · rename_i e s rows hlk
      refine .p ((hO.1 id _ hlk).toSl (fun b hb' hx => ?_) (hv id e s rows hlk))
      have h1 := hn id _ b hlk hb'
      rcases hx with hx | ⟨i, o, hi, _⟩
      · have := hX b hx; omega
      · cases hi
    · exact .junk _
  | v y => have := hx.v_inv; subst this; exact .p (.v _)
  | sl s rows => exact .p (hx.sl_inv.mono hS (fun b _ hx => by
      rcases hx with hx | ⟨i, o, hi, _⟩
      · exact .inl hx
      · cases hi))
  | _ => exact .junk _
theorem Cn.frz {P : Program} {f : FuncId} {X : Type} {dec : List SV → X} {A : X → List SV} {pre : X → Prop} {res : Nat → X → SV} {robs : Nat → X → List (Nat × Ob)} {res' : X → SV}
    (h : Cn P f (Go.Vc.pur dec A pre res robs)) (hv : ∀ d x id e s rows, lk id (robs d x) = some (.sl e s rows) → allV rows) (he : ∀ d x, (res d x).up (fz1m (robs d x)) = res' x) : Cn P f (Go.Vc.pur dec A pre (fun _ x => res' x) (fun _ _ => [])) :=
  ⟨h.call, fun d args ha => (by have := (h.holds d args ha).frz (hv d _); rw [show ((Go.Vc.pur dec A pre res robs).pure d args).2.1 = res d (dec args) from rfl, show ((Go.Vc.pur dec A pre res robs).pure d args).2.2 = robs d (dec args) from rfl, he] at this; exact this), fun _ _ _ h => h.elim⟩
end Go.Vc

namespace Go.Proofs.Ytoomncljmgcidaa
open Go.Vc
attribute [local go_sem] St.runR St.runW St.stepV offV St.step St.stepU St.stepG mkCond guardB St.prK St.pr St.prLen St.eff St.callE St.callD St.callF St.callL aI aB aS aR aC St.isM St.argL Ctr.pure Ctr.lend Ctr.move Ctr.isL Ctr.wri pur len lentBy St.lentV St.lent1 nthS argsR restOf obsR pairs swapL unObs backL St.resL erL SV.ren1 SV.up SV.up2 Ob.up St.fzL cellIds partIds St.intoRow SV.ownId St.fz SV.fz1 St.prep St.mvL St.mv SV.re1 rnOk St.prEq vals eqCells scEq Value.kd St.prStr St.prCut cutR St.bnd St.prMin St.bld isShift outL retL outJ oR oC oE oD SV.upq SV.isSl SV.shut St.deepK St.dpArg St.deepQ absC Ob.pl St.ev St.get St.put St.new St.kill SV.kill SV.kill1 Ob.kill St.app St.wrt St.rowsOf St.res St.killL lk er argsL SV.strip SV.need SV.share SV.share1 SV.owns SV.owns1 SV.owns2 SV.good SV.good1 SV.rok SV.rok1 SV.rok2 SV.isV SV.isV2 nodupN SV.cells SV.one SV.pur Ob.pb partsIn rowsIn splice cellsAt dstOk scal2 scal1 thenK blockK retK outK outs okC okL okA okT nilC nilL nilA nilT keepC keepL keepA keepT St.runG St.dltK St.least St.clean St.final St.hide offK badS badO SV.refs SV.leaf SV.leaf2 Ob.refs dlOk fpAt Go.Vc.cover tups SV.ofAgg St.out outC subL St.has rng wr Value.oneCell' Option.isSome_some Option.isSome_none List.nil_append Bool.false_eq_true List.map_cons List.map_nil List.all_cons List.all_nil List.length_cons List.length_nil List.drop_zero List.drop_succ_cons List.take_succ_cons List.take_zero List.drop_nil List.take_nil List.getElem?_cons_zero List.getElem?_cons_succ List.getElem?_nil List.cons_append List.nil_append List.append_nil List.append_assoc List.flatMap_cons List.flatMap_nil List.contains_cons List.contains_nil List.set_cons_zero List.set_cons_succ List.getElem?_toArray Option.getD_some Option.getD_none Option.map_some Option.map_none Option.bind_some Option.some.injEq Prod.mk.injEq if_true if_false true_and and_true and_self and_false false_and Bool.and_false Bool.false_and Bool.or_true Bool.true_or Bool.or_false Bool.false_or ne_eq not_true_eq_false not_false_eq_true decide_true decide_false List.mem_cons List.not_mem_nil List.filter_cons List.filter_nil List.any_cons List.any_nil List.isEmpty_nil List.isEmpty_cons Option.getD_none or_false false_or true_or or_true forall_eq_or_imp forall_eq reduceCtorEq exists_eq exists_eq' exists_eq_left' exists_eq_left exists_eq_right exists_eq_right' imp_self implies_true Bool.and_true Bool.true_and Bool.and_self beq_self_eq_true List.replicate_succ List.replicate_zero forall_const false_implies pickB_or pickB_and beqT beqF Int.toNat_natCast List.length_map List.length_replicate ge_iff_le gt_iff_lt decide_eq_true_eq decide_eq_false_iff_not Bool.and_eq_true Bool.or_eq_true Bool.not_eq_true' Bool.not_eq_false' condG List.toList_toArray Bool.or_eq_false_iff Bool.and_eq_false_iff Int.not_lt Int.not_le beq_iff_eq beq_eq_false_iff_ne bne_iff_ne bne_eq_false_iff_eq ne_eq Bool.not_true Bool.not_false exists_and_left
section
open Go.Vc
set_option linter.unusedSimpArgs false
set_option linter.unusedVariables false
set_option maxHeartbeats 1000000
set_option maxRecDepth 10000
attribute [local irreducible] Go.Vc.WP
attribute [local go_sem] cx0_t cx0_c
structure Line where
  kind : Int
  name : ByteArray
  args : List ByteArray
  expr : List Tok
deriving DecidableEq
def encLine (x : Line) : List SV := [.v (.int .i64 x.kind), .v (.string x.name), .sl 1 (x.args.map encS), .sl 3 (x.expr.map encTok)]
def oneLine : List SV → Line
  | [.v (.int _ k), .v (.string n), .sl _ a, .sl _ t] => ⟨k, n, decS a, decTok t⟩
  | _ => ⟨0, ⟨#[]⟩, [], []⟩
def decLine (rows : List (List SV)) : List Line := rows.map oneLine
theorem oneLine_enc (x : Line) : oneLine (encLine x) = x := by
  show (⟨x.kind, x.name, decS (x.args.map encS), decTok (x.expr.map encTok)⟩ : Line) = x
  rw [decS_enc, decTok_enc]
theorem oneLine_f (k : Int) (n : ByteArray) (a : List ByteArray) (t : List Tok) : oneLine [.v (.int .i64 k), .v (.string n), .sl 1 (a.map encS), .sl 3 (t.map encTok)] = ⟨k, n, a, t⟩ := oneLine_enc ⟨k, n, a, t⟩
theorem decLine_enc (L : List Line) : decLine (L.map encLine) = L := by
  unfold decLine
  rw [List.map_map]
  exact List.map_id'' oneLine_enc L
theorem line_eta (x : Line) : (⟨x.kind, x.name, x.args, x.expr⟩ : Line) = x := rfl
attribute [local go_sem] decS_enc decTok_enc decLine_enc oneLine_f line_eta
def shLine (x : Line) : Prop := x.args.length ≤ 1048576 ∧ x.expr.length ≤ 1048576
def bigLine (x : Line) : Prop := x.name.size ≤ maxLen ∧ x.args.length ≤ maxLen ∧ (∀ s ∈ x.args, s.size ≤ maxLen) ∧ x.expr.length ≤ maxLen ∧ ∀ r ∈ x.expr, r.name.size ≤ maxLen

theorem szvTok_f (Y : List Tok) : Szf (szvTok Y) := fun l h => by
  unfold szvTok
  split
  · omega
  · have := szGo_f (sizesTok Y) (l - Y.length) (by omega); omega
def szvLine (x : Line) : Int → Int := szT (szA x.name.size) (szT (szvStr x.args) (szvTok x.expr))
theorem szvLine_f (x : Line) : Szf (szvLine x) := szT_f (szA_f _) (szT_f (szvStr_f _) (szvTok_f _))
def kszLine : Ctr := pur (fun args => (oneLine (aC args 0), aI args 1)) (fun x => [.agg [.v (.int .i64 x.1.kind), .v (.string x.1.name), .sl 1 (x.1.args.map encS), .sl 3 (x.1.expr.map encTok)], .v (.int .i64 x.2)]) (fun x => bigLine x.1 ∧ 0 ≤ x.2 ∧ x.2 ≤ 1048576)
  (fun _ x => .v (.int .i64 (szvLine x.1 x.2))) (fun _ _ => [])
section
noncomputable def cxZln : Cx := { P := Try.prog, tys := tys, C := [], hty := tysOk, hC := COk.nil _ }
theorem cxZln_t : cxZln.tys = tys := rfl
theorem cxZln_c : cxZln.C = [] := rfl
attribute [local go_sem] cxZln_t cxZln_c 
end
def szvLineS (L : List Line) : Int → Int := szList (L.map szvLine)
def kszLineS : Ctr := pur (fun args => (decLine (aR args 0), aI args 1)) (fun x => [.sl 4 (x.1.map encLine), .v (.int .i64 x.2)]) (fun x => x.1.length ≤ maxLen ∧ (∀ s ∈ x.1, bigLine s) ∧ 0 ≤ x.2 ∧ x.2 ≤ 1048576)
  (fun _ x => .v (.int .i64 (szvLineS x.1 x.2))) (fun _ _ => [])
section
attribute [local irreducible] bigLine
noncomputable def cxZls : Cx := { P := Try.prog, tys := tys, C := [], hty := tysOk, hC := COk.nil _ }
theorem cxZls_t : cxZls.tys = tys := rfl
theorem cxZls_c : cxZls.C = [] := rfl
attribute [local go_sem] cxZls_t cxZls_c 
end

def zerLine : List SV := [.v (.int .i64 0), .v (.string ⟨#[]⟩), .v (.slice none 0 0), .v (.slice none 0 0)]
section
noncomputable def cxTln : Cx := { P := Try.prog, tys := tys, C := [], hty := tysOk, hC := COk.nil _ }
theorem cxTln_t : cxTln.tys = tys := rfl
theorem cxTln_c : cxTln.C = [] := rfl
attribute [local go_sem] cxTln_t cxTln_c 
end
end
end Go.Proofs.Ytoomncljmgcidaa
/-
  DERIVED. Marks of lists whose elements take several numbers each.
-/
namespace Go.Proofs.Ytoomncljmgcidaa
open Go.Vc
section
variable {α : Type} (cnt : α → Nat) (mrk : Int → α → α)
def cntA (L : List α) : Nat := (L.map cnt).sum
def mkA : Int → List α → List α
  | _, [] => []
  | k, x :: L => mrk k x :: mkA (k + (cnt x : Int)) L
def hfA (k : Int) (L : List α) (i : Nat) : List α := mkA cnt mrk k (L.take i) ++ L.drop i
variable {cnt mrk}
theorem mkA_len : ∀ (L : List α) (k : Int), (mkA cnt mrk k L).length = L.length
  | [], _ => rfl
  | x :: L, k => by simp [mkA, mkA_len L]
theorem mkA_app : ∀ (L M : List α) (k : Int), mkA cnt mrk k (L ++ M) = mkA cnt mrk k L ++ mkA cnt mrk (k + (cntA cnt L : Int)) M
  | [], M, k => by simp [mkA, cntA]
  | x :: L, M, k => by
    rw [List.cons_append, mkA, mkA, mkA_app L M, List.cons_append]
    congr 2
    simp only [cntA, List.map_cons, List.sum_cons]
    congr 1
    omega
theorem cntA_take (L : List α) (i : Nat) (h : i < L.length) : cntA cnt (L.take (i + 1)) = cntA cnt (L.take i) + cnt L[i] := by
  unfold cntA
  rw [List.take_succ_eq_append_getElem h, List.map_append, List.sum_append]
  simp
theorem cntA_le (L : List α) (m : Nat) (h : ∀ x ∈ L, cnt x ≤ m) : cntA cnt L ≤ L.length * m := by
  induction L with
  | nil => simp [cntA]
  | cons x L ih =>
    have h1 := h x List.mem_cons_self
    have h2 := ih fun y hy => h y (List.mem_cons_of_mem _ hy)
    simp only [cntA, List.map_cons, List.sum_cons, List.length_cons, Nat.add_mul] at h2 ⊢
    omega
theorem cntA_take_le (L : List α) (i : Nat) : cntA cnt (L.take i) ≤ cntA cnt L := by
  have := List.take_append_drop i L
  have h2 : cntA cnt L = cntA cnt (L.take i) + cntA cnt (L.drop i) := by
    unfold cntA
    rw [← List.sum_append, ← List.map_append, this]
  omega
theorem hfA_zero (L : List α) (k : Int) : hfA cnt mrk k L 0 = L := by simp [hfA, mkA]
theorem hfA_len (L : List α) (k : Int) (i : Nat) (h : i ≤ L.length) : (hfA cnt mrk k L i).length = L.length := by simp [hfA, mkA_len]; omega
theorem hfA_get (L : List α) (k : Int) (i : Nat) (h : i < L.length) : (hfA cnt mrk k L i)[i]? = some L[i] := by
  unfold hfA
  rw [List.getElem?_append_right (by simp [mkA_len]; omega)]
  simp [mkA_len, Nat.min_eq_left (Nat.le_of_lt h)]
theorem hfA_row {en : α → List SV} (L : List α) (k : Int) (i : Nat) (h : i < L.length) : Go.Vc.rowAt ((hfA cnt mrk k L i).map en) i = en L[i] := by
  unfold Go.Vc.rowAt
  rw [List.getElem?_map, hfA_get L k i h]; rfl
theorem hfA_set {en : α → List SV} (L : List α) (k : Int) (i : Nat) (h : i < L.length) : ((hfA cnt mrk k L i).map en).set i (en (mrk (k + (cntA cnt (L.take i) : Int)) L[i])) = (hfA cnt mrk k L (i + 1)).map en := by
  rw [← List.map_set]
  congr 1
  unfold hfA
  have hl : (mkA cnt mrk k (L.take i)).length = i := by rw [mkA_len, List.length_take]; omega
  rw [List.set_append, if_neg (by omega), hl, Nat.sub_self, List.drop_eq_getElem_cons h, List.set_cons_zero, List.take_succ_eq_append_getElem h, mkA_app, List.append_assoc]
  rfl
theorem hfA_all (L : List α) (k : Int) : hfA cnt mrk k L L.length = mkA cnt mrk k L := by simp [hfA]
theorem mkA_get : ∀ (L : List α) (k : Int) (i : Nat) (h : i < L.length), (mkA cnt mrk k L)[i]'(by rw [mkA_len]; exact h) = mrk (k + (cntA cnt (L.take i) : Int)) L[i]
  | x :: L, k, 0, _ => by simp [mkA, cntA]
  | x :: L, k, i + 1, h => by
    simp only [mkA, List.getElem_cons_succ, List.take_succ_cons]
    rw [mkA_get L _ i (by simpa using h)]
    congr 1
    simp only [cntA, List.map_cons, List.sum_cons]
    omega
end
end Go.Proofs.Ytoomncljmgcidaa

namespace Go.Proofs.Ytoomncljmgcidaa
open Go.Vc
attribute [local go_sem] St.runR St.runW St.stepV offV St.step St.stepU St.stepG mkCond guardB St.prK St.pr St.prLen St.eff St.callE St.callD St.callF St.callL aI aB aS aR aC St.isM St.argL Ctr.pure Ctr.lend Ctr.move Ctr.isL Ctr.wri pur len lentBy St.lentV St.lent1 nthS argsR restOf obsR pairs swapL unObs backL St.resL erL SV.ren1 SV.up SV.up2 Ob.up St.fzL cellIds partIds St.intoRow SV.ownId St.fz SV.fz1 St.prep St.mvL St.mv SV.re1 rnOk St.prEq vals eqCells scEq Value.kd St.prStr St.prCut cutR St.bnd St.prMin St.bld isShift outL retL outJ oR oC oE oD SV.upq SV.isSl SV.shut St.deepK St.dpArg St.deepQ absC Ob.pl St.ev St.get St.put St.new St.kill SV.kill SV.kill1 Ob.kill St.app St.wrt St.rowsOf St.res St.killL lk er argsL SV.strip SV.need SV.share SV.share1 SV.owns SV.owns1 SV.owns2 SV.good SV.good1 SV.rok SV.rok1 SV.rok2 SV.isV SV.isV2 nodupN SV.cells SV.one SV.pur Ob.pb partsIn rowsIn splice cellsAt dstOk scal2 scal1 thenK blockK retK outK outs okC okL okA okT nilC nilL nilA nilT keepC keepL keepA keepT St.runG St.dltK St.least St.clean St.final St.hide offK badS badO SV.refs SV.leaf SV.leaf2 Ob.refs dlOk fpAt Go.Vc.cover tups SV.ofAgg St.out outC subL St.has rng wr Value.oneCell' Option.isSome_some Option.isSome_none List.nil_append Bool.false_eq_true List.map_cons List.map_nil List.all_cons List.all_nil List.length_cons List.length_nil List.drop_zero List.drop_succ_cons List.take_succ_cons List.take_zero List.drop_nil List.take_nil List.getElem?_cons_zero List.getElem?_cons_succ List.getElem?_nil List.cons_append List.nil_append List.append_nil List.append_assoc List.flatMap_cons List.flatMap_nil List.contains_cons List.contains_nil List.set_cons_zero List.set_cons_succ List.getElem?_toArray Option.getD_some Option.getD_none Option.map_some Option.map_none Option.bind_some Option.some.injEq Prod.mk.injEq if_true if_false true_and and_true and_self and_false false_and Bool.and_false Bool.false_and Bool.or_true Bool.true_or Bool.or_false Bool.false_or ne_eq not_true_eq_false not_false_eq_true decide_true decide_false List.mem_cons List.not_mem_nil List.filter_cons List.filter_nil List.any_cons List.any_nil List.isEmpty_nil List.isEmpty_cons Option.getD_none or_false false_or true_or or_true forall_eq_or_imp forall_eq reduceCtorEq exists_eq exists_eq' exists_eq_left' exists_eq_left exists_eq_right exists_eq_right' imp_self implies_true Bool.and_true Bool.true_and Bool.and_self beq_self_eq_true List.replicate_succ List.replicate_zero forall_const false_implies pickB_or pickB_and beqT beqF Int.toNat_natCast List.length_map List.length_replicate ge_iff_le gt_iff_lt decide_eq_true_eq decide_eq_false_iff_not Bool.and_eq_true Bool.or_eq_true Bool.not_eq_true' Bool.not_eq_false' condG List.toList_toArray Bool.or_eq_false_iff Bool.and_eq_false_iff Int.not_lt Int.not_le beq_iff_eq beq_eq_false_iff_ne bne_iff_ne bne_eq_false_iff_eq ne_eq Bool.not_true Bool.not_false exists_and_left
section
open Go.Vc
set_option linter.unusedSimpArgs false
set_option linter.unusedVariables false
set_option maxHeartbeats 1000000
set_option maxRecDepth 10000
attribute [local irreducible] Go.Vc.WP
attribute [local go_sem] cx0_t cx0_c
attribute [local go_sem] decS_enc decTok_enc decLine_enc oneLine_f line_eta ghoK St.gho St.gh SV.flat
theorem allVs_map {α : Type} {en : α → List SV} (h : ∀ x, ∀ c ∈ en x, ∃ v, c = SV.v v) (L : List α) : allVs (L.map en) ↔ True := iff_true_intro (by
  intro row hr c hc
  obtain ⟨n, _, rfl⟩ := List.mem_map.1 hr
  exact h n c hc)
theorem allVs_S (L : List ByteArray) : allVs (L.map encS) ↔ True := allVs_map (fun x c hc => by simp only [encS, List.mem_cons, List.not_mem_nil, or_false] at hc; exact ⟨_, hc⟩) L
theorem allVs_Tok (L : List Tok) : allVs (L.map encTok) ↔ True := allVs_map (fun x c hc => by simp only [encTok, List.mem_cons, List.not_mem_nil, or_false] at hc; rcases hc with rfl | rfl | rfl <;> exact ⟨_, rfl⟩) L
theorem allVs_rep {n : Nat} {z : List SV} (h : ∀ c ∈ z, ∃ v, c = SV.v v) : allVs (List.replicate n z) := fun row hr c hc => by
  rw [List.eq_of_mem_replicate hr] at hc
  exact h c hc
attribute [local go_sem] allVs_S allVs_Tok
section
noncomputable def cxTls : Cx := { P := Try.prog, tys := tys, C := [], hty := tysOk, hC := COk.nil _ }
theorem cxTls_t : cxTls.tys = tys := rfl
theorem cxTls_c : cxTls.C = [] := rfl
attribute [local go_sem] cxTls_t cxTls_c 
end

def ktoLineZ : Ctr := pur (fun args => decLine (aR args 0)) (fun L => [.sl 4 (L.map encLine)]) (fun L => L.length ≤ 1048576 ∧ ∀ x ∈ L, shLine x) (fun _ L => .sl 4 (L.map encLine)) (fun _ _ => [])
/-! ## the same? (of two that are) -/
def kqLine : Ctr := pur (fun args => oneLine (aC args 0)) (fun x => [.agg [.v (.int .i64 x.kind), .v (.string x.name), .sl 1 (x.args.map encS), .sl 3 (x.expr.map encTok)], .agg [.v (.int .i64 x.kind), .v (.string x.name), .sl 1 (x.args.map encS), .sl 3 (x.expr.map encTok)]]) shLine (fun _ _ => .v (.bool true)) (fun _ _ => [])
section
noncomputable def cxQln : Cx := { P := Try.prog, tys := tys, C := [(50, keqS)], hty := tysOk, hC := COk.cons ceqS (COk.nil _) }
theorem cxQln_t : cxQln.tys = tys := rfl
theorem cxQln_c : cxQln.C = [(50, keqS)] := rfl
attribute [local go_sem] cxQln_t cxQln_c keqS
end
def kqLineS : Ctr := pur (fun args => decLine (aR args 0)) (fun L => [.sl 4 (L.map encLine), .sl 4 (L.map encLine)]) (fun L => L.length ≤ 1048576 ∧ ∀ x ∈ L, shLine x) (fun _ _ => .v (.bool true)) (fun _ _ => [])
section
attribute [local irreducible] shLine
noncomputable def cxQls : Cx := { P := Try.prog, tys := tys, C := [], hty := tysOk, hC := COk.nil _ }
theorem cxQls_t : cxQls.tys = tys := rfl
theorem cxQls_c : cxQls.C = [] := rfl
attribute [local go_sem] cxQls_t cxQls_c 
end

/-! ## marks -/
def cntLine (x : Line) : Nat := 2 + x.args.length + 3 * x.expr.length
def mrkLine (k : Int) (x : Line) : Line := ⟨k, markT (k + 1), marksS (k + 1 + 1) x.args.length, marksTok (k + 1 + 1 + (x.args.length : Int)) x.expr.length⟩
theorem cntLine_le {x : Line} (h : shLine x) : cntLine x ≤ 8388608 := by unfold cntLine; have := h.1; have := h.2; omega
def kmarkLineS : Ctr := len [0] [] (fun args obs => (decLine (oD obs 1000000), aI args 1, oE obs 1000000)) (fun x => [.own 1000000, .v (.int .i64 x.2.1)]) (fun x => [(1000000, .dp x.2.2 4 (x.1.map encLine))]) (fun x => x.1.length ≤ 1048576 ∧ (∀ y ∈ x.1, shLine y) ∧ 0 ≤ x.2.1 ∧ x.2.1 ≤ 100000000000000)
  (fun _ x => .v (.int .i64 (x.2.1 + (cntA cntLine x.1 : Int)))) (fun _ _ => []) (fun x => [(1000000, .dp x.2.2 4 ((mkA cntLine mrkLine x.2.1 x.1).map encLine))])
section
noncomputable def cxMln : Cx := { P := Try.prog, tys := tys, C := [(70, kmarkT), (56, kmarkSE)], hty := tysOk, hC := COk.cons cmarkT (COk.cons cmarkSE (COk.nil _)) }
theorem cxMln_t : cxMln.tys = tys := rfl
theorem cxMln_c : cxMln.C = [(70, kmarkT), (56, kmarkSE)] := rfl
attribute [local go_sem] cxMln_t cxMln_c kmarkT kmarkSE
end
end
section
open Go.Vc
set_option linter.unusedSimpArgs false
set_option linter.unusedVariables false
set_option maxHeartbeats 1000000
set_option maxRecDepth 10000
attribute [local irreducible] Go.Vc.WP
attribute [local go_sem] cx0_t cx0_c
attribute [local go_sem] decI_enc decImage_enc spA decS_enc decMach_enc oneMach_f mach_eta pcA rgA seA decSymbol_enc tmA tm_eta ghoK St.gho St.gh SV.flat
theorem allVs_I (L : List Int) : allVs (L.map encI) ↔ True := allVs_map (fun x c hc => by simp only [encI, List.mem_cons, List.not_mem_nil, or_false] at hc; exact ⟨_, hc⟩) L
theorem allVs_Symbol (L : List Symbol) : allVs (L.map encSymbol) ↔ True := allVs_map (fun x c hc => by simp only [encSymbol, List.mem_cons, List.not_mem_nil, or_false] at hc; rcases hc with rfl | rfl | rfl <;> exact ⟨_, rfl⟩) L
attribute [local go_sem] allVs_I allVs_Symbol
theorem allVs_one (c : Value) : allVs [[SV.v c]] ↔ True := iff_true_intro (by intro r hr x hx; simp at hr; subst hr; simp at hx; exact ⟨_, hx⟩)
def ktoImgE : Ctr := pur (fun args => oneImage (aC args 0)) (fun x => [.agg [.v (.string x.code), .sl 3 (x.symbols.map encSymbol)]]) (fun x => x.symbols.length ≤ 2097152) (fun d x => .agg [.v (.string x.code), .own d]) (fun d x => [(d, .sl 108 3 (x.symbols.map encSymbol))])
section
attribute [local go_sem] oneImage
noncomputable def cxTimE : Cx := { P := Try.prog, tys := tys, C := [(78, ktoSymbolS)], hty := tysOk, hC := COk.cons ctoSymbolS (COk.nil _) }
theorem cxTimE_t : cxTimE.tys = tys := rfl
theorem cxTimE_c : cxTimE.C = [(78, ktoSymbolS)] := rfl
attribute [local go_sem] cxTimE_t cxTimE_c ktoSymbolS
theorem ctoImgE : Cn Try.prog 65 ktoImgE := by
  refine Cn.pur Try.func65 (by kernel_rfl) rfl fun d x hx => ?_
  obtain ⟨c, Y⟩ := x
  simp only at hx ⊢
  refine Holds.go (c := cxTimE) Try.func65 rfl Try.results65 Try.ntmps65 (by omega) (by simp) rfl ?_
  intro X0 w0
  (repeat' (first | refine WP.seq ?_ | refine WP.block ?_ | ((first | refine WP.region ?_ | refine WP.condW ?_ | refine WP.ret ?_ | refine WP.exit ?_ | refine WP.skip ?_); simp only [go_sem, tyAll, Nat.reduceAdd, Nat.reduceLT, Nat.reduceLeDiff, Nat.reduceEqDiff, Nat.reduceMul, Nat.reduceSub, Nat.reduceGT, reduceIte, Int.reduceNeg, Int.reduceToNat]) |  refine And.intro ?_ ?_ | intro _))
  all_goals first | omega | exact ⟨_, _, rfl, _, _, rfl, rfl⟩ | exact if_neg (by omega) | (rw [if_neg (by omega), if_neg (by omega)]; done) | (rw [if_neg (by omega), if_neg (by omega), if_neg (by omega)]; done) | (rw [if_neg (by omega), if_neg (by omega), if_neg (by omega), if_neg (by omega)]; done) | skip
  all_goals trace_state
end
def ktoImgD : Ctr := pur (fun args => decImage (aR args 0)) (fun L => [.sl 2 (L.map encImage)]) (fun L => L.length ≤ 2097152 ∧ ∀ x ∈ L, x.symbols.length ≤ 2097152) (fun d _ => .own d) (fun d L => [(d, .dp 93 2 (L.map encImage))])
section
attribute [local go_sem] oneImage
noncomputable def cxTisD : Cx := { P := Try.prog, tys := tys, C := [(65, ktoImgE)], hty := tysOk, hC := COk.cons ctoImgE (COk.nil _) }
theorem cxTisD_t : cxTisD.tys = tys := rfl
theorem cxTisD_c : cxTisD.C = [(65, ktoImgE)] := rfl
attribute [local go_sem] cxTisD_t cxTisD_c ktoImgE
theorem ctoImgD : Cn Try.prog 40 ktoImgD := by
  refine Cn.pur Try.func40 (by kernel_rfl) rfl fun d x hx => ?_
  rename List Image => L
  obtain ⟨hL, hY⟩ := hx
  refine Holds.go (c := cxTisD) Try.func40 rfl Try.results40 Try.ntmps40 (by omega) (by simp) rfl ?_
  intro X0 w0
  (repeat' (first | refine WP.seq ?_ | refine WP.block ?_ | ((first | refine WP.region ?_ | refine WP.condW ?_ | refine WP.ret ?_ | refine WP.exit ?_ | refine WP.skip ?_); simp only [go_sem, tyAll, Nat.reduceAdd, Nat.reduceLT, Nat.reduceLeDiff, Nat.reduceEqDiff, Nat.reduceMul, Nat.reduceSub, Nat.reduceGT, reduceIte, Int.reduceNeg, Int.reduceToNat]) |  refine And.intro ?_ ?_ | intro _))
  all_goals first | omega | skip
  refine WP.gho [.dp 7] ?_
  simp only [go_sem, tyAll, Nat.reduceAdd, Nat.reduceLT, Nat.reduceLeDiff, Nat.reduceEqDiff, Nat.reduceMul, Nat.reduceSub, Nat.reduceGT, reduceIte, Int.reduceNeg, Int.reduceToNat]
  refine ⟨allVs_rep (by simp), ?_⟩
  refine WP.loop (fun k : Nat => ⟨[(0, .sl 2 (L.map encImage)), (3, .own 7), (4, .v (.int .i64 k))], [(7, .dp 93 2 (filled encImage zerImage L k))]⟩) (fun k => k ≤ L.length) (fun k => L.length - k) 0 (by omega) ?_ ?_
  · rw [filled_zero]; simp only [go_sem, tyAll, Nat.reduceAdd, Nat.reduceLT, Nat.reduceLeDiff, Nat.reduceEqDiff, Nat.reduceMul, Nat.reduceSub, Nat.reduceGT, reduceIte, Int.reduceNeg, Int.reduceToNat]; first | exact ⟨rfl, rfl⟩ | rfl
  intro k hk
  by_cases hlt : k < L.length
  · have h0 := hY _ (List.getElem_mem hlt)
    have h1 := rowAt_map encImage L k hlt
    have h2 := filled_len encImage zerImage L k hk
    have h3 : Go.Vc.rowAt (filled encImage zerImage L k) k = [.v (.string ⟨#[]⟩), .v (.slice none 0 0)] := filled_row encImage zerImage L k hlt
    have h4 := filled_set encImage zerImage L k hlt
    rw [encImage] at h4
    refine WP.post [.abs 7 1, .fld 7] ?_
    refine WP.gho [.opn 7 k] ?_
    simp only [go_sem, h2, h3, tyAll, Nat.reduceAdd, Nat.reduceLT, Nat.reduceLeDiff, Nat.reduceEqDiff, Nat.reduceMul, Nat.reduceSub, Nat.reduceGT, reduceIte, Int.reduceNeg, Int.reduceToNat]
    refine ⟨hlt, ?_⟩
    (repeat' (first | refine WP.seq ?_ | refine WP.block ?_ | ((first | refine WP.region ?_ | refine WP.condW ?_ | refine WP.ret ?_ | refine WP.exit ?_ | refine WP.skip ?_); simp only [go_sem, h1, h2, h3, h4, encImage, tyAll, Nat.reduceAdd, Nat.reduceLT, Nat.reduceLeDiff, Nat.reduceEqDiff, Nat.reduceMul, Nat.reduceSub, Nat.reduceGT, reduceIte, Int.reduceNeg, Int.reduceToNat]) |  refine And.intro ?_ ?_ | intro _))
    all_goals first | omega | exact h0 | exact ⟨k + 1, by omega, by omega, rfl, rfl⟩ | skip
    all_goals trace_state
  · have h2 := filled_len encImage zerImage L k hk
    have h5 : filled encImage zerImage L k = L.map encImage := by rw [show k = L.length by omega]; exact filled_all _ _ _
    (repeat' (first | refine WP.seq ?_ | refine WP.block ?_ | ((first | refine WP.region ?_ | refine WP.condW ?_ | refine WP.ret ?_ | refine WP.exit ?_ | refine WP.skip ?_); simp only [go_sem, h2, h5, tyAll, Nat.reduceAdd, Nat.reduceLT, Nat.reduceLeDiff, Nat.reduceEqDiff, Nat.reduceMul, Nat.reduceSub, Nat.reduceGT, reduceIte, Int.reduceNeg, Int.reduceToNat]) |  refine And.intro ?_ ?_ | intro _))
    all_goals first | omega | skip
end
def ktoMachE : Ctr := pur (fun args => oneMach (aC args 0)) (fun x => [.agg [.v (.int .i64 x.pc), .v (.int .i64 x.sp), .v (.int .i64 x.fp), .sl 1 (x.stack.map encI), .sl 1 (x.out.map encI), .v (.int .i64 x.state), .v (.int .i64 x.value)]]) (fun x => x.stack.length ≤ 2097152 ∧ x.out.length ≤ 2097152)
  (fun d x => .agg [.v (.int .i64 x.pc), .v (.int .i64 x.sp), .v (.int .i64 x.fp), .own d, .own (d + 1000), .v (.int .i64 x.state), .v (.int .i64 x.value)]) (fun d x => [(d, .sl 3 1 (x.stack.map encI)), (d + 1000, .sl 3 1 (x.out.map encI))])
section
noncomputable def cxTmaE : Cx := { P := Try.prog, tys := tys, C := [(41, k15)], hty := tysOk, hC := COk.cons c15 (COk.nil _) }
theorem cxTmaE_t : cxTmaE.tys = tys := rfl
theorem cxTmaE_c : cxTmaE.C = [(41, k15)] := rfl
attribute [local go_sem] cxTmaE_t cxTmaE_c k15
theorem ctoMachE : Cn Try.prog 42 ktoMachE := by
  refine Cn.pur Try.func42 (by kernel_rfl) rfl fun d x hx => ?_
  obtain ⟨a, b, c, s, o, d2, e2⟩ := x
  obtain ⟨hs, ho⟩ := hx
  simp only at hs ho ⊢
  refine Holds.go (c := cxTmaE) Try.func42 rfl Try.results42 Try.ntmps42 (by omega) (by simp) rfl ?_
  intro X0 w0
  (repeat' (first | refine WP.seq ?_ | refine WP.block ?_ | ((first | refine WP.region ?_ | refine WP.condW ?_ | refine WP.ret ?_ | refine WP.exit ?_ | refine WP.skip ?_); simp only [go_sem, tyAll, Nat.reduceAdd, Nat.reduceLT, Nat.reduceLeDiff, Nat.reduceEqDiff, Nat.reduceMul, Nat.reduceSub, Nat.reduceGT, reduceIte, Int.reduceNeg, Int.reduceToNat]) |  refine And.intro ?_ ?_ | intro _))
  all_goals first | omega | exact ⟨_, _, _, _, _, _, _, rfl⟩ | exact ⟨_, _, rfl, _, _, rfl, rfl⟩ | exact if_neg (by omega) | (rw [if_neg (by omega), if_neg (by omega)]; done) | (rw [if_neg (by omega), if_neg (by omega), if_neg (by omega)]; done) | (rw [if_neg (by omega), if_neg (by omega), if_neg (by omega), if_neg (by omega)]; done) | skip
  all_goals trace_state
end
def ktoMachD : Ctr := pur (fun args => decMach (aR args 0)) (fun L => [.sl 7 (L.map encMach)]) (fun L => L.length ≤ 1048576 ∧ ∀ x ∈ L, shMach x) (fun d _ => .own d) (fun d L => [(d, .dp 72 7 (L.map encMach))])
section
attribute [local go_sem] oneMach
noncomputable def cxTmsD : Cx := { P := Try.prog, tys := tys, C := [(42, ktoMachE)], hty := tysOk, hC := COk.cons ctoMachE (COk.nil _) }
theorem cxTmsD_t : cxTmsD.tys = tys := rfl
theorem cxTmsD_c : cxTmsD.C = [(42, ktoMachE)] := rfl
attribute [local go_sem] cxTmsD_t cxTmsD_c ktoMachE
set_option maxHeartbeats 3000000 in
theorem ctoMachD : Cn Try.prog 19 ktoMachD := by
  refine Cn.pur Try.func19 (by kernel_rfl) rfl fun d x hx => ?_
  rename List Mach => L
  obtain ⟨hL, hY⟩ := hx
  refine Holds.go (c := cxTmsD) Try.func19 rfl Try.results19 Try.ntmps19 (by omega) (by simp) rfl ?_
  intro X0 w0
  (repeat' (first | refine WP.seq ?_ | refine WP.block ?_ | ((first | refine WP.region ?_ | refine WP.condW ?_ | refine WP.ret ?_ | refine WP.exit ?_ | refine WP.skip ?_); simp only [go_sem, tyAll, Nat.reduceAdd, Nat.reduceLT, Nat.reduceLeDiff, Nat.reduceEqDiff, Nat.reduceMul, Nat.reduceSub, Nat.reduceGT, reduceIte, Int.reduceNeg, Int.reduceToNat]) |  refine And.intro ?_ ?_ | intro _))
  all_goals first | omega | skip
  refine WP.gho [.dp 7] ?_
  simp only [go_sem, tyAll, Nat.reduceAdd, Nat.reduceLT, Nat.reduceLeDiff, Nat.reduceEqDiff, Nat.reduceMul, Nat.reduceSub, Nat.reduceGT, reduceIte, Int.reduceNeg, Int.reduceToNat]
  refine ⟨allVs_rep (by simp), ?_⟩
  refine WP.loop (fun k : Nat => ⟨[(0, .sl 7 (L.map encMach)), (3, .own 7), (4, .v (.int .i64 k))], [(7, .dp 72 7 (filled encMach zerMach L k))]⟩) (fun k => k ≤ L.length) (fun k => L.length - k) 0 (by omega) ?_ ?_
  · rw [filled_zero]; simp only [go_sem, tyAll, Nat.reduceAdd, Nat.reduceLT, Nat.reduceLeDiff, Nat.reduceEqDiff, Nat.reduceMul, Nat.reduceSub, Nat.reduceGT, reduceIte, Int.reduceNeg, Int.reduceToNat]; first | exact ⟨rfl, rfl⟩ | rfl
  intro k hk
  by_cases hlt : k < L.length
  · have h0 := (hY _ (List.getElem_mem hlt)).1
    have h0' := (hY _ (List.getElem_mem hlt)).2
    have h1 := rowAt_map encMach L k hlt
    have h2 := filled_len encMach zerMach L k hk
    have h3 : Go.Vc.rowAt (filled encMach zerMach L k) k = [.v (.int .i64 0), .v (.int .i64 0), .v (.int .i64 0), .v (.slice none 0 0), .v (.slice none 0 0), .v (.int .i64 0), .v (.int .i64 0)] := filled_row encMach zerMach L k hlt
    have h4 := filled_set encMach zerMach L k hlt
    rw [encMach] at h4
    refine WP.post [.abs 7 3, .abs 7 4, .fld 7] ?_
    refine WP.gho [.opn 7 k] ?_
    simp only [go_sem, h2, h3, tyAll, Nat.reduceAdd, Nat.reduceLT, Nat.reduceLeDiff, Nat.reduceEqDiff, Nat.reduceMul, Nat.reduceSub, Nat.reduceGT, reduceIte, Int.reduceNeg, Int.reduceToNat]
    refine ⟨hlt, ?_⟩
    (repeat' (first | refine WP.seq ?_ | refine WP.block ?_ | ((first | refine WP.region ?_ | refine WP.condW ?_ | refine WP.ret ?_ | refine WP.exit ?_ | refine WP.skip ?_); simp only [go_sem, h1, h2, h3, h4, encMach, tyAll, Nat.reduceAdd, Nat.reduceLT, Nat.reduceLeDiff, Nat.reduceEqDiff, Nat.reduceMul, Nat.reduceSub, Nat.reduceGT, reduceIte, Int.reduceNeg, Int.reduceToNat]) |  refine And.intro ?_ ?_ | intro _))
    all_goals first | omega | exact h0 | exact h0' | exact ⟨k + 1, by omega, by omega, rfl, rfl⟩ | skip
    all_goals trace_state
  · have h2 := filled_len encMach zerMach L k hk
    have h5 : filled encMach zerMach L k = L.map encMach := by rw [show k = L.length by omega]; exact filled_all _ _ _
    (repeat' (first | refine WP.seq ?_ | refine WP.block ?_ | ((first | refine WP.region ?_ | refine WP.condW ?_ | refine WP.ret ?_ | refine WP.exit ?_ | refine WP.skip ?_); simp only [go_sem, h2, h5, tyAll, Nat.reduceAdd, Nat.reduceLT, Nat.reduceLeDiff, Nat.reduceEqDiff, Nat.reduceMul, Nat.reduceSub, Nat.reduceGT, reduceIte, Int.reduceNeg, Int.reduceToNat]) |  refine And.intro ?_ ?_ | intro _))
    all_goals first | omega | skip
end
/-- a space, a process, a session that owns its lists -/
def ownSp (d : Nat) : List SV := [.own d, .own (d + 1000), .own (d + 2000)]
def obsSp (d ei : Nat) (x : SpX) : List (Nat × Ob) := [(d, .dp ei 2 (x.1.map encImage)), (d + 1000, .sl 3 1 (x.2.1.map encI)), (d + 2000, .sl 3 1 (x.2.2.map encI))]
def ktoSpD : Ctr := pur (fun args => spA args 0) (fun x => [.agg [.sl 2 (x.1.map encImage), .sl 1 (x.2.1.map encI), .sl 1 (x.2.2.map encI)]]) shSp (fun d _ => .agg [.own d, .own (d + 1000), .own (d + 2000)])
  (fun d x => [(d, .dp 93 2 (x.1.map encImage)), (d + 1000, .sl 3 1 (x.2.1.map encI)), (d + 2000, .sl 3 1 (x.2.2.map encI))])
section
noncomputable def cxTspD : Cx := { P := Try.prog, tys := tys, C := [(41, k15), (40, ktoImgD)], hty := tysOk, hC := COk.cons c15 (COk.cons ctoImgD (COk.nil _)) }
theorem cxTspD_t : cxTspD.tys = tys := rfl
theorem cxTspD_c : cxTspD.C = [(41, k15), (40, ktoImgD)] := rfl
attribute [local go_sem] cxTspD_t cxTspD_c k15 ktoImgD
theorem ctoSpD : Cn Try.prog 18 ktoSpD := by
  refine Cn.pur Try.func18 (by kernel_rfl) rfl fun d x hx => ?_
  obtain ⟨I, B, E⟩ := x
  obtain ⟨⟨hI, hIm⟩, hB, hE⟩ := hx
  simp only at hI hIm hB hE ⊢
  refine Holds.go (c := cxTspD) Try.func18 rfl Try.results18 Try.ntmps18 (by omega) (by simp) rfl ?_
  intro X0 w0
  (repeat' (first | refine WP.seq ?_ | refine WP.block ?_ | ((first | refine WP.region ?_ | refine WP.condW ?_ | refine WP.ret ?_ | refine WP.exit ?_ | refine WP.skip ?_); simp only [go_sem, tyAll, Nat.reduceAdd, Nat.reduceLT, Nat.reduceLeDiff, Nat.reduceEqDiff, Nat.reduceMul, Nat.reduceSub, Nat.reduceGT, reduceIte, Int.reduceNeg, Int.reduceToNat]) |  refine And.intro ?_ ?_ | intro _))
  all_goals first | omega | exact hIm _ ‹_› | exact ⟨_, _, _, rfl⟩ | exact ⟨_, _, rfl, _, _, rfl, rfl⟩ | exact if_neg (by omega) | (rw [if_neg (by omega), if_neg (by omega)]; done) | (rw [if_neg (by omega), if_neg (by omega), if_neg (by omega)]; done) | (rw [if_neg (by omega), if_neg (by omega), if_neg (by omega), if_neg (by omega)]; done) | skip
  all_goals trace_state
end
def ktoPcD : Ctr := pur (fun args => pcA args 0) (fun x => [.agg (aggPc x)]) shPc (fun d x => .agg [.own d, .own (d + 1000), .own (d + 2000), .own (d + 3000), .v (.int .i64 x.2.2.1), .v (.int .i64 x.2.2.2.1), .v (.int .i64 x.2.2.2.2)])
  (fun d x => [(d, .dp 93 2 (x.1.1.map encImage)), (d + 1000, .sl 3 1 (x.1.2.1.map encI)), (d + 2000, .sl 3 1 (x.1.2.2.map encI)), (d + 3000, .dp 72 7 (x.2.1.map encMach))])
section
attribute [local go_sem] aggPc
attribute [local irreducible] shMach
noncomputable def cxTpcD : Cx := { P := Try.prog, tys := tys, C := [(18, ktoSpD), (19, ktoMachD)], hty := tysOk, hC := COk.cons ctoSpD (COk.cons ctoMachD (COk.nil _)) }
theorem cxTpcD_t : cxTpcD.tys = tys := rfl
theorem cxTpcD_c : cxTpcD.C = [(18, ktoSpD), (19, ktoMachD)] := rfl
attribute [local go_sem] cxTpcD_t cxTpcD_c ktoSpD ktoMachD
set_option maxHeartbeats 3000000 in
theorem ctoPcD : Cn Try.prog 6 ktoPcD := by
  refine Cn.pur Try.func6 (by kernel_rfl) rfl fun d x hx => ?_
  obtain ⟨⟨I, B, E⟩, T, tu, le, sl⟩ := x
  obtain ⟨hsp, hT, hTs⟩ := hx
  have hsp2 := hsp
  obtain ⟨⟨hI, hIm⟩, hB, hE⟩ := hsp2
  simp only [aggPc] at hT hTs hI hIm hB hE ⊢
  refine Holds.go (c := cxTpcD) Try.func6 rfl Try.results6 Try.ntmps6 (by omega) (by simp) rfl ?_
  intro X0 w0
  (repeat' (first | refine WP.seq ?_ | refine WP.block ?_ | ((first | refine WP.region ?_ | refine WP.condW ?_ | refine WP.ret ?_ | refine WP.exit ?_ | refine WP.skip ?_); simp only [go_sem, tyAll, Nat.reduceAdd, Nat.reduceLT, Nat.reduceLeDiff, Nat.reduceEqDiff, Nat.reduceMul, Nat.reduceSub, Nat.reduceGT, reduceIte, Int.reduceNeg, Int.reduceToNat]) |  refine And.intro ?_ ?_ | intro _))
  all_goals first | omega | exact hIm _ ‹_› | exact hTs _ ‹_› | exact hsp | exact ⟨_, _, _, _, _, _, _, rfl⟩ | exact ⟨_, _, rfl, _, _, rfl, rfl⟩ | exact if_neg (by omega) | (rw [if_neg (by omega), if_neg (by omega)]; done) | (rw [if_neg (by omega), if_neg (by omega), if_neg (by omega)]; done) | (rw [if_neg (by omega), if_neg (by omega), if_neg (by omega), if_neg (by omega)]; done) | skip
  all_goals trace_state
end
end
end Go.Proofs.Ytoomncljmgcidaa
/-
  DERIVED. A nil slice in a slot or in a variable's cell as a list of one's own that holds nothing.
-/
namespace Go.Vc
set_option linter.unusedVariables false

/-- object t is turned into what stands for the same cells -/
def rp (t : Nat) (ob : Ob) : List (Nat × Ob) → List (Nat × Ob)
  | [] => []
  | (u, o) :: l => (if u = t then (u, ob) else (u, o)) :: rp t ob l
theorem lk_rp {t : Nat} {ob : Ob} {j : Nat} : ∀ {l : List (Nat × Ob)} {o : Ob}, lk j (rp t ob l) = some o → ∃ o0, lk j l = some o0 ∧ (j = t → o = ob) ∧ (j ≠ t → o = o0)
  | (u, o1) :: l, o, h => by
    simp only [rp] at h
    by_cases hu : u = t
    · rw [if_pos hu] at h
      simp only [lk] at h ⊢
      by_cases hj : j = u
      · rw [if_pos hj] at h ⊢; cases h
        exact ⟨o1, rfl, fun _ => rfl, fun hn => absurd (hj.trans hu) hn⟩
      · rw [if_neg hj] at h ⊢; exact lk_rp h
    · rw [if_neg hu] at h
      simp only [lk] at h ⊢
      by_cases hj : j = u
      · rw [if_pos hj] at h ⊢; cases h
        exact ⟨_, rfl, fun e => absurd (hj.symm.trans e) hu, fun _ => rfl⟩
      · rw [if_neg hj] at h ⊢; exact lk_rp h
def isNil : SV → Bool
  | .v (.slice none 0 0) => true
  | _ => false
/-- cell k of variable t, a nil slice, is list id from here on (elements of type e, of s cells) -/
def St.adoptB (st : St) (t k id e s : Nat) : St :=
  match lk t (st.kill id).hp with
  | some (.box e' cs) => match cs[k]? with
    | some c => if isNil c = true ∧ id < 1000000 ∧ t ≠ id then { fr := (st.kill id).fr, hp := rp t (.box e' (cs.set k (.own id))) ((id, .sl e s []) :: (st.kill id).hp) } else st
    | none => st
  | _ => st
/-- .. what slot t holds -/
def St.adoptS (st : St) (t id e s : Nat) : St :=
  match lk t (st.kill id).fr with
  | some c => if isNil c = true ∧ id < 1000000 then { fr := (t, .own id) :: er t (st.kill id).fr, hp := (id, .sl e s []) :: (st.kill id).hp } else st
  | none => st
section
variable {c : Cx} {P : Program} {N : Nat} {X0 : Nat → Prop} {M : Nat → BV → Prop} {w0 : World} {st : St} {K : Exit → St → Prop}
theorem isNil_eq {x : SV} (h : isNil x = true) : x = .v (.slice none 0 0) := by
  unfold isNil at h
  split at h
  · rfl
  · cases h
theorem Sim.nilObj {β : Nat → BV} {a : Act} {w : World} (h : Sim N X0 M w0 st β a w) {id e s : Nat} (hid : id < 1000000) :
    ∃ β', β' id = nilB ∧ Sim N X0 M w0 { fr := (st.kill id).fr, hp := (id, .sl e s []) :: (st.kill id).hp } β' a w := by
  let β' : Nat → BV := fun i => if i = id then nilB else β i
  have hβ : ∀ i, i ≠ id → β' i = β i := fun i hi => by show (if i = id then _ else β i) = _; rw [if_neg hi]
  have hβd : β' id = nilB := by show (if id = id then _ else β id) = _; rw [if_pos rfl]
  have h1 := h.kill id hid hβ (by rw [hβd]; rfl) (w' := w) rfl rfl rfl (Nat.le_refl _) (fun _ _ _ => rfl) (X1 := X0) (fun b _ hb => .inl hb) h.x0
  refine ⟨β', hβd, ?_⟩
  exact h1.add (j := id) (lk_kill st id) (ob := .sl e s []) (.nil e s hβd) (fun b hb => by rw [hβd] at hb; cases hb) (fun b hb => by rw [hβd] at hb; cases hb) (fun b i o hb => by rw [hβd] at hb; cases hb)
theorem Sim.rp {β : Nat → BV} {a : Act} {w : World} (h : Sim N X0 M w0 st β a w) {t e' : Nat} {cs ds : List SV} (ht : lk t st.hp = some (.box e' cs)) (hl : ds.length = cs.length)
    (hd : ∀ (k : Nat) (d : SV), ds[k]? = some d → ∃ c, cs[k]? = some c ∧ ∀ u, R w (XX X0 β st.hp) β c u → R w (XX X0 β st.hp) β d u) : Sim N X0 M w0 { fr := st.fr, hp := Go.Vc.rp t (.box e' ds) st.hp } β a w := by
  have hX : ∀ b, XX X0 β (Go.Vc.rp t (.box e' ds) st.hp) b → XX X0 β st.hp b := fun b hb => by
    rcases hb with hb | ⟨j, o, hj, hb⟩
    · exact .inl hb
    · obtain ⟨o0, h1, _⟩ := lk_rp hj; exact .inr ⟨j, o0, h1, hb⟩
  have hS : Same (XX X0 β st.hp) w w := ⟨Nat.le_refl _, fun _ _ _ => rfl⟩
  exact { h with
    slots := fun u x hx => (h.slots u x hx).mono hS fun b _ => hX b
    objs := fun j o hj => by
      obtain ⟨o0, h1, h2, h3⟩ := lk_rp hj
      by_cases hjt : j = t
      · rw [h2 hjt]
        subst hjt
        have hO := h.objs j _ ht
        cases hO with
        | box b cur hv hh hlen hc =>
          refine .box b cur hv hh (by rw [hl]; exact hlen) fun k d u hk hu => ?_
          obtain ⟨c0, hc0, hR⟩ := hd k d hk
          obtain ⟨g1, g2⟩ := hc k c0 u hc0 hu
          exact ⟨g1, (hR u g2).mono hS fun b _ => hX b⟩
      · rw [h3 hjt]
        exact (h.objs j o0 h1).mono hS (fun b _ hb => hX b hb) (fun _ _ => rfl)
    inj := fun p q op oq b hp hq hbp hbq => by
      obtain ⟨o1, e1, _⟩ := lk_rp hp
      obtain ⟨o2, e2, _⟩ := lk_rp hq
      exact h.inj p q o1 o2 b e1 e2 hbp hbq
    mine := fun j o b hj hb => by
      obtain ⟨o1, e1, _⟩ := lk_rp hj
      exact h.mine j o1 b e1 hb }
theorem Sim.adoptB {β : Nat → BV} {a : Act} {w : World} (h : Sim N X0 M w0 st β a w) (t k id e s : Nat) : ∃ β', Sim N X0 M w0 (st.adoptB t k id e s) β' a w := by
  unfold St.adoptB
  split
  case h_2 => exact ⟨β, h⟩
  case h_1 _ e' cs hl =>
  split
  case h_2 => exact ⟨β, h⟩
  case h_1 _ c0 hc =>
  split
  case isFalse => exact ⟨β, h⟩
  case isTrue hh =>
  obtain ⟨hn, hid, hne⟩ := hh
  have hc0 := isNil_eq hn
  subst hc0
  obtain ⟨β', hb, h1⟩ := h.nilObj (e := e) (s := s) hid
  refine ⟨β', ?_⟩
  have hlt : k < cs.length := (List.getElem?_eq_some_iff.1 hc).1
  refine h1.rp (t := t) (e' := e') (cs := cs) (ds := cs.set k (.own id)) ?_ (by simp) fun i d hd => ?_
  · simp only [lk, if_neg hne]; exact hl
  · rw [List.getElem?_set] at hd
    split at hd
    · rename_i hik
      subst hik
      try rw [if_pos hlt] at hd
      cases hd
      exact ⟨_, hc, fun u hu => by
        have := hu.v_inv; subst this
        have h0 := R.own (w := w) (X := XX X0 β' ((id, .sl e s []) :: (st.kill id).hp)) (β := β') id
        rw [hb] at h0; exact h0⟩
    · exact ⟨d, hd, fun u hu => hu⟩
theorem Sim.adoptS {β : Nat → BV} {a : Act} {w : World} (h : Sim N X0 M w0 st β a w) (t id e s : Nat) : ∃ β', Sim N X0 M w0 (st.adoptS t id e s) β' a w := by
  unfold St.adoptS
  split
  case h_2 => exact ⟨β, h⟩
  case h_1 _ c0 hc =>
  split
  case isFalse => exact ⟨β, h⟩
  case isTrue hh =>
  obtain ⟨hn, hid⟩ := hh
  have hc0 := isNil_eq hn
  subst hc0
  obtain ⟨β', hb, h1⟩ := h.nilObj (e := e) (s := s) hid
  refine ⟨β', ?_⟩
  have hv := (h1.slots t _ hc).v_inv
  exact { h1 with
    slots := fun u x hx => by
      simp only [lk] at hx
      split at hx
      · rename_i hut
        cases hx
        rw [hut, hv]
        have h0 := R.own (w := w) (X := XX X0 β' ((id, .sl e s []) :: (st.kill id).hp)) (β := β') id
        rw [hb] at h0; exact h0
      · rename_i hut
        rw [lk_er_ne hut] at hx
        exact h1.slots u x hx }
/-- a list of such changes -/
inductive Ado where
  | b (t k id e s : Nat)
  | s (t id e s : Nat)
def St.ado (st : St) : List Ado → St
  | [] => st
  | .b t k id e s :: l => (st.adoptB t k id e s).ado l
  | .s t id e s :: l => (st.adoptS t id e s).ado l
theorem Sim.ado {a : Act} {w : World} : ∀ (l : List Ado) {st : St} {β : Nat → BV}, Sim N X0 M w0 st β a w → ∃ β', Sim N X0 M w0 (st.ado l) β' a w
  | [], st, β, h => ⟨β, h⟩
  | .b t k id e s :: l, st, β, h => by obtain ⟨β', h'⟩ := h.adoptB t k id e s; exact Sim.ado l h'
  | .s t id e s :: l, st, β, h => by obtain ⟨β', h'⟩ := h.adoptS t id e s; exact Sim.ado l h'
theorem WP.ado (l : List Ado) {code : Code} (h : WP c N X0 M w0 code (st.ado l) K) : WP c N X0 M w0 code st K := fun hA β a w hs => by
  obtain ⟨β', h'⟩ := hs.ado l
  exact h hA β' a w h'
end
end Go.Vc

namespace Go.Proofs.Ytoomncljmgcidaa
open Go.Vc
attribute [local go_sem] St.runR St.runW St.stepV offV St.step St.stepU St.stepG mkCond guardB St.prK St.pr St.prLen St.eff St.callE St.callD St.callF St.callL aI aB aS aR aC St.isM St.argL Ctr.pure Ctr.lend Ctr.move Ctr.isL Ctr.wri pur len lentBy St.lentV St.lent1 nthS argsR restOf obsR pairs swapL unObs backL St.resL erL SV.ren1 SV.up SV.up2 Ob.up St.fzL cellIds partIds St.intoRow SV.ownId St.fz SV.fz1 St.prep St.mvL St.mv SV.re1 rnOk St.prEq vals eqCells scEq Value.kd St.prStr St.prCut cutR St.bnd St.prMin St.bld isShift outL retL outJ oR oC oE oD SV.upq SV.isSl SV.shut St.deepK St.dpArg St.deepQ absC Ob.pl St.ev St.get St.put St.new St.kill SV.kill SV.kill1 Ob.kill St.app St.wrt St.rowsOf St.res St.killL lk er argsL SV.strip SV.need SV.share SV.share1 SV.owns SV.owns1 SV.owns2 SV.good SV.good1 SV.rok SV.rok1 SV.rok2 SV.isV SV.isV2 nodupN SV.cells SV.one SV.pur Ob.pb partsIn rowsIn splice cellsAt dstOk scal2 scal1 thenK blockK retK outK outs okC okL okA okT nilC nilL nilA nilT keepC keepL keepA keepT St.runG St.dltK St.least St.clean St.final St.hide offK badS badO SV.refs SV.leaf SV.leaf2 Ob.refs dlOk fpAt Go.Vc.cover tups SV.ofAgg St.out outC subL St.has rng wr Value.oneCell' Option.isSome_some Option.isSome_none List.nil_append Bool.false_eq_true List.map_cons List.map_nil List.all_cons List.all_nil List.length_cons List.length_nil List.drop_zero List.drop_succ_cons List.take_succ_cons List.take_zero List.drop_nil List.take_nil List.getElem?_cons_zero List.getElem?_cons_succ List.getElem?_nil List.cons_append List.nil_append List.append_nil List.append_assoc List.flatMap_cons List.flatMap_nil List.contains_cons List.contains_nil List.set_cons_zero List.set_cons_succ List.getElem?_toArray Option.getD_some Option.getD_none Option.map_some Option.map_none Option.bind_some Option.some.injEq Prod.mk.injEq if_true if_false true_and and_true and_self and_false false_and Bool.and_false Bool.false_and Bool.or_true Bool.true_or Bool.or_false Bool.false_or ne_eq not_true_eq_false not_false_eq_true decide_true decide_false List.mem_cons List.not_mem_nil List.filter_cons List.filter_nil List.any_cons List.any_nil List.isEmpty_nil List.isEmpty_cons Option.getD_none or_false false_or true_or or_true forall_eq_or_imp forall_eq reduceCtorEq exists_eq exists_eq' exists_eq_left' exists_eq_left exists_eq_right exists_eq_right' imp_self implies_true Bool.and_true Bool.true_and Bool.and_self beq_self_eq_true List.replicate_succ List.replicate_zero forall_const false_implies pickB_or pickB_and beqT beqF Int.toNat_natCast List.length_map List.length_replicate ge_iff_le gt_iff_lt decide_eq_true_eq decide_eq_false_iff_not Bool.and_eq_true Bool.or_eq_true Bool.not_eq_true' Bool.not_eq_false' condG List.toList_toArray Bool.or_eq_false_iff Bool.and_eq_false_iff Int.not_lt Int.not_le beq_iff_eq beq_eq_false_iff_ne bne_iff_ne bne_eq_false_iff_eq ne_eq Bool.not_true Bool.not_false exists_and_left
section
open Go.Vc
set_option linter.unusedSimpArgs false
set_option linter.unusedVariables false
set_option maxHeartbeats 1000000
set_option maxRecDepth 10000
attribute [local irreducible] Go.Vc.WP
attribute [local go_sem] cx0_t cx0_c
def fl3a620775ec : List Go.Vc.Fp := [⟨[1], [], [5], [5, 8], [], []⟩, ⟨[3], [0], [5], [5, 8], [], []⟩, ⟨[], [], [], [8], [], [5]⟩, ⟨[1], [], [], [5, 8], [], []⟩, ⟨[6], [3], [], [5, 8], [], []⟩, ⟨[5, 7], [2, 3, 4], [], [], [5], [8]⟩, ⟨[], [0, 1, 2, 3, 4, 5], [], [], [], []⟩, ⟨[], [0, 1, 2, 3, 4, 5, 6], [], [], [], []⟩]
def fla14e85f2d0 : List Go.Vc.Fp := [⟨[], [], [], [3, 9, 10, 13], [], [6]⟩, ⟨[1], [], [], [3, 6, 9, 10, 13], [], []⟩, ⟨[7], [1], [], [3, 6, 9, 10, 13], [], []⟩, ⟨[6, 8], [0, 1, 2], [], [3, 10, 13], [6], [9]⟩, ⟨[], [], [6], [3, 6, 9, 13], [], [10]⟩, ⟨[1], [], [6], [3, 6, 9, 10, 13], [], []⟩, ⟨[11], [5], [6], [3, 6, 9, 10, 13], [], []⟩, ⟨[10, 12], [0, 1, 2, 3, 4, 5, 6], [6], [3], [10], [13]⟩, ⟨[9, 13], [0, 1, 2, 3, 4, 5, 6, 7], [6, 10], [3], [], []⟩, ⟨[], [], [6, 10], [6, 9, 10, 13], [], [3]⟩, ⟨[], [0, 1, 2, 3, 4, 5, 6, 7, 8, 9], [], [], [], []⟩]
def fla63f3d7fc3 : List Go.Vc.Fp := [⟨[3], [], [26], [26, 29, 31], [], []⟩, ⟨[22], [0], [26], [26, 29, 31], [], []⟩, ⟨[5], [], [26], [26, 29, 31], [], []⟩, ⟨[24], [2], [26], [26, 29, 31], [], []⟩, ⟨[], [], [], [29, 31], [], [26]⟩, ⟨[5], [], [], [26, 29, 31], [], []⟩, ⟨[27], [5], [], [26, 29, 31], [], []⟩, ⟨[26, 28], [4, 5, 6], [], [31], [26], [29]⟩, ⟨[25, 29], [2, 3, 4, 5, 6, 7], [26], [31], [], []⟩, ⟨[30], [2, 3, 4, 5, 6, 7, 8], [26], [], [], [31]⟩, ⟨[], [0, 1, 2, 3, 4, 5, 6, 7, 8, 9], [], [], [], []⟩, ⟨[], [0, 1, 2, 3, 4, 5, 6, 7, 8, 9, 10], [], [], [], []⟩, ⟨[], [0, 1, 2, 3, 4, 5, 6, 7, 8, 9, 10, 11], [], [], [], []⟩]
def fl130b9c90e8 : List Go.Vc.Fp := [⟨[3], [], [26, 29], [26, 29, 31], [], []⟩, ⟨[22], [0], [26, 29], [26, 29, 31], [], []⟩, ⟨[5], [], [26], [26, 29, 31], [], []⟩, ⟨[24], [2], [26], [26, 29, 31], [], []⟩, ⟨[], [], [], [29, 31], [], [26]⟩, ⟨[5], [], [], [26, 29, 31], [], []⟩, ⟨[27], [5], [], [26, 29, 31], [], []⟩, ⟨[26, 28], [4, 5, 6], [], [31], [26], [29]⟩, ⟨[25, 29], [2, 3, 4, 5, 6, 7], [26], [31], [], []⟩, ⟨[30], [2, 3, 4, 5, 6, 7, 8], [26], [], [29], [31]⟩, ⟨[], [0, 1, 2, 3, 4, 5, 6, 7, 8, 9], [], [], [], []⟩, ⟨[], [0, 1, 2, 3, 4, 5, 6, 7, 8, 9, 10], [], [], [], []⟩, ⟨[], [0, 1, 2, 3, 4, 5, 6, 7, 8, 9, 10, 11], [], [], [], []⟩]
def fla02cf3d3e5 : List Go.Vc.Fp := [⟨[], [], [], [3, 8, 9, 12], [], [5]⟩, ⟨[1], [], [], [3, 5, 8, 9, 12], [], []⟩, ⟨[6], [1], [], [3, 5, 8, 9, 12], [], []⟩, ⟨[5, 7], [0, 1, 2], [], [3, 9, 12], [5], [8]⟩, ⟨[], [], [5], [3, 5, 8, 12], [], [9]⟩, ⟨[1], [], [5], [3, 5, 8, 9, 12], [], []⟩, ⟨[10], [5], [5], [3, 5, 8, 9, 12], [], []⟩, ⟨[9, 11], [0, 1, 2, 3, 4, 5, 6], [5], [3], [9], [12]⟩, ⟨[8, 12], [0, 1, 2, 3, 4, 5, 6, 7], [5, 9], [3], [], []⟩, ⟨[], [], [5, 9], [5, 8, 9, 12], [], [3]⟩, ⟨[], [0, 1, 2, 3, 4, 5, 6, 7, 8, 9], [], [], [], []⟩]
def fl7982475608 : List Go.Vc.Fp := [⟨[3], [], [], [28, 29], [], []⟩, ⟨[21], [0], [], [28, 29], [], []⟩, ⟨[1], [], [], [28, 29], [], []⟩, ⟨[23], [2], [], [28, 29], [], []⟩, ⟨[4], [], [], [28, 29], [], []⟩, ⟨[24, 25], [2, 3, 4], [], [28, 29], [], []⟩, ⟨[26], [2, 3, 4, 5], [], [28, 29], [], []⟩, ⟨[27], [2, 3, 4, 5, 6], [], [29], [], [28]⟩, ⟨[28], [2, 3, 4, 5, 6, 7], [], [], [], [29]⟩, ⟨[], [0, 1, 2, 3, 4, 5, 6, 7, 8], [], [], [], []⟩, ⟨[], [0, 1, 2, 3, 4, 5, 6, 7, 8, 9], [], [], [], []⟩, ⟨[], [0, 1, 2, 3, 4, 5, 6, 7, 8, 9, 10], [], [], [], []⟩]
def fl01f2229ad3 : List Go.Vc.Fp := [⟨[3], [], [28], [28, 29], [], []⟩, ⟨[21], [0], [28], [28, 29], [], []⟩, ⟨[1], [], [], [28, 29], [], []⟩, ⟨[23], [2], [], [28, 29], [], []⟩, ⟨[4], [], [], [28, 29], [], []⟩, ⟨[24, 25], [2, 3, 4], [], [28, 29], [], []⟩, ⟨[26], [2, 3, 4, 5], [], [28, 29], [], []⟩, ⟨[27], [2, 3, 4, 5, 6], [], [29], [], [28]⟩, ⟨[28], [2, 3, 4, 5, 6, 7], [], [], [28], [29]⟩, ⟨[], [0, 1, 2, 3, 4, 5, 6, 7, 8], [], [], [], []⟩, ⟨[], [0, 1, 2, 3, 4, 5, 6, 7, 8, 9], [], [], [], []⟩, ⟨[], [0, 1, 2, 3, 4, 5, 6, 7, 8, 9, 10], [], [], [], []⟩]
def flc2b4c9a03b : List Go.Vc.Fp := [⟨[1], [], [], [3, 8, 1008, 2008], [], []⟩, ⟨[6], [0], [], [3, 8, 1008, 2008], [], []⟩, ⟨[7], [0, 1], [], [3], [], [8, 1008, 2008]⟩, ⟨[1], [], [], [3, 8, 1008, 2008], [], []⟩, ⟨[9], [3], [], [3, 8, 1008, 2008], [], []⟩, ⟨[1], [], [], [3, 8, 1008, 2008], [], []⟩, ⟨[11], [5], [], [3, 8, 1008, 2008], [], []⟩, ⟨[1], [], [], [3, 8, 1008, 2008], [], []⟩, ⟨[13], [7], [], [3, 8, 1008, 2008], [], []⟩, ⟨[8, 10, 12, 14], [0, 1, 2, 3, 4, 5, 6, 7, 8], [], [3], [], []⟩, ⟨[], [], [], [8, 1008, 2008], [], [3]⟩, ⟨[], [0, 1, 2, 3, 4, 5, 6, 7, 8, 9, 10], [], [], [], []⟩]
def flcf22be514b : List Go.Vc.Fp := [⟨[3], [], [], [26, 27, 1026], [], []⟩, ⟨[23], [0], [], [26, 27, 1026], [], []⟩, ⟨[5], [], [], [26, 27, 1026], [], []⟩, ⟨[25], [2], [], [27], [], [26, 1026]⟩, ⟨[26], [2, 3], [], [], [], [27]⟩, ⟨[], [0, 1, 2, 3, 4], [], [], [], []⟩, ⟨[], [0, 1, 2, 3, 4, 5], [], [], [], []⟩, ⟨[], [0, 1, 2, 3, 4, 5, 6], [], [], [], []⟩]
def fle42571f68c : List Go.Vc.Fp := [⟨[3], [], [26, 1026], [26, 27, 1026], [], []⟩, ⟨[23], [0], [26, 1026], [26, 27, 1026], [], []⟩, ⟨[5], [], [], [26, 27, 1026], [], []⟩, ⟨[25], [2], [], [27], [], [26, 1026]⟩, ⟨[26], [2, 3], [], [], [26, 1026], [27]⟩, ⟨[], [0, 1, 2, 3, 4], [], [], [], []⟩, ⟨[], [0, 1, 2, 3, 4, 5], [], [], [], []⟩, ⟨[], [0, 1, 2, 3, 4, 5, 6], [], [], [], []⟩]
def fle63033bd90 : List Go.Vc.Fp := [⟨[3], [], [], [25, 26, 1025], [], []⟩, ⟨[18], [0], [], [25, 26, 1025], [], []⟩, ⟨[1], [], [], [25, 26, 1025], [], []⟩, ⟨[20], [2], [], [25, 26, 1025], [], []⟩, ⟨[4], [], [], [25, 26, 1025], [], []⟩, ⟨[21, 22], [2, 3, 4], [], [25, 26, 1025], [], []⟩, ⟨[23], [2, 3, 4, 5], [], [25, 26, 1025], [], []⟩, ⟨[24], [2, 3, 4, 5, 6], [], [26], [], [25, 1025]⟩, ⟨[25], [2, 3, 4, 5, 6, 7], [], [], [], [26]⟩, ⟨[], [0, 1, 2, 3, 4, 5, 6, 7, 8], [], [], [], []⟩, ⟨[], [0, 1, 2, 3, 4, 5, 6, 7, 8, 9], [], [], [], []⟩, ⟨[], [0, 1, 2, 3, 4, 5, 6, 7, 8, 9, 10], [], [], [], []⟩]
def fl8a99b3ce37 : List Go.Vc.Fp := [⟨[3], [], [25, 1025], [25, 26, 1025], [], []⟩, ⟨[18], [0], [25, 1025], [25, 26, 1025], [], []⟩, ⟨[1], [], [], [25, 26, 1025], [], []⟩, ⟨[20], [2], [], [25, 26, 1025], [], []⟩, ⟨[4], [], [], [25, 26, 1025], [], []⟩, ⟨[21, 22], [2, 3, 4], [], [25, 26, 1025], [], []⟩, ⟨[23], [2, 3, 4, 5], [], [25, 26, 1025], [], []⟩, ⟨[24], [2, 3, 4, 5, 6], [], [26], [], [25, 1025]⟩, ⟨[25], [2, 3, 4, 5, 6, 7], [], [], [25, 1025], [26]⟩, ⟨[], [0, 1, 2, 3, 4, 5, 6, 7, 8], [], [], [], []⟩, ⟨[], [0, 1, 2, 3, 4, 5, 6, 7, 8, 9], [], [], [], []⟩, ⟨[], [0, 1, 2, 3, 4, 5, 6, 7, 8, 9, 10], [], [], [], []⟩]
attribute [local go_sem] fl3a620775ec fla14e85f2d0 fla63f3d7fc3 fl130b9c90e8 fla02cf3d3e5 fl7982475608 fl01f2229ad3 flc2b4c9a03b flcf22be514b fle42571f68c fle63033bd90 fl8a99b3ce37
attribute [local go_sem] decI_enc decImage_enc spA decS_enc decMach_enc oneMach_f mach_eta pcA rgA seA decSymbol_enc tmA tm_eta ghoK St.gho St.gh SV.flat allVs_I allVs_Symbol St.ado St.adoptB St.adoptS rp isNil
theorem take_map_succ {α : Type} (en : α → List SV) (L : List α) (k : Nat) (h : k < L.length) : (L.take (k + 1)).map en = (L.take k).map en ++ [en L[k]] := by
  rw [List.take_succ_eq_append_getElem h, List.map_append]; rfl
theorem lenI {L : List Int} {row : List SV} (h : row ∈ L.map encI) : row.length = 1 := by obtain ⟨n, _, rfl⟩ := List.mem_map.1 h; rfl
theorem lenY {L : List Symbol} {row : List SV} (h : row ∈ L.map encSymbol) : row.length = 3 := by obtain ⟨n, _, rfl⟩ := List.mem_map.1 h; rfl
theorem shMach_h {x : Mach} (h : shMach x) : x.stack.length ≤ 2097152 ∧ x.out.length ≤ 2097152 := h
section
noncomputable def cxCpm : Cx := { P := Try.prog, tys := tys, C := [], hty := tysOk, hC := COk.nil _ }
theorem cxCpm_t : cxCpm.tys = tys := rfl
theorem cxCpm_c : cxCpm.C = [] := rfl
attribute [local go_sem] cxCpm_t cxCpm_c 
theorem ccpMachI : Cn Try.prog 44 ktoMachE := by
  refine Cn.pur Try.func44 (by kernel_rfl) rfl fun d x hx => ?_
  obtain ⟨a, b, c, s, o, d2, e2⟩ := x
  obtain ⟨hs, ho⟩ := hx
  simp only at hs ho ⊢
  refine Holds.go (c := cxCpm) Try.func44 rfl Try.results44 Try.ntmps44 (by omega) (by simp) rfl ?_
  intro X0 w0
  (repeat' (first | refine WP.seq ?_ | refine WP.block ?_ | ((first | refine WP.region ?_ | refine WP.condW ?_ | refine WP.ret ?_ | refine WP.exit ?_ | refine WP.skip ?_); simp only [go_sem, tyAll, Nat.reduceAdd, Nat.reduceLT, Nat.reduceLeDiff, Nat.reduceEqDiff, Nat.reduceMul, Nat.reduceSub, Nat.reduceGT, reduceIte, Int.reduceNeg, Int.reduceToNat]) |  refine And.intro ?_ ?_ | intro _))
  all_goals first | omega | exact lenI ‹_› | exact lenY ‹_› | exact ⟨_, _, _, _, _, _, _, rfl⟩ | exact ⟨_, _, rfl, _, _, rfl, rfl⟩ | exact if_neg (by omega) | (rw [if_neg (by omega), if_neg (by omega)]; done) | (rw [if_neg (by omega), if_neg (by omega), if_neg (by omega)]; done) | (rw [if_neg (by omega), if_neg (by omega), if_neg (by omega), if_neg (by omega)]; done) | skip
  all_goals trace_state
theorem ccpMachS : Cn Try.prog 35 ktoMachE := by
  refine Cn.pur Try.func35 (by kernel_rfl) rfl fun d x hx => ?_
  obtain ⟨a, b, c, s, o, d2, e2⟩ := x
  obtain ⟨hs, ho⟩ := hx
  simp only at hs ho ⊢
  refine Holds.go (c := cxCpm) Try.func35 rfl Try.results35 Try.ntmps35 (by omega) (by simp) rfl ?_
  intro X0 w0
  (repeat' (first | refine WP.seq ?_ | refine WP.block ?_ | ((first | refine WP.region ?_ | refine WP.condW ?_ | refine WP.ret ?_ | refine WP.exit ?_ | refine WP.skip ?_); simp only [go_sem, tyAll, Nat.reduceAdd, Nat.reduceLT, Nat.reduceLeDiff, Nat.reduceEqDiff, Nat.reduceMul, Nat.reduceSub, Nat.reduceGT, reduceIte, Int.reduceNeg, Int.reduceToNat]) |  refine And.intro ?_ ?_ | intro _))
  all_goals first | omega | exact lenI ‹_› | exact lenY ‹_› | exact ⟨_, _, _, _, _, _, _, rfl⟩ | exact ⟨_, _, rfl, _, _, rfl, rfl⟩ | exact if_neg (by omega) | (rw [if_neg (by omega), if_neg (by omega)]; done) | (rw [if_neg (by omega), if_neg (by omega), if_neg (by omega)]; done) | (rw [if_neg (by omega), if_neg (by omega), if_neg (by omega), if_neg (by omega)]; done) | skip
  all_goals trace_state
end
section
attribute [local go_sem] oneImage
noncomputable def cxCpi : Cx := { P := Try.prog, tys := tys, C := [], hty := tysOk, hC := COk.nil _ }
theorem cxCpi_t : cxCpi.tys = tys := rfl
theorem cxCpi_c : cxCpi.C = [] := rfl
attribute [local go_sem] cxCpi_t cxCpi_c 
theorem ccpImgS : Cn Try.prog 61 ktoImgE := by
  refine Cn.pur Try.func61 (by kernel_rfl) rfl fun d x hx => ?_
  obtain ⟨c, Y⟩ := x
  simp only at hx ⊢
  refine Holds.go (c := cxCpi) Try.func61 rfl Try.results61 Try.ntmps61 (by omega) (by simp) rfl ?_
  intro X0 w0
  (repeat' (first | refine WP.seq ?_ | refine WP.block ?_ | ((first | refine WP.region ?_ | refine WP.condW ?_ | refine WP.ret ?_ | refine WP.exit ?_ | refine WP.skip ?_); simp only [go_sem, tyAll, Nat.reduceAdd, Nat.reduceLT, Nat.reduceLeDiff, Nat.reduceEqDiff, Nat.reduceMul, Nat.reduceSub, Nat.reduceGT, reduceIte, Int.reduceNeg, Int.reduceToNat]) | ((first | refine WP.flowW 6 fl3a620775ec [3, 4, 5, 6, 7, 8] [5, 8] [5] (by decide +kernel) (by kernel_rfl) (by kernel_rfl) (by kernel_rfl) ?_); simp only [go_sem, tyAll, Nat.reduceAdd, Nat.reduceLT, Nat.reduceLeDiff, Nat.reduceEqDiff, Nat.reduceMul, Nat.reduceSub, Nat.reduceGT, reduceIte, Int.reduceNeg, Int.reduceToNat]) |  refine And.intro ?_ ?_ | intro _))
  all_goals first | omega | exact lenI ‹_› | exact lenY ‹_› | exact ⟨_, _, rfl, _, _, rfl, rfl⟩ | exact if_neg (by omega) | (rw [if_neg (by omega), if_neg (by omega)]; done) | (rw [if_neg (by omega), if_neg (by omega), if_neg (by omega)]; done) | (rw [if_neg (by omega), if_neg (by omega), if_neg (by omega), if_neg (by omega)]; done) | skip
  all_goals trace_state
end
section
attribute [local go_sem] oneImage
noncomputable def cxCpsI : Cx := { P := Try.prog, tys := tys, C := [], hty := tysOk, hC := COk.nil _ }
theorem cxCpsI_t : cxCpsI.tys = tys := rfl
theorem cxCpsI_c : cxCpsI.C = [] := rfl
attribute [local go_sem] cxCpsI_t cxCpsI_c 
set_option maxHeartbeats 3000000 in
theorem ccpSpI : Cn Try.prog 43 ktoSpD := by
  refine Cn.pur Try.func43 (by kernel_rfl) rfl fun d x hx => ?_
  obtain ⟨I, B, E⟩ := x
  obtain ⟨⟨hI, hIm⟩, hB, hE⟩ := hx
  simp only at hI hIm hB hE ⊢
  refine Holds.go (c := cxCpsI) Try.func43 rfl Try.results43 Try.ntmps43 (by omega) (by simp) rfl ?_
  intro X0 w0
  (repeat' (first | refine WP.seq ?_ | refine WP.block ?_ | ((first | refine WP.region ?_ | refine WP.condW ?_ | refine WP.ret ?_ | refine WP.exit ?_ | refine WP.skip ?_); simp only [go_sem, tyAll, Nat.reduceAdd, Nat.reduceLT, Nat.reduceLeDiff, Nat.reduceEqDiff, Nat.reduceMul, Nat.reduceSub, Nat.reduceGT, reduceIte, Int.reduceNeg, Int.reduceToNat]) | ((first | refine WP.flowW 10 fla14e85f2d0 [3, 6, 7, 8, 9, 10, 11, 12, 13, 14] [3, 6, 9, 10, 13] [6, 10] (by decide +kernel) (by kernel_rfl) (by kernel_rfl) (by kernel_rfl) ?_ | refine WP.flowW 10 fla63f3d7fc3 [22, 23, 24, 25, 26, 27, 28, 29, 30, 31] [26, 29, 31] [26] (by decide +kernel) (by kernel_rfl) (by kernel_rfl) (by kernel_rfl) ?_); simp only [go_sem, tyAll, Nat.reduceAdd, Nat.reduceLT, Nat.reduceLeDiff, Nat.reduceEqDiff, Nat.reduceMul, Nat.reduceSub, Nat.reduceGT, reduceIte, Int.reduceNeg, Int.reduceToNat]) |  refine And.intro ?_ ?_ | intro _))
  all_goals first | omega | exact lenI ‹_› | exact lenY ‹_› | skip
  refine WP.ado [.b 3 0 32 93 2] ?_
  refine WP.gho [.dp 32] ?_
  simp only [go_sem, tyAll, Nat.reduceAdd, Nat.reduceLT, Nat.reduceLeDiff, Nat.reduceEqDiff, Nat.reduceMul, Nat.reduceSub, Nat.reduceGT, reduceIte, Int.reduceNeg, Int.reduceToNat]
  refine ⟨fun r hr => by simp at hr, ?_⟩
  refine WP.loop (fun k : Nat => ⟨[(2, .ptr 2 0 0 0), (3, .ptr 3 0 0 0), (16, .sl 2 (I.map encImage)), (17, .v (.int .i64 I.length)), (18, .v (.int .i64 k))],
    [(2, .box 34 [.v (.slice none 0 0), .v (.slice none 0 0), .v (.slice none 0 0)]), (3, .box 34 [.own 32, .own 9, .own 13]), (32, .dp 93 2 ((I.take k).map encImage)), (9, .sl 3 1 (B.map encI)), (13, .sl 3 1 (E.map encI))]⟩)
    (fun k => k ≤ I.length) (fun k => I.length - k) 0 (by omega) ?_ ?_
  · (simp only [go_sem, tyAll, Nat.reduceAdd, Nat.reduceLT, Nat.reduceLeDiff, Nat.reduceEqDiff, Nat.reduceMul, Nat.reduceSub, Nat.reduceGT, reduceIte, Int.reduceNeg, Int.reduceToNat] <;> (first | rfl | exact ⟨rfl, rfl⟩ | exact ⟨rfl, rfl, rfl⟩ | exact ⟨rfl, rfl, rfl, rfl⟩ | exact ⟨rfl, rfl, rfl, rfl, rfl⟩ | exact ⟨⟨rfl, rfl⟩, rfl⟩ | simp))
  intro k hk
  refine WP.prep [] [(32, 50)] rfl ?_
  by_cases hlt : k < I.length
  · have hli : (k : Int) < I.length := by omega
    have h0 := hIm _ (List.getElem_mem hlt)
    have h1 := rowAt_map encImage I k hlt
    have h2 := take_map_succ encImage I k hlt
    have h3 : (I.take k).length = k := by simp; omega
    generalize I[k] = y at h0 h1 h2
    obtain ⟨yc, yY⟩ := y
    rw [encImage] at h1 h2
    simp only at h0 h1 h2
    (repeat' (first | refine WP.seq ?_ | refine WP.block ?_ | ((first | refine WP.region ?_ | refine WP.condW ?_ | refine WP.ret ?_ | refine WP.exit ?_ | refine WP.skip ?_); simp only [go_sem, hli, h1, h3, tyAll, Nat.reduceAdd, Nat.reduceLT, Nat.reduceLeDiff, Nat.reduceEqDiff, Nat.reduceMul, Nat.reduceSub, Nat.reduceGT, reduceIte, Int.reduceNeg, Int.reduceToNat]) | ((first | refine WP.flowW 10 fla14e85f2d0 [3, 6, 7, 8, 9, 10, 11, 12, 13, 14] [3, 6, 9, 10, 13] [6, 10] (by decide +kernel) (by kernel_rfl) (by kernel_rfl) (by kernel_rfl) ?_ | refine WP.flowW 10 fl130b9c90e8 [22, 23, 24, 25, 26, 27, 28, 29, 30, 31] [26, 29, 31] [26, 29] (by decide +kernel) (by kernel_rfl) (by kernel_rfl) (by kernel_rfl) ?_); simp only [go_sem, hli, h1, h3, tyAll, Nat.reduceAdd, Nat.reduceLT, Nat.reduceLeDiff, Nat.reduceEqDiff, Nat.reduceMul, Nat.reduceSub, Nat.reduceGT, reduceIte, Int.reduceNeg, Int.reduceToNat]) |  refine And.intro ?_ ?_ | intro _))
    all_goals first | omega | exact lenI ‹_› | exact lenY ‹_› | skip
    all_goals first | exact ⟨k + 1, by omega, by omega, rfl, by rw [h2]⟩ | exact ⟨k + 1, by omega, by omega, by rw [h2]⟩ | exact ⟨k + 1, by omega, by omega, rfl, rfl, by rw [h2]⟩ | skip
    all_goals trace_state
  · have hge : ¬ (k : Int) < I.length := by omega
    have h4 : (I.take k).map encImage = I.map encImage := by rw [List.take_of_length_le (by omega)]
    (repeat' (first | refine WP.seq ?_ | refine WP.block ?_ | ((first | refine WP.region ?_ | refine WP.condW ?_ | refine WP.ret ?_ | refine WP.exit ?_ | refine WP.skip ?_); simp only [go_sem, hge, h4, tyAll, Nat.reduceAdd, Nat.reduceLT, Nat.reduceLeDiff, Nat.reduceEqDiff, Nat.reduceMul, Nat.reduceSub, Nat.reduceGT, reduceIte, Int.reduceNeg, Int.reduceToNat]) | ((first | refine WP.flowW 10 fla14e85f2d0 [3, 6, 7, 8, 9, 10, 11, 12, 13, 14] [3, 6, 9, 10, 13] [6, 10] (by decide +kernel) (by kernel_rfl) (by kernel_rfl) (by kernel_rfl) ?_ | refine WP.flowW 10 fla63f3d7fc3 [22, 23, 24, 25, 26, 27, 28, 29, 30, 31] [26, 29, 31] [26] (by decide +kernel) (by kernel_rfl) (by kernel_rfl) (by kernel_rfl) ?_); simp only [go_sem, hge, h4, tyAll, Nat.reduceAdd, Nat.reduceLT, Nat.reduceLeDiff, Nat.reduceEqDiff, Nat.reduceMul, Nat.reduceSub, Nat.reduceGT, reduceIte, Int.reduceNeg, Int.reduceToNat]) |  refine And.intro ?_ ?_ | intro _))
    all_goals first | omega | exact lenI ‹_› | exact lenY ‹_› | exact ⟨_, _, _, rfl⟩ | exact ⟨_, _, rfl, _, _, rfl, rfl⟩ | exact if_neg (by omega) | (rw [if_neg (by omega), if_neg (by omega)]; done) | (rw [if_neg (by omega), if_neg (by omega), if_neg (by omega)]; done) | (rw [if_neg (by omega), if_neg (by omega), if_neg (by omega), if_neg (by omega)]; done) | skip
    all_goals trace_state
end
section
attribute [local go_sem] oneImage
noncomputable def cxCpsS : Cx := { P := Try.prog, tys := tys, C := [(61, ktoImgE)], hty := tysOk, hC := COk.cons ccpImgS (COk.nil _) }
theorem cxCpsS_t : cxCpsS.tys = tys := rfl
theorem cxCpsS_c : cxCpsS.C = [(61, ktoImgE)] := rfl
attribute [local go_sem] cxCpsS_t cxCpsS_c ktoImgE
set_option maxHeartbeats 3000000 in
theorem ccpSpS : Cn Try.prog 34 ktoSpD := by
  refine Cn.pur Try.func34 (by kernel_rfl) rfl fun d x hx => ?_
  obtain ⟨I, B, E⟩ := x
  obtain ⟨⟨hI, hIm⟩, hB, hE⟩ := hx
  simp only at hI hIm hB hE ⊢
  refine Holds.go (c := cxCpsS) Try.func34 rfl Try.results34 Try.ntmps34 (by omega) (by simp) rfl ?_
  intro X0 w0
  (repeat' (first | refine WP.seq ?_ | refine WP.block ?_ | ((first | refine WP.region ?_ | refine WP.condW ?_ | refine WP.ret ?_ | refine WP.exit ?_ | refine WP.skip ?_); simp only [go_sem, tyAll, Nat.reduceAdd, Nat.reduceLT, Nat.reduceLeDiff, Nat.reduceEqDiff, Nat.reduceMul, Nat.reduceSub, Nat.reduceGT, reduceIte, Int.reduceNeg, Int.reduceToNat]) | ((first | refine WP.flowW 10 fla02cf3d3e5 [3, 5, 6, 7, 8, 9, 10, 11, 12, 13] [3, 5, 8, 9, 12] [5, 9] (by decide +kernel) (by kernel_rfl) (by kernel_rfl) (by kernel_rfl) ?_ | refine WP.flowW 9 fl7982475608 [21, 22, 23, 24, 25, 26, 27, 28, 29] [28, 29] [] (by decide +kernel) (by kernel_rfl) (by kernel_rfl) (by kernel_rfl) ?_); simp only [go_sem, tyAll, Nat.reduceAdd, Nat.reduceLT, Nat.reduceLeDiff, Nat.reduceEqDiff, Nat.reduceMul, Nat.reduceSub, Nat.reduceGT, reduceIte, Int.reduceNeg, Int.reduceToNat]) |  refine And.intro ?_ ?_ | intro _))
  all_goals first | omega | exact lenI ‹_› | exact lenY ‹_› | skip
  refine WP.ado [.b 3 0 30 93 2] ?_
  refine WP.gho [.dp 30] ?_
  simp only [go_sem, tyAll, Nat.reduceAdd, Nat.reduceLT, Nat.reduceLeDiff, Nat.reduceEqDiff, Nat.reduceMul, Nat.reduceSub, Nat.reduceGT, reduceIte, Int.reduceNeg, Int.reduceToNat]
  refine ⟨fun r hr => by simp at hr, ?_⟩
  refine WP.loop (fun k : Nat => ⟨[(1, .ptr 1 0 0 0), (2, .ptr 2 0 0 0), (3, .ptr 3 0 0 0), (4, .v (.int .i64 k))],
    [(1, .box 34 [.sl 2 (I.map encImage), .sl 1 (B.map encI), .sl 1 (E.map encI)]), (2, .box 34 [.v (.slice none 0 0), .v (.slice none 0 0), .v (.slice none 0 0)]), (3, .box 34 [.own 30, .own 8, .own 12]), (30, .dp 93 2 ((I.take k).map encImage)), (8, .sl 3 1 (B.map encI)), (12, .sl 3 1 (E.map encI))]⟩)
    (fun k => k ≤ I.length) (fun k => I.length - k) 0 (by omega) ?_ ?_
  · (simp only [go_sem, tyAll, Nat.reduceAdd, Nat.reduceLT, Nat.reduceLeDiff, Nat.reduceEqDiff, Nat.reduceMul, Nat.reduceSub, Nat.reduceGT, reduceIte, Int.reduceNeg, Int.reduceToNat] <;> (first | rfl | exact ⟨rfl, rfl⟩ | exact ⟨rfl, rfl, rfl⟩ | exact ⟨rfl, rfl, rfl, rfl⟩ | exact ⟨rfl, rfl, rfl, rfl, rfl⟩ | exact ⟨⟨rfl, rfl⟩, rfl⟩ | simp))
  intro k hk
  refine WP.prep [] [(30, 50)] rfl ?_
  by_cases hlt : k < I.length
  · have hli : (k : Int) < I.length := by omega
    have h0 := hIm _ (List.getElem_mem hlt)
    have h1 := rowAt_map encImage I k hlt
    have h2 := take_map_succ encImage I k hlt
    have h3 : (I.take k).length = k := by simp; omega
    generalize I[k] = y at h0 h1 h2
    obtain ⟨yc, yY⟩ := y
    rw [encImage] at h1 h2
    simp only at h0 h1 h2
    (repeat' (first | refine WP.seq ?_ | refine WP.block ?_ | ((first | refine WP.region ?_ | refine WP.condW ?_ | refine WP.ret ?_ | refine WP.exit ?_ | refine WP.skip ?_); simp only [go_sem, hli, h1, h3, tyAll, Nat.reduceAdd, Nat.reduceLT, Nat.reduceLeDiff, Nat.reduceEqDiff, Nat.reduceMul, Nat.reduceSub, Nat.reduceGT, reduceIte, Int.reduceNeg, Int.reduceToNat]) | ((first | refine WP.flowW 10 fla02cf3d3e5 [3, 5, 6, 7, 8, 9, 10, 11, 12, 13] [3, 5, 8, 9, 12] [5, 9] (by decide +kernel) (by kernel_rfl) (by kernel_rfl) (by kernel_rfl) ?_ | refine WP.flowW 9 fl01f2229ad3 [21, 22, 23, 24, 25, 26, 27, 28, 29] [28, 29] [28] (by decide +kernel) (by kernel_rfl) (by kernel_rfl) (by kernel_rfl) ?_); simp only [go_sem, hli, h1, h3, tyAll, Nat.reduceAdd, Nat.reduceLT, Nat.reduceLeDiff, Nat.reduceEqDiff, Nat.reduceMul, Nat.reduceSub, Nat.reduceGT, reduceIte, Int.reduceNeg, Int.reduceToNat]) |  refine And.intro ?_ ?_ | intro _))
    all_goals first | omega | exact lenI ‹_› | exact lenY ‹_› | skip
    all_goals first | exact ⟨k + 1, by omega, by omega, rfl, by rw [h2]⟩ | exact ⟨k + 1, by omega, by omega, by rw [h2]⟩ | exact ⟨k + 1, by omega, by omega, rfl, rfl, by rw [h2]⟩ | skip
    all_goals trace_state
  · have hge : ¬ (k : Int) < I.length := by omega
    have h4 : (I.take k).map encImage = I.map encImage := by rw [List.take_of_length_le (by omega)]
    (repeat' (first | refine WP.seq ?_ | refine WP.block ?_ | ((first | refine WP.region ?_ | refine WP.condW ?_ | refine WP.ret ?_ | refine WP.exit ?_ | refine WP.skip ?_); simp only [go_sem, hge, h4, tyAll, Nat.reduceAdd, Nat.reduceLT, Nat.reduceLeDiff, Nat.reduceEqDiff, Nat.reduceMul, Nat.reduceSub, Nat.reduceGT, reduceIte, Int.reduceNeg, Int.reduceToNat]) | ((first | refine WP.flowW 10 fla02cf3d3e5 [3, 5, 6, 7, 8, 9, 10, 11, 12, 13] [3, 5, 8, 9, 12] [5, 9] (by decide +kernel) (by kernel_rfl) (by kernel_rfl) (by kernel_rfl) ?_ | refine WP.flowW 9 fl7982475608 [21, 22, 23, 24, 25, 26, 27, 28, 29] [28, 29] [] (by decide +kernel) (by kernel_rfl) (by kernel_rfl) (by kernel_rfl) ?_); simp only [go_sem, hge, h4, tyAll, Nat.reduceAdd, Nat.reduceLT, Nat.reduceLeDiff, Nat.reduceEqDiff, Nat.reduceMul, Nat.reduceSub, Nat.reduceGT, reduceIte, Int.reduceNeg, Int.reduceToNat]) |  refine And.intro ?_ ?_ | intro _))
    all_goals first | omega | exact lenI ‹_› | exact lenY ‹_› | exact ⟨_, _, _, rfl⟩ | exact ⟨_, _, rfl, _, _, rfl, rfl⟩ | exact if_neg (by omega) | (rw [if_neg (by omega), if_neg (by omega)]; done) | (rw [if_neg (by omega), if_neg (by omega), if_neg (by omega)]; done) | (rw [if_neg (by omega), if_neg (by omega), if_neg (by omega), if_neg (by omega)]; done) | skip
    all_goals trace_state
end
section
attribute [local go_sem] aggPc
attribute [local irreducible] shMach
noncomputable def cxCppI : Cx := { P := Try.prog, tys := tys, C := [(43, ktoSpD), (44, ktoMachE)], hty := tysOk, hC := COk.cons ccpSpI (COk.cons ccpMachI (COk.nil _)) }
theorem cxCppI_t : cxCppI.tys = tys := rfl
theorem cxCppI_c : cxCppI.C = [(43, ktoSpD), (44, ktoMachE)] := rfl
attribute [local go_sem] cxCppI_t cxCppI_c ktoSpD ktoMachE
set_option maxHeartbeats 4000000 in
theorem ccpPcI : Cn Try.prog 20 ktoPcD := by
  refine Cn.pur Try.func20 (by kernel_rfl) rfl fun d x hx => ?_
  obtain ⟨⟨I, B, E⟩, T, tu, le, sl⟩ := x
  obtain ⟨hsp, hT, hTs⟩ := hx
  have hsp2 := hsp
  obtain ⟨⟨hI, hIm⟩, hB, hE⟩ := hsp2
  simp only [aggPc] at hT hTs hI hIm hB hE ⊢
  refine Holds.go (c := cxCppI) Try.func20 rfl Try.results20 Try.ntmps20 (by omega) (by simp) rfl ?_
  intro X0 w0
  (repeat' (first | refine WP.seq ?_ | refine WP.block ?_ | ((first | refine WP.region ?_ | refine WP.condW ?_ | refine WP.ret ?_ | refine WP.exit ?_ | refine WP.skip ?_); simp only [go_sem, tyAll, Nat.reduceAdd, Nat.reduceLT, Nat.reduceLeDiff, Nat.reduceEqDiff, Nat.reduceMul, Nat.reduceSub, Nat.reduceGT, reduceIte, Int.reduceNeg, Int.reduceToNat]) | ((first | refine WP.flowW 11 flc2b4c9a03b [3, 6, 7, 8, 9, 10, 11, 12, 13, 14, 15] [3, 8, 1008, 2008] [] (by decide +kernel) (by kernel_rfl) (by kernel_rfl) (by kernel_rfl) ?_ | refine WP.flowW 5 flcf22be514b [23, 24, 25, 26, 27] [26, 27, 1026] [] (by decide +kernel) (by kernel_rfl) (by kernel_rfl) (by kernel_rfl) ?_); simp only [go_sem, tyAll, Nat.reduceAdd, Nat.reduceLT, Nat.reduceLeDiff, Nat.reduceEqDiff, Nat.reduceMul, Nat.reduceSub, Nat.reduceGT, reduceIte, Int.reduceNeg, Int.reduceToNat]) |  refine And.intro ?_ ?_ | intro _))
  all_goals first | omega | exact lenI ‹_› | exact lenY ‹_› | exact hIm _ ‹_› | skip
  refine WP.ado [.b 3 3 28 72 7] ?_
  refine WP.gho [.dp 28] ?_
  simp only [go_sem, tyAll, Nat.reduceAdd, Nat.reduceLT, Nat.reduceLeDiff, Nat.reduceEqDiff, Nat.reduceMul, Nat.reduceSub, Nat.reduceGT, reduceIte, Int.reduceNeg, Int.reduceToNat]
  refine ⟨fun r hr => by simp at hr, ?_⟩
  refine WP.loop (fun k : Nat => ⟨[(2, .ptr 2 0 0 0), (3, .ptr 3 0 0 0), (17, .sl 7 (T.map encMach)), (18, .v (.int .i64 T.length)), (19, .v (.int .i64 k))],
    [(2, .box 37 [.v (.slice none 0 0), .v (.slice none 0 0), .v (.slice none 0 0), .v (.slice none 0 0), .v (.int .i64 0), .v (.int .i64 0), .v (.int .i64 0)]), (3, .box 37 [.own 8, .own 1008, .own 2008, .own 28, .v (.int .i64 tu), .v (.int .i64 le), .v (.int .i64 sl)]),
     (8, .dp 93 2 (I.map encImage)), (1008, .sl 3 1 (B.map encI)), (2008, .sl 3 1 (E.map encI)), (28, .dp 72 7 ((T.take k).map encMach))]⟩)
    (fun k => k ≤ T.length) (fun k => T.length - k) 0 (by omega) ?_ ?_
  · (simp only [go_sem, tyAll, Nat.reduceAdd, Nat.reduceLT, Nat.reduceLeDiff, Nat.reduceEqDiff, Nat.reduceMul, Nat.reduceSub, Nat.reduceGT, reduceIte, Int.reduceNeg, Int.reduceToNat] <;> (first | rfl | exact ⟨rfl, rfl⟩ | exact ⟨rfl, rfl, rfl⟩ | exact ⟨rfl, rfl, rfl, rfl⟩ | exact ⟨rfl, rfl, rfl, rfl, rfl⟩ | exact ⟨⟨rfl, rfl⟩, rfl⟩ | simp))
  intro k hk
  refine WP.prep [] [(28, 50)] rfl ?_
  by_cases hlt : k < T.length
  · have hli : (k : Int) < T.length := by omega
    have h0 := hTs _ (List.getElem_mem hlt)
    have h1 := rowAt_map encMach T k hlt
    have h2 := take_map_succ encMach T k hlt
    have h3 : (T.take k).length = k := by simp; omega
    generalize T[k] = y at h0 h1 h2
    obtain ⟨y1, y2, y3, yS, yO, y6, y7⟩ := y
    obtain ⟨hS, hO⟩ := shMach_h h0
    rw [encMach] at h1 h2
    simp only at hS hO h1 h2
    (repeat' (first | refine WP.seq ?_ | refine WP.block ?_ | ((first | refine WP.region ?_ | refine WP.condW ?_ | refine WP.ret ?_ | refine WP.exit ?_ | refine WP.skip ?_); simp only [go_sem, hli, h1, h3, tyAll, Nat.reduceAdd, Nat.reduceLT, Nat.reduceLeDiff, Nat.reduceEqDiff, Nat.reduceMul, Nat.reduceSub, Nat.reduceGT, reduceIte, Int.reduceNeg, Int.reduceToNat]) | ((first | refine WP.flowW 11 flc2b4c9a03b [3, 6, 7, 8, 9, 10, 11, 12, 13, 14, 15] [3, 8, 1008, 2008] [] (by decide +kernel) (by kernel_rfl) (by kernel_rfl) (by kernel_rfl) ?_ | refine WP.flowW 5 fle42571f68c [23, 24, 25, 26, 27] [26, 27, 1026] [26, 1026] (by decide +kernel) (by kernel_rfl) (by kernel_rfl) (by kernel_rfl) ?_); simp only [go_sem, hli, h1, h3, tyAll, Nat.reduceAdd, Nat.reduceLT, Nat.reduceLeDiff, Nat.reduceEqDiff, Nat.reduceMul, Nat.reduceSub, Nat.reduceGT, reduceIte, Int.reduceNeg, Int.reduceToNat]) |  refine And.intro ?_ ?_ | intro _))
    all_goals first | omega | exact lenI ‹_› | exact lenY ‹_› | skip
    all_goals first | exact ⟨k + 1, by omega, by omega, rfl, by rw [h2]⟩ | exact ⟨k + 1, by omega, by omega, by rw [h2]⟩ | exact ⟨k + 1, by omega, by omega, rfl, rfl, by rw [h2]⟩ | skip
    all_goals trace_state
  · have hge : ¬ (k : Int) < T.length := by omega
    have h4 : (T.take k).map encMach = T.map encMach := by rw [List.take_of_length_le (by omega)]
    (repeat' (first | refine WP.seq ?_ | refine WP.block ?_ | ((first | refine WP.region ?_ | refine WP.condW ?_ | refine WP.ret ?_ | refine WP.exit ?_ | refine WP.skip ?_); simp only [go_sem, hge, h4, tyAll, Nat.reduceAdd, Nat.reduceLT, Nat.reduceLeDiff, Nat.reduceEqDiff, Nat.reduceMul, Nat.reduceSub, Nat.reduceGT, reduceIte, Int.reduceNeg, Int.reduceToNat]) | ((first | refine WP.flowW 11 flc2b4c9a03b [3, 6, 7, 8, 9, 10, 11, 12, 13, 14, 15] [3, 8, 1008, 2008] [] (by decide +kernel) (by kernel_rfl) (by kernel_rfl) (by kernel_rfl) ?_ | refine WP.flowW 5 flcf22be514b [23, 24, 25, 26, 27] [26, 27, 1026] [] (by decide +kernel) (by kernel_rfl) (by kernel_rfl) (by kernel_rfl) ?_); simp only [go_sem, hge, h4, tyAll, Nat.reduceAdd, Nat.reduceLT, Nat.reduceLeDiff, Nat.reduceEqDiff, Nat.reduceMul, Nat.reduceSub, Nat.reduceGT, reduceIte, Int.reduceNeg, Int.reduceToNat]) |  refine And.intro ?_ ?_ | intro _))
    all_goals first | omega | exact lenI ‹_› | exact lenY ‹_› | exact ⟨_, _, _, rfl⟩ | exact ⟨_, _, rfl, _, _, rfl, rfl⟩ | exact if_neg (by omega) | (rw [if_neg (by omega), if_neg (by omega)]; done) | (rw [if_neg (by omega), if_neg (by omega), if_neg (by omega)]; done) | (rw [if_neg (by omega), if_neg (by omega), if_neg (by omega), if_neg (by omega)]; done) | skip
    all_goals trace_state
end
section
attribute [local go_sem] aggPc
attribute [local irreducible] shMach
noncomputable def cxCppS : Cx := { P := Try.prog, tys := tys, C := [(34, ktoSpD), (35, ktoMachE)], hty := tysOk, hC := COk.cons ccpSpS (COk.cons ccpMachS (COk.nil _)) }
theorem cxCppS_t : cxCppS.tys = tys := rfl
theorem cxCppS_c : cxCppS.C = [(34, ktoSpD), (35, ktoMachE)] := rfl
attribute [local go_sem] cxCppS_t cxCppS_c ktoSpD ktoMachE
set_option maxHeartbeats 4000000 in
theorem ccpPcS : Cn Try.prog 16 ktoPcD := by
  refine Cn.pur Try.func16 (by kernel_rfl) rfl fun d x hx => ?_
  obtain ⟨⟨I, B, E⟩, T, tu, le, sl⟩ := x
  obtain ⟨hsp, hT, hTs⟩ := hx
  have hsp2 := hsp
  obtain ⟨⟨hI, hIm⟩, hB, hE⟩ := hsp2
  simp only [aggPc] at hT hTs hI hIm hB hE ⊢
  refine Holds.go (c := cxCppS) Try.func16 rfl Try.results16 Try.ntmps16 (by omega) (by simp) rfl ?_
  intro X0 w0
  (repeat' (first | refine WP.seq ?_ | refine WP.block ?_ | ((first | refine WP.region ?_ | refine WP.condW ?_ | refine WP.ret ?_ | refine WP.exit ?_ | refine WP.skip ?_); simp only [go_sem, tyAll, Nat.reduceAdd, Nat.reduceLT, Nat.reduceLeDiff, Nat.reduceEqDiff, Nat.reduceMul, Nat.reduceSub, Nat.reduceGT, reduceIte, Int.reduceNeg, Int.reduceToNat]) | ((first | refine WP.flowW 9 fle63033bd90 [18, 19, 20, 21, 22, 23, 24, 25, 26] [25, 26, 1025] [] (by decide +kernel) (by kernel_rfl) (by kernel_rfl) (by kernel_rfl) ?_); simp only [go_sem, tyAll, Nat.reduceAdd, Nat.reduceLT, Nat.reduceLeDiff, Nat.reduceEqDiff, Nat.reduceMul, Nat.reduceSub, Nat.reduceGT, reduceIte, Int.reduceNeg, Int.reduceToNat]) |  refine And.intro ?_ ?_ | intro _))
  all_goals first | omega | exact lenI ‹_› | exact lenY ‹_› | exact hIm _ ‹_› | skip
  refine WP.ado [.b 3 3 27 72 7] ?_
  refine WP.gho [.dp 27] ?_
  simp only [go_sem, tyAll, Nat.reduceAdd, Nat.reduceLT, Nat.reduceLeDiff, Nat.reduceEqDiff, Nat.reduceMul, Nat.reduceSub, Nat.reduceGT, reduceIte, Int.reduceNeg, Int.reduceToNat]
  refine ⟨fun r hr => by simp at hr, ?_⟩
  refine WP.loop (fun k : Nat => ⟨[(1, .ptr 1 0 0 0), (2, .ptr 2 0 0 0), (3, .ptr 3 0 0 0), (4, .v (.int .i64 k))],
    [(1, .box 37 [.sl 2 (I.map encImage), .sl 1 (B.map encI), .sl 1 (E.map encI), .sl 7 (T.map encMach), .v (.int .i64 tu), .v (.int .i64 le), .v (.int .i64 sl)]),
     (2, .box 37 [.v (.slice none 0 0), .v (.slice none 0 0), .v (.slice none 0 0), .v (.slice none 0 0), .v (.int .i64 0), .v (.int .i64 0), .v (.int .i64 0)]), (3, .box 37 [.own 8, .own 1008, .own 2008, .own 27, .v (.int .i64 tu), .v (.int .i64 le), .v (.int .i64 sl)]),
     (8, .dp 93 2 (I.map encImage)), (1008, .sl 3 1 (B.map encI)), (2008, .sl 3 1 (E.map encI)), (27, .dp 72 7 ((T.take k).map encMach))]⟩)
    (fun k => k ≤ T.length) (fun k => T.length - k) 0 (by omega) ?_ ?_
  · (simp only [go_sem, tyAll, Nat.reduceAdd, Nat.reduceLT, Nat.reduceLeDiff, Nat.reduceEqDiff, Nat.reduceMul, Nat.reduceSub, Nat.reduceGT, reduceIte, Int.reduceNeg, Int.reduceToNat] <;> (first | rfl | exact ⟨rfl, rfl⟩ | exact ⟨rfl, rfl, rfl⟩ | exact ⟨rfl, rfl, rfl, rfl⟩ | exact ⟨rfl, rfl, rfl, rfl, rfl⟩ | exact ⟨⟨rfl, rfl⟩, rfl⟩ | simp))
  intro k hk
  refine WP.prep [] [(27, 50)] rfl ?_
  by_cases hlt : k < T.length
  · have hli : (k : Int) < T.length := by omega
    have h0 := hTs _ (List.getElem_mem hlt)
    have h1 := rowAt_map encMach T k hlt
    have h2 := take_map_succ encMach T k hlt
    have h3 : (T.take k).length = k := by simp; omega
    generalize T[k] = y at h0 h1 h2
    obtain ⟨y1, y2, y3, yS, yO, y6, y7⟩ := y
    obtain ⟨hS, hO⟩ := shMach_h h0
    rw [encMach] at h1 h2
    simp only at hS hO h1 h2
    (repeat' (first | refine WP.seq ?_ | refine WP.block ?_ | ((first | refine WP.region ?_ | refine WP.condW ?_ | refine WP.ret ?_ | refine WP.exit ?_ | refine WP.skip ?_); simp only [go_sem, hli, h1, h3, tyAll, Nat.reduceAdd, Nat.reduceLT, Nat.reduceLeDiff, Nat.reduceEqDiff, Nat.reduceMul, Nat.reduceSub, Nat.reduceGT, reduceIte, Int.reduceNeg, Int.reduceToNat]) | ((first | refine WP.flowW 9 fl8a99b3ce37 [18, 19, 20, 21, 22, 23, 24, 25, 26] [25, 26, 1025] [25, 1025] (by decide +kernel) (by kernel_rfl) (by kernel_rfl) (by kernel_rfl) ?_); simp only [go_sem, hli, h1, h3, tyAll, Nat.reduceAdd, Nat.reduceLT, Nat.reduceLeDiff, Nat.reduceEqDiff, Nat.reduceMul, Nat.reduceSub, Nat.reduceGT, reduceIte, Int.reduceNeg, Int.reduceToNat]) |  refine And.intro ?_ ?_ | intro _))
    all_goals first | omega | exact lenI ‹_› | exact lenY ‹_› | skip
    all_goals first | exact ⟨k + 1, by omega, by omega, rfl, by rw [h2]⟩ | exact ⟨k + 1, by omega, by omega, by rw [h2]⟩ | exact ⟨k + 1, by omega, by omega, rfl, rfl, by rw [h2]⟩ | skip
    all_goals trace_state
  · have hge : ¬ (k : Int) < T.length := by omega
    have h4 : (T.take k).map encMach = T.map encMach := by rw [List.take_of_length_le (by omega)]
    (repeat' (first | refine WP.seq ?_ | refine WP.block ?_ | ((first | refine WP.region ?_ | refine WP.condW ?_ | refine WP.ret ?_ | refine WP.exit ?_ | refine WP.skip ?_); simp only [go_sem, hge, h4, tyAll, Nat.reduceAdd, Nat.reduceLT, Nat.reduceLeDiff, Nat.reduceEqDiff, Nat.reduceMul, Nat.reduceSub, Nat.reduceGT, reduceIte, Int.reduceNeg, Int.reduceToNat]) | ((first | refine WP.flowW 9 fle63033bd90 [18, 19, 20, 21, 22, 23, 24, 25, 26] [25, 26, 1025] [] (by decide +kernel) (by kernel_rfl) (by kernel_rfl) (by kernel_rfl) ?_); simp only [go_sem, hge, h4, tyAll, Nat.reduceAdd, Nat.reduceLT, Nat.reduceLeDiff, Nat.reduceEqDiff, Nat.reduceMul, Nat.reduceSub, Nat.reduceGT, reduceIte, Int.reduceNeg, Int.reduceToNat]) |  refine And.intro ?_ ?_ | intro _))
    all_goals first | omega | exact lenI ‹_› | exact lenY ‹_› | exact ⟨_, _, _, rfl⟩ | exact ⟨_, _, rfl, _, _, rfl, rfl⟩ | exact if_neg (by omega) | (rw [if_neg (by omega), if_neg (by omega)]; done) | (rw [if_neg (by omega), if_neg (by omega), if_neg (by omega)]; done) | (rw [if_neg (by omega), if_neg (by omega), if_neg (by omega), if_neg (by omega)]; done) | skip
    all_goals trace_state
end
end
section
open Go.Vc
set_option linter.unusedSimpArgs false
set_option linter.unusedVariables false
set_option maxHeartbeats 1000000
attribute [local irreducible] Go.Vc.WP
attribute [local go_sem] cx0_t cx0_c

section
attribute [local go_sem] cxtoSymbol_t cxtoSymbol_c ktoSymbol oneSymbol
end

section
attribute [local go_sem] cxeqSymbol_t cxeqSymbol_c keqSymbol oneSymbol
end

section
attribute [local go_sem] cxszSymbol_t cxszSymbol_c kszSymbol oneSymbol
end
theorem extSymbol {a b : Symbol} (h0 : a.name = b.name) (h1 : a.start = b.start) (h2 : a.size = b.size) : a = b := by cases a; cases b; simp_all
def mrkSymbol (v : Int) : Symbol := ⟨markT (v), v + 1, v + 1 + 1⟩
def marksSymbol (k : Int) (n : Nat) : List Symbol := (List.range n).map fun i : Nat => mrkSymbol (k + 3 * (i : Int))
theorem marksSymbol_len (k : Int) (n : Nat) : (marksSymbol k n).length = n := by simp [marksSymbol]
def halfSymbol (L : List Symbol) (k0 : Int) (k : Nat) : List Symbol := marksSymbol k0 k ++ L.drop k
theorem halfSymbol_len (L : List Symbol) (k0 : Int) (k : Nat) (h : k ≤ L.length) : (halfSymbol L k0 k).length = L.length := by simp [halfSymbol, marksSymbol_len]; omega
theorem halfSymbol_set (L : List Symbol) (k0 : Int) (k : Nat) (h : k < L.length) : ((halfSymbol L k0 k).map encSymbol).set k (encSymbol (mrkSymbol (k0 + 3 * (k : Int)))) = (halfSymbol L k0 (k + 1)).map encSymbol := by
  rw [← List.map_set]
  congr 1
  unfold halfSymbol
  rw [List.set_append, if_neg (by simp [marksSymbol_len]), marksSymbol_len, Nat.sub_self, List.drop_eq_getElem_cons h, List.set_cons_zero]
  simp [marksSymbol, List.range_succ]
noncomputable def cxMkSymbol : Cx := { P := Try.prog, tys := tys, C := [(70, kmarkT)], hty := tysOk, hC := COk.cons cmarkT (COk.nil _) }
theorem cxMkSymbol_t : cxMkSymbol.tys = tys := rfl
theorem cxMkSymbol_c : cxMkSymbol.C = [(70, kmarkT)] := rfl
attribute [local go_sem] cxMkSymbol_t cxMkSymbol_c kmarkT

def kmarkSymbolS : Ctr := len [0] [] (fun args obs => (decSymbol (oR obs 1000000), aI args 1)) (fun x => [.own 1000000, .v (.int .i64 x.2)]) (fun x => [(1000000, .sl 108 3 (x.1.map encSymbol))]) (fun x => x.1.length ≤ 4398046511104 ∧ 0 ≤ x.2 ∧ x.2 ≤ 500000000000000)
  (fun _ x => .v (.int .i64 (x.2 + 3 * x.1.length))) (fun _ _ => []) (fun x => [(1000000, .sl 108 3 ((marksSymbol x.2 x.1.length).map encSymbol))])
theorem cmarkSymbolS : Cn Try.prog 71 kmarkSymbolS := by
  refine Cn.len Try.func71 (by kernel_rfl) rfl fun d x hd hx => ?_
  obtain ⟨L, k0⟩ := x
  obtain ⟨hL, h0, h1⟩ := hx
  simp only at hL h0 h1 ⊢
  refine HoldsL.go (c := cxMkSymbol) Try.func71 rfl Try.results71 Try.ntmps71 (by omega) (by simp) rfl (by simp <;> omega) (by simp [SV.owns2, SV.owns, SV.owns1]) (by simp) rfl rfl (by simp) ?_
  intro X0 M w0
  (repeat' (first | refine WP.seq ?_ | refine WP.block ?_ | ((first | refine WP.region ?_ | refine WP.condW ?_ | refine WP.ret ?_ | refine WP.exit ?_ | refine WP.skip ?_); simp only [go_sem, tyAll, Nat.reduceAdd, Nat.reduceLT, Nat.reduceLeDiff, Nat.reduceEqDiff, Nat.reduceMul, Nat.reduceSub, Nat.reduceGT, reduceIte, Int.reduceNeg, Int.reduceToNat]) |  refine And.intro ?_ ?_ | intro _))
  refine WP.loop (fun k : Nat => ⟨[(0, .own 1000000), (1, .v (.int .i64 (k0 + 3 * (k : Int)))), (5, .v (.int .i64 k))], [(1000000, .sl 108 3 ((halfSymbol L k0 k).map encSymbol))]⟩) (fun k => k ≤ L.length) (fun k => L.length - k) 0 (by omega) ?_ ?_
  · have e : halfSymbol L k0 0 = L := by simp [halfSymbol, marksSymbol]
    rw [e]; (simp only [go_sem, tyAll, Nat.reduceAdd, Nat.reduceLT, Nat.reduceLeDiff, Nat.reduceEqDiff, Nat.reduceMul, Nat.reduceSub, Nat.reduceGT, reduceIte, Int.reduceNeg, Int.reduceToNat] <;> (first | rfl | exact ⟨rfl, rfl⟩ | exact ⟨rfl, rfl, rfl⟩ | exact ⟨rfl, rfl, rfl, rfl⟩ | exact ⟨rfl, rfl, rfl, rfl, rfl⟩ | exact ⟨⟨rfl, rfl⟩, rfl⟩ | simp))
  intro k hk
  have h2 := halfSymbol_len L k0 k hk
  by_cases hlt : k < L.length
  · have h3 := halfSymbol_set L k0 k hlt
    rw [encSymbol, mrkSymbol] at h3
    simp only at h3
    have h4 := rowAt_map encSymbol (halfSymbol L k0 k) k (by omega)
    have h5 : ∀ r : List SV, Go.Vc.rowAt (((halfSymbol L k0 k).map encSymbol).set k r) k = r := fun r => rowAt_set _ _ _ (by rw [List.length_map]; omega)
    (repeat' (first | refine WP.seq ?_ | refine WP.block ?_ | ((first | refine WP.region ?_ | refine WP.condW ?_ | refine WP.ret ?_ | refine WP.exit ?_ | refine WP.skip ?_); simp only [go_sem, h2, h3, h4, h5, encSymbol, List.set_set, List.length_set, tyAll, Nat.reduceAdd, Nat.reduceLT, Nat.reduceLeDiff, Nat.reduceEqDiff, Nat.reduceMul, Nat.reduceSub, Nat.reduceGT, reduceIte, Int.reduceNeg, Int.reduceToNat]) |  refine And.intro ?_ ?_ | intro _))
    all_goals first | omega | skip
    refine ⟨k + 1, by omega, by omega, ⟨?_, rfl⟩, rfl⟩
    rw [show k0 + 3 * (k : Int) + 1 + 1 + 1 = k0 + 3 * ((k + 1 : Nat) : Int) by omega]
  · have h5 : halfSymbol L k0 k = marksSymbol k0 L.length := by rw [show k = L.length by omega]; simp [halfSymbol]
    have h6 := marksSymbol_len k0 L.length
    (repeat' (first | refine WP.seq ?_ | refine WP.block ?_ | ((first | refine WP.region ?_ | refine WP.condW ?_ | refine WP.ret ?_ | refine WP.exit ?_ | refine WP.skip ?_); simp only [go_sem, h2, h5, h6, tyAll, Nat.reduceAdd, Nat.reduceLT, Nat.reduceLeDiff, Nat.reduceEqDiff, Nat.reduceMul, Nat.reduceSub, Nat.reduceGT, reduceIte, Int.reduceNeg, Int.reduceToNat]) |  refine And.intro ?_ ?_ | intro _))
    all_goals first | omega | skip
    all_goals rw [show k = L.length by omega]

def kmarkSymbolE : Ctr := len [0] [] (fun args obs => (decSymbol (oR obs 1000000), aI args 1, oE obs 1000000)) (fun x => [.own 1000000, .v (.int .i64 x.2.1)]) (fun x => [(1000000, .sl x.2.2 3 (x.1.map encSymbol))]) (fun x => x.1.length ≤ 4398046511104 ∧ 0 ≤ x.2.1 ∧ x.2.1 ≤ 500000000000000)
  (fun _ x => .v (.int .i64 (x.2.1 + 3 * x.1.length))) (fun _ _ => []) (fun x => [(1000000, .sl x.2.2 3 ((marksSymbol x.2.1 x.1.length).map encSymbol))])
theorem cmarkSymbolE : Cn Try.prog 71 kmarkSymbolE := by
  refine Cn.len Try.func71 (by kernel_rfl) rfl fun d x hd hx => ?_
  obtain ⟨L, k0, ee⟩ := x
  obtain ⟨hL, h0, h1⟩ := hx
  simp only at hL h0 h1 ⊢
  refine HoldsL.go (c := cxMkSymbol) Try.func71 rfl Try.results71 Try.ntmps71 (by omega) (by simp) rfl (by simp <;> omega) (by simp [SV.owns2, SV.owns, SV.owns1]) (by simp) rfl rfl (by simp) ?_
  intro X0 M w0
  (repeat' (first | refine WP.seq ?_ | refine WP.block ?_ | ((first | refine WP.region ?_ | refine WP.condW ?_ | refine WP.ret ?_ | refine WP.exit ?_ | refine WP.skip ?_); simp only [go_sem, tyAll, Nat.reduceAdd, Nat.reduceLT, Nat.reduceLeDiff, Nat.reduceEqDiff, Nat.reduceMul, Nat.reduceSub, Nat.reduceGT, reduceIte, Int.reduceNeg, Int.reduceToNat]) |  refine And.intro ?_ ?_ | intro _))
  refine WP.loop (fun k : Nat => ⟨[(0, .own 1000000), (1, .v (.int .i64 (k0 + 3 * (k : Int)))), (5, .v (.int .i64 k))], [(1000000, .sl ee 3 ((halfSymbol L k0 k).map encSymbol))]⟩) (fun k => k ≤ L.length) (fun k => L.length - k) 0 (by omega) ?_ ?_
  · have e : halfSymbol L k0 0 = L := by simp [halfSymbol, marksSymbol]
    rw [e]; (simp only [go_sem, tyAll, Nat.reduceAdd, Nat.reduceLT, Nat.reduceLeDiff, Nat.reduceEqDiff, Nat.reduceMul, Nat.reduceSub, Nat.reduceGT, reduceIte, Int.reduceNeg, Int.reduceToNat] <;> (first | rfl | exact ⟨rfl, rfl⟩ | exact ⟨rfl, rfl, rfl⟩ | exact ⟨rfl, rfl, rfl, rfl⟩ | exact ⟨rfl, rfl, rfl, rfl, rfl⟩ | exact ⟨⟨rfl, rfl⟩, rfl⟩ | simp))
  intro k hk
  have h2 := halfSymbol_len L k0 k hk
  by_cases hlt : k < L.length
  · have h3 := halfSymbol_set L k0 k hlt
    rw [encSymbol, mrkSymbol] at h3
    simp only at h3
    have h4 := rowAt_map encSymbol (halfSymbol L k0 k) k (by omega)
    have h5 : ∀ r : List SV, Go.Vc.rowAt (((halfSymbol L k0 k).map encSymbol).set k r) k = r := fun r => rowAt_set _ _ _ (by rw [List.length_map]; omega)
    (repeat' (first | refine WP.seq ?_ | refine WP.block ?_ | ((first | refine WP.region ?_ | refine WP.condW ?_ | refine WP.ret ?_ | refine WP.exit ?_ | refine WP.skip ?_); simp only [go_sem, h2, h3, h4, h5, encSymbol, List.set_set, List.length_set, tyAll, Nat.reduceAdd, Nat.reduceLT, Nat.reduceLeDiff, Nat.reduceEqDiff, Nat.reduceMul, Nat.reduceSub, Nat.reduceGT, reduceIte, Int.reduceNeg, Int.reduceToNat]) |  refine And.intro ?_ ?_ | intro _))
    all_goals first | omega | skip
    refine ⟨k + 1, by omega, by omega, ⟨?_, rfl⟩, rfl⟩
    rw [show k0 + 3 * (k : Int) + 1 + 1 + 1 = k0 + 3 * ((k + 1 : Nat) : Int) by omega]
  · have h5 : halfSymbol L k0 k = marksSymbol k0 L.length := by rw [show k = L.length by omega]; simp [halfSymbol]
    have h6 := marksSymbol_len k0 L.length
    (repeat' (first | refine WP.seq ?_ | refine WP.block ?_ | ((first | refine WP.region ?_ | refine WP.condW ?_ | refine WP.ret ?_ | refine WP.exit ?_ | refine WP.skip ?_); simp only [go_sem, h2, h5, h6, tyAll, Nat.reduceAdd, Nat.reduceLT, Nat.reduceLeDiff, Nat.reduceEqDiff, Nat.reduceMul, Nat.reduceSub, Nat.reduceGT, reduceIte, Int.reduceNeg, Int.reduceToNat]) |  refine And.intro ?_ ?_ | intro _))
    all_goals first | omega | skip
    all_goals rw [show k = L.length by omega]

def kheldSymbolS : Ctr := pur (fun args => (decSymbol (aR args 0), aI args 1)) (fun x => [.sl 3 (x.1.map encSymbol), .v (.int .i64 x.2)]) (fun x => x.1.length ≤ 4398046511104 ∧ 0 ≤ x.2 ∧ x.2 ≤ 500000000000000)
  (fun _ x => .v (.int .i64 (if x.1 = marksSymbol x.2 x.1.length then x.2 + 3 * x.1.length else -1))) (fun _ _ => [])
theorem cheldSymbolS : Cn Try.prog 82 kheldSymbolS := by
  refine Cn.pur Try.func82 (by kernel_rfl) rfl fun d x hx => ?_
  obtain ⟨L, k0⟩ := x
  obtain ⟨hL, h0, h1⟩ := hx
  simp only at hL h0 h1 ⊢
  refine Holds.go (c := cxMkSymbol) Try.func82 rfl Try.results82 Try.ntmps82 (by omega) (by simp) rfl ?_
  intro X0 w0
  (repeat' (first | refine WP.seq ?_ | refine WP.block ?_ | ((first | refine WP.region ?_ | refine WP.condW ?_ | refine WP.ret ?_ | refine WP.exit ?_ | refine WP.skip ?_); simp only [go_sem, tyAll, Nat.reduceAdd, Nat.reduceLT, Nat.reduceLeDiff, Nat.reduceEqDiff, Nat.reduceMul, Nat.reduceSub, Nat.reduceGT, reduceIte, Int.reduceNeg, Int.reduceToNat]) | ((first | refine WP.drawW 8 (by decide +kernel) (by kernel_rfl) ?_); simp only [go_sem, tyAll, Nat.reduceAdd, Nat.reduceLT, Nat.reduceLeDiff, Nat.reduceEqDiff, Nat.reduceMul, Nat.reduceSub, Nat.reduceGT, reduceIte, Int.reduceNeg, Int.reduceToNat]) |  refine And.intro ?_ ?_ | intro _))
  refine WP.loop (fun k : Nat => ⟨[(0, .sl 3 (L.map encSymbol)), (1, .v (.int .i64 (k0 + 3 * (k : Int)))), (5, .v (.int .i64 k))], []⟩) (fun k => k ≤ L.length ∧ L.take k = marksSymbol k0 k) (fun k => L.length - k) 0 (by simp [marksSymbol]) ?_ ?_
  · (simp only [go_sem, tyAll, Nat.reduceAdd, Nat.reduceLT, Nat.reduceLeDiff, Nat.reduceEqDiff, Nat.reduceMul, Nat.reduceSub, Nat.reduceGT, reduceIte, Int.reduceNeg, Int.reduceToNat] <;> (first | rfl | exact ⟨rfl, rfl⟩ | exact ⟨rfl, rfl, rfl⟩ | exact ⟨rfl, rfl, rfl, rfl⟩ | exact ⟨rfl, rfl, rfl, rfl, rfl⟩ | exact ⟨⟨rfl, rfl⟩, rfl⟩ | simp))
  intro k ⟨hk, ht⟩
  by_cases hlt : k < L.length
  · have h3 := rowAt_map encSymbol L k hlt
    (repeat' (first | refine WP.seq ?_ | refine WP.block ?_ | ((first | refine WP.region ?_ | refine WP.condW ?_ | refine WP.ret ?_ | refine WP.exit ?_ | refine WP.skip ?_); simp only [go_sem, h3, encSymbol, tyAll, Nat.reduceAdd, Nat.reduceLT, Nat.reduceLeDiff, Nat.reduceEqDiff, Nat.reduceMul, Nat.reduceSub, Nat.reduceGT, reduceIte, Int.reduceNeg, Int.reduceToNat]) | ((first | refine WP.drawW 8 (by decide +kernel) (by kernel_rfl) ?_); simp only [go_sem, h3, encSymbol, tyAll, Nat.reduceAdd, Nat.reduceLT, Nat.reduceLeDiff, Nat.reduceEqDiff, Nat.reduceMul, Nat.reduceSub, Nat.reduceGT, reduceIte, Int.reduceNeg, Int.reduceToNat]) |  refine And.intro ?_ ?_ | intro _))
    all_goals first | omega | skip
    · rename_i hne
      rw [if_neg]
      intro e
      have e2 : L[k] = (marksSymbol k0 L.length)[k]'(by rw [marksSymbol_len]; exact hlt) := by congr 1
      exact hne (by rw [e2]; simp [marksSymbol, mrkSymbol])
    · rename_i hne
      rw [if_neg]
      intro e
      have e2 : L[k] = (marksSymbol k0 L.length)[k]'(by rw [marksSymbol_len]; exact hlt) := by congr 1
      exact hne (by rw [e2]; simp [marksSymbol, mrkSymbol])
    · rename_i hne
      rw [if_neg]
      intro e
      have e2 : L[k] = (marksSymbol k0 L.length)[k]'(by rw [marksSymbol_len]; exact hlt) := by congr 1
      exact hne (by rw [e2]; simp [marksSymbol, mrkSymbol])
    · rename_i g0 g1 g2
      refine ⟨k + 1, ⟨by omega, ?_⟩, by omega, ?_, rfl⟩
      · have he : L[k] = mrkSymbol (k0 + 3 * (k : Int)) := extSymbol g0 g1 g2
        rw [List.take_succ_eq_append_getElem hlt, ht, he]; simp [marksSymbol, List.range_succ]
      · rw [show k0 + 3 * (k : Int) + 1 + 1 + 1 = k0 + 3 * ((k + 1 : Nat) : Int) by omega]
  · (repeat' (first | refine WP.seq ?_ | refine WP.block ?_ | ((first | refine WP.region ?_ | refine WP.condW ?_ | refine WP.ret ?_ | refine WP.exit ?_ | refine WP.skip ?_); simp only [go_sem, tyAll, Nat.reduceAdd, Nat.reduceLT, Nat.reduceLeDiff, Nat.reduceEqDiff, Nat.reduceMul, Nat.reduceSub, Nat.reduceGT, reduceIte, Int.reduceNeg, Int.reduceToNat]) | ((first | refine WP.drawW 8 (by decide +kernel) (by kernel_rfl) ?_); simp only [go_sem, tyAll, Nat.reduceAdd, Nat.reduceLT, Nat.reduceLeDiff, Nat.reduceEqDiff, Nat.reduceMul, Nat.reduceSub, Nat.reduceGT, reduceIte, Int.reduceNeg, Int.reduceToNat]) |  refine And.intro ?_ ?_ | intro _))
    all_goals first | omega | skip
    rw [show k = L.length by omega, List.take_length] at ht
    rw [if_pos ht, show k = L.length by omega]
end
end Go.Proofs.Ytoomncljmgcidaa
