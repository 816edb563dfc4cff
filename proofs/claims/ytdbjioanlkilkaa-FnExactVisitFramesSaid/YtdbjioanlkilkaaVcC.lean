/-
  DERIVED. What VcB says of an operation that yields a value is what the model's run does.
-/
import Derived.Test.YtdbjioanlkilkaaVcB
namespace Go.Vc
set_option linter.unusedVariables false

section
variable {P : Program} {T : Nat} {d : TyD}

theorem TyOk.get (h : TyOk P T d) : ∃ i zv, P.info? T = some i ∧ i.size = d.size ∧ i.bytes = d.bytes ∧ i.zero = some zv ∧ zv.cells.toList = d.z := by
  have h1 := h.info
  cases hi : P.info? T with
  | none => rw [hi] at h1; cases h1
  | some i =>
    rw [hi] at h1
    simp only [Option.map_some, Option.some.injEq, Prod.mk.injEq] at h1
    obtain ⟨a, b, c⟩ := h1
    cases hz : i.zero with
    | none => rw [hz] at c; cases c
    | some zv => rw [hz] at c; exact ⟨i, zv, rfl, a, b, hz, by simpa using c⟩
theorem TyOk.sizeOf (h : TyOk P T d) (w : World) : (Go.sizeOf T).run P w = .ok d.size w := by
  obtain ⟨i, zv, hi, hs, _⟩ := h.get
  simp [Go.sizeOf, typeInfo, hi, hs]
theorem TyOk.typeInfo (h : TyOk P T d) (w : World) : ∃ i, (Go.typeInfo T).run P w = .ok i w ∧ i.bytes = d.bytes ∧ i.size = d.size := by
  obtain ⟨i, zv, hi, hs, hb, _⟩ := h.get
  exact ⟨i, by simp [Go.typeInfo, hi], hb, hs⟩
theorem TyOk.zero (h : TyOk P T d) (w : World) : ∃ zv, (zeroValue T).run P w = .ok zv w ∧ zv.cells.toList = d.z := by
  obtain ⟨i, zv, hi, hs, hb, hz, hc⟩ := h.get
  exact ⟨zv, by simp [zeroValue, Go.typeInfo, hi, hz], hc⟩
theorem TyOk.slice (h : TyOk P T d) (hk : d.kind = 1) : P.underlying T = some (.slice d.elem) := by have := h.und; rw [hk] at this; exact this
theorem TyOk.string (h : TyOk P T d) (hk : d.kind = 2) : P.underlying T = some .string := by have := h.und; rw [hk] at this; exact this
theorem TyOk.int (h : TyOk P T d) (hk : d.kind = 4) : ∃ k, d.ik = some k ∧ P.underlying T = some (.int k) := by
  have := h.und
  rw [hk] at this
  simp only at this
  cases hi : d.ik with
  | none => rw [hi] at this; exact this.elim
  | some k => rw [hi] at this; exact ⟨k, rfl, this⟩
theorem TyOk.bool (h : TyOk P T d) (hk : d.kind = 5) : P.underlying T = some .bool := by have := h.und; rw [hk] at this; exact this
theorem TyOk.struct (h : TyOk P T d) (hk : d.kind = 3) : ∃ fs, P.underlying T = some (.struct fs) ∧ (fs.toList.map fun f => (f.offset, ((P.info? f.type).map (·.size)).getD 0)) = d.offs := by
  have := h.und
  rw [hk] at this
  simp only at this
  cases hu : P.underlying T with
  | none => rw [hu] at this; cases this
  | some u =>
    rw [hu] at this
    cases u <;> simp only [reduceCtorEq, Option.some.injEq] at this
    exact ⟨_, rfl, this⟩
theorem TyOk.isAgg (h : TyOk P T d) (w : World) : (Go.isAgg T).run P w = .ok (d.kind == 3) w := by
  by_cases hk : d.kind = 3
  · obtain ⟨fs, hu, _⟩ := h.struct hk
    simp [Go.isAgg, run_underlying hu, hk]
  · have hf : (P.underlying T).map TypeDesc.flat = some true := by
      have := h.und
      split at this
      · exact absurd ‹_› hk
      · rw [this]; rfl
      · rw [this]; rfl
      · rename_i h4
        obtain ⟨k, _, hu⟩ := h.int h4
        rw [hu]; rfl
      · rw [this]; rfl
      · exact this
    cases hu : P.underlying T with
    | none => rw [hu] at hf; cases hf
    | some u =>
      rw [hu] at hf
      have hb : (d.kind == 3) = false := by simpa using hk
      rw [hb]
      cases u <;> first
        | (simp [TypeDesc.flat] at hf; done)
        | simp [Go.isAgg, run_underlying hu]
end

theorem add_none (b off j : Nat) : (⟨b, off, none⟩ : Addr).add j = ⟨b, off + j, none⟩ := by
  unfold Addr.add
  by_cases h : j = 0 <;> simp [h]

/-- a cell of what may only be read -/
theorem Rp.cell {w : World} {X : Nat → Prop} {s : Nat} {rows : List (List SV)} {b off cap : Nat} (h : Rp w X (.sl s rows) (.slice (some ⟨b, off, none⟩) rows.length cap)) {i : Nat} (hi : i < rows.length) :
    (rowAt rows i).length = s ∧ ∀ k, k < s → ∃ c u, (rowAt rows i)[k]? = some c ∧ w.cell? ⟨b, off + (i * s + k), none⟩ = some u ∧ u.oneCell' = true ∧ Rp w X c u := by
  have hr : rows[i]? = some (rows[i]'hi) := List.getElem?_eq_getElem hi
  have hrow : rowAt rows i = rows[i]'hi := by unfold rowAt; rw [hr]; rfl
  have key : ∀ v, v = Value.slice (some ⟨b, off, none⟩) rows.length cap → Rp w X (.sl s rows) v → (rowAt rows i).length = s ∧ ∀ k, k < s → ∃ c u, (rowAt rows i)[k]? = some c ∧ w.cell? ⟨b, off + (i * s + k), none⟩ = some u ∧ u.oneCell' = true ∧ Rp w X c u := by
    intro v hv h
    cases h with
    | nil s p cap => simp at hi
    | sl b' off' cap' us h1 h2 h3 h4 h5 h6 h7 =>
      injection hv with e1 e2 e3
      injection e1 with e1
      injection e1 with e4 e5 e6
      subst e4 e5
      have hl := h4 i _ hr
      rw [hrow]
      refine ⟨hl, fun k hk => ?_⟩
      have hc : (rows[i]'hi)[k]? = some ((rows[i]'hi)[k]'(by omega)) := List.getElem?_eq_getElem (by omega)
      exact ⟨_, us i k, hc, h5 i k _ _ hr hc, h6 i k _ _ hr hc, h7 i k _ _ hr hc⟩
  exact key _ rfl h

/-- a cell of an object of rows -/
theorem ObR.cell {w : World} {X : Nat → Prop} {β : Nat → BV} {v : BV} {e s : Nat} {rows : List (List SV)} (h : ObR w X β v (.sl e s rows)) {i : Nat} (hi : i < rows.length) :
    (rowAt rows i).length = s ∧ ∃ b cap, v = plain (.slice (some ⟨b, 0, none⟩) rows.length cap) ∧ ∀ k, k < s → ∃ c u, (rowAt rows i)[k]? = some c ∧ w.cell? ⟨b, i * s + k, none⟩ = some u ∧ u.oneCell' = true ∧ Rp w X c u := by
  have hr : rows[i]? = some (rows[i]'hi) := List.getElem?_eq_getElem hi
  have hrow : rowAt rows i = rows[i]'hi := by unfold rowAt; rw [hr]; rfl
  cases h with
  | nil => simp at hi
  | sl b cap cur us hv hh h1 h2 h3 h4 h5 h6 h7 =>
    have hl := h4 i _ hr
    rw [hrow]
    refine ⟨hl, b, cap, hv, fun k hk => ?_⟩
    have hc : (rows[i]'hi)[k]? = some ((rows[i]'hi)[k]'(by omega)) := List.getElem?_eq_getElem (by omega)
    exact ⟨_, us i k, hc, by simp only [World.cell?, hh]; exact h5 i k _ _ hr hc, h6 i k _ _ hr hc, h7 i k _ _ hr hc⟩

/-- .. of an open row -/
theorem ObR.cellQ {w : World} {X : Nat → Prop} {β : Nat → BV} {v : BV} {e s : Nat} {rows : List (List SV)} {i0 : Nat} {row0 : List SV} (h : ObR w X β v (.dq e s rows i0 row0)) :
    row0.length = s ∧ ∃ b cap, v.val = .slice (some ⟨b, 0, none⟩) rows.length cap ∧ ∀ k, k < s → ∃ c u, row0[k]? = some c ∧ w.cell? ⟨b, i0 * s + k, none⟩ = some u ∧ u.oneCell' = true ∧ R w X β c.shut u := by
  cases h with
  | dq b cap cur us fs hv hh h1 h2 h3 h4 h5 h6 h7 h8 h9 h10 =>
    refine ⟨h5, b, cap, hv, fun k hk => ?_⟩
    have hc : row0[k]? = some (row0[k]'(by omega)) := List.getElem?_eq_getElem (by omega)
    refine ⟨_, us i0 k, hc, by simp only [World.cell?, hh]; exact h7 i0 k h4 hk, h8 i0 k h4 hk, ?_⟩
    rcases h10 k _ hc with ⟨q1, q2⟩ | ⟨q1, q2, _⟩
    · generalize row0[k]'(by omega) = c at q1 q2
      cases c <;> first | exact .junk _ | cases q1
    · generalize row0[k]'(by omega) = c at q1 q2
      cases c <;> first | exact q2 | cases q1
/-- a list's shape -/
def Ob.shp : Ob → Option (Nat × Nat)
  | .sl _ s rows => some (s, rows.length)
  | .dp _ s rows => some (s, rows.length)
  | .dq _ s rows _ _ => some (s, rows.length)
  | _ => none
theorem ObR.shp {w : World} {X : Nat → Prop} {β : Nat → BV} {v : BV} {ob : Ob} {s n : Nat} (h : ObR w X β v ob) (ho : ob.shp = some (s, n)) : (v.val = .slice none 0 0 ∧ n = 0) ∨ ∃ b cap, v.val = .slice (some ⟨b, 0, none⟩) n cap ∧ n ≤ cap := by
  cases h with
  | nil e s' h0 => cases ho; rw [h0]; exact .inl ⟨rfl, rfl⟩
  | sl b cap cur us hv hh h1 => cases ho; rw [hv]; exact .inr ⟨b, cap, rfl, h1⟩
  | dp hd he =>
    cases ho
    generalize v.val = x at hd
    generalize v.ft = F at hd
    cases hd with
    | nil => exact .inl ⟨rfl, rfl⟩
    | sl e b cap cur us fs F hh h1 => exact .inr ⟨b, cap, rfl, h1⟩
  | dq b cap cur us fs hv hh h1 => cases ho; exact .inr ⟨b, cap, hv, h1⟩
  | _ => cases ho

theorem ObR.boxCell {w : World} {X : Nat → Prop} {β : Nat → BV} {v : BV} {e : Nat} {cs : List SV} (h : ObR w X β v (.box e cs)) :
    ∃ b, v = plain (.pointer (some ⟨b, 0, none⟩)) ∧ ∀ k, k < cs.length → ∃ c u, cs[k]? = some c ∧ w.cell? ⟨b, k, none⟩ = some u ∧ u.oneCell' = true ∧ R w X β c u := by
  cases h with
  | box b cur hv hh hl hc =>
    refine ⟨b, hv, fun k hk => ?_⟩
    have h1 : cs[k]? = some (cs[k]'hk) := List.getElem?_eq_getElem hk
    have h2 : cur[k]? = some (cur[k]'(by omega)) := Array.getElem?_eq_getElem (by omega)
    exact ⟨_, _, h1, by simp only [World.cell?, hh]; exact h2, (hc k _ _ h1 h2).1, (hc k _ _ h1 h2).2⟩

/-- a variable of type T read at cells that are known -/
theorem loadVar_ok {P : Program} {T : Nat} {d : TyD} (hT : TyOk P T d) {w : World} {X : Nat → Prop} {β : Nat → BV} {b off k : Nat} {row : List SV}
    (hk : k + d.size ≤ row.length) (hs : d.kind ≠ 3 → 0 < d.size)
    (h : ∀ j, j < d.size → ∃ c u, row[k + j]? = some c ∧ w.cell? ⟨b, off + (k + j), none⟩ = some u ∧ R w X β c u) :
    ∃ v, (loadVar T ⟨b, off + k, none⟩).run P w = .ok v w ∧ R w X β (cellsAt d.kind d.size row k) v := by
  unfold cellsAt
  by_cases h3 : d.kind = 3
  · rw [if_pos h3]
    have hb : (d.kind == 3) = true := by simpa using h3
    let f : Nat → Value := fun j => (w.cell? ⟨b, off + (k + j), none⟩).getD undef
    have hf : ∀ j, j < d.size → w.cell? ((⟨b, off + k, none⟩ : Addr).add j) = some (f j) := fun j hj => by
      obtain ⟨c, u, _, hu, _⟩ := h j hj
      rw [add_none, Nat.add_assoc]
      show _ = some ((w.cell? ⟨b, off + (k + j), none⟩).getD undef)
      rw [hu]; rfl
    refine ⟨.agg ((List.range d.size).map f).toArray, ?_, .agg (by simp; omega) fun j c u hc hu => ?_⟩
    · simp [loadVar, hT.isAgg, hb, hT.sizeOf, run_loadCells w _ d.size f hf]
    · have hj : j < d.size := by
        rcases Nat.lt_or_ge j d.size with h' | h'
        · exact h'
        · rw [List.getElem?_eq_none (by simp; omega)] at hu; cases hu
      obtain ⟨c', u', h1, h2, h3⟩ := h j hj
      rw [List.getElem?_take_of_lt hj, List.getElem?_drop, h1] at hc
      simp only [List.getElem?_map, List.getElem?_range hj, Option.map_some, Option.some.injEq] at hu
      cases hc
      subst hu
      show R w X β _ ((w.cell? ⟨b, off + (k + j), none⟩).getD undef)
      rw [h2]; exact h3
  · rw [if_neg h3]
    have hb : (d.kind == 3) = false := by simpa using h3
    obtain ⟨c, u, h1, h2, h3⟩ := h 0 (hs h3)
    simp only [Nat.add_zero] at h1 h2
    refine ⟨u, ?_, by rw [h1]; exact h3⟩
    simp [loadVar, hT.isAgg, hb, h2]


/-! ## cells of a value -/
theorem Rp.one_sl {w : World} {X : Nat → Prop} {s : Nat} {rows : List (List SV)} {v : Value} (h : Rp w X (.sl s rows) v) : v.oneCell' = true := by
  cases h <;> rfl
theorem R.one {w : World} {X : Nat → Prop} {β : Nat → BV} (hβ : ∀ i, (β i).val.oneCell' = true) {c : SV} {u : Value} (h : R w X β c u) (h1 : c.one = true) : u.oneCell' = true := by
  cases c with
  | v x => have := h.v_inv; subst this; exact h1
  | sl s rows => exact h.sl_inv.one_sl
  | own id => have := h.own_inv; subst this; exact hβ id
  | ptr id s i k => obtain ⟨b, _, rfl⟩ := h.ptr_inv; rfl
  | rptr s rows i k => obtain ⟨b, _, _, _, rfl⟩ := h.rptr_inv; rfl
  | fn f cs => obtain ⟨us, rfl, _⟩ := h.fn_inv; rfl
  | agg cs => cases h1
  | tup cs => cases h1
  | cond g x => cases h1
  | junk => cases h1
theorem R.pur {w : World} {X : Nat → Prop} {β : Nat → BV} {c : SV} {u : Value} (h : R w X β c u) (h1 : c.pur = true) : u.oneCell' = true ∧ Rp w X c u := by
  cases c with
  | v x => have := h.v_inv; subst this; exact ⟨h1, .v _⟩
  | sl s rows => exact ⟨h.sl_inv.one_sl, h.sl_inv⟩
  | _ => cases h1
/-- lists, and variables that hold nothing of one's own -/
def Ob.pb : Ob → Bool
  | .sl _ _ _ => true
  | .box _ cs => cs.all SV.pur
  | .mp _ _ => true
  | .dp _ _ _ => true
  | .dq _ _ _ _ _ => false
theorem ObR.pb_beta {w : World} {X : Nat → Prop} {β β' : Nat → BV} {v : BV} {ob : Ob} (hb : ob.pb = true) (h : ObR w X β v ob) : ObR w X β' v ob := by
  cases h with
  | nil e s h => exact .nil e s h
  | sl b cap cur us hv hh h1 h2 h3 h4 h5 h6 h7 => exact .sl b cap cur us hv hh h1 h2 h3 h4 h5 h6 h7
  | box b cur hv hh hl hc => exact .box b cur hv hh hl fun k c u h1 h2 => ⟨(hc k c u h1 h2).1, .p ((hc k c u h1 h2).2.pur (List.all_eq_true.1 hb c (List.mem_of_getElem? h1))).2⟩
  | mp b clock ents hv hh he => exact .mp b clock ents hv hh he
  | dp hd he => exact .dp hd he
  | dq => cases hb

theorem cells_one {v : Value} (h : v.oneCell' = true) : v.cells = #[v] := by cases v <;> first | rfl | (simp [Value.oneCell'] at h)

theorem R.cells {w : World} {X : Nat → Prop} {β : Nat → BV} (hβ : ∀ i, (β i).val.oneCell' = true) {x : SV} {v : Value} (h : R w X β x v) (hx : x.cells.all SV.one = true) :
    v.cells.size = x.cells.length ∧ ∀ (k : Nat) (c : SV) (u : Value), x.cells[k]? = some c → v.cells[k]? = some u → R w X β c u := by
  have single : ∀ {y : SV}, y.cells = [y] → x = y → v.cells.size = x.cells.length ∧ ∀ (k : Nat) (c : SV) (u : Value), x.cells[k]? = some c → v.cells[k]? = some u → R w X β c u := fun {y} hy e => by
    subst e
    rw [hy] at hx ⊢
    have h1 := cells_one (h.one hβ (by simpa using hx))
    rw [h1]
    refine ⟨rfl, fun k c u hc hu => ?_⟩
    cases k with
    | zero =>
      simp at hc hu
      subst hc hu
      exact h
    | succ k => simp at hc
  cases x with
  | agg cs =>
    obtain ⟨us, rfl, hl, hh⟩ := h.agg_inv
    exact ⟨by simp [Value.cells, SV.cells, hl], fun k c u hc hu => hh k c u hc (by simpa [Value.cells] using hu)⟩
  | v y =>
    cases y with
    | agg us =>
      have := h.v_inv
      subst this
      refine ⟨by simp [Value.cells, SV.cells], fun k c u hc hu => ?_⟩
      simp only [SV.cells, List.getElem?_map, Array.getElem?_toList] at hc
      simp only [Value.cells] at hu
      rw [hu] at hc
      simp only [Option.map_some, Option.some.injEq] at hc
      subst hc
      exact .p (.v _)
    | _ => exact single rfl rfl
  | _ => exact single rfl rfl

theorem R.cellsOne {w : World} {X : Nat → Prop} {β : Nat → BV} (hβ : ∀ i, (β i).val.oneCell' = true) {x : SV} {v : Value} (h : R w X β x v) (hx : x.cells.all SV.one = true) :
    ∀ u ∈ v.cells.toList, u.oneCell' = true := by
  intro u hu
  obtain ⟨k, hk⟩ := List.mem_iff_getElem?.1 hu
  rw [Array.getElem?_toList] at hk
  obtain ⟨hs, hc⟩ := h.cells hβ hx
  have hlt : k < v.cells.size := (Array.getElem?_eq_some_iff.1 hk).1
  have hx1 : x.cells[k]? = some (x.cells[k]'(by omega)) := List.getElem?_eq_getElem (by omega)
  exact (hc k _ u hx1 hk).one hβ (List.all_eq_true.1 hx _ (List.mem_of_getElem? hx1))

theorem pur_one {l : List SV} (h : l.all SV.pur = true) : l.all SV.one = true := by
  rw [List.all_eq_true] at h ⊢
  intro c hc
  have := h c hc
  cases c <;> first | exact this | rfl | cases this

theorem fold_list (off : Nat) : ∀ (l : List Value) (k : Nat) (cells : Array Value), off + k + l.length ≤ cells.size →
    ((l.zipIdx k).foldl (fun cs (p : Value × Nat) => cs.setIfInBounds (off + p.2) p.1) cells).toList = cells.toList.take (off + k) ++ l ++ cells.toList.drop (off + k + l.length)
  | [], k, cells, _ => by simp
  | v :: l, k, cells, h => by
    simp only [List.zipIdx_cons, List.foldl_cons]
    rw [fold_list off l (k + 1) _ (by simp only [Array.size_setIfInBounds]; simp only [List.length_cons] at h; omega)]
    have e := list_seg_step cells.toList (off + k) v l (by simp only [List.length_cons, Array.length_toList] at h ⊢; omega)
    simpa [Array.toList_setIfInBounds, Nat.add_assoc] using e

theorem fill_fold (off : Nat) (v cells : Array Value) (h : off + v.size ≤ cells.size) :
    (v.zipIdx.foldl (fun cs (c, j) => cs.setIfInBounds (off + j) c) cells).toList = cells.toList.take off ++ v.toList ++ cells.toList.drop (off + v.size) := by
  have := fold_list off v.toList 0 cells (by simpa using h)
  rw [← Array.foldl_toList]
  simpa using this

theorem splice_get {α : Type} (l new : List α) (off j : Nat) (h : off + new.length ≤ l.length) :
    (l.take off ++ new ++ l.drop (off + new.length))[j]? = if j < off then l[j]? else if j < off + new.length then new[j - off]? else l[j]? := by
  have hl : (l.take off).length = off := by simp; omega
  by_cases h1 : j < off
  · rw [if_pos h1, List.append_assoc, List.getElem?_append_left (by omega), List.getElem?_take_of_lt h1]
  · rw [if_neg h1]
    by_cases h2 : j < off + new.length
    · rw [if_pos h2, List.append_assoc, List.getElem?_append_right (by omega), hl, List.getElem?_append_left (by omega)]
    · rw [if_neg h2, List.getElem?_append_right (by simp; omega), List.getElem?_drop]
      congr 1
      simp [Nat.min_eq_left (show off ≤ l.length by omega)]
      omega

section
variable {P : Program} {tys : List (Nat × TyD)} {N : Nat} {X0 : Nat → Prop} {M : Nat → BV → Prop} {w0 : World} {st : St} {β : Nat → BV} {a : Act} {w : World}

def Yl (P : Program) (X : Nat → Prop) (β : Nat → BV) (a : Act) (w : World) (o : Oper) (x : SV) : Prop := ∃ v, (execOp a.eval o).run P w = .ok (.value v) w ∧ R w X β x v

theorem pr_load (hty : ∀ T d, lk T tys = some d → TyOk P T d) (h : Sim N X0 M w0 st β a w) {o : Oper} {T : Nat} {x : Operand} (ho : o.op = .load T x) {ob : Prop} {y : SV}
    (hp : st.pr tys (.load T x) = some (ob, y)) (hob : ob) : Yl P (XX X0 β st.hp) β a w o y := by
  simp only [St.pr] at hp
  cases hd : lk T tys with
  | none => rw [hd] at hp; cases hx : (st.ev x).strip <;> rw [hx] at hp <;> cases hp
  | some d =>
    rw [hd] at hp
    have hT := hty T d hd
    have fin : ∀ {b off k : Nat} {row : List SV}, a.eval x = .pointer (some ⟨b, off + k, none⟩) → k + d.size ≤ row.length →
        (∀ j, j < d.size → ∃ c u, row[k + j]? = some c ∧ w.cell? ⟨b, off + (k + j), none⟩ = some u ∧ R w (XX X0 β st.hp) β c u) →
        Yl P (XX X0 β st.hp) β a w o (cellsAt d.kind d.size row k) := fun {b off k row} hv hk hc => by
      obtain ⟨v, hr, hR⟩ := loadVar_ok hT hk hT.one hc
      exact ⟨v, by simp [execOp, ho, hv, Instr.loadAt, Instr.sureAddr, hr], hR⟩
    cases hx : (st.ev x).strip <;> rw [hx] at hp <;> simp only [reduceCtorEq] at hp
    case ptr id s i k =>
      cases hl : lk id st.hp with
      | none => rw [hl] at hp; cases hp
      | some obj =>
        rw [hl] at hp
        cases obj with
        | mp e es => cases hp
        | dp e s' rows => cases hp
        | dq e s' rows i0 row0 =>
          simp only [Option.some.injEq, Prod.mk.injEq] at hp
          obtain ⟨rfl, rfl⟩ := hp
          obtain ⟨hn, rfl, rfl, hk⟩ := hob
          obtain ⟨b', hb', hv⟩ := (St.ev_strip h hx hn).ptr_inv
          obtain ⟨hlen, b, cap, hvb, hc⟩ := (h.objs id _ hl).cellQ
          have hbb : b' = b := by rw [hvb] at hb'; simpa [blk, plain] using hb'.symm
          subst hbb
          refine fin (off := i * s) hv (by rw [List.length_map]; omega) fun j hj => ?_
          obtain ⟨c, u, h1, h2, _, h3⟩ := hc (k + j) (by omega)
          exact ⟨c.shut, u, by rw [List.getElem?_map, h1]; rfl, by simpa [Nat.add_assoc] using h2, h3⟩
        | box e cs =>
          simp only [Option.some.injEq, Prod.mk.injEq] at hp
          obtain ⟨rfl, rfl⟩ := hp
          obtain ⟨hn, rfl, hk⟩ := hob
          obtain ⟨b', hb', hv⟩ := (St.ev_strip h hx hn).ptr_inv
          obtain ⟨b, hvb, hc⟩ := (h.objs id _ hl).boxCell
          have hbb : b' = b := by rw [hvb] at hb'; simpa [blk, plain] using hb'.symm
          subst hbb
          refine fin (b := b') (off := 0) (by rw [hv]; simp) hk fun j hj => ?_
          obtain ⟨c, u, h1, h2, _, h3⟩ := hc (k + j) (by omega)
          exact ⟨c, u, h1, by simpa using h2, h3⟩
        | sl e s' rows =>
          simp only [Option.some.injEq, Prod.mk.injEq] at hp
          obtain ⟨rfl, rfl⟩ := hp
          obtain ⟨hn, rfl, hi, hk⟩ := hob
          obtain ⟨b', hb', hv⟩ := (St.ev_strip h hx hn).ptr_inv
          obtain ⟨hlen, b, cap, hvb, hc⟩ := (h.objs id _ hl).cell hi
          have hbb : b' = b := by rw [hvb] at hb'; simpa [blk, plain] using hb'.symm
          subst hbb
          refine fin (off := i * s) hv (by omega) fun j hj => ?_
          obtain ⟨c, u, h1, h2, _, h3⟩ := hc (k + j) (by omega)
          exact ⟨c, u, h1, by simpa [Nat.add_assoc] using h2, .p h3⟩
    case rptr s rows i k =>
      simp only [Option.some.injEq, Prod.mk.injEq] at hp
      obtain ⟨rfl, rfl⟩ := hp
      obtain ⟨hn, hi, hk⟩ := hob
      obtain ⟨b, off, cap, hr, hv⟩ := (St.ev_strip h hx hn).rptr_inv
      obtain ⟨hlen, hc⟩ := hr.cell hi
      refine fin (off := off + i * s) (by rw [hv, Nat.add_assoc]) (by omega) fun j hj => ?_
      obtain ⟨c, u, h1, h2, _, h3⟩ := hc (k + j) (by omega)
      exact ⟨c, u, h1, by simpa [Nat.add_assoc] using h2, .p h3⟩

theorem slice_form {X : Nat → Prop} {s : Nat} {rows : List (List SV)} {v : Value} (h : Rp w X (.sl s rows) v) : ((∃ p cap, v = .slice p 0 cap) ∧ rows = []) ∨ ∃ b off cap, v = .slice (some ⟨b, off, none⟩) rows.length cap ∧ rows.length ≤ cap := by
  cases h with
  | nil s p cap => exact .inl ⟨⟨p, cap, rfl⟩, rfl⟩
  | sl b off cap us _ _ h3 => exact .inr ⟨b, off, cap, rfl, h3⟩
theorem own_form {X : Nat → Prop} {e s : Nat} {rows : List (List SV)} {v : BV} (h : ObR w X β v (.sl e s rows)) : (v = nilB ∧ rows = []) ∨ ∃ b cap, v = plain (.slice (some ⟨b, 0, none⟩) rows.length cap) ∧ rows.length ≤ cap := by
  cases h with
  | nil e s h => exact .inl ⟨h, rfl⟩
  | sl b cap cur us hv _ h3 => exact .inr ⟨b, cap, hv, h3⟩

theorem pr_indexAddr (hty : ∀ T d, lk T tys = some d → TyOk P T d) (h : Sim N X0 M w0 st β a w) {o : Oper} {T : Nat} {x ix : Operand} (ho : o.op = .indexAddr T x ix) {ob : Prop} {y : SV}
    (hp : st.pr tys (.indexAddr T x ix) = some (ob, y)) (hob : ob) : Yl P (XX X0 β st.hp) β a w o y := by
  simp only [St.pr] at hp
  have fin : ∀ {d de : TyD} {b off n cap : Nat} {i : Int}, lk T tys = some d → d.kind = 1 → lk d.elem tys = some de → a.eval x = .slice (some ⟨b, off, none⟩) n cap → a.eval ix = .int .i64 i → 0 ≤ i → i < (n : Int) →
      (execOp a.eval o).run P w = .ok (.value (.pointer (some ⟨b, off + i.toNat * de.size, none⟩))) w := fun {d de b off n cap i} hd hk he hv hi h0 h1 => by
    have hT := hty T d hd
    have hE := hty d.elem de he
    simp [execOp, ho, hv, hi, Instr.indexAt, run_underlying (hT.slice hk), hE.sizeOf, add_none, asIntOf, h0, h1]
  cases hd : lk T tys with
  | none => rw [hd] at hp; simp at hp
  | some d =>
    rw [hd] at hp
    cases hx : (st.ev x).strip <;> rw [hx] at hp <;> try (simp only [reduceCtorEq] at hp; done)
    case sl s rows =>
      split at hp
      case h_1 q0 q1 q2 _ _ _ n hq0 hq1 hq2 =>
        cases hq0
        cases hq1
        split at hp
        · rename_i hk
          simp only [Option.some.injEq, Prod.mk.injEq] at hp
          obtain ⟨rfl, rfl⟩ := hp
          obtain ⟨hn, hn2, hs, h0, h1⟩ := hob
          cases he : lk d.elem tys with
          | none => rw [he] at hs; cases hs
          | some de =>
            rw [he] at hs
            have hs' : de.size = s := by simpa using hs
            have hr := (St.ev_strip h hx hn).sl_inv
            have hi := (St.ev_strip h hq2 hn2).v_inv
            rcases slice_form hr with ⟨_, hnil⟩ | ⟨b, off, cap, hv, hcap⟩
            · subst hnil; simp at h1; omega
            · refine ⟨_, fin hd hk he hv hi h0 h1, ?_⟩
              rw [hs']
              rw [hv] at hr
              have := R.rptr (β := β) s rows n.toNat 0 b off cap hr
              simpa using this
        · cases hp
      all_goals first | (cases hp; done) | (exfalso; simp_all; done)
    case own id =>
      split at hp
      case h_2 q0 q1 q2 _ _ n hq0 hq1 hq2 =>
        cases hq0
        cases hq1
        split at hp
        · rename_i hk
          have go : ∀ {ob' : Ob} {s n' : Nat}, lk id st.hp = some ob' → ob'.shp = some (s, n') → (st.ev x).need ∧ (st.ev ix).need ∧ (lk d.elem tys).map (·.size) = some s ∧ 0 ≤ n ∧ n < (n' : Int) → Yl P (XX X0 β st.hp) β a w o (.ptr id s n.toNat 0) := fun {ob' s n'} hl hsh ⟨hn, hn2, hs, h0, h1⟩ => by
            cases he : lk d.elem tys with
            | none => rw [he] at hs; cases hs
            | some de =>
              rw [he] at hs
              have hs' : de.size = s := by simpa using hs
              have hv := (St.ev_strip h hx hn).own_inv
              have hi := (St.ev_strip h hq2 hn2).v_inv
              rcases (h.objs id _ hl).shp hsh with ⟨_, hnil⟩ | ⟨b, cap, hv', hcap⟩
              · subst hnil; simp at h1; omega
              · refine ⟨_, fin hd hk he (hv.trans hv') hi h0 h1, ?_⟩
                rw [hs']
                have := R.ptr (w := w) (X := XX X0 β st.hp) (β := β) id s n.toNat 0 b (by rw [hv']; rfl)
                simpa using this
          split at hp
          · rename_i e s rows hl
            simp only [Option.some.injEq, Prod.mk.injEq] at hp
            obtain ⟨rfl, rfl⟩ := hp
            exact go hl rfl hob
          · rename_i e s rows hl
            simp only [Option.some.injEq, Prod.mk.injEq] at hp
            obtain ⟨rfl, rfl⟩ := hp
            exact go hl rfl hob
          · rename_i e s rows i0 row0 hl
            simp only [Option.some.injEq, Prod.mk.injEq] at hp
            obtain ⟨rfl, rfl⟩ := hp
            exact go hl rfl hob
          · cases hp
        · cases hp
      all_goals first | (cases hp; done) | (exfalso; simp_all; done)
end
end Go.Vc
