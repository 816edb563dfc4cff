/-
  DERIVED. From the library's contracts, as they stand ('Calls'), to contracts of values that stand for lists.
-/
import Derived.Test.YtolnapfgfdgifaaDoorVcK
import Derived.Sort.Grow
namespace Go.Vc
set_option linter.unusedVariables false

section
variable {P : Program} {f : FuncId}

/-- a call that answers a value that holds no memory, and leaves what was there as it was -/
theorem Holds.val {args : List SV} {res : SV} {x : Value} (hR : ∀ (w : World) (X : Nat → Prop) (β : Nat → Value), R w X β res x)
    (h : ∀ (w : World) (X : Nat → Prop) (vs : List Value), Grd P w → vs.length = args.length → (∀ (i : Nat) (c : SV) (u : Value), args[i]? = some c → vs[i]? = some u → R w X (fun _ => .slice none 0 0) c u) →
      Calls P f vs.toArray w fun e w' => e = .returned x ∧ Go.RowKit.Below w.heap.size w w') : Holds P f args res [] := by
  intro w X vs hG hX hl ha
  refine (h w X vs hG hl ha).mono fun e w' ⟨he, hb⟩ => ?_
  exact ⟨x, fun _ => .slice none 0 0, he, hb, fun _ => rfl, hR _ _ _, ⟨fun id ob hi => (by cases hi), fun i j oi oj b hi => (by cases hi)⟩, fun id ob b hi => (by cases hi)⟩

theorem args_v {w : World} {X : Nat → Prop} {β : Nat → Value} {vs xs : List Value} (hl : vs.length = (xs.map SV.v).length) (ha : ∀ (i : Nat) (c : SV) (u : Value), (xs.map SV.v)[i]? = some c → vs[i]? = some u → R w X β c u) : vs = xs := by
  apply List.ext_getElem?
  intro i
  by_cases hi : i < xs.length
  · have h1 : (xs.map SV.v)[i]? = some (.v xs[i]) := by rw [List.getElem?_map, List.getElem?_eq_getElem hi]; rfl
    have hv : i < vs.length := by rw [hl, List.length_map]; exact hi
    have := (ha i _ vs[i] h1 (List.getElem?_eq_getElem hv)).v_inv
    rw [List.getElem?_eq_getElem hv, List.getElem?_eq_getElem hi, this]
  · rw [List.getElem?_eq_none (by rw [hl, List.length_map]; omega), List.getElem?_eq_none (by omega)]

/-- .. of scalars -/
theorem Holds.valV {xs : List Value} {res : SV} {x : Value} (hR : ∀ (w : World) (X : Nat → Prop) (β : Nat → Value), R w X β res x)
    (h : ∀ (w : World), Grd P w → Calls P f xs.toArray w fun e w' => e = .returned x ∧ Go.RowKit.Below w.heap.size w w') : Holds P f (xs.map SV.v) res [] :=
  Holds.val hR fun w X vs hG hl ha => by rw [args_v hl ha]; exact h w hG

/-- a call that hands back a list of its own, of cells that hold no memory, in the first new block -/
theorem Holds.newV {args : List SV} {d e s cap : Nat} {rows : List (List Value)} {cur : Array Value} (hcap : rows.length ≤ cap) (hmax : cap ≤ maxLen) (hsz : cur.size = cap * s) (hlen : ∀ row ∈ rows, row.length = s)
    (hcell : ∀ (i k : Nat) (row : List Value) (u : Value), rows[i]? = some row → row[k]? = some u → cur[i * s + k]? = some u ∧ u.oneCell' = true)
    (h : ∀ (w : World) (X : Nat → Prop) (vs : List Value), Grd P w → vs.length = args.length → (∀ (i : Nat) (c : SV) (u : Value), args[i]? = some c → vs[i]? = some u → R w X (fun _ => .slice none 0 0) c u) →
      Calls P f vs.toArray w fun en w' => en = .returned (.slice (some ⟨w.heap.size, 0, none⟩) rows.length cap) ∧ w' = w.alloc (.cells cur e (0, 0))) : Holds P f args (.own d) [(d, .sl e s (rows.map fun r => r.map SV.v))] := by
  intro w X vs hG hX hl ha
  refine (h w X vs hG hl ha).mono fun en w' ⟨he, hw⟩ => ?_
  subst hw
  have hblk : ∀ k, k < w.heap.size → (w.alloc (.cells cur e (0, 0))).heap[k]? = w.heap[k]? := fun k hk => by
    show (w.heap.push _)[k]? = _
    rw [Array.getElem?_push, if_neg (by omega)]
  have hnew : (w.alloc (.cells cur e (0, 0))).heap[w.heap.size]? = some (.cells cur e (0, 0)) := by
    show (w.heap.push _)[w.heap.size]? = _
    rw [Array.getElem?_push, if_pos rfl]
  refine ⟨_, fun _ => .slice (some ⟨w.heap.size, 0, none⟩) rows.length cap, he, ⟨rfl, rfl, rfl, ?_, hblk⟩, fun _ => rfl, .own d, ⟨fun id ob hi => ?_, fun i j oi oj b hi hj _ _ => ?_⟩, fun id ob b hi hb => ?_⟩
  · show _ ≤ (w.heap.push _).size
    rw [Array.size_push]; omega
  · simp only [lk] at hi
    split at hi
    · cases hi
      have hget : ∀ (i k : Nat) (row : List SV) (c : SV), (rows.map fun r => r.map SV.v)[i]? = some row → row[k]? = some c → ∃ r u, rows[i]? = some r ∧ r[k]? = some u ∧ c = .v u := fun i k row c hr hc => by
        rw [List.getElem?_map] at hr
        cases hx : rows[i]? with
        | none => rw [hx] at hr; cases hr
        | some r =>
          rw [hx] at hr
          simp only [Option.map_some, Option.some.injEq] at hr
          subst hr
          rw [List.getElem?_map] at hc
          cases hu : r[k]? with
          | none => rw [hu] at hc; cases hc
          | some u => rw [hu] at hc; simp only [Option.map_some, Option.some.injEq] at hc; exact ⟨r, u, rfl, hu, hc.symm⟩
      refine .sl w.heap.size cap cur (fun i k => (cur[i * s + k]?).getD undef) (by simp) hnew (by simpa using hcap) hmax hsz (fun i row hr => ?_) (fun i k row c hr hc => ?_) (fun i k row c hr hc => ?_) (fun i k row c hr hc => ?_)
      · rw [List.getElem?_map] at hr
        cases hx : rows[i]? with
        | none => rw [hx] at hr; cases hr
        | some r =>
          rw [hx] at hr
          simp only [Option.map_some, Option.some.injEq] at hr
          subst hr
          simpa using hlen r (List.mem_of_getElem? hx)
      · obtain ⟨r, u, h1, h2, rfl⟩ := hget i k row c hr hc
        rw [(hcell i k r u h1 h2).1]; rfl
      · obtain ⟨r, u, h1, h2, rfl⟩ := hget i k row c hr hc
        rw [(hcell i k r u h1 h2).1]; exact (hcell i k r u h1 h2).2
      · obtain ⟨r, u, h1, h2, rfl⟩ := hget i k row c hr hc
        rw [(hcell i k r u h1 h2).1]; exact .v u
    · cases hi
  · simp only [lk] at hi hj
    split at hi
    · split at hj
      · rename_i e1 e2; rw [e1, e2]
      · cases hj
    · cases hi
  · cases hb
    exact Nat.le_refl _

/-- what a list that may be read is, as a value -/
theorem R.sl_form {w : World} {X : Nat → Prop} {β : Nat → Value} {s : Nat} {rows : List (List SV)} {v : Value} (h : R w X β (.sl s rows) v) :
    (rows = [] ∧ ∃ p cap, v = .slice p 0 cap) ∨ ∃ b off cap, v = .slice (some ⟨b, off, none⟩) rows.length cap ∧ ¬ X b ∧ b < w.heap.size ∧ rows.length ≤ cap ∧
      ∀ (i k : Nat) (row : List SV) (c : SV), rows[i]? = some row → row[k]? = some c → ∃ u, w.cell? ⟨b, off + (i * s + k), none⟩ = some u ∧ Rp w X c u := by
  have h := h.sl_inv
  cases h with
  | nil s p cap => exact .inl ⟨rfl, p, cap, rfl⟩
  | sl b off cap us h1 h2 h3 h4 h5 h6 h7 => exact .inr ⟨b, off, cap, rfl, h1, h2, h3, fun i k row c hr hc => ⟨us i k, h5 i k row c hr hc, h7 i k row c hr hc⟩⟩

theorem ObR.sl_form {w : World} {X : Nat → Prop} {β : Nat → Value} {v : Value} {e s : Nat} {rows : List (List SV)} (h : ObR w X β v (.sl e s rows)) :
    (v = .slice none 0 0 ∧ rows = []) ∨ ∃ (b cap : Nat) (cur : Array Value) (us : Nat → Nat → Value), v = .slice (some ⟨b, 0, none⟩) rows.length cap ∧ w.heap[b]? = some (.cells cur e (0, 0)) ∧ rows.length ≤ cap ∧ cap ≤ maxLen ∧ cur.size = cap * s ∧
      (∀ (i : Nat) (row : List SV), rows[i]? = some row → row.length = s) ∧ ∀ (i k : Nat) (row : List SV) (c : SV), rows[i]? = some row → row[k]? = some c → cur[i * s + k]? = some (us i k) ∧ (us i k).oneCell' = true ∧ Rp w X c (us i k) := by
  cases h with
  | nil e s h => exact .inl ⟨h, rfl⟩
  | sl b cap cur us hv hh h1 h2 h3 h4 h5 h6 h7 => exact .inr ⟨b, cap, cur, us, hv, hh, h1, h2, h3, h4, fun i k row c a b => ⟨h5 i k row c a b, h6 i k row c a b, h7 i k row c a b⟩⟩

/-- what a call that changes the cells of one list that it is lent leaves of the world -/
structure Upd (w w' : World) (b e : Nat) (cur cur' : Array Value) : Prop where
  os : w'.os = w.os
  tape : w'.tape = w.tape
  output : w'.output = w.output
  size : w.heap.size ≤ w'.heap.size
  cells : w'.heap[b]? = some (.cells cur' e (0, 0))
  len : cur'.size = cur.size
  other : ∀ k, k < w.heap.size → k ≠ b → w'.heap[k]? = w.heap[k]?

def vrows (rows : List (List Value)) : List (List SV) := rows.map fun r => r.map SV.v
theorem vrows_get {rows : List (List Value)} {i k : Nat} {row : List SV} {c : SV} (hr : (vrows rows)[i]? = some row) (hc : row[k]? = some c) : ∃ r u, rows[i]? = some r ∧ r[k]? = some u ∧ c = .v u := by
  unfold vrows at hr
  rw [List.getElem?_map] at hr
  cases hx : rows[i]? with
  | none => rw [hx] at hr; cases hr
  | some r =>
    rw [hx] at hr
    simp only [Option.map_some, Option.some.injEq] at hr
    subst hr
    rw [List.getElem?_map] at hc
    cases hu : r[k]? with
    | none => rw [hu] at hc; cases hc
    | some u => rw [hu] at hc; simp only [Option.map_some, Option.some.injEq] at hc; exact ⟨r, u, rfl, hu, hc.symm⟩
theorem vrows_len {rows : List (List Value)} {i s : Nat} {row : List SV} (hr : (vrows rows)[i]? = some row) (h : ∀ r ∈ rows, r.length = s) : row.length = s := by
  unfold vrows at hr
  rw [List.getElem?_map] at hr
  cases hx : rows[i]? with
  | none => rw [hx] at hr; cases hr
  | some r =>
    rw [hx] at hr
    simp only [Option.map_some, Option.some.injEq] at hr
    subst hr
    simpa using h r (List.mem_of_getElem? hx)

/-- a call that is lent one list (its first argument), whose other arguments are function values that capture nothing and scalars, and that answers nothing -/
theorem HoldsL.cells {e s : Nat} {rows rows' : List (List Value)} {rest : List SV} (hl0 : ∀ r ∈ rows, r.length = s) (hlr : rows'.length = rows.length) (hl1 : ∀ r ∈ rows', r.length = s)
    (hone : ∀ r ∈ rows', ∀ u ∈ r, u.oneCell' = true)
    (hnil : rows = [] → ∀ (w : World) (us : List Value), us.length = rest.length → (∀ (i : Nat) (c : SV) (u : Value), rest[i]? = some c → us[i]? = some u → R w (fun _ => False) (fun _ => .slice none 0 0) c u) →
      Calls P f ((Value.slice none 0 0 :: us).toArray) w fun en w' => en = .returned (.tuple #[]) ∧ Go.RowKit.Below w.heap.size w w')
    (hrest : ∀ c ∈ rest, (∃ g, c = .fn g []) ∨ ∃ x, c = .v x)
    (h : ∀ (w : World) (b cap : Nat) (cur : Array Value) (us : List Value), Grd P w → w.heap[b]? = some (.cells cur e (0, 0)) → rows.length ≤ cap → cap ≤ maxLen → cur.size = cap * s →
      (∀ (i k : Nat) (r : List Value) (u : Value), rows[i]? = some r → r[k]? = some u → cur[i * s + k]? = some u ∧ u.oneCell' = true) → us.length = rest.length →
      (∀ (i : Nat) (c : SV) (u : Value), rest[i]? = some c → us[i]? = some u → R w (fun _ => False) (fun _ => .slice none 0 0) c u) →
      Calls P f ((Value.slice (some ⟨b, 0, none⟩) rows.length cap :: us).toArray) w fun en w' => en = .returned (.tuple #[]) ∧ ∃ cur', Upd w w' b e cur cur' ∧
        ∀ (i k : Nat) (r : List Value) (u : Value), rows'[i]? = some r → r[k]? = some u → cur'[i * s + k]? = some u) :
    HoldsL P f (.own 1000000 :: rest) [(1000000, .sl e s (vrows rows))] (.tup []) [] [(1000000, .sl e s (vrows rows'))] := by
  intro w X β vs hG hβ hX hl ha hobs hlent
  match vs, hl, ha with
  | v0 :: us, hl, ha =>
    have hv0 := (ha 0 _ v0 rfl rfl).own_inv
    subst hv0
    have hus : us.length = rest.length := by simpa using hl
    have haR : ∀ (i : Nat) (c : SV) (u : Value), rest[i]? = some c → us[i]? = some u → R w (fun _ => False) (fun _ => .slice none 0 0) c u := fun i c u hc hu => by
      have h1 := ha (i + 1) c u (by simpa using hc) (by simpa using hu)
      rcases hrest c (List.mem_of_getElem? hc) with ⟨g, rfl⟩ | ⟨x, rfl⟩
      · obtain ⟨cs, rfl, hcl, _⟩ := h1.fn_inv
        have : cs = [] := List.eq_nil_of_length_eq_zero (by simpa using hcl.symm)
        subst this
        exact .fn rfl fun k c u hk => (by simp at hk)
      · have := h1.v_inv; subst this; exact .p (.v _)
    have hO := hobs.1 1000000 (.sl e s (vrows rows)) (by simp [lk])
    have hnoblk : ∀ {id ob}, lk id ([] ++ [(1000000, Ob.sl e s (vrows rows'))]) = some ob → id = 1000000 ∧ ob = .sl e s (vrows rows') := fun {id ob} hi => by
      simp only [List.nil_append, lk] at hi
      split at hi
      · rename_i he; cases hi; exact ⟨he, rfl⟩
      · cases hi
    have inj : ∀ (β' : Nat → Value) (i j : Nat) (oi oj : Ob) (b : Nat), lk i ([] ++ [(1000000, Ob.sl e s (vrows rows'))]) = some oi → lk j ([] ++ [(1000000, Ob.sl e s (vrows rows'))]) = some oj → blk (β' i) = some b → blk (β' j) = some b → i = j :=
      fun β' i j oi oj b hi hj _ _ => (hnoblk hi).1.trans (hnoblk hj).1.symm
    have nilc : rows = [] → β 1000000 = .slice none 0 0 → Calls P f ((β 1000000 :: us).toArray) w fun en w' => ∃ v β', en = .returned v ∧ w'.os = w.os ∧ w'.tape = w.tape ∧ w'.output = w.output ∧ w.heap.size ≤ w'.heap.size ∧
      (∀ b, b < w.heap.size → (¬ ∃ id ob, lk id [(1000000, Ob.sl e s (vrows rows))] = some ob ∧ blk (β id) = some b) → w'.heap[b]? = w.heap[b]?) ∧ (∀ i, (β' i).oneCell' = true) ∧ (∀ i ob, 1000000 ≤ i → lk i [(1000000, Ob.sl e s (vrows rows))] = some ob → β' i = β i) ∧
      R w' (XX X β' ([] ++ [(1000000, Ob.sl e s (vrows rows'))])) β' (.tup []) v ∧ Obs w' X β' ([] ++ [(1000000, Ob.sl e s (vrows rows'))]) ∧
      ∀ id ob b, lk id ([] : List (Nat × Ob)) = some ob → blk (β' id) = some b → w.heap.size ≤ b ∨ ∃ k o, lk k [(1000000, Ob.sl e s (vrows rows))] = some o ∧ k < 1000000 ∧ blk (β k) = some b := fun hr hb0 => by
      rw [hb0]
      refine (hnil hr w us hus haR).mono fun en w' ⟨he, hb⟩ => ?_
      have hr' : rows' = [] := List.eq_nil_of_length_eq_zero (by rw [hlr, hr]; rfl)
      refine ⟨_, β, he, hb.os, hb.tape, hb.output, hb.size, fun b hlt _ => hb.block b hlt, hβ, fun _ _ _ _ => rfl, .tup (us := []) rfl fun k c u hk => (by simp at hk), ⟨fun id ob hi => ?_, inj β⟩, fun id ob b hi => (by cases hi)⟩
      obtain ⟨rfl, rfl⟩ := hnoblk hi
      rw [hr', hb0]
      exact .nil e s rfl
    rcases hO.sl_form with ⟨h0, hrows⟩ | ⟨b, cap, cur, us0, hv, hh, h1, h2, h3, h4, h5⟩
    · exact nilc (by simpa [vrows] using hrows) h0
    · skip
      have hbv' : β 1000000 = .slice (some ⟨b, 0, none⟩) rows.length cap := by rw [hv]; simp [vrows]
      have hcell : ∀ (i k : Nat) (r : List Value) (u : Value), rows[i]? = some r → r[k]? = some u → cur[i * s + k]? = some u ∧ u.oneCell' = true := fun i k r u hr hu => by
        have e1 : (vrows rows)[i]? = some (r.map SV.v) := by unfold vrows; rw [List.getElem?_map, hr]; rfl
        have e2 : (r.map SV.v)[k]? = some (.v u) := by rw [List.getElem?_map, hu]; rfl
        obtain ⟨e5, e4, e3⟩ := h5 i k _ _ e1 e2
        generalize us0 i k = y at e3 e4 e5
        cases e3
        exact ⟨e5, e4⟩
      rw [hbv']
      refine (h w b cap cur us hG hh (by simpa [vrows] using h1) h2 h3 hcell hus haR).mono fun en w' ⟨he, cur', hU, hc'⟩ => ?_
      have hblk : blk (β 1000000) = some b := by rw [hbv']; rfl
      refine ⟨_, β, he, hU.os, hU.tape, hU.output, hU.size, fun k hk hn => hU.other k hk fun hkb => hn ⟨1000000, .sl e s (vrows rows), by simp [lk], by rw [hkb]; exact hblk⟩, hβ, fun _ _ _ _ => rfl, .tup (us := []) rfl fun k c u hk => (by simp at hk), ⟨fun id ob hi => ?_, inj β⟩, fun id ob b hi => (by cases hi)⟩
      obtain ⟨rfl, rfl⟩ := hnoblk hi
      rw [hbv']
      refine .sl b cap cur' (fun i k => (cur'[i * s + k]?).getD undef) (by simp [vrows, hlr]) hU.cells (by simpa [vrows, hlr] using h1) h2 (by rw [hU.len]; exact h3) (fun i row hr => vrows_len hr hl1) (fun i k row c hr hc => ?_) (fun i k row c hr hc => ?_) (fun i k row c hr hc => ?_)
      · obtain ⟨r, u, g1, g2, rfl⟩ := vrows_get hr hc
        rw [hc' i k r u g1 g2]; rfl
      · obtain ⟨r, u, g1, g2, rfl⟩ := vrows_get hr hc
        rw [hc' i k r u g1 g2]; exact hone r (List.mem_of_getElem? g1) u (List.mem_of_getElem? g2)
      · obtain ⟨r, u, g1, g2, rfl⟩ := vrows_get hr hc
        rw [hc' i k r u g1 g2]; exact .v u

/-- the sort's words: these cells hold these, and none is frozen -/
theorem holds_cells {α : Type} [Inhabited α] {enc : α → Value} {w : World} {b e : Nat} {cur : Array Value} {d : Array α} (hh : w.heap[b]? = some (.cells cur e (0, 0))) (hc : ∀ j, j < d.size → cur[j]? = some (enc d[j]!)) : Go.Sort.Holds enc w b 0 d := by
  intro j hj
  constructor
  · simp only [World.cell?, hh, Nat.zero_add]
    exact hc j hj
  · simp only [World.frozen?, hh]
    simp
theorem upd_putRow {α : Type} [Inhabited α] (enc : α → Value) {w : World} {b e : Nat} {cur : Array Value} (n : Nat) (d : Array α) (os : Array Obj) (hh : w.heap[b]? = some (.cells cur e (0, 0))) (hd : d.size ≤ cur.size) :
    Upd w (Go.Sort.grow (Go.Sort.putRow enc (Go.Sort.ahead w n) b 0 d) os) b e cur (Go.Sort.putCells enc 0 d cur) ∧ ∀ j, j < d.size → (Go.Sort.putCells enc 0 d cur)[j]? = some (enc d[j]!) := by
  have hb := lt_of_heap hh
  have hsz : (Go.Sort.putRow enc (Go.Sort.ahead w n) b 0 d).heap.size = w.heap.size := by
    show (w.heap.modify b _).size = _
    rw [Array.size_modify]
  have hget : ∀ k, k < w.heap.size → (Go.Sort.grow (Go.Sort.putRow enc (Go.Sort.ahead w n) b 0 d) os).heap[k]? = (w.heap.modify b (Go.Sort.onCells (Go.Sort.putCells enc 0 d)))[k]? := fun k hk => by
    show ((w.heap.modify b _) ++ os)[k]? = _
    rw [Array.getElem?_append_left (by rw [Array.size_modify]; exact hk)]
  refine ⟨⟨rfl, rfl, rfl, ?_, ?_, by simp [Go.Sort.putCells], fun k hk hne => ?_⟩, fun j hj => ?_⟩
  · show _ ≤ ((w.heap.modify b _) ++ os).size
    rw [Array.size_append, Array.size_modify]; omega
  · rw [hget b hb, Array.getElem?_modify, if_pos rfl, hh]; rfl
  · rw [hget k hk, Array.getElem?_modify, if_neg (fun e => hne e.symm)]
  · simp only [Go.Sort.putCells, Array.getElem?_mapIdx, Nat.zero_le, Nat.zero_add, true_and]
    rw [Array.getElem?_eq_getElem (show j < cur.size by omega)]
    simp [hj]
end

/-! ## what is package-level -/
section
variable {P : Program} {w : World}
theorem Grd.block (h : Grd P w) (h0 : P.globals.size ≠ 0) : ∃ W0 : World, W0.ShapedOpen P ∧ ((P.globalNamed "internal/strconv.uint64pow10").isSome = true → W0.var? P "internal/strconv.uint64pow10" = some (pow10s.map fun z => Value.int .u64 z).toArray) ∧ ∀ b, b < P.globals.size → w.heap[b]? = W0.heap[b]? := by
  rcases h with h | ⟨_, h⟩
  · exact absurd h h0
  · exact h
theorem Grd.pow (h : Grd P w) (h0 : P.globals.size ≠ 0) {g : Nat} (hg : P.globalNamed "internal/strconv.uint64pow10" = some g) (hlt : g < P.globals.size) : w.var? P "internal/strconv.uint64pow10" = some (pow10s.map fun z => Value.int .u64 z).toArray := by
  obtain ⟨W0, _, h2, h3⟩ := h.block h0
  rw [← h2 (by rw [hg]; rfl)]
  unfold World.var?
  rw [hg]
  simp only [Option.bind_some]
  rw [h3 g hlt]
theorem Grd.cellInt (h : Grd P w) (h0 : P.globals.size ≠ 0) {g : Nat} (hlt : g < P.globals.size) (hq : ∀ W0 : World, W0.ShapedOpen P → ∃ m : Int, W0.cell? ⟨g, 0, none⟩ = some (.int .i64 m)) : ∃ m : Int, w.cell? ⟨g, 0, none⟩ = some (.int .i64 m) := by
  obtain ⟨W0, h1, _, h3⟩ := h.block h0
  obtain ⟨m, hm⟩ := hq W0 h1
  exact ⟨m, by rw [← hm]; exact World.cell?_of_block (w := W0) (h3 g hlt)⟩
end
theorem R.tupV {w : World} {X : Nat → Prop} {β : Nat → Value} (xs : List Value) : R w X β (.tup (xs.map SV.v)) (.tuple xs.toArray) :=
  .tup (by simp) fun k c u hc hu => by
    rw [List.getElem?_map, hu] at hc
    simp only [Option.map_some, Option.some.injEq] at hc
    subst hc
    exact .p (.v _)
end Go.Vc
