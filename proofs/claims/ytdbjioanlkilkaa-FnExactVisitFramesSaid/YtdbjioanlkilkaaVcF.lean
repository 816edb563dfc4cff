/-
  DERIVED. VcE's operations are what the model's run does.
-/
import Derived.Test.YtdbjioanlkilkaaVcE
namespace Go.Vc
set_option linter.unusedVariables false
set_option linter.unusedSimpArgs false

theorem flat_zero {w : World} {X : Nat → Prop} {s n m : Nat} {z : Array Value} {zl : List Value} (hz : z.toList = zl) (hs : zl.length = s) (h1 : zl.all Value.oneCell' = true) (hm : n * s ≤ m) :
    Flat w X s (List.replicate n (zl.map .v)) (((Array.range m).map (z[· % z.size]!)).toList.take (n * s)) := by
  have hzs : z.size = s := by rw [← hs, ← hz]; simp
  have hg : ∀ j, j < n * s → (((Array.range m).map (z[· % z.size]!)).toList.take (n * s))[j]? = some (z[j % z.size]!) := fun j hj => by
    rw [List.getElem?_take_of_lt hj, Array.getElem?_toList, Array.getElem?_map, Array.getElem?_range, if_pos (by omega)]
    rfl
  have hzg : ∀ k, k < s → z[k]! = zl[k]?.getD undef ∧ ∃ u, zl[k]? = some u := fun k hk => by
    have hk' : k < z.size := by omega
    have : zl[k]? = some (z[k]'hk') := by rw [← hz, Array.getElem?_toList, Array.getElem?_eq_getElem hk']
    rw [getElem!_pos z k hk', this]
    exact ⟨rfl, _, rfl⟩
  refine ⟨?_, fun i row hr => ?_, fun u hu => ?_, fun i k row c hr hc => ?_⟩
  · simp [Nat.min_eq_left hm]
  · rw [List.getElem?_replicate] at hr
    split at hr
    · cases hr; simp [hs]
    · cases hr
  · obtain ⟨j, hj⟩ := List.mem_iff_getElem?.1 hu
    have hlt : j < n * s := by
      have := (List.getElem?_eq_some_iff.1 hj).1
      simp only [List.length_take] at this
      omega
    rw [hg j hlt] at hj
    cases hj
    obtain ⟨_, hks, _⟩ := unflat hlt
    rw [hzs]
    obtain ⟨e, v, hv⟩ := hzg (j % s) hks
    rw [e, hv]
    exact List.all_eq_true.1 h1 v (List.mem_of_getElem? hv)
  · rw [List.getElem?_replicate] at hr
    split at hr
    · rename_i hi
      cases hr
      rw [List.getElem?_map] at hc
      cases hv : zl[k]? with
      | none => rw [hv] at hc; cases hc
      | some v =>
        rw [hv] at hc
        simp only [Option.map_some, Option.some.injEq] at hc
        subst hc
        have hk : k < s := by rw [← hs]; exact (List.getElem?_eq_some_iff.1 hv).1
        refine ⟨v, ?_, .v v⟩
        rw [hg _ (lt_flat hi hk), hzs]
        have : (i * s + k) % s = k := by rw [Nat.mul_comm, Nat.mul_add_mod, Nat.mod_eq_of_lt hk]
        rw [this, (hzg k hk).1, hv]
        rfl
    · cases hr

theorem idx_ne {i i' k k' s : Nat} (hk : k < s) (hk' : k' < s) (h : i ≠ i') : i * s + k < i' * s ∨ i' * s + s ≤ i * s + k := by
  rcases Nat.lt_or_ge i i' with hlt | hge
  · left
    have : (i + 1) * s ≤ i' * s := Nat.mul_le_mul_right s hlt
    rw [Nat.add_mul] at this; omega
  · right
    have : (i' + 1) * s ≤ i * s := Nat.mul_le_mul_right s (by omega)
    rw [Nat.add_mul] at this; omega

/-- one element is laid anew -/
theorem Flat.set {w : World} {X : Nat → Prop} {s : Nat} {rows : List (List SV)} {L : List Value} (h : Flat w X s rows L) {i : Nat} (hi : i < rows.length) {row : List SV} {new : List Value}
    (hr : row.length = s) (hn : new.length = s) (h1 : ∀ u ∈ new, u.oneCell' = true) (hc : ∀ (k : Nat) (c : SV) (u : Value), row[k]? = some c → new[k]? = some u → Rp w X c u) :
    Flat w X s (rows.set i row) (L.take (i * s) ++ new ++ L.drop (i * s + new.length)) := by
  have hle : i * s + new.length ≤ L.length := by
    rw [h.len, hn]
    have : (i + 1) * s ≤ rows.length * s := Nat.mul_le_mul_right s hi
    rw [Nat.add_mul] at this; omega
  refine ⟨?_, fun i' row' hr' => ?_, fun u hu => ?_, fun i' k row' c hr' hc' => ?_⟩
  · simp only [List.length_append, List.length_take, List.length_drop, List.length_set]
    rw [← h.len]; omega
  · rw [List.getElem?_set] at hr'
    split at hr'
    · cases hr'; exact hr
    · exact h.row i' row' hr'
  · simp only [List.mem_append] at hu
    rcases hu with (hu | hu) | hu
    · exact h.one u (List.mem_of_mem_take hu)
    · exact h1 u hu
    · exact h.one u (List.mem_of_mem_drop hu)
  · rw [List.getElem?_set] at hr'
    split at hr'
    · rename_i he
      cases hr'
      subst he
      have hk : k < s := by rw [← hr]; exact (List.getElem?_eq_some_iff.1 hc').1
      have hu : new[k]? = some (new[k]'(by omega)) := List.getElem?_eq_getElem (by omega)
      refine ⟨new[k]'(by omega), ?_, hc k c _ hc' hu⟩
      rw [splice_get L new _ _ hle, if_neg (by omega), if_pos (by omega)]
      have : i * s + k - i * s = k := by omega
      rw [this]; exact hu
    · rename_i he
      obtain ⟨u, hu, hR⟩ := h.cell i' k row' c hr' hc'
      have hk : k < s := by rw [← h.row i' row' hr']; exact (List.getElem?_eq_some_iff.1 hc').1
      refine ⟨u, ?_, hR⟩
      rw [splice_get L new _ _ hle]
      rcases idx_ne (i := i') (i' := i) hk (show 0 < s by omega) (fun e => he e.symm) with hlt | hge
      · rw [if_pos hlt]; exact hu
      · rw [if_neg (by omega), if_neg (by omega)]; exact hu

/-! ## the run -/
section
variable {P : Program} {tys : List (Nat × TyD)} {N : Nat} {X0 : Nat → Prop} {M : Nat → BV → Prop} {w0 : World} {st : St} {β : Nat → BV} {a : Act} {w : World}

/-- what the next piece of code may rely on -/
def Ok (N : Nat) (X0 : Nat → Prop) (M : Nat → BV → Prop) (w0 : World) (K : St → Prop) (a : Act) (w : World) : Prop := ∃ st β, K st ∧ Sim N X0 M w0 st β a w

/-- an operation that yields a value in a block of its own -/
theorem fresh_wp (h : Sim N X0 M w0 st β a w) {o : Oper} {d : Nat} (hod : o.dst = some d) (hd : d < N) {w' : World} {v : Value} (hrun : (execOp a.eval o).run P w = .ok (.value v) w')
    (hb : Go.RowKit.Below w.heap.size w w') {ob : Ob} (hv1 : v.oneCell' = true)
    (hv : ∀ b, blk v = some b → w.heap.size ≤ b ∧ b < w'.heap.size) (hob : ∀ X' : Nat → Prop, (∀ b, b < w.heap.size → X' b → XX X0 β st.hp b) → ObR w' X' β (plain v) ob) {x : SV}
    (hx : x = .own d ∨ x = .ptr d 0 0 0 ∧ ∃ b, v = .pointer (some ⟨b, 0, none⟩)) {K : St → Prop} (hK : K (st.new d ob x)) {Q : Exit → Act → World → Prop} : o.wp P a w (Ok N X0 M w0 K) Q := by
  unfold Oper.wp
  rw [hrun, Oper.upon_value, hod]
  obtain ⟨β', h'⟩ := h.fresh (v := plain v) hd hb hv1 hv hob (hx.imp id fun ⟨e, b, hb⟩ => ⟨e, b, congrArg plain hb⟩)
  exact ⟨_, β', hK, h'⟩

theorem alloc_below (w : World) (o : Obj) : Go.RowKit.Below w.heap.size w (w.alloc o) := (Go.RowKit.Below.refl _ _).alloc (Nat.le_refl _) o
theorem same_alloc (X : Nat → Prop) (w : World) (o : Obj) : Same X w (w.alloc o) := ⟨(alloc_below w o).size, fun b hb _ => (alloc_below w o).block b hb⟩

/-- a box in a new block -/
theorem box_obj {T : Nat} {cs : Array Value} {l : List SV} (hl : cs.size = l.length) (h1 : ∀ u ∈ cs.toList, u.oneCell' = true) {X : Nat → Prop}
    (hc : ∀ (k : Nat) (c : SV) (u : Value), l[k]? = some c → cs[k]? = some u → R w X β c u) {X' : Nat → Prop} (hX : ∀ b, b < w.heap.size → X' b → X b) :
    ObR (w.alloc (.cells cs T)) X' β (plain (.pointer (some ⟨w.heap.size, 0, none⟩))) (.box T l) :=
  .box w.heap.size cs rfl (heap_alloc_new w _) hl.symm fun k c u hk hu => ⟨h1 u (List.mem_of_getElem? (by rw [Array.getElem?_toList]; exact hu)), (hc k c u hk hu).mono (same_alloc X w _) hX⟩

theorem eff_alloc (hty : ∀ T d, lk T tys = some d → TyOk P T d) (h : Sim N X0 M w0 st β a w) {o : Oper} {T : Nat} (ho : o.op = .alloc T) (hN : ∀ d, o.dst = some d → d < N) {K : St → Prop}
    (hw : st.eff tys o K) {Q : Exit → Act → World → Prop} : o.wp P a w (Ok N X0 M w0 K) Q := by
  unfold St.eff at hw
  rw [ho] at hw
  simp only at hw
  split at hw
  case h_1 _ _ d t hd ht =>
    obtain ⟨h1, hK⟩ := hw
    obtain ⟨zv, hz, hzc⟩ := (hty T t ht).zero w
    have hall : ∀ u ∈ zv.cells.toList, u.oneCell' = true := by rw [hzc]; exact List.all_eq_true.1 h1
    refine fresh_wp h hd (hN d hd) (w' := w.alloc (.cells zv.cells T)) (v := .pointer (some ⟨w.heap.size, 0, none⟩)) ?_ (alloc_below w _) rfl (fun b hb => ?_) (fun X' hX => box_obj (X := XX X0 β st.hp) ?_ hall (fun k c u hk hu => ?_) hX) (.inr ⟨rfl, _, rfl⟩) hK
    · simp [execOp, ho, Instr.alloc, hz, newVar, newRow]
    · cases hb; exact ⟨Nat.le_refl _, by simp⟩
    · rw [← hzc]; simp
    · rw [← hzc, List.getElem?_map, Array.getElem?_toList, hu] at hk
      simp only [Option.map_some, Option.some.injEq] at hk
      subst hk
      exact .p (.v _)
  case h_2 => exact hw.elim

theorem eff_box (h : Sim N X0 M w0 st β a w) {o : Oper} {T : Nat} {x : Operand} (ho : o.op = .box T x) (hN : ∀ d, o.dst = some d → d < N) {K : St → Prop}
    (hw : st.eff tys o K) {Q : Exit → Act → World → Prop} : o.wp P a w (Ok N X0 M w0 K) Q := by
  unfold St.eff at hw
  rw [ho] at hw
  simp only at hw
  split at hw
  case h_1 _ d hd =>
    obtain ⟨hn, h1, hK⟩ := hw
    have hR := (St.ev_ok h x).strip hn
    obtain ⟨hs, hc⟩ := hR.cells h.beta h1
    refine fresh_wp h hd (hN d hd) (w' := w.alloc (.cells (a.eval x).cells T)) (v := .pointer (some ⟨w.heap.size, 0, none⟩)) ?_ (alloc_below w _) rfl (fun b hb => ?_) (fun X' hX => box_obj hs (hR.cellsOne h.beta h1) hc hX) (.inr ⟨rfl, _, rfl⟩) hK
    · simp [execOp, ho, Instr.box, newVar, newRow]
    · cases hb; exact ⟨Nat.le_refl _, by simp⟩
  case h_2 => exact hw.elim

/-- a row in a new block -/
theorem row_obj {e s n cap : Nat} {cur : Array Value} {rows : List (List SV)} {X : Nat → Prop} (hn : rows.length = n) (hcap : n ≤ cap) (hmax : cap ≤ maxLen) (hsz : cur.size = cap * s) (hf : Flat w X s rows (cur.toList.take (n * s)))
    {X' : Nat → Prop} (hX : ∀ b, b < w.heap.size → X' b → X b) : ObR (w.alloc (.cells cur e)) X' β (plain (.slice (some ⟨w.heap.size, 0, none⟩) n cap)) (.sl e s rows) := by
  subst hn
  exact .of_owns (base := 0) ⟨hf.len, .inr ⟨w.heap.size, cap, cur, rfl, Nat.zero_le _, heap_alloc_new w _, hcap, hmax, hsz, rfl⟩⟩ (hf.mono (same_alloc X w _) hX)

theorem fill_ok (h : Sim N X0 M w0 st β a w) {n s : Nat} {z : List SV} : ∀ (l : List (Nat × Operand)) (rows : List (List SV)) (cur : Array Value), rows.length = n → cur.size = n * s → Flat w (XX X0 β st.hp) s rows cur.toList → partsIn st n s l →
    ∃ cells, Instr.fill (fun i => some (i * s, s)) cur (l.map fun p => (p.1, a.eval p.2)) = some cells ∧ cells.size = n * s ∧ (rowsIn st z l rows).length = n ∧ Flat w (XX X0 β st.hp) s (rowsIn st z l rows) cells.toList
  | [], rows, cur, hn, hs, hf, _ => ⟨cur, rfl, hs, hn, hf⟩
  | (i, x) :: l, rows, cur, hn, hs, hf, hp => by
    obtain ⟨h1, h2, h3, h4, h5⟩ := hp
    have hR := (St.ev_ok h x).strip h1
    obtain ⟨hsz, hc⟩ := hR.cells h.beta (pur_one h4)
    have hle : i * s + (a.eval x).cells.size ≤ cur.size := by
      rw [hs, hsz, h3]
      have : (i + 1) * s ≤ n * s := Nat.mul_le_mul_right s h2
      rw [Nat.add_mul] at this; omega
    have hfl := fill_fold (i * s) (a.eval x).cells cur hle
    have hset := hf.set (i := i) (by omega) (row := (st.ev x).strip.cells) (new := (a.eval x).cells.toList) h3 (by rw [Array.length_toList, hsz, h3]) (hR.cellsOne h.beta (pur_one h4))
      (fun k c u hk hu => ((hc k c u hk (by rw [Array.getElem?_toList] at hu; exact hu)).pur (List.all_eq_true.1 h4 c (List.mem_of_getElem? hk))).2)
    rw [Array.length_toList, ← hfl] at hset
    obtain ⟨cells, e1, e2, e3, e4⟩ := fill_ok h (z := z) l (rows.set i (st.ev x).strip.cells) ((a.eval x).cells.zipIdx.foldl (fun cs (c, j) => cs.setIfInBounds (i * s + j) c) cur) (by simpa using hn)
      (by
        have := hset.len
        rw [Array.length_toList, List.length_set, hn] at this
        exact this) hset h5
    refine ⟨cells, ?_, e2, e3, e4⟩
    simp only [List.map_cons, Instr.fill]
    rw [if_neg (by simp [hsz, h3]; rw [hsz, h3] at hle; omega)]
    exact e1
end
end Go.Vc
