/-
  DERIVED. The operations that make or write memory.
-/
import Derived.Test.YtdbjioanlkilkaaVcD
import Derived.Maps.AppendAt
namespace Go.Vc
set_option linter.unusedVariables false
set_option linter.unusedSimpArgs false

structure Flat (w : World) (X : Nat → Prop) (s : Nat) (rows : List (List SV)) (L : List Value) : Prop where
  len : L.length = rows.length * s
  row : ∀ (i : Nat) (row : List SV), rows[i]? = some row → row.length = s
  one : ∀ u ∈ L, u.oneCell' = true
  cell : ∀ (i k : Nat) (row : List SV) (c : SV), rows[i]? = some row → row[k]? = some c → ∃ u, L[i * s + k]? = some u ∧ Rp w X c u

theorem lt_flat {i k s n : Nat} (hi : i < n) (hk : k < s) : i * s + k < n * s := by
  have : (i + 1) * s ≤ n * s := Nat.mul_le_mul_right s hi
  rw [Nat.add_mul] at this
  omega
theorem unflat {j s n : Nat} (h : j < n * s) : j / s < n ∧ j % s < s ∧ j / s * s + j % s = j := by
  have hs : 0 < s := by
    rcases Nat.eq_zero_or_pos s with h0 | h0
    · subst h0; simp at h
    · exact h0
  refine ⟨(Nat.div_lt_iff_lt_mul hs).2 h, Nat.mod_lt _ hs, ?_⟩
  have := Nat.div_add_mod j s
  rw [Nat.mul_comm]
  exact this

theorem Flat.mono {w w' : World} {X X' : Nat → Prop} {s : Nat} {rows : List (List SV)} {L : List Value} (hs : Same X w w') (hX : ∀ b, b < w.heap.size → X' b → X b) (h : Flat w X s rows L) : Flat w' X' s rows L :=
  ⟨h.len, h.row, h.one, fun i k row c a b => let ⟨u, h1, h2⟩ := h.cell i k row c a b; ⟨u, h1, h2.mono hs hX⟩⟩

theorem Flat.append {w : World} {X : Nat → Prop} {s : Nat} {r1 r2 : List (List SV)} {l1 l2 : List Value} (h1 : Flat w X s r1 l1) (h2 : Flat w X s r2 l2) : Flat w X s (r1 ++ r2) (l1 ++ l2) where
  len := by rw [List.length_append, List.length_append, h1.len, h2.len, Nat.add_mul]
  row := fun i row hr => by
    rw [List.getElem?_append] at hr
    split at hr
    · exact h1.row i row hr
    · exact h2.row _ row hr
  one := fun u hu => by
    rcases List.mem_append.1 hu with h | h
    · exact h1.one u h
    · exact h2.one u h
  cell := fun i k row c hr hc => by
    rw [List.getElem?_append] at hr
    split at hr
    · rename_i hi
      obtain ⟨u, hu, hR⟩ := h1.cell i k row c hr hc
      exact ⟨u, by rw [List.getElem?_append_left (List.getElem?_eq_some_iff.1 hu).1]; exact hu, hR⟩
    · rename_i hi
      obtain ⟨u, hu, hR⟩ := h2.cell (i - r1.length) k row c hr hc
      refine ⟨u, ?_, hR⟩
      have e : i * s = r1.length * s + (i - r1.length) * s := by rw [← Nat.add_mul]; congr 1; omega
      rw [List.getElem?_append_right (by rw [h1.len]; omega), h1.len]
      have e2 : i * s + k - r1.length * s = (i - r1.length) * s + k := by omega
      rw [e2]; exact hu

/-- an object of rows owns its row -/
theorem ObR.owns {w : World} {X : Nat → Prop} {β : Nat → BV} {v : BV} {e s : Nat} {rows : List (List SV)} (h : ObR w X β v (.sl e s rows)) :
    ∃ L, w.ownsRow 0 e s v.val rows.length L ∧ Flat w X s rows L := by
  cases h with
  | nil e s h => subst h; exact ⟨[], World.ownsRow_nil w 0 e s, by simp, by simp, by simp, by simp⟩
  | sl b cap cur us hv hh h1 h2 h3 h4 h5 h6 h7 =>
    have hle : rows.length * s ≤ cur.size := by rw [h3]; exact Nat.mul_le_mul_right s h1
    have hg : ∀ j, j < rows.length * s → (cur.toList.take (rows.length * s))[j]? = some (us (j / s) (j % s)) := fun j hj => by
      obtain ⟨a, b, c⟩ := unflat hj
      have hr : rows[j / s]? = some (rows[j / s]'a) := List.getElem?_eq_getElem a
      have hl := h4 _ _ hr
      have hc : (rows[j / s]'a)[j % s]? = some ((rows[j / s]'a)[j % s]'(by omega)) := List.getElem?_eq_getElem (by omega)
      have := h5 _ _ _ _ hr hc
      rw [c] at this
      rw [List.getElem?_take_of_lt hj, Array.getElem?_toList]
      exact this
    refine ⟨cur.toList.take (rows.length * s), ⟨by simp [Nat.min_eq_left hle], .inr ⟨b, cap, cur, congrArg BV.val hv, Nat.zero_le _, hh, h1, h2, h3, rfl⟩⟩, by simp [Nat.min_eq_left hle], h4, fun u hu => ?_, fun i k row c hr hc => ?_⟩
    · obtain ⟨j, hj⟩ := List.mem_iff_getElem?.1 hu
      have hlt : j < rows.length * s := by
        have := (List.getElem?_eq_some_iff.1 hj).1
        simp only [List.length_take] at this
        omega
      rw [hg j hlt] at hj
      cases hj
      obtain ⟨a, b, c⟩ := unflat hlt
      have hr : rows[j / s]? = some (rows[j / s]'a) := List.getElem?_eq_getElem a
      have hl := h4 _ _ hr
      exact h6 _ _ _ _ hr (List.getElem?_eq_getElem (by omega : j % s < (rows[j / s]'a).length))
    · have hi : i < rows.length := (List.getElem?_eq_some_iff.1 hr).1
      have hk : k < s := by rw [← h4 i row hr]; exact (List.getElem?_eq_some_iff.1 hc).1
      refine ⟨us i k, ?_, h7 i k row c hr hc⟩
      rw [List.getElem?_take_of_lt (lt_flat hi hk), Array.getElem?_toList]
      exact h5 i k row c hr hc

theorem ObR.sl_plain {w : World} {X : Nat → Prop} {β : Nat → BV} {v : BV} {e s : Nat} {rows : List (List SV)} (h : ObR w X β v (.sl e s rows)) : v = plain v.val := by
  cases h with
  | nil e s h => rw [h]; rfl
  | sl b cap cur us hv => rw [hv]; rfl
theorem ObR.of_owns {w : World} {X : Nat → Prop} {β : Nat → BV} {v : Value} {base e s : Nat} {rows : List (List SV)} {L : List Value} (h : w.ownsRow base e s v rows.length L) (hf : Flat w X s rows L) : ObR w X β (plain v) (.sl e s rows) := by
  rcases h.2 with ⟨hv, hn⟩ | ⟨b, cap, cur, hv, _, hh, h1, h2, h3, h4⟩
  · have : rows = [] := List.eq_nil_of_length_eq_zero hn
    subst this
    exact .nil e s (congrArg plain hv)
  · have key : ∀ i k row c, rows[i]? = some row → row[k]? = some c → ∃ u, cur[i * s + k]? = some u ∧ u.oneCell' = true ∧ Rp w X c u := fun i k row c hr hc => by
      obtain ⟨u, hu, hR⟩ := hf.cell i k row c hr hc
      have hlt := (List.getElem?_eq_some_iff.1 hu).1
      refine ⟨u, ?_, hf.one u (List.mem_of_getElem? hu), hR⟩
      rw [← h4] at hu hlt
      simp only [List.length_take] at hlt
      rw [List.getElem?_take_of_lt (by omega), Array.getElem?_toList] at hu
      exact hu
    refine .sl b cap cur (fun i k => (cur[i * s + k]?).getD undef) (congrArg plain hv) hh h1 h2 h3 hf.row (fun i k row c hr hc => ?_) (fun i k row c hr hc => ?_) (fun i k row c hr hc => ?_)
    · obtain ⟨u, hu, _⟩ := key i k row c hr hc
      rw [hu]; rfl
    · obtain ⟨u, hu, h1, _⟩ := key i k row c hr hc
      rw [hu]; exact h1
    · obtain ⟨u, hu, _, h1⟩ := key i k row c hr hc
      rw [hu]; exact h1

/-- what may be read, as a list of cells -/
theorem Rp.flat {w : World} {X : Nat → Prop} {s : Nat} {rows : List (List SV)} {b off cap : Nat} (h : Rp w X (.sl s rows) (.slice (some ⟨b, off, none⟩) rows.length cap)) :
    ∃ L, Flat w X s rows L ∧ ∀ j u, L[j]? = some u → w.cell? ⟨b, off + j, none⟩ = some u := by
  have key : ∀ v, v = Value.slice (some ⟨b, off, none⟩) rows.length cap → Rp w X (.sl s rows) v → ∃ L, Flat w X s rows L ∧ ∀ j u, L[j]? = some u → w.cell? ⟨b, off + j, none⟩ = some u := by
    intro v hv h
    cases h with
    | nil s p cap => exact ⟨[], ⟨by simp, by simp, by simp, by simp⟩, by simp⟩
    | sl b' off' cap' us h1 h2 h3 h4 h5 h6 h7 =>
      injection hv with e1 e2 e3
      injection e1 with e1
      injection e1 with e4 e5 e6
      subst e4 e5
      have hg : ∀ j, j < rows.length * s → ((List.range (rows.length * s)).map fun j => us (j / s) (j % s))[j]? = some (us (j / s) (j % s)) := fun j hj => by
        rw [List.getElem?_map, List.getElem?_range hj]; rfl
      refine ⟨(List.range (rows.length * s)).map fun j => us (j / s) (j % s), ⟨by simp, h4, fun u hu => ?_, fun i k row c hr hc => ?_⟩, fun j u hu => ?_⟩
      · obtain ⟨j, hj, rfl⟩ := List.mem_map.1 hu
        have hlt : j < rows.length * s := by simpa using hj
        obtain ⟨a, _, _⟩ := unflat hlt
        have hr : rows[j / s]? = some (rows[j / s]'a) := List.getElem?_eq_getElem a
        have hl := h4 _ _ hr
        exact h6 _ _ _ _ hr (List.getElem?_eq_getElem (by omega : j % s < (rows[j / s]'a).length))
      · have hi : i < rows.length := (List.getElem?_eq_some_iff.1 hr).1
        have hk : k < s := by rw [← h4 i row hr]; exact (List.getElem?_eq_some_iff.1 hc).1
        refine ⟨us i k, ?_, h7 i k row c hr hc⟩
        rw [hg _ (lt_flat hi hk)]
        have hs : 0 < s := by omega
        rw [Nat.mul_comm i s, Nat.mul_add_div hs, Nat.div_eq_of_lt hk, Nat.mul_add_mod, Nat.mod_eq_of_lt hk, Nat.add_zero]
      · have hlt : j < rows.length * s := by
          have := (List.getElem?_eq_some_iff.1 hu).1
          simpa using this
        rw [hg j hlt] at hu
        cases hu
        obtain ⟨a, b1, c⟩ := unflat hlt
        have hr : rows[j / s]? = some (rows[j / s]'a) := List.getElem?_eq_getElem a
        have hl := h4 _ _ hr
        have := h5 _ _ _ _ hr (List.getElem?_eq_getElem (by omega : j % s < (rows[j / s]'a).length))
        rw [c] at this
        exact this
  exact key _ rfl h

/-! ## what the operations do -/

def rowsIn (st : St) (z : List SV) : List (Nat × Operand) → List (List SV) → List (List SV)
  | [], rows => rows
  | (i, x) :: l, rows => rowsIn st z l (rows.set i (st.ev x).strip.cells)
def partsIn (st : St) (n s : Nat) : List (Nat × Operand) → Prop
  | [] => True
  | (i, x) :: l => (st.ev x).need ∧ i < n ∧ (st.ev x).strip.cells.length = s ∧ (st.ev x).strip.cells.all SV.pur = true ∧ partsIn st n s l

def St.app (st : St) (j d : Nat) (ob : Ob) : St := { fr := (d, .own j) :: er d (st.kill j).fr, hp := (j, ob) :: (st.kill j).hp }
def St.wrt (st : St) (j : Nat) (ob : Ob) : St := { st with hp := (j, ob) :: er j st.hp }

def St.eff (tys : List (Nat × TyD)) (o : Oper) (st : St) (K : St → Prop) : Prop :=
  match o.op with
  | .alloc T => match o.dst, lk T tys with
    | some d, some t => t.z.all Value.oneCell' = true ∧ K (st.new d (.box T (t.z.map .v)) (.ptr d 0 0 0))
    | _, _ => False
  | .box T x => match o.dst with
    | some d => (st.ev x).need ∧ (st.ev x).strip.cells.all SV.one = true ∧ K (st.new d (.box T (st.ev x).strip.cells) (.ptr d 0 0 0))
    | _ => False
  | .buildSlice T n parts => match o.dst, lk T tys with
    | some d, some t => match lk t.elem tys with
      | some e => t.kind = 1 ∧ 0 < e.size ∧ n * e.size ≤ 16777216 ∧ e.z.length = e.size ∧ e.z.all Value.oneCell' = true ∧ partsIn st n e.size parts.toList ∧
          K (st.new d (.sl t.elem e.size (rowsIn st (e.z.map .v) parts.toList (List.replicate n (e.z.map .v)))) (.own d))
      | none => False
    | _, _ => False
  | .makeSlice T l c => match o.dst, lk T tys, (st.ev l).strip, (st.ev c).strip with
    | some d, some t, .v (.int .i64 n), .v (.int .i64 m) => match lk t.elem tys with
      | some e => t.kind = 1 ∧ (st.ev l).need ∧ (st.ev c).need ∧ 0 ≤ n ∧ n ≤ m ∧ m * (e.bytes : Int) ≤ 281474976710656 ∧ 0 < e.bytes ∧ e.z.length = e.size ∧ e.z.all Value.oneCell' = true ∧
          K (st.new d (.sl t.elem e.size (List.replicate n.toNat (e.z.map .v))) (.own d))
      | none => False
    | _, _, _, _ => False
  | .store T p x => match lk T tys, (st.ev p).strip with
    | some t, .ptr id s i k => match lk id st.hp with
      | some (.box e cs) => (st.ev p).need ∧ (st.ev x).need ∧ i = 0 ∧ (st.ev x).strip.cells.length = t.size ∧ (st.ev x).strip.cells.all SV.one = true ∧ k + t.size ≤ cs.length ∧
          K (st.wrt id (.box e (splice cs k (st.ev x).strip.cells)))
      | some (.sl e s' rows) => (st.ev p).need ∧ (st.ev x).need ∧ s = s' ∧ i < rows.length ∧ (st.ev x).strip.cells.length = t.size ∧ (st.ev x).strip.cells.all SV.pur = true ∧ k + t.size ≤ s ∧
          K (st.wrt id (.sl e s' (rows.set i (splice (rowAt rows i) k (st.ev x).strip.cells))))
      | some (.dq e s' rows i0 row0) => (st.ev p).need ∧ (st.ev x).need ∧ s = s' ∧ i = i0 ∧ (st.ev x).strip.cells.length = t.size ∧ (st.ev x).strip.cells.all SV.one = true ∧ ((st.ev x).strip.cells.all fun c => !c.isSl) = true ∧ k + t.size ≤ s ∧
          K (st.wrt id (.dq e s' rows i0 (splice row0 k (st.ev x).strip.cells)))
      | _ => False
    | _, _ => False
  | .call c => match c.callee with
    | .builtin .append => match o.dst, c.args.toList, c.argTypes.toList with
      | some d, [x, y], [T, T'] => match lk T tys, st.rowsOf (st.ev y).strip with
        | some t, some news => match lk t.elem tys with
          | some e => T = T' ∧ t.kind = 1 ∧ (st.ev x).need ∧ (st.ev y).need ∧ 0 < e.size ∧ 0 < e.bytes ∧ e.z.length = e.size ∧
            (match (st.ev x).strip with
            | .own j => match lk j st.hp with
              | some (.sl e' s' rows) => j < 1000000 ∧ e' = t.elem ∧ s' = e.size ∧ (rows.length + news.length) * e.bytes ≤ 140737488355328 ∧ (∀ row ∈ news, row.length = e.size) ∧ K (st.app j d (.sl e' s' (rows ++ news)))
              | _ => False
            | .v (.slice none 0 0) => news.length * e.bytes ≤ 140737488355328 ∧ (∀ row ∈ news, row.length = e.size) ∧ K (st.new d (.sl t.elem e.size news) (.own d))
            | _ => False)
          | none => False
        | _, _ => False
      | _, _, _ => False
    | _ => False
  | _ => False
end Go.Vc
