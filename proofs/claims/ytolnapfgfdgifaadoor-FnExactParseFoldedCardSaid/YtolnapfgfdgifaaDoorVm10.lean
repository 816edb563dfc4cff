/-
  DERIVED. Several texts of ours in one: VpKeep, VtPrZ, VtFldL, VcY, VtPrR.
-/
import Derived.Test.YtolnapfgfdgifaaDoorVm0
import Derived.Test.YtolnapfgfdgifaaDoorVm1
import Derived.Test.YtolnapfgfdgifaaDoorVm2
import Derived.Test.YtolnapfgfdgifaaDoorVm3
import Derived.Test.YtolnapfgfdgifaaDoorVm4
import Derived.Test.YtolnapfgfdgifaaDoorVm5
import Derived.Test.YtolnapfgfdgifaaDoorVm6
import Derived.Test.YtolnapfgfdgifaaDoorVm7
import Derived.Test.YtolnapfgfdgifaaDoorVm8
import Derived.Test.YtolnapfgfdgifaaDoorVm9
import Derived.Deep.Strs
import Derived.Lib.SmallJoins
/-
  DERIVED. Plain lists: which entries of a profile are kept, and as what; what the totals are.
-/
namespace Go.Proofs.YtolnapfgfdgifaaDoor
set_option linter.unusedVariables false
open Go.Pl

def hasName (s : ByteArray) (f : Frame) : Bool := decide (f.name = s)
def idxF (s : ByteArray) (L : List Frame) : Int := firstIdx (hasName s) L
def frsE (e : Entry) : List Frame := (parseF e.stack).getD []
def mapG (g : List Frame → List Frame) (e : Entry) : Option Entry := if g (frsE e) = [] then none else some ⟨fmtF (g (frsE e)), e.count⟩
def keepS (s : ByteArray) (b : Bool) (e : Entry) : Bool := decide (0 ≤ idxF s (frsE e)) == b
def pick (s : ByteArray) (b : Bool) (L : List Frame) : List Frame := if (decide (0 ≤ idxF s L) == b) = true then L else []
def mapP (g : List Frame → List Frame) (N : List Node) (C : List Int) : List Node × List Int := (profileOf ((entriesOf N C).filterMap (mapG g))).getD ([], [])
theorem pick_len (s : ByteArray) (b : Bool) (L : List Frame) : (pick s b L).length ≤ L.length := by
  unfold pick
  split <;> simp
theorem ent_frs {N : List Node} {C : List Int} {e : Entry} (h : e ∈ entriesOf N C) : frsE e ≠ [] ∧ fmtF (frsE e) = e.stack ∧ (frsE e).all frOk = true ∧ (frsE e).length ≤ N.length ∧ parseF e.stack = some (frsE e) := by
  obtain ⟨k, hk, h1, h2, h3⟩ := entriesOf_parse h
  have : frsE e = stackAt N k := by unfold frsE; rw [h2]; rfl
  rw [this]; exact ⟨h3, h1.symm, stackAt_ok N k, stackAt_len N k, h2⟩
theorem fm_filter {g : List Frame → List Frame} {p : Entry → Bool} : ∀ {L : List Entry}, (∀ e ∈ L, mapG g e = if p e = true then some e else none) → L.filterMap (mapG g) = L.filter p
  | [], _ => rfl
  | e :: L, h => by
    have ih := fm_filter (L := L) fun x hx => h x (List.mem_cons_of_mem _ hx)
    rw [List.filterMap_cons, h e List.mem_cons_self, List.filter_cons, ih]
    cases p e <;> rfl
theorem pick_mapG {N : List Node} {C : List Int} {s : ByteArray} {b : Bool} {e : Entry} (h : e ∈ entriesOf N C) : mapG (pick s b) e = if keepS s b e = true then some e else none := by
  obtain ⟨h1, h2, _⟩ := ent_frs h
  unfold mapG pick keepS
  by_cases hk : (decide (0 ≤ idxF s (frsE e)) == b) = true
  · simp only [if_pos hk]
    rw [if_neg h1, h2]
  · simp only [if_neg hk]
    first | done | rfl | simp
theorem pick_list (N : List Node) (C : List Int) (s : ByteArray) (b : Bool) : (entriesOf N C).filterMap (mapG (pick s b)) = (entriesOf N C).filter (keepS s b) :=
  fm_filter fun e he => pick_mapG he
theorem fm_succ {α β : Type} (g : α → Option β) {L : List α} {k : Nat} (h : k < L.length) : (L.take (k + 1)).filterMap g = (L.take k).filterMap g ++ (g L[k]).toList := by
  rw [List.take_succ_eq_append_getElem h, List.filterMap_append]
  congr 1
  all_goals (cases hg : g L[k] <;> simp [hg])
theorem fl_succ {α : Type} (p : α → Bool) {L : List α} {k : Nat} (h : k < L.length) : (L.take (k + 1)).filter p = (L.take k).filter p ++ (if p L[k] = true then [L[k]] else []) := by
  rw [List.take_succ_eq_append_getElem h, List.filter_append]
  congr 1
  all_goals (cases hg : p L[k] <;> simp [hg])
theorem mp_succ {α β : Type} (f : α → β) {L : List α} {k : Nat} (h : k < L.length) : (L.take (k + 1)).map f = (L.take k).map f ++ [f L[k]] := by
  rw [List.take_succ_eq_append_getElem h, List.map_append]; rfl

/-! ## interning keeps what is right -/
theorem firstIdx_neg {α : Type} {p : α → Bool} {L : List α} (h : firstIdx p L < 0) : ∀ x ∈ L, p x = false := by
  unfold firstIdx at h
  split at h
  · omega
  · rename_i hn
    intro x hx
    have := List.findIdx?_eq_none_iff.1 hn x hx
    simpa using this
theorem stacksOk_snoc {N : List Node} {p : Int} {f : Frame} (h : stacksOk N = true) (hp : -1 ≤ p) (hq : p < N.length) (hf : frOk f = true) (hc : child N p f < 0) : stacksOk (N ++ [mkNode p f]) = true := by
  refine stacksOk_all fun k hk => ?_
  simp only [List.length_append, List.length_cons, List.length_nil] at hk
  rcases Nat.lt_or_ge k N.length with h1 | h1
  · have := stacksOk_at h k h1
    unfold stNode at this ⊢
    rw [List.getElem_append_left h1, List.take_append_of_le_length (by omega)]
    exact this
  · obtain rfl : k = N.length := by omega
    rw [List.getElem_append_right (by omega)]
    simp only [Nat.sub_self, List.getElem_cons_zero]
    refine stNode_iff.2 ⟨hp, by simp only [mkNode]; omega, hf, fun y hy he => ?_⟩
    rw [List.take_append_of_le_length (by omega), List.take_length] at hy
    have := firstIdx_neg hc y hy
    rw [he] at this
    simp [hitNode, mkNode, nodeFr] at this
theorem intGo_ok : ∀ (L : List Frame) (s : List Node × Int), stacksOk s.1 = true → L.all frOk = true → -1 ≤ s.2 → s.2 < s.1.length → stacksOk (intGo L s).1 = true
  | [], s, h, _, _, _ => h
  | f :: L, s, h, ha, h1, h2 => by
    simp only [List.all_cons, Bool.and_eq_true] at ha
    have hb := child_bound s.1 s.2 f
    rw [intGo]
    split
    · rename_i hc
      exact intGo_ok L _ (stacksOk_snoc h h1 h2 ha.1 hc) ha.2 (by simp only; omega) (by simp only [List.length_append, List.length_cons, List.length_nil]; omega)
    · exact intGo_ok L _ h ha.2 hb.1 hb.2
theorem intern_ok {N : List Node} {L : List Frame} (h : stacksOk N = true) : stacksOk (intern N L).1 = true := by
  unfold intern
  split
  · rename_i hh
    exact intGo_ok L (N, -1) h hh.2.2 (by simp only; omega) (by simp only; omega)
  · exact h
theorem intern_pos {N : List Node} {L : List Frame} (h : stacksOk N = true) (hL : L ≠ []) (ha : L.all frOk = true) : 0 ≤ (intern N L).2 ∧ (intern N L).2 < (intern N L).1.length := by
  unfold intern
  rw [if_pos ⟨h, hL, ha⟩]
  exact intGo_at L (N, -1) fun e => absurd e hL

/-! ## sums -/
theorem sum_set : ∀ {C : List Int} {k : Nat} (n : Int), k < C.length → (C.set k (C.getD k 0 + n)).sum = C.sum + n
  | x :: C, 0, n, _ => by simp; omega
  | x :: C, k + 1, n, h => by
    have := sum_set (C := C) (k := k) n (by simpa using h)
    simp only [List.set_cons_succ, List.sum_cons, List.getD_cons_succ]
    rw [this]; omega
theorem sum_nonneg : ∀ {C : List Int}, (∀ x ∈ C, 0 ≤ x) → 0 ≤ C.sum
  | [], _ => by simp
  | x :: C, h => by
    have := sum_nonneg (C := C) fun y hy => h y (List.mem_cons_of_mem _ hy)
    have := h x List.mem_cons_self
    simp only [List.sum_cons]; omega
theorem sum_rep (n : Nat) : (List.replicate n (0 : Int)).sum = 0 := by
  induction n with
  | zero => rfl
  | succ n ih => rw [List.replicate_succ, List.sum_cons, ih]; rfl
theorem cntOk_total {C : List Int} (h0 : ∀ x ∈ C, 0 ≤ x) (ht : C.sum ≤ 1000000000000) : cntOk C = true := by
  unfold cntOk
  refine decide_eq_true fun k hk => ⟨h0 _ (List.getElem_mem hk), ?_⟩
  have h1 := take_sum C k hk
  have h2 : C.sum = (C.take (k + 1)).sum + (C.drop (k + 1)).sum := by rw [← List.sum_append, List.take_append_drop]
  have h3 : 0 ≤ (C.drop (k + 1)).sum := sum_nonneg fun x hx => h0 x (List.mem_of_mem_drop hx)
  omega
theorem cntOk_nonneg {C : List Int} (h : cntOk C = true) : ∀ x ∈ C, 0 ≤ x := fun x hx => by
  obtain ⟨k, hk, rfl⟩ := List.mem_iff_getElem.1 hx
  exact (cntOk_at h k hk).1
theorem addC_sum {C : List Int} {m k : Nat} (n : Int) (hk : k < max C.length m) : (addC C m k n).sum = C.sum + n := by
  unfold addC
  rw [sum_set n (by simp only [List.length_append, List.length_replicate]; omega), List.sum_append, sum_rep]; omega
theorem mem_set' {α : Type} {L : List α} {k : Nat} {x y : α} (h : y ∈ L.set k x) : y = x ∨ y ∈ L := by
  rcases List.mem_or_eq_of_mem_set h with h | h
  · exact .inr h
  · exact .inl h
theorem addC_nonneg {C : List Int} {m k : Nat} {n : Int} (h0 : ∀ x ∈ C, 0 ≤ x) (hn : 0 ≤ n) : ∀ x ∈ addC C m k n, 0 ≤ x := by
  have hD : ∀ x ∈ C ++ List.replicate (m - C.length) (0 : Int), 0 ≤ x := fun x hx => by
    rcases List.mem_append.1 hx with h | h
    · exact h0 x h
    · rw [List.mem_replicate] at h; omega
  intro x hx
  unfold addC at hx
  rcases mem_set' hx with h | h
  · rw [h]
    have : 0 ≤ (C ++ List.replicate (m - C.length) (0 : Int)).getD k 0 := by
      rw [List.getD_eq_getElem?_getD]
      cases hg : (C ++ List.replicate (m - C.length) (0 : Int))[k]? with
      | none => simp
      | some y => exact hD y (List.mem_of_getElem? hg)
    omega
  · exact hD x h
theorem addStack_total {N : List Node} {C : List Int} {L : List Frame} {n : Int} (hp : profileOk N C = true) (hL : L ≠ []) (ha : L.all frOk = true) (h0 : 0 ≤ n) (hs : C.sum + n ≤ 1000000000000) :
    (addStack N C L n).2 = true ∧ (addStack N C L n).1.2.sum = C.sum + n ∧ profileOk (addStack N C L n).1.1 (addStack N C L n).1.2 = true := by
  obtain ⟨p1, p2, p3⟩ := profileOk_iff.1 hp
  have hn := cntOk_nonneg p3
  have hC0 := sum_nonneg hn
  obtain ⟨i0, i1⟩ := intern_pos (N := N) p1 hL ha
  have il := (intern_len N L).1
  have hk : (intern N L).2.toNat < max C.length (intern N L).1.length := by omega
  have hsum := addC_sum (C := C) (m := (intern N L).1.length) n hk
  have hok : profileOk (intern N L).1 (addC C (intern N L).1.length (intern N L).2.toNat n) = true :=
    profileOk_iff.2 ⟨intern_ok p1, by rw [addC_len]; omega, cntOk_total (addC_nonneg hn h0) (by rw [hsum]; exact hs)⟩
  have hcond : profileOk N C = true ∧ 0 ≤ n ∧ n ≤ 1000000000000 ∧ 0 ≤ (intern N L).2 ∧ profileOk (intern N L).1 (addC C (intern N L).1.length (intern N L).2.toNat n) = true := ⟨hp, h0, by omega, i0, hok⟩
  unfold addStack
  rw [if_pos hcond]
  exact ⟨rfl, hsum, hok⟩
def sumE (L : List Entry) : Int := (L.map (·.count)).sum
theorem profGo_total : ∀ (L : List Entry) (s : List Node × List Int), profileOk s.1 s.2 = true → (∀ e ∈ L, frsE e ≠ [] ∧ (frsE e).all frOk = true ∧ parseF e.stack = some (frsE e) ∧ 0 ≤ e.count) → s.2.sum + sumE L ≤ 1000000000000 →
    ∃ t, profGo L s = some t ∧ profileOk t.1 t.2 = true ∧ t.2.sum = s.2.sum + sumE L
  | [], s, h, _, _ => ⟨s, rfl, h, by simp [sumE]⟩
  | e :: L, s, h, he, hs => by
    obtain ⟨e1, e2, e3, e4⟩ := he e List.mem_cons_self
    have hL : 0 ≤ sumE L := sum_nonneg fun x hx => by
      obtain ⟨y, hy, rfl⟩ := List.mem_map.1 hx
      exact (he y (List.mem_cons_of_mem _ hy)).2.2.2
    have hc : sumE (e :: L) = e.count + sumE L := by simp [sumE]
    obtain ⟨a1, a2, a3⟩ := addStack_total (n := e.count) h e1 e2 e4 (by omega)
    obtain ⟨t, t1, t2, t3⟩ := profGo_total L _ a3 (fun x hx => he x (List.mem_cons_of_mem _ hx)) (by rw [a2]; omega)
    exact ⟨t, by rw [profGo_ok e3 a1]; exact t1, t2, by rw [t3, a2]; omega⟩
theorem nilOk : profileOk [] [] = true := by decide
theorem profileOf_total {L : List Entry} (he : ∀ e ∈ L, frsE e ≠ [] ∧ (frsE e).all frOk = true ∧ parseF e.stack = some (frsE e) ∧ 0 ≤ e.count) (hs : sumE L ≤ 1000000000000) :
    ∃ t, profileOf L = some t ∧ profileOk t.1 t.2 = true ∧ t.2.sum = sumE L := by
  obtain ⟨t, h1, h2, h3⟩ := profGo_total L ([], []) nilOk he (by simpa using hs)
  exact ⟨t, h1, h2, by simpa using h3⟩
theorem perm_sum {L M : List Int} (h : L.Perm M) : L.sum = M.sum := by
  induction h with
  | nil => rfl
  | cons x _ ih => simp only [List.sum_cons, ih]
  | swap x y l => simp only [List.sum_cons]; omega
  | trans _ _ h1 h2 => exact h1.trans h2
theorem rawE_sum (N : List Node) (C : List Int) : ∀ n, n ≤ C.length → sumE (rawE N C n) = (C.take n).sum
  | 0, _ => by simp [rawE_zero, sumE]
  | n + 1, h => by
    have ih := rawE_sum N C n (by omega)
    rw [rawE_succ, take_sum C n h, ← ih]
    have e : C.getD n 0 = C[n] := by rw [List.getD_eq_getElem?_getD, List.getElem?_eq_getElem h]; rfl
    unfold entAt
    rw [e]
    split
    · rename_i h0; simp [sumE, h0]
    · simp [sumE]
theorem sumE_entries (N : List Node) (C : List Int) : sumE (entriesOf N C) = totalOf N C := by
  unfold entriesOf totalOf
  split
  · have h1 : ((insAll ltE (rawE N C C.length)).map (·.count)).Perm ((rawE N C C.length).map (·.count)) := (insAll_perm _).map _
    have h2 := perm_sum h1
    have h3 := rawE_sum N C C.length (Nat.le_refl _)
    rw [List.take_length] at h3
    unfold sumE at h3 ⊢
    rw [h2, h3]
  · rfl
theorem sum_filter_le {p : Entry → Bool} : ∀ {L : List Entry}, (∀ e ∈ L, 0 ≤ e.count) → 0 ≤ sumE (L.filter p) ∧ sumE (L.filter p) ≤ sumE L
  | [], _ => by simp [sumE]
  | e :: L, h => by
    obtain ⟨h1, h2⟩ := sum_filter_le (p := p) (L := L) fun x hx => h x (List.mem_cons_of_mem _ hx)
    have h3 := h e List.mem_cons_self
    have hc : sumE (e :: L) = e.count + sumE L := by simp [sumE]
    rw [List.filter_cons]
    split
    · have hd : sumE (e :: L.filter p) = e.count + sumE (L.filter p) := by simp [sumE]
      omega
    · omega
theorem totalOf_bound (N : List Node) (C : List Int) : 0 ≤ totalOf N C ∧ totalOf N C ≤ 1000000000000 := by
  unfold totalOf
  split
  · rename_i h
    have := profileOk_sum h C.length (Nat.le_refl _)
    rw [List.take_length] at this
    exact this
  · omega
theorem filter_total (N : List Node) (C : List Int) (p : Entry → Bool) : ∃ t, profileOf ((entriesOf N C).filter p) = some t ∧ profileOk t.1 t.2 = true ∧ t.2.sum = sumE ((entriesOf N C).filter p) := by
  have hp : ∀ e ∈ entriesOf N C, 0 ≤ e.count := fun e he => by obtain ⟨_, k, _, _, _, h, _⟩ := entriesOf_mem he; omega
  refine profileOf_total (fun e he => ?_) ?_
  · have hm := (List.mem_filter.1 he).1
    obtain ⟨h1, _, h2, _, h3⟩ := ent_frs hm
    exact ⟨h1, h2, h3, hp e hm⟩
  · have h1 := (sum_filter_le (p := p) hp).2
    rw [sumE_entries] at h1
    have := totalOf_bound N C
    omega
theorem filter_totalOf (N : List Node) (C : List Int) (p : Entry → Bool) : totalOf ((profileOf ((entriesOf N C).filter p)).getD ([], [])).1 ((profileOf ((entriesOf N C).filter p)).getD ([], [])).2 = sumE ((entriesOf N C).filter p) := by
  obtain ⟨t, h1, h2, h3⟩ := filter_total N C p
  rw [h1]
  simp only [Option.getD_some]
  unfold totalOf
  rw [if_pos h2, h3]
/-! ## the first frames -/
def topF (n : Int) (L : List Frame) : List Frame := L.take n.toNat
theorem topF_len (n : Int) (L : List Frame) : (topF n L).length ≤ L.length := by
  unfold topF; rw [List.length_take]; omega
def topE (n : Int) (e : Entry) : Entry := ⟨fmtF (topF n (frsE e)), e.count⟩
theorem top_list (N : List Node) (C : List Int) {n : Int} (hn : 1 ≤ n) : (entriesOf N C).filterMap (mapG (topF n)) = (entriesOf N C).map (topE n) := by
  have : ∀ L : List Entry, (∀ e ∈ L, e ∈ entriesOf N C) → L.filterMap (mapG (topF n)) = L.map (topE n) := by
    intro L
    induction L with
    | nil => intro _; rfl
    | cons e L ih =>
      intro h
      have h1 := (ent_frs (h e List.mem_cons_self)).1
      have h2 : topF n (frsE e) ≠ [] := by
        unfold topF
        cases hf : frsE e with
        | nil => exact absurd hf h1
        | cons a b =>
          obtain ⟨m, hm⟩ : ∃ m, n.toNat = m + 1 := ⟨n.toNat - 1, by omega⟩
          rw [hm, List.take_succ_cons]; simp
      rw [List.filterMap_cons, List.map_cons, ih fun x hx => h x (List.mem_cons_of_mem _ hx)]
      unfold mapG
      rw [if_neg h2]
      rfl
  exact this _ fun _ h => h
/-! ## how large a profile becomes -/
theorem profGo_len {B : Nat} : ∀ (L : List Entry) (s : List Node × List Int) (m : Nat), (∀ e ∈ L, ∀ f, parseF e.stack = some f → f.length ≤ B) → s.1.length ≤ m → s.2.length ≤ m → ∀ t, profGo L s = some t → t.1.length ≤ m + B * L.length ∧ t.2.length ≤ m + B * L.length
  | [], s, m, _, h1, h2, t, ht => by
    rw [profGo] at ht
    cases ht
    simp only [List.length_nil, Nat.mul_zero, Nat.add_zero]
    exact ⟨h1, h2⟩
  | e :: L, s, m, he, h1, h2, t, ht => by
    cases hp : parseF e.stack with
    | none => rw [profGo_no hp] at ht; cases ht
    | some f =>
      cases hb : (addStack s.1 s.2 f e.count).2 with
      | false => rw [profGo_bad hp hb] at ht; cases ht
      | true =>
        rw [profGo_ok hp hb] at ht
        have h3 := he e List.mem_cons_self f hp
        have h4 := addStack_len s.1 s.2 f e.count
        have h5 := profGo_len L _ (m + B) (fun x hx => he x (List.mem_cons_of_mem _ hx)) (by omega) (by omega) t ht
        simp only [List.length_cons, Nat.mul_add, Nat.mul_one]
        omega
end Go.Proofs.YtolnapfgfdgifaaDoor

/-
  DERIVED. How large the profile of entries becomes.
-/
namespace Go.Proofs.YtolnapfgfdgifaaDoor
set_option linter.unusedVariables false
theorem profileOf_len {L : List Entry} (h : wfE L) : ((profileOf L).getD ([], [])).1.length ≤ 3298534883328 ∧ ((profileOf L).getD ([], [])).2.length ≤ 3298534883328 := by
  cases hp : profileOf L with
  | none => simp
  | some t =>
    have h1 := profGo_len (B := 3145728) L ([], []) 0 (fun e he f hf => by
      have h2 := (parseF_small hf).1
      have h3 := h.2 e he
      omega) (by simp) (by simp) t hp
    have h4 := h.1
    have h5 : 3145728 * L.length ≤ 3145728 * 1048576 := Nat.mul_le_mul_left _ h4
    simp only [Option.getD_some]
    omega
theorem profGo_names : ∀ (L : List Entry) (s : List Node × List Int), (∀ n ∈ s.1, n.name.size ≤ 8) → ∀ t, profGo L s = some t → ∀ n ∈ t.1, n.name.size ≤ 8
  | [], s, h, t, ht => by rw [profGo] at ht; cases ht; exact h
  | e :: L, s, h, t, ht => by
    cases hp : parseF e.stack with
    | none => rw [profGo_no hp] at ht; cases ht
    | some f =>
      cases hb : (addStack s.1 s.2 f e.count).2 with
      | false => rw [profGo_bad hp hb] at ht; cases ht
      | true => rw [profGo_ok hp hb] at ht; exact profGo_names L _ (addStack_names h (parseF_small hp).2) t ht
theorem profileOf_names (L : List Entry) : ∀ n ∈ ((profileOf L).getD ([], [])).1, n.name.size ≤ 8 := by
  cases hp : profileOf L with
  | none => simp
  | some t => exact profGo_names L ([], []) (by simp) t hp
end Go.Proofs.YtolnapfgfdgifaaDoor

/-
  DERIVED. The law's function of ParseFolded returns true.
-/
namespace Go.Proofs.YtolnapfgfdgifaaDoor
open Go.Vc
set_option linter.unusedSimpArgs false
set_option linter.unusedVariables false
set_option maxHeartbeats 1000000
set_option maxRecDepth 10000
attribute [local go_sem] St.runR St.runW St.stepV offV St.step St.stepU St.stepG mkCond guardB St.prK St.pr St.prLen St.eff St.callE St.callD St.callF St.callL aI aB aS aR aC St.isM St.argL Ctr.pure Ctr.lend Ctr.move Ctr.isL Ctr.wri pur len lentBy St.lentV St.lent1 nthS argsR restOf obsR pairs swapL unObs backL St.resL erL SV.ren1 SV.up SV.up2 Ob.up St.fzL cellIds partIds St.intoRow SV.ownId St.fz SV.fz1 St.prep St.mvL St.mv SV.re1 rnOk St.prEq vals eqCells scEq Value.kd St.prStr St.prCut cutR St.bnd St.prMin St.bld isShift outL retL outJ oR oC St.ev St.get St.put St.new St.kill SV.kill SV.kill1 Ob.kill St.app St.wrt St.rowsOf St.res St.killL lk er argsL SV.strip SV.need SV.share SV.share1 SV.owns SV.owns1 SV.owns2 SV.good SV.good1 SV.rok SV.rok1 SV.rok2 SV.isV SV.isV2 nodupN SV.cells SV.one SV.pur partsIn rowsIn splice cellsAt dstOk scal2 scal1 thenK blockK retK outK outs okC okL okA okT nilC nilL nilA nilT keepC keepL keepA keepT St.runG St.dltK St.least St.clean St.final St.hide offK badS badO SV.refs SV.leaf SV.leaf2 Ob.refs dlOk fpAt Go.Vc.cover tups SV.ofAgg St.out outC subL St.has rng wr Value.oneCell' Option.isSome_some Option.isSome_none List.nil_append Bool.false_eq_true List.map_cons List.map_nil List.all_cons List.all_nil List.length_cons List.length_nil List.drop_zero List.drop_succ_cons List.take_succ_cons List.take_zero List.drop_nil List.take_nil List.getElem?_cons_zero List.getElem?_cons_succ List.getElem?_nil List.cons_append List.nil_append List.append_nil List.append_assoc List.flatMap_cons List.flatMap_nil List.contains_cons List.contains_nil List.set_cons_zero List.set_cons_succ List.getElem?_toArray Option.getD_some Option.getD_none Option.map_some Option.map_none Option.bind_some Option.some.injEq Prod.mk.injEq if_true if_false true_and and_true and_self and_false false_and Bool.and_false Bool.false_and Bool.or_true Bool.true_or Bool.or_false Bool.false_or ne_eq not_true_eq_false not_false_eq_true decide_true decide_false List.mem_cons List.not_mem_nil List.filter_cons List.filter_nil List.any_cons List.any_nil List.isEmpty_nil List.isEmpty_cons Option.getD_none or_false false_or true_or or_true forall_eq_or_imp forall_eq reduceCtorEq exists_eq exists_eq' exists_eq_left' exists_eq_left exists_eq_right exists_eq_right' imp_self implies_true Bool.and_true Bool.true_and Bool.and_self beq_self_eq_true List.replicate_succ List.replicate_zero forall_const false_implies pickB_or pickB_and beqT beqF Int.toNat_natCast List.length_map List.length_replicate ge_iff_le gt_iff_lt decide_eq_true_eq decide_eq_false_iff_not Bool.and_eq_true Bool.or_eq_true Bool.not_eq_true' Bool.not_eq_false' condG List.toList_toArray Bool.or_eq_false_iff Bool.and_eq_false_iff Int.not_lt Int.not_le beq_iff_eq beq_eq_false_iff_ne bne_iff_ne bne_eq_false_iff_eq ne_eq Bool.not_true Bool.not_false exists_and_left
attribute [local irreducible] Go.Vc.WP
attribute [local go_sem] cx0_t cx0_c
attribute [local go_sem] isV_Node isV_It decNode_enc decFrame_enc oneFrame_enc stkA oneFrame_ab oneNode_abc decI_enc prA encI_inj
theorem foldGo_some : ∀ (P : List (List UInt8)) (L : List Entry), foldGo P = some L → L.length + 1 ≤ P.length ∧ ∀ e ∈ L, ∃ p ∈ P, e.stack.size ≤ p.length
  | [], L, h => by cases h
  | [p], L, h => by
    rw [foldGo] at h
    split at h
    · cases h; simp
    · cases h
  | p :: q :: r, L, h => by
    rw [foldGo] at h
    split at h
    · cases hf : foldGo (q :: r) with
      | none => rw [hf] at h; cases h
      | some M =>
        rw [hf] at h
        cases h
        obtain ⟨h1, h2⟩ := foldGo_some (q :: r) M hf
        refine ⟨by simp only [List.length_cons] at h1 ⊢; omega, fun e he => ?_⟩
        rcases List.mem_cons.1 he with he | he
        · subst he
          have := foldedEntry_size (bts p)
          rw [bts_size] at this
          exact ⟨p, List.mem_cons_self, this⟩
        · obtain ⟨x, hx, h3⟩ := h2 e he
          exact ⟨x, List.mem_cons_of_mem _ hx, h3⟩
    · cases h
theorem parseFold_len {s : ByteArray} (hs : s.size ≤ 1048576) : ((parseFold s).getD ([], [])).1.length ≤ 3298534883328 ∧ ((parseFold s).getD ([], [])).2.length ≤ 3298534883328 := by
  unfold parseFold
  cases hf : foldGo (cutL 10 s.data.toList) with
  | none => simp
  | some L =>
    obtain ⟨h1, h2⟩ := foldGo_some _ L hf
    have h3 := cutL_len 10 s.data.toList
    have h4 : s.data.toList.length = s.size := by simp
    have hw : wfE L := ⟨by omega, fun e he => by
      obtain ⟨p, hp, h5⟩ := h2 e he
      have := cutL_mem 10 hp
      omega⟩
    exact profileOf_len hw
section
noncomputable def cxFdL : Cx := { P := Tryd.prog, tys := tys, C := [(9, keqPr), (12, kmarkPr), (13, kheldPr), (10, kPF), (11, kPF)], hty := tysOk, hC := COk.cons ceqPr (COk.cons cmarkPr (COk.cons cheldPr (COk.cons cPFS (COk.cons cPFI (COk.nil _))))) }
theorem cxFdL_t : cxFdL.tys = tys := rfl
theorem cxFdL_c : cxFdL.C = [(9, keqPr), (12, kmarkPr), (13, kheldPr), (10, kPF), (11, kPF)] := rfl
attribute [local go_sem] cxFdL_t cxFdL_c keqPr kmarkPr kheldPr kPF
theorem lawParseFolded (s : ByteArray) : Holds Tryd.prog 4 [.v (.string s)] (.v (.bool true)) [] := by
  refine Holds.go (c := cxFdL) Tryd.func4 rfl Tryd.results4 Tryd.ntmps4 (by omega) (by simp) rfl ?_
  intro X0 w0
  by_cases hz : s.size ≤ 1048576
  · obtain ⟨l1, l2⟩ := parseFold_len hz
    have hzi : ¬ (1048576 : Int) < (s.size : Int) := by omega
    generalize hP : (parseFold s).getD ([], []) = P at l1 l2
    have l3 : P.1.length ≤ 4398046511104 := by omega
    have l4 : P.2.length ≤ 4398046511104 := by omega
    have m1 := marksNode_len 1 P.1.length
    have m2 := marksI_len (1 + 3 * P.1.length) P.2.length
    (repeat' (first | refine WP.seq ?_ | (refine WP.region ?_; simp only [go_sem, m1, m2, hzi, hP, tyAll, Nat.reduceAdd, Nat.reduceLT, Nat.reduceLeDiff, Nat.reduceEqDiff, Nat.reduceMul, Nat.reduceSub, Nat.reduceGT, reduceIte, Int.reduceNeg, Int.reduceToNat]) | refine WP.block ?_ | (refine WP.condW ?_; simp only [go_sem, m1, m2, hzi, hP, tyAll, Nat.reduceAdd, Nat.reduceLT, Nat.reduceLeDiff, Nat.reduceEqDiff, Nat.reduceMul, Nat.reduceSub, Nat.reduceGT, reduceIte, Int.reduceNeg, Int.reduceToNat]) | (refine WP.ret ?_; simp only [go_sem, m1, m2, hzi, hP, tyAll, Nat.reduceAdd, Nat.reduceLT, Nat.reduceLeDiff, Nat.reduceEqDiff, Nat.reduceMul, Nat.reduceSub, Nat.reduceGT, reduceIte, Int.reduceNeg, Int.reduceToNat]) | (refine WP.exit ?_; simp only [go_sem, m1, m2, hzi, hP, tyAll, Nat.reduceAdd, Nat.reduceLT, Nat.reduceLeDiff, Nat.reduceEqDiff, Nat.reduceMul, Nat.reduceSub, Nat.reduceGT, reduceIte, Int.reduceNeg, Int.reduceToNat]) | (refine WP.skip ?_; simp only [go_sem, m1, m2, hzi, hP, tyAll, Nat.reduceAdd, Nat.reduceLT, Nat.reduceLeDiff, Nat.reduceEqDiff, Nat.reduceMul, Nat.reduceSub, Nat.reduceGT, reduceIte, Int.reduceNeg, Int.reduceToNat]) |  refine And.intro ?_ ?_ | intro _))
    all_goals first | omega | exact ⟨_, _, _, rfl⟩ | skip
    all_goals trace_state
  · have hzi : (1048576 : Int) < (s.size : Int) := by omega
    (repeat' (first | refine WP.seq ?_ | (refine WP.region ?_; simp only [go_sem, hzi, tyAll, Nat.reduceAdd, Nat.reduceLT, Nat.reduceLeDiff, Nat.reduceEqDiff, Nat.reduceMul, Nat.reduceSub, Nat.reduceGT, reduceIte, Int.reduceNeg, Int.reduceToNat]) | refine WP.block ?_ | (refine WP.condW ?_; simp only [go_sem, hzi, tyAll, Nat.reduceAdd, Nat.reduceLT, Nat.reduceLeDiff, Nat.reduceEqDiff, Nat.reduceMul, Nat.reduceSub, Nat.reduceGT, reduceIte, Int.reduceNeg, Int.reduceToNat]) | (refine WP.ret ?_; simp only [go_sem, hzi, tyAll, Nat.reduceAdd, Nat.reduceLT, Nat.reduceLeDiff, Nat.reduceEqDiff, Nat.reduceMul, Nat.reduceSub, Nat.reduceGT, reduceIte, Int.reduceNeg, Int.reduceToNat]) | (refine WP.exit ?_; simp only [go_sem, hzi, tyAll, Nat.reduceAdd, Nat.reduceLT, Nat.reduceLeDiff, Nat.reduceEqDiff, Nat.reduceMul, Nat.reduceSub, Nat.reduceGT, reduceIte, Int.reduceNeg, Int.reduceToNat]) | (refine WP.skip ?_; simp only [go_sem, hzi, tyAll, Nat.reduceAdd, Nat.reduceLT, Nat.reduceLeDiff, Nat.reduceEqDiff, Nat.reduceMul, Nat.reduceSub, Nat.reduceGT, reduceIte, Int.reduceNeg, Int.reduceToNat]) |  refine And.intro ?_ ?_ | intro _))
    all_goals first | omega | skip
    all_goals trace_state
end
end Go.Proofs.YtolnapfgfdgifaaDoor

/-
  DERIVED. What is read of a struct, field by field, stands for what its fields stand for.
-/
namespace Go.Vc
open Go.RowKit Go.WideShapes Go.ChangeShapes Go.Deep
set_option linter.unusedVariables false
section
variable {H : Type} {enc : TypeId × Value → H} {P : Program} {w : World}
theorem Cells.append {r1 r2 : List SV} {c1 c2 : List Value} (h1 : Cells w r1 c1) (h2 : Cells w r2 c2) : Cells w (r1 ++ r2) (c1 ++ c2) := by
  refine ⟨by rw [List.length_append, List.length_append, h1.1, h2.1], fun k c u hc hu => ?_⟩
  rw [List.getElem?_append] at hc hu
  by_cases hk : k < r1.length
  · rw [if_pos hk] at hc
    rw [if_pos (by rw [← h1.1]; exact hk)] at hu
    exact h1.2 k c u hc hu
  · rw [if_neg hk] at hc
    rw [if_neg (by rw [← h1.1]; exact hk), ← h1.1] at hu
    exact h2.2 _ c u hc hu
theorem Dec.map {t : TypeId} {α β : Type} {e : α → List SV} {wf : α → Prop} {e' : β → List SV} {wf' : β → Prop} (hd : Dec H enc P w t e wf) (g : α → β) (he : ∀ a, e' (g a) = e a) (hw : ∀ a, wf a → wf' (g a)) : Dec H enc P w t e' wf' := by
  intro base sp held n cs y h
  obtain ⟨a, ha, hc⟩ := hd _ _ _ _ _ _ h
  exact ⟨g a, hw a ha, by rw [he]; exact hc⟩
theorem Dec.struct1 {t : TypeId} {f0 : Field} {k0 : Nat} {α : Type} {e : α → List SV} {wf : α → Prop} (ht : P.underlying t = some (.struct #[f0])) (o0 : f0.offset = 0) (h0 : P.cellsOf f0.type = k0) (hC : P.cellsOf t = k0) (hd : Dec H enc P w f0.type e wf) : Dec H enc P w t e wf := by
  intro base sp held n cs y h
  obtain ⟨y0, m, _, hl, g0⟩ := trod_struct1 ht h
  obtain ⟨a, ha, hc⟩ := hd _ _ _ _ _ _ g0
  rw [o0, h0, List.drop_zero, List.take_of_length_le (by omega)] at hc
  exact ⟨a, ha, hc⟩
theorem Dec.struct2 {t : TypeId} {f0 f1 : Field} {k0 k1 : Nat} {α β : Type} {e0 : α → List SV} {w0 : α → Prop} {e1 : β → List SV} {w1 : β → Prop} (ht : P.underlying t = some (.struct #[f0, f1])) (o0 : f0.offset = 0) (h0 : P.cellsOf f0.type = k0) (o1 : f1.offset = k0) (h1 : P.cellsOf f1.type = k1) (hC : P.cellsOf t = k0 + k1)
    (d0 : Dec H enc P w f0.type e0 w0) (d1 : Dec H enc P w f1.type e1 w1) : Dec H enc P w t (fun x : α × β => e0 x.1 ++ e1 x.2) (fun x => w0 x.1 ∧ w1 x.2) := by
  intro base sp held n cs y h
  obtain ⟨y0, y1, m, _, hl, g0, g1⟩ := trod_struct2 ht h
  obtain ⟨a, ha, hc⟩ := d0 _ _ _ _ _ _ g0
  obtain ⟨b, hb, hd⟩ := d1 _ _ _ _ _ _ g1
  rw [o0, h0, List.drop_zero] at hc
  rw [o1, h1, List.take_of_length_le (by rw [List.length_drop]; omega)] at hd
  refine ⟨(a, b), ⟨ha, hb⟩, ?_⟩
  have := hc.append hd
  rwa [List.take_append_drop] at this
theorem Dec.struct3 {t : TypeId} {f0 f1 f2 : Field} {k0 k1 k2 : Nat} {α β γ : Type} {e0 : α → List SV} {w0 : α → Prop} {e1 : β → List SV} {w1 : β → Prop} {e2 : γ → List SV} {w2 : γ → Prop} (ht : P.underlying t = some (.struct #[f0, f1, f2])) (o0 : f0.offset = 0) (h0 : P.cellsOf f0.type = k0) (o1 : f1.offset = k0) (h1 : P.cellsOf f1.type = k1) (o2 : f2.offset = k0 + k1) (h2 : P.cellsOf f2.type = k2) (hC : P.cellsOf t = k0 + k1 + k2)
    (d0 : Dec H enc P w f0.type e0 w0) (d1 : Dec H enc P w f1.type e1 w1) (d2 : Dec H enc P w f2.type e2 w2) : Dec H enc P w t (fun x : α × β × γ => e0 x.1 ++ (e1 x.2.1 ++ e2 x.2.2)) (fun x => w0 x.1 ∧ w1 x.2.1 ∧ w2 x.2.2) := by
  intro base sp held n cs y h
  obtain ⟨y0, y1, y2, m, _, hl, g0, g1, g2⟩ := trod_struct3 ht h
  obtain ⟨a, ha, hc⟩ := d0 _ _ _ _ _ _ g0
  obtain ⟨b, hb, hd⟩ := d1 _ _ _ _ _ _ g1
  obtain ⟨c, hc', he⟩ := d2 _ _ _ _ _ _ g2
  rw [o0, h0, List.drop_zero] at hc
  rw [o1, h1] at hd
  rw [o2, h2, List.take_of_length_le (by rw [List.length_drop]; omega), ← List.drop_drop] at he
  refine ⟨(a, b, c), ⟨ha, hb, hc'⟩, ?_⟩
  have := hc.append (hd.append he)
  rwa [List.take_append_drop, List.take_append_drop] at this
end
end Go.Vc

/-
  DERIVED. What is read of stacks and of a profile.
-/
namespace Go.Proofs.YtolnapfgfdgifaaDoor
open Go.Vc Go.RowKit Go.WideShapes Go.ChangeShapes Go.Deep
section
variable {H : Type} {enc : TypeId × Value → H} {w : World}
def okN (L : List Node) : Prop := L.length ≤ maxLen ∧ ∀ x ∈ L, x.name.size ≤ maxLen
theorem rowNode' : Dec H enc Tryd.prog w 82 encNode (fun x => x.name.size ≤ maxLen) :=
  (Dec.struct2 (k0 := 1) (k1 := 2) Tryd.underlying82 rfl (by kernel_rfl) rfl (by kernel_rfl) (by kernel_rfl) (Dec.int Tryd.underlying3) rowFrame).map (fun x : Int × Frame => (⟨x.1, x.2.name, x.2.line⟩ : Node)) (fun _ => rfl) (fun _ h => h.2.1)
theorem rowStk : Dec H enc Tryd.prog w 24 (fun N : List Node => [.sl 3 (N.map encNode)]) okN :=
  Dec.struct1 (k0 := 1) Tryd.underlying24 rfl (by kernel_rfl) (by kernel_rfl) (Dec.slice (s := 3) Tryd.underlying22 (by kernel_rfl) (by omega) rowNode' (fun _ => rfl))
theorem rowPr : Dec H enc Tryd.prog w 27 (fun x : List Node × List Int => [.sl 3 (x.1.map encNode), .sl 1 (x.2.map encI)]) wfM :=
  (Dec.struct2 (k0 := 1) (k1 := 1) Tryd.underlying27 rfl (by kernel_rfl) rfl (by kernel_rfl) (by kernel_rfl) rowStk
    (Dec.slice (s := 1) Tryd.underlying25 (by kernel_rfl) (by omega) (Dec.int Tryd.underlying3) (fun _ => rfl))).map (fun x : List Node × List Int => x) (fun _ => rfl) (fun _ h => ⟨h.1.1, h.1.2, h.2.1⟩)
end
end Go.Proofs.YtolnapfgfdgifaaDoor
