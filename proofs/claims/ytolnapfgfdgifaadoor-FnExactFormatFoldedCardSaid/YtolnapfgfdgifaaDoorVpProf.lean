/-
  DERIVED. Plain lists: interned stacks and profiles.
-/
import Derived.Test.YtolnapfgfdgifaaDoorVpFmt
import Derived.Test.YtolnapfgfdgifaaDoorVtX
namespace Go.Proofs.YtolnapfgfdgifaaDoor
set_option linter.unusedVariables false
open Go.Pl

def nodeFr (x : Node) : Frame := ⟨x.name, x.line⟩
def mkNode (p : Int) (f : Frame) : Node := ⟨p, f.name, f.line⟩

def stNode (N : List Node) (k : Nat) (x : Node) : Bool := decide (-1 ≤ x.parent) && decide (x.parent ≤ (k : Int) - 1) && frOk (nodeFr x) && (N.take k).all fun y => decide (y ≠ x)
theorem stNode_iff {N : List Node} {k : Nat} {x : Node} : stNode N k x = true ↔ -1 ≤ x.parent ∧ x.parent ≤ (k : Int) - 1 ∧ frOk (nodeFr x) = true ∧ ∀ y ∈ N.take k, y ≠ x := by
  simp [stNode, and_assoc]
def stacksOk (N : List Node) : Bool := decide (∀ k (h : k < N.length), stNode N k N[k] = true)
theorem stacksOk_at {N : List Node} (h : stacksOk N = true) (k : Nat) (hk : k < N.length) : stNode N k N[k] = true := by
  unfold stacksOk at h
  exact of_decide_eq_true h k hk
theorem stacksOk_bad {N : List Node} {k : Nat} (hk : k < N.length) (h : stNode N k N[k] = false) : stacksOk N = false := by
  cases hs : stacksOk N with
  | false => rfl
  | true => rw [stacksOk_at hs k hk] at h; cases h
theorem stacksOk_all {N : List Node} (h : ∀ k (h : k < N.length), stNode N k N[k] = true) : stacksOk N = true := by
  unfold stacksOk
  exact decide_eq_true h
theorem stNode_dup {N : List Node} {k i : Nat} (hk : k < N.length) (hi : i < k) (h : N[i]'(by omega) = N[k]) : stNode N k N[k] = false := by
  cases hs : stNode N k N[k] with
  | false => rfl
  | true => exact absurd h ((stNode_iff.1 hs).2.2.2 _ (by
      rw [List.mem_take_iff_getElem]
      exact ⟨i, by omega, rfl⟩))
theorem stNode_ok {N : List Node} {k : Nat} {x : Node} (h1 : -1 ≤ x.parent) (h2 : x.parent ≤ (k : Int) - 1) (h3 : frOk (nodeFr x) = true) (h4 : ∀ i (hi : i < N.length), i < k → N[i] ≠ x) : stNode N k x = true := by
  refine stNode_iff.2 ⟨h1, h2, h3, fun y hy => ?_⟩
  rw [List.mem_take_iff_getElem] at hy
  obtain ⟨i, hi, rfl⟩ := hy
  exact h4 i (by omega) (by omega)

/-! ## child, stack -/
def hitNode (p : Int) (f : Frame) (x : Node) : Bool := decide (x.parent = p) && decide (nodeFr x = f)
def child (N : List Node) (p : Int) (f : Frame) : Int := firstIdx (hitNode p f) N
theorem firstIdx_bound {α : Type} (p : α → Bool) (L : List α) : -1 ≤ firstIdx p L ∧ firstIdx p L < L.length ∨ firstIdx p L = -1 := by
  unfold firstIdx
  split
  · rename_i i h
    have := (List.findIdx?_eq_some_iff_getElem.1 h).1
    left; omega
  · right; rfl
theorem child_bound (N : List Node) (p : Int) (f : Frame) : -1 ≤ child N p f ∧ child N p f < N.length := by
  have := firstIdx_bound (hitNode p f) N
  unfold child
  omega
def upF (N : List Node) : Nat → Int → List Frame
  | 0, _ => []
  | n + 1, k => if k < 0 then [] else match N[k.toNat]? with
    | some x => nodeFr x :: upF N n x.parent
    | none => []
def stackAt (N : List Node) (k : Int) : List Frame := if stacksOk N = true ∧ 0 ≤ k ∧ k < N.length then (upF N (k.toNat + 1) k).reverse else []
theorem upF_len (N : List Node) : ∀ f k, (upF N f k).length ≤ f
  | 0, _ => by simp [upF]
  | f + 1, k => by
    rw [upF]
    split
    · simp
    · split
      · rename_i x _
        have := upF_len N f x.parent
        simp only [List.length_cons]; omega
      · simp
theorem upF_neg (N : List Node) (f : Nat) (k : Int) (h : k < 0) : upF N f k = [] := by
  cases f with
  | zero => rfl
  | succ f => rw [upF, if_pos h]
theorem upF_pos (N : List Node) (f q : Nat) (h : q < N.length) (hf : q < f) : upF N f q = nodeFr N[q] :: upF N (f - 1) N[q].parent := by
  obtain ⟨f, rfl⟩ : ∃ g, f = g + 1 := ⟨f - 1, by omega⟩
  rw [upF, if_neg (by omega), Int.toNat_natCast, List.getElem?_eq_getElem h]
  rfl
theorem stackAt_len (N : List Node) (k : Int) : (stackAt N k).length ≤ N.length := by
  unfold stackAt
  split
  · rw [List.length_reverse]; have := upF_len N (k.toNat + 1) k; omega
  · simp
/-- enough fuel is enough -/
theorem upF_fuel {N : List Node} (hok : stacksOk N = true) : ∀ (n f g q : Nat), q < n → q < N.length → q < f → q < g → upF N f q = upF N g q
  | 0, f, g, q, h, _, _, _ => by omega
  | n + 1, f, g, q, h, hq, hf, hg => by
    rw [upF_pos N f q hq hf, upF_pos N g q hq hg]
    congr 1
    have hn := stNode_iff.1 (stacksOk_at hok q hq)
    rcases Int.lt_or_le N[q].parent 0 with h0 | h0
    · rw [upF_neg _ _ _ h0, upF_neg _ _ _ h0]
    · obtain ⟨r, hr⟩ := Int.eq_ofNat_of_zero_le h0
      rw [hr] at hn ⊢
      exact upF_fuel hok n (f - 1) (g - 1) r (by omega) (by omega) (by omega) (by omega)
theorem upF_ok {N : List Node} (hok : stacksOk N = true) : ∀ (f : Nat) (k : Int), k < N.length → (upF N f k).all frOk = true
  | 0, _, _ => rfl
  | f + 1, k, hk => by
    rcases Int.lt_or_le k 0 with h0 | h0
    · rw [upF_neg _ _ _ h0]; rfl
    · obtain ⟨q, rfl⟩ := Int.eq_ofNat_of_zero_le h0
      have hq : q < N.length := by omega
      have hn := stNode_iff.1 (stacksOk_at hok q hq)
      rw [upF, if_neg (by omega), Int.toNat_natCast, List.getElem?_eq_getElem hq]
      simp only [List.all_cons, Bool.and_eq_true]
      exact ⟨hn.2.2.1, upF_ok hok f _ (by omega)⟩
theorem stackAt_ok (N : List Node) (k : Int) : (stackAt N k).all frOk = true := by
  unfold stackAt
  split
  · rename_i h; rw [List.all_reverse]; exact upF_ok h.1 _ _ h.2.2
  · rfl
theorem stackAt_ne {N : List Node} (hok : stacksOk N = true) (q : Nat) (hq : q < N.length) : stackAt N q ≠ [] := by
  unfold stackAt
  rw [if_pos ⟨hok, by omega, by omega⟩, Int.toNat_natCast, upF_pos N (q + 1) q hq (by omega)]
  simp
/-- two nodes of one stack are one node -/
theorem upF_inj {N : List Node} (hok : stacksOk N = true) : ∀ (n j k f g : Nat), j < n → j < N.length → k < N.length → j < f → k < g → upF N f j = upF N g k → j = k
  | 0, j, k, f, g, h, _, _, _, _, _ => by omega
  | n + 1, j, k, f, g, h, hj, hk, hf, hg, he => by
    rw [upF_pos N f j hj hf, upF_pos N g k hk hg] at he
    have h1 := (List.cons.inj he).1
    have h2 := (List.cons.inj he).2
    have nj := stNode_iff.1 (stacksOk_at hok j hj)
    have nk := stNode_iff.1 (stacksOk_at hok k hk)
    have hp : N[j].parent = N[k].parent := by
      rcases Int.lt_or_le N[j].parent 0 with a | a <;> rcases Int.lt_or_le N[k].parent 0 with b | b
      · omega
      · obtain ⟨r, hr⟩ := Int.eq_ofNat_of_zero_le b
        rw [upF_neg _ _ _ a, hr, upF_pos N (g - 1) r (by omega) (by omega)] at h2
        cases h2
      · obtain ⟨r, hr⟩ := Int.eq_ofNat_of_zero_le a
        rw [upF_neg _ _ _ b, hr, upF_pos N (f - 1) r (by omega) (by omega)] at h2
        cases h2
      · obtain ⟨r, hr⟩ := Int.eq_ofNat_of_zero_le a
        obtain ⟨s, hs⟩ := Int.eq_ofNat_of_zero_le b
        rw [hr, hs] at h2
        have := upF_inj hok n r s (f - 1) (g - 1) (by omega) (by omega) (by omega) (by omega) (by omega) h2
        omega
    have hxy : N[j] = N[k] := by
      have : ∀ x y : Node, nodeFr x = nodeFr y → x.parent = y.parent → x = y := by
        rintro ⟨a, b, c⟩ ⟨d, e, g⟩ h1 h2
        simp only [nodeFr, Frame.mk.injEq] at h1 h2
        obtain ⟨rfl, rfl⟩ := h1
        have h2 : a = d := h2
        rw [h2]
      exact this _ _ h1 hp
    rcases Nat.lt_trichotomy j k with hlt | heq | hgt
    · have := stNode_dup hk hlt hxy; rw [stacksOk_at hok k hk] at this; cases this
    · exact heq
    · have := stNode_dup hj hgt hxy.symm; rw [stacksOk_at hok j hj] at this; cases this
theorem stackAt_inj {N : List Node} (hok : stacksOk N = true) {j k : Nat} (hj : j < N.length) (hk : k < N.length) (h : stackAt N j = stackAt N k) : j = k := by
  unfold stackAt at h
  rw [if_pos ⟨hok, by omega, by omega⟩, if_pos ⟨hok, by omega, by omega⟩, Int.toNat_natCast, Int.toNat_natCast] at h
  exact upF_inj hok (j + 1) j k _ _ (by omega) hj hk (by omega) (by omega) (List.reverse_inj.1 h)

/-! ## interning -/
def intGo : List Frame → List Node × Int → List Node × Int
  | [], s => s
  | f :: L, s => intGo L (if child s.1 s.2 f < 0 then (s.1 ++ [mkNode s.2 f], (s.1.length : Int)) else (s.1, child s.1 s.2 f))
def intern (N : List Node) (L : List Frame) : List Node × Int := if stacksOk N = true ∧ L ≠ [] ∧ L.all frOk = true then intGo L (N, -1) else (N, -1)
theorem intGo_len : ∀ (L : List Frame) (s : List Node × Int), s.1.length ≤ (intGo L s).1.length ∧ (intGo L s).1.length ≤ s.1.length + L.length
  | [], s => by simp [intGo]
  | f :: L, s => by
    have := intGo_len L (if child s.1 s.2 f < 0 then (s.1 ++ [mkNode s.2 f], (s.1.length : Int)) else (s.1, child s.1 s.2 f))
    rw [intGo]
    simp only [List.length_cons]
    split at this
    · rename_i h; rw [if_pos h]; simp only [List.length_append, List.length_cons, List.length_nil] at this; omega
    · rename_i h; rw [if_neg h]; simp only at this; omega
theorem intGo_at : ∀ (L : List Frame) (s : List Node × Int), (L = [] → 0 ≤ s.2 ∧ s.2 < s.1.length) → 0 ≤ (intGo L s).2 ∧ (intGo L s).2 < (intGo L s).1.length
  | [], s, h => h rfl
  | f :: L, s, h => by
    rw [intGo]
    refine intGo_at L _ fun _ => ?_
    have := child_bound s.1 s.2 f
    split
    · simp only [List.length_append, List.length_cons, List.length_nil]; omega
    · simp only; omega
theorem intern_len (N : List Node) (L : List Frame) : N.length ≤ (intern N L).1.length ∧ (intern N L).1.length ≤ N.length + L.length := by
  unfold intern
  split
  · have := intGo_len L (N, -1); simpa using this
  · simp only; omega
theorem intern_at (N : List Node) (L : List Frame) : (intern N L).2 = -1 ∨ (0 ≤ (intern N L).2 ∧ (intern N L).2 < (intern N L).1.length) := by
  unfold intern
  split
  · rename_i h
    right
    exact intGo_at L (N, -1) fun e => absurd e h.2.1
  · left; rfl
theorem intGo_names {B : Nat} : ∀ (L : List Frame) (s : List Node × Int), (∀ x ∈ s.1, x.name.size ≤ B) → (∀ f ∈ L, f.name.size ≤ B) → ∀ x ∈ (intGo L s).1, x.name.size ≤ B
  | [], s, h, _ => h
  | f :: L, s, h, hL => by
    rw [intGo]
    refine intGo_names L _ ?_ fun g hg => hL g (List.mem_cons_of_mem _ hg)
    split
    · intro x hx
      rcases List.mem_append.1 hx with hx | hx
      · exact h x hx
      · simp only [List.mem_cons, List.not_mem_nil, or_false] at hx
        subst hx
        exact hL f List.mem_cons_self
    · exact h
theorem intern_names {B : Nat} {N : List Node} {L : List Frame} (h : ∀ x ∈ N, x.name.size ≤ B) (hL : ∀ f ∈ L, f.name.size ≤ B) : ∀ x ∈ (intern N L).1, x.name.size ≤ B := by
  unfold intern
  split
  · exact intGo_names L _ h hL
  · exact h

/-! ## profiles -/
def MaxC : Int := 1000000000000
def cntOk (C : List Int) : Bool := decide (∀ k (h : k < C.length), 0 ≤ C[k] ∧ C[k] ≤ 1000000000000 - (C.take k).sum)
def profileOk (N : List Node) (C : List Int) : Bool := stacksOk N && decide (C.length = N.length) && cntOk C
theorem cntOk_at {C : List Int} (h : cntOk C = true) (k : Nat) (hk : k < C.length) : 0 ≤ C[k] ∧ C[k] ≤ 1000000000000 - (C.take k).sum := by
  unfold cntOk at h
  exact of_decide_eq_true h k hk
theorem take_sum (C : List Int) (k : Nat) (hk : k < C.length) : (C.take (k + 1)).sum = (C.take k).sum + C[k] := by
  rw [List.take_succ_eq_append_getElem hk, List.sum_append]; simp
theorem cntOk_sum {C : List Int} (h : ∀ j (hj : j < C.length), 0 ≤ C[j] ∧ C[j] ≤ 1000000000000 - (C.take j).sum) : ∀ k, k ≤ C.length → 0 ≤ (C.take k).sum ∧ (C.take k).sum ≤ 1000000000000
  | 0, _ => by simp
  | k + 1, hk => by
    have ih := cntOk_sum h k (by omega)
    have := h k (by omega)
    rw [take_sum C k (by omega)]; omega
theorem profileOk_iff {N : List Node} {C : List Int} : profileOk N C = true ↔ stacksOk N = true ∧ C.length = N.length ∧ cntOk C = true := by
  simp [profileOk, and_assoc]
def totalOf (N : List Node) (C : List Int) : Int := if profileOk N C = true then C.sum else 0
theorem profileOk_sum {N : List Node} {C : List Int} (h : profileOk N C = true) (k : Nat) (hk : k ≤ C.length) : 0 ≤ (C.take k).sum ∧ (C.take k).sum ≤ 1000000000000 :=
  cntOk_sum (fun j hj => cntOk_at (profileOk_iff.1 h).2.2 j hj) k hk
def addC (C : List Int) (m : Nat) (k : Nat) (n : Int) : List Int := (C ++ List.replicate (m - C.length) 0).set k ((C ++ List.replicate (m - C.length) 0).getD k 0 + n)
def addStack (N : List Node) (C : List Int) (L : List Frame) (n : Int) : (List Node × List Int) × Bool :=
  if profileOk N C = true ∧ 0 ≤ n ∧ n ≤ 1000000000000 ∧ 0 ≤ (intern N L).2 ∧ profileOk (intern N L).1 (addC C (intern N L).1.length (intern N L).2.toNat n) = true
  then (((intern N L).1, addC C (intern N L).1.length (intern N L).2.toNat n), true) else ((N, C), false)

end Go.Proofs.YtolnapfgfdgifaaDoor
