/-
  DERIVED. A nil slice in a slot or in a variable's cell as a list of one's own that holds nothing.
-/
import Derived.Test.YtolnapfgfdgifaaDoorVcM
namespace Go.Vc
set_option linter.unusedVariables false

/-- object t is turned into what stands for the same cells -/
def rp (t : Nat) (ob : Ob) : List (Nat × Ob) → List (Nat × Ob)
  | [] => []
  | (u, o) :: l => (if u = t then (u, ob) else (u, o)) :: rp t ob l
theorem lk_rp {t : Nat} {ob : Ob} {j : Nat} : ∀ {l : List (Nat × Ob)} {o : Ob}, lk j (rp t ob l) = some o → ∃ o0, lk j l = some o0 ∧ (j = t → o = ob) ∧ (j ≠ t → o = o0)
  | (u, o1) :: l, o, h => by
    simp only [rp] at h
    by_cases hu : u = t
    · rw [if_pos hu] at h
      simp only [lk] at h ⊢
      by_cases hj : j = u
      · rw [if_pos hj] at h ⊢; cases h
        exact ⟨o1, rfl, fun _ => rfl, fun hn => absurd (hj.trans hu) hn⟩
      · rw [if_neg hj] at h ⊢; exact lk_rp h
    · rw [if_neg hu] at h
      simp only [lk] at h ⊢
      by_cases hj : j = u
      · rw [if_pos hj] at h ⊢; cases h
        exact ⟨_, rfl, fun e => absurd (hj.symm.trans e) hu, fun _ => rfl⟩
      · rw [if_neg hj] at h ⊢; exact lk_rp h
def isNil : SV → Bool
  | .v (.slice none 0 0) => true
  | _ => false
/-- cell k of variable t, a nil slice, is list id from here on (elements of type e, of s cells) -/
def St.adoptB (st : St) (t k id e s : Nat) : St :=
  match lk t (st.kill id).hp with
  | some (.box e' cs) => match cs[k]? with
    | some c => if isNil c = true ∧ id < 1000000 ∧ t ≠ id then { fr := (st.kill id).fr, hp := rp t (.box e' (cs.set k (.own id))) ((id, .sl e s []) :: (st.kill id).hp) } else st
    | none => st
  | _ => st
/-- .. what slot t holds -/
def St.adoptS (st : St) (t id e s : Nat) : St :=
  match lk t (st.kill id).fr with
  | some c => if isNil c = true ∧ id < 1000000 then { fr := (t, .own id) :: er t (st.kill id).fr, hp := (id, .sl e s []) :: (st.kill id).hp } else st
  | none => st
section
variable {c : Cx} {P : Program} {N : Nat} {X0 : Nat → Prop} {M : Nat → Value → Prop} {w0 : World} {st : St} {K : Exit → St → Prop}
theorem isNil_eq {x : SV} (h : isNil x = true) : x = .v (.slice none 0 0) := by
  unfold isNil at h
  split at h
  · rfl
  · cases h
theorem Sim.nilObj {β : Nat → Value} {a : Act} {w : World} (h : Sim N X0 M w0 st β a w) {id e s : Nat} (hid : id < 1000000) :
    ∃ β', β' id = .slice none 0 0 ∧ Sim N X0 M w0 { fr := (st.kill id).fr, hp := (id, .sl e s []) :: (st.kill id).hp } β' a w := by
  let β' : Nat → Value := fun i => if i = id then .slice none 0 0 else β i
  have hβ : ∀ i, i ≠ id → β' i = β i := fun i hi => by show (if i = id then _ else β i) = _; rw [if_neg hi]
  have hβd : β' id = .slice none 0 0 := by show (if id = id then _ else β id) = _; rw [if_pos rfl]
  have h1 := h.kill id hid hβ (by rw [hβd]; rfl) (w' := w) rfl rfl rfl (Nat.le_refl _) (fun _ _ _ => rfl) (X1 := X0) (fun b _ hb => .inl hb) h.x0
  refine ⟨β', hβd, ?_⟩
  exact h1.add (j := id) (lk_kill st id) (ob := .sl e s []) (.nil e s hβd) (fun b hb => by rw [hβd] at hb; cases hb) (fun b hb => by rw [hβd] at hb; cases hb) (fun b i o hb => by rw [hβd] at hb; cases hb)
theorem Sim.rp {β : Nat → Value} {a : Act} {w : World} (h : Sim N X0 M w0 st β a w) {t e' : Nat} {cs ds : List SV} (ht : lk t st.hp = some (.box e' cs)) (hl : ds.length = cs.length)
    (hd : ∀ (k : Nat) (d : SV), ds[k]? = some d → ∃ c, cs[k]? = some c ∧ ∀ u, R w (XX X0 β st.hp) β c u → R w (XX X0 β st.hp) β d u) : Sim N X0 M w0 { fr := st.fr, hp := Go.Vc.rp t (.box e' ds) st.hp } β a w := by
  have hX : ∀ b, XX X0 β (Go.Vc.rp t (.box e' ds) st.hp) b → XX X0 β st.hp b := fun b hb => by
    rcases hb with hb | ⟨j, o, hj, hb⟩
    · exact .inl hb
    · obtain ⟨o0, h1, _⟩ := lk_rp hj; exact .inr ⟨j, o0, h1, hb⟩
  have hS : Same (XX X0 β st.hp) w w := ⟨Nat.le_refl _, fun _ _ _ => rfl⟩
  exact { h with
    slots := fun u x hx => (h.slots u x hx).mono hS fun b _ => hX b
    objs := fun j o hj => by
      obtain ⟨o0, h1, h2, h3⟩ := lk_rp hj
      by_cases hjt : j = t
      · rw [h2 hjt]
        subst hjt
        have hO := h.objs j _ ht
        cases hO with
        | box b cur hv hh hlen hc =>
          refine .box b cur hv hh (by rw [hl]; exact hlen) fun k d u hk hu => ?_
          obtain ⟨c0, hc0, hR⟩ := hd k d hk
          obtain ⟨g1, g2⟩ := hc k c0 u hc0 hu
          exact ⟨g1, (hR u g2).mono hS fun b _ => hX b⟩
      · rw [h3 hjt]
        exact (h.objs j o0 h1).mono hS (fun b _ hb => hX b hb) (fun _ _ => rfl)
    inj := fun p q op oq b hp hq hbp hbq => by
      obtain ⟨o1, e1, _⟩ := lk_rp hp
      obtain ⟨o2, e2, _⟩ := lk_rp hq
      exact h.inj p q o1 o2 b e1 e2 hbp hbq
    mine := fun j o b hj hb => by
      obtain ⟨o1, e1, _⟩ := lk_rp hj
      exact h.mine j o1 b e1 hb }
theorem Sim.adoptB {β : Nat → Value} {a : Act} {w : World} (h : Sim N X0 M w0 st β a w) (t k id e s : Nat) : ∃ β', Sim N X0 M w0 (st.adoptB t k id e s) β' a w := by
  unfold St.adoptB
  split
  case h_2 => exact ⟨β, h⟩
  case h_1 _ e' cs hl =>
  split
  case h_2 => exact ⟨β, h⟩
  case h_1 _ c0 hc =>
  split
  case isFalse => exact ⟨β, h⟩
  case isTrue hh =>
  obtain ⟨hn, hid, hne⟩ := hh
  have hc0 := isNil_eq hn
  subst hc0
  obtain ⟨β', hb, h1⟩ := h.nilObj (e := e) (s := s) hid
  refine ⟨β', ?_⟩
  have hlt : k < cs.length := (List.getElem?_eq_some_iff.1 hc).1
  refine h1.rp (t := t) (e' := e') (cs := cs) (ds := cs.set k (.own id)) ?_ (by simp) fun i d hd => ?_
  · simp only [lk, if_neg hne]; exact hl
  · rw [List.getElem?_set] at hd
    split at hd
    · rename_i hik
      subst hik
      try rw [if_pos hlt] at hd
      cases hd
      exact ⟨_, hc, fun u hu => by have := hu.v_inv; subst this; rw [← hb]; exact .own id⟩
    · exact ⟨d, hd, fun u hu => hu⟩
theorem Sim.adoptS {β : Nat → Value} {a : Act} {w : World} (h : Sim N X0 M w0 st β a w) (t id e s : Nat) : ∃ β', Sim N X0 M w0 (st.adoptS t id e s) β' a w := by
  unfold St.adoptS
  split
  case h_2 => exact ⟨β, h⟩
  case h_1 _ c0 hc =>
  split
  case isFalse => exact ⟨β, h⟩
  case isTrue hh =>
  obtain ⟨hn, hid⟩ := hh
  have hc0 := isNil_eq hn
  subst hc0
  obtain ⟨β', hb, h1⟩ := h.nilObj (e := e) (s := s) hid
  refine ⟨β', ?_⟩
  have hv := (h1.slots t _ hc).v_inv
  exact { h1 with
    slots := fun u x hx => by
      simp only [lk] at hx
      split at hx
      · rename_i hut
        cases hx
        rw [hut, hv, ← hb]; exact .own id
      · rename_i hut
        rw [lk_er_ne hut] at hx
        exact h1.slots u x hx }
/-- a list of such changes -/
inductive Ado where
  | b (t k id e s : Nat)
  | s (t id e s : Nat)
def St.ado (st : St) : List Ado → St
  | [] => st
  | .b t k id e s :: l => (st.adoptB t k id e s).ado l
  | .s t id e s :: l => (st.adoptS t id e s).ado l
theorem Sim.ado {a : Act} {w : World} : ∀ (l : List Ado) {st : St} {β : Nat → Value}, Sim N X0 M w0 st β a w → ∃ β', Sim N X0 M w0 (st.ado l) β' a w
  | [], st, β, h => ⟨β, h⟩
  | .b t k id e s :: l, st, β, h => by obtain ⟨β', h'⟩ := h.adoptB t k id e s; exact Sim.ado l h'
  | .s t id e s :: l, st, β, h => by obtain ⟨β', h'⟩ := h.adoptS t id e s; exact Sim.ado l h'
theorem WP.ado (l : List Ado) {code : Code} (h : WP c N X0 M w0 code (st.ado l) K) : WP c N X0 M w0 code st K := fun hA β a w hs => by
  obtain ⟨β', h'⟩ := hs.ado l
  exact h hA β' a w h'
end
end Go.Vc
