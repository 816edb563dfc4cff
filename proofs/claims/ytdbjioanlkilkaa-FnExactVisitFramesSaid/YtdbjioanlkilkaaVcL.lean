/-
  DERIVED. Calls that write into what they are lent, and calls that are given objects.
-/
import Derived.Test.YtdbjioanlkilkaaVcH
namespace Go.Vc
set_option linter.unusedVariables false
set_option linter.unusedSimpArgs false

/-- other numbers for the objects; what has none is not told -/
def SV.ren1 (ρ : List (Nat × Nat)) : SV → SV
  | .own k => match lk k ρ with
    | some j => .own j
    | none => .junk
  | .ptr k s a b => match lk k ρ with
    | some j => .ptr j s a b
    | none => .junk
  | .agg _ => .junk
  | .tup _ => .junk
  | .fn _ _ => .junk
  | .cond _ _ => .junk
  | x => x
def pairs (b : Nat) : List Nat → List (Nat × Nat)
  | [] => []
  | i :: l => (i, b) :: pairs (b + 1) l
def swapL (ρ : List (Nat × Nat)) : List (Nat × Nat) := ρ.map fun p => (p.2, p.1)
def St.lent1 (st : St) : SV → List Nat
  | .own id => [id]
  | .ptr id _ _ _ => id :: (match lk id st.hp with
    | some (.box _ cs) => cs.flatMap SV.owns1
    | _ => [])
  | _ => []
def St.lentV (st : St) : SV → List Nat
  | .agg cs => cs.flatMap st.lent1
  | x => st.lent1 x
def nthS (A : List SV) (i : Nat) : SV := (A[i]?).getD .junk
def lentBy (st : St) (A : List SV) (is : List Nat) : List Nat := is.flatMap fun i => st.lentV (nthS A i)
/-- the arguments as the callee sees them: those of 'is' lent, the others shared -/
def argsR (hp : List (Nat × Ob)) (ρ : List (Nat × Nat)) (is : List Nat) : Nat → List SV → List SV
  | _, [] => []
  | k, y :: l => (if is.contains k then y.up (SV.ren1 ρ) else y.share hp) :: argsR hp ρ is (k + 1) l
def restOf (is : List Nat) : Nat → List SV → List SV
  | _, [] => []
  | k, y :: l => if is.contains k then restOf is (k + 1) l else y :: restOf is (k + 1) l
def obsR (hp : List (Nat × Ob)) (ρ : List (Nat × Nat)) : List (Nat × Ob) := ρ.map fun p => (p.2, ((lk p.1 hp).getD (.sl 0 0 [])).up (SV.ren1 ρ))
def erL {α : Type} (ids : List Nat) (l : List (Nat × α)) : List (Nat × α) := match ids with
  | [] => l
  | i :: is => er i (erL is l)
def backL (ρl : List (Nat × Nat)) (robs : List (Nat × Ob)) : List (Nat × Nat) := robs.map (fun q => (q.1, q.1)) ++ swapL ρl
def unObs (τ : List (Nat × Nat)) (obs : List (Nat × Ob)) : List (Nat × Ob) := obs.map fun p => ((lk p.1 τ).getD p.1, p.2.up (SV.ren1 τ))
def St.resL (st : St) (ρl : List (Nat × Nat)) (moved : List Nat) (d : Option Nat) (res : SV) (robs kept : List (Nat × Ob)) : St :=
  St.put { fr := (st.killL (moved ++ robs.map (·.1))).fr, hp := unObs (backL ρl robs) (robs ++ kept) ++ erL ((unObs (backL ρl robs) (robs ++ kept)).map (·.1)) (st.killL (moved ++ robs.map (·.1))).hp } d (res.up (SV.ren1 (backL ρl robs)))

/-- a call that is lent or given objects -/
def St.callL (dd : Nat) (C : List (FuncId × Ctr)) (o : Oper) (st : St) (K : St → Prop) : Prop :=
  match o.op with
  | .call c => match c.callee with
    | .value x => match st.ev x with
      | .fn f caps => match lk f C with
        | some ctr => match st.argL c caps, lentBy st (st.argL c caps) ctr.lend, lentBy st (st.argL c caps) ctr.move with
          | A, Ll, Lm => match pairs 1000000 Ll ++ pairs 900000 Lm with
            | ρ => match ctr.wri dd (argsR st.hp ρ (ctr.lend ++ ctr.move) 0 A) (obsR st.hp ρ) with
              | (ob, res, robs, kept) => ob ∧ (∀ y ∈ c.args.toList, (st.ev y).need) ∧ ((restOf (ctr.lend ++ ctr.move) 0 A).all fun y => (y.share st.hp).good) = true ∧
                nodupN (Ll ++ Lm) = true ∧ ((Ll ++ Lm).all fun i => (lk i st.hp).isSome) = true ∧ (((restOf (ctr.lend ++ ctr.move) 0 A).flatMap SV.owns).all fun i => !(Ll ++ Lm).contains i && (lk i st.hp).isSome) = true ∧ Lm.length ≤ 100000 ∧
                (Lm.all fun i => decide (i < 1000000)) = true ∧ ((robs.map (·.1)).all fun i => decide (i < 900000) && !Ll.contains i) = true ∧ nodupN (robs.map (·.1)) = true ∧ (kept.map (·.1) = (pairs 1000000 Ll).map (·.2)) ∧
                (((restOf (ctr.lend ++ ctr.move) 0 A).flatMap SV.owns) = [] ∨ (res.isV2 = true ∧ ∀ p ∈ robs ++ kept, p.2.isV)) ∧
                K (st.resL (pairs 1000000 Ll) Lm o.dst res robs kept)
        | none => False
      | _ => False
    | _ => False
  | _ => False

section
variable {P : Program} {tys : List (Nat × TyD)} {N : Nat} {X0 : Nat → Prop} {M : Nat → BV → Prop} {w0 : World} {st : St} {β : Nat → BV} {a : Act} {w : World}

theorem R.ren1 {X : Nat → Prop} {β' : Nat → BV} {ρ : List (Nat × Nat)} (hβ : ∀ i j, lk i ρ = some j → β' j = β i) {x : SV} {v : Value} (h : R w X β x v) : R w X β' (x.ren1 ρ) v := by
  cases x with
  | own k =>
    have := h.own_inv; subst this
    show R w X β' (match lk k ρ with | some j => SV.own j | none => .junk) _
    cases hk : lk k ρ with
    | none => exact .junk _
    | some j => simp only; rw [← hβ k j hk]; exact .own j
  | ptr k s a b =>
    obtain ⟨bb, hb, rfl⟩ := h.ptr_inv
    show R w X β' (match lk k ρ with | some j => SV.ptr j s a b | none => .junk) _
    cases hk : lk k ρ with
    | none => exact .junk _
    | some j => exact .ptr j s a b bb (by rw [hβ k j hk]; exact hb)
  | v x => have := h.v_inv; subst this; exact .p (.v _)
  | sl s rows => exact .p h.sl_inv
  | rptr s rows i k => obtain ⟨b, off, cap, hr, rfl⟩ := h.rptr_inv; exact .rptr s rows i k b off cap hr
  | agg cs => exact .junk _
  | tup cs => exact .junk _
  | fn f cs => exact .junk _
  | cond g x => exact .junk _
  | junk => exact .junk _

theorem pairs_lk : ∀ {L : List Nat} {b i j : Nat}, lk i (pairs b L) = some j → i ∈ L ∧ b ≤ j ∧ j < b + L.length
  | k :: L, b, i, j, h => by
    simp only [pairs, lk] at h
    by_cases hi : i = k
    · rw [if_pos hi] at h; cases h; simp [hi]
    · rw [if_neg hi] at h
      obtain ⟨h1, h2, h3⟩ := pairs_lk h
      simp only [List.mem_cons, List.length_cons]
      exact ⟨.inr h1, by omega, by omega⟩
theorem pairs_mem : ∀ {L : List Nat} {b i : Nat}, i ∈ L → ∃ j, lk i (pairs b L) = some j
  | k :: L, b, i, h => by
    simp only [pairs, lk]
    by_cases hi : i = k
    · exact ⟨b, by rw [if_pos hi]⟩
    · rw [if_neg hi]
      exact pairs_mem (by simpa [hi] using h)
theorem pairs_keys : ∀ (L : List Nat) (b : Nat), (pairs b L).map (·.1) = L
  | [], _ => rfl
  | k :: L, b => by simp [pairs, pairs_keys L (b + 1)]
theorem pairs_vals : ∀ {L : List Nat} {b j : Nat}, j ∈ (pairs b L).map (·.2) → b ≤ j ∧ j < b + L.length
  | k :: L, b, j, h => by
    simp only [pairs, List.map_cons, List.mem_cons] at h
    rcases h with rfl | h
    · simp
    · have := pairs_vals h
      simp only [List.length_cons]; omega
theorem pairs_nodup : ∀ (L : List Nat) (b : Nat), ((pairs b L).map (·.2)).Nodup
  | [], _ => by simp [pairs]
  | k :: L, b => by
    simp only [pairs, List.map_cons, List.nodup_cons]
    exact ⟨fun h => by have := pairs_vals h; omega, pairs_nodup L (b + 1)⟩

theorem nodupN_iff : ∀ {L : List Nat}, nodupN L = true ↔ L.Nodup
  | [] => by simp [nodupN]
  | d :: l => by simp [nodupN, List.nodup_cons, nodupN_iff (L := l)]

theorem lk_mem_nodup {α : Type} {t : Nat} {x : α} : ∀ {l : List (Nat × α)}, (l.map (·.1)).Nodup → (t, x) ∈ l → lk t l = some x
  | (u, y) :: l, hn, h => by
    simp only [List.map_cons, List.nodup_cons] at hn
    simp only [lk]
    rcases List.mem_cons.1 h with e | h
    · cases e; rw [if_pos rfl]
    · have : t ≠ u := fun e => hn.1 (by rw [← e]; exact List.mem_map.2 ⟨(t, x), h, rfl⟩)
      rw [if_neg this]; exact lk_mem_nodup hn.2 h

/-- how the lent objects are called on either side -/
structure Ren (ρ : List (Nat × Nat)) (L : List Nat) : Prop where
  keys : ρ.map (·.1) = L
  nd : L.Nodup
  vals : (ρ.map (·.2)).Nodup
theorem Ren.of {Ll Lm : List Nat} (h : (Ll ++ Lm).Nodup) (hm : Lm.length ≤ 100000) : Ren (pairs 1000000 Ll ++ pairs 900000 Lm) (Ll ++ Lm) where
  keys := by rw [List.map_append, pairs_keys, pairs_keys]
  nd := h
  vals := by
    rw [List.map_append, List.nodup_append]
    exact ⟨pairs_nodup _ _, pairs_nodup _ _, fun x hx y hy e => by have := pairs_vals hx; have := pairs_vals hy; omega⟩
theorem Ren.swap {ρ : List (Nat × Nat)} {L : List Nat} (h : Ren ρ L) {i j : Nat} : lk i ρ = some j ↔ lk j (swapL ρ) = some i := by
  have e1 : (swapL ρ).map (·.1) = ρ.map (·.2) := by simp [swapL, List.map_map, Function.comp_def]
  constructor
  · intro hh
    refine lk_mem_nodup (by rw [e1]; exact h.vals) ?_
    exact List.mem_map.2 ⟨(i, j), lk_mem hh, rfl⟩
  · intro hh
    have hm := lk_mem hh
    obtain ⟨p, hp, e⟩ := List.mem_map.1 hm
    cases e
    exact lk_mem_nodup (by rw [h.keys]; exact h.nd) hp

theorem lk_obsR {hp : List (Nat × Ob)} {ρ0 : List (Nat × Nat)} : ∀ {ρ : List (Nat × Nat)} {k : Nat} {ob : Ob}, lk k (ρ.map fun p => (p.2, ((lk p.1 hp).getD (.sl 0 0 [])).up (SV.ren1 ρ0))) = some ob →
    ∃ i, lk k (swapL ρ) = some i ∧ ob = ((lk i hp).getD (.sl 0 0 [])).up (SV.ren1 ρ0)
  | (i, j) :: ρ, k, ob, h => by
    simp only [List.map_cons, lk] at h
    by_cases hk : k = j
    · rw [if_pos hk] at h; cases h; exact ⟨i, by simp [swapL, lk, hk], rfl⟩
    · rw [if_neg hk] at h
      obtain ⟨i', h1, h2⟩ := lk_obsR h
      exact ⟨i', by simp only [swapL, List.map_cons, lk, if_neg hk]; exact h1, h2⟩
theorem lk_obsR' {hp : List (Nat × Ob)} {ρ0 : List (Nat × Nat)} : ∀ {ρ : List (Nat × Nat)} {k i : Nat}, lk k (swapL ρ) = some i →
    lk k (ρ.map fun p => (p.2, ((lk p.1 hp).getD (.sl 0 0 [])).up (SV.ren1 ρ0))) = some (((lk i hp).getD (.sl 0 0 [])).up (SV.ren1 ρ0))
  | (i0, j0) :: ρ, k, i, h => by
    simp only [swapL, List.map_cons, lk] at h ⊢
    by_cases hk : k = j0
    · rw [if_pos hk] at h ⊢; cases h; rfl
    · rw [if_neg hk] at h ⊢; exact lk_obsR' h

theorem argsR_get {hp : List (Nat × Ob)} {ρ : List (Nat × Nat)} {is : List Nat} : ∀ {A : List SV} {k i : Nat} {q : SV}, (argsR hp ρ is k A)[i]? = some q →
    ∃ y, A[i]? = some y ∧ ((is.contains (k + i) = true ∧ q = y.up (SV.ren1 ρ)) ∨ (is.contains (k + i) = false ∧ q = y.share hp ∧ y ∈ restOf is k A))
  | y :: A, k, 0, q, h => by
    simp only [argsR, List.getElem?_cons_zero, Option.some.injEq] at h
    refine ⟨y, rfl, ?_⟩
    by_cases hc : is.contains k = true
    · rw [if_pos hc] at h; exact .inl ⟨by simpa using hc, h.symm⟩
    · rw [if_neg hc] at h; exact .inr ⟨by simpa using hc, h.symm, by simp only [restOf]; rw [if_neg hc]; exact List.mem_cons_self⟩
  | y :: A, k, i + 1, q, h => by
    simp only [argsR, List.getElem?_cons_succ] at h
    obtain ⟨y', h1, h2⟩ := argsR_get h
    refine ⟨y', by simpa using h1, ?_⟩
    have e : k + 1 + i = k + (i + 1) := by omega
    rw [e] at h2
    rcases h2 with h2 | ⟨h2, h3, h4⟩
    · exact .inl h2
    · refine .inr ⟨h2, h3, ?_⟩
      simp only [restOf]
      split
      · exact h4
      · exact List.mem_cons_of_mem _ h4
theorem argsR_len {hp : List (Nat × Ob)} {ρ : List (Nat × Nat)} {is : List Nat} : ∀ {A : List SV} {k : Nat}, (argsR hp ρ is k A).length = A.length
  | [], _ => rfl
  | y :: A, k => by simp [argsR, argsR_len (A := A)]

theorem lk_erL {α : Type} {t : Nat} : ∀ {ids : List Nat} {l : List (Nat × α)} {x : α}, lk t (erL ids l) = some x → t ∉ ids ∧ lk t l = some x
  | [], l, x, h => ⟨by simp, h⟩
  | i :: is, l, x, h => by
    simp only [erL] at h
    have hti : t ≠ i := fun e => by subst e; rw [lk_er_self] at h; cases h
    rw [lk_er_ne hti] at h
    obtain ⟨h1, h2⟩ := lk_erL h
    exact ⟨by simp [hti, h1], h2⟩
theorem lk_killL {id : Nat} {ob : Ob} : ∀ {ids : List Nat}, lk id (st.killL ids).hp = some ob → id ∉ ids ∧ ∃ o, lk id st.hp = some o
  | [], h => ⟨by simp, ob, h⟩
  | d :: l, h => by
    simp only [St.killL, St.kill, lk_map] at h
    by_cases hd : id = d
    · subst hd; rw [lk_er_self] at h; cases h
    · rw [lk_er_ne hd] at h
      cases hy : lk id (st.killL l).hp with
      | none => rw [hy] at h; cases h
      | some y =>
        obtain ⟨h1, h2⟩ := lk_killL hy
        exact ⟨by simp [hd, h1], h2⟩

theorem lk_unObs {τ : List (Nat × Nat)} : ∀ {l : List (Nat × Ob)} {t : Nat} {ob : Ob}, lk t (l.map fun p => ((lk p.1 τ).getD p.1, p.2.up (SV.ren1 τ))) = some ob →
    ∃ k o, (k, o) ∈ l ∧ t = (lk k τ).getD k ∧ ob = o.up (SV.ren1 τ)
  | (k, o) :: l, t, ob, h => by
    simp only [List.map_cons, lk] at h
    by_cases ht : t = (lk k τ).getD k
    · rw [if_pos ht] at h; cases h; exact ⟨k, o, List.mem_cons_self, ht, rfl⟩
    · rw [if_neg ht] at h
      obtain ⟨k', o', h1, h2, h3⟩ := lk_unObs h
      exact ⟨k', o', List.mem_cons_of_mem _ h1, h2, h3⟩

theorem killL_fr {β2 : Nat → BV} {t : Nat} : ∀ {ids : List Nat} {β : Nat → BV} {x : SV}, (∀ i, i ∉ ids → (β2 i).val = (β i).val) → lk t (st.killL ids).fr = some x → ∃ y, lk t st.fr = some y ∧ ∀ (w : World) (X : Nat → Prop) (v : Value), R w X β y v → R w X β2 x v
  | [], β, x, hβ, h => ⟨x, h, fun w X v hR => hR.val_eq fun i => hβ i (by simp)⟩
  | d :: l, β, x, hβ, h => by
    simp only [St.killL, St.kill, lk_map] at h
    cases hy : lk t (st.killL l).fr with
    | none => rw [hy] at h; cases h
    | some x' =>
      rw [hy] at h
      have hx : x'.kill d = x := by simpa using h
      obtain ⟨y, h1, h2⟩ := killL_fr (β2 := fun i => if i ∈ l then β2 i else β i) (β := β) (fun i hi => by simp [hi]) hy
      refine ⟨y, h1, fun w X v hR => ?_⟩
      rw [← hx]
      refine (h2 w X v hR).kill fun i hi => ?_
      by_cases hl : i ∈ l
      · simp [hl]
      · simp only [hl, if_false]; exact hβ i (by simp [hi, hl])
theorem killL_hp {β2 : Nat → BV} {t : Nat} : ∀ {ids : List Nat} {β : Nat → BV} {o : Ob}, (∀ i, i ∉ ids → (β2 i).val = (β i).val) → lk t (st.killL ids).hp = some o → t ∉ ids ∧ ∃ o0, lk t st.hp = some o0 ∧ ∀ (w : World) (X : Nat → Prop) (v : BV), ObR w X β v o0 → ObR w X β2 v o
  | [], β, o, hβ, h => ⟨by simp, o, h, fun w X v hR => hR.val_eq fun i => hβ i (by simp)⟩
  | d :: l, β, o, hβ, h => by
    simp only [St.killL, St.kill, lk_map] at h
    by_cases hd : t = d
    · subst hd; rw [lk_er_self] at h; cases h
    · rw [lk_er_ne hd] at h
      cases hy : lk t (st.killL l).hp with
      | none => rw [hy] at h; cases h
      | some o' =>
        rw [hy] at h
        have hx : o'.kill d = o := by simpa using h
        obtain ⟨h0, o0, h1, h2⟩ := killL_hp (β2 := fun i => if i ∈ l then β2 i else β i) (β := β) (fun i hi => by simp [hi]) hy
        refine ⟨by simp [hd, h0], o0, h1, fun w X v hR => ?_⟩
        rw [← hx]
        refine (h2 w X v hR).kill fun i hi => ?_
        by_cases hl : i ∈ l
        · simp [hl]
        · simp only [hl, if_false]; exact hβ i (by simp [hi, hl])

theorem eff_callL {C : List (FuncId × Ctr)} (hC : COk P C) (hA : Ap P X0 M w0) (h : Sim N X0 M w0 st β a w) {o : Oper} (hN : ∀ d, o.dst = some d → d < N) {K : St → Prop} {dd : Nat}
    (hw : st.callL dd C o K) {Q : Exit → Act → World → Prop} : o.wp P a w (Ok N X0 M w0 K) Q := by
  unfold St.callL at hw
  split at hw
  case h_2 => exact hw.elim
  case h_1 _ c ho =>
  split at hw
  case h_2 => exact hw.elim
  case h_1 _ x hcal =>
  split at hw
  case h_2 => exact hw.elim
  case h_1 _ f caps hf =>
  split at hw
  case h_2 => exact hw.elim
  case h_1 _ ctr hctr =>
  have hH := hC.holdsL f ctr hctr dd (argsR st.hp (pairs 1000000 (lentBy st (st.argL c caps) ctr.lend) ++ pairs 900000 (lentBy st (st.argL c caps) ctr.move)) (ctr.lend ++ ctr.move) 0 (st.argL c caps))
    (obsR st.hp (pairs 1000000 (lentBy st (st.argL c caps) ctr.lend) ++ pairs 900000 (lentBy st (st.argL c caps) ctr.move)))
  generalize ctr.wri = W at hw hH
  simp only at hw
  obtain ⟨us, hfv, hul, hcap⟩ := (hf ▸ St.ev_ok h x : R w _ β (.fn f caps) (a.eval x)).fn_inv
  have hrun := run_call (hC.call f ctr hctr) ho hcal hfv w
  have hneed0 : (∀ y ∈ c.args.toList, (st.ev y).need) := by
    have hw2 := hw
    generalize W dd _ _ = q at hw2
    obtain ⟨q1, q2, q3, q4⟩ := q
    exact hw2.2.1
  have hargs := argL_ok h hneed0 hul hcap
  have hAlen : (st.argL c caps).length = (c.args.toList.map a.eval ++ us).length := by simp [St.argL, hul]
  generalize st.argL c caps = A at hw hH hargs hAlen
  generalize lentBy st A ctr.lend = Ll at hw hH
  generalize lentBy st A ctr.move = Lm at hw hH
  generalize ctr.lend ++ ctr.move = is at hw hH
  generalize hρ : pairs 1000000 Ll ++ pairs 900000 Lm = ρ at hw hH
  generalize W dd (argsR st.hp ρ is 0 A) (obsR st.hp ρ) = q at hw hH
  obtain ⟨ob, res, robs, kept⟩ := q
  simp only at hw hH
  obtain ⟨hc, hneed, hgood, hnd, hlive, hdis, hmlen, hmlow, hrlow, hrnd, hkeys, hbor, hK⟩ := hw
  generalize hsh : (restOf is 0 A).flatMap SV.owns = sh at hdis hbor
  have hRen : Ren ρ (Ll ++ Lm) := hρ ▸ Ren.of (nodupN_iff.1 hnd) hmlen
  have hLhp : ∀ i, i ∈ Ll ++ Lm → ∃ o, lk i st.hp = some o := fun i hi => Option.isSome_iff_exists.1 (List.all_eq_true.1 hlive i hi)
  have hρL : ∀ {i j}, lk i ρ = some j → i ∈ Ll ++ Lm := fun {i j} hh => by rw [← hRen.keys]; exact List.mem_map.2 ⟨(i, j), lk_mem hh, rfl⟩
  -- the callee's numbers
  let βh : Nat → BV := fun k => match lk k (swapL ρ) with
    | some i => β i
    | none => nilB
  have hβh1 : ∀ {k i}, lk k (swapL ρ) = some i → βh k = β i := fun {k i} hh => by show (match lk k (swapL ρ) with | some i => β i | none => _) = _; rw [hh]
  have hβh : ∀ i j, lk i ρ = some j → βh j = β i := fun i j hh => hβh1 (hRen.swap.1 hh)
  have hβone : ∀ i, (βh i).val.oneCell' = true := fun i => by
    show (match lk i (swapL ρ) with | some i => β i | none => nilB).val.oneCell' = true
    cases lk i (swapL ρ) with
    | none => rfl
    | some j => exact h.beta j
  have hobs0 : ∀ {k ob}, lk k (obsR st.hp ρ) = some ob → ∃ i o, lk k (swapL ρ) = some i ∧ lk i ρ = some k ∧ i ∈ Ll ++ Lm ∧ lk i st.hp = some o ∧ ob = o.up (SV.ren1 ρ) ∧ βh k = β i := fun {k ob} hh => by
    obtain ⟨i, h1, h2⟩ := lk_obsR hh
    have h3 := hRen.swap.2 h1
    obtain ⟨o, h4⟩ := hLhp i (hρL h3)
    exact ⟨i, o, h1, h3, hρL h3, h4, by rw [h2, h4]; rfl, hβh1 h1⟩
  have hobs1 : ∀ {i}, i ∈ Ll ++ Lm → ∃ k ob, lk i ρ = some k ∧ lk k (swapL ρ) = some i ∧ lk k (obsR st.hp ρ) = some ob ∧ βh k = β i := fun {i} hi => by
    obtain ⟨k, hk⟩ : ∃ k, lk i ρ = some k := lk_some_of_mem (by rw [hRen.keys]; exact hi)
    exact ⟨k, _, hk, hRen.swap.1 hk, lk_obsR' (hRen.swap.1 hk), hβh i k hk⟩
  let Xh : Nat → Prop := fun b => XX X0 β st.hp b ∧ (∀ id ∈ sh, ¬ (β id).ft b) ∧ ∀ id ∈ Ll ++ Lm, ¬ (β id).ft b
  have hXsub : ∀ b, XX Xh βh (obsR st.hp ρ) b → XX X0 β st.hp b ∧ ∀ id ∈ sh, ¬ (β id).ft b := fun b hb => by
    rcases hb with hb | ⟨k, ob, hk, hb⟩
    · exact ⟨hb.1, hb.2.1⟩
    · obtain ⟨i, o, _, _, hiL, hi, _, e⟩ := hobs0 hk
      rw [e] at hb
      refine ⟨.inr ⟨i, o, hi, hb⟩, fun id hid he => ?_⟩
      have := List.all_eq_true.1 hdis id hid
      simp only [Bool.and_eq_true, Bool.not_eq_true', Option.isSome_iff_exists] at this
      obtain ⟨h1, o2, h2⟩ := this
      have := h.inj id i o2 o b h2 hi he hb
      subst this
      simp at h1
      simp at hiL
      rcases hiL with e | e
      · exact h1.1 e
      · exact h1.2 e
  have hS : Same (XX X0 β st.hp) w w := ⟨Nat.le_refl _, fun _ _ _ => rfl⟩
  have hSb : Same (Bor (XX X0 β st.hp) β sh) w w := ⟨Nat.le_refl _, fun _ _ _ => rfl⟩
  have hargs2 : ∀ (i : Nat) (q : SV) (u : Value), (argsR st.hp ρ is 0 A)[i]? = some q → (c.args.toList.map a.eval ++ us)[i]? = some u → R w (XX Xh βh (obsR st.hp ρ)) βh q u := fun i q u hq hu => by
    obtain ⟨y, hy, hcase⟩ := argsR_get hq
    rcases hcase with ⟨_, rfl⟩ | ⟨_, rfl, hmem⟩
    · exact ((hargs i y u hy hu).mono hS (fun b _ hb => (hXsub b hb).1)).up fun x v hh => hh.ren1 hβh
    · have h1 := R.share h (hargs i y u hy hu) (ids := sh) (fun id hid => by rw [← hsh]; exact List.mem_flatMap.2 ⟨y, hmem, hid⟩) (List.all_eq_true.1 hgood y hmem) βh
      exact h1.mono hSb (fun b _ hb => ⟨(hXsub b hb).1, (hXsub b hb).2⟩)
  have hObs : Obs w Xh βh (obsR st.hp ρ) := by
    refine ⟨fun k ob hk => ?_, fun k1 k2 o1 o2 b hk1 hk2 hb1 hb2 => ?_⟩
    · obtain ⟨i, o, _, _, _, hi, rfl, e⟩ := hobs0 hk
      rw [e]
      exact ((h.objs i o hi).mono hS (fun b _ hb => (hXsub b hb).1) (fun _ _ => rfl)).up (fun x v hh => hh.ren1 hβh) (fun _ _ hh => hh)
    · obtain ⟨i1, p1, s1, r1, _, q1, _, e1⟩ := hobs0 hk1
      obtain ⟨i2, p2, s2, r2, _, q2, _, e2⟩ := hobs0 hk2
      rw [e1] at hb1
      rw [e2] at hb2
      have := h.inj i1 i2 p1 p2 b q1 q2 hb1 hb2
      subst this
      rw [r1] at r2
      cases r2; rfl
  have hcalls := hH hc w Xh βh (c.args.toList.map a.eval ++ us) (hA.now h) hβone (fun b hb => h.live hb.1) (by rw [argsR_len]; exact hAlen.symm) hargs2 hObs (fun k ob b hk hb => by
    obtain ⟨i, o, _, _, hiL, hi, _, e⟩ := hobs0 hk
    rw [e] at hb
    exact ⟨fun hx => hx.2.2 i hiL hb, hA.own h hi hb⟩)
  unfold Oper.wp
  rw [hrun, Oper.upon_enter]
  refine hcalls.mono fun en w' hp => ?_
  obtain ⟨v, β', rfl, hos, htape, hout, hsz, hkeptW, hβ', hpin, hRv, ⟨hobs', hinj'⟩, hnew⟩ := hp
  have hLblk : ∀ {b}, (∃ k ob, lk k (obsR st.hp ρ) = some ob ∧ (βh k).ft b) → ∃ i ∈ Ll ++ Lm, (β i).ft b := fun {b} hh => by
    obtain ⟨k, ob, hk, hb⟩ := hh
    obtain ⟨i, o, _, _, hiL, _, _, e⟩ := hobs0 hk
    exact ⟨i, hiL, by rw [← e]; exact hb⟩
  -- back to the caller's numbers
  generalize hτ : backL (pairs 1000000 Ll) robs = τ at hK
  let β2 : Nat → BV := fun i => if i ∈ robs.map (·.1) then β' i else match lk i (pairs 1000000 Ll) with | some k => β' k | none => β i
  have hβ2in : ∀ {i}, i ∈ robs.map (·.1) → β2 i = β' i := fun {i} hi => by show (if i ∈ robs.map (·.1) then β' i else match lk i (pairs 1000000 Ll) with | some k => β' k | none => β i) = _; rw [if_pos hi]
  have hβ2l : ∀ {i k}, i ∉ robs.map (·.1) → lk i (pairs 1000000 Ll) = some k → β2 i = β' k := fun {i k} hi hk => by
    show (if i ∈ robs.map (·.1) then β' i else match lk i (pairs 1000000 Ll) with | some k => β' k | none => β i) = _
    rw [if_neg hi, hk]
  have hβ2out : ∀ {i}, i ∉ robs.map (·.1) → i ∉ Ll → β2 i = β i := fun {i} hi hL => by
    show (if i ∈ robs.map (·.1) then β' i else match lk i (pairs 1000000 Ll) with | some k => β' k | none => β i) = _
    rw [if_neg hi, lk_none (by rw [pairs_keys]; exact hL)]
  have hβ2val : ∀ {i}, i ∉ robs.map (·.1) → (β2 i).val = (β i).val := fun {i} hi => by
    by_cases hL : i ∈ Ll
    · obtain ⟨k, hk⟩ := pairs_mem (b := 1000000) hL
      have h3 : lk i ρ = some k := by rw [← hρ, lk_append, hk]; rfl
      obtain ⟨k2, ob2, g1, g2, g3, g4⟩ := hobs1 (hρL h3)
      rw [h3] at g1; cases g1
      rw [hβ2l hi hk, hpin k ob2 (pairs_lk hk).2.1 g3, g4]
    · rw [hβ2out hi hL]
  have hrob : ∀ {i}, i ∈ robs.map (·.1) → i < 900000 ∧ i ∉ Ll := fun {i} hi => by
    have := List.all_eq_true.1 hrlow i hi
    simpa using this
  have hkeptid : ∀ {k}, k ∈ kept.map (·.1) → ∃ i, i ∈ Ll ∧ lk i (pairs 1000000 Ll) = some k ∧ lk i ρ = some k ∧ 1000000 ≤ k := fun {k} hk => by
    rw [hkeys] at hk
    obtain ⟨⟨i, k'⟩, hp, rfl⟩ := List.mem_map.1 hk
    have hnd1 : ((pairs 1000000 Ll).map (·.1)).Nodup := by rw [pairs_keys]; exact (List.nodup_append.1 (nodupN_iff.1 hnd)).1
    have h1 := lk_mem_nodup hnd1 hp
    have h2 := pairs_lk h1
    exact ⟨i, h2.1, h1, by rw [← hρ, lk_append, h1]; rfl, h2.2.1⟩
  have hkn : (((robs ++ kept).map (·.1))).Nodup := by
    rw [List.map_append, List.nodup_append]
    refine ⟨nodupN_iff.1 hrnd, by rw [hkeys]; exact pairs_nodup _ _, fun x hx y hy e => ?_⟩
    obtain ⟨i, _, _, _, h4⟩ := hkeptid hy
    have := (hrob hx).1
    omega
  have hSwl : ∀ {k i}, lk i (pairs 1000000 Ll) = some k → lk k (swapL (pairs 1000000 Ll)) = some i := fun {k i} hh => by
    refine lk_mem_nodup ?_ (List.mem_map.2 ⟨(i, k), lk_mem hh, rfl⟩)
    have : (swapL (pairs 1000000 Ll)).map (·.1) = (pairs 1000000 Ll).map (·.2) := by simp [swapL, List.map_map, Function.comp_def]
    rw [this]; exact pairs_nodup _ _
  have hτin : ∀ {k}, k ∈ robs.map (·.1) → lk k τ = some k := fun {k} hk => by
    rw [← hτ, backL, lk_append]
    have : lk k (robs.map fun q => (q.1, q.1)) = some k := lk_mem_nodup (by simpa [List.map_map, Function.comp_def] using nodupN_iff.1 hrnd) (by
      obtain ⟨p, hp, rfl⟩ := List.mem_map.1 hk
      exact List.mem_map.2 ⟨p, hp, rfl⟩)
    rw [this]; rfl
  have hτout : ∀ {k}, k ∉ robs.map (·.1) → lk k τ = lk k (swapL (pairs 1000000 Ll)) := fun {k} hk => by
    rw [← hτ, backL, lk_append, lk_none (by simpa [List.map_map, Function.comp_def] using hk)]; rfl
  have hback : ∀ k i, lk k τ = some i → β2 i = β' k := fun k i hk => by
    by_cases hr : k ∈ robs.map (·.1)
    · rw [hτin hr] at hk; cases hk; exact hβ2in hr
    · rw [hτout hr] at hk
      have hm := lk_mem hk
      obtain ⟨⟨i', k'⟩, hp, e⟩ := List.mem_map.1 hm
      cases e
      have hnd1 : ((pairs 1000000 Ll).map (·.1)).Nodup := by rw [pairs_keys]; exact (List.nodup_append.1 (nodupN_iff.1 hnd)).1
      have h1 := lk_mem_nodup hnd1 hp
      have h2 := pairs_lk h1
      exact hβ2l (fun hin => (hrob hin).2 h2.1) h1
  -- what lies in the new heap
  have hone2 : ∀ i, (β2 i).val.oneCell' = true := fun i => by
    by_cases hi : i ∈ robs.map (·.1)
    · rw [hβ2in hi]; exact hβ' i
    · rw [hβ2val hi]; exact h.beta i
  have hβkill : ∀ i, i ∉ Lm ++ robs.map (·.1) → (β2 i).val = (β i).val := fun i hi => hβ2val fun hin => hi (List.mem_append.2 (.inr hin))
  have hnewhp : ∀ {t ob}, lk t (unObs τ (robs ++ kept) ++ erL ((unObs τ (robs ++ kept)).map (·.1)) (st.killL (Lm ++ robs.map (·.1))).hp) = some ob →
      (∃ k o, lk k (robs ++ kept) = some o ∧ ob = o.up (SV.ren1 τ) ∧ β2 t = β' k ∧ ((k ∈ robs.map (·.1) ∧ t = k ∧ lk k robs = some o) ∨ (k ∈ kept.map (·.1) ∧ t ∈ Ll ∧ lk t ρ = some k ∧ 1000000 ≤ k))) ∨
      (t ∉ Ll ++ Lm ∧ t ∉ robs.map (·.1) ∧ β2 t = β t ∧ ∃ o0, lk t st.hp = some o0 ∧ ∀ (w : World) (X : Nat → Prop) (v : BV), ObR w X β v o0 → ObR w X β2 v ob) := fun {t ob} hh => by
    rw [lk_append] at hh
    cases hq : lk t (unObs τ (robs ++ kept)) with
    | some y =>
      rw [hq] at hh
      cases hh
      left
      obtain ⟨k, o, hm, ht, hob⟩ := lk_unObs hq
      have hlk := lk_mem_nodup hkn hm
      rcases List.mem_append.1 hm with hm1 | hm1
      · have hk : k ∈ robs.map (·.1) := List.mem_map.2 ⟨(k, o), hm1, rfl⟩
        rw [hτin hk] at ht
        have ht : t = k := ht
        exact ⟨k, o, hlk, hob, by rw [ht]; exact hβ2in hk, .inl ⟨hk, ht, lk_mem_nodup (nodupN_iff.1 hrnd) hm1⟩⟩
      · have hk : k ∈ kept.map (·.1) := List.mem_map.2 ⟨(k, o), hm1, rfl⟩
        obtain ⟨i, hiL, h1, h2, h3⟩ := hkeptid hk
        have hkr : k ∉ robs.map (·.1) := fun hin => by have := (hrob hin).1; omega
        rw [hτout hkr, hSwl h1] at ht
        have ht : t = i := ht
        have hti : t ∉ robs.map (·.1) := fun hin => (hrob hin).2 (ht ▸ hiL)
        exact ⟨k, o, hlk, hob, hback k t (by rw [hτout hkr, hSwl h1, ht]), .inr ⟨hk, ht ▸ hiL, ht ▸ h2, h3⟩⟩
    | none =>
      rw [hq] at hh
      right
      obtain ⟨h1, h2⟩ := lk_erL hh
      obtain ⟨h3, o0, h4, h5⟩ := killL_hp hβkill h2
      have h6 : t ∉ robs.map (·.1) := fun hin => h3 (List.mem_append.2 (.inr hin))
      have h7 : t ∉ Ll := fun hin => h1 (by
        obtain ⟨k, hk⟩ := pairs_mem (b := 1000000) hin
        have hkk : k ∈ kept.map (·.1) := by rw [hkeys]; exact List.mem_map.2 ⟨(t, k), lk_mem hk, rfl⟩
        have hkr : k ∉ robs.map (·.1) := fun hin => by have := (hrob hin).1; have := (pairs_lk hk).2.1; omega
        obtain ⟨p, hp, hpk⟩ := List.mem_map.1 hkk
        rw [unObs, List.map_map]
        refine List.mem_map.2 ⟨p, List.mem_append.2 (.inr hp), ?_⟩
        show (lk p.1 τ).getD p.1 = t
        rw [hpk, hτout hkr, hSwl hk]; rfl)
      exact ⟨fun hin => by
        rcases List.mem_append.1 hin with e | e
        · exact h7 e
        · exact h3 (List.mem_append.2 (.inl e)), h6, hβ2out h6 h7, o0, h4, h5⟩
  have hnb : ∀ {k o b}, lk k (robs ++ kept) = some o → (β' k).ft b → w.heap.size ≤ b ∨ ∃ i ∈ Ll ++ Lm, (β i).ft b := fun {k o b} hk hb => by
    rcases hnew k o b hk hb with h1 | ⟨k2, o2, h1, h3⟩
    · exact .inl h1
    · right
      obtain ⟨i, _, _, g2, g3, _, _, g6⟩ := hobs0 h1
      exact ⟨i, g3, by rw [← g6]; exact h3⟩
  have hXold : ∀ b, b < w.heap.size → XX X0 β2 (unObs τ (robs ++ kept) ++ erL ((unObs τ (robs ++ kept)).map (·.1)) (st.killL (Lm ++ robs.map (·.1))).hp) b → XX X0 β st.hp b := fun b hlt hb => by
    rcases hb with hb | ⟨t, ob, ht, hb⟩
    · exact .inl hb
    · rcases hnewhp ht with ⟨k, o, h3, _, e, hcase⟩ | ⟨_, _, e, o0, h4, _⟩
      · rw [e] at hb
        rcases hnb h3 hb with h5 | ⟨i, hi, h5⟩
        · omega
        · obtain ⟨o', ho'⟩ := hLhp i hi
          exact .inr ⟨i, o', ho', h5⟩
      · rw [e] at hb
        exact .inr ⟨t, o0, h4, hb⟩
  have hLX0 : ∀ i ∈ Ll ++ Lm, ∀ b, (β i).ft b → ¬ X0 b := fun i hi b hb hx => by
    obtain ⟨o', ho'⟩ := hLhp i hi
    obtain ⟨g1, g2⟩ := hA.old b hx
    rcases h.mine i o' b ho' hb with g3 | g3
    · exact g2 g3
    · omega
  have hXnew : sh = [] → ∀ b, XX X0 β2 (unObs τ (robs ++ kept) ++ erL ((unObs τ (robs ++ kept)).map (·.1)) (st.killL (Lm ++ robs.map (·.1))).hp) b → XX Xh β' (robs ++ kept) b := fun hse b hb => by
    rcases hb with hb | ⟨t, ob, ht, hb⟩
    · exact .inl ⟨.inl hb, by simp [hse], fun i hi he => hLX0 i hi b he hb⟩
    · rcases hnewhp ht with ⟨k, o, h1, _, e, _⟩ | ⟨h1, _, e, o0, h4, _⟩
      · exact .inr ⟨k, o, h1, by rw [← e]; exact hb⟩
      · rw [e] at hb
        refine .inl ⟨.inr ⟨t, o0, h4, hb⟩, by simp [hse], fun i hi he => ?_⟩
        obtain ⟨o', ho'⟩ := hLhp i hi
        have := h.inj t i o0 o' b h4 ho' hb he
        exact h1 (this ▸ hi)
  have hS' : Same (XX X0 β st.hp) w w' := ⟨hsz, fun b hlt hn => hkeptW b hlt fun hh => by
    obtain ⟨i, hi, hb⟩ := hLblk hh
    obtain ⟨o', ho'⟩ := hLhp i hi
    exact hn (.inr ⟨i, o', ho', hb⟩)⟩
  have hSw : ∀ X : Nat → Prop, Same X w' w' := fun X => ⟨Nat.le_refl _, fun _ _ _ => rfl⟩
  have hsim : Sim N X0 M w0 { fr := (st.killL (Lm ++ robs.map (·.1))).fr, hp := unObs τ (robs ++ kept) ++ erL ((unObs τ (robs ++ kept)).map (·.1)) (st.killL (Lm ++ robs.map (·.1))).hp } β2 a w' := {
    size := h.size
    defers := h.defers
    beta := hone2
    slots := fun t x hx => by
      obtain ⟨y, h1, h2⟩ := killL_fr hβkill hx
      exact h2 _ _ _ ((h.slots t y h1).mono hS' hXold)
    objs := fun t ob ht => by
      rcases hnewhp ht with ⟨k, o, h1, rfl, e, _⟩ | ⟨h1, h2, e, o0, h4, h5⟩
      · rw [e]
        have hO := hobs' k o h1
        rcases hbor with hse | ⟨_, hv⟩
        · exact (hO.mono (hSw _) (fun b _ hb => hXnew hse b hb) (fun _ _ => rfl)).up (fun x v hh => hh.ren1 hback) (fun _ _ hh => hh)
        · exact (hO.isV (hv (k, o) (lk_mem h1))).up (fun x v hh => hh.ren1 hback) (fun _ _ hh => hh)
      · rw [e]
        refine h5 _ _ _ ((h.objs t o0 h4).mono hS' hXold fun b hb => hkeptW b ((h.objs t o0 h4).lt hb) fun hh => ?_)
        obtain ⟨i, hi, hbi⟩ := hLblk hh
        obtain ⟨o', ho'⟩ := hLhp i hi
        have := h.inj t i o0 o' b h4 ho' hb hbi
        exact h1 (this ▸ hi)
    inj := fun t1 t2 o1 o2 b h1 h2 hb1 hb2 => by
      have cross : ∀ {t1 t2 o1 o2}, (∃ k o, lk k (robs ++ kept) = some o ∧ o1 = Ob.up (SV.ren1 τ) o ∧ β2 t1 = β' k ∧ ((k ∈ robs.map (·.1) ∧ t1 = k ∧ lk k robs = some o) ∨ (k ∈ kept.map (·.1) ∧ t1 ∈ Ll ∧ lk t1 ρ = some k ∧ 1000000 ≤ k))) →
          (t2 ∉ Ll ++ Lm ∧ t2 ∉ robs.map (·.1) ∧ β2 t2 = β t2 ∧ ∃ o0, lk t2 st.hp = some o0 ∧ ∀ (w : World) (X : Nat → Prop) (v : BV), ObR w X β v o0 → ObR w X β2 v o2) → (β2 t1).ft b → (β2 t2).ft b → False := by
        rintro t1 t2 o1 o2 ⟨k, o, h3, _, e, hcase⟩ ⟨g1, _, e2, o0, g4, _⟩ hb1 hb2
        rw [e2] at hb2
        rw [e] at hb1
        rcases hnb h3 hb1 with h5 | ⟨i, hi, h5⟩
        · have := (h.objs t2 o0 g4).lt hb2; omega
        · obtain ⟨o', ho'⟩ := hLhp i hi
          have := h.inj i t2 o' o0 b ho' g4 h5 hb2
          exact g1 (this ▸ hi)
      rcases hnewhp h1 with f1 | f1 <;> rcases hnewhp h2 with f2 | f2
      · obtain ⟨k1, p1, q1, _, e1, c1⟩ := f1
        obtain ⟨k2, p2, q2, _, e2, c2⟩ := f2
        have hk := hinj' k1 k2 p1 p2 b q1 q2 (by rw [← e1]; exact hb1) (by rw [← e2]; exact hb2)
        subst hk
        rcases c1 with ⟨a1, rfl, _⟩ | ⟨a1, _, a3, a4⟩ <;> rcases c2 with ⟨b1, rfl, _⟩ | ⟨b1, _, b3, b4⟩
        · rfl
        · have := (hrob a1).1; omega
        · have := (hrob b1).1; omega
        · have s1 := hRen.swap.1 a3
          have s2 := hRen.swap.1 b3
          rw [s1] at s2
          cases s2; rfl
      · exact (cross f1 f2 hb1 hb2).elim
      · exact (cross f2 f1 hb2 hb1).elim
      · obtain ⟨_, _, e1, o3, g3, _⟩ := f1
        obtain ⟨_, _, e2, o4, g4, _⟩ := f2
        exact h.inj t1 t2 o3 o4 b g3 g4 (by rw [← e1]; exact hb1) (by rw [← e2]; exact hb2)
    x0 := fun b hb => Nat.lt_of_lt_of_le (h.x0 b hb) hsz
    mine := fun t ob b ht hb => by
      rcases hnewhp ht with ⟨k, o, h3, _, e, hcase⟩ | ⟨_, _, e, o0, h4, _⟩
      · rw [e] at hb
        rcases hnb h3 hb with h5 | ⟨i, hi, h5⟩
        · exact .inr (Nat.le_trans h.grew h5)
        · obtain ⟨o', ho'⟩ := hLhp i hi
          exact h.mine i o' b ho' h5
      · rw [e] at hb; exact h.mine t o0 b h4 hb
    pin := fun id u hm h1 => by rw [hβ2val (fun hin => by have := (hrob hin).1; omega)]; exact h.pin id u hm h1
    few := h.few
    os := hos.trans h.os
    tape := htape.trans h.tape
    output := hout.trans h.output
    grew := Nat.le_trans h.grew hsz
    kept := fun b hb0 hM => by
      rw [hkeptW b (Nat.lt_of_lt_of_le hb0 h.grew) fun hh => ?_]
      · exact h.kept b hb0 hM
      · obtain ⟨i, hi, hb⟩ := hLblk hh
        obtain ⟨o', ho'⟩ := hLhp i hi
        rcases h.mine i o' b ho' hb with hm | hm
        · exact hM hm
        · omega }
  have hRf : R w' (XX X0 β2 (unObs τ (robs ++ kept) ++ erL ((unObs τ (robs ++ kept)).map (·.1)) (st.killL (Lm ++ robs.map (·.1))).hp)) β2 (res.up (SV.ren1 τ)) v := by
    rcases hbor with hse | ⟨hv, _⟩
    · exact (hRv.mono (hSw _) (fun b _ hb => hXnew hse b hb)).up fun x v hh => hh.ren1 hback
    · exact (hRv.isV2 hv).up fun x v hh => hh.ren1 hback
  have hK' : K (St.put { fr := (st.killL (Lm ++ robs.map (·.1))).fr, hp := unObs τ (robs ++ kept) ++ erL ((unObs τ (robs ++ kept)).map (·.1)) (st.killL (Lm ++ robs.map (·.1))).hp } o.dst (res.up (SV.ren1 τ))) := by
    have := hK
    unfold St.resL at this
    rw [hτ] at this
    exact this
  cases hd : o.dst with
  | none => rw [hd] at hK'; exact ⟨_, β2, hK', hsim⟩
  | some d => rw [hd] at hK'; exact ⟨_, β2, hK', hsim.put (hN d hd) hRf⟩
end
end Go.Vc
