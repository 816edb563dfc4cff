/-
  DERIVED. Calls by contract.
-/
import Derived.Test.YtdbjioanlkilkaaVcG
namespace Go.Vc
set_option linter.unusedVariables false
set_option linter.unusedSimpArgs false

/-- what a call hands back, of read-only arguments: the result, and the objects that it makes -/
structure Ctr where
  /-- the arguments that are lent (written, and the caller's again), and those that are given away; if there are any, 'wri' counts -/
  lend : List Nat := []
  move : List Nat := []
  pure : Nat → List SV → Prop × SV × List (Nat × Ob) := fun _ _ => (False, .junk, [])
  wri : Nat → List SV → List (Nat × Ob) → Prop × SV × List (Nat × Ob) × List (Nat × Ob) := fun _ _ _ => (False, .junk, [], [])
def Ctr.isL (c : Ctr) : Bool := !(c.lend.isEmpty && c.move.isEmpty)

def Obs (w : World) (X : Nat → Prop) (β : Nat → BV) (robs : List (Nat × Ob)) : Prop :=
  (∀ id ob, lk id robs = some ob → ObR w (XX X β robs) β (β id) ob) ∧
  (∀ i j oi oj b, lk i robs = some oi → lk j robs = some oj → (β i).ft b → (β j).ft b → i = j)

/-- **A contract.** -/
def Holds (P : Program) (f : FuncId) (args : List SV) (res : SV) (robs : List (Nat × Ob)) : Prop :=
  ∀ (w : World) (X : Nat → Prop) (vs : List Value), Grd P w → (∀ b, X b → b < w.heap.size) → vs.length = args.length → (∀ (i : Nat) (c : SV) (u : Value), args[i]? = some c → vs[i]? = some u → R w X (fun _ => nilB) c u) →
    Calls P f vs.toArray w fun e w' => ∃ v β, e = .returned v ∧ Go.RowKit.Below w.heap.size w w' ∧ (∀ i, (β i).val.oneCell' = true) ∧ R w' (XX X β robs) β res v ∧ Obs w' X β robs ∧
      ∀ id ob b, lk id robs = some ob → (β id).ft b → w.heap.size ≤ b

/-- **A contract of a function that writes into what it is lent** (numbers from 1000000 on: the caller's again behind the call, as 'kept' says; lower ones: given away). -/
def HoldsL (P : Program) (f : FuncId) (args : List SV) (obs : List (Nat × Ob)) (res : SV) (robs kept : List (Nat × Ob)) : Prop :=
  ∀ (w : World) (X : Nat → Prop) (β : Nat → BV) (vs : List Value), Grd P w → (∀ i, (β i).val.oneCell' = true) → (∀ b, X b → b < w.heap.size) → vs.length = args.length →
    (∀ (i : Nat) (c : SV) (u : Value), args[i]? = some c → vs[i]? = some u → R w (XX X β obs) β c u) → Obs w X β obs → (∀ id ob b, lk id obs = some ob → (β id).ft b → ¬ X b ∧ P.globals.size ≤ b) →
    Calls P f vs.toArray w fun e w' => ∃ v β', e = .returned v ∧ w'.os = w.os ∧ w'.tape = w.tape ∧ w'.output = w.output ∧ w.heap.size ≤ w'.heap.size ∧
      (∀ b, b < w.heap.size → (¬ ∃ id ob, lk id obs = some ob ∧ (β id).ft b) → w'.heap[b]? = w.heap[b]?) ∧ (∀ i, (β' i).val.oneCell' = true) ∧ (∀ i ob, 1000000 ≤ i → lk i obs = some ob → (β' i).val = (β i).val) ∧
      R w' (XX X β' (robs ++ kept)) β' res v ∧ Obs w' X β' (robs ++ kept) ∧
      ∀ id ob b, lk id (robs ++ kept) = some ob → (β' id).ft b → w.heap.size ≤ b ∨ ∃ k o, lk k obs = some o ∧ (β k).ft b

structure Callable (P : Program) (f : FuncId) : Prop where
  ex : ∃ fn, P.funcs[f]? = some fn ∧ (fn.name == "runtime.NumGoroutine") = false ∧ fn.body.isSome = true

structure COk (P : Program) (C : List (FuncId × Ctr)) : Prop where
  call : ∀ f c, lk f C = some c → Callable P f
  holds : ∀ f c, lk f C = some c → ∀ d args, (c.pure d args).1 → Holds P f args (c.pure d args).2.1 (c.pure d args).2.2
  holdsL : ∀ f c, lk f C = some c → ∀ d args obs, (c.wri d args obs).1 → HoldsL P f args obs (c.wri d args obs).2.1 (c.wri d args obs).2.2.1 (c.wri d args obs).2.2.2

/-- an argument as what may be read -/
def SV.share1 (hp : List (Nat × Ob)) : SV → SV
  | .own id => match lk id hp with
    | some (.sl _ s rows) => .sl s rows
    | some (.dp _ s rows) => .sl s rows
    | _ => .junk
  | .v x => .v x
  | .sl s rows => .sl s rows
  | .rptr s rows i k => .rptr s rows i k
  | .ptr id s i k => match lk id hp with
    | some (.sl _ s' rows) => if s = s' then .rptr s rows i k else .junk
    | some (.box _ cs) => if i = 0 ∧ cs.all SV.pur = true then .rptr cs.length [cs] 0 k else .junk
    | _ => .junk
  | _ => .junk
def SV.share (hp : List (Nat × Ob)) : SV → SV
  | .agg cs => .agg (cs.map (SV.share1 hp))
  | .fn f cs => .fn f (cs.map (SV.share1 hp))
  | x => x.share1 hp
def SV.owns1 : SV → List Nat
  | .own id => [id]
  | .ptr id _ _ _ => [id]
  | _ => []
def SV.owns : SV → List Nat
  | .agg cs => cs.flatMap SV.owns1
  | .fn _ cs => cs.flatMap SV.owns1
  | x => x.owns1

/-- nothing shared in it -/
def SV.isV : SV → Bool
  | .v _ => true
  | .own _ => true
  | _ => false
def SV.isV2 : SV → Bool
  | .agg cs => cs.all SV.isV
  | .tup cs => cs.all fun
    | .agg ds => ds.all SV.isV
    | x => x.isV
  | x => x.isV
def Ob.isV : Ob → Prop
  | .sl _ _ rows => ∀ row ∈ rows, ∀ c ∈ row, ∃ x, c = .v x
  | .box _ cs => cs.all SV.isV = true
  | .mp _ _ => True
  | .dp _ _ _ => True
  | .dq _ _ _ _ _ => False

/-- an argument that a contract may get -/
def SV.good1 : SV → Bool
  | .v _ => true
  | .sl _ _ => true
  | .rptr _ _ _ _ => true
  | _ => false
def SV.good : SV → Bool
  | .agg cs => cs.all SV.good1
  | .fn _ cs => cs.all SV.good1
  | x => x.good1
/-- a result that a contract may give -/
def SV.rok1 : SV → Bool
  | .v _ => true
  | .sl _ _ => true
  | .own _ => true
  | .ptr _ _ _ _ => true
  | _ => false
def SV.rok2 : SV → Bool
  | .agg cs => cs.all SV.rok1
  | x => x.rok1
def SV.rok : SV → Bool
  | .tup cs => cs.all SV.rok2
  | x => x.rok2
def SV.owns2 : SV → List Nat
  | .tup cs => cs.flatMap SV.owns
  | x => x.owns

def St.killL (st : St) : List Nat → St
  | [] => st
  | d :: l => (st.killL l).kill d
def nodupN : List Nat → Bool
  | [] => true
  | d :: l => !l.contains d && nodupN l

def St.res (st : St) (d : Option Nat) (res : SV) (robs : List (Nat × Ob)) : St :=
  let s := st.killL (robs.map (·.1))
  St.put { fr := s.fr, hp := robs ++ s.hp } d res

def St.argL (st : St) (c : Call) (caps : List SV) : List SV := (c.args.toList.map fun y => (st.ev y).strip) ++ caps

def St.callD (dd : Nat) (C : List (FuncId × Ctr)) (o : Oper) (st : St) (K : St → Prop) : Prop :=
  match o.op with
  | .call c => match c.callee with
    | .value x => match st.ev x with
      | .fn f caps => match lk f C with
        | some ctr => match ctr.pure dd ((st.argL c caps).map (SV.share st.hp)) with
          | (ob, res, robs) => ob ∧ (∀ y ∈ c.args.toList, (st.ev y).need) ∧ ((st.argL c caps).all fun y => (y.share st.hp).good) = true ∧ res.rok = true ∧ (res.owns2.all fun i => (robs.map (·.1)).contains i) = true ∧
            nodupN (robs.map (·.1)) = true ∧ ((robs.map (·.1)).all fun i => decide (i < 1000000)) = true ∧ (robs.all fun p => p.2.pb) = true ∧
            (((st.argL c caps).flatMap SV.owns) = [] ∨ (res.isV2 = true ∧ ∀ p ∈ robs, p.2.isV)) ∧ K (st.res o.dst res robs)
        | none => False
      | _ => False
    | _ => False
  | _ => False

def St.callE (C : List (FuncId × Ctr)) (o : Oper) (st : St) (K : St → Prop) : Prop := st.callD (o.dst.getD 0) C o K

/-- the same as a value and what it asks -/
def St.callF (dd : Nat) (C : List (FuncId × Ctr)) (st : St) (c : Call) (x : Operand) : Option (Prop × SV) :=
  match st.ev x with
  | .fn f caps => match lk f C with
    | some ctr => match ctr.pure dd ((st.argL c caps).map (SV.share st.hp)) with
      | (ob, res, robs) => if ((st.argL c caps).all fun y => (y.share st.hp).good) = true then some (ob ∧ robs = [] ∧ (∀ y ∈ c.args.toList, (st.ev y).need) ∧ ((st.argL c caps).all fun y => (y.share st.hp).good) = true ∧ res.rok = true ∧ res.owns2 = [] ∧
            (((st.argL c caps).flatMap SV.owns) = [] ∨ res.isV2 = true) ∧ ctr.isL = false, res) else none
    | none => none
  | _ => none

/-- a call that makes no object -/
def St.callV (dd : Nat) (C : List (FuncId × Ctr)) (op : Op) (st : St) (res : SV) : Prop :=
  match op with
  | .call c => match c.callee with
    | .value x => match st.ev x with
      | .fn f caps => match lk f C with
        | some ctr => ((ctr.pure dd ((st.argL c caps).map (SV.share st.hp))).1 ∧ (ctr.pure dd ((st.argL c caps).map (SV.share st.hp))).2 = (res, [])) ∧ (∀ y ∈ c.args.toList, (st.ev y).need) ∧ ((st.argL c caps).all fun y => (y.share st.hp).good) = true ∧ res.rok = true ∧ res.owns2 = [] ∧
            (((st.argL c caps).flatMap SV.owns) = [] ∨ res.isV2 = true) ∧ ctr.isL = false
        | none => False
      | _ => False
    | _ => False
  | _ => False

def St.isM (C : List (FuncId × Ctr)) (st : St) (x : Operand) : Bool :=
  match st.ev x with
  | .fn f _ => match lk f C with
    | some ctr => ctr.isL
    | none => false
  | _ => false

theorem St.isM_of_callV {dd : Nat} {C : List (FuncId × Ctr)} {c : Call} {x : Operand} {st : St} {res : SV} (h : st.callV dd C (.call c) res) (hc : c.callee = .value x) : st.isM C x = false := by
  unfold St.callV at h
  simp only [hc] at h
  unfold St.isM
  generalize st.ev x = y at h ⊢
  split at h
  case h_2 => exact h.elim
  case h_1 _ f caps =>
  generalize lk f C = y at h ⊢
  split at h
  case h_2 => exact h.elim
  case h_1 _ ctr =>
  exact h.2.2.2.2.2.2

theorem St.callV_of_callF {dd : Nat} {C : List (FuncId × Ctr)} {c : Call} {x : Operand} {st : St} {ob : Prop} {res : SV} (hc : c.callee = .value x) (h : st.callF dd C c x = some (ob, res)) (hob : ob) : st.callV dd C (.call c) res := by
  unfold St.callF at h
  unfold St.callV
  simp only [hc]
  generalize st.ev x = y at h ⊢
  split at h
  case h_2 => cases h
  case h_1 _ f caps =>
  generalize lk f C = y at h ⊢
  split at h
  case h_2 => cases h
  case h_1 _ ctr =>
  generalize ctr.pure dd ((st.argL c caps).map (SV.share st.hp)) = q at h ⊢
  obtain ⟨o1, r1, r2⟩ := q
  simp only at h
  split at h
  case isFalse => cases h
  simp only [Option.some.injEq, Prod.mk.injEq] at h
  obtain ⟨rfl, rfl⟩ := h
  obtain ⟨h0, h1, h2, h3, h4, h5, h6, h7⟩ := hob
  exact ⟨⟨h0, by rw [h1]⟩, h2, h3, h4, h5, h6, h7⟩

theorem St.callE_of_callV {dd : Nat} {C : List (FuncId × Ctr)} {o : Oper} {st : St} {res : SV} {K : St → Prop} (h : st.callV dd C o.op res) (hK : K (st.res o.dst res [])) : st.callD dd C o K := by
  unfold St.callV at h
  unfold St.callD
  split at h
  case h_2 => exact h.elim
  case h_1 _ c ho =>
  try rw [ho]
  try simp only
  split at h
  case h_2 => exact h.elim
  case h_1 _ x hc =>
  try rw [hc]
  try simp only
  split at h
  case h_2 => exact h.elim
  case h_1 _ f caps hf =>
  try rw [hf]
  try simp only
  split at h
  case h_2 => exact h.elim
  case h_1 _ ctr hctr =>
  try rw [hctr]
  obtain ⟨⟨h0, h1⟩, h2, h3, h4, h5, h6, _⟩ := h
  have hr : (ctr.pure dd ((st.argL c caps).map (SV.share st.hp))).2.1 = res := congrArg Prod.fst h1
  have hb : (ctr.pure dd ((st.argL c caps).map (SV.share st.hp))).2.2 = [] := congrArg Prod.snd h1
  generalize he : ctr.pure dd ((st.argL c caps).map (SV.share st.hp)) = q at h0 hr hb
  obtain ⟨o1, r1, r2⟩ := q
  simp only at hr hb h0
  subst hr hb
  have e : ∀ {α : Type} (f : Prop → SV → List (Nat × Ob) → Prop), f o1 r1 [] → (match ctr.pure dd ((st.argL c caps).map (SV.share st.hp)) with | (a, b, c) => f a b c) := fun f hf => by rw [he]; exact hf
  refine e (α := Nat) (fun ob res robs => ob ∧ (∀ y ∈ c.args.toList, (st.ev y).need) ∧ ((st.argL c caps).all fun y => (y.share st.hp).good) = true ∧ res.rok = true ∧ (res.owns2.all fun i => (robs.map (·.1)).contains i) = true ∧
            nodupN (robs.map (·.1)) = true ∧ ((robs.map (·.1)).all fun i => decide (i < 1000000)) = true ∧ (robs.all fun p => p.2.pb) = true ∧
            (((st.argL c caps).flatMap SV.owns) = [] ∨ (res.isV2 = true ∧ ∀ p ∈ robs, p.2.isV)) ∧ K (st.res o.dst res robs)) ?_
  exact ⟨h0, h2, h3, h4, by rw [h5]; rfl, rfl, rfl, by simp, h6.imp id fun hh => ⟨hh, by simp⟩, hK⟩

section
variable {P : Program} {tys : List (Nat × TyD)} {N : Nat} {X0 : Nat → Prop} {M : Nat → BV → Prop} {w0 : World} {st : St} {β : Nat → BV} {a : Act} {w : World}

def Bor (X : Nat → Prop) (β : Nat → BV) (ids : List Nat) (b : Nat) : Prop := X b ∧ ∀ id ∈ ids, ¬ (β id).ft b

theorem R.share1 (h : Sim N X0 M w0 st β a w) {x : SV} {v : Value} (hR : R w (XX X0 β st.hp) β x v) {ids : List Nat} (hi : ∀ id ∈ x.owns1, id ∈ ids) {y : SV} (hy : x.share1 st.hp = y) (hj : y ≠ .junk) (β' : Nat → BV) :
    R w (Bor (XX X0 β st.hp) β ids) β' y v := by
  have hS : Same (XX X0 β st.hp) w w := ⟨Nat.le_refl _, fun _ _ _ => rfl⟩
  cases x with
  | v x => simp only [SV.share1] at hy; subst hy; have := hR.v_inv; subst this; exact .p (.v _)
  | sl s rows => simp only [SV.share1] at hy; subst hy; exact .p (hR.sl_inv.mono hS (fun b _ hb => hb.1))
  | rptr s rows i k =>
    simp only [SV.share1] at hy; subst hy
    obtain ⟨b, off, cap, hr, rfl⟩ := hR.rptr_inv
    exact .rptr s rows i k b off cap (hr.mono hS (fun b _ hb => hb.1))
  | own id =>
    simp only [SV.share1] at hy
    have fin : ∀ {ob : Ob} {s : Nat} {rows : List (List SV)}, lk id st.hp = some ob → ob.rd = some (s, rows) → R w (Bor (XX X0 β st.hp) β ids) β' (.sl s rows) v := fun {ob s rows} hl ho => by
      have hv := hR.own_inv
      subst hv
      exact .p ((h.objs id _ hl).rd ho (fun b hb hx => hx.2 id (hi id (by simp [SV.owns1])) hb) (fun b hb => hb.1))
    split at hy
    · rename_i e s rows hl
      subst hy
      exact fin hl rfl
    · rename_i e s rows hl
      subst hy
      exact fin hl rfl
    · exact absurd hy.symm hj
  | ptr id s i k =>
    obtain ⟨b, hb, rfl⟩ := hR.ptr_inv
    have hid : id ∈ ids := hi id (by simp [SV.owns1])
    simp only [SV.share1] at hy
    split at hy
    · rename_i e s' rows hl
      split at hy
      · rename_i hs
        subst hs
        subst hy
        have hob := h.objs id _ hl
        generalize hβ : β id = bv at hob hb
        cases hob with
        | nil e s h0 => rw [h0] at hb; cases hb
        | sl b' cap cur us hv hh h1 h2 h3 h4 h5 h6 h7 =>
          rw [hv] at hb
          cases hb
          have := R.rptr (w := w) (X := Bor (XX X0 β st.hp) β ids) (β := β') s rows i k b' 0 cap (.sl b' 0 cap us (fun hx => hx.2 id hid (by rw [hβ, hv]; rfl)) (lt_of_heap hh) h1 h4 (fun i k row c hr hc => by
            simp only [World.cell?, hh, Nat.zero_add]
            exact h5 i k row c hr hc) h6 (fun i k row c hr hc => (h7 i k row c hr hc).mono hS (fun b _ hb => hb.1)))
          rw [Nat.zero_add] at this
          exact this
      · exact absurd hy.symm hj
    · rename_i e cs hl
      split at hy
      · rename_i hc
        obtain ⟨rfl, hpur⟩ := hc
        subst hy
        have hob := h.objs id _ hl
        generalize hβ : β id = bv at hob hb
        cases hob with
        | box b' cur hv hh hlen hcc =>
          rw [hv] at hb
          cases hb
          have key : ∀ (k : Nat) (c : SV), cs[k]? = some c → ∃ u, cur[k]? = some u ∧ (u.oneCell' = true ∧ Rp w (XX X0 β st.hp) c u) := fun k c hc => by
            have hlt : k < cur.size := by rw [← hlen]; exact (List.getElem?_eq_some_iff.1 hc).1
            have hu : cur[k]? = some cur[k] := Array.getElem?_eq_getElem hlt
            exact ⟨_, hu, ((hcc k c _ hc hu).2).pur (List.all_eq_true.1 hpur c (List.mem_of_getElem? hc))⟩
          have one : ∀ {i : Nat} {row : List SV}, [cs][i]? = some row → i = 0 ∧ row = cs := fun {i row} hr => by
            cases i with
            | zero => simp at hr; exact ⟨rfl, hr.symm⟩
            | succ i => simp at hr
          have := R.rptr (w := w) (X := Bor (XX X0 β st.hp) β ids) (β := β') cs.length [cs] 0 k b' 0 1 (.sl b' 0 1 (fun _ k => (cur[k]?).getD undef) (fun hx => hx.2 id hid (by rw [hβ, hv]; rfl)) (lt_of_heap hh) (by simp) (fun i row hr => by rw [(one hr).2])
            (fun i k row c hr hc => by
              obtain ⟨rfl, rfl⟩ := one hr
              obtain ⟨u, hu, _⟩ := key k c hc
              simp [World.cell?, hh, hu]) (fun i k row c hr hc => by
              obtain ⟨rfl, rfl⟩ := one hr
              obtain ⟨u, hu, h1, _⟩ := key k c hc
              simpa [hu] using h1) (fun i k row c hr hc => by
              obtain ⟨rfl, rfl⟩ := one hr
              obtain ⟨u, hu, _, h1⟩ := key k c hc
              simpa [hu] using h1.mono hS (fun b _ hb => hb.1)))
          simpa using this
      · exact absurd hy.symm hj
    · exact absurd hy.symm hj
  | _ => exact absurd hy.symm hj

theorem R.share (h : Sim N X0 M w0 st β a w) {x : SV} {v : Value} (hR : R w (XX X0 β st.hp) β x v) {ids : List Nat} (hi : ∀ id ∈ x.owns, id ∈ ids) (hg : (x.share st.hp).good = true) (β' : Nat → BV) : R w (Bor (XX X0 β st.hp) β ids) β' (x.share st.hp) v := by
  have nj : ∀ {c : SV}, c.good1 = true → c ≠ .junk := fun {c} hc e => by subst e; cases hc
  have nj2 : (x.share st.hp) ≠ .junk := fun e => by rw [e] at hg; cases hg
  cases x with
  | agg cs =>
    simp only [SV.share, SV.good] at hg ⊢
    obtain ⟨us, rfl, hl, hh⟩ := hR.agg_inv
    refine .agg (by simpa using hl) fun k c u hk hu => ?_
    have hgc := List.all_eq_true.1 hg c (List.mem_of_getElem? hk)
    obtain ⟨c0, h0, rfl⟩ := map_get hk
    refine R.share1 h (hh k c0 u h0 hu) (fun id hid => hi id ?_) rfl (nj hgc) β'
    simp only [SV.owns, List.mem_flatMap]
    exact ⟨c0, List.mem_of_getElem? h0, hid⟩
  | fn f cs =>
    simp only [SV.share, SV.good] at hg ⊢
    obtain ⟨us, rfl, hl, hh⟩ := hR.fn_inv
    refine .fn (by simpa using hl) fun k c u hk hu => ?_
    have hgc := List.all_eq_true.1 hg c (List.mem_of_getElem? hk)
    obtain ⟨c0, h0, rfl⟩ := map_get hk
    refine R.share1 h (hh k c0 u h0 hu) (fun id hid => hi id ?_) rfl (nj hgc) β'
    simp only [SV.owns, List.mem_flatMap]
    exact ⟨c0, List.mem_of_getElem? h0, hid⟩
  | v x => exact R.share1 h hR hi rfl nj2 β'
  | sl s rows => exact R.share1 h hR hi rfl nj2 β'
  | own id => exact R.share1 h hR hi rfl nj2 β'
  | ptr id s i k => exact R.share1 h hR hi rfl nj2 β'
  | rptr s rows i k => exact R.share1 h hR hi rfl nj2 β'
  | _ => cases hg

/-- a value with nothing shared in it does not mind which blocks are set apart -/
theorem R.isV {X X' : Nat → Prop} {x : SV} {v : Value} (hR : R w X β x v) (hx : x.isV = true) : R w X' β x v := by
  cases x with
  | v y => have := hR.v_inv; subst this; exact .p (.v _)
  | own id => have := hR.own_inv; subst this; exact .own id
  | _ => cases hx

theorem R.isV2 {X X' : Nat → Prop} {x : SV} {v : Value} (hR : R w X β x v) (hx : x.isV2 = true) : R w X' β x v := by
  have agg : ∀ {cs : List SV} {v : Value}, R w X β (.agg cs) v → cs.all SV.isV = true → R w X' β (.agg cs) v := fun {cs v} hR hx => by
    obtain ⟨us, rfl, hl, hh⟩ := hR.agg_inv
    exact .agg hl fun k c u hc hu => (hh k c u hc hu).isV (List.all_eq_true.1 hx c (List.mem_of_getElem? hc))
  cases x with
  | agg cs => exact agg hR hx
  | tup cs =>
    obtain ⟨us, rfl, hl, hh⟩ := hR.tup_inv
    refine .tup hl fun k c u hc hu => ?_
    have h1 := List.all_eq_true.1 hx c (List.mem_of_getElem? hc)
    cases c with
    | agg ds => exact agg (hh k _ u hc hu) h1
    | _ => exact (hh k _ u hc hu).isV h1
  | v y => exact hR.isV hx
  | own id => exact hR.isV hx
  | _ => cases hx

theorem ObR.isV {X X' : Nat → Prop} {v : BV} {ob : Ob} (h : ObR w X β v ob) (hx : ob.isV) : ObR w X' β v ob := by
  cases h with
  | nil e s h => exact .nil e s h
  | sl b cap cur us hv hh h1 h2 h3 h4 h5 h6 h7 =>
    refine .sl b cap cur us hv hh h1 h2 h3 h4 h5 h6 fun i k row c hr hc => ?_
    obtain ⟨x, rfl⟩ := hx row (List.mem_of_getElem? hr) c (List.mem_of_getElem? hc)
    have := h7 i k row _ hr hc
    cases this
    exact .v _
  | box b cur hv hh hl hc => exact .box b cur hv hh hl fun k c u h1 h2 => ⟨(hc k c u h1 h2).1, (hc k c u h1 h2).2.isV (List.all_eq_true.1 hx c (List.mem_of_getElem? h1))⟩
  | mp b clock ents hv hh he => exact .mp b clock ents hv hh he
  | dp hd he => exact .dp hd he
  | dq => exact hx.elim

theorem lk_mem {α : Type} {t : Nat} {x : α} : ∀ {l : List (Nat × α)}, lk t l = some x → (t, x) ∈ l
  | (u, y) :: l, h => by
    simp only [lk] at h
    by_cases ht : t = u
    · rw [if_pos ht] at h; cases h; subst ht; exact List.mem_cons_self
    · rw [if_neg ht] at h; exact List.mem_cons_of_mem _ (lk_mem h)
theorem lk_append {α : Type} (t : Nat) (l2 : List (Nat × α)) : ∀ (l : List (Nat × α)), lk t (l ++ l2) = (lk t l).or (lk t l2)
  | [] => rfl
  | (u, y) :: l => by
    simp only [List.cons_append, lk]
    by_cases ht : t = u
    · simp [ht]
    · simp [ht, lk_append t l2 l]
theorem lk_none {α : Type} {t : Nat} : ∀ {l : List (Nat × α)}, t ∉ l.map (·.1) → lk t l = none
  | [], _ => rfl
  | (u, y) :: l, h => by
    simp only [List.map_cons, List.mem_cons, not_or] at h
    simp only [lk, if_neg h.1]
    exact lk_none h.2
theorem lk_some_of_mem {α : Type} {t : Nat} : ∀ {l : List (Nat × α)}, t ∈ l.map (·.1) → ∃ x, lk t l = some x
  | (u, y) :: l, h => by
    simp only [lk]
    by_cases ht : t = u
    · exact ⟨y, by rw [if_pos ht]⟩
    · simp only [List.map_cons, List.mem_cons] at h
      rcases h with h | h
      · exact absurd h ht
      · obtain ⟨x, hx⟩ := lk_some_of_mem h
        exact ⟨x, by rw [if_neg ht]; exact hx⟩

def mix (ids : List Nat) (βr β : Nat → BV) (i : Nat) : BV := if i ∈ ids then βr i else β i

/-- several objects are no more; their numbers get new values -/
theorem Sim.killL (h : Sim N X0 M w0 st β a w) {βr : Nat → BV} (hr : ∀ i, (βr i).val.oneCell' = true) : ∀ ids : List Nat, (∀ i ∈ ids, i < 1000000) →
    Sim N X0 M w0 (st.killL ids) (mix ids βr β) a w
  | [], _ => by
    have e : mix [] βr β = β := by funext i; simp [mix]
    rw [e]; exact h
  | d :: l, hlo => by
    have h1 := Sim.killL h hr l (fun i hi => hlo i (List.mem_cons_of_mem _ hi))
    refine h1.kill d (hlo d List.mem_cons_self) (fun i hi => ?_) ?_ rfl rfl rfl (Nat.le_refl _) (fun _ _ _ => rfl) (fun b _ hb => .inl hb) h1.x0
    · simp [mix, hi]
    · simpa [mix] using hr d

theorem XX_killL {βr : Nat → BV} {ids : List Nat} {b : Nat} (hb : ∃ id ob, lk id (st.killL ids).hp = some ob ∧ (mix ids βr β id).ft b) : ∃ id ob, id ∉ ids ∧ lk id st.hp = some ob ∧ (β id).ft b := by
  obtain ⟨id, ob, hl, hb⟩ := hb
  have key : ∀ (ids : List Nat) (id : Nat) (ob : Ob), lk id (st.killL ids).hp = some ob → id ∉ ids ∧ ∃ o, lk id st.hp = some o := by
    intro ids
    induction ids with
    | nil => intro id ob h; exact ⟨by simp, ob, h⟩
    | cons d l ih =>
      intro id ob h
      simp only [St.killL, St.kill, lk_map] at h
      by_cases hd : id = d
      · subst hd; rw [lk_er_self] at h; cases h
      · rw [lk_er_ne hd] at h
        cases hy : lk id (st.killL l).hp with
        | none => rw [hy] at h; cases h
        | some y =>
          obtain ⟨h1, h2⟩ := ih id y hy
          exact ⟨by simp [hd, h1], h2⟩
  obtain ⟨h1, o, h2⟩ := key ids id ob hl
  simp only [mix, if_neg h1] at hb
  exact ⟨id, o, h1, h2, hb⟩

theorem R.beta1 {X : Nat → Prop} {β' : Nat → BV} {x : SV} {v : Value} (hR : R w X β x v) (hk : x.rok1 = true) (hb : ∀ id ∈ x.owns1, β' id = β id) : R w X β' x v := by
  cases x with
  | v y => have := hR.v_inv; subst this; exact .p (.v _)
  | sl s rows => exact .p hR.sl_inv
  | own id => have := hR.own_inv; subst this; rw [← hb id (by simp [SV.owns1])]; exact .own id
  | ptr id s i k => obtain ⟨b, hbb, rfl⟩ := hR.ptr_inv; exact .ptr id s i k b (by rw [hb id (by simp [SV.owns1])]; exact hbb)
  | _ => cases hk
theorem R.beta2 {X : Nat → Prop} {β' : Nat → BV} {x : SV} {v : Value} (hR : R w X β x v) (hk : x.rok2 = true) (hb : ∀ id ∈ x.owns, β' id = β id) : R w X β' x v := by
  cases x with
  | agg cs =>
    obtain ⟨us, rfl, hl, hh⟩ := hR.agg_inv
    refine .agg hl fun k c u hc hu => (hh k c u hc hu).beta1 (List.all_eq_true.1 hk c (List.mem_of_getElem? hc)) fun id hid => hb id ?_
    simp only [SV.owns, List.mem_flatMap]
    exact ⟨c, List.mem_of_getElem? hc, hid⟩
  | v y => exact hR.beta1 hk hb
  | sl s rows => exact hR.beta1 hk hb
  | own id => exact hR.beta1 hk hb
  | ptr id s i k => exact hR.beta1 hk hb
  | _ => cases hk
theorem R.beta {X : Nat → Prop} {β' : Nat → BV} {x : SV} {v : Value} (hR : R w X β x v) (hk : x.rok = true) (hb : ∀ id ∈ x.owns2, β' id = β id) : R w X β' x v := by
  cases x with
  | tup cs =>
    obtain ⟨us, rfl, hl, hh⟩ := hR.tup_inv
    refine .tup hl fun k c u hc hu => (hh k c u hc hu).beta2 (List.all_eq_true.1 hk c (List.mem_of_getElem? hc)) fun id hid => hb id ?_
    simp only [SV.owns2, List.mem_flatMap]
    exact ⟨c, List.mem_of_getElem? hc, hid⟩
  | agg cs => exact hR.beta2 hk hb
  | v y => exact hR.beta2 hk hb
  | sl s rows => exact hR.beta2 hk hb
  | own id => exact hR.beta2 hk hb
  | ptr id s i k => exact hR.beta2 hk hb
  | _ => cases hk

theorem ObR.sl_beta {X : Nat → Prop} {β' : Nat → BV} {v : BV} {e s : Nat} {rows : List (List SV)} (h : ObR w X β v (.sl e s rows)) : ObR w X β' v (.sl e s rows) := by
  cases h with
  | nil e s h => exact .nil e s h
  | sl b cap cur us hv hh h1 h2 h3 h4 h5 h6 h7 => exact .sl b cap cur us hv hh h1 h2 h3 h4 h5 h6 h7

theorem Sim.addL (h : Sim N X0 M w0 st β a w) : ∀ l : List (Nat × Ob), nodupN (l.map (·.1)) = true → (∀ id ob, lk id l = some ob → lk id st.hp = none ∧ ObR w (XX X0 β st.hp) β (β id) ob ∧
      (∀ b, (β id).ft b → X0 b ∧ (MB M b ∨ w0.heap.size ≤ b)) ∧ (∀ b j o, (β id).ft b → lk j st.hp = some o → ¬ (β j).ft b)) →
    (∀ i j oi oj b, lk i l = some oi → lk j l = some oj → (β i).ft b → (β j).ft b → i = j) → Sim N X0 M w0 { st with hp := l ++ st.hp } β a w
  | [], _, _, _ => h
  | (j, ob) :: l, hn, hl, hinj => by
    simp only [List.map_cons, nodupN, Bool.and_eq_true, Bool.not_eq_true'] at hn
    have hj : j ∉ l.map (·.1) := fun hm => by
      have := hn.1
      simp at this
      obtain ⟨p, hp, he⟩ := List.mem_map.1 hm
      exact this p.2 (by rw [← he]; exact hp)
    have up : ∀ {id o}, lk id l = some o → lk id ((j, ob) :: l) = some o := fun {id o} hh => by
      simp only [lk]
      rw [if_neg (fun e => by subst e; rw [lk_none hj] at hh; cases hh)]
      exact hh
    have h1 := Sim.addL h l hn.2 (fun id o hh => hl id o (up hh)) (fun i k oi ok b hi hk => hinj i k oi ok b (up hi) (up hk))
    obtain ⟨e1, e2, e3, e4⟩ := hl j ob (by simp [lk])
    have hS : Same (XX X0 β st.hp) w w := ⟨Nat.le_refl _, fun _ _ _ => rfl⟩
    have h2 := h1.add (j := j) (ob := ob) (by show lk j (l ++ st.hp) = none; rw [lk_append, lk_none hj, e1]; rfl) (e2.mono hS (fun b _ hb => by
        rcases hb with hb | ⟨id, o, hi, hb⟩
        · exact .inl hb
        · have hi' : lk id (l ++ st.hp) = some o := hi
          rw [lk_append] at hi'
          cases hq : lk id l with
          | some y => exact .inl ((hl id y (up hq)).2.2.1 b hb).1
          | none => rw [hq] at hi'; exact .inr ⟨id, o, hi', hb⟩) (fun _ _ => rfl)) (fun b hb => (e3 b hb).1) (fun b hb => (e3 b hb).2)
      (fun b id o hb hi => by
        have hi' : lk id (l ++ st.hp) = some o := hi
        rw [lk_append] at hi'
        cases hq : lk id l with
        | some y =>
          intro he
          have := hinj j id ob y b (by simp [lk]) (up hq) hb he
          subst this
          rw [lk_none hj] at hq; cases hq
        | none => rw [hq] at hi'; exact e4 b id o hb hi')
    exact h2

theorem run_call {f : FuncId} {us : List Value} {o : Oper} {c : Call} {x : Operand} (hcl : Callable P f) (ho : o.op = .call c) (hcal : c.callee = .value x) (hfv : a.eval x = .func (.func f) #[] us.toArray) (w : World) :
    (execOp a.eval o).run P w = .ok (.enter f ((c.args.toList.map a.eval ++ us).toArray)) w := by
  obtain ⟨fn, hfn, hname, hbody⟩ := hcl.ex
  have e1 : (c.args.toList.map a.eval ++ us).toArray = c.args.map a.eval ++ us.toArray := by
    apply Array.toList_inj.1; simp
  have hb : fn.body ≠ none := by intro hb; rw [hb] at hbody; cases hbody
  have hn : fn.name ≠ "runtime.NumGoroutine" := by simpa using hname
  rw [e1]
  simp [execOp, ho, resolve, hcal, hfv, Deferred.ofValue, invoke, callFunc, hfn, hn, hb]

theorem argL_ok (h : Sim N X0 M w0 st β a w) {c : Call} {caps : List SV} {us : List Value} (hneed : ∀ y ∈ c.args.toList, (st.ev y).need) (hul : caps.length = us.length) (hcap : ∀ (k : Nat) (c : SV) (u : Value), caps[k]? = some c → us[k]? = some u → R w (XX X0 β st.hp) β c u)
    (i : Nat) (q : SV) (u : Value) (hq : (st.argL c caps)[i]? = some q) (hu : (c.args.toList.map a.eval ++ us)[i]? = some u) : R w (XX X0 β st.hp) β q u := by
  unfold St.argL at hq
  rw [List.getElem?_append] at hq hu
  simp only [List.length_map] at hq hu
  split at hq
  · rename_i hi
    rw [if_pos hi] at hu
    rw [List.getElem?_map] at hq hu
    cases hy : c.args.toList[i]? with
    | none => rw [hy] at hq; cases hq
    | some y =>
      rw [hy] at hq hu
      simp only [Option.map_some, Option.some.injEq] at hq hu
      subst hu hq
      exact (St.ev_ok h y).strip (hneed y (List.mem_of_getElem? hy))
  · rename_i hi
    rw [if_neg hi] at hu
    exact hcap _ q u hq hu

theorem eff_call {C : List (FuncId × Ctr)} (hC : COk P C) (hA : Ap P X0 M w0) (h : Sim N X0 M w0 st β a w) {o : Oper} (hN : ∀ d, o.dst = some d → d < N) {K : St → Prop}
    {dd : Nat} (hw : st.callD dd C o K) {Q : Exit → Act → World → Prop} : o.wp P a w (Ok N X0 M w0 K) Q := by
  unfold St.callD at hw
  split at hw
  case h_2 => exact hw.elim
  case h_1 _ c ho =>
  split at hw
  case h_2 => exact hw.elim
  case h_1 _ x hcal =>
  split at hw
  case h_2 => exact hw.elim
  case h_1 _ f caps hf =>
  split at hw
  case h_2 => exact hw.elim
  case h_1 _ ctr hctr =>
  have hH := hC.holds f ctr hctr dd ((st.argL c caps).map (SV.share st.hp))
  generalize ctr.pure dd ((st.argL c caps).map (SV.share st.hp)) = q at hw hH
  obtain ⟨ob, res, robs⟩ := q
  obtain ⟨hc, hneed, hgood, hrok, hown, hnd, hlow, hsl, hbor, hK⟩ := hw
  obtain ⟨us, hfv, hul, hcap⟩ := (hf ▸ St.ev_ok h x : R w _ β (.fn f caps) (a.eval x)).fn_inv
  have hrun := run_call (hC.call f ctr hctr) ho hcal hfv w
  have hargs := argL_ok h hneed hul hcap
  have hargs2 : ∀ (i : Nat) (q : SV) (u : Value), ((st.argL c caps).map (SV.share st.hp))[i]? = some q → (c.args.toList.map a.eval ++ us)[i]? = some u →
      R w (Bor (XX X0 β st.hp) β ((st.argL c caps).flatMap SV.owns)) (fun _ => nilB) q u := fun i q u hq hu => by
    obtain ⟨y, hy, rfl⟩ := map_get hq
    have hmem := List.mem_of_getElem? hy
    exact R.share h (hargs i y u hy hu) (fun id hid => List.mem_flatMap.2 ⟨y, hmem, hid⟩) (List.all_eq_true.1 hgood y hmem) _
  have hcalls := hH hc w _ (c.args.toList.map a.eval ++ us) (hA.now h) (fun b hb => h.live hb.1) (by simp [St.argL, hul]) hargs2
  unfold Oper.wp
  rw [hrun, Oper.upon_enter]
  refine hcalls.mono fun e w' hp => ?_
  obtain ⟨v, βr, rfl, hb, hβr, hRv, ⟨hobs, hinj⟩, hnew⟩ := hp
  have hrb : ∀ {b}, (∃ id ob, lk id robs = some ob ∧ (βr id).ft b) → w.heap.size ≤ b ∧ b < w'.heap.size := by
    rintro b ⟨id, ob, hl, hbb⟩
    exact ⟨hnew id ob b hl hbb, (hobs id ob hl).lt hbb⟩
  have h1 : Sim N (fun b => X0 b ∨ ∃ id ob, lk id robs = some ob ∧ (βr id).ft b) M w0 st β a w' :=
    h.grow hb (fun b hlt hx => by
      rcases hx with hx | hx
      · exact .inl hx
      · exact absurd (hrb hx).1 (by omega)) (fun b hx => by
      rcases hx with hx | hx
      · exact Nat.lt_of_lt_of_le (h.x0 b hx) hb.size
      · exact (hrb hx).2)
  have h2 := h1.killL hβr (robs.map (·.1)) (fun i hi => by simpa using List.all_eq_true.1 hlow i hi)
  have hin : ∀ {id ob}, lk id robs = some ob → (mix (robs.map (·.1)) βr β) id = βr id := fun {id ob} hl => by
    have : id ∈ robs.map (·.1) := List.mem_map.2 ⟨(id, ob), lk_mem hl, rfl⟩
    simp only [mix, this, if_true]
  have hkl : ∀ {b}, XX (fun b => X0 b ∨ ∃ id ob, lk id robs = some ob ∧ (βr id).ft b) (mix (robs.map (·.1)) βr β) (st.killL (robs.map (·.1))).hp b →
      XX X0 β st.hp b ∨ ∃ id ob, lk id robs = some ob ∧ (βr id).ft b := fun {b} hx => by
    rcases hx with (hx | hx) | hx
    · exact .inl (.inl hx)
    · exact .inr hx
    · obtain ⟨id, ob, _, hl, hbb⟩ := XX_killL hx
      exact .inl (.inr ⟨id, ob, hl, hbb⟩)
  have hS : Same (XX (Bor (XX X0 β st.hp) β ((st.argL c caps).flatMap SV.owns)) βr robs) w' w' := ⟨Nat.le_refl _, fun _ _ _ => rfl⟩
  have hXr : ((st.argL c caps).flatMap SV.owns) = [] → ∀ b, (XX X0 β st.hp b ∨ ∃ id ob, lk id robs = some ob ∧ (βr id).ft b) →
      XX (Bor (XX X0 β st.hp) β ((st.argL c caps).flatMap SV.owns)) βr robs b := fun he b hx => by
    rcases hx with hx | hx
    · exact .inl ⟨hx, fun id hid => by rw [he] at hid; cases hid⟩
    · exact .inr hx
  have h3 := h2.addL robs hnd (fun id ob hl => by
      refine ⟨?_, ?_, fun b hbb => ?_, fun b j o' hbb hj hjb => ?_⟩
      · cases hq : lk id (st.killL (robs.map (·.1))).hp with
        | none => rfl
        | some y =>
          exfalso
          have key : ∀ (ids : List Nat) (id : Nat) (ob : Ob), lk id (st.killL ids).hp = some ob → id ∉ ids := by
            intro ids
            induction ids with
            | nil => intro id ob h; simp
            | cons d l ih =>
              intro id ob h
              simp only [St.killL, St.kill, lk_map] at h
              by_cases hd : id = d
              · subst hd; rw [lk_er_self] at h; cases h
              · rw [lk_er_ne hd] at h
                cases hy : lk id (st.killL l).hp with
                | none => rw [hy] at h; cases h
                | some y => simp [hd, ih id y hy]
          exact key _ id y hq (List.mem_map.2 ⟨(id, ob), lk_mem hl, rfl⟩)
      · rw [hin hl]
        have hpb : ob.pb = true := List.all_eq_true.1 hsl (id, ob) (lk_mem hl)
        have hO := hobs id _ hl
        rcases hbor with he | ⟨_, hv⟩
        · exact (hO.pb_beta hpb).mono hS (fun b _ hx => hXr he b (hkl hx)) (fun _ _ => rfl)
        · exact (hO.pb_beta hpb).isV (hv (id, _) (lk_mem hl))
      · rw [hin hl] at hbb
        exact ⟨.inr ⟨id, ob, hl, hbb⟩, .inr (Nat.le_trans h.grew (hrb ⟨id, ob, hl, hbb⟩).1)⟩
      · rw [hin hl] at hbb
        obtain ⟨id2, o2, _, hl2, hb2⟩ := XX_killL ⟨j, o', hj, hjb⟩
        have := (h.objs id2 o2 hl2).lt hb2
        have := (hrb ⟨id, ob, hl, hbb⟩).1
        omega) (fun i j oi oj b hi hj hbi hbj => by
      rw [hin hi] at hbi
      rw [hin hj] at hbj
      exact hinj i j oi oj b hi hj hbi hbj)
  have h4 := h3.un (X1 := X0) (fun b hx => .inl hx)
  have hRf : R w' (XX X0 (mix (robs.map (·.1)) βr β) (robs ++ (st.killL (robs.map (·.1))).hp)) (mix (robs.map (·.1)) βr β) res v := by
    have hR1 : R w' (XX X0 (mix (robs.map (·.1)) βr β) (robs ++ (st.killL (robs.map (·.1))).hp)) βr res v := by
      rcases hbor with he | ⟨hv, _⟩
      · refine hRv.mono hS fun b _ hx => hXr he b ?_
        rcases hx with hx | ⟨id, o', hi, hbb⟩
        · exact .inl (.inl hx)
        · rw [lk_append] at hi
          cases hq : lk id robs with
          | some y => rw [hin hq] at hbb; exact .inr ⟨id, y, hq, hbb⟩
          | none => rw [hq] at hi; exact hkl (.inr ⟨id, o', hi, hbb⟩)
      · exact hRv.isV2 hv
    refine hR1.beta hrok fun id hid => ?_
    have := List.all_eq_true.1 hown id hid
    have hm : id ∈ robs.map (·.1) := by simpa using this
    simp only [mix, hm, if_true]
  cases hd : o.dst with
  | none => exact ⟨_, _, hK, by rw [hd]; exact h4⟩
  | some d => exact ⟨_, _, hK, by rw [hd]; exact h4.put (hN d hd) hRf⟩

end
end Go.Vc
