/-
  DERIVED. Several texts of ours in one: VcH, VcL, VcNa.
-/
import Derived.Test.YtdhkhapbldkkdaaDoorVq0
import Derived.Test.YtdhkhapbldkkdaaDoorVq1
set_option linter.unusedSimpArgs false
set_option linter.unusedVariables false
/-
  DERIVED. Calls by contract.
-/
namespace Go.Vc
set_option linter.unusedVariables false
set_option linter.unusedSimpArgs false

/-- what a call hands back, of read-only arguments: the result, and the objects that it makes -/
structure Ctr where
  /-- the arguments that are lent (written, and the caller's again), and those that are given away; if there are any, 'wri' counts -/
  lend : List Nat := []
  move : List Nat := []
  pure : Nat → List SV → Prop × SV × List (Nat × Ob) := fun _ _ => (False, .junk, [])
  wri : Nat → List SV → List (Nat × Ob) → Prop × SV × List (Nat × Ob) × List (Nat × Ob) := fun _ _ _ => (False, .junk, [], [])
def Ctr.isL (c : Ctr) : Bool := !(c.lend.isEmpty && c.move.isEmpty)

def Obs (w : World) (X : Nat → Prop) (β : Nat → BV) (robs : List (Nat × Ob)) : Prop :=
  (∀ id ob, lk id robs = some ob → ObR w (XX X β robs) β (β id) ob) ∧
  (∀ i j oi oj b, lk i robs = some oi → lk j robs = some oj → (β i).ft b → (β j).ft b → i = j)

/-- **A contract.** -/
def Holds (P : Program) (f : FuncId) (args : List SV) (res : SV) (robs : List (Nat × Ob)) : Prop :=
  ∀ (w : World) (X : Nat → Prop) (vs : List Value), Grd P w → (∀ b, X b → b < w.heap.size) → vs.length = args.length → (∀ (i : Nat) (c : SV) (u : Value), args[i]? = some c → vs[i]? = some u → R w X (fun _ => nilB) c u) →
    Calls P f vs.toArray w fun e w' => ∃ v β, e = .returned v ∧ Go.RowKit.Below w.heap.size w w' ∧ (∀ i, (β i).val.oneCell' = true) ∧ R w' (XX X β robs) β res v ∧ Obs w' X β robs ∧
      ∀ id ob b, lk id robs = some ob → (β id).ft b → w.heap.size ≤ b

/-- **A contract of a function that writes into what it is lent** (numbers from 1000000 on: the caller's again behind the call, as 'kept' says; lower ones: given away). -/
def HoldsL (P : Program) (f : FuncId) (args : List SV) (obs : List (Nat × Ob)) (res : SV) (robs kept : List (Nat × Ob)) : Prop :=
  ∀ (w : World) (X : Nat → Prop) (β : Nat → BV) (vs : List Value), Grd P w → (∀ i, (β i).val.oneCell' = true) → (∀ b, X b → b < w.heap.size) → vs.length = args.length →
    (∀ (i : Nat) (c : SV) (u : Value), args[i]? = some c → vs[i]? = some u → R w (XX X β obs) β c u) → Obs w X β obs → (∀ id ob b, lk id obs = some ob → (β id).ft b → ¬ X b ∧ P.globals.size ≤ b) →
    Calls P f vs.toArray w fun e w' => ∃ v β', e = .returned v ∧ w'.os = w.os ∧ w'.tape = w.tape ∧ w'.output = w.output ∧ w.heap.size ≤ w'.heap.size ∧
      (∀ b, b < w.heap.size → (¬ ∃ id ob, lk id obs = some ob ∧ (β id).ft b) → w'.heap[b]? = w.heap[b]?) ∧ (∀ i, (β' i).val.oneCell' = true) ∧ (∀ i ob, 1000000 ≤ i → lk i obs = some ob → (β' i).val = (β i).val) ∧
      R w' (XX X β' (robs ++ kept)) β' res v ∧ Obs w' X β' (robs ++ kept) ∧
      ∀ id ob b, lk id (robs ++ kept) = some ob → (β' id).ft b → w.heap.size ≤ b ∨ ∃ k o, lk k obs = some o ∧ (β k).ft b

structure Callable (P : Program) (f : FuncId) : Prop where
  ex : ∃ fn, P.funcs[f]? = some fn ∧ (fn.name == "runtime.NumGoroutine") = false ∧ fn.body.isSome = true

structure COk (P : Program) (C : List (FuncId × Ctr)) : Prop where
  call : ∀ f c, lk f C = some c → Callable P f
  holds : ∀ f c, lk f C = some c → ∀ d args, (c.pure d args).1 → Holds P f args (c.pure d args).2.1 (c.pure d args).2.2
  holdsL : ∀ f c, lk f C = some c → ∀ d args obs, (c.wri d args obs).1 → HoldsL P f args obs (c.wri d args obs).2.1 (c.wri d args obs).2.2.1 (c.wri d args obs).2.2.2

/-- an argument as what may be read -/
def SV.share1 (hp : List (Nat × Ob)) : SV → SV
  | .own id => match lk id hp with
    | some (.sl _ s rows) => .sl s rows
    | some (.dp _ s rows) => .sl s rows
    | _ => .junk
  | .v x => .v x
  | .sl s rows => .sl s rows
  | .rptr s rows i k => .rptr s rows i k
  | .ptr id s i k => match lk id hp with
    | some (.sl _ s' rows) => if s = s' then .rptr s rows i k else .junk
    | some (.box _ cs) => if i = 0 ∧ cs.all SV.pur = true then .rptr cs.length [cs] 0 k else .junk
    | _ => .junk
  | _ => .junk
def SV.share (hp : List (Nat × Ob)) : SV → SV
  | .agg cs => .agg (cs.map (SV.share1 hp))
  | .fn f cs => .fn f (cs.map (SV.share1 hp))
  | x => x.share1 hp
def SV.owns1 : SV → List Nat
  | .own id => [id]
  | .ptr id _ _ _ => [id]
  | _ => []
def SV.owns : SV → List Nat
  | .agg cs => cs.flatMap SV.owns1
  | .fn _ cs => cs.flatMap SV.owns1
  | x => x.owns1

/-- nothing shared in it -/
def SV.isV : SV → Bool
  | .v _ => true
  | .own _ => true
  | _ => false
def SV.isV2 : SV → Bool
  | .agg cs => cs.all SV.isV
  | .tup cs => cs.all fun
    | .agg ds => ds.all SV.isV
    | x => x.isV
  | x => x.isV
def Ob.isV : Ob → Prop
  | .sl _ _ rows => ∀ row ∈ rows, ∀ c ∈ row, ∃ x, c = .v x
  | .box _ cs => cs.all SV.isV = true
  | .mp _ _ => True
  | .dp _ _ _ => True
  | .dq _ _ _ _ _ => False

/-- an argument that a contract may get -/
def SV.good1 : SV → Bool
  | .v _ => true
  | .sl _ _ => true
  | .rptr _ _ _ _ => true
  | _ => false
def SV.good : SV → Bool
  | .agg cs => cs.all SV.good1
  | .fn _ cs => cs.all SV.good1
  | x => x.good1
/-- a result that a contract may give -/
def SV.rok1 : SV → Bool
  | .v _ => true
  | .sl _ _ => true
  | .own _ => true
  | .ptr _ _ _ _ => true
  | _ => false
def SV.rok2 : SV → Bool
  | .agg cs => cs.all SV.rok1
  | x => x.rok1
def SV.rok : SV → Bool
  | .tup cs => cs.all SV.rok2
  | x => x.rok2
def SV.owns2 : SV → List Nat
  | .tup cs => cs.flatMap SV.owns
  | x => x.owns

def St.killL (st : St) : List Nat → St
  | [] => st
  | d :: l => (st.killL l).kill d
def nodupN : List Nat → Bool
  | [] => true
  | d :: l => !l.contains d && nodupN l

def St.res (st : St) (d : Option Nat) (res : SV) (robs : List (Nat × Ob)) : St :=
  let s := st.killL (robs.map (·.1))
  St.put { fr := s.fr, hp := robs ++ s.hp } d res

def St.argL (st : St) (c : Call) (caps : List SV) : List SV := (c.args.toList.map fun y => (st.ev y).strip) ++ caps

def St.callD (dd : Nat) (C : List (FuncId × Ctr)) (o : Oper) (st : St) (K : St → Prop) : Prop :=
  match o.op with
  | .call c => match c.callee with
    | .value x => match st.ev x with
      | .fn f caps => match lk f C with
        | some ctr => match ctr.pure dd ((st.argL c caps).map (SV.share st.hp)) with
          | (ob, res, robs) => ob ∧ (∀ y ∈ c.args.toList, (st.ev y).need) ∧ ((st.argL c caps).all fun y => (y.share st.hp).good) = true ∧ res.rok = true ∧ (res.owns2.all fun i => (robs.map (·.1)).contains i) = true ∧
            nodupN (robs.map (·.1)) = true ∧ ((robs.map (·.1)).all fun i => decide (i < 1000000)) = true ∧ (robs.all fun p => p.2.pb) = true ∧
            (((st.argL c caps).flatMap SV.owns) = [] ∨ (res.isV2 = true ∧ ∀ p ∈ robs, p.2.isV)) ∧ K (st.res o.dst res robs)
        | none => False
      | _ => False
    | _ => False
  | _ => False

def St.callE (C : List (FuncId × Ctr)) (o : Oper) (st : St) (K : St → Prop) : Prop := st.callD (o.dst.getD 0) C o K

/-- the same as a value and what it asks -/
def St.callF (dd : Nat) (C : List (FuncId × Ctr)) (st : St) (c : Call) (x : Operand) : Option (Prop × SV) :=
  match st.ev x with
  | .fn f caps => match lk f C with
    | some ctr => match ctr.pure dd ((st.argL c caps).map (SV.share st.hp)) with
      | (ob, res, robs) => if ((st.argL c caps).all fun y => (y.share st.hp).good) = true then some (ob ∧ robs = [] ∧ (∀ y ∈ c.args.toList, (st.ev y).need) ∧ ((st.argL c caps).all fun y => (y.share st.hp).good) = true ∧ res.rok = true ∧ res.owns2 = [] ∧
            (((st.argL c caps).flatMap SV.owns) = [] ∨ res.isV2 = true) ∧ ctr.isL = false, res) else none
    | none => none
  | _ => none

/-- a call that makes no object -/
def St.callV (dd : Nat) (C : List (FuncId × Ctr)) (op : Op) (st : St) (res : SV) : Prop :=
  match op with
  | .call c => match c.callee with
    | .value x => match st.ev x with
      | .fn f caps => match lk f C with
        | some ctr => ((ctr.pure dd ((st.argL c caps).map (SV.share st.hp))).1 ∧ (ctr.pure dd ((st.argL c caps).map (SV.share st.hp))).2 = (res, [])) ∧ (∀ y ∈ c.args.toList, (st.ev y).need) ∧ ((st.argL c caps).all fun y => (y.share st.hp).good) = true ∧ res.rok = true ∧ res.owns2 = [] ∧
            (((st.argL c caps).flatMap SV.owns) = [] ∨ res.isV2 = true) ∧ ctr.isL = false
        | none => False
      | _ => False
    | _ => False
  | _ => False

def St.isM (C : List (FuncId × Ctr)) (st : St) (x : Operand) : Bool :=
  match st.ev x with
  | .fn f _ => match lk f C with
    | some ctr => ctr.isL
    | none => false
  | _ => false

theorem St.isM_of_callV {dd : Nat} {C : List (FuncId × Ctr)} {c : Call} {x : Operand} {st : St} {res : SV} (h : st.callV dd C (.call c) res) (hc : c.callee = .value x) : st.isM C x = false := by
  unfold St.callV at h
  simp only [hc] at h
  unfold St.isM
  generalize st.ev x = y at h ⊢
  split at h
  case h_2 => exact h.elim
  case h_1 _ f caps =>
  generalize lk f C = y at h ⊢
  split at h
  case h_2 => exact h.elim
  case h_1 _ ctr =>
  exact h.2.2.2.2.2.2

theorem St.callV_of_callF {dd : Nat} {C : List (FuncId × Ctr)} {c : Call} {x : Operand} {st : St} {ob : Prop} {res : SV} (hc : c.callee = .value x) (h : st.callF dd C c x = some (ob, res)) (hob : ob) : st.callV dd C (.call c) res := by
  unfold St.callF at h
  unfold St.callV
  simp only [hc]
  generalize st.ev x = y at h ⊢
  split at h
  case h_2 => cases h
  case h_1 _ f caps =>
  generalize lk f C = y at h ⊢
  split at h
  case h_2 => cases h
  case h_1 _ ctr =>
  generalize ctr.pure dd ((st.argL c caps).map (SV.share st.hp)) = q at h ⊢
  obtain ⟨o1, r1, r2⟩ := q
  simp only at h
  split at h
  case isFalse => cases h
  simp only [Option.some.injEq, Prod.mk.injEq] at h
  obtain ⟨rfl, rfl⟩ := h
  obtain ⟨h0, h1, h2, h3, h4, h5, h6, h7⟩ := hob
  exact ⟨⟨h0, by rw [h1]⟩, h2, h3, h4, h5, h6, h7⟩

theorem St.callE_of_callV {dd : Nat} {C : List (FuncId × Ctr)} {o : Oper} {st : St} {res : SV} {K : St → Prop} (h : st.callV dd C o.op res) (hK : K (st.res o.dst res [])) : st.callD dd C o K := by
  unfold St.callV at h
  unfold St.callD
  split at h
  case h_2 => exact h.elim
  case h_1 _ c ho =>
  try rw [ho]
  try simp only
  split at h
  case h_2 => exact h.elim
  case h_1 _ x hc =>
  try rw [hc]
  try simp only
  split at h
  case h_2 => exact h.elim
  case h_1 _ f caps hf =>
  try rw [hf]
  try simp only
  split at h
  case h_2 => exact h.elim
  case h_1 _ ctr hctr =>
  try rw [hctr]
  obtain ⟨⟨h0, h1⟩, h2, h3, h4, h5, h6, _⟩ := h
  have hr : (ctr.pure dd ((st.argL c caps).map (SV.share st.hp))).2.1 = res := congrArg Prod.fst h1
  have hb : (ctr.pure dd ((st.argL c caps).map (SV.share st.hp))).2.2 = [] := congrArg Prod.snd h1
  generalize he : ctr.pure dd ((st.argL c caps).map (SV.share st.hp)) = q at h0 hr hb
  obtain ⟨o1, r1, r2⟩ := q
  simp only at hr hb h0
  subst hr hb
  have e : ∀ {α : Type} (f : Prop → SV → List (Nat × Ob) → Prop), f o1 r1 [] → (match ctr.pure dd ((st.argL c caps).map (SV.share st.hp)) with | (a, b, c) => f a b c) := fun f hf => by rw [he]; exact hf
  refine e (α := Nat) (fun ob res robs => ob ∧ (∀ y ∈ c.args.toList, (st.ev y).need) ∧ ((st.argL c caps).all fun y => (y.share st.hp).good) = true ∧ res.rok = true ∧ (res.owns2.all fun i => (robs.map (·.1)).contains i) = true ∧
            nodupN (robs.map (·.1)) = true ∧ ((robs.map (·.1)).all fun i => decide (i < 1000000)) = true ∧ (robs.all fun p => p.2.pb) = true ∧
            (((st.argL c caps).flatMap SV.owns) = [] ∨ (res.isV2 = true ∧ ∀ p ∈ robs, p.2.isV)) ∧ K (st.res o.dst res robs)) ?_
  exact ⟨h0, h2, h3, h4, by rw [h5]; rfl, rfl, rfl, by simp, h6.imp id fun hh => ⟨hh, by simp⟩, hK⟩

section
variable {P : Program} {tys : List (Nat × TyD)} {N : Nat} {X0 : Nat → Prop} {M : Nat → BV → Prop} {w0 : World} {st : St} {β : Nat → BV} {a : Act} {w : World}

def Bor (X : Nat → Prop) (β : Nat → BV) (ids : List Nat) (b : Nat) : Prop := X b ∧ ∀ id ∈ ids, ¬ (β id).ft b

theorem R.share1 (h : Sim N X0 M w0 st β a w) {x : SV} {v : Value} (hR : R w (XX X0 β st.hp) β x v) {ids : List Nat} (hi : ∀ id ∈ x.owns1, id ∈ ids) {y : SV} (hy : x.share1 st.hp = y) (hj : y ≠ .junk) (β' : Nat → BV) :
    R w (Bor (XX X0 β st.hp) β ids) β' y v := by
  have hS : Same (XX X0 β st.hp) w w := ⟨Nat.le_refl _, fun _ _ _ => rfl⟩
  cases x with
  | v x => simp only [SV.share1] at hy; subst hy; have := hR.v_inv; subst this; exact .p (.v _)
  | sl s rows => simp only [SV.share1] at hy; subst hy; exact .p (hR.sl_inv.mono hS (fun b _ hb => hb.1))
  | rptr s rows i k =>
    simp only [SV.share1] at hy; subst hy
    obtain ⟨b, off, cap, hr, rfl⟩ := hR.rptr_inv
    exact .rptr s rows i k b off cap (hr.mono hS (fun b _ hb => hb.1))
  | own id =>
    simp only [SV.share1] at hy
    have fin : ∀ {ob : Ob} {s : Nat} {rows : List (List SV)}, lk id st.hp = some ob → ob.rd = some (s, rows) → R w (Bor (XX X0 β st.hp) β ids) β' (.sl s rows) v := fun {ob s rows} hl ho => by
      have hv := hR.own_inv
      subst hv
      exact .p ((h.objs id _ hl).rd ho (fun b hb hx => hx.2 id (hi id (by simp [SV.owns1])) hb) (fun b hb => hb.1))
    split at hy
    · rename_i e s rows hl
      subst hy
      exact fin hl rfl
    · rename_i e s rows hl
      subst hy
      exact fin hl rfl
    · exact absurd hy.symm hj
  | ptr id s i k =>
    obtain ⟨b, hb, rfl⟩ := hR.ptr_inv
    have hid : id ∈ ids := hi id (by simp [SV.owns1])
    simp only [SV.share1] at hy
    split at hy
    · rename_i e s' rows hl
      split at hy
      · rename_i hs
        subst hs
        subst hy
        have hob := h.objs id _ hl
        generalize hβ : β id = bv at hob hb
        cases hob with
        | nil e s h0 => rw [h0] at hb; cases hb
        | sl b' cap cur us hv hh h1 h2 h3 h4 h5 h6 h7 =>
          rw [hv] at hb
          cases hb
          have := R.rptr (w := w) (X := Bor (XX X0 β st.hp) β ids) (β := β') s rows i k b' 0 cap (.sl b' 0 cap us (fun hx => hx.2 id hid (by rw [hβ, hv]; rfl)) (lt_of_heap hh) h1 h4 (fun i k row c hr hc => by
            simp only [World.cell?, hh, Nat.zero_add]
            exact h5 i k row c hr hc) h6 (fun i k row c hr hc => (h7 i k row c hr hc).mono hS (fun b _ hb => hb.1)))
          rw [Nat.zero_add] at this
          exact this
      · exact absurd hy.symm hj
    · rename_i e cs hl
      split at hy
      · rename_i hc
        obtain ⟨rfl, hpur⟩ := hc
        subst hy
        have hob := h.objs id _ hl
        generalize hβ : β id = bv at hob hb
        cases hob with
        | box b' cur hv hh hlen hcc =>
          rw [hv] at hb
          cases hb
          have key : ∀ (k : Nat) (c : SV), cs[k]? = some c → ∃ u, cur[k]? = some u ∧ (u.oneCell' = true ∧ Rp w (XX X0 β st.hp) c u) := fun k c hc => by
            have hlt : k < cur.size := by rw [← hlen]; exact (List.getElem?_eq_some_iff.1 hc).1
            have hu : cur[k]? = some cur[k] := Array.getElem?_eq_getElem hlt
            exact ⟨_, hu, ((hcc k c _ hc hu).2).pur (List.all_eq_true.1 hpur c (List.mem_of_getElem? hc))⟩
          have one : ∀ {i : Nat} {row : List SV}, [cs][i]? = some row → i = 0 ∧ row = cs := fun {i row} hr => by
            cases i with
            | zero => simp at hr; exact ⟨rfl, hr.symm⟩
            | succ i => simp at hr
          have := R.rptr (w := w) (X := Bor (XX X0 β st.hp) β ids) (β := β') cs.length [cs] 0 k b' 0 1 (.sl b' 0 1 (fun _ k => (cur[k]?).getD undef) (fun hx => hx.2 id hid (by rw [hβ, hv]; rfl)) (lt_of_heap hh) (by simp) (fun i row hr => by rw [(one hr).2])
            (fun i k row c hr hc => by
              obtain ⟨rfl, rfl⟩ := one hr
              obtain ⟨u, hu, _⟩ := key k c hc
              simp [World.cell?, hh, hu]) (fun i k row c hr hc => by
              obtain ⟨rfl, rfl⟩ := one hr
              obtain ⟨u, hu, h1, _⟩ := key k c hc
              simpa [hu] using h1) (fun i k row c hr hc => by
              obtain ⟨rfl, rfl⟩ := one hr
              obtain ⟨u, hu, _, h1⟩ := key k c hc
              simpa [hu] using h1.mono hS (fun b _ hb => hb.1)))
          simpa using this
      · exact absurd hy.symm hj
    · exact absurd hy.symm hj
  | _ => exact absurd hy.symm hj

theorem R.share (h : Sim N X0 M w0 st β a w) {x : SV} {v : Value} (hR : R w (XX X0 β st.hp) β x v) {ids : List Nat} (hi : ∀ id ∈ x.owns, id ∈ ids) (hg : (x.share st.hp).good = true) (β' : Nat → BV) : R w (Bor (XX X0 β st.hp) β ids) β' (x.share st.hp) v := by
  have nj : ∀ {c : SV}, c.good1 = true → c ≠ .junk := fun {c} hc e => by subst e; cases hc
  have nj2 : (x.share st.hp) ≠ .junk := fun e => by rw [e] at hg; cases hg
  cases x with
  | agg cs =>
    simp only [SV.share, SV.good] at hg ⊢
    obtain ⟨us, rfl, hl, hh⟩ := hR.agg_inv
    refine .agg (by simpa using hl) fun k c u hk hu => ?_
    have hgc := List.all_eq_true.1 hg c (List.mem_of_getElem? hk)
    obtain ⟨c0, h0, rfl⟩ := map_get hk
    refine R.share1 h (hh k c0 u h0 hu) (fun id hid => hi id ?_) rfl (nj hgc) β'
    simp only [SV.owns, List.mem_flatMap]
    exact ⟨c0, List.mem_of_getElem? h0, hid⟩
  | fn f cs =>
    simp only [SV.share, SV.good] at hg ⊢
    obtain ⟨us, rfl, hl, hh⟩ := hR.fn_inv
    refine .fn (by simpa using hl) fun k c u hk hu => ?_
    have hgc := List.all_eq_true.1 hg c (List.mem_of_getElem? hk)
    obtain ⟨c0, h0, rfl⟩ := map_get hk
    refine R.share1 h (hh k c0 u h0 hu) (fun id hid => hi id ?_) rfl (nj hgc) β'
    simp only [SV.owns, List.mem_flatMap]
    exact ⟨c0, List.mem_of_getElem? h0, hid⟩
  | v x => exact R.share1 h hR hi rfl nj2 β'
  | sl s rows => exact R.share1 h hR hi rfl nj2 β'
  | own id => exact R.share1 h hR hi rfl nj2 β'
  | ptr id s i k => exact R.share1 h hR hi rfl nj2 β'
  | rptr s rows i k => exact R.share1 h hR hi rfl nj2 β'
  | _ => cases hg

/-- a value with nothing shared in it does not mind which blocks are set apart -/
theorem R.isV {X X' : Nat → Prop} {x : SV} {v : Value} (hR : R w X β x v) (hx : x.isV = true) : R w X' β x v := by
  cases x with
  | v y => have := hR.v_inv; subst this; exact .p (.v _)
  | own id => have := hR.own_inv; subst this; exact .own id
  | _ => cases hx

theorem R.isV2 {X X' : Nat → Prop} {x : SV} {v : Value} (hR : R w X β x v) (hx : x.isV2 = true) : R w X' β x v := by
  have agg : ∀ {cs : List SV} {v : Value}, R w X β (.agg cs) v → cs.all SV.isV = true → R w X' β (.agg cs) v := fun {cs v} hR hx => by
    obtain ⟨us, rfl, hl, hh⟩ := hR.agg_inv
    exact .agg hl fun k c u hc hu => (hh k c u hc hu).isV (List.all_eq_true.1 hx c (List.mem_of_getElem? hc))
  cases x with
  | agg cs => exact agg hR hx
  | tup cs =>
    obtain ⟨us, rfl, hl, hh⟩ := hR.tup_inv
    refine .tup hl fun k c u hc hu => ?_
    have h1 := List.all_eq_true.1 hx c (List.mem_of_getElem? hc)
    cases c with
    | agg ds => exact agg (hh k _ u hc hu) h1
    | _ => exact (hh k _ u hc hu).isV h1
  | v y => exact hR.isV hx
  | own id => exact hR.isV hx
  | _ => cases hx

theorem ObR.isV {X X' : Nat → Prop} {v : BV} {ob : Ob} (h : ObR w X β v ob) (hx : ob.isV) : ObR w X' β v ob := by
  cases h with
  | nil e s h => exact .nil e s h
  | sl b cap cur us hv hh h1 h2 h3 h4 h5 h6 h7 =>
    refine .sl b cap cur us hv hh h1 h2 h3 h4 h5 h6 fun i k row c hr hc => ?_
    obtain ⟨x, rfl⟩ := hx row (List.mem_of_getElem? hr) c (List.mem_of_getElem? hc)
    have := h7 i k row _ hr hc
    cases this
    exact .v _
  | box b cur hv hh hl hc => exact .box b cur hv hh hl fun k c u h1 h2 => ⟨(hc k c u h1 h2).1, (hc k c u h1 h2).2.isV (List.all_eq_true.1 hx c (List.mem_of_getElem? h1))⟩
  | mp b clock ents hv hh he => exact .mp b clock ents hv hh he
  | dp hd he => exact .dp hd he
  | dq => exact hx.elim

theorem lk_mem {α : Type} {t : Nat} {x : α} : ∀ {l : List (Nat × α)}, lk t l = some x → (t, x) ∈ l
  | (u, y) :: l, h => by
    simp only [lk] at h
    by_cases ht : t = u
    · rw [if_pos ht] at h; cases h; subst ht; exact List.mem_cons_self
    · rw [if_neg ht] at h; exact List.mem_cons_of_mem _ (lk_mem h)
theorem lk_append {α : Type} (t : Nat) (l2 : List (Nat × α)) : ∀ (l : List (Nat × α)), lk t (l ++ l2) = (lk t l).or (lk t l2)
  | [] => rfl
  | (u, y) :: l => by
    simp only [List.cons_append, lk]
    by_cases ht : t = u
    · simp [ht]
    · simp [ht, lk_append t l2 l]
theorem lk_none {α : Type} {t : Nat} : ∀ {l : List (Nat × α)}, t ∉ l.map (·.1) → lk t l = none
  | [], _ => rfl
  | (u, y) :: l, h => by
    simp only [List.map_cons, List.mem_cons, not_or] at h
    simp only [lk, if_neg h.1]
    exact lk_none h.2
theorem lk_some_of_mem {α : Type} {t : Nat} : ∀ {l : List (Nat × α)}, t ∈ l.map (·.1) → ∃ x, lk t l = some x
  | (u, y) :: l, h => by
    simp only [lk]
    by_cases ht : t = u
    · exact ⟨y, by rw [if_pos ht]⟩
    · simp only [List.map_cons, List.mem_cons] at h
      rcases h with h | h
      · exact absurd h ht
      · obtain ⟨x, hx⟩ := lk_some_of_mem h
        exact ⟨x, by rw [if_neg ht]; exact hx⟩

def mix (ids : List Nat) (βr β : Nat → BV) (i : Nat) : BV := if i ∈ ids then βr i else β i

/-- several objects are no more; their numbers get new values -/
theorem Sim.killL (h : Sim N X0 M w0 st β a w) {βr : Nat → BV} (hr : ∀ i, (βr i).val.oneCell' = true) : ∀ ids : List Nat, (∀ i ∈ ids, i < 1000000) →
    Sim N X0 M w0 (st.killL ids) (mix ids βr β) a w
  | [], _ => by
    have e : mix [] βr β = β := by funext i; simp [mix]
    rw [e]; exact h
  | d :: l, hlo => by
    have h1 := Sim.killL h hr l (fun i hi => hlo i (List.mem_cons_of_mem _ hi))
    refine h1.kill d (hlo d List.mem_cons_self) (fun i hi => ?_) ?_ rfl rfl rfl (Nat.le_refl _) (fun _ _ _ => rfl) (fun b _ hb => .inl hb) h1.x0
    · simp [mix, hi]
    · simpa [mix] using hr d

theorem XX_killL {βr : Nat → BV} {ids : List Nat} {b : Nat} (hb : ∃ id ob, lk id (st.killL ids).hp = some ob ∧ (mix ids βr β id).ft b) : ∃ id ob, id ∉ ids ∧ lk id st.hp = some ob ∧ (β id).ft b := by
  obtain ⟨id, ob, hl, hb⟩ := hb
  have key : ∀ (ids : List Nat) (id : Nat) (ob : Ob), lk id (st.killL ids).hp = some ob → id ∉ ids ∧ ∃ o, lk id st.hp = some o := by
    intro ids
    induction ids with
    | nil => intro id ob h; exact ⟨by simp, ob, h⟩
    | cons d l ih =>
      intro id ob h
      simp only [St.killL, St.kill, lk_map] at h
      by_cases hd : id = d
      · subst hd; rw [lk_er_self] at h; cases h
      · rw [lk_er_ne hd] at h
        cases hy : lk id (st.killL l).hp with
        | none => rw [hy] at h; cases h
        | some y =>
          obtain ⟨h1, h2⟩ := ih id y hy
          exact ⟨by simp [hd, h1], h2⟩
  obtain ⟨h1, o, h2⟩ := key ids id ob hl
  simp only [mix, if_neg h1] at hb
  exact ⟨id, o, h1, h2, hb⟩

theorem R.beta1 {X : Nat → Prop} {β' : Nat → BV} {x : SV} {v : Value} (hR : R w X β x v) (hk : x.rok1 = true) (hb : ∀ id ∈ x.owns1, β' id = β id) : R w X β' x v := by
  cases x with
  | v y => have := hR.v_inv; subst this; exact .p (.v _)
  | sl s rows => exact .p hR.sl_inv
  | own id => have := hR.own_inv; subst this; rw [← hb id (by simp [SV.owns1])]; exact .own id
  | ptr id s i k => obtain ⟨b, hbb, rfl⟩ := hR.ptr_inv; exact .ptr id s i k b (by rw [hb id (by simp [SV.owns1])]; exact hbb)
  | _ => cases hk
theorem R.beta2 {X : Nat → Prop} {β' : Nat → BV} {x : SV} {v : Value} (hR : R w X β x v) (hk : x.rok2 = true) (hb : ∀ id ∈ x.owns, β' id = β id) : R w X β' x v := by
  cases x with
  | agg cs =>
    obtain ⟨us, rfl, hl, hh⟩ := hR.agg_inv
    refine .agg hl fun k c u hc hu => (hh k c u hc hu).beta1 (List.all_eq_true.1 hk c (List.mem_of_getElem? hc)) fun id hid => hb id ?_
    simp only [SV.owns, List.mem_flatMap]
    exact ⟨c, List.mem_of_getElem? hc, hid⟩
  | v y => exact hR.beta1 hk hb
  | sl s rows => exact hR.beta1 hk hb
  | own id => exact hR.beta1 hk hb
  | ptr id s i k => exact hR.beta1 hk hb
  | _ => cases hk
theorem R.beta {X : Nat → Prop} {β' : Nat → BV} {x : SV} {v : Value} (hR : R w X β x v) (hk : x.rok = true) (hb : ∀ id ∈ x.owns2, β' id = β id) : R w X β' x v := by
  cases x with
  | tup cs =>
    obtain ⟨us, rfl, hl, hh⟩ := hR.tup_inv
    refine .tup hl fun k c u hc hu => (hh k c u hc hu).beta2 (List.all_eq_true.1 hk c (List.mem_of_getElem? hc)) fun id hid => hb id ?_
    simp only [SV.owns2, List.mem_flatMap]
    exact ⟨c, List.mem_of_getElem? hc, hid⟩
  | agg cs => exact hR.beta2 hk hb
  | v y => exact hR.beta2 hk hb
  | sl s rows => exact hR.beta2 hk hb
  | own id => exact hR.beta2 hk hb
  | ptr id s i k => exact hR.beta2 hk hb
  | _ => cases hk

theorem ObR.sl_beta {X : Nat → Prop} {β' : Nat → BV} {v : BV} {e s : Nat} {rows : List (List SV)} (h : ObR w X β v (.sl e s rows)) : ObR w X β' v (.sl e s rows) := by
  cases h with
  | nil e s h => exact .nil e s h
  | sl b cap cur us hv hh h1 h2 h3 h4 h5 h6 h7 => exact .sl b cap cur us hv hh h1 h2 h3 h4 h5 h6 h7

theorem Sim.addL (h : Sim N X0 M w0 st β a w) : ∀ l : List (Nat × Ob), nodupN (l.map (·.1)) = true → (∀ id ob, lk id l = some ob → lk id st.hp = none ∧ ObR w (XX X0 β st.hp) β (β id) ob ∧
      (∀ b, (β id).ft b → X0 b ∧ (MB M b ∨ w0.heap.size ≤ b)) ∧ (∀ b j o, (β id).ft b → lk j st.hp = some o → ¬ (β j).ft b)) →
    (∀ i j oi oj b, lk i l = some oi → lk j l = some oj → (β i).ft b → (β j).ft b → i = j) → Sim N X0 M w0 { st with hp := l ++ st.hp } β a w
  | [], _, _, _ => h
  | (j, ob) :: l, hn, hl, hinj => by
    simp only [List.map_cons, nodupN, Bool.and_eq_true, Bool.not_eq_true'] at hn
    have hj : j ∉ l.map (·.1) := fun hm => by
      have := hn.1
      simp at this
      obtain ⟨p, hp, he⟩ := List.mem_map.1 hm
      exact this p.2 (by rw [← he]; exact hp)
    have up : ∀ {id o}, lk id l = some o → lk id ((j, ob) :: l) = some o := fun {id o} hh => by
      simp only [lk]
      rw [if_neg (fun e => by subst e; rw [lk_none hj] at hh; cases hh)]
      exact hh
    have h1 := Sim.addL h l hn.2 (fun id o hh => hl id o (up hh)) (fun i k oi ok b hi hk => hinj i k oi ok b (up hi) (up hk))
    obtain ⟨e1, e2, e3, e4⟩ := hl j ob (by simp [lk])
    have hS : Same (XX X0 β st.hp) w w := ⟨Nat.le_refl _, fun _ _ _ => rfl⟩
    have h2 := h1.add (j := j) (ob := ob) (by show lk j (l ++ st.hp) = none; rw [lk_append, lk_none hj, e1]; rfl) (e2.mono hS (fun b _ hb => by
        rcases hb with hb | ⟨id, o, hi, hb⟩
        · exact .inl hb
        · have hi' : lk id (l ++ st.hp) = some o := hi
          rw [lk_append] at hi'
          cases hq : lk id l with
          | some y => exact .inl ((hl id y (up hq)).2.2.1 b hb).1
          | none => rw [hq] at hi'; exact .inr ⟨id, o, hi', hb⟩) (fun _ _ => rfl)) (fun b hb => (e3 b hb).1) (fun b hb => (e3 b hb).2)
      (fun b id o hb hi => by
        have hi' : lk id (l ++ st.hp) = some o := hi
        rw [lk_append] at hi'
        cases hq : lk id l with
        | some y =>
          intro he
          have := hinj j id ob y b (by simp [lk]) (up hq) hb he
          subst this
          rw [lk_none hj] at hq; cases hq
        | none => rw [hq] at hi'; exact e4 b id o hb hi')
    exact h2

theorem run_call {f : FuncId} {us : List Value} {o : Oper} {c : Call} {x : Operand} (hcl : Callable P f) (ho : o.op = .call c) (hcal : c.callee = .value x) (hfv : a.eval x = .func (.func f) #[] us.toArray) (w : World) :
    (execOp a.eval o).run P w = .ok (.enter f ((c.args.toList.map a.eval ++ us).toArray)) w := by
  obtain ⟨fn, hfn, hname, hbody⟩ := hcl.ex
  have e1 : (c.args.toList.map a.eval ++ us).toArray = c.args.map a.eval ++ us.toArray := by
    apply Array.toList_inj.1; simp
  have hb : fn.body ≠ none := by intro hb; rw [hb] at hbody; cases hbody
  have hn : fn.name ≠ "runtime.NumGoroutine" := by simpa using hname
  rw [e1]
  simp [execOp, ho, resolve, hcal, hfv, Deferred.ofValue, invoke, callFunc, hfn, hn, hb]

theorem argL_ok (h : Sim N X0 M w0 st β a w) {c : Call} {caps : List SV} {us : List Value} (hneed : ∀ y ∈ c.args.toList, (st.ev y).need) (hul : caps.length = us.length) (hcap : ∀ (k : Nat) (c : SV) (u : Value), caps[k]? = some c → us[k]? = some u → R w (XX X0 β st.hp) β c u)
    (i : Nat) (q : SV) (u : Value) (hq : (st.argL c caps)[i]? = some q) (hu : (c.args.toList.map a.eval ++ us)[i]? = some u) : R w (XX X0 β st.hp) β q u := by
  unfold St.argL at hq
  rw [List.getElem?_append] at hq hu
  simp only [List.length_map] at hq hu
  split at hq
  · rename_i hi
    rw [if_pos hi] at hu
    rw [List.getElem?_map] at hq hu
    cases hy : c.args.toList[i]? with
    | none => rw [hy] at hq; cases hq
    | some y =>
      rw [hy] at hq hu
      simp only [Option.map_some, Option.some.injEq] at hq hu
      subst hu hq
      exact (St.ev_ok h y).strip (hneed y (List.mem_of_getElem? hy))
  · rename_i hi
    rw [if_neg hi] at hu
    exact hcap _ q u hq hu

theorem eff_call {C : List (FuncId × Ctr)} (hC : COk P C) (hA : Ap P X0 M w0) (h : Sim N X0 M w0 st β a w) {o : Oper} (hN : ∀ d, o.dst = some d → d < N) {K : St → Prop}
    {dd : Nat} (hw : st.callD dd C o K) {Q : Exit → Act → World → Prop} : o.wp P a w (Ok N X0 M w0 K) Q := by
  unfold St.callD at hw
  split at hw
  case h_2 => exact hw.elim
  case h_1 _ c ho =>
  split at hw
  case h_2 => exact hw.elim
  case h_1 _ x hcal =>
  split at hw
  case h_2 => exact hw.elim
  case h_1 _ f caps hf =>
  split at hw
  case h_2 => exact hw.elim
  case h_1 _ ctr hctr =>
  have hH := hC.holds f ctr hctr dd ((st.argL c caps).map (SV.share st.hp))
  generalize ctr.pure dd ((st.argL c caps).map (SV.share st.hp)) = q at hw hH
  obtain ⟨ob, res, robs⟩ := q
  obtain ⟨hc, hneed, hgood, hrok, hown, hnd, hlow, hsl, hbor, hK⟩ := hw
  obtain ⟨us, hfv, hul, hcap⟩ := (hf ▸ St.ev_ok h x : R w _ β (.fn f caps) (a.eval x)).fn_inv
  have hrun := run_call (hC.call f ctr hctr) ho hcal hfv w
  have hargs := argL_ok h hneed hul hcap
  have hargs2 : ∀ (i : Nat) (q : SV) (u : Value), ((st.argL c caps).map (SV.share st.hp))[i]? = some q → (c.args.toList.map a.eval ++ us)[i]? = some u →
      R w (Bor (XX X0 β st.hp) β ((st.argL c caps).flatMap SV.owns)) (fun _ => nilB) q u := fun i q u hq hu => by
    obtain ⟨y, hy, rfl⟩ := map_get hq
    have hmem := List.mem_of_getElem? hy
    exact R.share h (hargs i y u hy hu) (fun id hid => List.mem_flatMap.2 ⟨y, hmem, hid⟩) (List.all_eq_true.1 hgood y hmem) _
  have hcalls := hH hc w _ (c.args.toList.map a.eval ++ us) (hA.now h) (fun b hb => h.live hb.1) (by simp [St.argL, hul]) hargs2
  unfold Oper.wp
  rw [hrun, Oper.upon_enter]
  refine hcalls.mono fun e w' hp => ?_
  obtain ⟨v, βr, rfl, hb, hβr, hRv, ⟨hobs, hinj⟩, hnew⟩ := hp
  have hrb : ∀ {b}, (∃ id ob, lk id robs = some ob ∧ (βr id).ft b) → w.heap.size ≤ b ∧ b < w'.heap.size := by
    rintro b ⟨id, ob, hl, hbb⟩
    exact ⟨hnew id ob b hl hbb, (hobs id ob hl).lt hbb⟩
  have h1 : Sim N (fun b => X0 b ∨ ∃ id ob, lk id robs = some ob ∧ (βr id).ft b) M w0 st β a w' :=
    h.grow hb (fun b hlt hx => by
      rcases hx with hx | hx
      · exact .inl hx
      · exact absurd (hrb hx).1 (by omega)) (fun b hx => by
      rcases hx with hx | hx
      · exact Nat.lt_of_lt_of_le (h.x0 b hx) hb.size
      · exact (hrb hx).2)
  have h2 := h1.killL hβr (robs.map (·.1)) (fun i hi => by simpa using List.all_eq_true.1 hlow i hi)
  have hin : ∀ {id ob}, lk id robs = some ob → (mix (robs.map (·.1)) βr β) id = βr id := fun {id ob} hl => by
    have : id ∈ robs.map (·.1) := List.mem_map.2 ⟨(id, ob), lk_mem hl, rfl⟩
    simp only [mix, this, if_true]
  have hkl : ∀ {b}, XX (fun b => X0 b ∨ ∃ id ob, lk id robs = some ob ∧ (βr id).ft b) (mix (robs.map (·.1)) βr β) (st.killL (robs.map (·.1))).hp b →
      XX X0 β st.hp b ∨ ∃ id ob, lk id robs = some ob ∧ (βr id).ft b := fun {b} hx => by
    rcases hx with (hx | hx) | hx
    · exact .inl (.inl hx)
    · exact .inr hx
    · obtain ⟨id, ob, _, hl, hbb⟩ := XX_killL hx
      exact .inl (.inr ⟨id, ob, hl, hbb⟩)
  have hS : Same (XX (Bor (XX X0 β st.hp) β ((st.argL c caps).flatMap SV.owns)) βr robs) w' w' := ⟨Nat.le_refl _, fun _ _ _ => rfl⟩
  have hXr : ((st.argL c caps).flatMap SV.owns) = [] → ∀ b, (XX X0 β st.hp b ∨ ∃ id ob, lk id robs = some ob ∧ (βr id).ft b) →
      XX (Bor (XX X0 β st.hp) β ((st.argL c caps).flatMap SV.owns)) βr robs b := fun he b hx => by
    rcases hx with hx | hx
    · exact .inl ⟨hx, fun id hid => by rw [he] at hid; cases hid⟩
    · exact .inr hx
  have h3 := h2.addL robs hnd (fun id ob hl => by
      refine ⟨?_, ?_, fun b hbb => ?_, fun b j o' hbb hj hjb => ?_⟩
      · cases hq : lk id (st.killL (robs.map (·.1))).hp with
        | none => rfl
        | some y =>
          exfalso
          have key : ∀ (ids : List Nat) (id : Nat) (ob : Ob), lk id (st.killL ids).hp = some ob → id ∉ ids := by
            intro ids
            induction ids with
            | nil => intro id ob h; simp
            | cons d l ih =>
              intro id ob h
              simp only [St.killL, St.kill, lk_map] at h
              by_cases hd : id = d
              · subst hd; rw [lk_er_self] at h; cases h
              · rw [lk_er_ne hd] at h
                cases hy : lk id (st.killL l).hp with
                | none => rw [hy] at h; cases h
                | some y => simp [hd, ih id y hy]
          exact key _ id y hq (List.mem_map.2 ⟨(id, ob), lk_mem hl, rfl⟩)
      · rw [hin hl]
        have hpb : ob.pb = true := List.all_eq_true.1 hsl (id, ob) (lk_mem hl)
        have hO := hobs id _ hl
        rcases hbor with he | ⟨_, hv⟩
        · exact (hO.pb_beta hpb).mono hS (fun b _ hx => hXr he b (hkl hx)) (fun _ _ => rfl)
        · exact (hO.pb_beta hpb).isV (hv (id, _) (lk_mem hl))
      · rw [hin hl] at hbb
        exact ⟨.inr ⟨id, ob, hl, hbb⟩, .inr (Nat.le_trans h.grew (hrb ⟨id, ob, hl, hbb⟩).1)⟩
      · rw [hin hl] at hbb
        obtain ⟨id2, o2, _, hl2, hb2⟩ := XX_killL ⟨j, o', hj, hjb⟩
        have := (h.objs id2 o2 hl2).lt hb2
        have := (hrb ⟨id, ob, hl, hbb⟩).1
        omega) (fun i j oi oj b hi hj hbi hbj => by
      rw [hin hi] at hbi
      rw [hin hj] at hbj
      exact hinj i j oi oj b hi hj hbi hbj)
  have h4 := h3.un (X1 := X0) (fun b hx => .inl hx)
  have hRf : R w' (XX X0 (mix (robs.map (·.1)) βr β) (robs ++ (st.killL (robs.map (·.1))).hp)) (mix (robs.map (·.1)) βr β) res v := by
    have hR1 : R w' (XX X0 (mix (robs.map (·.1)) βr β) (robs ++ (st.killL (robs.map (·.1))).hp)) βr res v := by
      rcases hbor with he | ⟨hv, _⟩
      · refine hRv.mono hS fun b _ hx => hXr he b ?_
        rcases hx with hx | ⟨id, o', hi, hbb⟩
        · exact .inl (.inl hx)
        · rw [lk_append] at hi
          cases hq : lk id robs with
          | some y => rw [hin hq] at hbb; exact .inr ⟨id, y, hq, hbb⟩
          | none => rw [hq] at hi; exact hkl (.inr ⟨id, o', hi, hbb⟩)
      · exact hRv.isV2 hv
    refine hR1.beta hrok fun id hid => ?_
    have := List.all_eq_true.1 hown id hid
    have hm : id ∈ robs.map (·.1) := by simpa using this
    simp only [mix, hm, if_true]
  cases hd : o.dst with
  | none => exact ⟨_, _, hK, by rw [hd]; exact h4⟩
  | some d => exact ⟨_, _, hK, by rw [hd]; exact h4.put (hN d hd) hRf⟩

end
end Go.Vc

/-
  DERIVED. Calls that write into what they are lent, and calls that are given objects.
-/
namespace Go.Vc
set_option linter.unusedVariables false
set_option linter.unusedSimpArgs false

/-- other numbers for the objects; what has none is not told -/
def SV.ren1 (ρ : List (Nat × Nat)) : SV → SV
  | .own k => match lk k ρ with
    | some j => .own j
    | none => .junk
  | .ptr k s a b => match lk k ρ with
    | some j => .ptr j s a b
    | none => .junk
  | .agg _ => .junk
  | .tup _ => .junk
  | .fn _ _ => .junk
  | .cond _ _ => .junk
  | x => x
def pairs (b : Nat) : List Nat → List (Nat × Nat)
  | [] => []
  | i :: l => (i, b) :: pairs (b + 1) l
def swapL (ρ : List (Nat × Nat)) : List (Nat × Nat) := ρ.map fun p => (p.2, p.1)
def St.lent1 (st : St) : SV → List Nat
  | .own id => [id]
  | .ptr id _ _ _ => id :: (match lk id st.hp with
    | some (.box _ cs) => cs.flatMap SV.owns1
    | _ => [])
  | _ => []
def St.lentV (st : St) : SV → List Nat
  | .agg cs => cs.flatMap st.lent1
  | x => st.lent1 x
def nthS (A : List SV) (i : Nat) : SV := (A[i]?).getD .junk
def lentBy (st : St) (A : List SV) (is : List Nat) : List Nat := is.flatMap fun i => st.lentV (nthS A i)
/-- the arguments as the callee sees them: those of 'is' lent, the others shared -/
def argsR (hp : List (Nat × Ob)) (ρ : List (Nat × Nat)) (is : List Nat) : Nat → List SV → List SV
  | _, [] => []
  | k, y :: l => (if is.contains k then y.up (SV.ren1 ρ) else y.share hp) :: argsR hp ρ is (k + 1) l
def restOf (is : List Nat) : Nat → List SV → List SV
  | _, [] => []
  | k, y :: l => if is.contains k then restOf is (k + 1) l else y :: restOf is (k + 1) l
def obsR (hp : List (Nat × Ob)) (ρ : List (Nat × Nat)) : List (Nat × Ob) := ρ.map fun p => (p.2, ((lk p.1 hp).getD (.sl 0 0 [])).up (SV.ren1 ρ))
def erL {α : Type} (ids : List Nat) (l : List (Nat × α)) : List (Nat × α) := match ids with
  | [] => l
  | i :: is => er i (erL is l)
def backL (ρl : List (Nat × Nat)) (robs : List (Nat × Ob)) : List (Nat × Nat) := robs.map (fun q => (q.1, q.1)) ++ swapL ρl
def unObs (τ : List (Nat × Nat)) (obs : List (Nat × Ob)) : List (Nat × Ob) := obs.map fun p => ((lk p.1 τ).getD p.1, p.2.up (SV.ren1 τ))
def St.resL (st : St) (ρl : List (Nat × Nat)) (moved : List Nat) (d : Option Nat) (res : SV) (robs kept : List (Nat × Ob)) : St :=
  St.put { fr := (st.killL (moved ++ robs.map (·.1))).fr, hp := unObs (backL ρl robs) (robs ++ kept) ++ erL ((unObs (backL ρl robs) (robs ++ kept)).map (·.1)) (st.killL (moved ++ robs.map (·.1))).hp } d (res.up (SV.ren1 (backL ρl robs)))

/-- a call that is lent or given objects -/
def St.callL (dd : Nat) (C : List (FuncId × Ctr)) (o : Oper) (st : St) (K : St → Prop) : Prop :=
  match o.op with
  | .call c => match c.callee with
    | .value x => match st.ev x with
      | .fn f caps => match lk f C with
        | some ctr => match st.argL c caps, lentBy st (st.argL c caps) ctr.lend, lentBy st (st.argL c caps) ctr.move with
          | A, Ll, Lm => match pairs 1000000 Ll ++ pairs 900000 Lm with
            | ρ => match ctr.wri dd (argsR st.hp ρ (ctr.lend ++ ctr.move) 0 A) (obsR st.hp ρ) with
              | (ob, res, robs, kept) => ob ∧ (∀ y ∈ c.args.toList, (st.ev y).need) ∧ ((restOf (ctr.lend ++ ctr.move) 0 A).all fun y => (y.share st.hp).good) = true ∧
                nodupN (Ll ++ Lm) = true ∧ ((Ll ++ Lm).all fun i => (lk i st.hp).isSome) = true ∧ (((restOf (ctr.lend ++ ctr.move) 0 A).flatMap SV.owns).all fun i => !(Ll ++ Lm).contains i && (lk i st.hp).isSome) = true ∧ Lm.length ≤ 100000 ∧
                (Lm.all fun i => decide (i < 1000000)) = true ∧ ((robs.map (·.1)).all fun i => decide (i < 900000) && !Ll.contains i) = true ∧ nodupN (robs.map (·.1)) = true ∧ (kept.map (·.1) = (pairs 1000000 Ll).map (·.2)) ∧
                (((restOf (ctr.lend ++ ctr.move) 0 A).flatMap SV.owns) = [] ∨ (res.isV2 = true ∧ ∀ p ∈ robs ++ kept, p.2.isV)) ∧
                K (st.resL (pairs 1000000 Ll) Lm o.dst res robs kept)
        | none => False
      | _ => False
    | _ => False
  | _ => False

section
variable {P : Program} {tys : List (Nat × TyD)} {N : Nat} {X0 : Nat → Prop} {M : Nat → BV → Prop} {w0 : World} {st : St} {β : Nat → BV} {a : Act} {w : World}

theorem R.ren1 {X : Nat → Prop} {β' : Nat → BV} {ρ : List (Nat × Nat)} (hβ : ∀ i j, lk i ρ = some j → β' j = β i) {x : SV} {v : Value} (h : R w X β x v) : R w X β' (x.ren1 ρ) v := by
  cases x with
  | own k =>
    have := h.own_inv; subst this
    show R w X β' (match lk k ρ with | some j => SV.own j | none => .junk) _
    cases hk : lk k ρ with
    | none => exact .junk _
    | some j => simp only; rw [← hβ k j hk]; exact .own j
  | ptr k s a b =>
    obtain ⟨bb, hb, rfl⟩ := h.ptr_inv
    show R w X β' (match lk k ρ with | some j => SV.ptr j s a b | none => .junk) _
    cases hk : lk k ρ with
    | none => exact .junk _
    | some j => exact .ptr j s a b bb (by rw [hβ k j hk]; exact hb)
  | v x => have := h.v_inv; subst this; exact .p (.v _)
  | sl s rows => exact .p h.sl_inv
  | rptr s rows i k => obtain ⟨b, off, cap, hr, rfl⟩ := h.rptr_inv; exact .rptr s rows i k b off cap hr
  | agg cs => exact .junk _
  | tup cs => exact .junk _
  | fn f cs => exact .junk _
  | cond g x => exact .junk _
  | junk => exact .junk _

theorem pairs_lk : ∀ {L : List Nat} {b i j : Nat}, lk i (pairs b L) = some j → i ∈ L ∧ b ≤ j ∧ j < b + L.length
  | k :: L, b, i, j, h => by
    simp only [pairs, lk] at h
    by_cases hi : i = k
    · rw [if_pos hi] at h; cases h; simp [hi]
    · rw [if_neg hi] at h
      obtain ⟨h1, h2, h3⟩ := pairs_lk h
      simp only [List.mem_cons, List.length_cons]
      exact ⟨.inr h1, by omega, by omega⟩
theorem pairs_mem : ∀ {L : List Nat} {b i : Nat}, i ∈ L → ∃ j, lk i (pairs b L) = some j
  | k :: L, b, i, h => by
    simp only [pairs, lk]
    by_cases hi : i = k
    · exact ⟨b, by rw [if_pos hi]⟩
    · rw [if_neg hi]
      exact pairs_mem (by simpa [hi] using h)
theorem pairs_keys : ∀ (L : List Nat) (b : Nat), (pairs b L).map (·.1) = L
  | [], _ => rfl
  | k :: L, b => by simp [pairs, pairs_keys L (b + 1)]
theorem pairs_vals : ∀ {L : List Nat} {b j : Nat}, j ∈ (pairs b L).map (·.2) → b ≤ j ∧ j < b + L.length
  | k :: L, b, j, h => by
    simp only [pairs, List.map_cons, List.mem_cons] at h
    rcases h with rfl | h
    · simp
    · have := pairs_vals h
      simp only [List.length_cons]; omega
theorem pairs_nodup : ∀ (L : List Nat) (b : Nat), ((pairs b L).map (·.2)).Nodup
  | [], _ => by simp [pairs]
  | k :: L, b => by
    simp only [pairs, List.map_cons, List.nodup_cons]
    exact ⟨fun h => by have := pairs_vals h; omega, pairs_nodup L (b + 1)⟩

theorem nodupN_iff : ∀ {L : List Nat}, nodupN L = true ↔ L.Nodup
  | [] => by simp [nodupN]
  | d :: l => by simp [nodupN, List.nodup_cons, nodupN_iff (L := l)]

theorem lk_mem_nodup {α : Type} {t : Nat} {x : α} : ∀ {l : List (Nat × α)}, (l.map (·.1)).Nodup → (t, x) ∈ l → lk t l = some x
  | (u, y) :: l, hn, h => by
    simp only [List.map_cons, List.nodup_cons] at hn
    simp only [lk]
    rcases List.mem_cons.1 h with e | h
    · cases e; rw [if_pos rfl]
    · have : t ≠ u := fun e => hn.1 (by rw [← e]; exact List.mem_map.2 ⟨(t, x), h, rfl⟩)
      rw [if_neg this]; exact lk_mem_nodup hn.2 h

/-- how the lent objects are called on either side -/
structure Ren (ρ : List (Nat × Nat)) (L : List Nat) : Prop where
  keys : ρ.map (·.1) = L
  nd : L.Nodup
  vals : (ρ.map (·.2)).Nodup
theorem Ren.of {Ll Lm : List Nat} (h : (Ll ++ Lm).Nodup) (hm : Lm.length ≤ 100000) : Ren (pairs 1000000 Ll ++ pairs 900000 Lm) (Ll ++ Lm) where
  keys := by rw [List.map_append, pairs_keys, pairs_keys]
  nd := h
  vals := by
    rw [List.map_append, List.nodup_append]
    exact ⟨pairs_nodup _ _, pairs_nodup _ _, fun x hx y hy e => by have := pairs_vals hx; have := pairs_vals hy; omega⟩
theorem Ren.swap {ρ : List (Nat × Nat)} {L : List Nat} (h : Ren ρ L) {i j : Nat} : lk i ρ = some j ↔ lk j (swapL ρ) = some i := by
  have e1 : (swapL ρ).map (·.1) = ρ.map (·.2) := by simp [swapL, List.map_map, Function.comp_def]
  constructor
  · intro hh
    refine lk_mem_nodup (by rw [e1]; exact h.vals) ?_
    exact List.mem_map.2 ⟨(i, j), lk_mem hh, rfl⟩
  · intro hh
    have hm := lk_mem hh
    obtain ⟨p, hp, e⟩ := List.mem_map.1 hm
    cases e
    exact lk_mem_nodup (by rw [h.keys]; exact h.nd) hp

theorem lk_obsR {hp : List (Nat × Ob)} {ρ0 : List (Nat × Nat)} : ∀ {ρ : List (Nat × Nat)} {k : Nat} {ob : Ob}, lk k (ρ.map fun p => (p.2, ((lk p.1 hp).getD (.sl 0 0 [])).up (SV.ren1 ρ0))) = some ob →
    ∃ i, lk k (swapL ρ) = some i ∧ ob = ((lk i hp).getD (.sl 0 0 [])).up (SV.ren1 ρ0)
  | (i, j) :: ρ, k, ob, h => by
    simp only [List.map_cons, lk] at h
    by_cases hk : k = j
    · rw [if_pos hk] at h; cases h; exact ⟨i, by simp [swapL, lk, hk], rfl⟩
    · rw [if_neg hk] at h
      obtain ⟨i', h1, h2⟩ := lk_obsR h
      exact ⟨i', by simp only [swapL, List.map_cons, lk, if_neg hk]; exact h1, h2⟩
theorem lk_obsR' {hp : List (Nat × Ob)} {ρ0 : List (Nat × Nat)} : ∀ {ρ : List (Nat × Nat)} {k i : Nat}, lk k (swapL ρ) = some i →
    lk k (ρ.map fun p => (p.2, ((lk p.1 hp).getD (.sl 0 0 [])).up (SV.ren1 ρ0))) = some (((lk i hp).getD (.sl 0 0 [])).up (SV.ren1 ρ0))
  | (i0, j0) :: ρ, k, i, h => by
    simp only [swapL, List.map_cons, lk] at h ⊢
    by_cases hk : k = j0
    · rw [if_pos hk] at h ⊢; cases h; rfl
    · rw [if_neg hk] at h ⊢; exact lk_obsR' h

theorem argsR_get {hp : List (Nat × Ob)} {ρ : List (Nat × Nat)} {is : List Nat} : ∀ {A : List SV} {k i : Nat} {q : SV}, (argsR hp ρ is k A)[i]? = some q →
    ∃ y, A[i]? = some y ∧ ((is.contains (k + i) = true ∧ q = y.up (SV.ren1 ρ)) ∨ (is.contains (k + i) = false ∧ q = y.share hp ∧ y ∈ restOf is k A))
  | y :: A, k, 0, q, h => by
    simp only [argsR, List.getElem?_cons_zero, Option.some.injEq] at h
    refine ⟨y, rfl, ?_⟩
    by_cases hc : is.contains k = true
    · rw [if_pos hc] at h; exact .inl ⟨by simpa using hc, h.symm⟩
    · rw [if_neg hc] at h; exact .inr ⟨by simpa using hc, h.symm, by simp only [restOf]; rw [if_neg hc]; exact List.mem_cons_self⟩
  | y :: A, k, i + 1, q, h => by
    simp only [argsR, List.getElem?_cons_succ] at h
    obtain ⟨y', h1, h2⟩ := argsR_get h
    refine ⟨y', by simpa using h1, ?_⟩
    have e : k + 1 + i = k + (i + 1) := by omega
    rw [e] at h2
    rcases h2 with h2 | ⟨h2, h3, h4⟩
    · exact .inl h2
    · refine .inr ⟨h2, h3, ?_⟩
      simp only [restOf]
      split
      · exact h4
      · exact List.mem_cons_of_mem _ h4
theorem argsR_len {hp : List (Nat × Ob)} {ρ : List (Nat × Nat)} {is : List Nat} : ∀ {A : List SV} {k : Nat}, (argsR hp ρ is k A).length = A.length
  | [], _ => rfl
  | y :: A, k => by simp [argsR, argsR_len (A := A)]

theorem lk_erL {α : Type} {t : Nat} : ∀ {ids : List Nat} {l : List (Nat × α)} {x : α}, lk t (erL ids l) = some x → t ∉ ids ∧ lk t l = some x
  | [], l, x, h => ⟨by simp, h⟩
  | i :: is, l, x, h => by
    simp only [erL] at h
    have hti : t ≠ i := fun e => by subst e; rw [lk_er_self] at h; cases h
    rw [lk_er_ne hti] at h
    obtain ⟨h1, h2⟩ := lk_erL h
    exact ⟨by simp [hti, h1], h2⟩
theorem lk_killL {id : Nat} {ob : Ob} : ∀ {ids : List Nat}, lk id (st.killL ids).hp = some ob → id ∉ ids ∧ ∃ o, lk id st.hp = some o
  | [], h => ⟨by simp, ob, h⟩
  | d :: l, h => by
    simp only [St.killL, St.kill, lk_map] at h
    by_cases hd : id = d
    · subst hd; rw [lk_er_self] at h; cases h
    · rw [lk_er_ne hd] at h
      cases hy : lk id (st.killL l).hp with
      | none => rw [hy] at h; cases h
      | some y =>
        obtain ⟨h1, h2⟩ := lk_killL hy
        exact ⟨by simp [hd, h1], h2⟩

theorem lk_unObs {τ : List (Nat × Nat)} : ∀ {l : List (Nat × Ob)} {t : Nat} {ob : Ob}, lk t (l.map fun p => ((lk p.1 τ).getD p.1, p.2.up (SV.ren1 τ))) = some ob →
    ∃ k o, (k, o) ∈ l ∧ t = (lk k τ).getD k ∧ ob = o.up (SV.ren1 τ)
  | (k, o) :: l, t, ob, h => by
    simp only [List.map_cons, lk] at h
    by_cases ht : t = (lk k τ).getD k
    · rw [if_pos ht] at h; cases h; exact ⟨k, o, List.mem_cons_self, ht, rfl⟩
    · rw [if_neg ht] at h
      obtain ⟨k', o', h1, h2, h3⟩ := lk_unObs h
      exact ⟨k', o', List.mem_cons_of_mem _ h1, h2, h3⟩

theorem killL_fr {β2 : Nat → BV} {t : Nat} : ∀ {ids : List Nat} {β : Nat → BV} {x : SV}, (∀ i, i ∉ ids → (β2 i).val = (β i).val) → lk t (st.killL ids).fr = some x → ∃ y, lk t st.fr = some y ∧ ∀ (w : World) (X : Nat → Prop) (v : Value), R w X β y v → R w X β2 x v
  | [], β, x, hβ, h => ⟨x, h, fun w X v hR => hR.val_eq fun i => hβ i (by simp)⟩
  | d :: l, β, x, hβ, h => by
    simp only [St.killL, St.kill, lk_map] at h
    cases hy : lk t (st.killL l).fr with
    | none => rw [hy] at h; cases h
    | some x' =>
      rw [hy] at h
      have hx : x'.kill d = x := by simpa using h
      obtain ⟨y, h1, h2⟩ := killL_fr (β2 := fun i => if i ∈ l then β2 i else β i) (β := β) (fun i hi => by simp [hi]) hy
      refine ⟨y, h1, fun w X v hR => ?_⟩
      rw [← hx]
      refine (h2 w X v hR).kill fun i hi => ?_
      by_cases hl : i ∈ l
      · simp [hl]
      · simp only [hl, if_false]; exact hβ i (by simp [hi, hl])
theorem killL_hp {β2 : Nat → BV} {t : Nat} : ∀ {ids : List Nat} {β : Nat → BV} {o : Ob}, (∀ i, i ∉ ids → (β2 i).val = (β i).val) → lk t (st.killL ids).hp = some o → t ∉ ids ∧ ∃ o0, lk t st.hp = some o0 ∧ ∀ (w : World) (X : Nat → Prop) (v : BV), ObR w X β v o0 → ObR w X β2 v o
  | [], β, o, hβ, h => ⟨by simp, o, h, fun w X v hR => hR.val_eq fun i => hβ i (by simp)⟩
  | d :: l, β, o, hβ, h => by
    simp only [St.killL, St.kill, lk_map] at h
    by_cases hd : t = d
    · subst hd; rw [lk_er_self] at h; cases h
    · rw [lk_er_ne hd] at h
      cases hy : lk t (st.killL l).hp with
      | none => rw [hy] at h; cases h
      | some o' =>
        rw [hy] at h
        have hx : o'.kill d = o := by simpa using h
        obtain ⟨h0, o0, h1, h2⟩ := killL_hp (β2 := fun i => if i ∈ l then β2 i else β i) (β := β) (fun i hi => by simp [hi]) hy
        refine ⟨by simp [hd, h0], o0, h1, fun w X v hR => ?_⟩
        rw [← hx]
        refine (h2 w X v hR).kill fun i hi => ?_
        by_cases hl : i ∈ l
        · simp [hl]
        · simp only [hl, if_false]; exact hβ i (by simp [hi, hl])

theorem eff_callL {C : List (FuncId × Ctr)} (hC : COk P C) (hA : Ap P X0 M w0) (h : Sim N X0 M w0 st β a w) {o : Oper} (hN : ∀ d, o.dst = some d → d < N) {K : St → Prop} {dd : Nat}
    (hw : st.callL dd C o K) {Q : Exit → Act → World → Prop} : o.wp P a w (Ok N X0 M w0 K) Q := by
  unfold St.callL at hw
  split at hw
  case h_2 => exact hw.elim
  case h_1 _ c ho =>
  split at hw
  case h_2 => exact hw.elim
  case h_1 _ x hcal =>
  split at hw
  case h_2 => exact hw.elim
  case h_1 _ f caps hf =>
  split at hw
  case h_2 => exact hw.elim
  case h_1 _ ctr hctr =>
  have hH := hC.holdsL f ctr hctr dd (argsR st.hp (pairs 1000000 (lentBy st (st.argL c caps) ctr.lend) ++ pairs 900000 (lentBy st (st.argL c caps) ctr.move)) (ctr.lend ++ ctr.move) 0 (st.argL c caps))
    (obsR st.hp (pairs 1000000 (lentBy st (st.argL c caps) ctr.lend) ++ pairs 900000 (lentBy st (st.argL c caps) ctr.move)))
  generalize ctr.wri = W at hw hH
  simp only at hw
  obtain ⟨us, hfv, hul, hcap⟩ := (hf ▸ St.ev_ok h x : R w _ β (.fn f caps) (a.eval x)).fn_inv
  have hrun := run_call (hC.call f ctr hctr) ho hcal hfv w
  have hneed0 : (∀ y ∈ c.args.toList, (st.ev y).need) := by
    have hw2 := hw
    generalize W dd _ _ = q at hw2
    obtain ⟨q1, q2, q3, q4⟩ := q
    exact hw2.2.1
  have hargs := argL_ok h hneed0 hul hcap
  have hAlen : (st.argL c caps).length = (c.args.toList.map a.eval ++ us).length := by simp [St.argL, hul]
  generalize st.argL c caps = A at hw hH hargs hAlen
  generalize lentBy st A ctr.lend = Ll at hw hH
  generalize lentBy st A ctr.move = Lm at hw hH
  generalize ctr.lend ++ ctr.move = is at hw hH
  generalize hρ : pairs 1000000 Ll ++ pairs 900000 Lm = ρ at hw hH
  generalize W dd (argsR st.hp ρ is 0 A) (obsR st.hp ρ) = q at hw hH
  obtain ⟨ob, res, robs, kept⟩ := q
  simp only at hw hH
  obtain ⟨hc, hneed, hgood, hnd, hlive, hdis, hmlen, hmlow, hrlow, hrnd, hkeys, hbor, hK⟩ := hw
  generalize hsh : (restOf is 0 A).flatMap SV.owns = sh at hdis hbor
  have hRen : Ren ρ (Ll ++ Lm) := hρ ▸ Ren.of (nodupN_iff.1 hnd) hmlen
  have hLhp : ∀ i, i ∈ Ll ++ Lm → ∃ o, lk i st.hp = some o := fun i hi => Option.isSome_iff_exists.1 (List.all_eq_true.1 hlive i hi)
  have hρL : ∀ {i j}, lk i ρ = some j → i ∈ Ll ++ Lm := fun {i j} hh => by rw [← hRen.keys]; exact List.mem_map.2 ⟨(i, j), lk_mem hh, rfl⟩
  -- the callee's numbers
  let βh : Nat → BV := fun k => match lk k (swapL ρ) with
    | some i => β i
    | none => nilB
  have hβh1 : ∀ {k i}, lk k (swapL ρ) = some i → βh k = β i := fun {k i} hh => by show (match lk k (swapL ρ) with | some i => β i | none => _) = _; rw [hh]
  have hβh : ∀ i j, lk i ρ = some j → βh j = β i := fun i j hh => hβh1 (hRen.swap.1 hh)
  have hβone : ∀ i, (βh i).val.oneCell' = true := fun i => by
    show (match lk i (swapL ρ) with | some i => β i | none => nilB).val.oneCell' = true
    cases lk i (swapL ρ) with
    | none => rfl
    | some j => exact h.beta j
  have hobs0 : ∀ {k ob}, lk k (obsR st.hp ρ) = some ob → ∃ i o, lk k (swapL ρ) = some i ∧ lk i ρ = some k ∧ i ∈ Ll ++ Lm ∧ lk i st.hp = some o ∧ ob = o.up (SV.ren1 ρ) ∧ βh k = β i := fun {k ob} hh => by
    obtain ⟨i, h1, h2⟩ := lk_obsR hh
    have h3 := hRen.swap.2 h1
    obtain ⟨o, h4⟩ := hLhp i (hρL h3)
    exact ⟨i, o, h1, h3, hρL h3, h4, by rw [h2, h4]; rfl, hβh1 h1⟩
  have hobs1 : ∀ {i}, i ∈ Ll ++ Lm → ∃ k ob, lk i ρ = some k ∧ lk k (swapL ρ) = some i ∧ lk k (obsR st.hp ρ) = some ob ∧ βh k = β i := fun {i} hi => by
    obtain ⟨k, hk⟩ : ∃ k, lk i ρ = some k := lk_some_of_mem (by rw [hRen.keys]; exact hi)
    exact ⟨k, _, hk, hRen.swap.1 hk, lk_obsR' (hRen.swap.1 hk), hβh i k hk⟩
  let Xh : Nat → Prop := fun b => XX X0 β st.hp b ∧ (∀ id ∈ sh, ¬ (β id).ft b) ∧ ∀ id ∈ Ll ++ Lm, ¬ (β id).ft b
  have hXsub : ∀ b, XX Xh βh (obsR st.hp ρ) b → XX X0 β st.hp b ∧ ∀ id ∈ sh, ¬ (β id).ft b := fun b hb => by
    rcases hb with hb | ⟨k, ob, hk, hb⟩
    · exact ⟨hb.1, hb.2.1⟩
    · obtain ⟨i, o, _, _, hiL, hi, _, e⟩ := hobs0 hk
      rw [e] at hb
      refine ⟨.inr ⟨i, o, hi, hb⟩, fun id hid he => ?_⟩
      have := List.all_eq_true.1 hdis id hid
      simp only [Bool.and_eq_true, Bool.not_eq_true', Option.isSome_iff_exists] at this
      obtain ⟨h1, o2, h2⟩ := this
      have := h.inj id i o2 o b h2 hi he hb
      subst this
      simp at h1
      simp at hiL
      rcases hiL with e | e
      · exact h1.1 e
      · exact h1.2 e
  have hS : Same (XX X0 β st.hp) w w := ⟨Nat.le_refl _, fun _ _ _ => rfl⟩
  have hSb : Same (Bor (XX X0 β st.hp) β sh) w w := ⟨Nat.le_refl _, fun _ _ _ => rfl⟩
  have hargs2 : ∀ (i : Nat) (q : SV) (u : Value), (argsR st.hp ρ is 0 A)[i]? = some q → (c.args.toList.map a.eval ++ us)[i]? = some u → R w (XX Xh βh (obsR st.hp ρ)) βh q u := fun i q u hq hu => by
    obtain ⟨y, hy, hcase⟩ := argsR_get hq
    rcases hcase with ⟨_, rfl⟩ | ⟨_, rfl, hmem⟩
    · exact ((hargs i y u hy hu).mono hS (fun b _ hb => (hXsub b hb).1)).up fun x v hh => hh.ren1 hβh
    · have h1 := R.share h (hargs i y u hy hu) (ids := sh) (fun id hid => by rw [← hsh]; exact List.mem_flatMap.2 ⟨y, hmem, hid⟩) (List.all_eq_true.1 hgood y hmem) βh
      exact h1.mono hSb (fun b _ hb => ⟨(hXsub b hb).1, (hXsub b hb).2⟩)
  have hObs : Obs w Xh βh (obsR st.hp ρ) := by
    refine ⟨fun k ob hk => ?_, fun k1 k2 o1 o2 b hk1 hk2 hb1 hb2 => ?_⟩
    · obtain ⟨i, o, _, _, _, hi, rfl, e⟩ := hobs0 hk
      rw [e]
      exact ((h.objs i o hi).mono hS (fun b _ hb => (hXsub b hb).1) (fun _ _ => rfl)).up (fun x v hh => hh.ren1 hβh) (fun _ _ hh => hh)
    · obtain ⟨i1, p1, s1, r1, _, q1, _, e1⟩ := hobs0 hk1
      obtain ⟨i2, p2, s2, r2, _, q2, _, e2⟩ := hobs0 hk2
      rw [e1] at hb1
      rw [e2] at hb2
      have := h.inj i1 i2 p1 p2 b q1 q2 hb1 hb2
      subst this
      rw [r1] at r2
      cases r2; rfl
  have hcalls := hH hc w Xh βh (c.args.toList.map a.eval ++ us) (hA.now h) hβone (fun b hb => h.live hb.1) (by rw [argsR_len]; exact hAlen.symm) hargs2 hObs (fun k ob b hk hb => by
    obtain ⟨i, o, _, _, hiL, hi, _, e⟩ := hobs0 hk
    rw [e] at hb
    exact ⟨fun hx => hx.2.2 i hiL hb, hA.own h hi hb⟩)
  unfold Oper.wp
  rw [hrun, Oper.upon_enter]
  refine hcalls.mono fun en w' hp => ?_
  obtain ⟨v, β', rfl, hos, htape, hout, hsz, hkeptW, hβ', hpin, hRv, ⟨hobs', hinj'⟩, hnew⟩ := hp
  have hLblk : ∀ {b}, (∃ k ob, lk k (obsR st.hp ρ) = some ob ∧ (βh k).ft b) → ∃ i ∈ Ll ++ Lm, (β i).ft b := fun {b} hh => by
    obtain ⟨k, ob, hk, hb⟩ := hh
    obtain ⟨i, o, _, _, hiL, _, _, e⟩ := hobs0 hk
    exact ⟨i, hiL, by rw [← e]; exact hb⟩
  -- back to the caller's numbers
  generalize hτ : backL (pairs 1000000 Ll) robs = τ at hK
  let β2 : Nat → BV := fun i => if i ∈ robs.map (·.1) then β' i else match lk i (pairs 1000000 Ll) with | some k => β' k | none => β i
  have hβ2in : ∀ {i}, i ∈ robs.map (·.1) → β2 i = β' i := fun {i} hi => by show (if i ∈ robs.map (·.1) then β' i else match lk i (pairs 1000000 Ll) with | some k => β' k | none => β i) = _; rw [if_pos hi]
  have hβ2l : ∀ {i k}, i ∉ robs.map (·.1) → lk i (pairs 1000000 Ll) = some k → β2 i = β' k := fun {i k} hi hk => by
    show (if i ∈ robs.map (·.1) then β' i else match lk i (pairs 1000000 Ll) with | some k => β' k | none => β i) = _
    rw [if_neg hi, hk]
  have hβ2out : ∀ {i}, i ∉ robs.map (·.1) → i ∉ Ll → β2 i = β i := fun {i} hi hL => by
    show (if i ∈ robs.map (·.1) then β' i else match lk i (pairs 1000000 Ll) with | some k => β' k | none => β i) = _
    rw [if_neg hi, lk_none (by rw [pairs_keys]; exact hL)]
  have hβ2val : ∀ {i}, i ∉ robs.map (·.1) → (β2 i).val = (β i).val := fun {i} hi => by
    by_cases hL : i ∈ Ll
    · obtain ⟨k, hk⟩ := pairs_mem (b := 1000000) hL
      have h3 : lk i ρ = some k := by rw [← hρ, lk_append, hk]; rfl
      obtain ⟨k2, ob2, g1, g2, g3, g4⟩ := hobs1 (hρL h3)
      rw [h3] at g1; cases g1
      rw [hβ2l hi hk, hpin k ob2 (pairs_lk hk).2.1 g3, g4]
    · rw [hβ2out hi hL]
  have hrob : ∀ {i}, i ∈ robs.map (·.1) → i < 900000 ∧ i ∉ Ll := fun {i} hi => by
    have := List.all_eq_true.1 hrlow i hi
    simpa using this
  have hkeptid : ∀ {k}, k ∈ kept.map (·.1) → ∃ i, i ∈ Ll ∧ lk i (pairs 1000000 Ll) = some k ∧ lk i ρ = some k ∧ 1000000 ≤ k := fun {k} hk => by
    rw [hkeys] at hk
    obtain ⟨⟨i, k'⟩, hp, rfl⟩ := List.mem_map.1 hk
    have hnd1 : ((pairs 1000000 Ll).map (·.1)).Nodup := by rw [pairs_keys]; exact (List.nodup_append.1 (nodupN_iff.1 hnd)).1
    have h1 := lk_mem_nodup hnd1 hp
    have h2 := pairs_lk h1
    exact ⟨i, h2.1, h1, by rw [← hρ, lk_append, h1]; rfl, h2.2.1⟩
  have hkn : (((robs ++ kept).map (·.1))).Nodup := by
    rw [List.map_append, List.nodup_append]
    refine ⟨nodupN_iff.1 hrnd, by rw [hkeys]; exact pairs_nodup _ _, fun x hx y hy e => ?_⟩
    obtain ⟨i, _, _, _, h4⟩ := hkeptid hy
    have := (hrob hx).1
    omega
  have hSwl : ∀ {k i}, lk i (pairs 1000000 Ll) = some k → lk k (swapL (pairs 1000000 Ll)) = some i := fun {k i} hh => by
    refine lk_mem_nodup ?_ (List.mem_map.2 ⟨(i, k), lk_mem hh, rfl⟩)
    have : (swapL (pairs 1000000 Ll)).map (·.1) = (pairs 1000000 Ll).map (·.2) := by simp [swapL, List.map_map, Function.comp_def]
    rw [this]; exact pairs_nodup _ _
  have hτin : ∀ {k}, k ∈ robs.map (·.1) → lk k τ = some k := fun {k} hk => by
    rw [← hτ, backL, lk_append]
    have : lk k (robs.map fun q => (q.1, q.1)) = some k := lk_mem_nodup (by simpa [List.map_map, Function.comp_def] using nodupN_iff.1 hrnd) (by
      obtain ⟨p, hp, rfl⟩ := List.mem_map.1 hk
      exact List.mem_map.2 ⟨p, hp, rfl⟩)
    rw [this]; rfl
  have hτout : ∀ {k}, k ∉ robs.map (·.1) → lk k τ = lk k (swapL (pairs 1000000 Ll)) := fun {k} hk => by
    rw [← hτ, backL, lk_append, lk_none (by simpa [List.map_map, Function.comp_def] using hk)]; rfl
  have hback : ∀ k i, lk k τ = some i → β2 i = β' k := fun k i hk => by
    by_cases hr : k ∈ robs.map (·.1)
    · rw [hτin hr] at hk; cases hk; exact hβ2in hr
    · rw [hτout hr] at hk
      have hm := lk_mem hk
      obtain ⟨⟨i', k'⟩, hp, e⟩ := List.mem_map.1 hm
      cases e
      have hnd1 : ((pairs 1000000 Ll).map (·.1)).Nodup := by rw [pairs_keys]; exact (List.nodup_append.1 (nodupN_iff.1 hnd)).1
      have h1 := lk_mem_nodup hnd1 hp
      have h2 := pairs_lk h1
      exact hβ2l (fun hin => (hrob hin).2 h2.1) h1
  -- what lies in the new heap
  have hone2 : ∀ i, (β2 i).val.oneCell' = true := fun i => by
    by_cases hi : i ∈ robs.map (·.1)
    · rw [hβ2in hi]; exact hβ' i
    · rw [hβ2val hi]; exact h.beta i
  have hβkill : ∀ i, i ∉ Lm ++ robs.map (·.1) → (β2 i).val = (β i).val := fun i hi => hβ2val fun hin => hi (List.mem_append.2 (.inr hin))
  have hnewhp : ∀ {t ob}, lk t (unObs τ (robs ++ kept) ++ erL ((unObs τ (robs ++ kept)).map (·.1)) (st.killL (Lm ++ robs.map (·.1))).hp) = some ob →
      (∃ k o, lk k (robs ++ kept) = some o ∧ ob = o.up (SV.ren1 τ) ∧ β2 t = β' k ∧ ((k ∈ robs.map (·.1) ∧ t = k ∧ lk k robs = some o) ∨ (k ∈ kept.map (·.1) ∧ t ∈ Ll ∧ lk t ρ = some k ∧ 1000000 ≤ k))) ∨
      (t ∉ Ll ++ Lm ∧ t ∉ robs.map (·.1) ∧ β2 t = β t ∧ ∃ o0, lk t st.hp = some o0 ∧ ∀ (w : World) (X : Nat → Prop) (v : BV), ObR w X β v o0 → ObR w X β2 v ob) := fun {t ob} hh => by
    rw [lk_append] at hh
    cases hq : lk t (unObs τ (robs ++ kept)) with
    | some y =>
      rw [hq] at hh
      cases hh
      left
      obtain ⟨k, o, hm, ht, hob⟩ := lk_unObs hq
      have hlk := lk_mem_nodup hkn hm
      rcases List.mem_append.1 hm with hm1 | hm1
      · have hk : k ∈ robs.map (·.1) := List.mem_map.2 ⟨(k, o), hm1, rfl⟩
        rw [hτin hk] at ht
        have ht : t = k := ht
        exact ⟨k, o, hlk, hob, by rw [ht]; exact hβ2in hk, .inl ⟨hk, ht, lk_mem_nodup (nodupN_iff.1 hrnd) hm1⟩⟩
      · have hk : k ∈ kept.map (·.1) := List.mem_map.2 ⟨(k, o), hm1, rfl⟩
        obtain ⟨i, hiL, h1, h2, h3⟩ := hkeptid hk
        have hkr : k ∉ robs.map (·.1) := fun hin => by have := (hrob hin).1; omega
        rw [hτout hkr, hSwl h1] at ht
        have ht : t = i := ht
        have hti : t ∉ robs.map (·.1) := fun hin => (hrob hin).2 (ht ▸ hiL)
        exact ⟨k, o, hlk, hob, hback k t (by rw [hτout hkr, hSwl h1, ht]), .inr ⟨hk, ht ▸ hiL, ht ▸ h2, h3⟩⟩
    | none =>
      rw [hq] at hh
      right
      obtain ⟨h1, h2⟩ := lk_erL hh
      obtain ⟨h3, o0, h4, h5⟩ := killL_hp hβkill h2
      have h6 : t ∉ robs.map (·.1) := fun hin => h3 (List.mem_append.2 (.inr hin))
      have h7 : t ∉ Ll := fun hin => h1 (by
        obtain ⟨k, hk⟩ := pairs_mem (b := 1000000) hin
        have hkk : k ∈ kept.map (·.1) := by rw [hkeys]; exact List.mem_map.2 ⟨(t, k), lk_mem hk, rfl⟩
        have hkr : k ∉ robs.map (·.1) := fun hin => by have := (hrob hin).1; have := (pairs_lk hk).2.1; omega
        obtain ⟨p, hp, hpk⟩ := List.mem_map.1 hkk
        rw [unObs, List.map_map]
        refine List.mem_map.2 ⟨p, List.mem_append.2 (.inr hp), ?_⟩
        show (lk p.1 τ).getD p.1 = t
        rw [hpk, hτout hkr, hSwl hk]; rfl)
      exact ⟨fun hin => by
        rcases List.mem_append.1 hin with e | e
        · exact h7 e
        · exact h3 (List.mem_append.2 (.inl e)), h6, hβ2out h6 h7, o0, h4, h5⟩
  have hnb : ∀ {k o b}, lk k (robs ++ kept) = some o → (β' k).ft b → w.heap.size ≤ b ∨ ∃ i ∈ Ll ++ Lm, (β i).ft b := fun {k o b} hk hb => by
    rcases hnew k o b hk hb with h1 | ⟨k2, o2, h1, h3⟩
    · exact .inl h1
    · right
      obtain ⟨i, _, _, g2, g3, _, _, g6⟩ := hobs0 h1
      exact ⟨i, g3, by rw [← g6]; exact h3⟩
  have hXold : ∀ b, b < w.heap.size → XX X0 β2 (unObs τ (robs ++ kept) ++ erL ((unObs τ (robs ++ kept)).map (·.1)) (st.killL (Lm ++ robs.map (·.1))).hp) b → XX X0 β st.hp b := fun b hlt hb => by
    rcases hb with hb | ⟨t, ob, ht, hb⟩
    · exact .inl hb
    · rcases hnewhp ht with ⟨k, o, h3, _, e, hcase⟩ | ⟨_, _, e, o0, h4, _⟩
      · rw [e] at hb
        rcases hnb h3 hb with h5 | ⟨i, hi, h5⟩
        · omega
        · obtain ⟨o', ho'⟩ := hLhp i hi
          exact .inr ⟨i, o', ho', h5⟩
      · rw [e] at hb
        exact .inr ⟨t, o0, h4, hb⟩
  have hLX0 : ∀ i ∈ Ll ++ Lm, ∀ b, (β i).ft b → ¬ X0 b := fun i hi b hb hx => by
    obtain ⟨o', ho'⟩ := hLhp i hi
    obtain ⟨g1, g2⟩ := hA.old b hx
    rcases h.mine i o' b ho' hb with g3 | g3
    · exact g2 g3
    · omega
  have hXnew : sh = [] → ∀ b, XX X0 β2 (unObs τ (robs ++ kept) ++ erL ((unObs τ (robs ++ kept)).map (·.1)) (st.killL (Lm ++ robs.map (·.1))).hp) b → XX Xh β' (robs ++ kept) b := fun hse b hb => by
    rcases hb with hb | ⟨t, ob, ht, hb⟩
    · exact .inl ⟨.inl hb, by simp [hse], fun i hi he => hLX0 i hi b he hb⟩
    · rcases hnewhp ht with ⟨k, o, h1, _, e, _⟩ | ⟨h1, _, e, o0, h4, _⟩
      · exact .inr ⟨k, o, h1, by rw [← e]; exact hb⟩
      · rw [e] at hb
        refine .inl ⟨.inr ⟨t, o0, h4, hb⟩, by simp [hse], fun i hi he => ?_⟩
        obtain ⟨o', ho'⟩ := hLhp i hi
        have := h.inj t i o0 o' b h4 ho' hb he
        exact h1 (this ▸ hi)
  have hS' : Same (XX X0 β st.hp) w w' := ⟨hsz, fun b hlt hn => hkeptW b hlt fun hh => by
    obtain ⟨i, hi, hb⟩ := hLblk hh
    obtain ⟨o', ho'⟩ := hLhp i hi
    exact hn (.inr ⟨i, o', ho', hb⟩)⟩
  have hSw : ∀ X : Nat → Prop, Same X w' w' := fun X => ⟨Nat.le_refl _, fun _ _ _ => rfl⟩
  have hsim : Sim N X0 M w0 { fr := (st.killL (Lm ++ robs.map (·.1))).fr, hp := unObs τ (robs ++ kept) ++ erL ((unObs τ (robs ++ kept)).map (·.1)) (st.killL (Lm ++ robs.map (·.1))).hp } β2 a w' := {
    size := h.size
    defers := h.defers
    beta := hone2
    slots := fun t x hx => by
      obtain ⟨y, h1, h2⟩ := killL_fr hβkill hx
      exact h2 _ _ _ ((h.slots t y h1).mono hS' hXold)
    objs := fun t ob ht => by
      rcases hnewhp ht with ⟨k, o, h1, rfl, e, _⟩ | ⟨h1, h2, e, o0, h4, h5⟩
      · rw [e]
        have hO := hobs' k o h1
        rcases hbor with hse | ⟨_, hv⟩
        · exact (hO.mono (hSw _) (fun b _ hb => hXnew hse b hb) (fun _ _ => rfl)).up (fun x v hh => hh.ren1 hback) (fun _ _ hh => hh)
        · exact (hO.isV (hv (k, o) (lk_mem h1))).up (fun x v hh => hh.ren1 hback) (fun _ _ hh => hh)
      · rw [e]
        refine h5 _ _ _ ((h.objs t o0 h4).mono hS' hXold fun b hb => hkeptW b ((h.objs t o0 h4).lt hb) fun hh => ?_)
        obtain ⟨i, hi, hbi⟩ := hLblk hh
        obtain ⟨o', ho'⟩ := hLhp i hi
        have := h.inj t i o0 o' b h4 ho' hb hbi
        exact h1 (this ▸ hi)
    inj := fun t1 t2 o1 o2 b h1 h2 hb1 hb2 => by
      have cross : ∀ {t1 t2 o1 o2}, (∃ k o, lk k (robs ++ kept) = some o ∧ o1 = Ob.up (SV.ren1 τ) o ∧ β2 t1 = β' k ∧ ((k ∈ robs.map (·.1) ∧ t1 = k ∧ lk k robs = some o) ∨ (k ∈ kept.map (·.1) ∧ t1 ∈ Ll ∧ lk t1 ρ = some k ∧ 1000000 ≤ k))) →
          (t2 ∉ Ll ++ Lm ∧ t2 ∉ robs.map (·.1) ∧ β2 t2 = β t2 ∧ ∃ o0, lk t2 st.hp = some o0 ∧ ∀ (w : World) (X : Nat → Prop) (v : BV), ObR w X β v o0 → ObR w X β2 v o2) → (β2 t1).ft b → (β2 t2).ft b → False := by
        rintro t1 t2 o1 o2 ⟨k, o, h3, _, e, hcase⟩ ⟨g1, _, e2, o0, g4, _⟩ hb1 hb2
        rw [e2] at hb2
        rw [e] at hb1
        rcases hnb h3 hb1 with h5 | ⟨i, hi, h5⟩
        · have := (h.objs t2 o0 g4).lt hb2; omega
        · obtain ⟨o', ho'⟩ := hLhp i hi
          have := h.inj i t2 o' o0 b ho' g4 h5 hb2
          exact g1 (this ▸ hi)
      rcases hnewhp h1 with f1 | f1 <;> rcases hnewhp h2 with f2 | f2
      · obtain ⟨k1, p1, q1, _, e1, c1⟩ := f1
        obtain ⟨k2, p2, q2, _, e2, c2⟩ := f2
        have hk := hinj' k1 k2 p1 p2 b q1 q2 (by rw [← e1]; exact hb1) (by rw [← e2]; exact hb2)
        subst hk
        rcases c1 with ⟨a1, rfl, _⟩ | ⟨a1, _, a3, a4⟩ <;> rcases c2 with ⟨b1, rfl, _⟩ | ⟨b1, _, b3, b4⟩
        · rfl
        · have := (hrob a1).1; omega
        · have := (hrob b1).1; omega
        · have s1 := hRen.swap.1 a3
          have s2 := hRen.swap.1 b3
          rw [s1] at s2
          cases s2; rfl
      · exact (cross f1 f2 hb1 hb2).elim
      · exact (cross f2 f1 hb2 hb1).elim
      · obtain ⟨_, _, e1, o3, g3, _⟩ := f1
        obtain ⟨_, _, e2, o4, g4, _⟩ := f2
        exact h.inj t1 t2 o3 o4 b g3 g4 (by rw [← e1]; exact hb1) (by rw [← e2]; exact hb2)
    x0 := fun b hb => Nat.lt_of_lt_of_le (h.x0 b hb) hsz
    mine := fun t ob b ht hb => by
      rcases hnewhp ht with ⟨k, o, h3, _, e, hcase⟩ | ⟨_, _, e, o0, h4, _⟩
      · rw [e] at hb
        rcases hnb h3 hb with h5 | ⟨i, hi, h5⟩
        · exact .inr (Nat.le_trans h.grew h5)
        · obtain ⟨o', ho'⟩ := hLhp i hi
          exact h.mine i o' b ho' h5
      · rw [e] at hb; exact h.mine t o0 b h4 hb
    pin := fun id u hm h1 => by rw [hβ2val (fun hin => by have := (hrob hin).1; omega)]; exact h.pin id u hm h1
    few := h.few
    os := hos.trans h.os
    tape := htape.trans h.tape
    output := hout.trans h.output
    grew := Nat.le_trans h.grew hsz
    kept := fun b hb0 hM => by
      rw [hkeptW b (Nat.lt_of_lt_of_le hb0 h.grew) fun hh => ?_]
      · exact h.kept b hb0 hM
      · obtain ⟨i, hi, hb⟩ := hLblk hh
        obtain ⟨o', ho'⟩ := hLhp i hi
        rcases h.mine i o' b ho' hb with hm | hm
        · exact hM hm
        · omega }
  have hRf : R w' (XX X0 β2 (unObs τ (robs ++ kept) ++ erL ((unObs τ (robs ++ kept)).map (·.1)) (st.killL (Lm ++ robs.map (·.1))).hp)) β2 (res.up (SV.ren1 τ)) v := by
    rcases hbor with hse | ⟨hv, _⟩
    · exact (hRv.mono (hSw _) (fun b _ hb => hXnew hse b hb)).up fun x v hh => hh.ren1 hback
    · exact (hRv.isV2 hv).up fun x v hh => hh.ren1 hback
  have hK' : K (St.put { fr := (st.killL (Lm ++ robs.map (·.1))).fr, hp := unObs τ (robs ++ kept) ++ erL ((unObs τ (robs ++ kept)).map (·.1)) (st.killL (Lm ++ robs.map (·.1))).hp } o.dst (res.up (SV.ren1 τ))) := by
    have := hK
    unfold St.resL at this
    rw [hτ] at this
    exact this
  cases hd : o.dst with
  | none => rw [hd] at hK'; exact ⟨_, β2, hK', hsim⟩
  | some d => rw [hd] at hK'; exact ⟨_, β2, hK', hsim.put (hN d hd) hRf⟩
end
end Go.Vc

/-
  DERIVED. Rows whose cells own lists: laid in a list of their own, or at the end of one.
-/
namespace Go.Vc
set_option linter.unusedVariables false
set_option linter.unusedSimpArgs false
def allVs (rows : List (List SV)) : Prop := ∀ row ∈ rows, ∀ c ∈ row, ∃ x, c = .v x

/-- cells that own lists, told as what is in these; what it asks; whose they were -/
def absC (hp : List (Nat × Ob)) : List SV → Option (Prop × List SV × List Nat)
  | [] => some (True, [], [])
  | .v x :: l => match absC hp l with
    | some (p, r, is) => some (x.oneCell' = true ∧ p, .v x :: r, is)
    | none => none
  | .own j :: l => match lk j hp with
    | some (.sl _ s rows) => match absC hp l with
      | some (p, r, is) => some (allVs rows ∧ p, .sl s rows :: r, j :: is)
      | none => none
    | some (.dp _ s rows) => match absC hp l with
      | some (p, r, is) => some (p, .sl s rows :: r, j :: is)
      | none => none
    | _ => none
  | _ => none
/-- an operation that lays what is owned: what it asks, the list, whose it was -/
def St.deepQ (tys : List (Nat × TyD)) (o : Oper) (st : St) : Option (Prop × Ob × List Nat) :=
  match o.op with
  | .buildSlice T 1 parts => match parts.toList, lk T tys with
    | [(0, x)], some t => match lk t.elem tys, absC st.hp (st.ev x).strip.cells with
      | some e, some (p, row, is) => some (p ∧ (st.ev x).need ∧ t.kind = 1 ∧ 0 < e.size ∧ e.size ≤ 16777216 ∧ e.z.length = e.size ∧ e.z.all Value.oneCell' = true ∧ row.length = e.size ∧ nodupN is = true, .dp t.elem e.size [row], is)
      | _, _ => none
    | _, _ => none
  | .call c => match c.callee with
    | .builtin .append => match c.args.toList, c.argTypes.toList with
      | [x, y], [T, T'] => match lk T tys, (st.ev x).strip, (st.ev y).strip with
        | some t, .own j, .own i => match lk t.elem tys, lk j st.hp, lk i st.hp with
          | some e, some (.dp e' s rows), some (.dp _ s2 news) => some (T = T' ∧ t.kind = 1 ∧ (st.ev x).need ∧ (st.ev y).need ∧ 0 < e.size ∧ 0 < e.bytes ∧ e.z.length = e.size ∧ i ≠ j ∧ e' = t.elem ∧ s = e.size ∧ s2 = e.size ∧ (rows.length + news.length) * e.bytes ≤ 140737488355328, .dp e' s (rows ++ news), [j, i])
          | _, _, _ => none
        | _, _, _ => none
      | _, _ => none
    | _ => none
  | _ => none

section
variable {P : Program} {tys : List (Nat × TyD)} {N : Nat} {X0 : Nat → Prop} {M : Nat → BV → Prop} {w0 : World} {st : St} {β : Nat → BV} {a : Act} {w : World}

/-- a new list, which takes over what some objects owned -/
theorem Sim.newD (h : Sim N X0 M w0 st β a w) {d : Nat} (hd : d < N) {gone : List Nat} {w' : World} (hos : w'.os = w.os) (htape : w'.tape = w.tape) (hout : w'.output = w.output) (hsz : w.heap.size ≤ w'.heap.size)
    (hch : ∀ b, b < w.heap.size → (∀ i o, lk i st.hp = some o → ¬ (β i).ft b) → w'.heap[b]? = w.heap[b]?) (hoth : ∀ i o b, lk i st.hp = some o → i ∉ gone → (β i).ft b → w'.heap[b]? = w.heap[b]?)
    {v1 : Value} {F : Nat → Prop} (hv1 : v1.oneCell' = true) (hF : ∀ b, F b → (∃ g ∈ gone, ∃ o, lk g st.hp = some o ∧ (β g).ft b) ∨ w.heap.size ≤ b) {ob : Ob} (hob : ∀ (X : Nat → Prop) (β' : Nat → BV), ObR w' X β' ⟨v1, F⟩ ob) :
    ∃ β', Sim N X0 M w0 { fr := (d, .own d) :: er d (st.killL (d :: gone)).fr, hp := (d, ob) :: (st.killL (d :: gone)).hp } β' (a.put (some d) v1) w' := by
  let β2 : Nat → BV := fun q => if q = d then ⟨v1, F⟩ else β q
  have hβd : β2 d = ⟨v1, F⟩ := if_pos rfl
  have hβo : ∀ q, q ≠ d → β2 q = β q := fun q hq => if_neg hq
  have hβv : ∀ i, i ∉ d :: gone → (β2 i).val = (β i).val := fun i hi => by rw [hβo i (fun e => hi (by rw [e]; exact List.mem_cons_self))]
  have hl : ∀ (t : Nat) (o : Ob), lk t ((d, ob) :: (st.killL (d :: gone)).hp) = some o → (t = d ∧ o = ob) ∨ (t ≠ d ∧ t ∉ gone ∧ ∃ o0, lk t st.hp = some o0 ∧ ∀ (w : World) (X : Nat → Prop) (v : BV), ObR w X β v o0 → ObR w X β2 v o) := fun t o ht => by
    simp only [lk] at ht
    by_cases e : t = d
    · rw [if_pos e] at ht; cases ht; exact .inl ⟨e, rfl⟩
    · rw [if_neg e] at ht
      obtain ⟨h1, o0, h2, h3⟩ := killL_hp hβv ht
      exact .inr ⟨e, fun hm => h1 (List.mem_cons_of_mem _ hm), o0, h2, h3⟩
  have hlive : ∀ t o b, lk t ((d, ob) :: (st.killL (d :: gone)).hp) = some o → (β2 t).ft b → (∃ i o', lk i st.hp = some o' ∧ (β i).ft b ∧ (t ≠ d → i = t) ∧ (t = d → i ∈ gone)) ∨ (t = d ∧ w.heap.size ≤ b) := fun t o b ht hb => by
    rcases hl t o ht with ⟨rfl, _⟩ | ⟨n1, n2, o0, q, _⟩
    · rw [hβd] at hb
      rcases hF b hb with ⟨g, hg, og, q1, q2⟩ | hge
      · exact .inl ⟨g, og, q1, q2, fun e => absurd rfl e, fun _ => hg⟩
      · exact .inr ⟨rfl, hge⟩
    · rw [hβo t n1] at hb
      exact .inl ⟨t, o0, q, hb, fun _ => rfl, fun e => absurd e n1⟩
  have hX : ∀ b, b < w.heap.size → XX X0 β2 ((d, ob) :: (st.killL (d :: gone)).hp) b → XX X0 β st.hp b := fun b hlt hb => by
    rcases hb with hb | ⟨t, o, ht, hb⟩
    · exact .inl hb
    · rcases hlive t o b ht hb with ⟨i, o', q1, q2, _⟩ | ⟨_, hge⟩
      · exact .inr ⟨i, o', q1, q2⟩
      · omega
  have hS : Same (XX X0 β st.hp) w w' := ⟨hsz, fun b hlt hn => hch b hlt fun i o hi hf => hn (.inr ⟨i, o, hi, hf⟩)⟩
  have hds : d < a.tmps.size := by rw [h.size]; exact hd
  refine ⟨β2, ?_⟩
  exact {
    size := by simpa [Act.put] using h.size
    defers := h.defers
    beta := fun i => by
      by_cases hi : i = d
      · rw [hi, hβd]; exact hv1
      · rw [hβo i hi]; exact h.beta i
    slots := fun t x hx => by
      simp only [lk] at hx
      by_cases ht : t = d
      · rw [if_pos ht] at hx
        cases hx
        subst ht
        rw [getD_put_same hds]
        have h0 := R.own (w := w') (X := XX X0 β2 ((t, ob) :: (st.killL (t :: gone)).hp)) (β := β2) t
        rw [hβd] at h0
        exact h0
      · rw [if_neg ht, lk_er_ne ht] at hx
        rw [getD_put_ne ht]
        obtain ⟨y, h1, h2⟩ := killL_fr hβv hx
        exact h2 _ _ _ ((h.slots t y h1).mono hS hX)
    objs := fun t o ht => by
      rcases hl t o ht with ⟨rfl, rfl⟩ | ⟨n1, n2, o0, q, h3⟩
      · rw [hβd]; exact hob _ _
      · rw [hβo t n1]
        exact h3 _ _ _ ((h.objs t o0 q).mono hS hX fun b hb => hoth t o0 b q n2 hb)
    inj := fun p q op oq b hp hq hbp hbq => by
      rcases hlive p op b hp hbp with ⟨i1, o1, q1, q2, q3, q4⟩ | ⟨e1, g1⟩ <;> rcases hlive q oq b hq hbq with ⟨i2, o2, r1, r2, r3, r4⟩ | ⟨e2, g2⟩
      · have hi := h.inj i1 i2 o1 o2 b q1 r1 q2 r2
        subst hi
        by_cases p1 : p = d <;> by_cases p2 : q = d
        · rw [p1, p2]
        · exfalso
          rcases hl q oq hq with ⟨e, _⟩ | ⟨_, n2, _⟩
          · exact p2 e
          · have := r3 p2; exact n2 (this ▸ q4 p1)
        · exfalso
          rcases hl p op hp with ⟨e, _⟩ | ⟨_, n2, _⟩
          · exact p1 e
          · have := q3 p1; exact n2 (this ▸ r4 p2)
        · exact (q3 p1).symm.trans (r3 p2)
      · have := (h.objs i1 o1 q1).lt q2; omega
      · have := (h.objs i2 o2 r1).lt r2; omega
      · rw [e1, e2]
    x0 := fun b hb => Nat.lt_of_lt_of_le (h.x0 b hb) hsz
    mine := fun t o b ht hb => by
      rcases hlive t o b ht hb with ⟨i, o', q1, q2, _⟩ | ⟨_, hge⟩
      · exact h.mine i o' b q1 q2
      · exact .inr (Nat.le_trans h.grew hge)
    pin := fun id u hm h1 => by rw [hβo id (by have := h.few; omega)]; exact h.pin id u hm h1
    few := h.few
    os := hos.trans h.os
    tape := htape.trans h.tape
    output := hout.trans h.output
    grew := Nat.le_trans h.grew hsz
    kept := fun b hb0 hM => by
      rw [hch b (Nat.lt_of_lt_of_le hb0 h.grew) fun i o hi hf => ?_]
      · exact h.kept b hb0 hM
      · rcases h.mine i o b hi hf with hm | hm
        · exact hM hm
        · omega }

theorem absC_len : ∀ {cs : List SV} {p : Prop} {row : List SV} {is : List Nat}, absC st.hp cs = some (p, row, is) → row.length = cs.length ∧ is = cs.flatMap SV.owns1
  | [], p, row, is, h => by simp only [absC, Option.some.injEq, Prod.mk.injEq] at h; obtain ⟨_, rfl, rfl⟩ := h; exact ⟨rfl, rfl⟩
  | .v x :: l, p, row, is, h => by
    simp only [absC] at h
    split at h
    · rename_i p' r' is' h'
      simp only [Option.some.injEq, Prod.mk.injEq] at h
      obtain ⟨_, rfl, rfl⟩ := h
      obtain ⟨h1, h2⟩ := absC_len h'
      exact ⟨by simp [h1], by simp [h2, SV.owns1]⟩
    · cases h
  | .own j :: l, p, row, is, h => by
    simp only [absC] at h
    split at h
    · split at h
      · rename_i p' r' is' h'
        simp only [Option.some.injEq, Prod.mk.injEq] at h
        obtain ⟨_, rfl, rfl⟩ := h
        obtain ⟨h1, h2⟩ := absC_len h'
        exact ⟨by simp [h1], by simp [h2, SV.owns1]⟩
      · cases h
    · split at h
      · rename_i p' r' is' h'
        simp only [Option.some.injEq, Prod.mk.injEq] at h
        obtain ⟨_, rfl, rfl⟩ := h
        obtain ⟨h1, h2⟩ := absC_len h'
        exact ⟨by simp [h1], by simp [h2, SV.owns1]⟩
      · cases h
    · cases h
  | .sl _ _ :: _, _, _, _, h => by cases h
  | .ptr _ _ _ _ :: _, _, _, _, h => by cases h
  | .rptr _ _ _ _ :: _, _, _, _, h => by cases h
  | .agg _ :: _, _, _, _, h => by cases h
  | .tup _ :: _, _, _, _, h => by cases h
  | .fn _ _ :: _, _, _, _, h => by cases h
  | .cond _ _ :: _, _, _, _, h => by cases h
  | .junk :: _, _, _, _, h => by cases h
/-- what cell k owns -/
def fsC (β : Nat → BV) (cs : List SV) (k b : Nat) : Prop := ∃ j, cs[k]? = some (.own j) ∧ (β j).ft b

theorem ObR.sl_dp0 {X : Nat → Prop} {v : BV} {e s : Nat} {rows : List (List SV)} (h : ObR w X β v (.sl e s rows)) (hv : allVs rows) : Dp w (.sl s rows) v.val v.ft := by
  cases h with
  | nil e s h => subst h; exact .nil s _ (fun b hb => by cases hb)
  | sl b cap cur us hv' hh h1 h2 h3 h4 h5 h6 h7 =>
    subst hv'
    refine .sl e b cap cur us (fun _ _ _ => False) _ hh h1 h2 h3 h4 (fun i k q1 q2 => ?_) (fun i k q1 q2 => ?_) (fun i k row c q1 q2 => ?_) (fun _ _ _ hf => hf.elim) (fun _ _ hf => hf) (fun _ _ _ _ _ hf => hf.elim) (fun b' => ?_)
    · obtain ⟨row, c, r1, r2⟩ := row_cell h4 q1 q2
      exact h5 i k row c r1 r2
    · obtain ⟨row, c, r1, r2⟩ := row_cell h4 q1 q2
      exact h6 i k row c r1 r2
    · obtain ⟨x, rfl⟩ := hv row (List.mem_of_getElem? q1) c (List.mem_of_getElem? q2)
      have := h7 i k row _ q1 q2
      generalize us i k = u at this
      cases this
      exact .v x _ (fun _ hf => hf)
    · show blk (.slice (some ⟨b, 0, none⟩) rows.length cap) = some b' ↔ _
      simp [blk, eq_comm]

theorem absC_dp (h : Sim N X0 M w0 st β a w) : ∀ {cs : List SV} {p : Prop} {row : List SV} {is : List Nat}, absC st.hp cs = some (p, row, is) → p → (cs.all SV.one = true) ∧
    ∀ (k : Nat) (c c' : SV) (u : Value), cs[k]? = some c → row[k]? = some c' → R w (XX X0 β st.hp) β c u → u.oneCell' = true ∧ Dp w c' u (fsC β cs k)
  | [], p, row, is, h', _ => ⟨rfl, fun k c c' u hc => by simp at hc⟩
  | x0 :: l, p, row, is, h', hp => by
    have shift : ∀ {k b}, fsC β (x0 :: l) (k + 1) b ↔ fsC β l k b := fun {k b} => by simp [fsC]
    cases x0 with
    | v x =>
      simp only [absC] at h'
      split at h'
      · rename_i p' r' is' h2
        simp only [Option.some.injEq, Prod.mk.injEq] at h'
        obtain ⟨rfl, rfl, rfl⟩ := h'
        obtain ⟨g1, g2⟩ := absC_dp h h2 hp.2
        refine ⟨by simp only [List.all_cons, Bool.and_eq_true]; exact ⟨hp.1, g1⟩, fun k c c' u hc hc' hR => ?_⟩
        cases k with
        | zero =>
          simp at hc hc'
          subst hc hc'
          have := hR.v_inv; subst this
          exact ⟨hp.1, .v _ _ (fun b ⟨j, hj, _⟩ => by simp at hj)⟩
        | succ k =>
          obtain ⟨q1, q2⟩ := g2 k c c' u (by simpa using hc) (by simpa using hc') hR
          exact ⟨q1, q2.ext fun b => shift⟩
      · cases h'
    | own j =>
      have key : ∀ {p' : Prop} {r' : List SV} {is' : List Nat} {s : Nat} {rows : List (List SV)} {o : Ob}, lk j st.hp = some o → absC st.hp l = some (p', r', is') → p' → row = .sl s rows :: r' → Dp w (.sl s rows) (β j).val (β j).ft →
          ((SV.own j :: l).all SV.one = true) ∧ ∀ (k : Nat) (c c' : SV) (u : Value), (SV.own j :: l)[k]? = some c → row[k]? = some c' → R w (XX X0 β st.hp) β c u → u.oneCell' = true ∧ Dp w c' u (fsC β (.own j :: l) k) := fun {p' r' is' s rows o} hlj h2 hp' hrow hD => by
        obtain ⟨g1, g2⟩ := absC_dp h h2 hp'
        refine ⟨by simp only [List.all_cons, Bool.and_eq_true]; exact ⟨rfl, g1⟩, fun k c c' u hc hc' hR => ?_⟩
        subst hrow
        cases k with
        | zero =>
          simp at hc hc'
          subst hc hc'
          have := hR.own_inv; subst this
          exact ⟨h.beta j, hD.ext fun b => by simp [fsC]⟩
        | succ k =>
          obtain ⟨q1, q2⟩ := g2 k c c' u (by simpa using hc) (by simpa using hc') hR
          exact ⟨q1, q2.ext fun b => shift⟩
      simp only [absC] at h'
      split at h'
      · rename_i e s rows hlj
        split at h'
        · rename_i p' r' is' h2
          simp only [Option.some.injEq, Prod.mk.injEq] at h'
          obtain ⟨rfl, rfl, rfl⟩ := h'
          exact key hlj h2 hp.2 rfl ((h.objs j _ hlj).sl_dp0 hp.1)
        · cases h'
      · rename_i e s rows hlj
        split at h'
        · rename_i p' r' is' h2
          simp only [Option.some.injEq, Prod.mk.injEq] at h'
          obtain ⟨rfl, rfl, rfl⟩ := h'
          have hO := h.objs j _ hlj
          exact key hlj h2 hp rfl (by cases hO with | dp hd he => exact hd)
        · cases h'
      · cases h'
    | _ => cases h'

theorem own_pos : ∀ {cs : List SV} {k k' j : Nat}, (cs.flatMap SV.owns1).Nodup → cs[k]? = some (.own j) → cs[k']? = some (.own j) → k = k'
  | [], k, k', j, _, h, _ => by simp at h
  | c :: l, 0, 0, j, _, _, _ => rfl
  | c :: l, 0, k' + 1, j, hn, h, h' => by
    exfalso
    simp at h
    subst h
    have hm : j ∈ l.flatMap SV.owns1 := List.mem_flatMap.2 ⟨.own j, List.mem_of_getElem? (by simpa using h'), by simp [SV.owns1]⟩
    simp only [List.flatMap_cons, SV.owns1, List.cons_append, List.nil_append, List.nodup_cons] at hn
    exact hn.1 hm
  | c :: l, k + 1, 0, j, hn, h, h' => by
    exfalso
    simp at h'
    subst h'
    have hm : j ∈ l.flatMap SV.owns1 := List.mem_flatMap.2 ⟨.own j, List.mem_of_getElem? (by simpa using h), by simp [SV.owns1]⟩
    simp only [List.flatMap_cons, SV.owns1, List.cons_append, List.nil_append, List.nodup_cons] at hn
    exact hn.1 hm
  | c :: l, k + 1, k' + 1, j, hn, h, h' => by
    rw [List.flatMap_cons, List.nodup_append] at hn
    have := own_pos (cs := l) hn.2.1 (k := k) (k' := k') (j := j) (by simpa using h) (by simpa using h')
    omega

theorem absC_live : ∀ {cs : List SV} {p : Prop} {row : List SV} {is : List Nat}, absC st.hp cs = some (p, row, is) → ∀ j, SV.own j ∈ cs → ∃ o, lk j st.hp = some o
  | [], _, _, _, _, j, hj => by cases hj
  | x0 :: l, p, row, is, h, j, hj => by
    cases x0 with
    | v x =>
      simp only [absC] at h
      split at h
      · rename_i p' r' is' h2
        rcases List.mem_cons.1 hj with e | hj
        · cases e
        · exact absC_live h2 j hj
      · cases h
    | own i =>
      simp only [absC] at h
      split at h
      · rename_i e s rows hl
        split at h
        · rename_i p' r' is' h2
          rcases List.mem_cons.1 hj with e | hj
          · cases e; exact ⟨_, hl⟩
          · exact absC_live h2 j hj
        · cases h
      · rename_i e s rows hl
        split at h
        · rename_i p' r' is' h2
          rcases List.mem_cons.1 hj with e | hj
          · cases e; exact ⟨_, hl⟩
          · exact absC_live h2 j hj
        · cases h
      · cases h
    | _ => cases h

theorem fill_one {s : Nat} {v : Value} {cur : Array Value} (hc : cur.size = s) (hv : v.cells.size = s) : ∃ cells, Instr.fill (fun i => some (i * s, s)) cur [(0, v)] = some cells ∧ cells.toList = v.cells.toList := by
  have hle : 0 * s + v.cells.size ≤ cur.size := by omega
  have hfl := fill_fold (0 * s) v.cells cur hle
  refine ⟨_, by simp only [Instr.fill]; rw [if_neg (by simp [hv, hc])], ?_⟩
  rw [hfl]
  have : cur.toList.length = s := by rw [Array.length_toList, hc]
  simp [hv, this]

theorem eff_deepB (hty : ∀ T d, lk T tys = some d → TyOk P T d) (h : Sim N X0 M w0 st β a w) {o : Oper} {T : Nat} {parts : Array (Nat × Operand)} {x : Operand} {t e : TyD} (ho : o.op = .buildSlice T 1 parts) (hparts : parts.toList = [(0, x)]) (ht : lk T tys = some t) (he : lk t.elem tys = some e)
    {p : Prop} {row : List SV} {is : List Nat} (habs : absC st.hp (st.ev x).strip.cells = some (p, row, is)) (hp : p) (hn : (st.ev x).need) (hk : t.kind = 1) (hpos : 0 < e.size) (hlim : e.size ≤ 16777216) (hzl : e.z.length = e.size) (hz1 : e.z.all Value.oneCell' = true)
    (hrow : row.length = e.size) (hnd : nodupN is = true) {d : Nat} (hd : o.dst = some d) (hdN : d < N) {K : St → Prop} (hK : K { fr := (d, .own d) :: er d (st.killL (d :: is)).fr, hp := (d, .dp t.elem e.size [row]) :: (st.killL (d :: is)).hp }) {Q : Exit → Act → World → Prop} :
    o.wp P a w (Ok N X0 M w0 K) Q := by
  obtain ⟨hl1, his⟩ := absC_len habs
  obtain ⟨hone, hcell⟩ := absC_dp h habs hp
  have hR := (St.ev_ok h x).strip hn
  obtain ⟨hsz, hcc⟩ := hR.cells h.beta hone
  have hvs : (a.eval x).cells.size = e.size := by rw [hsz, ← hl1, hrow]
  have hT := (hty T t ht).slice hk
  have hE := hty t.elem e he
  obtain ⟨zv, hz, hzc⟩ := hE.zero w
  have hzs : zv.cells.size = e.size := by rw [← Array.length_toList, hzc, hzl]
  obtain ⟨cells, hfill, hct⟩ := fill_one (s := e.size) (v := a.eval x) (cur := (Array.range (1 * e.size)).map (zv.cells[· % zv.cells.size]!)) (by simp) hvs
  have hcs : cells.size = e.size := by rw [← Array.length_toList, hct, Array.length_toList, hvs]
  have hrun : (execOp a.eval o).run P w = .ok (.value (.slice (some ⟨w.heap.size, 0, none⟩) 1 1)) (w.alloc (.cells cells t.elem)) := by
    have hpp : parts.toList.map (fun x => (x.1, a.eval x.2)) = [(0, a.eval x)] := by rw [hparts]; rfl
    simp only [Nat.one_mul] at hfill
    simp [execOp, ho, Instr.buildSlice, run_underlying hT, hE.sizeOf, show ¬ (16777216 < e.size) by omega, show ¬ e.size = 0 by omega, newRow, hpp, hz, hfill]
  have hbel := alloc_below w (.cells cells t.elem)
  have hnew : (w.alloc (.cells cells t.elem)).heap[w.heap.size]? = some (.cells cells t.elem (0, 0)) := heap_alloc_new w _
  have hget : ∀ k, k < e.size → ∃ c c' u, (st.ev x).strip.cells[k]? = some c ∧ row[k]? = some c' ∧ (a.eval x).cells[k]? = some u ∧ cells[k]? = some u ∧ u.oneCell' = true ∧ Dp w c' u (fsC β (st.ev x).strip.cells k) := fun k hk => by
    have h1 : (st.ev x).strip.cells[k]? = some ((st.ev x).strip.cells[k]'(by omega)) := List.getElem?_eq_getElem (by omega)
    have h2 : row[k]? = some (row[k]'(by omega)) := List.getElem?_eq_getElem (by omega)
    have h3 : (a.eval x).cells[k]? = some ((a.eval x).cells[k]'(by omega)) := Array.getElem?_eq_getElem (by omega)
    obtain ⟨q1, q2⟩ := hcell k _ _ _ h1 h2 (hcc k _ _ h1 h3)
    refine ⟨_, _, _, h1, h2, h3, ?_, q1, q2⟩
    rw [← Array.getElem?_toList, hct, Array.getElem?_toList]
    exact h3
  let fs : Nat → Nat → Nat → Prop := fun i k b => i = 0 ∧ fsC β (st.ev x).strip.cells k b
  let us : Nat → Nat → Value := fun _ k => (cells[k]?).getD undef
  let F : Nat → Prop := fun b => b = w.heap.size ∨ ∃ i k, fs i k b
  have hfslt : ∀ k b, fsC β (st.ev x).strip.cells k b → b < w.heap.size := fun k b ⟨j, hj, hb⟩ => by
    obtain ⟨oj, hoj⟩ := absC_live habs j (List.mem_of_getElem? hj)
    exact (h.objs j oj hoj).lt hb
  have hDp : Dp (w.alloc (.cells cells t.elem)) (.sl e.size [row]) (.slice (some ⟨w.heap.size, 0, none⟩) 1 1) F := by
    have := Dp.sl (w := w.alloc (.cells cells t.elem)) (s := e.size) (rows := [row]) t.elem w.heap.size 1 cells us fs F hnew (by simp) (by simp [maxLen]) (by omega) (fun i r hr => by
        cases i with
        | zero => simp at hr; rw [← hr]; exact hrow
        | succ i => simp at hr) (fun i k hi hk => by
        simp only [List.length_cons, List.length_nil] at hi
        have : i = 0 := by omega
        subst this
        obtain ⟨_, _, u, _, _, _, h4, _⟩ := hget k hk
        simp only [us, Nat.zero_mul, Nat.zero_add, h4, Option.getD_some]) (fun i k hi hk => by
        obtain ⟨_, _, u, _, _, _, h4, h5, _⟩ := hget k hk
        simp only [us, h4, Option.getD_some]; exact h5) (fun i k r c hr hc => by
        cases i with
        | succ i => simp at hr
        | zero =>
          simp at hr
          subst hr
          have hk : k < e.size := by rw [← hrow]; exact (List.getElem?_eq_some_iff.1 hc).1
          obtain ⟨_, c', u, _, h2, _, h4, _, h6⟩ := hget k hk
          rw [h2] at hc; cases hc
          have hu : us 0 k = u := by simp only [us, h4, Option.getD_some]
          rw [hu]
          refine (h6.keep fun b hb => hbel.block b (hfslt k b hb)).ext fun b => ⟨fun q => q.2, fun q => ⟨rfl, q⟩⟩) (fun i k b q => by
        obtain ⟨rfl, j, hj, _⟩ := q
        exact ⟨by simp, by rw [← hrow, hl1]; exact (List.getElem?_eq_some_iff.1 hj).1⟩) (fun i k q => by have := hfslt k _ q.2; omega) (fun i k i' k' b q q' => by
        obtain ⟨rfl, j, hj, hb⟩ := q
        obtain ⟨rfl, j', hj', hb'⟩ := q'
        obtain ⟨oj, hoj⟩ := absC_live habs j (List.mem_of_getElem? hj)
        obtain ⟨oj', hoj'⟩ := absC_live habs j' (List.mem_of_getElem? hj')
        have := h.inj j j' oj oj' b hoj hoj' hb hb'
        subst this
        exact ⟨rfl, own_pos (by rw [← his]; exact nodupN_iff.1 hnd) hj hj'⟩) (fun b => Iff.rfl)
    exact this
  obtain ⟨β', hsim⟩ := h.newD hdN (gone := is) (w' := w.alloc (.cells cells t.elem)) rfl rfl rfl hbel.size (fun b hlt _ => hbel.block b hlt) (fun i o b hi _ hb => hbel.block b ((h.objs i o hi).lt hb)) (v1 := .slice (some ⟨w.heap.size, 0, none⟩) 1 1) (F := F) rfl (fun b hb => by
    rcases hb with rfl | ⟨i, k, _, j, hj, hb⟩
    · exact .inr (Nat.le_refl _)
    · obtain ⟨oj, hoj⟩ := absC_live habs j (List.mem_of_getElem? hj)
      exact .inl ⟨j, by rw [his]; exact List.mem_flatMap.2 ⟨.own j, List.mem_of_getElem? hj, by simp [SV.owns1]⟩, oj, hoj, hb⟩) (ob := .dp t.elem e.size [row]) (fun X β' => .dp hDp fun b hb => by
      have hb' : some w.heap.size = some b := hb
      injection hb' with hb'
      subst hb'
      exact ⟨cells, hnew⟩)
  unfold Oper.wp
  rw [hrun, Oper.upon_value, hd]
  exact ⟨_, β', hK, hsim⟩

/-- a list that owns what is in it, as a row of cells -/
theorem Dp.owns {e s : Nat} {rows : List (List SV)} {v : BV} {X : Nat → Prop} (hO : ObR w X β v (.dp e s rows)) : ∃ (L : List Value) (us : Nat → Nat → Value) (fs : Nat → Nat → Nat → Prop), w.ownsRow 0 e s v.val rows.length L ∧
    Flat w X s ((List.range rows.length).map fun i => (List.range s).map fun k => .v (us i k)) L ∧ (∀ (i : Nat) (row : List SV), rows[i]? = some row → row.length = s) ∧
    (∀ i k row c, rows[i]? = some row → row[k]? = some c → Dp w c (us i k) (fs i k)) ∧ (∀ i k b, fs i k b → i < rows.length ∧ k < s ∧ v.ft b ∧ blk v.val ≠ some b) ∧ (∀ i k i' k' b, fs i k b → fs i' k' b → i = i' ∧ k = k') ∧ (∀ b, v.ft b → blk v.val = some b ∨ ∃ i k, fs i k b) := by
  cases hO with
  | dp hd he =>
    obtain ⟨vv, F⟩ := v
    simp only at hd he
    cases hd with
    | nil s F hF => exact ⟨[], fun _ _ => undef, fun _ _ _ => False, World.ownsRow_nil w 0 e s, ⟨by simp, by simp, by simp, by simp⟩, by simp, by simp, fun _ _ _ hf => hf.elim, fun _ _ _ _ _ hf => hf.elim, fun b hb => absurd hb (hF b)⟩
    | sl e' b cap cur us fs F hh h1 h2 h3 h4 h5 h6 h7 h8 h9 h10 hF =>
      obtain ⟨cur', hcur'⟩ := he b rfl
      rw [hh] at hcur'
      cases hcur'
      have hle : rows.length * s ≤ cur.size := by rw [h3]; exact Nat.mul_le_mul_right s h1
      refine ⟨cur.toList.take (rows.length * s), us, fs, ⟨by simp [Nat.min_eq_left hle], .inr ⟨b, cap, cur, rfl, Nat.zero_le _, hh, h1, h2, h3, rfl⟩⟩, ⟨by simp [Nat.min_eq_left hle], fun i row hr => ?_, fun u hu => ?_, fun i k row c hr hc => ?_⟩, h4, h7, fun i k b' hb => ?_, h10, fun b' hb => ?_⟩
      · rw [List.getElem?_map] at hr
        cases hq : (List.range rows.length)[i]? with
        | none => rw [hq] at hr; cases hr
        | some i' => rw [hq] at hr; simp only [Option.map_some, Option.some.injEq] at hr; subst hr; simp
      · obtain ⟨j, hj⟩ := List.mem_iff_getElem?.1 hu
        have hlt : j < rows.length * s := by
          have := (List.getElem?_eq_some_iff.1 hj).1
          simp only [List.length_take] at this
          omega
        obtain ⟨q1, q2, q3⟩ := unflat hlt
        have := h5 _ _ q1 q2
        rw [q3] at this
        rw [List.getElem?_take_of_lt hlt, Array.getElem?_toList, this] at hj
        cases hj
        exact h6 _ _ q1 q2
      · rw [List.getElem?_map] at hr
        cases hq : (List.range rows.length)[i]? with
        | none => rw [hq] at hr; cases hr
        | some i' =>
          rw [hq] at hr
          simp only [Option.map_some, Option.some.injEq] at hr
          subst hr
          have hi : i < rows.length := by simpa using (List.getElem?_eq_some_iff.1 hq).1
          have : i' = i := by rw [List.getElem?_range hi] at hq; cases hq; rfl
          subst this
          rw [List.getElem?_map] at hc
          cases hq2 : (List.range s)[k]? with
          | none => rw [hq2] at hc; cases hc
          | some k' =>
            rw [hq2] at hc
            simp only [Option.map_some, Option.some.injEq] at hc
            subst hc
            have hk : k < s := by simpa using (List.getElem?_eq_some_iff.1 hq2).1
            have : k' = k := by rw [List.getElem?_range hk] at hq2; cases hq2; rfl
            subst this
            refine ⟨us i' k', ?_, .v _⟩
            rw [List.getElem?_take_of_lt (lt_flat hi hk), Array.getElem?_toList]
            exact h5 i' k' hi hk
      · obtain ⟨q1, q2⟩ := h8 i k b' hb
        refine ⟨q1, q2, (hF b').2 (.inr ⟨i, k, hb⟩), fun hq => ?_⟩
        have hq' : some b = some b' := hq
        injection hq' with hq'
        exact h9 i k (hq' ▸ hb)
      · rcases (hF b').1 hb with rfl | ⟨i, k, hb⟩
        · exact .inl rfl
        · exact .inr ⟨i, k, hb⟩

theorem eff_deepA (hty : ∀ T d, lk T tys = some d → TyOk P T d) (h : Sim N X0 M w0 st β a w) {o : Oper} {c : Call} {x y : Operand} {T i j : Nat} {t e : TyD} (ho : o.op = .call c) (hc : c.callee = .builtin .append) (ha : c.args.toList = [x, y]) (hA : c.argTypes.toList = [T, T]) (ht : lk T tys = some t) (he : lk t.elem tys = some e)
    (hj : (st.ev x).strip = .own j) (hi : (st.ev y).strip = .own i) {rows news : List (List SV)} {e2 : Nat} (hlj : lk j st.hp = some (.dp t.elem e.size rows)) (hli : lk i st.hp = some (.dp e2 e.size news)) (hk : t.kind = 1) (n1 : (st.ev x).need) (n2 : (st.ev y).need) (hsz : 0 < e.size) (hby : 0 < e.bytes) (hzl : e.z.length = e.size) (hij : i ≠ j)
    (hbytes : (rows.length + news.length) * e.bytes ≤ 140737488355328) {d : Nat} (hd : o.dst = some d) (hdN : d < N) {K : St → Prop} (hK : K { fr := (d, .own d) :: er d (st.killL [d, j, i]).fr, hp := (d, .dp t.elem e.size (rows ++ news)) :: (st.killL [d, j, i]).hp }) {Q : Exit → Act → World → Prop} :
    o.wp P a w (Ok N X0 M w0 K) Q := by
  have hvx := (St.ev_strip h hj n1).own_inv
  have hvy := (St.ev_strip h hi n2).own_inv
  have hOj := h.objs j _ hlj
  have hOi := h.objs i _ hli
  obtain ⟨L1, us1, fs1, hown1, hf1, hlen1, hd1, hfs1, hdis1, hft1⟩ := Dp.owns hOj
  obtain ⟨L2, us2, fs2, hown2, hf2, hlen2, hd2, hfs2, hdis2, hft2⟩ := Dp.owns hOi
  have hnews : ((∃ p cap, (β i).val = .slice p 0 cap) ∧ ((List.range news.length).map fun i => (List.range e.size).map fun k => SV.v (us2 i k)) = []) ∨ ∃ b off cap L, (β i).val = .slice (some ⟨b, off, none⟩) ((List.range news.length).map fun i => (List.range e.size).map fun k => SV.v (us2 i k)).length cap ∧ Flat w (XX X0 β st.hp) e.size ((List.range news.length).map fun i => (List.range e.size).map fun k => SV.v (us2 i k)) L ∧ ∀ j u, L[j]? = some u → w.cell? ((⟨b, off, none⟩ : Addr).add j) = some u := by
    rcases hown2.2 with ⟨q1, q2⟩ | ⟨b, cap, cur, q1, _⟩
    · exact .inl ⟨⟨_, _, q1⟩, by rw [q2]; rfl⟩
    · exact .inr ⟨b, 0, cap, L2, by rw [q1]; simp, hf2, hown2.cells (g := b) (by rw [q1]; rfl)⟩
  obtain ⟨v', w', L', hrun, hown', hfl', hg, hat⟩ := app_run hty ho hc ha hA ht he hk hsz hby hzl (X := XX X0 β st.hp) (rows := (List.range rows.length).map fun i => (List.range e.size).map fun k => SV.v (us1 i k)) (news := (List.range news.length).map fun i => (List.range e.size).map fun k => SV.v (us2 i k)) hvx hvy (by simpa using hown1) hf1 hnews (by simpa using hbytes)
  have hlen : ((List.range rows.length).map (fun i => (List.range e.size).map fun k => SV.v (us1 i k)) ++ (List.range news.length).map fun i => (List.range e.size).map fun k => SV.v (us2 i k)).length = (rows ++ news).length := by simp
  rw [hlen] at hown'
  -- the cells behind it
  let us : Nat → Nat → Value := fun q k => if q < rows.length then us1 q k else us2 (q - rows.length) k
  have hcells : ∀ q k, q < (rows ++ news).length → k < e.size → L'[q * e.size + k]? = some (us q k) := fun q k hq hkk => by
    have hrow : ((List.range rows.length).map (fun i => (List.range e.size).map fun k => SV.v (us1 i k)) ++ (List.range news.length).map fun i => (List.range e.size).map fun k => SV.v (us2 i k))[q]? = some ((List.range e.size).map fun k => SV.v (us q k)) := by
      rw [List.length_append] at hq
      by_cases hlt : q < rows.length
      · rw [List.getElem?_append_left (by simpa using hlt), List.getElem?_map, List.getElem?_range hlt]
        simp [us, hlt]
      · rw [List.getElem?_append_right (by simp; omega), List.getElem?_map]
        have : q - ((List.range rows.length).map fun i => (List.range e.size).map fun k => SV.v (us1 i k)).length = q - rows.length := by simp
        rw [this, List.getElem?_range (by omega)]
        simp [us, hlt]
    obtain ⟨u, hu, hR⟩ := hfl'.cell q k _ (.v (us q k)) hrow (by rw [List.getElem?_map, List.getElem?_range hkk]; rfl)
    cases hR
    exact hu
  have hone : ∀ q k, q < (rows ++ news).length → k < e.size → (us q k).oneCell' = true := fun q k hq hkk => hfl'.one _ (List.mem_of_getElem? (hcells q k hq hkk))
  have hblkj : ∀ b, (β j).val.ownBlock = some b → blk (β j).val = some b := fun b hb => by
    generalize (β j).val = z at hb
    cases z <;> simp only [Value.ownBlock, reduceCtorEq] at hb
    rename_i ad _ _
    cases ad with
    | none => cases hb
    | some ad => exact hb
  have hother : ∀ b, b < w.heap.size → blk (β j).val ≠ some b → w'.heap[b]? = w.heap[b]? := fun b hlt hne => hg.block b hlt fun e' => hne (hblkj b e'.symm)
  have hnfs1 : ∀ q k b, fs1 q k b → b < w.heap.size ∧ blk (β j).val ≠ some b := fun q k b hb => ⟨hOj.lt (hfs1 q k b hb).2.2.1, (hfs1 q k b hb).2.2.2⟩
  have hnfs2 : ∀ q k b, fs2 q k b → b < w.heap.size ∧ blk (β j).val ≠ some b := fun q k b hb => ⟨hOi.lt (hfs2 q k b hb).2.2.1, fun hq => hij (h.inj i j _ _ b hli hlj (hfs2 q k b hb).2.2.1 (hOj.blkft hq))⟩
  let fs : Nat → Nat → Nat → Prop := fun q k b => (q < rows.length ∧ fs1 q k b) ∨ (rows.length ≤ q ∧ fs2 (q - rows.length) k b)
  have hfslt : ∀ q k b, fs q k b → b < w.heap.size ∧ blk (β j).val ≠ some b ∧ ((β j).ft b ∨ (β i).ft b) := fun q k b hb => by
    rcases hb with ⟨_, hb⟩ | ⟨_, hb⟩
    · exact ⟨(hnfs1 q k b hb).1, (hnfs1 q k b hb).2, .inl (hfs1 q k b hb).2.2.1⟩
    · exact ⟨(hnfs2 _ k b hb).1, (hnfs2 _ k b hb).2, .inr (hfs2 _ k b hb).2.2.1⟩
  have hlenA : ∀ (q : Nat) (row : List SV), (rows ++ news)[q]? = some row → row.length = e.size := fun q row hr => by
    rw [List.getElem?_append] at hr
    split at hr
    · exact hlen1 q row hr
    · exact hlen2 _ row hr
  have hdA : ∀ q k row c, (rows ++ news)[q]? = some row → row[k]? = some c → Dp w' c (us q k) (fs q k) := fun q k row c hr hcc => by
    rw [List.getElem?_append] at hr
    split at hr
    · rename_i hlt
      have := hd1 q k row c hr hcc
      have hu : us q k = us1 q k := by simp [us, hlt]
      rw [hu]
      refine (this.keep fun b hb => hother b (hnfs1 q k b hb).1 (hnfs1 q k b hb).2).ext fun b => ⟨fun g => ?_, fun g => .inl ⟨hlt, g⟩⟩
      rcases g with ⟨_, g⟩ | ⟨g, _⟩
      · exact g
      · omega
    · rename_i hlt
      have := hd2 _ k row c hr hcc
      have hu : us q k = us2 (q - rows.length) k := by simp [us, hlt]
      rw [hu]
      refine (this.keep fun b hb => hother b (hnfs2 _ k b hb).1 (hnfs2 _ k b hb).2).ext fun b => ⟨fun g => ?_, fun g => .inr ⟨by omega, g⟩⟩
      rcases g with ⟨g, _⟩ | ⟨_, g⟩
      · omega
      · exact g
  have hinA : ∀ q k b, fs q k b → q < (rows ++ news).length ∧ k < e.size := fun q k b hb => by
    rw [List.length_append]
    rcases hb with ⟨h1, hb⟩ | ⟨h1, hb⟩
    · exact ⟨by omega, (hfs1 q k b hb).2.1⟩
    · have := hfs2 _ k b hb
      exact ⟨by omega, this.2.1⟩
  have hdisA : ∀ q k q' k' b, fs q k b → fs q' k' b → q = q' ∧ k = k' := fun q k q' k' b hb hb' => by
    rcases hb with ⟨h1, hb⟩ | ⟨h1, hb⟩ <;> rcases hb' with ⟨h2, hb'⟩ | ⟨h2, hb'⟩
    · exact hdis1 q k q' k' b hb hb'
    · exact absurd (h.inj i j _ _ b hli hlj (hfs2 _ k' b hb').2.2.1 (hfs1 q k b hb).2.2.1) hij
    · exact absurd (h.inj i j _ _ b hli hlj (hfs2 _ k b hb).2.2.1 (hfs1 q' k' b hb').2.2.1) hij
    · have := hdis2 _ _ _ _ b hb hb'
      exact ⟨by omega, this.2⟩
  let F : Nat → Prop := fun b => blk v' = some b ∨ ∃ q k, fs q k b
  have hv'blk : ∀ b, blk v' = some b → ((β j).ft b ∨ b = w.heap.size) ∧ (blk (β j).val = some b ∨ b = w.heap.size) := fun b hb => by
    have hb' : v'.ownBlock = some b := by
      rcases hown'.2 with ⟨q1, _⟩ | ⟨b', cap, cur, q1, _⟩
      · rw [q1] at hb; cases hb
      · rw [q1] at hb ⊢; exact hb
    rcases hat with hat | hat
    · have := hblkj b (hat ▸ hb')
      exact ⟨.inl (hOj.blkft this), .inl this⟩
    · rw [hat] at hb'
      injection hb' with hq
      exact ⟨.inr hq.symm, .inr hq.symm⟩
  have hDp : Dp w' (.sl e.size (rows ++ news)) v' F ∧ ∀ b, blk v' = some b → ∃ cur, w'.heap[b]? = some (.cells cur t.elem (0, 0)) := by
    rcases hown'.2 with ⟨q1, q2⟩ | ⟨b', cap, cur, q1, _, hh, g1, g2, g3, g4⟩
    · have hnil : rows ++ news = [] := List.eq_nil_of_length_eq_zero q2
      have hr0 : rows = [] := (List.append_eq_nil_iff.1 hnil).1
      have hn0 : news = [] := (List.append_eq_nil_iff.1 hnil).2
      refine ⟨?_, fun b hb => by rw [q1] at hb; cases hb⟩
      rw [hnil, q1]
      refine .nil _ _ fun b hb => ?_
      rcases hb with hb | ⟨q, k, hb⟩
      · rw [q1] at hb; cases hb
      · have := (hinA q k b hb).1
        rw [hnil] at this
        simp at this
    · refine ⟨?_, fun b hb => ?_⟩
      · rw [q1]
        refine .sl t.elem b' cap cur us fs F hh g1 g2 g3 hlenA (fun q k hq hkk => ?_) hone hdA hinA (fun q k hb => ?_) hdisA (fun b => ?_)
        · have := hcells q k hq hkk
          rw [← g4] at this
          have hlt : q * e.size + k < (rows ++ news).length * e.size := lt_flat hq hkk
          rw [List.getElem?_take_of_lt hlt, Array.getElem?_toList] at this
          exact this
        · have := hfslt q k b' hb
          rcases (hv'blk b' (by rw [q1]; rfl)).2 with g | g
          · exact this.2.1 g
          · omega
        · show (blk v' = some b ∨ _) ↔ _
          rw [q1]
          simp [blk, eq_comm]
      · rw [q1] at hb
        have hb' : some b' = some b := hb
        injection hb' with hb'
        subst hb'
        exact ⟨cur, hh⟩
  obtain ⟨β', hsim⟩ := h.newD hdN (gone := [j, i]) (w' := w') hg.os hg.tape hg.output hg.size (fun b hlt hn => hother b hlt fun hq => hn j _ hlj (hOj.blkft hq)) (fun q oq b hq hqn hb => hother b ((h.objs q oq hq).lt hb) fun hbq => by
      have := h.inj q j oq _ b hq hlj hb (hOj.blkft hbq)
      exact hqn (by rw [this]; simp)) (v1 := v') (F := F) (by rcases hown'.2 with ⟨q1, _⟩ | ⟨b', cap, cur, q1, _⟩ <;> rw [q1] <;> rfl) (fun b hb => by
      rcases hb with hb | ⟨q, k, hb⟩
      · rcases (hv'blk b hb).1 with g | g
        · exact .inl ⟨j, by simp, _, hlj, g⟩
        · exact .inr (by omega)
      · rcases (hfslt q k b hb).2.2 with g | g
        · exact .inl ⟨j, by simp, _, hlj, g⟩
        · exact .inl ⟨i, by simp, _, hli, g⟩) (ob := .dp t.elem e.size (rows ++ news)) (fun X β' => .dp hDp.1 hDp.2)
  unfold Oper.wp
  rw [hrun, Oper.upon_value, hd]
  exact ⟨_, β', hK, hsim⟩

theorem deepQ_sound (hty : ∀ T d, lk T tys = some d → TyOk P T d) (h : Sim N X0 M w0 st β a w) {o : Oper} {p : Prop} {ob : Ob} {gone : List Nat} (hq : st.deepQ tys o = some (p, ob, gone)) (hp : p) {d : Nat} (hd : o.dst = some d) (hdN : d < N)
    {K : St → Prop} (hK : K { fr := (d, .own d) :: er d (st.killL (d :: gone)).fr, hp := (d, ob) :: (st.killL (d :: gone)).hp }) {Q : Exit → Act → World → Prop} : o.wp P a w (Ok N X0 M w0 K) Q := by
  unfold St.deepQ at hq
  split at hq
  · rename_i T parts ho
    split at hq
    · rename_i x t hpa ht
      split at hq
      · rename_i e p' row is he habs
        simp only [Option.some.injEq, Prod.mk.injEq] at hq
        obtain ⟨rfl, rfl, rfl⟩ := hq
        obtain ⟨h0, h1, h2, h3, h4, h5, h6, h7, h8⟩ := hp
        exact eff_deepB hty h ho hpa ht he habs h0 h1 h2 h3 h4 h5 h6 h7 h8 hd hdN hK
      · cases hq
    · cases hq
  · rename_i c ho
    split at hq
    · rename_i hc
      split at hq
      · rename_i x y T T' ha hA
        split at hq
        · rename_i t j i ht hj hi
          split at hq
          · rename_i e e' s rows e2 s2 news he hlj hli
            simp only [Option.some.injEq, Prod.mk.injEq] at hq
            obtain ⟨rfl, rfl, rfl⟩ := hq
            obtain ⟨rfl, h2, h3, h4, h5, h6, h7, h8, rfl, rfl, rfl, h9⟩ := hp
            exact eff_deepA hty h ho hc ha hA ht he hj hi hlj hli h2 h3 h4 h5 h6 h7 h8 h9 hd hdN hK
          · cases hq
        · cases hq
      · cases hq
    · cases hq
  · cases hq
end
end Go.Vc

