/-
  DERIVED. Small things around VcI and VcJ.
-/
import Derived.Test.YtdbjioanlkilkaaVcJ
import Derived.KernelRfl
namespace Go.Vc
set_option linter.unusedVariables false

def condG (x : SV) (p q : Prop) : Prop := match x with
  | .v (.bool b) => (b = true → p) ∧ (b = false → q)
  | _ => False

section
variable {c : Cx} {N : Nat} {X0 : Nat → Prop} {M : Nat → BV → Prop} {w0 : World} {st : St} {K : Exit → St → Prop}
theorem WP.condW {x : Operand} {p q : Code} (h : condG (st.ev x) (WP c N X0 M w0 p st K) (WP c N X0 M w0 q st K)) : WP c N X0 M w0 (.cond x p q) st K := by
  unfold condG at h
  split at h
  · rename_i b hb; exact WP.cond hb h.1 h.2
  · exact h.elim
end

/-- what an operation that is not run may be taken to yield -/
def offV (tys : List (Nat × TyD)) (o : Oper) : SV := match lk o.type tys with
  | some d => match d.z with
    | [z] => .v z
    | _ => .junk
  | none => .junk
/-- one operation that yields a value, in the form that simp carries out -/
def St.stepV (tys : List (Nat × TyD)) (C : List (FuncId × Ctr)) (N : Nat) (ops : Array Oper) (o : Oper) (st : St) (K : SV → Prop) : Prop :=
  dstOk N o.dst = true ∧ match o.guard with
  | none => (match o.op with
    | .call c => (match c.callee with
      | .value x => (match st.callF (o.dst.getD 0) C c x with
        | some (ob, r) => ob ∧ K r
        | none => False)
      | _ => (match st.pr tys (.call c) with
        | some (ob, r) => ob ∧ K r
        | none => False))
    | op => (match st.pr tys op with
      | some (ob, r) => ob ∧ K r
      | none => False))
  | some (j, want) => match (ops[j]?).bind (·.dst) with
    | some t => (match guardB want (st.get t) with
      | some c => (match o.op with
        | .call cl => (match cl.callee with
          | .value x => (match st.callF (o.dst.getD 0) C cl x with
            | some (ob, r) => (c = true → ob) ∧ K (mkCond c r)
            | none => c = false ∧ K (mkCond c (offV tys o)))
          | _ => (match st.pr tys (.call cl) with
            | some (ob, r) => (c = true → ob) ∧ K (mkCond c r)
            | none => c = false ∧ K (mkCond c (offV tys o))))
        | op => (match st.pr tys op with
          | some (ob, r) => (c = true → ob) ∧ K (mkCond c r)
          | none => c = false ∧ K (mkCond c (offV tys o))))
      | none => False)
    | none => False
def St.runW (tys : List (Nat × TyD)) (C : List (FuncId × Ctr)) (N : Nat) (ops : Array Oper) : List Oper → St → (St → Prop) → Prop
  | [], st, K => K st
  | o :: l, st, K => st.stepV tys C N ops o fun x => St.runW tys C N ops l (st.put o.dst x) K

theorem stepV_val {tys : List (Nat × TyD)} {C : List (FuncId × Ctr)} {N : Nat} {ops : Array Oper} {o : Oper} {st : St} {K : SV → Prop} (h : st.stepV tys C N ops o K) : ∃ x, st.val tys C N ops o x ∧ K x := by
  obtain ⟨hd, h⟩ := h
  have prU : ∀ {op}, (match st.pr tys op with | some (ob, r) => ob ∧ K r | none => False) → ∃ x, (∃ ob, st.pr tys op = some (ob, x) ∧ ob) ∧ K x := fun {op} h => by
    split at h
    · rename_i ob r hp; exact ⟨r, ⟨ob, hp, h.1⟩, h.2⟩
    · exact h.elim
  have prG : ∀ {op} {g : Bool}, (match st.pr tys op with | some (ob, r) => (g = true → ob) ∧ K (mkCond g r) | none => g = false ∧ K (mkCond g (offV tys o))) → (∃ x, (∃ ob r, st.pr tys op = some (ob, r) ∧ x = mkCond g r ∧ (g = true → ob)) ∧ K x) ∨ (g = false ∧ K (mkCond g (offV tys o))) := fun {op g} h => by
    split at h
    · rename_i ob r hp; exact .inl ⟨_, ⟨ob, r, hp, rfl, h.1⟩, h.2⟩
    · exact .inr h
  cases hg : o.guard with
  | none =>
    rw [hg] at h
    simp only at h
    have hval : ∀ {x}, st.valU tys C o x → st.val tys C N ops o x := fun {x} hx => .inl ⟨hd, by rw [hg]; exact hx⟩
    cases ho : o.op with
    | call c =>
      rw [ho] at h
      cases hc : c.callee with
      | value y =>
        simp only [hc] at h
        split at h
        case h_2 => exact h.elim
        case h_1 _ ob res hcf =>
        exact ⟨res, hval (by unfold St.valU; rw [ho]; simp only [hc]; exact ⟨ob, hcf, h.1⟩), h.2⟩
      | _ =>
        simp only [hc] at h
        obtain ⟨x, h1, h2⟩ := prU h
        exact ⟨x, hval (by unfold St.valU; rw [ho]; simp only [hc]; exact h1), h2⟩
    | _ =>
      rw [ho] at h
      obtain ⟨x, h1, h2⟩ := prU (op := o.op) (by rw [ho]; exact h)
      rw [ho] at h1
      exact ⟨x, hval (by unfold St.valU; rw [ho]; exact h1), h2⟩
  | some gw =>
    obtain ⟨j, want⟩ := gw
    rw [hg] at h
    simp only at h
    cases ht : (ops[j]?).bind (·.dst) with
    | none => rw [ht] at h; exact h.elim
    | some t =>
      rw [ht] at h
      simp only at h
      split at h
      case h_2 => exact h.elim
      case h_1 _ cc hcc =>
        have hval : ∀ {x}, st.valG tys C cc o x → st.val tys C N ops o x := fun {x} hx => .inl ⟨hd, by rw [hg]; simp only [ht, hcc]; exact hx⟩
        have hoff : cc = false → K (mkCond cc (offV tys o)) → ∃ x, st.val tys C N ops o x ∧ K x := fun h1 h2 => by
          subst h1
          exact ⟨_, .inr ⟨hd, ⟨_, rfl⟩, by rw [hg]; simp only [ht, hcc]⟩, h2⟩
        cases ho : o.op with
        | call c =>
          rw [ho] at h
          cases hc : c.callee with
          | value y =>
            simp only [hc] at h
            split at h
            case h_2 => exact hoff h.1 h.2
            case h_1 _ ob res hcf =>
            exact ⟨_, hval (by unfold St.valG; rw [ho]; simp only [hc]; exact ⟨ob, res, hcf, rfl, h.1⟩), h.2⟩
          | _ =>
            simp only [hc] at h
            rcases prG h with ⟨x, h1, h2⟩ | ⟨h1, h2⟩
            · exact ⟨x, hval (by unfold St.valG; rw [ho]; simp only [hc]; exact h1), h2⟩
            · exact hoff h1 h2
        | _ =>
          rw [ho] at h
          rcases prG (op := o.op) (by rw [ho]; exact h) with ⟨x, h1, h2⟩ | ⟨h1, h2⟩
          · rw [ho] at h1
            exact ⟨x, hval (by unfold St.valG; rw [ho]; exact h1), h2⟩
          · exact hoff h1 h2

theorem runV_of_runW {tys : List (Nat × TyD)} {C : List (FuncId × Ctr)} {N : Nat} {ops : Array Oper} {K : St → Prop} : ∀ (l : List Oper) {st : St}, St.runW tys C N ops l st K → St.runV tys C N ops l st K
  | [], st, h => h
  | o :: l, st, h => by
    obtain ⟨x, h1, h2⟩ := stepV_val h
    exact ⟨x, h1, runV_of_runW l h2⟩

theorem WP.drawW {c : Cx} {N : Nat} {X0 : Nat → Prop} {M : Nat → BV → Prop} {w0 : World} {K : Exit → St → Prop} {id : Nat} {l : List Oper} {st : St} (m : Nat) (hB : drawB l.toArray m = true) (hm : c.P.follows .mixedOrders = true)
    (h : St.runW c.tys c.C N l.toArray (l.take m) st fun st' => St.runR c.tys c.C N l.toArray (l.drop m) st' (K .normal)) : WP c N X0 M w0 (.region id l.toArray true) st K :=
  WP.draw m hB hm (runV_of_runW _ h)

structure Cn (P : Program) (f : FuncId) (ctr : Ctr) : Prop where
  call : Callable P f
  holds : ∀ d args, (ctr.pure d args).1 → Holds P f args (ctr.pure d args).2.1 (ctr.pure d args).2.2
  holdsL : ∀ d args obs, (ctr.wri d args obs).1 → HoldsL P f args obs (ctr.wri d args obs).2.1 (ctr.wri d args obs).2.2.1 (ctr.wri d args obs).2.2.2

theorem COk.nil (P : Program) : COk P [] := ⟨fun f c h => (by cases h), fun f c h => (by cases h), fun f c h => (by cases h)⟩
theorem COk.cons {P : Program} {f : FuncId} {ctr : Ctr} {C : List (FuncId × Ctr)} (h : Cn P f ctr) (hC : COk P C) : COk P ((f, ctr) :: C) where
  call := fun g c hg => by
    simp only [lk] at hg
    by_cases he : g = f
    · subst he; exact h.call
    · rw [if_neg he] at hg; exact hC.call g c hg
  holds := fun g c hg => by
    simp only [lk] at hg
    by_cases he : g = f
    · subst he; rw [if_pos rfl] at hg; cases hg; exact h.holds
    · rw [if_neg he] at hg; exact hC.holds g c hg
  holdsL := fun g c hg => by
    simp only [lk] at hg
    by_cases he : g = f
    · subst he; rw [if_pos rfl] at hg; cases hg; exact h.holdsL
    · rw [if_neg he] at hg; exact hC.holdsL g c hg

/-- a contract of a function that writes into no argument: of arguments A x, of which pre x holds -/
def pur {X : Type} (dec : List SV → X) (A : X → List SV) (pre : X → Prop) (res : Nat → X → SV) (robs : Nat → X → List (Nat × Ob)) : Ctr :=
  { pure := fun d args => (args = A (dec args) ∧ pre (dec args), res d (dec args), robs d (dec args)) }
/-- .. of a function that is lent the arguments 'lend' and given the arguments 'move': of arguments A x and objects B x -/
def len {X : Type} (lend move : List Nat) (dec : List SV → List (Nat × Ob) → X) (A : X → List SV) (B : X → List (Nat × Ob)) (pre : X → Prop) (res : Nat → X → SV) (robs : Nat → X → List (Nat × Ob)) (kept : X → List (Nat × Ob)) : Ctr :=
  { lend := lend, move := move, wri := fun d args obs => (args = A (dec args obs) ∧ obs = B (dec args obs) ∧ d < 900000 ∧ pre (dec args obs), res d (dec args obs), robs d (dec args obs), kept (dec args obs)) }
theorem Cn.pur {P : Program} {f : FuncId} {X : Type} {dec : List SV → X} {A : X → List SV} {pre : X → Prop} {res : Nat → X → SV} {robs : Nat → X → List (Nat × Ob)} {fn : Func} {code : Code} (hf : P.funcs[f]? = some fn) (hn : (fn.name == "runtime.NumGoroutine") = false) (hb : fn.body = some code)
    (h : ∀ d x, pre x → Holds P f (A x) (res d x) (robs d x)) : Cn P f (pur dec A pre res robs) :=
  ⟨⟨fn, hf, hn, by rw [hb]; rfl⟩, fun d args ha => (by have := h d (dec args) ha.2; rw [← ha.1] at this; exact this), fun _ _ _ h => h.elim⟩
theorem Cn.len {P : Program} {f : FuncId} {X : Type} {lend move : List Nat} {dec : List SV → List (Nat × Ob) → X} {A : X → List SV} {B : X → List (Nat × Ob)} {pre : X → Prop} {res : Nat → X → SV} {robs : Nat → X → List (Nat × Ob)} {kept : X → List (Nat × Ob)} {fn : Func} {code : Code}
    (hf : P.funcs[f]? = some fn) (hn : (fn.name == "runtime.NumGoroutine") = false) (hb : fn.body = some code) (h : ∀ d x, d < 900000 → pre x → HoldsL P f (A x) (B x) (res d x) (robs d x) (kept x)) : Cn P f (len lend move dec A B pre res robs kept) :=
  ⟨⟨fn, hf, hn, by rw [hb]; rfl⟩, fun _ _ h => h.elim, fun d args obs ha => by
    have := h d (dec args obs) ha.2.2.1 ha.2.2.2
    rw [← ha.1, ← ha.2.1] at this
    exact this⟩

/-! what an argument holds -/
def aI (args : List SV) (i : Nat) : Int := match args[i]? with
  | some (.v (.int _ n)) => n
  | _ => 0
def aB (args : List SV) (i : Nat) : Bool := match args[i]? with
  | some (.v (.bool b)) => b
  | _ => false
def aS (args : List SV) (i : Nat) : ByteArray := match args[i]? with
  | some (.v (.string s)) => s
  | _ => ⟨#[]⟩
def aR (args : List SV) (i : Nat) : List (List SV) := match args[i]? with
  | some (.sl _ rows) => rows
  | _ => []
def aC (args : List SV) (i : Nat) : List SV := match args[i]? with
  | some (.agg cs) => cs
  | _ => []

/-- the rows of the object called i -/
def oR (obs : List (Nat × Ob)) (i : Nat) : List (List SV) := match lk i obs with
  | some (.sl _ _ rows) => rows
  | _ => []
def oE (obs : List (Nat × Ob)) (i : Nat) : Nat := match lk i obs with
  | some (.sl e _ _) => e
  | some (.dp e _ _) => e
  | _ => 0
def oD (obs : List (Nat × Ob)) (i : Nat) : List (List SV) := match lk i obs with
  | some (.dp _ _ rows) => rows
  | _ => []
def oC (obs : List (Nat × Ob)) (i : Nat) : List SV := match lk i obs with
  | some (.box _ cs) => cs
  | _ => []
theorem Holds.go {c : Cx} {N : Nat} {f : FuncId} {fn : Func} {code : Code} (hf : c.P.funcs[f]? = some fn) (hb : fn.body = some code) {rs : List ResultVar} (hrs : fn.results = rs.toArray) (hn : fn.ntmps = N) (hfew : N ≤ 900000) {args : List SV} (ha : args.length ≤ N) {res : SV} {robs : List (Nat × Ob)}
    (hrb : (robs.all fun p => p.2.pb) = true)
    (h : ∀ (X0 : Nat → Prop) (w0 : World), WP c N X0 (fun _ _ => False) w0 code ⟨argsL 0 args, []⟩ (retK c.tys rs res robs)) : Holds c.P f args res robs :=
  Holds.of_WP hf hb (by rw [hrs]) hn hfew ha (fun {id ob} hi => List.all_eq_true.1 hrb _ (lk_mem hi)) h
theorem HoldsL.go {c : Cx} {N : Nat} {f : FuncId} {fn : Func} {code : Code} (hf : c.P.funcs[f]? = some fn) (hb : fn.body = some code) {rs : List ResultVar} (hrs : fn.results = rs.toArray) (hn : fn.ntmps = N) (hfew : N ≤ 900000) {args : List SV} (ha : args.length ≤ N)
    {obs : List (Nat × Ob)} {res : SV} {robs kept : List (Nat × Ob)} (hrb : (robs.all fun p => p.2.pb) = true) (hrid : ∀ i ∈ robs.map (·.1), i < 900000) (hres : ∀ i ∈ res.owns2, i ∈ robs.map (·.1))
    (hkid : ∀ i ∈ kept.map (·.1), 1000000 ≤ i) (hkre : kept.map (fun p => (p.1, p.2.up (SV.ren1 (kept.map fun q => (q.1, q.1))))) = kept) (hkn : nodupN (kept.map (·.1)) = true) (hall : ∀ i ∈ obs.map (·.1), 1000000 ≤ i → i ∈ kept.map (·.1))
    (h : ∀ (X0 : Nat → Prop) (M : Nat → BV → Prop) (w0 : World), WP c N X0 M w0 code ⟨argsL 0 args, obs⟩ (retL c.tys rs res robs kept)) : HoldsL c.P f args obs res robs kept :=
  HoldsL.of_WP hf hb (by rw [hrs]) hn hfew ha (fun {id ob} hi => List.all_eq_true.1 hrb _ (lk_mem hi)) hrid hres hkid hkre (nodupN_iff.1 hkn) hall h

theorem beqT (b : Bool) : (b == true) = b := by cases b <;> rfl
theorem beqF (b : Bool) : (b == false) = !b := by cases b <;> rfl

/-- a result's number is the caller's to choose -/
theorem Holds.own1 {P : Program} {f : FuncId} {args : List SV} {i e s : Nat} {rows : List (List SV)} (h : Holds P f args (.own i) [(i, .sl e s rows)]) (j : Nat) : Holds P f args (.own j) [(j, .sl e s rows)] := by
  intro w X vs hG hX hl ha
  refine (h w X vs hG hX hl ha).mono fun en w' hp => ?_
  obtain ⟨v, β, rfl, hb, hβ, hR, ⟨hO, _⟩, hn⟩ := hp
  have hv := hR.own_inv
  have hO1 := hO i (.sl e s rows) (by simp [lk])
  have hS : Same (XX X β [(i, .sl e s rows)]) w' w' := ⟨Nat.le_refl _, fun _ _ _ => rfl⟩
  refine ⟨v, fun _ => β i, rfl, hb, fun _ => hβ i, ?_, ⟨fun id ob hi => ?_, fun a b oa ob bb ha hb _ _ => ?_⟩, fun id ob b hi hbb => ?_⟩
  · rw [hv]; exact .own j
  · simp only [lk] at hi
    split at hi
    · cases hi
      refine (hO1.mono hS (fun b _ hx => ?_) (fun _ _ => rfl)).sl_beta
      rcases hx with hx | ⟨id2, o2, h2, h3⟩
      · exact .inl hx
      · exact .inr ⟨i, .sl e s rows, by simp [lk], h3⟩
    · cases hi
  · simp only [lk] at ha hb
    split at ha
    · split at hb
      · rename_i e1 e2; rw [e1, e2]
      · cases hb
    · cases ha
  · exact hn i (.sl e s rows) b (by simp [lk]) hbb

/-! ## lists that are laid one after the other -/

def filled {α : Type} (enc : α → List SV) (z : List SV) (L : List α) (k : Nat) : List (List SV) := (L.take k).map enc ++ List.replicate (L.length - k) z
section
variable {α : Type} (enc : α → List SV) (z : List SV) (L : List α)
theorem filled_zero : filled enc z L 0 = List.replicate L.length z := by simp [filled]
theorem filled_all : filled enc z L L.length = L.map enc := by simp [filled]
theorem filled_len (k : Nat) (hk : k ≤ L.length) : (filled enc z L k).length = L.length := by simp [filled]; omega
theorem filled_row (k : Nat) (hk : k < L.length) : rowAt (filled enc z L k) k = z := by
  unfold rowAt filled
  rw [List.getElem?_append_right (by simp; omega)]
  simp only [List.length_map, List.length_take, Nat.min_eq_left (Nat.le_of_lt hk), Nat.sub_self]
  rw [List.getElem?_replicate, if_pos (by omega)]; rfl
theorem filled_set (k : Nat) (hk : k < L.length) : (filled enc z L k).set k (enc L[k]) = filled enc z L (k + 1) := by
  unfold filled
  have e1 : L.length - k = (L.length - (k + 1)) + 1 := by omega
  rw [List.set_append, if_neg (by simp; omega), e1, List.replicate_succ]
  simp only [List.length_map, List.length_take, Nat.min_eq_left (Nat.le_of_lt hk), Nat.sub_self, List.set_cons_zero]
  rw [List.take_succ_eq_append_getElem hk]
  simp only [List.map_append, List.map_cons, List.map_nil, List.append_assoc, List.cons_append, List.nil_append]
theorem rowAt_map (k : Nat) (hk : k < L.length) : rowAt (L.map enc) k = enc L[k] := by
  unfold rowAt
  rw [List.getElem?_map, List.getElem?_eq_getElem hk]; rfl
end
end Go.Vc
