/-
  DERIVED. Several texts of ours in one: VcQ, VcS, VcK, VcT, VtA, VtI, VtX, VtMk, VtNumP, VtPU, VtName.
-/
import Derived.Test.YtdhkhapbldkkdaaDoorVq0
import Derived.Test.YtdhkhapbldkkdaaDoorVq1
import Derived.Test.YtdhkhapbldkkdaaDoorVq2
import Derived.Test.YtdhkhapbldkkdaaDoorVq3
import Derived.KernelRfl
import Derived.Test.YtdhkhapbldkkdaaDoorProg
set_option linter.unusedSimpArgs false
set_option linter.unusedVariables false
/-
  DERIVED. A region whose order Go leaves open and whose operations make objects: any order.
-/
namespace Go.Vc
set_option linter.unusedVariables false
set_option linter.unusedSimpArgs false

def SV.leaf (ids : List Nat) : SV → Bool
  | .own i => ids.contains i
  | .ptr i _ _ _ => ids.contains i
  | .agg _ => true
  | .tup _ => true
  | .fn _ _ => true
  | .cond _ _ => true
  | _ => false
def SV.leaf2 (ids : List Nat) : SV → Bool
  | .agg cs => cs.any (SV.leaf ids)
  | x => x.leaf ids
/-- it speaks of one of these objects -/
def SV.refs (ids : List Nat) : SV → Bool
  | .agg cs => cs.any (SV.leaf ids)
  | .tup cs => cs.any (SV.leaf2 ids)
  | .fn _ cs => cs.any (SV.leaf ids)
  | .cond _ x => x.leaf2 ids
  | x => x.leaf ids
def Ob.refs (ids : List Nat) : Ob → Bool
  | .sl _ _ _ => false
  | .box _ cs => cs.any (SV.refs ids)
  | .mp _ _ => false
  | .dp _ _ _ => false
  | .dq _ _ _ _ cs => cs.any (SV.refs ids)
def badS (ids : List Nat) (fr : List (Nat × SV)) : List Nat := (fr.filter fun p => p.2.refs ids).map (·.1)
def badO (ids : List Nat) (hp : List (Nat × Ob)) : List Nat := ids ++ (hp.filter fun p => p.2.refs ids).map (·.1)
def offK {α : Type} (bad : List Nat) (l : List (Nat × α)) : List (Nat × α) := match bad with
  | [] => l
  | _ => l.filter fun p => !bad.contains p.1
def St.hide (ids : List Nat) (st : St) : St := match ids with
  | [] => st
  | _ => { fr := offK (badS ids st.fr) st.fr, hp := offK (badO ids st.hp) st.hp }

theorem leaf_kill {ids : List Nat} {d : Nat} (hd : d ∈ ids) {x : SV} (h : x.leaf ids = false) : x.kill1 d = x := by
  cases x with
  | own i =>
    simp only [SV.leaf] at h
    simp only [SV.kill1]
    rw [if_neg]
    rintro rfl
    rw [List.contains_iff_mem.2 hd] at h; cases h
  | ptr i s a b =>
    simp only [SV.leaf] at h
    simp only [SV.kill1]
    rw [if_neg]
    rintro rfl
    rw [List.contains_iff_mem.2 hd] at h; cases h
  | agg cs => cases h
  | tup cs => cases h
  | fn f cs => cases h
  | cond g y => cases h
  | _ => rfl
theorem any_false {f : SV → Bool} {cs : List SV} (h : cs.any f = false) : ∀ c ∈ cs, f c = false := by
  intro c hc
  rw [List.any_eq_false] at h
  simpa using h c hc
theorem map_same {f : SV → SV} {cs : List SV} (h : ∀ c ∈ cs, f c = c) : cs.map f = cs := by
  induction cs with
  | nil => rfl
  | cons c l ih => rw [List.map_cons, h c List.mem_cons_self, ih fun c hc => h c (List.mem_cons_of_mem _ hc)]
theorem leaf2_kill {ids : List Nat} {d : Nat} (hd : d ∈ ids) {x : SV} (h : x.leaf2 ids = false) : x.up2 (SV.kill1 d) = x := by
  cases x with
  | agg cs => simp only [SV.up2]; rw [map_same fun c hc => leaf_kill hd (any_false h c hc)]
  | v y => exact leaf_kill (x := .v y) hd h
  | sl a b => exact leaf_kill (x := .sl a b) hd h
  | own a => exact leaf_kill (x := .own a) hd h
  | ptr a b c e => exact leaf_kill (x := .ptr a b c e) hd h
  | rptr a b c e => exact leaf_kill (x := .rptr a b c e) hd h
  | tup cs => exact leaf_kill (x := .tup cs) hd h
  | fn f cs => exact leaf_kill (x := .fn f cs) hd h
  | cond g y => exact leaf_kill (x := .cond g y) hd h
  | junk => rfl
theorem refs_kill {ids : List Nat} {d : Nat} (hd : d ∈ ids) {x : SV} (h : x.refs ids = false) : x.kill d = x := by
  cases x with
  | agg cs => simp only [SV.kill, SV.up]; rw [map_same fun c hc => leaf_kill hd (any_false h c hc)]
  | tup cs => simp only [SV.kill, SV.up]; rw [map_same fun c hc => leaf2_kill hd (any_false h c hc)]
  | fn f cs => simp only [SV.kill, SV.up]; rw [map_same fun c hc => leaf_kill hd (any_false h c hc)]
  | cond g y => simp only [SV.kill, SV.up]; rw [leaf2_kill hd h]
  | v y => exact leaf_kill (x := .v y) hd h
  | sl a b => exact leaf_kill (x := .sl a b) hd h
  | own a => exact leaf_kill (x := .own a) hd h
  | ptr a b c e => exact leaf_kill (x := .ptr a b c e) hd h
  | rptr a b c e => exact leaf_kill (x := .rptr a b c e) hd h
  | junk => rfl
theorem Ob.refs_kill {ids : List Nat} {d : Nat} (hd : d ∈ ids) {o : Ob} (h : o.refs ids = false) : o.kill d = o := by
  cases o with
  | sl e s rows => rfl
  | mp e es => rfl
  | dp e s rows => rfl
  | dq e s rows i cs =>
    simp only [Ob.kill]
    rw [map_same (f := SV.upq (SV.kill d)) fun c hc => by
      have e1 := Go.Vc.refs_kill hd (any_false h c hc)
      unfold SV.upq
      rw [e1]
      cases hs : c.isSl <;> simp]
  | box e cs => simp only [Ob.kill]; rw [map_same fun c hc => Go.Vc.refs_kill hd (any_false h c hc)]

theorem offK_lk {α : Type} {bad : List Nat} {l : List (Nat × α)} {t : Nat} {x : α} (h : lk t (offK bad l) = some x) : lk t l = some x ∧ t ∉ bad := by
  unfold offK at h
  split at h
  · exact ⟨h, by simp⟩
  · have h1 := lk_filter (fun t => !bad.contains t) h
    refine ⟨h1, fun hm => ?_⟩
    have : lk t (l.filter fun p => !bad.contains p.1) = none := lk_filter.lk_filter_none (fun t => !bad.contains t) (by simp [hm])
    rw [this] at h; cases h

theorem hide_fr {ids : List Nat} {st : St} {t : Nat} {x : SV} (h : lk t (st.hide ids).fr = some x) : lk t st.fr = some x ∧ ∀ d ∈ ids, x.kill d = x := by
  unfold St.hide at h
  split at h
  · exact ⟨h, by simp⟩
  · rename_i hne
    obtain ⟨h1, h2⟩ := offK_lk h
    refine ⟨h1, fun d hd => refs_kill hd ?_⟩
    rw [Bool.eq_false_iff]
    intro hr
    exact h2 (List.mem_map.2 ⟨(t, x), List.mem_filter.2 ⟨lk_mem h1, hr⟩, rfl⟩)
theorem hide_hp {ids : List Nat} {st : St} {t : Nat} {x : Ob} (h : lk t (st.hide ids).hp = some x) : lk t st.hp = some x ∧ ∀ d ∈ ids, d ≠ t ∧ x.kill d = x := by
  unfold St.hide at h
  split at h
  · exact ⟨h, by simp⟩
  · rename_i hne
    obtain ⟨h1, h2⟩ := offK_lk h
    refine ⟨h1, fun d hd => ⟨fun e => h2 (List.mem_append.2 (.inl (e ▸ hd))), Ob.refs_kill hd ?_⟩⟩
    rw [Bool.eq_false_iff]
    intro hr
    exact h2 (List.mem_append.2 (.inr (List.mem_map.2 ⟨(t, x), List.mem_filter.2 ⟨lk_mem h1, hr⟩, rfl⟩)))

/-- an operation's place among the others: the slots that it looks at, what comes before it in every order, the objects that may be gone when it comes up, those that others make, those that it ends, those that it makes -/
structure Fp where
  lks : List Nat
  anc : List Nat
  gx : List Nat
  av : List Nat
  gn : List Nat
  mks : List Nat

def deps (o : Oper) : List Nat := (o.after.toList.filter fun e => Region.binds .any e).map (·.on)
def fpAt (fl : List Fp) (i : Nat) : Fp := (fl[i]?).getD ⟨[], [], [], [], [], []⟩
def flowOne (ops : Array Oper) (m : Nat) (fl : List Fp) (p : Nat) (o : Oper) : Bool :=
  ((deps o).all fun e => decide (e < p)) &&
  ((fpAt fl p).anc.all fun a => (deps o).contains a || (deps o).any fun b => (fpAt fl b).anc.contains a) &&
  (if p < m then
    o.dst.isSome && ((o.looksAt ops).all fun t => (fpAt fl p).lks.contains t) &&
    ((List.range m).all fun k => k == p || (dstAt ops k != o.dst && ((fpAt fl k).anc.contains p || (fpAt fl k).gn.all fun d => (fpAt fl p).gx.contains d) && ((fpAt fl p).anc.contains k || (fpAt fl k).mks.all fun d => (fpAt fl p).av.contains d) &&
      ((fpAt fl k).mks.all fun d => !(fpAt fl p).mks.contains d)))
  else (List.range p).all fun j => (fpAt fl p).anc.contains j)
def flowB (ops : Array Oper) (m : Nat) (fl : List Fp) : Bool :=
  decide (m ≤ ops.size) && (List.range ops.size).all fun p => match ops[p]? with
    | none => false
    | some o => flowOne ops m fl p o

structure FlowOk (ops : Array Oper) (m : Nat) (fl : List Fp) : Prop where
  le : m ≤ ops.size
  back : ∀ (p : Nat) (o : Oper), ops[p]? = some o → ∀ e ∈ deps o, e < p
  anc : ∀ (p : Nat) (o : Oper), ops[p]? = some o → ∀ a ∈ (fpAt fl p).anc, a ∈ deps o ∨ ∃ b ∈ deps o, a ∈ (fpAt fl b).anc
  dst : ∀ (i : Nat) (o : Oper), i < m → ops[i]? = some o → ∃ d, o.dst = some d
  looks : ∀ (i : Nat) (o : Oper), i < m → ops[i]? = some o → ∀ t ∈ o.looksAt ops, t ∈ (fpAt fl i).lks
  apart : ∀ (i k : Nat), i < m → k < m → i ≠ k → dstAt ops k ≠ dstAt ops i
  gx : ∀ (i k : Nat), i < m → k < m → k ≠ i → i ∉ (fpAt fl k).anc → ∀ d ∈ (fpAt fl k).gn, d ∈ (fpAt fl i).gx
  av : ∀ (i k : Nat), i < m → k < m → k ≠ i → k ∉ (fpAt fl i).anc → ∀ d ∈ (fpAt fl k).mks, d ∈ (fpAt fl i).av
  mks : ∀ (i k : Nat), i < m → k < m → k ≠ i → ∀ d ∈ (fpAt fl k).mks, d ∉ (fpAt fl i).mks
  tail : ∀ (p : Nat) (o : Oper), m ≤ p → ops[p]? = some o → ∀ j, j < p → j ∈ (fpAt fl p).anc

theorem flowB_ok {ops : Array Oper} {m : Nat} {fl : List Fp} (h : flowB ops m fl = true) : FlowOk ops m fl := by
  unfold flowB at h
  rw [Bool.and_eq_true, decide_eq_true_eq] at h
  obtain ⟨h0, h⟩ := h
  rw [List.all_eq_true] at h
  have key : ∀ (p : Nat) (o : Oper), ops[p]? = some o → flowOne ops m fl p o = true := fun p o ho => by
    have hp : p < ops.size := (Array.getElem?_eq_some_iff.1 ho).1
    have := h p (List.mem_range.2 hp)
    rw [ho] at this
    exact this
  have two : ∀ (i k : Nat), i < m → k < m → k ≠ i → ∃ o, ops[i]? = some o ∧ dstAt ops k ≠ o.dst ∧ ((fpAt fl k).anc.contains i = true ∨ ∀ d ∈ (fpAt fl k).gn, (fpAt fl i).gx.contains d = true) ∧ ((fpAt fl i).anc.contains k = true ∨ ∀ d ∈ (fpAt fl k).mks, (fpAt fl i).av.contains d = true) ∧ ∀ d ∈ (fpAt fl k).mks, (fpAt fl i).mks.contains d = false := by
    intro i k hi hk hne
    have ho : ops[i]? = some (ops[i]'(by omega)) := Array.getElem?_eq_getElem (by omega)
    have := key i _ ho
    unfold flowOne at this
    rw [if_pos hi] at this
    simp only [Bool.and_eq_true, List.all_eq_true] at this
    have h3 := this.2.2 k (List.mem_range.2 hk)
    simp only [Bool.or_eq_true, beq_iff_eq, Bool.and_eq_true, bne_iff_ne, List.all_eq_true, Bool.not_eq_true'] at h3
    rcases h3 with e | ⟨⟨⟨a1, a2⟩, a3⟩, a4⟩
    · exact absurd e hne
    · exact ⟨_, ho, a1, a2, a3, a4⟩
  refine ⟨h0, fun p o ho e he => ?_, fun p o ho a ha => ?_, fun i o hi ho => ?_, fun i o hi ho t ht => ?_, fun i k hi hk hne => ?_, fun i k hi hk hne hn d hd => ?_, fun i k hi hk hne hn d hd => ?_, fun i k hi hk hne d hd hm => ?_, fun p o hp ho j hj => ?_⟩
  · have := key p o ho
    unfold flowOne at this
    simp only [Bool.and_eq_true, List.all_eq_true] at this
    simpa using this.1.1 e he
  · have := key p o ho
    unfold flowOne at this
    simp only [Bool.and_eq_true, List.all_eq_true] at this
    have := this.1.2 a ha
    simp only [Bool.or_eq_true, List.any_eq_true] at this
    rcases this with h1 | ⟨b, h1, h2⟩
    · exact .inl (List.contains_iff_mem.1 h1)
    · exact .inr ⟨b, h1, List.contains_iff_mem.1 h2⟩
  · have := key i o ho
    unfold flowOne at this
    rw [if_pos hi] at this
    simp only [Bool.and_eq_true] at this
    exact Option.isSome_iff_exists.1 this.2.1.1
  · have := key i o ho
    unfold flowOne at this
    rw [if_pos hi] at this
    simp only [Bool.and_eq_true, List.all_eq_true] at this
    exact List.contains_iff_mem.1 (this.2.1.2 t ht)
  · obtain ⟨o, ho, h1, _⟩ := two i k hi hk (Ne.symm hne)
    intro e
    apply h1
    rw [e]
    simp [dstAt, ho]
  · obtain ⟨o, ho, _, h1, _⟩ := two i k hi hk hne
    rcases h1 with h1 | h1
    · exact absurd (List.contains_iff_mem.1 h1) hn
    · exact List.contains_iff_mem.1 (h1 d hd)
  · obtain ⟨o, ho, _, _, h1, _⟩ := two i k hi hk hne
    rcases h1 with h1 | h1
    · exact absurd (List.contains_iff_mem.1 h1) hn
    · exact List.contains_iff_mem.1 (h1 d hd)
  · obtain ⟨o, ho, _, _, _, h1⟩ := two i k hi hk hne
    have := h1 d hd
    rw [List.contains_iff_mem.2 hm] at this
    cases this
  · have := key p o ho
    unfold flowOne at this
    rw [if_neg (by omega)] at this
    simp only [Bool.and_eq_true, List.all_eq_true] at this
    exact List.contains_iff_mem.1 (this.2 j (List.mem_range.2 hj))

/-! ## the run, in the text's order, each operation in the least state that it may meet -/

/-- what has been done so far: place, slot, what was left behind -/
abbrev Acc := List (Nat × Nat × Dl)
def St.least (base : St) (acc : Acc) (f : Fp) : St :=
  St.hide f.gx { fr := ((acc.filter fun e => f.anc.contains e.1).map fun e => (e.2.1, e.2.2.x)) ++ base.fr, hp := ((acc.filter fun e => f.anc.contains e.1).flatMap fun e => e.2.2.made) ++ base.hp }
def St.clean (base : St) (ds mks : List Nat) : St := St.hide mks { fr := offK ds base.fr, hp := base.hp }
def St.final (base : St) (acc : Acc) (gs : List Nat) : St := St.hide gs { fr := (acc.map fun e => (e.2.1, e.2.2.x)) ++ base.fr, hp := (acc.flatMap fun e => e.2.2.made) ++ base.hp }
def dlOk (f : Fp) (δ : Dl) : Prop := δ.gone = f.gn ∧ δ.made.map (·.1) = f.mks ∧ δ.x.refs f.av = false ∧ (δ.made.all fun p => !p.2.refs f.av) = true
def St.runF (tys : List (Nat × TyD)) (C : List (FuncId × Ctr)) (N : Nat) (ops : Array Oper) (fl : List Fp) (base : St) : List Oper → Nat → Acc → (Acc → Prop) → Prop
  | [], _, acc, K => K acc
  | o :: l, i, acc, K => ∃ d δ, (base.least acc (fpAt fl i)).dlt tys C N ops o d δ ∧ ((fpAt fl i).lks.all fun t => (lk t (base.least acc (fpAt fl i)).fr).isSome) = true ∧ dlOk (fpAt fl i) δ ∧ St.runF tys C N ops fl base l (i + 1) (acc ++ [(i, d, δ)]) K

theorem runF_acc {tys : List (Nat × TyD)} {C : List (FuncId × Ctr)} {N : Nat} {ops : Array Oper} {fl : List Fp} {base : St} {K : Acc → Prop} : ∀ (l : List Oper) (i : Nat) (acc : Acc), St.runF tys C N ops fl base l i acc K →
    ∃ F : Nat → Nat × Dl, K (acc ++ (List.range l.length).map fun k => (i + k, F k)) ∧ ∀ k o, l[k]? = some o →
      (base.least (acc ++ (List.range k).map fun q => (i + q, F q)) (fpAt fl (i + k))).dlt tys C N ops o (F k).1 (F k).2 ∧ ((fpAt fl (i + k)).lks.all fun t => (lk t (base.least (acc ++ (List.range k).map fun q => (i + q, F q)) (fpAt fl (i + k))).fr).isSome) = true ∧ dlOk (fpAt fl (i + k)) (F k).2
  | [], i, acc, h => ⟨fun _ => (0, ⟨.junk, [], []⟩), by simp only [List.length_nil, List.range_zero, List.map_nil, List.append_nil]; exact h, by simp⟩
  | o :: l, i, acc, h => by
    obtain ⟨d, δ, h1, h2, h3, h4⟩ := h
    obtain ⟨F, h5, h6⟩ := runF_acc l (i + 1) _ h4
    have e : ∀ n, acc ++ [(i, d, δ)] ++ (List.range n).map (fun k => (i + 1 + k, F k)) = acc ++ (List.range (n + 1)).map (fun k => (i + k, (fun k => match k with | 0 => (d, δ) | k + 1 => F k : Nat → Nat × Dl) k)) := fun n => by
      rw [List.append_assoc]
      congr 1
      rw [List.range_succ_eq_map, List.map_cons, List.map_map]
      simp only [List.cons_append, List.nil_append, Nat.add_zero]
      congr 1
      exact List.map_congr_left fun k _ => by simp only [Function.comp_apply, Nat.succ_eq_add_one]; congr 1; omega
    refine ⟨fun k => match k with | 0 => (d, δ) | k + 1 => F k, ?_, fun k q hq => ?_⟩
    · rw [List.length_cons, ← e]; exact h5
    · cases k with
      | zero =>
        simp at hq
        subst hq
        simp only [List.range_zero, List.map_nil, List.append_nil, Nat.add_zero]
        exact ⟨h1, h2, h3⟩
      | succ k =>
        have := h6 k q (by simpa using hq)
        rw [e] at this
        have ei : i + 1 + k = i + (k + 1) := by omega
        rw [ei] at this
        exact this

theorem ready_deps {ops : Array Oper} {listed : Array Bool} {i : Nat} {o : Oper} (h3 : ∀ e ∈ o.after, Region.binds .any e = true → listed.getD e.on false = true) : ∀ e ∈ deps o, listed.getD e false = true := by
  intro e he
  obtain ⟨q, hq, rfl⟩ := List.mem_map.1 he
  obtain ⟨h1, h2⟩ := List.mem_filter.1 hq
  exact h3 q (by simpa using h1) h2
theorem deps_ready {ops : Array Oper} {listed : Array Bool} {i : Nat} {o : Oper} (h3 : ∀ e ∈ deps o, listed.getD e false = true) : ∀ e ∈ o.after, Region.binds .any e = true → listed.getD e.on false = true := fun e he hb =>
  h3 e.on (List.mem_map.2 ⟨e, List.mem_filter.2 ⟨by simpa using he, hb⟩, rfl⟩)

/-- what has come up holds, with each, all that comes before it -/
def Closed (fl : List Fp) (n : Nat) (listed : Array Bool) : Prop := ∀ b, b < n → listed.getD b false = true → ∀ a ∈ (fpAt fl b).anc, listed.getD a false = true
theorem Closed.anc {ops : Array Oper} {m : Nat} {fl : List Fp} (hB : FlowOk ops m fl) {listed : Array Bool} (hc : Closed fl ops.size listed) {i : Nat} {o : Oper} (ho : ops[i]? = some o) (h3 : ∀ e ∈ o.after, Region.binds .any e = true → listed.getD e.on false = true) :
    ∀ a ∈ (fpAt fl i).anc, listed.getD a false = true := fun a ha => by
  have hi : i < ops.size := (Array.getElem?_eq_some_iff.1 ho).1
  rcases hB.anc i o ho a ha with h | ⟨b, hb, h⟩
  · exact ready_deps (i := i) (ops := ops) h3 a h
  · have := hB.back i o ho b hb
    exact hc b (by omega) (ready_deps (i := i) (ops := ops) h3 b hb) a h
theorem Closed.step {ops : Array Oper} {m : Nat} {fl : List Fp} (hB : FlowOk ops m fl) {listed : Array Bool} (hsz : listed.size = ops.size) (hc : Closed fl ops.size listed) {i : Nat} {o : Oper} (ho : ops[i]? = some o) (h3 : ∀ e ∈ o.after, Region.binds .any e = true → listed.getD e.on false = true) :
    Closed fl ops.size (listed.setIfInBounds i true) := fun b hb hl a ha => by
  have hi : i < ops.size := (Array.getElem?_eq_some_iff.1 ho).1
  rw [getD_set _ _ _ _ (by omega)] at hl ⊢
  split
  · rfl
  · by_cases hbi : b = i
    · subst hbi; exact hc.anc hB ho h3 a ha
    · rw [if_neg hbi] at hl; exact hc b hb hl a ha
end Go.Vc

/-
  DERIVED. A region whose order Go leaves open and whose operations make objects: the theorem.
-/
namespace Go.Vc
set_option linter.unusedVariables false
set_option linter.unusedSimpArgs false

theorem killL_keep {st : St} {t : Nat} {x : SV} : ∀ {ids : List Nat}, (∀ d ∈ ids, x.kill d = x) → lk t st.fr = some x → lk t (st.killL ids).fr = some x
  | [], _, h => h
  | d :: l, hk, h => by
    have ih := killL_keep (fun e he => hk e (List.mem_cons_of_mem _ he)) h
    simp only [St.killL, St.kill, lk_map, ih, Option.map_some, hk d List.mem_cons_self]
theorem killL_keepO {st : St} {t : Nat} {x : Ob} : ∀ {ids : List Nat}, (∀ d ∈ ids, d ≠ t ∧ x.kill d = x) → lk t st.hp = some x → lk t (st.killL ids).hp = some x
  | [], _, h => h
  | d :: l, hk, h => by
    have ih := killL_keepO (fun e he => hk e (List.mem_cons_of_mem _ he)) h
    have h1 := hk d List.mem_cons_self
    rw [show St.killL st (d :: l) = (st.killL l).kill d from rfl, lk_kill_ne (Ne.symm h1.1), ih]
    simp only [Option.map_some, h1.2]
theorem lk_flatMap {α β : Type} {t : Nat} {x : β} {g : α → List (Nat × β)} : ∀ {l : List α}, lk t (l.flatMap g) = some x → ∃ e ∈ l, lk t (g e) = some x
  | e :: l, h => by
    rw [List.flatMap_cons, lk_append] at h
    cases hq : lk t (g e) with
    | some y => rw [hq] at h; cases h; exact ⟨e, List.mem_cons_self, hq⟩
    | none =>
      rw [hq] at h
      obtain ⟨e', h1, h2⟩ := lk_flatMap (l := l) h
      exact ⟨e', List.mem_cons_of_mem _ h1, h2⟩
theorem lk_app {α : Type} {t : Nat} {x : α} {l l2 : List (Nat × α)} (h : lk t (l ++ l2) = some x) : lk t l = some x ∨ lk t l2 = some x := by
  rw [lk_append] at h
  cases hq : lk t l with
  | some y => rw [hq] at h; cases h; exact .inl rfl
  | none => rw [hq] at h; exact .inr h

section
variable {c : Cx} {N : Nat} {X0 : Nat → Prop} {M : Nat → BV → Prop} {w0 : World} {K : Exit → St → Prop}

/-- behind the first m: one after the other -/
theorem flow_tail (hAp : Ap c.P X0 M w0) {ops : Array Oper} {m : Nat} {fl : List Fp} (hB : FlowOk ops m fl) : ∀ (fuel p : Nat) (listed : Array Bool) (st : St) (β : Nat → BV) (a : Act) (w : World), p + fuel = ops.size → m ≤ p → listed.size = ops.size → Closed fl ops.size listed →
    (∀ j, j < ops.size → listed.getD j false = decide (j < p)) → Sim N X0 M w0 st β a w → St.runR c.tys c.C N ops (ops.toList.drop p) st (K .normal) →
    wpAny c.P .any ops (fun e a' w' => Ok N X0 M w0 (K e) a' w') fuel listed a w
  | 0, p, listed, st, β, a, w, hp, hm, hsz, hcl, hl, hs, hr => by
    have hd : ops.toList.drop p = [] := List.drop_eq_nil_of_le (by simp; omega)
    rw [hd] at hr
    refine ⟨?_, st, β, hr, hs⟩
    rw [List.eq_nil_iff_forall_not_mem]
    intro i hi
    obtain ⟨h1, h2, _⟩ := mem_ready'.1 hi
    have h3 := hl i h1
    rw [Array.getD_eq_getD_getElem?] at h2 h3
    rw [Array.getElem?_eq_getElem (by omega)] at h2 h3
    simp only [Option.getD_some] at h2 h3
    rw [h2] at h3
    have : i < p := by omega
    simp [this] at h3
  | fuel + 1, p, listed, st, β, a, w, hp, hm, hsz, hcl, hl, hs, hr => by
    have hpl : p < ops.size := by omega
    have hgT : ∀ j, j < ops.size → listed.getD j true = decide (j < p) := fun j hj => by
      have := hl j hj
      rw [Array.getD_eq_getD_getElem?, Array.getElem?_eq_getElem (by omega)] at this ⊢
      exact this
    have ho : ops[p]? = some (ops[p]'hpl) := Array.getElem?_eq_getElem hpl
    have hrdy : p ∈ Region.ready .any ops listed := mem_ready'.2 ⟨hpl, by rw [hgT p hpl]; simp, _, ho, deps_ready (i := p) (ops := ops) fun e he => by
      have := hB.back p _ ho e he
      rw [hl e (by omega)]; simpa using this⟩
    refine ⟨fun h => (by rw [h] at hrdy; cases hrdy), fun i hi => ?_⟩
    obtain ⟨h1, h2, o, hoi, h3⟩ := mem_ready'.1 hi
    have hip : i = p := by
      rw [hgT i h1] at h2
      have hge : p ≤ i := by simpa using h2
      rcases Nat.lt_or_ge p i with hlt | hle
      · have := hcl.anc hB hoi h3 p (hB.tail i o (by omega) hoi p hlt)
        rw [hl p hpl] at this
        simp at this
      · omega
    subst hip
    have hdrop : ops.toList.drop i = o :: ops.toList.drop (i + 1) := by
      rw [List.drop_eq_getElem_cons (by simpa using hpl)]
      congr 1
      rw [ho] at hoi
      simpa using hoi
    rw [hdrop] at hr
    have hst := step_sound (Q := fun e a' w' => Ok N X0 M w0 (K e) a' w') hAp c.hty c.hC hs (ops := ops) hr
    have hnext : ∀ a' w', Ok N X0 M w0 (fun st' => St.runR c.tys c.C N ops (ops.toList.drop (i + 1)) st' (K .normal)) a' w' → wpAny c.P .any ops (fun e a' w' => Ok N X0 M w0 (K e) a' w') fuel (listed.setIfInBounds i true) a' w' := fun a' w' hk => by
      obtain ⟨st', β', h4, h5⟩ := hk
      refine flow_tail hAp hB fuel (i + 1) _ st' β' a' w' (by omega) (by omega) (by simpa using hsz) (hcl.step hB hsz hoi h3) (fun j hj => ?_) h5 h4
      rw [getD_set _ _ _ _ (by omega)]
      by_cases hji : j = i
      · subst hji; simp
      · rw [if_neg hji, hl j hj]
        congr 1
        apply propext
        omega
    unfold wpOp
    rw [hoi]
    simp only
    split
    · rename_i hw; rw [if_pos hw] at hst; exact .inl (Oper.wp_mono hnext hst)
    · rename_i hw; rw [if_neg hw] at hst; exact hnext _ _ hst

theorem count_set {listed : Array Bool} {n i : Nat} (hsz : listed.size = n) (hi : i < n) (h2 : listed.getD i false = false) :
    (List.range n).countP (fun j => !listed.getD j false) = (List.range n).countP (fun j => !(listed.setIfInBounds i true).getD j false) + 1 := by
  have key : ∀ l : List Nat, l.Nodup → i ∈ l → l.countP (fun j => !listed.getD j false) = l.countP (fun j => !(listed.setIfInBounds i true).getD j false) + 1 := by
    intro l hn hm
    induction l with
    | nil => cases hm
    | cons q l ihl =>
      rw [List.nodup_cons] at hn
      simp only [List.countP_cons]
      rw [getD_set _ _ _ _ (by omega)]
      by_cases hq : q = i
      · subst hq
        have hno : l.countP (fun j => !listed.getD j false) = l.countP (fun j => !(listed.setIfInBounds q true).getD j false) := by
          apply List.countP_congr
          intro j hj
          rw [getD_set _ _ _ _ (by omega), if_neg (fun e => hn.1 (by rw [← e]; exact hj))]
        rw [h2, hno]; simp
      · have hm' : i ∈ l := by
          rcases List.mem_cons.1 hm with e | e
          · exact absurd e.symm hq
          · exact e
        rw [if_neg hq, ihl hn.2 hm']; omega
  exact key (List.range n) List.nodup_range (List.mem_range.2 hi)

theorem flow_head (hAp : Ap c.P X0 M w0) {ops : Array Oper} {m : Nat} {fl : List Fp} (hB : FlowOk ops m fl) {base : St} {F : Nat → Nat × Dl} {gs : List Nat}
    (hF : ∀ k o, k < m → ops[k]? = some o → (base.least ((List.range k).map fun q => (q, F q)) (fpAt fl k)).dlt c.tys c.C N ops o (F k).1 (F k).2 ∧ ((fpAt fl k).lks.all fun t => (lk t (base.least ((List.range k).map fun q => (q, F q)) (fpAt fl k)).fr).isSome) = true ∧ dlOk (fpAt fl k) (F k).2)
    (hb1 : ∀ t x, lk t base.fr = some x → (∀ k, k < m → dstAt ops k ≠ some t) ∧ ∀ k, k < m → ∀ d ∈ (fpAt fl k).mks, x.kill d = x)
    (hb2 : ∀ id ob, lk id base.hp = some ob → ∀ k, k < m → ∀ d ∈ (fpAt fl k).mks, d ≠ id ∧ ob.kill d = ob) (hgs : ∀ k, k < m → ∀ d ∈ (fpAt fl k).gn, d ∈ gs)
    (hr : St.runR c.tys c.C N ops (ops.toList.drop m) (base.final ((List.range m).map fun q => (q, F q)) gs) (K .normal)) : ∀ (fuel : Nat) (listed : Array Bool) (st' : St) (β : Nat → BV) (a : Act) (w : World), listed.size = ops.size →
    (∀ j, m ≤ j → j < ops.size → listed.getD j false = false) → fuel = (List.range ops.size).countP (fun j => !listed.getD j false) → Closed fl ops.size listed → Sim N X0 M w0 st' β a w →
    (∀ t x, lk t base.fr = some x → (∀ d, (∃ j, j < m ∧ listed.getD j false = true ∧ d ∈ (fpAt fl j).gn) → x.kill d = x) → lk t st'.fr = some x) →
    (∀ k, k < m → listed.getD k false = true → (∀ d, (∃ j, j < m ∧ listed.getD j false = true ∧ d ∈ (fpAt fl j).gn) → (F k).2.x.kill d = (F k).2.x) → lk (F k).1 st'.fr = some (F k).2.x) →
    (∀ id ob, lk id base.hp = some ob → (∀ d, (∃ j, j < m ∧ listed.getD j false = true ∧ d ∈ (fpAt fl j).gn) → d ≠ id ∧ ob.kill d = ob) → lk id st'.hp = some ob) →
    (∀ k, k < m → listed.getD k false = true → ∀ id ob, lk id (F k).2.made = some ob → (∀ d, (∃ j, j < m ∧ listed.getD j false = true ∧ d ∈ (fpAt fl j).gn) → d ≠ id ∧ ob.kill d = ob) → lk id st'.hp = some ob) →
    wpAny c.P .any ops (fun e a' w' => Ok N X0 M w0 (K e) a' w') fuel listed a w := by
  have hdst : ∀ k, k < m → dstAt ops k = some (F k).1 := fun k hk => by
    have hks : k < ops.size := by have := hB.le; omega
    have ho : ops[k]? = some (ops[k]'hks) := Array.getElem?_eq_getElem hks
    have := (hF k _ hk ho).1.1
    unfold dstAt
    rw [ho]; exact this
  -- where all of the first m have come up
  have hlast : ∀ (fuel : Nat) (listed : Array Bool) (st' : St) (β : Nat → BV) (a : Act) (w : World), m + fuel = ops.size → listed.size = ops.size → Closed fl ops.size listed → (∀ j, j < ops.size → listed.getD j false = decide (j < m)) → Sim N X0 M w0 st' β a w →
      (∀ t x, lk t base.fr = some x → (∀ d, (∃ j, j < m ∧ listed.getD j false = true ∧ d ∈ (fpAt fl j).gn) → x.kill d = x) → lk t st'.fr = some x) →
      (∀ k, k < m → listed.getD k false = true → (∀ d, (∃ j, j < m ∧ listed.getD j false = true ∧ d ∈ (fpAt fl j).gn) → (F k).2.x.kill d = (F k).2.x) → lk (F k).1 st'.fr = some (F k).2.x) →
      (∀ id ob, lk id base.hp = some ob → (∀ d, (∃ j, j < m ∧ listed.getD j false = true ∧ d ∈ (fpAt fl j).gn) → d ≠ id ∧ ob.kill d = ob) → lk id st'.hp = some ob) →
      (∀ k, k < m → listed.getD k false = true → ∀ id ob, lk id (F k).2.made = some ob → (∀ d, (∃ j, j < m ∧ listed.getD j false = true ∧ d ∈ (fpAt fl j).gn) → d ≠ id ∧ ob.kill d = ob) → lk id st'.hp = some ob) →
      wpAny c.P .any ops (fun e a' w' => Ok N X0 M w0 (K e) a' w') fuel listed a w := by
    intro fuel listed st' β a w hfu hsz hcl hl hs I1 I2 I3 I4
    refine flow_tail (c := c) hAp hB fuel m listed _ β a w hfu (Nat.le_refl _) hsz hcl hl (hs.less (st' := base.final ((List.range m).map fun q => (q, F q)) gs) (fun t x hx => ?_) (fun id ob hx => ?_)) hr
    · obtain ⟨h1, h2⟩ := hide_fr hx
      have hG : ∀ d, (∃ j, j < m ∧ listed.getD j false = true ∧ d ∈ (fpAt fl j).gn) → x.kill d = x := fun d ⟨j, hj, _, hd⟩ => h2 d (hgs j hj d hd)
      rcases lk_app h1 with h1 | h1
      · have hm := lk_mem h1
        simp only [List.map_map, List.mem_map, List.mem_range, Function.comp_apply] at hm
        obtain ⟨k, hk, e⟩ := hm
        injection e with e1 e2
        subst e1 e2
        exact I2 k hk (by rw [hl k (by have := hB.le; omega)]; simpa using hk) hG
      · exact I1 t x h1 hG
    · obtain ⟨h1, h2⟩ := hide_hp hx
      have hG : ∀ d, (∃ j, j < m ∧ listed.getD j false = true ∧ d ∈ (fpAt fl j).gn) → d ≠ id ∧ ob.kill d = ob := fun d ⟨j, hj, _, hd⟩ => h2 d (hgs j hj d hd)
      rcases lk_app h1 with h1 | h1
      · obtain ⟨e, he, h3⟩ := lk_flatMap h1
        obtain ⟨k, hk, rfl⟩ := List.mem_map.1 he
        have hk := List.mem_range.1 hk
        exact I4 k hk (by rw [hl k (by have := hB.le; omega)]; simpa using hk) id ob h3 hG
      · exact I3 id ob h1 hG
  intro fuel
  induction fuel with
  | zero =>
    intro listed st' β a w hsz hsuf hf hcl hs I1 I2 I3 I4
    have hall : ∀ j, j < ops.size → listed.getD j false = true := fun j hj => by
      have : (List.range ops.size).countP (fun j => !listed.getD j false) = 0 := hf.symm
      rw [List.countP_eq_zero] at this
      have := this j (List.mem_range.2 hj)
      simpa using this
    have hm : m = ops.size := by
      rcases Nat.lt_or_ge m ops.size with h | h
      · have := hall m h; rw [hsuf m (Nat.le_refl _) h] at this; cases this
      · have := hB.le; omega
    exact hlast 0 listed st' β a w (by omega) hsz hcl (fun j hj => by rw [hall j hj]; simp; omega) hs I1 I2 I3 I4
  | succ fuel ih =>
    intro listed st' β a w hsz hsuf hf hcl hs I1 I2 I3 I4
    have hgT : ∀ j, j < ops.size → listed.getD j true = listed.getD j false := fun j hj => by
      rw [Array.getD_eq_getD_getElem?, Array.getD_eq_getD_getElem?, Array.getElem?_eq_getElem (by omega)]; rfl
    have hex : ∃ p, p < ops.size ∧ listed.getD p false = false := by
      have h1 : 0 < (List.range ops.size).countP (fun j => !listed.getD j false) := by omega
      obtain ⟨p, hp, hq⟩ := List.countP_pos_iff.1 h1
      exact ⟨p, List.mem_range.1 hp, by simpa using hq⟩
    obtain ⟨p, ⟨hp, hpf⟩, hmin⟩ := least hex
    have hrdy : p ∈ Region.ready .any ops listed := mem_ready'.2 ⟨hp, by rw [hgT p hp]; exact hpf, _, Array.getElem?_eq_getElem hp, deps_ready (i := p) (ops := ops) fun e he => by
      have hlt := hB.back p _ (Array.getElem?_eq_getElem hp) e he
      cases hh : listed.getD e false with
      | true => rfl
      | false => have := hmin e ⟨by omega, hh⟩; omega⟩
    have hwhole : (∀ j, j < m → listed.getD j false = true) → wpAny c.P .any ops (fun e a' w' => Ok N X0 M w0 (K e) a' w') (fuel + 1) listed a w := fun hbefore => by
      have hl : ∀ j, j < ops.size → listed.getD j false = decide (j < m) := fun j hj => by
        rcases Nat.lt_or_ge j m with h | h
        · rw [hbefore j h]; simp [h]
        · rw [hsuf j h hj]; simp; omega
      have hcount : fuel + 1 = ops.size - m := by
        rw [hf]
        have : (List.range ops.size).countP (fun j => !listed.getD j false) = (List.range ops.size).countP (fun j => decide (m ≤ j)) := by
          apply List.countP_congr
          intro j hj
          rw [hl j (List.mem_range.1 hj)]
          simp
        rw [this]
        have key : ∀ n, (List.range n).countP (fun j => decide (m ≤ j)) = n - m := by
          intro n
          induction n with
          | zero => simp
          | succ n ihn =>
            rw [List.range_succ, List.countP_append, ihn]
            by_cases hh : m ≤ n
            · simp [hh]; omega
            · simp [hh]; omega
        exact key _
      exact hlast (fuel + 1) listed st' β a w (by have := hB.le; omega) hsz hcl hl hs I1 I2 I3 I4
    refine ⟨fun h => (by rw [h] at hrdy; cases hrdy), fun i hi => ?_⟩
    obtain ⟨h1, h2, o, hoi, h3⟩ := mem_ready'.1 hi
    rw [hgT i h1] at h2
    rcases Nat.lt_or_ge i m with him | him
    · -- one of the first m
      obtain ⟨hd, hlks, hok⟩ := hF i o him hoi
      have hanc := hcl.anc hB hoi h3
      have hGx : ∀ d, (∃ j, j < m ∧ listed.getD j false = true ∧ d ∈ (fpAt fl j).gn) → d ∈ (fpAt fl i).gx := fun d ⟨j, hj, hlj, hd⟩ =>
        hB.gx i j him hj (fun e => by subst e; rw [h2] at hlj; cases hlj) (fun ha => by have := hcl j (by have := hB.le; omega) hlj i ha; rw [h2] at this; cases this) d hd
      have hWf : ∀ t x, lk t (base.least ((List.range i).map fun q => (q, F q)) (fpAt fl i)).fr = some x → lk t st'.fr = some x := fun t x hx => by
        obtain ⟨e1, e2⟩ := hide_fr hx
        have hG : ∀ d, (∃ j, j < m ∧ listed.getD j false = true ∧ d ∈ (fpAt fl j).gn) → x.kill d = x := fun d hd => e2 d (hGx d hd)
        rcases lk_app e1 with e1 | e1
        · have hm := lk_mem e1
          obtain ⟨e, he, e3⟩ := List.mem_map.1 hm
          obtain ⟨he1, he2⟩ := List.mem_filter.1 he
          obtain ⟨k, hk, rfl⟩ := List.mem_map.1 he1
          injection e3 with e4 e5
          subst e4 e5
          exact I2 k (by have := List.mem_range.1 hk; omega) (hanc k (List.contains_iff_mem.1 he2)) hG
        · exact I1 t x e1 hG
      have hWh : ∀ id ob, lk id (base.least ((List.range i).map fun q => (q, F q)) (fpAt fl i)).hp = some ob → lk id st'.hp = some ob := fun id ob hx => by
        obtain ⟨e1, e2⟩ := hide_hp hx
        have hG : ∀ d, (∃ j, j < m ∧ listed.getD j false = true ∧ d ∈ (fpAt fl j).gn) → d ≠ id ∧ ob.kill d = ob := fun d hd => e2 d (hGx d hd)
        rcases lk_app e1 with e1 | e1
        · obtain ⟨e, he, e3⟩ := lk_flatMap e1
          obtain ⟨he1, he2⟩ := List.mem_filter.1 he
          obtain ⟨k, hk, rfl⟩ := List.mem_map.1 he1
          exact I4 k (by have := List.mem_range.1 hk; omega) (hanc k (List.contains_iff_mem.1 he2)) id ob e3 hG
        · exact I3 id ob e1 hG
      have hd' : st'.dlt c.tys c.C N ops o (F i).1 (F i).2 := dlt_mono (fun t ht => by
        have := List.all_eq_true.1 hlks t (hB.looks i o him hoi t ht)
        obtain ⟨x, hx⟩ := Option.isSome_iff_exists.1 this
        unfold St.get
        rw [hx, hWf t x hx]) hWh hd
      have hst := dlt_sound (Q := fun e a' w' => Ok N X0 M w0 (K e) a' w') hAp c.hty c.hC hs (ops := ops) hd'
      obtain ⟨k1, k2, k3, k4⟩ := hok
      have hids : (F i).2.ids = (fpAt fl i).mks ++ (fpAt fl i).gn := by unfold Dl.ids; rw [k1, k2]
      have hmade : ∀ id, id ∉ (fpAt fl i).mks → lk id (F i).2.made = none := fun id hid => lk_none (by rw [k2]; exact hid)
      have havk : ∀ k, k < m → k ≠ i → listed.getD k false = true → ∀ d ∈ (fpAt fl i).mks, d ∈ (fpAt fl k).av := fun k hk hne hlk d hd =>
        hB.av k i hk him (Ne.symm hne) (fun ha => by have := hcl k (by have := hB.le; omega) hlk i ha; rw [h2] at this; cases this) d hd
      have hG' : ∀ {Q : Nat → Prop}, (∀ d, (∃ j, j < m ∧ (listed.setIfInBounds i true).getD j false = true ∧ d ∈ (fpAt fl j).gn) → Q d) → (∀ d, (∃ j, j < m ∧ listed.getD j false = true ∧ d ∈ (fpAt fl j).gn) → Q d) ∧ ∀ d ∈ (fpAt fl i).gn, Q d := fun {Q} hq =>
        ⟨fun d ⟨j, hj, hlj, hd⟩ => hq d ⟨j, hj, by rw [getD_set _ _ _ _ (by omega)]; split <;> first | rfl | exact hlj, hd⟩, fun d hd => hq d ⟨i, him, by rw [getD_set _ _ _ _ (by omega), if_pos rfl], hd⟩⟩
      have hnext : ∀ a' w', Ok N X0 M w0 (fun st2 => st2 = st'.dapp (F i).1 (F i).2) a' w' → wpAny c.P .any ops (fun e a' w' => Ok N X0 M w0 (K e) a' w') fuel (listed.setIfInBounds i true) a' w' := fun a' w' hk => by
        obtain ⟨st2, β', rfl, h5⟩ := hk
        refine ih _ _ β' a' w' (by simpa using hsz) (fun j hj hjn => ?_) ?_ (hcl.step hB hsz hoi h3) h5 (fun t x hx hG => ?_) (fun k hk hlk hG => ?_) (fun id ob hx hG => ?_) (fun k hk hlk id ob hx hG => ?_)
        · rw [getD_set _ _ _ _ (by omega), if_neg (by omega)]; exact hsuf j hj hjn
        · have := count_set hsz h1 h2; omega
        · obtain ⟨g1, g2⟩ := hG' hG
          obtain ⟨q1, q2⟩ := hb1 t x hx
          have hne : t ≠ (F i).1 := fun e => q1 i him (by rw [hdst i him, e])
          simp only [St.dapp, lk, if_neg hne, lk_er_ne hne]
          refine killL_keep (fun d hd => ?_) (I1 t x hx g1)
          rw [hids] at hd
          rcases List.mem_append.1 hd with h | h
          · exact q2 i him d h
          · exact g2 d h
        · obtain ⟨g1, g2⟩ := hG' hG
          by_cases hki : k = i
          · subst hki; simp [St.dapp, lk]
          · rw [getD_set _ _ _ _ (by omega), if_neg hki] at hlk
            have hne : (F k).1 ≠ (F i).1 := fun e => hB.apart i k him hk (Ne.symm hki) (by rw [hdst i him, hdst k hk, e])
            simp only [St.dapp, lk, if_neg hne, lk_er_ne hne]
            refine killL_keep (fun d hd => ?_) (I2 k hk hlk g1)
            rw [hids] at hd
            rcases List.mem_append.1 hd with h | h
            · have hks : k < ops.size := by have := hB.le; omega
              exact refs_kill (havk k hk hki hlk d h) (hF k _ hk (Array.getElem?_eq_getElem hks)).2.2.2.2.1
            · exact g2 d h
        · obtain ⟨g1, g2⟩ := hG' hG
          have q := hb2 id ob hx i him
          have hnm : id ∉ (fpAt fl i).mks := fun hin => (q id hin).1 rfl
          show lk id ((F i).2.made ++ _) = _
          rw [lk_append, hmade id hnm]
          refine killL_keepO (fun d hd => ?_) (I3 id ob hx g1)
          rw [hids] at hd
          rcases List.mem_append.1 hd with h | h
          · exact q d h
          · exact g2 d h
        · obtain ⟨g1, g2⟩ := hG' hG
          show lk id ((F i).2.made ++ _) = _
          by_cases hki : k = i
          · subst hki; rw [lk_append, hx]; rfl
          · rw [getD_set _ _ _ _ (by omega), if_neg hki] at hlk
            have hks : k < ops.size := by have := hB.le; omega
            have hokk := (hF k _ hk (Array.getElem?_eq_getElem hks)).2.2
            have hidk : id ∈ (fpAt fl k).mks := by rw [← hokk.2.1]; exact List.mem_map.2 ⟨(id, ob), lk_mem hx, rfl⟩
            have hnm : id ∉ (fpAt fl i).mks := hB.mks i k him hk hki id hidk
            rw [lk_append, hmade id hnm]
            refine killL_keepO (fun d hd => ?_) (I4 k hk hlk id ob hx g1)
            rw [hids] at hd
            rcases List.mem_append.1 hd with h | h
            · refine ⟨fun e => hnm (e ▸ h), Ob.refs_kill (havk k hk hki hlk d h) ?_⟩
              have := List.all_eq_true.1 hokk.2.2.2 (id, ob) (lk_mem hx)
              simpa using this
            · exact g2 d h
      unfold wpOp
      rw [hoi]
      simp only
      split
      · rename_i hw; rw [if_pos hw] at hst; exact .inl (Oper.wp_mono hnext hst)
      · rename_i hw; rw [if_neg hw] at hst; exact hnext _ _ hst
    · -- all of the first m have come up
      exact (hwhole fun j hj => hcl.anc hB hoi h3 j (hB.tail i o him hoi j (by omega))).2 i hi

/-- **A region whose order is open, and that makes objects.** ds: the slots that its first m operations write; mks: the objects that they make; gs: those that they end. -/
theorem WP.flow {id : Nat} {l : List Oper} {st : St} (m : Nat) (fl : List Fp) (ds mks gs : List Nat) (hB : flowB l.toArray m fl = true)
    (hD : ((List.range m).all fun k => match dstAt l.toArray k with | some d => ds.contains d | none => false) = true)
    (hM : ((List.range m).all fun k => ((fpAt fl k).mks.all fun d => mks.contains d) && ((fpAt fl k).gn.all fun d => gs.contains d)) = true) (hm : c.P.follows .mixedOrders = true)
    (h : St.runF c.tys c.C N l.toArray fl (st.clean ds mks) (l.take m) 0 [] fun acc => St.runR c.tys c.C N l.toArray (l.drop m) ((st.clean ds mks).final acc gs) (K .normal)) : WP c N X0 M w0 (.region id l.toArray true) st K := by
  intro hA β a w hs
  have hD0 := flowB_ok hB
  obtain ⟨F, h1, h2⟩ := runF_acc _ _ _ h
  have hlen : (l.take m).length = m := by
    have := hD0.le
    simp at this ⊢
    omega
  rw [hlen] at h1
  simp only [List.nil_append, Nat.zero_add] at h1 h2
  have hcl0 : ∀ t x, lk t (st.clean ds mks).fr = some x → lk t st.fr = some x ∧ t ∉ ds ∧ ∀ d ∈ mks, x.kill d = x := fun t x hx => by
    obtain ⟨e1, e2⟩ := hide_fr hx
    obtain ⟨e3, e4⟩ := offK_lk e1
    exact ⟨e3, e4, e2⟩
  have hMk : ∀ k, k < m → (∀ d ∈ (fpAt fl k).mks, d ∈ mks) ∧ ∀ d ∈ (fpAt fl k).gn, d ∈ gs := fun k hk => by
    have := List.all_eq_true.1 hM k (List.mem_range.2 hk)
    simp only [Bool.and_eq_true, List.all_eq_true] at this
    exact ⟨fun d hd => List.contains_iff_mem.1 (this.1 d hd), fun d hd => List.contains_iff_mem.1 (this.2 d hd)⟩
  refine wp_region_any hm (flow_head (c := c) (K := K) hA hD0 (base := st.clean ds mks) (F := F) (gs := gs) (fun k o hk ho => ?_) (fun t x hx => ⟨fun k hk e => ?_, fun k hk d hd => (hcl0 t x hx).2.2 d ((hMk k hk).1 d hd)⟩) (fun t ob hx k hk d hd => (hide_hp hx).2 d ((hMk k hk).1 d hd)) (fun k hk => (hMk k hk).2) ?_
    l.toArray.size (Array.replicate l.toArray.size false) (st.clean ds mks) β a _ (by simp) (fun j _ hj => ?_) ?_ (fun b hb hl => ?_) ?_ (fun t x hx _ => hx) (fun k hk hl => ?_) (fun t ob hx _ => hx) (fun k hk hl => ?_))
  · have : (l.take m)[k]? = some o := by rw [List.getElem?_take_of_lt hk]; simpa using ho
    exact h2 k o this
  · have := List.all_eq_true.1 hD k (List.mem_range.2 hk)
    rw [e] at this
    exact (hcl0 t x hx).2.1 (List.contains_iff_mem.1 this)
  · exact h1
  · rw [Array.getD_eq_getD_getElem?, Array.getElem?_replicate]; split <;> rfl
  · have : (List.range l.toArray.size).countP (fun j => !(Array.replicate l.toArray.size false).getD j false) = (List.range l.toArray.size).countP (fun _ => true) := by
      apply List.countP_congr
      intro j hj
      rw [Array.getD_eq_getD_getElem?, Array.getElem?_replicate]; split <;> simp
    rw [this]; simp
  · rw [Array.getD_eq_getD_getElem?, Array.getElem?_replicate] at hl
    split at hl <;> cases hl
  · exact (hs.grow ((Go.RowKit.Below.refl _ _).drew) (fun b _ hb => .inl hb) hs.x0).less (fun t x hx => (hcl0 t x hx).1) (fun t ob hx => (hide_hp hx).1)
  · rw [Array.getD_eq_getD_getElem?, Array.getElem?_replicate] at hl
    split at hl <;> cases hl
  · rw [Array.getD_eq_getD_getElem?, Array.getElem?_replicate] at hl
    split at hl <;> cases hl
end
end Go.Vc

/-
  DERIVED. Small things around VcI and VcJ.
-/
namespace Go.Vc
set_option linter.unusedVariables false

def condG (x : SV) (p q : Prop) : Prop := match x with
  | .v (.bool b) => (b = true → p) ∧ (b = false → q)
  | _ => False

section
variable {c : Cx} {N : Nat} {X0 : Nat → Prop} {M : Nat → BV → Prop} {w0 : World} {st : St} {K : Exit → St → Prop}
theorem WP.condW {x : Operand} {p q : Code} (h : condG (st.ev x) (WP c N X0 M w0 p st K) (WP c N X0 M w0 q st K)) : WP c N X0 M w0 (.cond x p q) st K := by
  unfold condG at h
  split at h
  · rename_i b hb; exact WP.cond hb h.1 h.2
  · exact h.elim
end

/-- what an operation that is not run may be taken to yield -/
def offV (tys : List (Nat × TyD)) (o : Oper) : SV := match lk o.type tys with
  | some d => match d.z with
    | [z] => .v z
    | _ => .junk
  | none => .junk
/-- one operation that yields a value, in the form that simp carries out -/
def St.stepV (tys : List (Nat × TyD)) (C : List (FuncId × Ctr)) (N : Nat) (ops : Array Oper) (o : Oper) (st : St) (K : SV → Prop) : Prop :=
  dstOk N o.dst = true ∧ match o.guard with
  | none => (match o.op with
    | .call c => (match c.callee with
      | .value x => (match st.callF (o.dst.getD 0) C c x with
        | some (ob, r) => ob ∧ K r
        | none => False)
      | _ => (match st.pr tys (.call c) with
        | some (ob, r) => ob ∧ K r
        | none => False))
    | op => (match st.pr tys op with
      | some (ob, r) => ob ∧ K r
      | none => False))
  | some (j, want) => match (ops[j]?).bind (·.dst) with
    | some t => (match guardB want (st.get t) with
      | some c => (match o.op with
        | .call cl => (match cl.callee with
          | .value x => (match st.callF (o.dst.getD 0) C cl x with
            | some (ob, r) => (c = true → ob) ∧ K (mkCond c r)
            | none => c = false ∧ K (mkCond c (offV tys o)))
          | _ => (match st.pr tys (.call cl) with
            | some (ob, r) => (c = true → ob) ∧ K (mkCond c r)
            | none => c = false ∧ K (mkCond c (offV tys o))))
        | op => (match st.pr tys op with
          | some (ob, r) => (c = true → ob) ∧ K (mkCond c r)
          | none => c = false ∧ K (mkCond c (offV tys o))))
      | none => False)
    | none => False
def St.runW (tys : List (Nat × TyD)) (C : List (FuncId × Ctr)) (N : Nat) (ops : Array Oper) : List Oper → St → (St → Prop) → Prop
  | [], st, K => K st
  | o :: l, st, K => st.stepV tys C N ops o fun x => St.runW tys C N ops l (st.put o.dst x) K

theorem stepV_val {tys : List (Nat × TyD)} {C : List (FuncId × Ctr)} {N : Nat} {ops : Array Oper} {o : Oper} {st : St} {K : SV → Prop} (h : st.stepV tys C N ops o K) : ∃ x, st.val tys C N ops o x ∧ K x := by
  obtain ⟨hd, h⟩ := h
  have prU : ∀ {op}, (match st.pr tys op with | some (ob, r) => ob ∧ K r | none => False) → ∃ x, (∃ ob, st.pr tys op = some (ob, x) ∧ ob) ∧ K x := fun {op} h => by
    split at h
    · rename_i ob r hp; exact ⟨r, ⟨ob, hp, h.1⟩, h.2⟩
    · exact h.elim
  have prG : ∀ {op} {g : Bool}, (match st.pr tys op with | some (ob, r) => (g = true → ob) ∧ K (mkCond g r) | none => g = false ∧ K (mkCond g (offV tys o))) → (∃ x, (∃ ob r, st.pr tys op = some (ob, r) ∧ x = mkCond g r ∧ (g = true → ob)) ∧ K x) ∨ (g = false ∧ K (mkCond g (offV tys o))) := fun {op g} h => by
    split at h
    · rename_i ob r hp; exact .inl ⟨_, ⟨ob, r, hp, rfl, h.1⟩, h.2⟩
    · exact .inr h
  cases hg : o.guard with
  | none =>
    rw [hg] at h
    simp only at h
    have hval : ∀ {x}, st.valU tys C o x → st.val tys C N ops o x := fun {x} hx => .inl ⟨hd, by rw [hg]; exact hx⟩
    cases ho : o.op with
    | call c =>
      rw [ho] at h
      cases hc : c.callee with
      | value y =>
        simp only [hc] at h
        split at h
        case h_2 => exact h.elim
        case h_1 _ ob res hcf =>
        exact ⟨res, hval (by unfold St.valU; rw [ho]; simp only [hc]; exact ⟨ob, hcf, h.1⟩), h.2⟩
      | _ =>
        simp only [hc] at h
        obtain ⟨x, h1, h2⟩ := prU h
        exact ⟨x, hval (by unfold St.valU; rw [ho]; simp only [hc]; exact h1), h2⟩
    | _ =>
      rw [ho] at h
      obtain ⟨x, h1, h2⟩ := prU (op := o.op) (by rw [ho]; exact h)
      rw [ho] at h1
      exact ⟨x, hval (by unfold St.valU; rw [ho]; exact h1), h2⟩
  | some gw =>
    obtain ⟨j, want⟩ := gw
    rw [hg] at h
    simp only at h
    cases ht : (ops[j]?).bind (·.dst) with
    | none => rw [ht] at h; exact h.elim
    | some t =>
      rw [ht] at h
      simp only at h
      split at h
      case h_2 => exact h.elim
      case h_1 _ cc hcc =>
        have hval : ∀ {x}, st.valG tys C cc o x → st.val tys C N ops o x := fun {x} hx => .inl ⟨hd, by rw [hg]; simp only [ht, hcc]; exact hx⟩
        have hoff : cc = false → K (mkCond cc (offV tys o)) → ∃ x, st.val tys C N ops o x ∧ K x := fun h1 h2 => by
          subst h1
          exact ⟨_, .inr ⟨hd, ⟨_, rfl⟩, by rw [hg]; simp only [ht, hcc]⟩, h2⟩
        cases ho : o.op with
        | call c =>
          rw [ho] at h
          cases hc : c.callee with
          | value y =>
            simp only [hc] at h
            split at h
            case h_2 => exact hoff h.1 h.2
            case h_1 _ ob res hcf =>
            exact ⟨_, hval (by unfold St.valG; rw [ho]; simp only [hc]; exact ⟨ob, res, hcf, rfl, h.1⟩), h.2⟩
          | _ =>
            simp only [hc] at h
            rcases prG h with ⟨x, h1, h2⟩ | ⟨h1, h2⟩
            · exact ⟨x, hval (by unfold St.valG; rw [ho]; simp only [hc]; exact h1), h2⟩
            · exact hoff h1 h2
        | _ =>
          rw [ho] at h
          rcases prG (op := o.op) (by rw [ho]; exact h) with ⟨x, h1, h2⟩ | ⟨h1, h2⟩
          · rw [ho] at h1
            exact ⟨x, hval (by unfold St.valG; rw [ho]; exact h1), h2⟩
          · exact hoff h1 h2

theorem runV_of_runW {tys : List (Nat × TyD)} {C : List (FuncId × Ctr)} {N : Nat} {ops : Array Oper} {K : St → Prop} : ∀ (l : List Oper) {st : St}, St.runW tys C N ops l st K → St.runV tys C N ops l st K
  | [], st, h => h
  | o :: l, st, h => by
    obtain ⟨x, h1, h2⟩ := stepV_val h
    exact ⟨x, h1, runV_of_runW l h2⟩

theorem WP.drawW {c : Cx} {N : Nat} {X0 : Nat → Prop} {M : Nat → BV → Prop} {w0 : World} {K : Exit → St → Prop} {id : Nat} {l : List Oper} {st : St} (m : Nat) (hB : drawB l.toArray m = true) (hm : c.P.follows .mixedOrders = true)
    (h : St.runW c.tys c.C N l.toArray (l.take m) st fun st' => St.runR c.tys c.C N l.toArray (l.drop m) st' (K .normal)) : WP c N X0 M w0 (.region id l.toArray true) st K :=
  WP.draw m hB hm (runV_of_runW _ h)

structure Cn (P : Program) (f : FuncId) (ctr : Ctr) : Prop where
  call : Callable P f
  holds : ∀ d args, (ctr.pure d args).1 → Holds P f args (ctr.pure d args).2.1 (ctr.pure d args).2.2
  holdsL : ∀ d args obs, (ctr.wri d args obs).1 → HoldsL P f args obs (ctr.wri d args obs).2.1 (ctr.wri d args obs).2.2.1 (ctr.wri d args obs).2.2.2

theorem COk.nil (P : Program) : COk P [] := ⟨fun f c h => (by cases h), fun f c h => (by cases h), fun f c h => (by cases h)⟩
theorem COk.cons {P : Program} {f : FuncId} {ctr : Ctr} {C : List (FuncId × Ctr)} (h : Cn P f ctr) (hC : COk P C) : COk P ((f, ctr) :: C) where
  call := fun g c hg => by
    simp only [lk] at hg
    by_cases he : g = f
    · subst he; exact h.call
    · rw [if_neg he] at hg; exact hC.call g c hg
  holds := fun g c hg => by
    simp only [lk] at hg
    by_cases he : g = f
    · subst he; rw [if_pos rfl] at hg; cases hg; exact h.holds
    · rw [if_neg he] at hg; exact hC.holds g c hg
  holdsL := fun g c hg => by
    simp only [lk] at hg
    by_cases he : g = f
    · subst he; rw [if_pos rfl] at hg; cases hg; exact h.holdsL
    · rw [if_neg he] at hg; exact hC.holdsL g c hg

/-- a contract of a function that writes into no argument: of arguments A x, of which pre x holds -/
def pur {X : Type} (dec : List SV → X) (A : X → List SV) (pre : X → Prop) (res : Nat → X → SV) (robs : Nat → X → List (Nat × Ob)) : Ctr :=
  { pure := fun d args => (args = A (dec args) ∧ pre (dec args), res d (dec args), robs d (dec args)) }
/-- .. of a function that is lent the arguments 'lend' and given the arguments 'move': of arguments A x and objects B x -/
def len {X : Type} (lend move : List Nat) (dec : List SV → List (Nat × Ob) → X) (A : X → List SV) (B : X → List (Nat × Ob)) (pre : X → Prop) (res : Nat → X → SV) (robs : Nat → X → List (Nat × Ob)) (kept : X → List (Nat × Ob)) : Ctr :=
  { lend := lend, move := move, wri := fun d args obs => (args = A (dec args obs) ∧ obs = B (dec args obs) ∧ d < 900000 ∧ pre (dec args obs), res d (dec args obs), robs d (dec args obs), kept (dec args obs)) }
theorem Cn.pur {P : Program} {f : FuncId} {X : Type} {dec : List SV → X} {A : X → List SV} {pre : X → Prop} {res : Nat → X → SV} {robs : Nat → X → List (Nat × Ob)} {fn : Func} {code : Code} (hf : P.funcs[f]? = some fn) (hn : (fn.name == "runtime.NumGoroutine") = false) (hb : fn.body = some code)
    (h : ∀ d x, pre x → Holds P f (A x) (res d x) (robs d x)) : Cn P f (pur dec A pre res robs) :=
  ⟨⟨fn, hf, hn, by rw [hb]; rfl⟩, fun d args ha => (by have := h d (dec args) ha.2; rw [← ha.1] at this; exact this), fun _ _ _ h => h.elim⟩
theorem Cn.len {P : Program} {f : FuncId} {X : Type} {lend move : List Nat} {dec : List SV → List (Nat × Ob) → X} {A : X → List SV} {B : X → List (Nat × Ob)} {pre : X → Prop} {res : Nat → X → SV} {robs : Nat → X → List (Nat × Ob)} {kept : X → List (Nat × Ob)} {fn : Func} {code : Code}
    (hf : P.funcs[f]? = some fn) (hn : (fn.name == "runtime.NumGoroutine") = false) (hb : fn.body = some code) (h : ∀ d x, d < 900000 → pre x → HoldsL P f (A x) (B x) (res d x) (robs d x) (kept x)) : Cn P f (len lend move dec A B pre res robs kept) :=
  ⟨⟨fn, hf, hn, by rw [hb]; rfl⟩, fun _ _ h => h.elim, fun d args obs ha => by
    have := h d (dec args obs) ha.2.2.1 ha.2.2.2
    rw [← ha.1, ← ha.2.1] at this
    exact this⟩

/-! what an argument holds -/
def aI (args : List SV) (i : Nat) : Int := match args[i]? with
  | some (.v (.int _ n)) => n
  | _ => 0
def aB (args : List SV) (i : Nat) : Bool := match args[i]? with
  | some (.v (.bool b)) => b
  | _ => false
def aS (args : List SV) (i : Nat) : ByteArray := match args[i]? with
  | some (.v (.string s)) => s
  | _ => ⟨#[]⟩
def aR (args : List SV) (i : Nat) : List (List SV) := match args[i]? with
  | some (.sl _ rows) => rows
  | _ => []
def aC (args : List SV) (i : Nat) : List SV := match args[i]? with
  | some (.agg cs) => cs
  | _ => []

/-- the rows of the object called i -/
def oR (obs : List (Nat × Ob)) (i : Nat) : List (List SV) := match lk i obs with
  | some (.sl _ _ rows) => rows
  | _ => []
def oE (obs : List (Nat × Ob)) (i : Nat) : Nat := match lk i obs with
  | some (.sl e _ _) => e
  | some (.dp e _ _) => e
  | _ => 0
def oD (obs : List (Nat × Ob)) (i : Nat) : List (List SV) := match lk i obs with
  | some (.dp _ _ rows) => rows
  | _ => []
def oC (obs : List (Nat × Ob)) (i : Nat) : List SV := match lk i obs with
  | some (.box _ cs) => cs
  | _ => []
theorem Holds.go {c : Cx} {N : Nat} {f : FuncId} {fn : Func} {code : Code} (hf : c.P.funcs[f]? = some fn) (hb : fn.body = some code) {rs : List ResultVar} (hrs : fn.results = rs.toArray) (hn : fn.ntmps = N) (hfew : N ≤ 900000) {args : List SV} (ha : args.length ≤ N) {res : SV} {robs : List (Nat × Ob)}
    (hrb : (robs.all fun p => p.2.pb) = true)
    (h : ∀ (X0 : Nat → Prop) (w0 : World), WP c N X0 (fun _ _ => False) w0 code ⟨argsL 0 args, []⟩ (retK c.tys rs res robs)) : Holds c.P f args res robs :=
  Holds.of_WP hf hb (by rw [hrs]) hn hfew ha (fun {id ob} hi => List.all_eq_true.1 hrb _ (lk_mem hi)) h
theorem HoldsL.go {c : Cx} {N : Nat} {f : FuncId} {fn : Func} {code : Code} (hf : c.P.funcs[f]? = some fn) (hb : fn.body = some code) {rs : List ResultVar} (hrs : fn.results = rs.toArray) (hn : fn.ntmps = N) (hfew : N ≤ 900000) {args : List SV} (ha : args.length ≤ N)
    {obs : List (Nat × Ob)} {res : SV} {robs kept : List (Nat × Ob)} (hrb : (robs.all fun p => p.2.pb) = true) (hrid : ∀ i ∈ robs.map (·.1), i < 900000) (hres : ∀ i ∈ res.owns2, i ∈ robs.map (·.1))
    (hkid : ∀ i ∈ kept.map (·.1), 1000000 ≤ i) (hkre : kept.map (fun p => (p.1, p.2.up (SV.ren1 (kept.map fun q => (q.1, q.1))))) = kept) (hkn : nodupN (kept.map (·.1)) = true) (hall : ∀ i ∈ obs.map (·.1), 1000000 ≤ i → i ∈ kept.map (·.1))
    (h : ∀ (X0 : Nat → Prop) (M : Nat → BV → Prop) (w0 : World), WP c N X0 M w0 code ⟨argsL 0 args, obs⟩ (retL c.tys rs res robs kept)) : HoldsL c.P f args obs res robs kept :=
  HoldsL.of_WP hf hb (by rw [hrs]) hn hfew ha (fun {id ob} hi => List.all_eq_true.1 hrb _ (lk_mem hi)) hrid hres hkid hkre (nodupN_iff.1 hkn) hall h

theorem beqT (b : Bool) : (b == true) = b := by cases b <;> rfl
theorem beqF (b : Bool) : (b == false) = !b := by cases b <;> rfl

/-- a result's number is the caller's to choose -/
theorem Holds.own1 {P : Program} {f : FuncId} {args : List SV} {i e s : Nat} {rows : List (List SV)} (h : Holds P f args (.own i) [(i, .sl e s rows)]) (j : Nat) : Holds P f args (.own j) [(j, .sl e s rows)] := by
  intro w X vs hG hX hl ha
  refine (h w X vs hG hX hl ha).mono fun en w' hp => ?_
  obtain ⟨v, β, rfl, hb, hβ, hR, ⟨hO, _⟩, hn⟩ := hp
  have hv := hR.own_inv
  have hO1 := hO i (.sl e s rows) (by simp [lk])
  have hS : Same (XX X β [(i, .sl e s rows)]) w' w' := ⟨Nat.le_refl _, fun _ _ _ => rfl⟩
  refine ⟨v, fun _ => β i, rfl, hb, fun _ => hβ i, ?_, ⟨fun id ob hi => ?_, fun a b oa ob bb ha hb _ _ => ?_⟩, fun id ob b hi hbb => ?_⟩
  · rw [hv]; exact .own j
  · simp only [lk] at hi
    split at hi
    · cases hi
      refine (hO1.mono hS (fun b _ hx => ?_) (fun _ _ => rfl)).sl_beta
      rcases hx with hx | ⟨id2, o2, h2, h3⟩
      · exact .inl hx
      · exact .inr ⟨i, .sl e s rows, by simp [lk], h3⟩
    · cases hi
  · simp only [lk] at ha hb
    split at ha
    · split at hb
      · rename_i e1 e2; rw [e1, e2]
      · cases hb
    · cases ha
  · exact hn i (.sl e s rows) b (by simp [lk]) hbb

/-! ## lists that are laid one after the other -/

def filled {α : Type} (enc : α → List SV) (z : List SV) (L : List α) (k : Nat) : List (List SV) := (L.take k).map enc ++ List.replicate (L.length - k) z
section
variable {α : Type} (enc : α → List SV) (z : List SV) (L : List α)
theorem filled_zero : filled enc z L 0 = List.replicate L.length z := by simp [filled]
theorem filled_all : filled enc z L L.length = L.map enc := by simp [filled]
theorem filled_len (k : Nat) (hk : k ≤ L.length) : (filled enc z L k).length = L.length := by simp [filled]; omega
theorem filled_row (k : Nat) (hk : k < L.length) : rowAt (filled enc z L k) k = z := by
  unfold rowAt filled
  rw [List.getElem?_append_right (by simp; omega)]
  simp only [List.length_map, List.length_take, Nat.min_eq_left (Nat.le_of_lt hk), Nat.sub_self]
  rw [List.getElem?_replicate, if_pos (by omega)]; rfl
theorem filled_set (k : Nat) (hk : k < L.length) : (filled enc z L k).set k (enc L[k]) = filled enc z L (k + 1) := by
  unfold filled
  have e1 : L.length - k = (L.length - (k + 1)) + 1 := by omega
  rw [List.set_append, if_neg (by simp; omega), e1, List.replicate_succ]
  simp only [List.length_map, List.length_take, Nat.min_eq_left (Nat.le_of_lt hk), Nat.sub_self, List.set_cons_zero]
  rw [List.take_succ_eq_append_getElem hk]
  simp only [List.map_append, List.map_cons, List.map_nil, List.append_assoc, List.cons_append, List.nil_append]
theorem rowAt_map (k : Nat) (hk : k < L.length) : rowAt (L.map enc) k = enc L[k] := by
  unfold rowAt
  rw [List.getElem?_map, List.getElem?_eq_getElem hk]; rfl
end
end Go.Vc

/-
  DERIVED. VcS in the form that simp carries out.
-/
namespace Go.Vc
set_option linter.unusedVariables false
set_option linter.unusedSimpArgs false

/-- one operation of a region that makes objects -/
def St.dltK (tys : List (Nat × TyD)) (C : List (FuncId × Ctr)) (N : Nat) (ops : Array Oper) (o : Oper) (st : St) (K : Nat → Dl → Prop) : Prop :=
  match o.dst with
  | none => False
  | some d => match o.guard with
    | some _ => st.stepV tys C N ops o fun x => K d ⟨x, [], []⟩
    | none => match o.op with
      | .alloc T => match lk T tys with
        | some t => dstOk N o.dst = true ∧ t.z.all Value.oneCell' = true ∧ K d ⟨.ptr d 0 0 0, [(d, .box T (t.z.map .v))], []⟩
        | none => False
      | .box T x => dstOk N o.dst = true ∧ (st.ev x).need ∧ (st.ev x).strip.cells.all SV.one = true ∧ (st.ev x).strip.cells.map (SV.kill d) = (st.ev x).strip.cells ∧ K d ⟨.ptr d 0 0 0, [(d, .box T (st.ev x).strip.cells)], []⟩
      | .buildSlice T n parts => match partIds st parts.toList with
       | _ :: _ => dstOk N o.dst = true ∧ (match st.deepQ tys o with
        | some (p, ob, is) => p ∧ K d ⟨.own d, [(d, ob)], is⟩
        | none => False)
       | [] => match lk T tys with
        | some t => match lk t.elem tys with
          | some e => dstOk N o.dst = true ∧ t.kind = 1 ∧ 0 < e.size ∧ n * e.size ≤ 16777216 ∧ e.z.length = e.size ∧ e.z.all Value.oneCell' = true ∧ partsIn st n e.size parts.toList ∧
              K d ⟨.own d, [(d, .sl t.elem e.size (rowsIn st (e.z.map .v) parts.toList (List.replicate n (e.z.map .v))))], []⟩
          | none => False
        | none => False
      | .makeSlice T l c => match lk T tys, (st.ev l).strip, (st.ev c).strip with
        | some t, .v (.int .i64 n), .v (.int .i64 m) => match lk t.elem tys with
          | some e => dstOk N o.dst = true ∧ t.kind = 1 ∧ (st.ev l).need ∧ (st.ev c).need ∧ 0 ≤ n ∧ n ≤ m ∧ m * (e.bytes : Int) ≤ 281474976710656 ∧ 0 < e.bytes ∧ e.z.length = e.size ∧ e.z.all Value.oneCell' = true ∧
              K d ⟨.own d, [(d, .sl t.elem e.size (List.replicate n.toNat (e.z.map .v)))], []⟩
          | none => False
        | _, _, _ => False
      | .call c => match c.callee with
        | .value x => match st.ev x with
          | .fn f caps => match lk f C with
            | some ctr => dstOk N o.dst = true ∧ ctr.isL = false ∧ (match ctr.pure d ((st.argL c caps).map (SV.share st.hp)) with
              | (ob, res, robs) => ob ∧ (∀ y ∈ c.args.toList, (st.ev y).need) ∧ ((st.argL c caps).all fun y => (y.share st.hp).good) = true ∧ res.rok = true ∧ (res.owns2.all fun i => (robs.map (·.1)).contains i) = true ∧
                nodupN (robs.map (·.1)) = true ∧ ((robs.map (·.1)).all fun i => decide (i < 1000000)) = true ∧ (robs.all fun p => p.2.pl) = true ∧
                (((st.argL c caps).flatMap SV.owns) = [] ∨ (res.isV2 = true ∧ ∀ p ∈ robs, p.2.isV)) ∧ K d ⟨res, robs, []⟩)
            | none => False
          | _ => False
        | .builtin .append => match st.dpArg c with
         | true => dstOk N o.dst = true ∧ (match st.deepQ tys o with
          | some (p, ob, is) => p ∧ K d ⟨.own d, [(d, ob)], is⟩
          | none => False)
         | false => match c.args.toList, c.argTypes.toList with
          | [x, y], [T, T'] => match lk T tys, st.rowsOf (st.ev y).strip with
            | some t, some news => match lk t.elem tys with
              | some e => dstOk N o.dst = true ∧ T = T' ∧ t.kind = 1 ∧ (st.ev x).need ∧ (st.ev y).need ∧ 0 < e.size ∧ 0 < e.bytes ∧ e.z.length = e.size ∧
                (match (st.ev x).strip with
                | .own j => match lk j st.hp with
                  | some (.sl e' s' rows) => j < 1000000 ∧ j ≠ d ∧ e' = t.elem ∧ s' = e.size ∧ (rows.length + news.length) * e.bytes ≤ 140737488355328 ∧ (∀ row ∈ news, row.length = e.size) ∧ K d ⟨.own d, [(d, .sl e' s' (rows ++ news))], [j]⟩
                  | _ => False
                | .v (.slice none 0 0) => news.length * e.bytes ≤ 140737488355328 ∧ (∀ row ∈ news, row.length = e.size) ∧ K d ⟨.own d, [(d, .sl t.elem e.size news)], []⟩
                | _ => False)
              | none => False
            | _, _ => False
          | _, _ => False
        | _ => st.stepV tys C N ops o fun x => K d ⟨x, [], []⟩
      | _ => st.stepV tys C N ops o fun x => K d ⟨x, [], []⟩

theorem dltK_ex {tys : List (Nat × TyD)} {C : List (FuncId × Ctr)} {N : Nat} {ops : Array Oper} {o : Oper} {st : St} {K : Nat → Dl → Prop} (h : st.dltK tys C N ops o K) : ∃ d δ, st.dlt tys C N ops o d δ ∧ K d δ := by
  unfold St.dltK at h
  cases hod : o.dst with
  | none => rw [hod] at h; exact h.elim
  | some d =>
    rw [hod] at h
    simp only at h
    have val : (st.stepV tys C N ops o fun x => K d ⟨x, [], []⟩) → ∃ d δ, st.dlt tys C N ops o d δ ∧ K d δ := fun hv => by
      obtain ⟨x, h1, h2⟩ := stepV_val hv
      exact ⟨d, _, ⟨hod, .inl ⟨h1, rfl, rfl⟩⟩, h2⟩
    cases hg : o.guard with
    | some g => rw [hg] at h; exact val h
    | none =>
      rw [hg] at h
      simp only at h
      cases ho : o.op with
      | alloc T =>
        rw [ho] at h
        simp only at h
        split at h
        case h_2 => exact h.elim
        case h_1 _ t ht =>
          refine ⟨d, _, ⟨hod, .inr (.inl ⟨hg, by rw [hod]; exact h.1, ?_⟩)⟩, h.2.2⟩
          rw [ho]
          simp only [ht]
          exact ⟨h.2.1, trivial⟩
      | box T x =>
        rw [ho] at h
        simp only at h
        refine ⟨d, _, ⟨hod, .inr (.inl ⟨hg, by rw [hod]; exact h.1, ?_⟩)⟩, h.2.2.2.2⟩
        rw [ho]
        exact ⟨h.2.1, h.2.2.1, h.2.2.2.1, rfl⟩
      | buildSlice T n parts =>
        rw [ho] at h
        simp only at h
        split at h
        · obtain ⟨h0, h⟩ := h
          split at h
          · rename_i p ob is hq
            exact ⟨d, _, ⟨hod, .inr (.inr ⟨hg, by rw [hod]; exact h0, p, ob, is, hq, h.1, rfl⟩)⟩, h.2⟩
          · exact h.elim
        split at h
        case h_2 => exact h.elim
        case h_1 _ t ht =>
          split at h
          case h_2 => exact h.elim
          case h_1 _ e he =>
            obtain ⟨h0, h1, h2, h3, h4, h5, h6, h7⟩ := h
            refine ⟨d, _, ⟨hod, .inr (.inl ⟨hg, by rw [hod]; exact h0, ?_⟩)⟩, h7⟩
            rw [ho]
            simp only [ht, he]
            exact ⟨h1, h2, h3, h4, h5, h6, trivial⟩
      | makeSlice T l cc =>
        rw [ho] at h
        simp only at h
        split at h
        case h_2 => exact h.elim
        case h_1 _ _ _ t n m ht hl hc =>
          split at h
          case h_2 => exact h.elim
          case h_1 _ e he =>
            obtain ⟨h0, h1, h2, h3, h4, h5, h6, h7, h8, h9, h10⟩ := h
            refine ⟨d, _, ⟨hod, .inr (.inl ⟨hg, by rw [hod]; exact h0, ?_⟩)⟩, h10⟩
            rw [ho]
            simp only [ht, hl, hc, he]
            exact ⟨h1, h2, h3, h4, h5, h6, h7, h8, h9, trivial⟩
      | call c =>
        rw [ho] at h
        simp only at h
        cases hc : c.callee with
        | value x =>
          rw [hc] at h
          simp only at h
          split at h
          case h_2 => exact h.elim
          case h_1 _ f caps hf =>
            split at h
            case h_2 => exact h.elim
            case h_1 _ ctr hctr =>
              obtain ⟨h0, h1, h⟩ := h
              have hdl : ∀ {δ : Dl}, (match ctr.pure d ((st.argL c caps).map (SV.share st.hp)) with
                  | (ob, res, robs) => ob ∧ (∀ y ∈ c.args.toList, (st.ev y).need) ∧ ((st.argL c caps).all fun y => (y.share st.hp).good) = true ∧ res.rok = true ∧ (res.owns2.all fun i => (robs.map (·.1)).contains i) = true ∧
                    nodupN (robs.map (·.1)) = true ∧ ((robs.map (·.1)).all fun i => decide (i < 1000000)) = true ∧ (robs.all fun p => p.2.pl) = true ∧
                    (((st.argL c caps).flatMap SV.owns) = [] ∨ (res.isV2 = true ∧ ∀ p ∈ robs, p.2.isV)) ∧ δ = ⟨res, robs, []⟩) → st.dlt tys C N ops o d δ := fun {δ} hq => by
                refine ⟨hod, .inr (.inl ⟨hg, by rw [hod]; exact h0, ?_⟩)⟩
                rw [ho]
                simp only [hc, hf, hctr]
                exact ⟨h1, hq⟩
              obtain ⟨g1, g2, g3, g4, g5, g6, g7, g8, g9, g10⟩ := h
              have hq := hdl (δ := ⟨(ctr.pure d ((st.argL c caps).map (SV.share st.hp))).2.1, (ctr.pure d ((st.argL c caps).map (SV.share st.hp))).2.2, []⟩) ⟨g1, g2, g3, g4, g5, g6, g7, g8, g9, rfl⟩
              exact ⟨d, _, hq, g10⟩
        | invoke r q => rw [hc] at h; exact val h
        | builtin b =>
          rw [hc] at h
          cases b <;> first | exact val h | skip
          simp only at h
          split at h
          · obtain ⟨h0, h⟩ := h
            split at h
            · rename_i p ob is hq
              exact ⟨d, _, ⟨hod, .inr (.inr ⟨hg, by rw [hod]; exact h0, p, ob, is, hq, h.1, rfl⟩)⟩, h.2⟩
            · exact h.elim
          split at h
          case h_2 => exact h.elim
          case h_1 _ _ x y T T' ha hAt =>
            split at h
            case h_2 => exact h.elim
            case h_1 _ _ t news ht hnr =>
              split at h
              case h_2 => exact h.elim
              case h_1 _ e he =>
                obtain ⟨h0, h1, h2, h3, h4, h5, h6, h7, h⟩ := h
                split at h
                case h_3 => exact h.elim
                case h_1 _ j hj =>
                  split at h
                  case h_2 => exact h.elim
                  case h_1 _ e' s' rows hl =>
                    obtain ⟨g1, g2, g3, g4, g5, g6, g7⟩ := h
                    refine ⟨d, _, ⟨hod, .inr (.inl ⟨hg, by rw [hod]; exact h0, ?_⟩)⟩, g7⟩
                    rw [ho]
                    simp only [hc, ha, hAt, ht, hnr, he, hj, hl]
                    exact ⟨h1, h2, h3, h4, h5, h6, h7, g1, g2, g3, g4, g5, g6, trivial⟩
                case h_2 _ hj =>
                  obtain ⟨g5, g6, g7⟩ := h
                  refine ⟨d, _, ⟨hod, .inr (.inl ⟨hg, by rw [hod]; exact h0, ?_⟩)⟩, g7⟩
                  rw [ho]
                  simp only [hc, ha, hAt, ht, hnr, he, hj]
                  exact ⟨h1, h2, h3, h4, h5, h6, h7, g5, g6, trivial⟩
      | _ => rw [ho] at h; exact val h

def St.runG (tys : List (Nat × TyD)) (C : List (FuncId × Ctr)) (N : Nat) (ops : Array Oper) (fl : List Fp) (base : St) : List Oper → Nat → Acc → (Acc → Prop) → Prop
  | [], _, acc, K => K acc
  | o :: l, i, acc, K => (base.least acc (fpAt fl i)).dltK tys C N ops o fun d δ => ((fpAt fl i).lks.all fun t => (lk t (base.least acc (fpAt fl i)).fr).isSome) = true ∧ dlOk (fpAt fl i) δ ∧ St.runG tys C N ops fl base l (i + 1) (acc ++ [(i, d, δ)]) K
theorem runF_of_runG {tys : List (Nat × TyD)} {C : List (FuncId × Ctr)} {N : Nat} {ops : Array Oper} {fl : List Fp} {base : St} {K : Acc → Prop} : ∀ (l : List Oper) (i : Nat) (acc : Acc), St.runG tys C N ops fl base l i acc K → St.runF tys C N ops fl base l i acc K
  | [], _, _, h => h
  | o :: l, i, acc, h => by
    obtain ⟨d, δ, h1, h2, h3, h4⟩ := dltK_ex h
    exact ⟨d, δ, h1, h2, h3, runF_of_runG l (i + 1) _ h4⟩
theorem WP.flowW {c : Cx} {N : Nat} {X0 : Nat → Prop} {M : Nat → BV → Prop} {w0 : World} {K : Exit → St → Prop} {id : Nat} {l : List Oper} {st : St} (m : Nat) (fl : List Fp) (ds mks gs : List Nat) (hB : flowB l.toArray m fl = true)
    (hD : ((List.range m).all fun k => match dstAt l.toArray k with | some d => ds.contains d | none => false) = true)
    (hM : ((List.range m).all fun k => ((fpAt fl k).mks.all fun d => mks.contains d) && ((fpAt fl k).gn.all fun d => gs.contains d)) = true) (hm : c.P.follows .mixedOrders = true)
    (h : St.runG c.tys c.C N l.toArray fl (st.clean ds mks) (l.take m) 0 [] fun acc => St.runR c.tys c.C N l.toArray (l.drop m) ((st.clean ds mks).final acc gs) (K .normal)) : WP c N X0 M w0 (.region id l.toArray true) st K :=
  WP.flow m fl ds mks gs hB hD hM hm (runF_of_runG _ _ _ h)
end Go.Vc

/-
  DERIVED. The seat's table of types, as VcB wants it. Made by program (mk_tab.py).
-/
namespace Go.Proofs.YtdhkhapbldkkdaaDoor
open Go.Vc
def td2 : TyD := { kind := 4, size := 1, bytes := 8, z := [.int .i64 0], ik := some .i64 } -- int64
def td3 : TyD := { kind := 4, size := 1, bytes := 8, z := [.int .i64 0], ik := some .i64 } -- int
def td4 : TyD := { kind := 5, size := 1, bytes := 1, z := [.bool false] } -- bool
def td5 : TyD := { kind := 4, size := 1, bytes := 1, z := [.int .u8 0], ik := some .u8 } -- uint8
def td9 : TyD := { kind := 2, size := 1, bytes := 16, z := [.string ⟨#[]⟩] } -- string
def td12 : TyD := { kind := 4, size := 1, bytes := 8, z := [.int .u64 0], ik := some .u64 } -- uintptr
def td21 : TyD := { kind := 4, size := 1, bytes := 4, z := [.int .i32 0], ik := some .i32 } -- int32
def td22 : TyD := { kind := 1, size := 1, bytes := 24, z := [.slice none 0 0], elem := 40 } -- []impl.LineCount
def td23 : TyD := { kind := 1, size := 1, bytes := 24, z := [.slice none 0 0], elem := 36 } -- []impl.Line
def td33 : TyD := { kind := 1, size := 1, bytes := 24, z := [.slice none 0 0], elem := 9 } -- []string
def td34 : TyD := { kind := 1, size := 1, bytes := 24, z := [.slice none 0 0], elem := 63 } -- []impl.Tok
def td36 : TyD := { kind := 3, size := 4, bytes := 72, z := [.int .i64 0, .string ⟨#[]⟩, .slice none 0 0, .slice none 0 0], offs := [(0, 1), (1, 1), (2, 1), (3, 1)] } -- impl.Line
def td40 : TyD := { kind := 3, size := 2, bytes := 16, z := [.int .i64 0, .int .i64 0], offs := [(0, 1), (1, 1)], eqs := [4, 4] } -- impl.LineCount
def td61 : TyD := { kind := 1, size := 1, bytes := 24, z := [.slice none 0 0], elem := 5 } -- []uint8
def td63 : TyD := { kind := 3, size := 3, bytes := 32, z := [.int .i64 0, .int .i64 0, .string ⟨#[]⟩], offs := [(0, 1), (1, 1), (2, 1)], eqs := [4, 4, 2] } -- impl.Tok
def td79 : TyD := { kind := 4, size := 1, bytes := 8, z := [.int .u64 0], ik := some .u64 } -- uint
def td84 : TyD := { kind := 3, size := 2, bytes := 32, z := [.pointer none, .slice none 0 0], offs := [(0, 1), (1, 1)] } -- strings.Builder
def td92 : TyD := { kind := 4, size := 1, bytes := 4, z := [.int .u32 0], ik := some .u32 } -- uint32
def td105 : TyD := { kind := 3, size := 2, bytes := 2, z := [.int .u8 0, .int .u8 0], offs := [(0, 1), (1, 1)], eqs := [4, 4] } -- utf8.acceptRange
def td109 : TyD := { kind := 4, size := 1, bytes := 8, z := [.int .u64 0], ik := some .u64 } -- uint64
def tys : List (Nat × TyD) := [(2, td2), (3, td3), (4, td4), (5, td5), (9, td9), (12, td12), (21, td21), (22, td22), (23, td23), (33, td33), (34, td34), (36, td36), (40, td40), (61, td61), (63, td63), (79, td79), (84, td84), (92, td92), (105, td105), (109, td109)]
theorem ty2 : lk 2 tys = some { kind := 4, size := 1, bytes := 8, z := [.int .i64 0], ik := some .i64 } := rfl
theorem tok2 : TyOk Tryd.prog 2 td2 := ⟨by kernel_rfl, by show _ = _; kernel_rfl, by decide, .inl rfl⟩
theorem ty3 : lk 3 tys = some { kind := 4, size := 1, bytes := 8, z := [.int .i64 0], ik := some .i64 } := rfl
theorem tok3 : TyOk Tryd.prog 3 td3 := ⟨by kernel_rfl, by show _ = _; kernel_rfl, by decide, .inl rfl⟩
theorem ty4 : lk 4 tys = some { kind := 5, size := 1, bytes := 1, z := [.bool false] } := rfl
theorem tok4 : TyOk Tryd.prog 4 td4 := ⟨by kernel_rfl, by show _ = _; kernel_rfl, by decide, .inl rfl⟩
theorem ty5 : lk 5 tys = some { kind := 4, size := 1, bytes := 1, z := [.int .u8 0], ik := some .u8 } := rfl
theorem tok5 : TyOk Tryd.prog 5 td5 := ⟨by kernel_rfl, by show _ = _; kernel_rfl, by decide, .inl rfl⟩
theorem ty9 : lk 9 tys = some { kind := 2, size := 1, bytes := 16, z := [.string ⟨#[]⟩] } := rfl
theorem tok9 : TyOk Tryd.prog 9 td9 := ⟨by kernel_rfl, by show _ = _; kernel_rfl, by decide, .inl rfl⟩
theorem ty12 : lk 12 tys = some { kind := 4, size := 1, bytes := 8, z := [.int .u64 0], ik := some .u64 } := rfl
theorem tok12 : TyOk Tryd.prog 12 td12 := ⟨by kernel_rfl, by show _ = _; kernel_rfl, by decide, .inl rfl⟩
theorem ty21 : lk 21 tys = some { kind := 4, size := 1, bytes := 4, z := [.int .i32 0], ik := some .i32 } := rfl
theorem tok21 : TyOk Tryd.prog 21 td21 := ⟨by kernel_rfl, by show _ = _; kernel_rfl, by decide, .inl rfl⟩
theorem ty22 : lk 22 tys = some { kind := 1, size := 1, bytes := 24, z := [.slice none 0 0], elem := 40 } := rfl
theorem tok22 : TyOk Tryd.prog 22 td22 := ⟨by kernel_rfl, by show _ = _; kernel_rfl, by decide, .inl rfl⟩
theorem ty23 : lk 23 tys = some { kind := 1, size := 1, bytes := 24, z := [.slice none 0 0], elem := 36 } := rfl
theorem tok23 : TyOk Tryd.prog 23 td23 := ⟨by kernel_rfl, by show _ = _; kernel_rfl, by decide, .inl rfl⟩
theorem ty33 : lk 33 tys = some { kind := 1, size := 1, bytes := 24, z := [.slice none 0 0], elem := 9 } := rfl
theorem tok33 : TyOk Tryd.prog 33 td33 := ⟨by kernel_rfl, by show _ = _; kernel_rfl, by decide, .inl rfl⟩
theorem ty34 : lk 34 tys = some { kind := 1, size := 1, bytes := 24, z := [.slice none 0 0], elem := 63 } := rfl
theorem tok34 : TyOk Tryd.prog 34 td34 := ⟨by kernel_rfl, by show _ = _; kernel_rfl, by decide, .inl rfl⟩
theorem ty36 : lk 36 tys = some { kind := 3, size := 4, bytes := 72, z := [.int .i64 0, .string ⟨#[]⟩, .slice none 0 0, .slice none 0 0], offs := [(0, 1), (1, 1), (2, 1), (3, 1)] } := rfl
theorem tok36 : TyOk Tryd.prog 36 td36 := ⟨by kernel_rfl, by show _ = _; kernel_rfl, by decide, .inl rfl⟩
theorem ty40 : lk 40 tys = some { kind := 3, size := 2, bytes := 16, z := [.int .i64 0, .int .i64 0], offs := [(0, 1), (1, 1)], eqs := [4, 4] } := rfl
theorem tok40 : TyOk Tryd.prog 40 td40 := ⟨by kernel_rfl, by show _ = _; kernel_rfl, by decide, .inr ⟨by kernel_rfl, by kernel_rfl, rfl⟩⟩
theorem ty61 : lk 61 tys = some { kind := 1, size := 1, bytes := 24, z := [.slice none 0 0], elem := 5 } := rfl
theorem tok61 : TyOk Tryd.prog 61 td61 := ⟨by kernel_rfl, by show _ = _; kernel_rfl, by decide, .inl rfl⟩
theorem ty63 : lk 63 tys = some { kind := 3, size := 3, bytes := 32, z := [.int .i64 0, .int .i64 0, .string ⟨#[]⟩], offs := [(0, 1), (1, 1), (2, 1)], eqs := [4, 4, 2] } := rfl
theorem tok63 : TyOk Tryd.prog 63 td63 := ⟨by kernel_rfl, by show _ = _; kernel_rfl, by decide, .inr ⟨by kernel_rfl, by kernel_rfl, rfl⟩⟩
theorem ty79 : lk 79 tys = some { kind := 4, size := 1, bytes := 8, z := [.int .u64 0], ik := some .u64 } := rfl
theorem tok79 : TyOk Tryd.prog 79 td79 := ⟨by kernel_rfl, by show _ = _; kernel_rfl, by decide, .inl rfl⟩
theorem ty84 : lk 84 tys = some { kind := 3, size := 2, bytes := 32, z := [.pointer none, .slice none 0 0], offs := [(0, 1), (1, 1)] } := rfl
theorem tok84 : TyOk Tryd.prog 84 td84 := ⟨by kernel_rfl, by show _ = _; kernel_rfl, by decide, .inl rfl⟩
theorem ty92 : lk 92 tys = some { kind := 4, size := 1, bytes := 4, z := [.int .u32 0], ik := some .u32 } := rfl
theorem tok92 : TyOk Tryd.prog 92 td92 := ⟨by kernel_rfl, by show _ = _; kernel_rfl, by decide, .inl rfl⟩
theorem ty105 : lk 105 tys = some { kind := 3, size := 2, bytes := 2, z := [.int .u8 0, .int .u8 0], offs := [(0, 1), (1, 1)], eqs := [4, 4] } := rfl
theorem tok105 : TyOk Tryd.prog 105 td105 := ⟨by kernel_rfl, by show _ = _; kernel_rfl, by decide, .inr ⟨by kernel_rfl, by kernel_rfl, rfl⟩⟩
theorem ty109 : lk 109 tys = some { kind := 4, size := 1, bytes := 8, z := [.int .u64 0], ik := some .u64 } := rfl
theorem tok109 : TyOk Tryd.prog 109 td109 := ⟨by kernel_rfl, by show _ = _; kernel_rfl, by decide, .inl rfl⟩
theorem tysOk : ∀ T d, lk T tys = some d → TyOk Tryd.prog T d := fun T d h => by
  have hm := lk_mem h
  simp only [tys, List.mem_cons, Prod.mk.injEq, List.not_mem_nil, or_false] at hm
  rcases hm with ⟨rfl, rfl⟩ | ⟨rfl, rfl⟩ | ⟨rfl, rfl⟩ | ⟨rfl, rfl⟩ | ⟨rfl, rfl⟩ | ⟨rfl, rfl⟩ | ⟨rfl, rfl⟩ | ⟨rfl, rfl⟩ | ⟨rfl, rfl⟩ | ⟨rfl, rfl⟩ | ⟨rfl, rfl⟩ | ⟨rfl, rfl⟩ | ⟨rfl, rfl⟩ | ⟨rfl, rfl⟩ | ⟨rfl, rfl⟩ | ⟨rfl, rfl⟩ | ⟨rfl, rfl⟩ | ⟨rfl, rfl⟩ | ⟨rfl, rfl⟩ | ⟨rfl, rfl⟩
  · exact tok2
  · exact tok3
  · exact tok4
  · exact tok5
  · exact tok9
  · exact tok12
  · exact tok21
  · exact tok22
  · exact tok23
  · exact tok33
  · exact tok34
  · exact tok36
  · exact tok40
  · exact tok61
  · exact tok63
  · exact tok79
  · exact tok84
  · exact tok92
  · exact tok105
  · exact tok109
theorem tyAll : lk 2 tys = some { kind := 4, size := 1, bytes := 8, z := [.int .i64 0], ik := some .i64 } ∧ lk 3 tys = some { kind := 4, size := 1, bytes := 8, z := [.int .i64 0], ik := some .i64 } ∧ lk 4 tys = some { kind := 5, size := 1, bytes := 1, z := [.bool false] } ∧ lk 5 tys = some { kind := 4, size := 1, bytes := 1, z := [.int .u8 0], ik := some .u8 } ∧ lk 9 tys = some { kind := 2, size := 1, bytes := 16, z := [.string ⟨#[]⟩] } ∧ lk 12 tys = some { kind := 4, size := 1, bytes := 8, z := [.int .u64 0], ik := some .u64 } ∧ lk 21 tys = some { kind := 4, size := 1, bytes := 4, z := [.int .i32 0], ik := some .i32 } ∧ lk 22 tys = some { kind := 1, size := 1, bytes := 24, z := [.slice none 0 0], elem := 40 } ∧ lk 23 tys = some { kind := 1, size := 1, bytes := 24, z := [.slice none 0 0], elem := 36 } ∧ lk 33 tys = some { kind := 1, size := 1, bytes := 24, z := [.slice none 0 0], elem := 9 } ∧ lk 34 tys = some { kind := 1, size := 1, bytes := 24, z := [.slice none 0 0], elem := 63 } ∧ lk 36 tys = some { kind := 3, size := 4, bytes := 72, z := [.int .i64 0, .string ⟨#[]⟩, .slice none 0 0, .slice none 0 0], offs := [(0, 1), (1, 1), (2, 1), (3, 1)] } ∧ lk 40 tys = some { kind := 3, size := 2, bytes := 16, z := [.int .i64 0, .int .i64 0], offs := [(0, 1), (1, 1)], eqs := [4, 4] } ∧ lk 61 tys = some { kind := 1, size := 1, bytes := 24, z := [.slice none 0 0], elem := 5 } ∧ lk 63 tys = some { kind := 3, size := 3, bytes := 32, z := [.int .i64 0, .int .i64 0, .string ⟨#[]⟩], offs := [(0, 1), (1, 1), (2, 1)], eqs := [4, 4, 2] } ∧ lk 79 tys = some { kind := 4, size := 1, bytes := 8, z := [.int .u64 0], ik := some .u64 } ∧ lk 84 tys = some { kind := 3, size := 2, bytes := 32, z := [.pointer none, .slice none 0 0], offs := [(0, 1), (1, 1)] } ∧ lk 92 tys = some { kind := 4, size := 1, bytes := 4, z := [.int .u32 0], ik := some .u32 } ∧ lk 105 tys = some { kind := 3, size := 2, bytes := 2, z := [.int .u8 0, .int .u8 0], offs := [(0, 1), (1, 1)], eqs := [4, 4] } ∧ lk 109 tys = some { kind := 4, size := 1, bytes := 8, z := [.int .u64 0], ik := some .u64 } := ⟨rfl, rfl, rfl, rfl, rfl, rfl, rfl, rfl, rfl, rfl, rfl, rfl, rfl, rfl, rfl, rfl, rfl, rfl, rfl, rfl⟩
end Go.Proofs.YtdhkhapbldkkdaaDoor

namespace Go.Proofs.YtdhkhapbldkkdaaDoor
open Go.Vc
attribute [local go_sem] St.runR St.runW St.stepV offV St.step St.stepU St.stepG mkCond guardB St.prK St.pr St.prLen St.eff St.callE St.callD St.callF St.callL aI aB aS aR aC St.isM St.argL Ctr.pure Ctr.lend Ctr.move Ctr.isL Ctr.wri pur len lentBy St.lentV St.lent1 nthS argsR restOf obsR pairs swapL unObs backL St.resL erL SV.ren1 SV.up SV.up2 Ob.up St.fzL cellIds partIds St.intoRow SV.ownId St.fz SV.fz1 St.prep St.mvL St.mv SV.re1 rnOk St.prEq vals eqCells scEq Value.kd St.prStr St.prCut cutR St.bnd St.prMin St.bld isShift outL retL outJ oR oC oE oD SV.upq SV.isSl SV.shut St.deepK St.dpArg St.deepQ absC Ob.pl St.ev St.get St.put St.new St.kill SV.kill SV.kill1 Ob.kill St.app St.wrt St.rowsOf St.res St.killL lk er argsL SV.strip SV.need SV.share SV.share1 SV.owns SV.owns1 SV.owns2 SV.good SV.good1 SV.rok SV.rok1 SV.rok2 SV.isV SV.isV2 nodupN SV.cells SV.one SV.pur Ob.pb partsIn rowsIn splice cellsAt dstOk scal2 scal1 thenK blockK retK outK outs okC okL okA okT nilC nilL nilA nilT keepC keepL keepA keepT St.runG St.dltK St.least St.clean St.final St.hide offK badS badO SV.refs SV.leaf SV.leaf2 Ob.refs dlOk fpAt Go.Vc.cover tups SV.ofAgg St.out outC subL St.has rng wr Value.oneCell' Option.isSome_some Option.isSome_none List.nil_append Bool.false_eq_true List.map_cons List.map_nil List.all_cons List.all_nil List.length_cons List.length_nil List.drop_zero List.drop_succ_cons List.take_succ_cons List.take_zero List.drop_nil List.take_nil List.getElem?_cons_zero List.getElem?_cons_succ List.getElem?_nil List.cons_append List.nil_append List.append_nil List.append_assoc List.flatMap_cons List.flatMap_nil List.contains_cons List.contains_nil List.set_cons_zero List.set_cons_succ List.getElem?_toArray Option.getD_some Option.getD_none Option.map_some Option.map_none Option.bind_some Option.some.injEq Prod.mk.injEq if_true if_false true_and and_true and_self and_false false_and Bool.and_false Bool.false_and Bool.or_true Bool.true_or Bool.or_false Bool.false_or ne_eq not_true_eq_false not_false_eq_true decide_true decide_false List.mem_cons List.not_mem_nil List.filter_cons List.filter_nil List.any_cons List.any_nil List.isEmpty_nil List.isEmpty_cons Option.getD_none or_false false_or true_or or_true forall_eq_or_imp forall_eq reduceCtorEq exists_eq exists_eq' exists_eq_left' exists_eq_left exists_eq_right exists_eq_right' imp_self implies_true Bool.and_true Bool.true_and Bool.and_self beq_self_eq_true List.replicate_succ List.replicate_zero forall_const false_implies pickB_or pickB_and beqT beqF Int.toNat_natCast List.length_map List.length_replicate ge_iff_le gt_iff_lt decide_eq_true_eq decide_eq_false_iff_not Bool.and_eq_true Bool.or_eq_true Bool.not_eq_true' Bool.not_eq_false' condG List.toList_toArray Bool.or_eq_false_iff Bool.and_eq_false_iff Int.not_lt Int.not_le beq_iff_eq beq_eq_false_iff_ne bne_iff_ne bne_eq_false_iff_eq ne_eq Bool.not_true Bool.not_false exists_and_left
section
open Go.Vc
set_option linter.unusedSimpArgs false
set_option linter.unusedVariables false
set_option maxHeartbeats 1000000
attribute [local irreducible] Go.Vc.WP
noncomputable def cx0 : Cx := { P := Tryd.prog, tys := tys, C := [], hty := tysOk, hC := COk.nil _ }
theorem cx0_t : cx0.tys = tys := rfl
theorem cx0_c : cx0.C = [] := rfl
attribute [local go_sem] cx0_t cx0_c

def encI (x : Int) : List SV := [.v (.int .i64 x)]
theorem encI_inj {L M : List Int} : L.map encI = M.map encI ↔ L = M := by
  exact List.map_inj_right (fun a b h => by simpa [encI] using h)

def decI (rows : List (List SV)) : List Int := rows.map fun r => match r with
  | [.v (.int _ n)] => n
  | _ => 0
theorem decI_enc (L : List Int) : decI (L.map encI) = L := by
  unfold decI
  rw [List.map_map]
  exact List.map_id'' (fun _ => rfl) L
theorem encI_decI {L : List Int} : (decI (L.map encI)).map encI = L.map encI := by rw [decI_enc]

theorem isV_I {e s : Nat} (L : List Int) : (Ob.sl e s (L.map encI)).isV := by
  intro row hr c hc
  obtain ⟨n, _, rfl⟩ := List.mem_map.1 hr
  simp [encI] at hc
  exact ⟨_, hc⟩
theorem isV_It {e s : Nat} (L : List Int) : (Ob.sl e s (L.map encI)).isV ↔ True := iff_true_intro (isV_I L)
def k60 : Ctr := pur (fun args => (aI args 0, aI args 1, aI args 2)) (fun x => [.v (.int .i64 x.1), .v (.int .i64 x.2.1), .v (.int .i64 x.2.2)]) (fun _ => True)
  (fun _ x => .v (.bool (decide (x.2.1 ≤ x.1) && decide (x.1 ≤ x.2.2)))) (fun _ _ => [])
theorem c60 : Cn Tryd.prog 66 k60 := by
  refine Cn.pur Tryd.func66 (by kernel_rfl) rfl fun d x _ => ?_
  obtain ⟨n, lo, hi⟩ := x
  refine Holds.go (c := cx0) Tryd.func66 rfl Tryd.results66 Tryd.ntmps66 (by omega) (by simp) rfl ?_
  intro X0 w0
  (repeat' (first | refine WP.seq ?_ | refine WP.block ?_ | ((first | refine WP.region ?_ | refine WP.condW ?_ | refine WP.ret ?_ | refine WP.exit ?_ | refine WP.skip ?_); simp only [go_sem, tyAll, Nat.reduceAdd, Nat.reduceLT, Nat.reduceLeDiff, Nat.reduceEqDiff, Nat.reduceMul, Nat.reduceSub, Nat.reduceGT, reduceIte, Int.reduceNeg, Int.reduceToNat]) |  refine And.intro ?_ ?_ | intro _))
theorem c58 : Cn Tryd.prog 41 k60 := by
  refine Cn.pur Tryd.func41 (by kernel_rfl) rfl fun d x _ => ?_
  obtain ⟨n, lo, hi⟩ := x
  refine Holds.go (c := cx0) Tryd.func41 rfl Tryd.results41 Tryd.ntmps41 (by omega) (by simp) rfl ?_
  intro X0 w0
  (repeat' (first | refine WP.seq ?_ | refine WP.block ?_ | ((first | refine WP.region ?_ | refine WP.condW ?_ | refine WP.ret ?_ | refine WP.exit ?_ | refine WP.skip ?_); simp only [go_sem, tyAll, Nat.reduceAdd, Nat.reduceLT, Nat.reduceLeDiff, Nat.reduceEqDiff, Nat.reduceMul, Nat.reduceSub, Nat.reduceGT, reduceIte, Int.reduceNeg, Int.reduceToNat]) |  refine And.intro ?_ ?_ | intro _))

def k15 : Ctr := pur (fun args => decI (aR args 0)) (fun L => [.sl 1 (L.map encI)]) (fun L => L.length ≤ 2097152) (fun d _ => .own d) (fun d L => [(d, .sl 3 1 (L.map encI))])
def k17 : Ctr := pur (fun args => (decI (aR args 0), decI (aR args 1))) (fun x => [.sl 1 (x.1.map encI), .sl 1 (x.2.map encI)]) (fun x => x.1.length ≤ 4398046511104) (fun _ x => .v (.bool (decide (x.1 = x.2)))) (fun _ _ => [])
def marksI (k : Int) (n : Nat) : List Int := (List.range n).map fun i : Nat => k + (i : Int)
theorem marksI_len (k : Int) (n : Nat) : (marksI k n).length = n := by simp [marksI]
theorem marksI_get (k : Int) (n i : Nat) (h : i < (marksI k n).length) : (marksI k n)[i] = k + i := by simp [marksI]
/-- the first k of them replaced -/
def halfI (L : List Int) (k0 : Int) (k : Nat) : List Int := marksI k0 k ++ L.drop k
theorem halfI_len (L : List Int) (k0 : Int) (k : Nat) (h : k ≤ L.length) : (halfI L k0 k).length = L.length := by simp [halfI, marksI_len]; omega
theorem halfI_set (L : List Int) (k0 : Int) (k : Nat) (h : k < L.length) : ((halfI L k0 k).map encI).set k (encI (k0 + k)) = (halfI L k0 (k + 1)).map encI := by
  rw [← List.map_set]
  congr 1
  unfold halfI
  rw [List.set_append, if_neg (by simp [marksI_len]), marksI_len, Nat.sub_self, List.drop_eq_getElem_cons h, List.set_cons_zero]
  simp [marksI, List.range_succ]

def k18 : Ctr := len [0] [] (fun args obs => (decI (oR obs 1000000), aI args 1)) (fun x => [.own 1000000, .v (.int .i64 x.2)]) (fun x => [(1000000, .sl 3 1 (x.1.map encI))]) (fun x => x.1.length ≤ 4398046511104 ∧ 0 ≤ x.2 ∧ x.2 ≤ 500000000000000)
  (fun _ x => .v (.int .i64 (x.2 + x.1.length))) (fun _ _ => []) (fun x => [(1000000, .sl 3 1 ((marksI x.2 x.1.length).map encI))])
def k19 : Ctr := pur (fun args => (decI (aR args 0), aI args 1)) (fun x => [.sl 1 (x.1.map encI), .v (.int .i64 x.2)]) (fun x => x.1.length ≤ 4398046511104 ∧ 0 ≤ x.2 ∧ x.2 ≤ 500000000000000)
  (fun _ x => .v (.int .i64 (if x.1 = marksI x.2 x.1.length then x.2 + x.1.length else -1))) (fun _ _ => [])
end
end Go.Proofs.YtdhkhapbldkkdaaDoor
/-
  DERIVED. Plain lists: the first place where something holds.
-/
namespace Go.Proofs.YtdhkhapbldkkdaaDoor
set_option linter.unusedVariables false
def firstIdx {α : Type} (p : α → Bool) (L : List α) : Int := match L.findIdx? p with
  | some i => (i : Int)
  | none => -1
theorem firstIdx_hit {α : Type} {p : α → Bool} {L : List α} {k : Nat} (hk : k < L.length) (h : ∀ i (hi : i < L.length), i < k → p L[i] = false) (hp : p L[k] = true) : firstIdx p L = k := by
  unfold firstIdx
  have : L.findIdx? p = some k := by
    rw [List.findIdx?_eq_some_iff_getElem]
    exact ⟨hk, hp, fun j hj => by simp [h j (by omega) hj]⟩
  rw [this]
theorem firstIdx_none {α : Type} {p : α → Bool} {L : List α} (h : ∀ i (hi : i < L.length), p L[i] = false) : firstIdx p L = -1 := by
  unfold firstIdx
  have : L.findIdx? p = none := by
    rw [List.findIdx?_eq_none_iff]
    intro x hx
    obtain ⟨i, hi, rfl⟩ := List.mem_iff_getElem.1 hx
    exact h i hi
  rw [this]

/-- what is left of a measure behind a list of sizes -/
def szGo : List Nat → Int → Int
  | [], r => r
  | n :: l, r => if r - n < 0 then -1 else szGo l (r - n)
theorem szGo_drop (L : List Nat) (k : Nat) (r : Int) (h : k < L.length) : szGo (L.drop k) r = if r - (L[k] : Int) < 0 then -1 else szGo (L.drop (k + 1)) (r - (L[k] : Int)) := by
  rw [List.drop_eq_getElem_cons h]; rfl
theorem szGo_ok : ∀ (L : List Nat) (r : Int), 0 ≤ r → 0 ≤ szGo L r → ∀ n ∈ L, (n : Int) ≤ r
  | [], _, _, _, n, hn => by cases hn
  | m :: l, r, h0, h, n, hn => by
    unfold szGo at h
    split at h
    · omega
    · rename_i h2
      rcases List.mem_cons.1 hn with rfl | hn
      · omega
      · have := szGo_ok l (r - m) (by omega) h n hn
        omega
/-! what a function value has captured -/
open Go.Vc in
def capS (args : List SV) (i : Nat) : ByteArray := match args[i]? with
  | some (.rptr _ [[.v (.string s)]] _ _) => s
  | some (.fn _ [.rptr _ [[.v (.string s)]] _ _]) => s
  | _ => ⟨#[]⟩
open Go.Vc in
def capI (args : List SV) (i : Nat) : Int := match args[i]? with
  | some (.rptr _ [[.v (.int .i64 n)]] _ _) => n
  | some (.fn _ [.rptr _ [[.v (.int .i64 n)]] _ _]) => n
  | _ => 0
end Go.Proofs.YtdhkhapbldkkdaaDoor

namespace Go.Proofs.YtdhkhapbldkkdaaDoor
open Go.Vc
attribute [local go_sem] St.runR St.runW St.stepV offV St.step St.stepU St.stepG mkCond guardB St.prK St.pr St.prLen St.eff St.callE St.callD St.callF St.callL aI aB aS aR aC St.isM St.argL Ctr.pure Ctr.lend Ctr.move Ctr.isL Ctr.wri pur len lentBy St.lentV St.lent1 nthS argsR restOf obsR pairs swapL unObs backL St.resL erL SV.ren1 SV.up SV.up2 Ob.up St.fzL cellIds partIds St.intoRow SV.ownId St.fz SV.fz1 St.prep St.mvL St.mv SV.re1 rnOk St.prEq vals eqCells scEq Value.kd St.prStr St.prCut cutR St.bnd St.prMin St.bld isShift outL retL outJ oR oC oE oD SV.upq SV.isSl SV.shut St.deepK St.dpArg St.deepQ absC Ob.pl St.ev St.get St.put St.new St.kill SV.kill SV.kill1 Ob.kill St.app St.wrt St.rowsOf St.res St.killL lk er argsL SV.strip SV.need SV.share SV.share1 SV.owns SV.owns1 SV.owns2 SV.good SV.good1 SV.rok SV.rok1 SV.rok2 SV.isV SV.isV2 nodupN SV.cells SV.one SV.pur Ob.pb partsIn rowsIn splice cellsAt dstOk scal2 scal1 thenK blockK retK outK outs okC okL okA okT nilC nilL nilA nilT keepC keepL keepA keepT St.runG St.dltK St.least St.clean St.final St.hide offK badS badO SV.refs SV.leaf SV.leaf2 Ob.refs dlOk fpAt Go.Vc.cover tups SV.ofAgg St.out outC subL St.has rng wr Value.oneCell' Option.isSome_some Option.isSome_none List.nil_append Bool.false_eq_true List.map_cons List.map_nil List.all_cons List.all_nil List.length_cons List.length_nil List.drop_zero List.drop_succ_cons List.take_succ_cons List.take_zero List.drop_nil List.take_nil List.getElem?_cons_zero List.getElem?_cons_succ List.getElem?_nil List.cons_append List.nil_append List.append_nil List.append_assoc List.flatMap_cons List.flatMap_nil List.contains_cons List.contains_nil List.set_cons_zero List.set_cons_succ List.getElem?_toArray Option.getD_some Option.getD_none Option.map_some Option.map_none Option.bind_some Option.some.injEq Prod.mk.injEq if_true if_false true_and and_true and_self and_false false_and Bool.and_false Bool.false_and Bool.or_true Bool.true_or Bool.or_false Bool.false_or ne_eq not_true_eq_false not_false_eq_true decide_true decide_false List.mem_cons List.not_mem_nil List.filter_cons List.filter_nil List.any_cons List.any_nil List.isEmpty_nil List.isEmpty_cons Option.getD_none or_false false_or true_or or_true forall_eq_or_imp forall_eq reduceCtorEq exists_eq exists_eq' exists_eq_left' exists_eq_left exists_eq_right exists_eq_right' imp_self implies_true Bool.and_true Bool.true_and Bool.and_self beq_self_eq_true List.replicate_succ List.replicate_zero forall_const false_implies pickB_or pickB_and beqT beqF Int.toNat_natCast List.length_map List.length_replicate ge_iff_le gt_iff_lt decide_eq_true_eq decide_eq_false_iff_not Bool.and_eq_true Bool.or_eq_true Bool.not_eq_true' Bool.not_eq_false' condG List.toList_toArray Bool.or_eq_false_iff Bool.and_eq_false_iff Int.not_lt Int.not_le beq_iff_eq beq_eq_false_iff_ne bne_iff_ne bne_eq_false_iff_eq ne_eq Bool.not_true Bool.not_false exists_and_left
section
open Go.Vc
set_option linter.unusedSimpArgs false
set_option linter.unusedVariables false
set_option maxHeartbeats 1000000
set_option maxRecDepth 10000
attribute [local irreducible] Go.Vc.WP
attribute [local go_sem] cx0_t cx0_c
theorem rowAt_set (rows : List (List SV)) (i : Nat) (r : List SV) (h : i < rows.length) : Go.Vc.rowAt (rows.set i r) i = r := by
  unfold Go.Vc.rowAt
  rw [List.getElem?_set_self h]; rfl
theorem lt_ediv (k : Int) (h : 0 < k) : k / 10 < k := by omega
/-- the decimal digits of a number above 0 -/
def decB : Nat → List UInt8
  | 0 => []
  | k + 1 => decB ((k + 1) / 10) ++ [UInt8.ofNat (48 + (k + 1) % 10)]
decreasing_by omega
theorem decB_pos (k : Nat) (h : 0 < k) : decB k = decB (k / 10) ++ [UInt8.ofNat (48 + k % 10)] := by
  cases k with
  | zero => omega
  | succ k => rw [decB]
theorem decB_len : ∀ (n k : Nat), k < 10 ^ n → (decB k).length ≤ n
  | 0, k, h => by have : k = 0 := by simpa using h
                  subst this; simp [decB]
  | n + 1, k, h => by
    rcases Nat.eq_zero_or_pos k with h0 | h0
    · subst h0; simp [decB]
    · rw [decB_pos k h0, List.length_append]
      have := decB_len n (k / 10) (by rw [Nat.pow_succ] at h; omega)
      simp only [List.length_cons, List.length_nil]; omega
def bts (l : List UInt8) : ByteArray := ⟨l.toArray⟩
def markT (k : Int) : ByteArray := if k ≤ 0 then ⟨#[109, 48]⟩ else ⟨#[109]⟩ ++ bts (decB k.toNat)
theorem bts_append (a b : List UInt8) : bts a ++ bts b = bts (a ++ b) := by
  unfold bts
  apply ByteArray.ext
  simp
theorem bts_size (a : List UInt8) : (bts a).size = a.length := by simp [bts, ByteArray.size]
theorem strOf_one (n : Int) (h0 : 0 ≤ n) (h1 : n ≤ 9) : strOf [[.v (.int .u8 (48 + n))]] = bts [UInt8.ofNat (48 + n.toNat)] := by
  have e : (48 + n).toNat = 48 + n.toNat := by omega
  have e2 : Go.Vc.byteOf [.v (.int .u8 (48 + n))] = UInt8.ofNat (48 + n.toNat) := by show UInt8.ofNat (48 + n).toNat = _; rw [e]
  unfold strOf bts
  rw [List.map_cons, List.map_nil, e2]
def kmarkT : Ctr := pur (fun args => aI args 0) (fun k => [.v (.int .i64 k)]) (fun k => k ≤ 1000000000000000) (fun _ k => .v (.string (markT k))) (fun _ _ => [])
theorem cmarkT : Cn Tryd.prog 19 kmarkT := by
  refine Cn.pur Tryd.func19 (by kernel_rfl) rfl fun d x hx => ?_
  refine Holds.go (c := cx0) Tryd.func19 rfl Tryd.results19 Tryd.ntmps19 (by omega) (by simp) rfl ?_
  intro X0 w0
  (repeat' (first | refine WP.seq ?_ | refine WP.block ?_ | ((first | refine WP.region ?_ | refine WP.condW ?_ | refine WP.ret ?_ | refine WP.exit ?_ | refine WP.skip ?_); simp only [go_sem, tyAll, Nat.reduceAdd, Nat.reduceLT, Nat.reduceLeDiff, Nat.reduceEqDiff, Nat.reduceMul, Nat.reduceSub, Nat.reduceGT, reduceIte, Int.reduceNeg, Int.reduceToNat]) |  refine And.intro ?_ ?_ | intro _))
  all_goals first | omega | skip
  · rename_i h; simp [markT, h]
  rename_i h
  refine WP.loop (fun s : Nat × List UInt8 => ⟨[(0, .v (.int .i64 (s.1 : Int))), (3, .v (.string (bts s.2)))], []⟩) (fun s => decB s.1 ++ s.2 = decB x.toNat ∧ s.2.length ≤ 20 ∧ s.1 < 10000000000000000) (fun s => s.1) (x.toNat, []) ⟨by simp, by simp, by simp only; omega⟩ ?_ ?_
  · have : (x.toNat : Int) = x := by omega
    simp only [go_sem, this, tyAll, Nat.reduceAdd, Nat.reduceLT, Nat.reduceLeDiff, Nat.reduceEqDiff, Nat.reduceMul, Nat.reduceSub, Nat.reduceGT, reduceIte, Int.reduceNeg, Int.reduceToNat]; (first | rfl | exact ⟨rfl, rfl⟩ | exact ⟨rfl, rfl, rfl⟩ | exact ⟨rfl, rfl, rfl, rfl⟩ | exact ⟨rfl, rfl, rfl, rfl, rfl⟩ | exact ⟨⟨rfl, rfl⟩, rfl⟩ | simp)
  rintro ⟨k, out⟩ ⟨hk, hl, hb⟩
  simp only at hk hl hb ⊢
  have hlx : (decB x.toNat).length ≤ 16 := decB_len 16 _ (by omega)
  have hlk : out.length ≤ 16 := by rw [← hk, List.length_append] at hlx; omega
  by_cases hpos : 0 < k
  · have hm : (k : Int).tmod 10 = ((k % 10 : Nat) : Int) := by rw [Int.tmod_eq_emod_of_nonneg (by omega)]; omega
    have hd : (k : Int).tdiv 10 = ((k / 10 : Nat) : Int) := by rw [Int.tdiv_eq_ediv_of_nonneg (by omega)]; omega
    have hw : IntKind.u8.wrap (48 + ((k % 10 : Nat) : Int)) = 48 + ((k % 10 : Nat) : Int) := by
      have : k % 10 < 10 := Nat.mod_lt _ (by omega)
      simp only [IntKind.wrap, IntKind.bits, IntKind.signed, Bool.false_and, Bool.false_eq_true, if_false]
      omega
    have hs := strOf_one ((k % 10 : Nat) : Int) (by omega) (by omega)
    have hc := bts_append [UInt8.ofNat (48 + k % 10)] out
    have hz := bts_size [UInt8.ofNat (48 + k % 10)]
    have hz2 := bts_size out
    rw [Int.toNat_natCast] at hs
    (repeat' (first | refine WP.seq ?_ | refine WP.block ?_ | ((first | refine WP.region ?_ | refine WP.condW ?_ | refine WP.ret ?_ | refine WP.exit ?_ | refine WP.skip ?_); simp only [go_sem, hm, hd, hw, hs, hc, hz, hz2, tyAll, Nat.reduceAdd, Nat.reduceLT, Nat.reduceLeDiff, Nat.reduceEqDiff, Nat.reduceMul, Nat.reduceSub, Nat.reduceGT, reduceIte, Int.reduceNeg, Int.reduceToNat]) |  refine And.intro ?_ ?_ | intro _))
    all_goals first | omega | skip
    · exact ⟨_, rfl⟩
    · refine ⟨(k / 10, UInt8.ofNat (48 + k % 10) :: out), ⟨?_, by simp only [List.length_cons]; omega, by simp only; omega⟩, by simp only; omega, rfl, rfl⟩
      simp only
      rw [← hk, decB_pos k hpos, List.append_assoc]; rfl
  · have hk0 : k = 0 := by omega
    subst hk0
    have hout : out = decB x.toNat := by rw [← hk]; simp [decB]
    have hz2 := bts_size out
    have hz3 : ByteArray.size ⟨#[109]⟩ = 1 := rfl
    (repeat' (first | refine WP.seq ?_ | refine WP.block ?_ | ((first | refine WP.region ?_ | refine WP.condW ?_ | refine WP.ret ?_ | refine WP.exit ?_ | refine WP.skip ?_); simp only [go_sem, hz2, hz3, tyAll, Nat.reduceAdd, Nat.reduceLT, Nat.reduceLeDiff, Nat.reduceEqDiff, Nat.reduceMul, Nat.reduceSub, Nat.reduceGT, reduceIte, Int.reduceNeg, Int.reduceToNat]) |  refine And.intro ?_ ?_ | intro _))
    all_goals first | omega | skip
    rw [markT, if_neg (by omega), hout]
theorem markT_size (k : Int) (h : k ≤ 1000000000000000) : (markT k).size ≤ 17 := by
  unfold markT
  split
  · decide
  · have h1 := decB_len 16 k.toNat (by omega)
    have h2 : ByteArray.size ⟨#[109]⟩ = 1 := rfl
    rw [ByteArray.size_append, bts_size, h2]
    omega

/-! ## lists of strings -/
def encS (x : ByteArray) : List SV := [.v (.string x)]
def oneS : List SV → ByteArray
  | [.v (.string n)] => n
  | _ => ⟨#[]⟩
def decS (rows : List (List SV)) : List ByteArray := rows.map oneS
theorem oneS_enc (x : ByteArray) : oneS (encS x) = x := rfl
theorem decS_enc (L : List ByteArray) : decS (L.map encS) = L := by
  unfold decS
  rw [List.map_map]
  exact List.map_id'' oneS_enc L
theorem isV_S {e s : Nat} (L : List ByteArray) : (Ob.sl e s (L.map encS)).isV ↔ True := iff_true_intro (by
  intro row hr c hc
  obtain ⟨n, _, rfl⟩ := List.mem_map.1 hr
  simp [encS] at hc
  exact ⟨_, hc⟩)
end
end Go.Proofs.YtdhkhapbldkkdaaDoor
/-
  DERIVED. Decimal numbers in plain Lean.
-/
namespace Go.Proofs.YtdhkhapbldkkdaaDoor
set_option linter.unusedVariables false
def dig (c : UInt8) : Bool := decide (48 ≤ c.toNat) && decide (c.toNat ≤ 57)
theorem dig_iff {c : UInt8} : dig c = true ↔ 48 ≤ c.toNat ∧ c.toNat ≤ 57 := by simp [dig]
def valL (l : List UInt8) : Nat := l.foldl (fun n c => 10 * n + (c.toNat - 48)) 0
theorem valL_snoc (l : List UInt8) (c : UInt8) : valL (l ++ [c]) = 10 * valL l + (c.toNat - 48) := by simp [valL]
theorem ofNat_dig {c : UInt8} (h : dig c = true) : UInt8.ofNat (48 + (c.toNat - 48)) = c := by
  have := dig_iff.1 h
  rw [show 48 + (c.toNat - 48) = c.toNat by omega]
  exact UInt8.ofNat_toNat
theorem valL_lt : ∀ (n : Nat) (l : List UInt8), l.length = n → l.all dig = true → valL l < 10 ^ n
  | 0, l, h, _ => by have := List.eq_nil_of_length_eq_zero h; subst this; simp [valL]
  | n + 1, l, h, hd => by
    have hne : l ≠ [] := by intro e; subst e; simp at h
    have e := (List.dropLast_concat_getLast hne).symm
    rw [e] at hd ⊢
    rw [List.all_append, Bool.and_eq_true] at hd
    have ih := valL_lt n l.dropLast (by simp [h]) hd.1
    have hc : dig (l.getLast hne) = true := by simpa using hd.2
    have := dig_iff.1 hc
    rw [valL_snoc, Nat.pow_succ]
    omega
theorem decB_valL : ∀ (n : Nat) (l : List UInt8), l.length = n + 1 → l.all dig = true → l.head? ≠ some 48 → decB (valL l) = l ∧ 0 < valL l
  | 0, l, h, hd, hh => by
    match l, h with
    | [c], _ =>
      have hc : dig c = true := by simpa using hd
      have h1 := dig_iff.1 hc
      have hne : c.toNat ≠ 48 := by
        intro e
        apply hh
        simp only [List.head?_cons, Option.some.injEq]
        exact UInt8.toNat_inj.1 e
      have hv : valL [c] = c.toNat - 48 := by simp [valL]
      rw [hv]
      have h0 : 0 < c.toNat - 48 := by omega
      refine ⟨?_, h0⟩
      rw [decB_pos _ h0, show (c.toNat - 48) / 10 = 0 by omega, show (c.toNat - 48) % 10 = c.toNat - 48 by omega, ofNat_dig hc]
      simp [decB]
  | n + 1, l, h, hd, hh => by
    have hne : l ≠ [] := by intro e; subst e; simp at h
    have e := (List.dropLast_concat_getLast hne).symm
    have hlen : l.dropLast.length = n + 1 := by simp [h]
    have hd' := hd
    rw [e, List.all_append, Bool.and_eq_true] at hd'
    have hh' : l.dropLast.head? ≠ some 48 := by
      intro e2
      apply hh
      rw [e, List.head?_append, e2]; rfl
    obtain ⟨i1, i2⟩ := decB_valL n l.dropLast hlen hd'.1 hh'
    have hc : dig (l.getLast hne) = true := by simpa using hd'.2
    have h1 := dig_iff.1 hc
    have hv : valL l = 10 * valL l.dropLast + ((l.getLast hne).toNat - 48) := by
      have := valL_snoc l.dropLast (l.getLast hne)
      rwa [← e] at this
    have hpos : 0 < valL l := by omega
    refine ⟨?_, hpos⟩
    rw [decB_pos _ hpos, show valL l / 10 = valL l.dropLast by omega, show valL l % 10 = (l.getLast hne).toNat - 48 by omega, ofNat_dig hc, i1]
    exact e.symm
/-- the decimal text of a number -/
def fmtL (n : Nat) : List UInt8 := if n = 0 then [48] else decB n
theorem valL_zero_head (l : List UInt8) : valL (48 :: l) = valL l := by simp [valL]
theorem fmtL_valL (l : List UInt8) (hd : l.all dig = true) : fmtL (valL l) = l ↔ (l ≠ [] ∧ ¬ (1 < l.length ∧ l.head? = some 48)) := by
  constructor
  · intro h
    refine ⟨fun e => by subst e; simp [valL, fmtL] at h, fun ⟨h1, h2⟩ => ?_⟩
    match l, h2 with
    | c :: t, h2 =>
      simp only [List.head?_cons, Option.some.injEq] at h2
      subst h2
      simp only [List.all_cons, Bool.and_eq_true] at hd
      have hlt := valL_lt t.length t rfl hd.2
      rw [valL_zero_head] at h
      unfold fmtL at h
      split at h
      · have := congrArg List.length h
        simp only [List.length_cons, List.length_nil] at this h1; omega
      · have h3 := decB_len t.length (valL t) hlt
        rw [h] at h3
        simp only [List.length_cons] at h3
        omega
  · rintro ⟨h1, h2⟩
    by_cases hh : l.head? = some 48
    · match l, hh with
      | c :: t, hh =>
        simp only [List.head?_cons, Option.some.injEq] at hh
        subst hh
        have ht : t = [] := by
          have : t.length = 0 := by
            rcases Nat.eq_zero_or_pos t.length with h | h
            · exact h
            · exact absurd ⟨by simp; omega, rfl⟩ h2
          exact List.eq_nil_of_length_eq_zero this
        subst ht
        simp [valL, fmtL]
    · have hlen : ∃ n, l.length = n + 1 := ⟨l.length - 1, by have := List.length_pos_iff.2 h1; omega⟩
      obtain ⟨n, hn⟩ := hlen
      obtain ⟨a, b⟩ := decB_valL n l hn hd hh
      unfold fmtL
      rw [if_neg (by omega)]; exact a

/-! ## of byte arrays -/
def valN (s : ByteArray) (k : Nat) : Nat := valL (s.data.toList.take k)
theorem valN_zero (s : ByteArray) : valN s 0 = 0 := by simp [valN, valL]
theorem valN_succ (s : ByteArray) (k : Nat) (h : k < s.size) : valN s (k + 1) = 10 * valN s k + (s[k]!.toNat - 48) := by
  unfold valN
  have h' : k < s.data.toList.length := by simpa using h
  rw [List.take_succ_eq_append_getElem h', valL_snoc]
  congr 2
  rw [getElem!_pos s k h]
  rfl
theorem allDig {s : ByteArray} (h : ∀ i, i < s.size → dig s[i]! = true) : s.data.toList.all dig = true := by
  rw [List.all_eq_true]
  intro c hc
  obtain ⟨i, hi, rfl⟩ := List.mem_iff_getElem.1 hc
  have hi' : i < s.size := by simpa using hi
  have := h i hi'
  rw [getElem!_pos s i hi'] at this
  exact this
theorem valN_lt {s : ByteArray} (k : Nat) (hk : k ≤ s.size) (h : ∀ i, i < k → dig s[i]! = true) : valN s k < 10 ^ k := by
  refine valL_lt k _ (by simp; omega) ?_
  rw [List.all_eq_true]
  intro c hc
  obtain ⟨i, hi, rfl⟩ := List.mem_iff_getElem.1 hc
  have hi' : i < k := by simp at hi; omega
  have := h i hi'
  rw [getElem!_pos s i (by omega)] at this
  rw [List.getElem_take]
  exact this
theorem pow_le10 (k : Nat) (h : k ≤ 10) : 10 ^ k ≤ 10000000000 := by
  have : 10 ^ k ≤ 10 ^ 10 := Nat.pow_le_pow_right (by omega) h
  omega
def parseU (s : ByteArray) : Option Nat :=
  if s.size ≠ 0 ∧ s.size ≤ 10 ∧ ¬ (1 < s.size ∧ s[0]! = 48) ∧ s.data.toList.all dig = true ∧ valN s s.size ≤ 1000000000 then some (valN s s.size) else none
theorem valN_all (s : ByteArray) : valN s s.size = valL s.data.toList := by
  unfold valN
  rw [List.take_of_length_le (by simp)]
theorem bts_list (s : ByteArray) : bts s.data.toList = s := by
  unfold bts; simp
theorem bts_inj {a b : List UInt8} (h : bts a = bts b) : a = b := by
  unfold bts at h
  injection h with h
  exact Array.toList_inj.2 h |> fun e => by simpa using e
theorem head_get (s : ByteArray) (h : 0 < s.size) : s.data.toList.head? = some s[0]! := by
  rw [getElem!_pos s 0 h, List.head?_eq_getElem?, List.getElem?_eq_getElem (by simpa using h)]
  rfl
theorem fmt_text {s : ByteArray} (hd : ∀ i, i < s.size → dig s[i]! = true) : bts (fmtL (valN s s.size)) = s ↔ (s.size ≠ 0 ∧ ¬ (1 < s.size ∧ s[0]! = 48)) := by
  have h1 := fmtL_valL s.data.toList (allDig hd)
  rw [← valN_all] at h1
  have e : bts (fmtL (valN s s.size)) = s ↔ fmtL (valN s s.size) = s.data.toList := by
    constructor
    · intro h
      exact bts_inj (by rw [h, bts_list])
    · intro h; rw [h, bts_list]
  rw [e, h1]
  have hsz : s.data.toList.length = s.size := by simp
  constructor
  · rintro ⟨a, b⟩
    have h0 : s.size ≠ 0 := fun e => a (List.eq_nil_of_length_eq_zero (by omega))
    refine ⟨h0, fun ⟨c, d⟩ => b ⟨by omega, by rw [head_get s (by omega), d]⟩⟩
  · rintro ⟨a, b⟩
    refine ⟨fun e => a (by rw [← hsz, e]; rfl), fun ⟨c, d⟩ => b ⟨by omega, ?_⟩⟩
    rw [head_get s (by omega)] at d
    simpa using d
theorem parseU_bad {s : ByteArray} {i : Nat} (h : i < s.size) (hb : dig s[i]! = false) : parseU s = none := by
  unfold parseU
  rw [if_neg]
  rintro ⟨_, _, _, hd, _⟩
  rw [List.all_eq_true] at hd
  have := hd s[i]! (by rw [getElem!_pos s i h]; exact Array.getElem_mem_toList (by exact h))
  rw [this] at hb; cases hb
theorem parseU_ok {s : ByteArray} (hd : ∀ i, i < s.size → dig s[i]! = true) (h1 : s.size ≠ 0) (h2 : s.size ≤ 10) (h3 : ¬ (1 < s.size ∧ s[0]! = 48)) (h4 : valN s s.size ≤ 1000000000) : parseU s = some (valN s s.size) := by
  unfold parseU
  rw [if_pos ⟨h1, h2, h3, allDig hd, h4⟩]
theorem parseU_none {s : ByteArray} (h : s.size = 0 ∨ 10 < s.size ∨ (1 < s.size ∧ s[0]! = 48) ∨ 1000000000 < valN s s.size) : parseU s = none := by
  unfold parseU
  rw [if_neg]
  rintro ⟨a, b, c, d, e⟩
  rcases h with h | h | h | h
  · exact a h
  · omega
  · exact c h
  · omega
end Go.Proofs.YtdhkhapbldkkdaaDoor

namespace Go.Proofs.YtdhkhapbldkkdaaDoor
open Go.Vc
attribute [local go_sem] St.runR St.runW St.stepV offV St.step St.stepU St.stepG mkCond guardB St.prK St.pr St.prLen St.eff St.callE St.callD St.callF St.callL aI aB aS aR aC St.isM St.argL Ctr.pure Ctr.lend Ctr.move Ctr.isL Ctr.wri pur len lentBy St.lentV St.lent1 nthS argsR restOf obsR pairs swapL unObs backL St.resL erL SV.ren1 SV.up SV.up2 Ob.up St.fzL cellIds partIds St.intoRow SV.ownId St.fz SV.fz1 St.prep St.mvL St.mv SV.re1 rnOk St.prEq vals eqCells scEq Value.kd St.prStr St.prCut cutR St.bnd St.prMin St.bld isShift outL retL outJ oR oC oE oD SV.upq SV.isSl SV.shut St.deepK St.dpArg St.deepQ absC Ob.pl St.ev St.get St.put St.new St.kill SV.kill SV.kill1 Ob.kill St.app St.wrt St.rowsOf St.res St.killL lk er argsL SV.strip SV.need SV.share SV.share1 SV.owns SV.owns1 SV.owns2 SV.good SV.good1 SV.rok SV.rok1 SV.rok2 SV.isV SV.isV2 nodupN SV.cells SV.one SV.pur Ob.pb partsIn rowsIn splice cellsAt dstOk scal2 scal1 thenK blockK retK outK outs okC okL okA okT nilC nilL nilA nilT keepC keepL keepA keepT St.runG St.dltK St.least St.clean St.final St.hide offK badS badO SV.refs SV.leaf SV.leaf2 Ob.refs dlOk fpAt Go.Vc.cover tups SV.ofAgg St.out outC subL St.has rng wr Value.oneCell' Option.isSome_some Option.isSome_none List.nil_append Bool.false_eq_true List.map_cons List.map_nil List.all_cons List.all_nil List.length_cons List.length_nil List.drop_zero List.drop_succ_cons List.take_succ_cons List.take_zero List.drop_nil List.take_nil List.getElem?_cons_zero List.getElem?_cons_succ List.getElem?_nil List.cons_append List.nil_append List.append_nil List.append_assoc List.flatMap_cons List.flatMap_nil List.contains_cons List.contains_nil List.set_cons_zero List.set_cons_succ List.getElem?_toArray Option.getD_some Option.getD_none Option.map_some Option.map_none Option.bind_some Option.some.injEq Prod.mk.injEq if_true if_false true_and and_true and_self and_false false_and Bool.and_false Bool.false_and Bool.or_true Bool.true_or Bool.or_false Bool.false_or ne_eq not_true_eq_false not_false_eq_true decide_true decide_false List.mem_cons List.not_mem_nil List.filter_cons List.filter_nil List.any_cons List.any_nil List.isEmpty_nil List.isEmpty_cons Option.getD_none or_false false_or true_or or_true forall_eq_or_imp forall_eq reduceCtorEq exists_eq exists_eq' exists_eq_left' exists_eq_left exists_eq_right exists_eq_right' imp_self implies_true Bool.and_true Bool.true_and Bool.and_self beq_self_eq_true List.replicate_succ List.replicate_zero forall_const false_implies pickB_or pickB_and beqT beqF Int.toNat_natCast List.length_map List.length_replicate ge_iff_le gt_iff_lt decide_eq_true_eq decide_eq_false_iff_not Bool.and_eq_true Bool.or_eq_true Bool.not_eq_true' Bool.not_eq_false' condG List.toList_toArray Bool.or_eq_false_iff Bool.and_eq_false_iff Int.not_lt Int.not_le beq_iff_eq beq_eq_false_iff_ne bne_iff_ne bne_eq_false_iff_eq ne_eq Bool.not_true Bool.not_false exists_and_left
section
open Go.Vc
set_option linter.unusedSimpArgs false
set_option linter.unusedVariables false
set_option maxHeartbeats 1000000
set_option maxRecDepth 10000
attribute [local irreducible] Go.Vc.WP
attribute [local go_sem] cx0_t cx0_c
theorem wrapU8 {n : Int} (h0 : 0 ≤ n) (h1 : n ≤ 255) : IntKind.u8.wrap n = n := by
  simp only [IntKind.wrap, IntKind.bits, IntKind.signed, Bool.false_and, Bool.false_eq_true, if_false]
  omega
def kFigure : Ctr := pur (fun args => aI args 0) (fun x => [.v (.int .i64 x)]) (fun x => 0 ≤ x ∧ x ≤ 15) (fun _ x => .v (.int .u8 (if x < 10 then 48 + x else 87 + x))) (fun _ _ => [])
theorem cFigure : Cn Tryd.prog 53 kFigure := by
  refine Cn.pur Tryd.func53 (by kernel_rfl) rfl fun d x hx => ?_
  refine Holds.go (c := cx0) Tryd.func53 rfl Tryd.results53 Tryd.ntmps53 (by omega) (by simp) rfl ?_
  intro X0 w0
  have h1 : IntKind.u8.wrap (48 + x) = 48 + x := wrapU8 (by omega) (by omega)
  have h2 : IntKind.u8.wrap (97 + x - 10) = 97 + x - 10 := wrapU8 (by omega) (by omega)
  (repeat' (first | refine WP.seq ?_ | refine WP.block ?_ | ((first | refine WP.region ?_ | refine WP.condW ?_ | refine WP.ret ?_ | refine WP.exit ?_ | refine WP.skip ?_); simp only [go_sem, h1, h2, tyAll, Nat.reduceAdd, Nat.reduceLT, Nat.reduceLeDiff, Nat.reduceEqDiff, Nat.reduceMul, Nat.reduceSub, Nat.reduceGT, reduceIte, Int.reduceNeg, Int.reduceToNat]) |  refine And.intro ?_ ?_ | intro _))
  all_goals first | omega | skip
  · rename_i h; rw [if_pos h]
  · rename_i h; rw [if_neg (by omega), show 97 + x - 10 = 87 + x by omega]
section
noncomputable def cxFi : Cx := { P := Tryd.prog, tys := tys, C := [(53, kFigure)], hty := tysOk, hC := COk.cons cFigure (COk.nil _) }
theorem cxFi_t : cxFi.tys = tys := rfl
theorem cxFi_c : cxFi.C = [(53, kFigure)] := rfl
attribute [local go_sem] cxFi_t cxFi_c kFigure
def kFmt : Ctr := pur (fun args => aI args 0) (fun x => [.v (.int .i64 x)]) (fun x => 0 ≤ x ∧ x ≤ 1000000000000000) (fun _ x => .v (.string (bts (fmtL x.toNat)))) (fun _ _ => [])
theorem cFmtS : Cn Tryd.prog 38 kFmt := by
  refine Cn.pur Tryd.func38 (by kernel_rfl) rfl fun d x hx => ?_
  refine Holds.go (c := cxFi) Tryd.func38 rfl Tryd.results38 Tryd.ntmps38 (by omega) (by simp) rfl ?_
  intro X0 w0
  (repeat' (first | refine WP.seq ?_ | refine WP.block ?_ | ((first | refine WP.region ?_ | refine WP.condW ?_ | refine WP.ret ?_ | refine WP.exit ?_ | refine WP.skip ?_); simp only [go_sem, tyAll, Nat.reduceAdd, Nat.reduceLT, Nat.reduceLeDiff, Nat.reduceEqDiff, Nat.reduceMul, Nat.reduceSub, Nat.reduceGT, reduceIte, Int.reduceNeg, Int.reduceToNat]) |  refine And.intro ?_ ?_ | intro _))
  all_goals first | omega | skip
  · rename_i h; subst h; rfl
  rename_i hne
  have hf : fmtL x.toNat = decB x.toNat := if_neg (by omega)
  refine WP.loop (fun s : Nat × List UInt8 => ⟨[(0, .v (.int .i64 (s.1 : Int))), (3, .v (.bool false)), (4, .v (.string (bts s.2)))], []⟩) (fun s => decB s.1 ++ s.2 = decB x.toNat ∧ s.2.length ≤ 20 ∧ s.1 < 10000000000000000) (fun s => s.1) (x.toNat, []) ⟨by simp, by simp, by simp only; omega⟩ ?_ ?_
  · have h1 : (x.toNat : Int) = x := by omega
    have h2 : decide (x < 0) = false := by simp; omega
    simp only [go_sem, h1, h2, tyAll, Nat.reduceAdd, Nat.reduceLT, Nat.reduceLeDiff, Nat.reduceEqDiff, Nat.reduceMul, Nat.reduceSub, Nat.reduceGT, reduceIte, Int.reduceNeg, Int.reduceToNat]; (first | rfl | exact ⟨rfl, rfl⟩ | exact ⟨rfl, rfl, rfl⟩ | exact ⟨rfl, rfl, rfl, rfl⟩ | exact ⟨rfl, rfl, rfl, rfl, rfl⟩ | exact ⟨⟨rfl, rfl⟩, rfl⟩ | simp)
  rintro ⟨k, out⟩ ⟨hk, hl, hb⟩
  simp only at hk hl hb ⊢
  have hlx : (decB x.toNat).length ≤ 16 := decB_len 16 _ (by omega)
  have hlk : out.length ≤ 16 := by rw [← hk, List.length_append] at hlx; omega
  by_cases hpos : 0 < k
  · have hm : (k : Int).tmod 10 = ((k % 10 : Nat) : Int) := by rw [Int.tmod_eq_emod_of_nonneg (by omega)]; omega
    have hd : (k : Int).tdiv 10 = ((k / 10 : Nat) : Int) := by rw [Int.tdiv_eq_ediv_of_nonneg (by omega)]; omega
    have hi : (if ((k % 10 : Nat) : Int) < 10 then 48 + ((k % 10 : Nat) : Int) else 87 + ((k % 10 : Nat) : Int)) = 48 + ((k % 10 : Nat) : Int) := if_pos (by omega)
    have hs := strOf_one ((k % 10 : Nat) : Int) (by omega) (by omega)
    have hc := bts_append [UInt8.ofNat (48 + k % 10)] out
    have hz := bts_size [UInt8.ofNat (48 + k % 10)]
    have hz2 := bts_size out
    rw [Int.toNat_natCast] at hs
    (repeat' (first | refine WP.seq ?_ | refine WP.block ?_ | ((first | refine WP.region ?_ | refine WP.condW ?_ | refine WP.ret ?_ | refine WP.exit ?_ | refine WP.skip ?_); simp only [go_sem, hm, hd, hi, hs, hc, hz, hz2, tyAll, Nat.reduceAdd, Nat.reduceLT, Nat.reduceLeDiff, Nat.reduceEqDiff, Nat.reduceMul, Nat.reduceSub, Nat.reduceGT, reduceIte, Int.reduceNeg, Int.reduceToNat]) |  refine And.intro ?_ ?_ | intro _))
    all_goals first | omega | exact ⟨_, rfl⟩ | skip
    refine ⟨(k / 10, UInt8.ofNat (48 + k % 10) :: out), ⟨?_, by simp only [List.length_cons]; omega, by simp only; omega⟩, by simp only; omega, by (first | rfl | exact ⟨rfl, rfl⟩ | exact ⟨rfl, rfl, rfl⟩ | exact ⟨rfl, rfl, rfl, rfl⟩ | exact ⟨rfl, rfl, rfl, rfl, rfl⟩ | exact ⟨⟨rfl, rfl⟩, rfl⟩ | simp)⟩
    simp only
    rw [← hk, decB_pos k hpos, List.append_assoc]; rfl
  · have hk0 : k = 0 := by omega
    subst hk0
    have hout : out = decB x.toNat := by rw [← hk]; simp [decB]
    (repeat' (first | refine WP.seq ?_ | refine WP.block ?_ | ((first | refine WP.region ?_ | refine WP.condW ?_ | refine WP.ret ?_ | refine WP.exit ?_ | refine WP.skip ?_); simp only [go_sem, tyAll, Nat.reduceAdd, Nat.reduceLT, Nat.reduceLeDiff, Nat.reduceEqDiff, Nat.reduceMul, Nat.reduceSub, Nat.reduceGT, reduceIte, Int.reduceNeg, Int.reduceToNat]) |  refine And.intro ?_ ?_ | intro _))
    all_goals first | omega | skip
    all_goals rw [hf, hout]
end
def numR (o : Option Nat) : SV := .tup [.v (.int .i64 ((o.getD 0 : Nat) : Int)), .v (.bool o.isSome)]
theorem numR_eq (o : Option Nat) : numR o = .tup [.v (.int .i64 ((o.getD 0 : Nat) : Int)), .v (.bool o.isSome)] := rfl
def kParseU : Ctr := pur (fun args => aS args 0) (fun s => [.v (.string s)]) (fun s => s.size ≤ 1099511627776) (fun _ s => .tup [.v (.int .i64 (((parseU s).getD 0 : Nat) : Int)), .v (.bool (parseU s).isSome)]) (fun _ _ => [])
theorem numBad {s : ByteArray} (h : parseU s = none) : SV.v (.int .i64 0) = SV.v (.int .i64 (((parseU s).getD 0 : Nat) : Int)) ∧ SV.v (.bool false) = SV.v (.bool (parseU s).isSome) := by rw [h]; exact ⟨rfl, rfl⟩
theorem numOk {s : ByteArray} {n : Nat} (h : parseU s = some n) : SV.v (.int .i64 (n : Int)) = SV.v (.int .i64 (((parseU s).getD 0 : Nat) : Int)) ∧ SV.v (.bool true) = SV.v (.bool (parseU s).isSome) := by rw [h]; exact ⟨rfl, rfl⟩
theorem valN_bound {s : ByteArray} (k : Nat) (hk : k ≤ s.size) (hs : s.size ≤ 10) (h : ∀ i, i < k → dig s[i]! = true) : valN s k < 10000000000 := by
  have h1 := valN_lt k hk h
  have h2 := pow_le10 k (by omega)
  omega
section
noncomputable def cxPu : Cx := { P := Tryd.prog, tys := tys, C := [(38, kFmt)], hty := tysOk, hC := COk.cons cFmtS (COk.nil _) }
theorem cxPu_t : cxPu.tys = tys := rfl
theorem cxPu_c : cxPu.C = [(38, kFmt)] := rfl
attribute [local go_sem] cxPu_t cxPu_c kFmt
theorem cParseUS : Cn Tryd.prog 24 kParseU := by
  refine Cn.pur Tryd.func24 (by kernel_rfl) rfl fun d x hx => ?_
  refine Holds.go (c := cxPu) Tryd.func24 rfl Tryd.results24 Tryd.ntmps24 (by omega) (by simp) rfl ?_
  intro X0 w0
  (repeat' (first | refine WP.seq ?_ | refine WP.block ?_ | ((first | refine WP.region ?_ | refine WP.condW ?_ | refine WP.ret ?_ | refine WP.exit ?_ | refine WP.skip ?_); simp only [go_sem, tyAll, Nat.reduceAdd, Nat.reduceLT, Nat.reduceLeDiff, Nat.reduceEqDiff, Nat.reduceMul, Nat.reduceSub, Nat.reduceGT, reduceIte, Int.reduceNeg, Int.reduceToNat]) |  refine And.intro ?_ ?_ | intro _))
  all_goals first | omega | skip
  · exact (numBad (parseU_none (.inr (.inl (by omega))))).1
  · exact (numBad (parseU_none (.inr (.inl (by omega))))).2
  rename_i hlen
  refine WP.loop (fun k : Nat => ⟨[(0, .v (.string x)), (4, .v (.int .i64 (valN x k : Int))), (5, .v (.int .i64 k))], []⟩) (fun k => k ≤ x.size ∧ ∀ i, i < k → dig x[i]! = true) (fun k => x.size - k) 0 (by simp) ?_ ?_
  · (simp only [go_sem, valN_zero, tyAll, Nat.reduceAdd, Nat.reduceLT, Nat.reduceLeDiff, Nat.reduceEqDiff, Nat.reduceMul, Nat.reduceSub, Nat.reduceGT, reduceIte, Int.reduceNeg, Int.reduceToNat] <;> (first | rfl | exact ⟨rfl, rfl⟩ | exact ⟨rfl, rfl, rfl⟩ | exact ⟨rfl, rfl, rfl, rfl⟩ | exact ⟨rfl, rfl, rfl, rfl, rfl⟩ | exact ⟨⟨rfl, rfl⟩, rfl⟩ | simp))
  intro k ⟨hk, hdk⟩
  have hv := valN_bound k hk (by omega) hdk
  by_cases hlt : k < x.size
  · have hs := valN_succ x k hlt
    (repeat' (first | refine WP.seq ?_ | refine WP.block ?_ | ((first | refine WP.region ?_ | refine WP.condW ?_ | refine WP.ret ?_ | refine WP.exit ?_ | refine WP.skip ?_); simp only [go_sem, tyAll, Nat.reduceAdd, Nat.reduceLT, Nat.reduceLeDiff, Nat.reduceEqDiff, Nat.reduceMul, Nat.reduceSub, Nat.reduceGT, reduceIte, Int.reduceNeg, Int.reduceToNat]) |  refine And.intro ?_ ?_ | intro _))
    all_goals first | omega | skip
    · exact (numBad (parseU_bad hlt (by rw [Bool.eq_false_iff]; intro hc; have := dig_iff.1 hc; omega))).1
    · exact (numBad (parseU_bad hlt (by rw [Bool.eq_false_iff]; intro hc; have := dig_iff.1 hc; omega))).2
    · rename_i h
      have hd : dig x[k]! = true := dig_iff.2 (by omega)
      refine ⟨k + 1, ⟨by omega, fun i hi => ?_⟩, by omega, ?_⟩
      · rcases Nat.lt_or_ge i k with h' | h'
        · exact hdk i h'
        · rw [show i = k by omega]; exact hd
      · rw [show (10 * (valN x k : Int) + (x[k]!.toNat : Int) - 48) = (valN x (k + 1) : Int) by omega]; (first | rfl | exact ⟨rfl, rfl⟩ | exact ⟨rfl, rfl, rfl⟩ | exact ⟨rfl, rfl, rfl, rfl⟩ | exact ⟨rfl, rfl, rfl, rfl, rfl⟩ | exact ⟨⟨rfl, rfl⟩, rfl⟩ | simp)
  · have hke : k = x.size := by omega
    subst hke
    have ht := fmt_text hdk
    (repeat' (first | refine WP.seq ?_ | refine WP.block ?_ | ((first | refine WP.region ?_ | refine WP.condW ?_ | refine WP.ret ?_ | refine WP.exit ?_ | refine WP.skip ?_); simp only [go_sem, tyAll, Nat.reduceAdd, Nat.reduceLT, Nat.reduceLeDiff, Nat.reduceEqDiff, Nat.reduceMul, Nat.reduceSub, Nat.reduceGT, reduceIte, Int.reduceNeg, Int.reduceToNat]) |  refine And.intro ?_ ?_ | intro _))
    all_goals first | omega | skip
    iterate 2
      · rename_i h
        have hb : parseU x = none := by
          apply parseU_none
          rcases h with h | h
          · exact .inr (.inr (.inr (by omega)))
          · rw [ht] at h
            by_cases h0 : x.size = 0
            · exact .inl h0
            · by_cases h1 : 1 < x.size ∧ x[0]! = 48
              · exact .inr (.inr (.inl h1))
              · exact absurd ⟨h0, h1⟩ h
        first | exact (numBad hb).1 | exact (numBad hb).2
    iterate 2
      · rename_i h
        obtain ⟨h2, h3⟩ := h
        obtain ⟨h4, h5⟩ := ht.1 h3
        have hg := parseU_ok hdk h4 (by omega) h5 (by omega)
        first | exact (numOk hg).1 | exact (numOk hg).2
theorem toNat48 {c : UInt8} : (c.toNat : Int) = 48 ↔ c = 48 := by
  constructor
  · intro h; exact UInt8.toNat_inj.1 (by show c.toNat = 48; omega)
  · rintro rfl; rfl
theorem cParseUI : Cn Tryd.prog 15 kParseU := by
  refine Cn.pur Tryd.func15 (by kernel_rfl) rfl fun d x hx => ?_
  refine Holds.go (c := cx0) Tryd.func15 rfl Tryd.results15 Tryd.ntmps15 (by omega) (by simp) rfl ?_
  intro X0 w0
  have h48 : ((x[0]!.toNat : Int) = 48) = (x[0]! = 48) := propext toNat48
  (repeat' (first | refine WP.seq ?_ | refine WP.block ?_ | ((first | refine WP.region ?_ | refine WP.condW ?_ | refine WP.ret ?_ | refine WP.exit ?_ | refine WP.skip ?_); simp only [go_sem, h48, tyAll, Nat.reduceAdd, Nat.reduceLT, Nat.reduceLeDiff, Nat.reduceEqDiff, Nat.reduceMul, Nat.reduceSub, Nat.reduceGT, reduceIte, Int.reduceNeg, Int.reduceToNat]) |  refine And.intro ?_ ?_ | intro _))
  all_goals first | omega | skip
  iterate 2
    · rename_i h
      have hb : parseU x = none := by
        apply parseU_none
        rcases h with (h | h) | h
        · exact .inl (by omega)
        · exact .inr (.inl (by omega))
        · exact .inr (.inr (.inl ⟨by omega, h.2⟩))
      first | exact (numBad hb).1 | exact (numBad hb).2
  rename_i hh
  have hlen : x.size ≤ 10 := by omega
  have hlen0 : x.size ≠ 0 := by omega
  have h01 : ¬ (1 < x.size ∧ x[0]! = 48) := by
    rintro ⟨a, b⟩
    rcases hh.2 with h | h
    · omega
    · exact h b
  refine WP.loop (fun k : Nat => ⟨[(0, .v (.string x)), (4, .v (.int .i64 (valN x k : Int))), (5, .v (.int .i64 k))], []⟩) (fun k => k ≤ x.size ∧ ∀ i, i < k → dig x[i]! = true) (fun k => x.size - k) 0 (by simp) ?_ ?_
  · (simp only [go_sem, valN_zero, tyAll, Nat.reduceAdd, Nat.reduceLT, Nat.reduceLeDiff, Nat.reduceEqDiff, Nat.reduceMul, Nat.reduceSub, Nat.reduceGT, reduceIte, Int.reduceNeg, Int.reduceToNat] <;> (first | rfl | exact ⟨rfl, rfl⟩ | exact ⟨rfl, rfl, rfl⟩ | exact ⟨rfl, rfl, rfl, rfl⟩ | exact ⟨rfl, rfl, rfl, rfl, rfl⟩ | exact ⟨⟨rfl, rfl⟩, rfl⟩ | simp))
  intro k ⟨hk, hdk⟩
  have hv := valN_bound k hk (by omega) hdk
  by_cases hlt : k < x.size
  · have hs := valN_succ x k hlt
    by_cases hdg : dig x[k]! = true
    · have hd := dig_iff.1 hdg
      have hw : IntKind.u8.wrap ((x[k]!.toNat : Int) - 48) = (x[k]!.toNat : Int) - 48 := wrapU8 (by omega) (by omega)
      (repeat' (first | refine WP.seq ?_ | refine WP.block ?_ | ((first | refine WP.region ?_ | refine WP.condW ?_ | refine WP.ret ?_ | refine WP.exit ?_ | refine WP.skip ?_); simp only [go_sem, hw, tyAll, Nat.reduceAdd, Nat.reduceLT, Nat.reduceLeDiff, Nat.reduceEqDiff, Nat.reduceMul, Nat.reduceSub, Nat.reduceGT, reduceIte, Int.reduceNeg, Int.reduceToNat]) |  refine And.intro ?_ ?_ | intro _))
      all_goals first | omega | skip
      refine ⟨k + 1, ⟨by omega, fun i hi => ?_⟩, by omega, ?_⟩
      · rcases Nat.lt_or_ge i k with h' | h'
        · exact hdk i h'
        · rw [show i = k by omega]; exact hdg
      · rw [show ((valN x k : Int) * 10 + ((x[k]!.toNat : Int) - 48)) = (valN x (k + 1) : Int) by omega]; (first | rfl | exact ⟨rfl, rfl⟩ | exact ⟨rfl, rfl, rfl⟩ | exact ⟨rfl, rfl, rfl, rfl⟩ | exact ⟨rfl, rfl, rfl, rfl, rfl⟩ | exact ⟨⟨rfl, rfl⟩, rfl⟩ | simp)
    · have hbad := parseU_bad hlt (by simpa using hdg)
      have hd : ¬ (48 ≤ x[k]!.toNat ∧ x[k]!.toNat ≤ 57) := fun h => hdg (dig_iff.2 h)
      (repeat' (first | refine WP.seq ?_ | refine WP.block ?_ | ((first | refine WP.region ?_ | refine WP.condW ?_ | refine WP.ret ?_ | refine WP.exit ?_ | refine WP.skip ?_); simp only [go_sem, tyAll, Nat.reduceAdd, Nat.reduceLT, Nat.reduceLeDiff, Nat.reduceEqDiff, Nat.reduceMul, Nat.reduceSub, Nat.reduceGT, reduceIte, Int.reduceNeg, Int.reduceToNat]) |  refine And.intro ?_ ?_ | intro _))
      all_goals first | omega | skip
      · exact (numBad hbad).1
      · exact (numBad hbad).2
  · have hke : k = x.size := by omega
    subst hke
    (repeat' (first | refine WP.seq ?_ | refine WP.block ?_ | ((first | refine WP.region ?_ | refine WP.condW ?_ | refine WP.ret ?_ | refine WP.exit ?_ | refine WP.skip ?_); simp only [go_sem, tyAll, Nat.reduceAdd, Nat.reduceLT, Nat.reduceLeDiff, Nat.reduceEqDiff, Nat.reduceMul, Nat.reduceSub, Nat.reduceGT, reduceIte, Int.reduceNeg, Int.reduceToNat]) |  refine And.intro ?_ ?_ | intro _))
    all_goals first | omega | skip
    · exact (numBad (parseU_none (.inr (.inr (.inr (by omega)))))).1
    · exact (numBad (parseU_none (.inr (.inr (.inr (by omega)))))).2
    · exact (numOk (parseU_ok hdk hlen0 hlen h01 (by omega))).1
    · exact (numOk (parseU_ok hdk hlen0 hlen h01 (by omega))).2
end
def aU (args : List SV) (i : Nat) : UInt8 := UInt8.ofNat (aI args i).toNat
theorem toNatEq {a b : UInt8} : (a.toNat : Int) = (b.toNat : Int) ↔ a = b := by
  constructor
  · intro h; exact UInt8.toNat_inj.1 (by omega)
  · rintro rfl; rfl
end
section
open Go.Vc
set_option linter.unusedSimpArgs false
set_option linter.unusedVariables false
set_option maxHeartbeats 1000000
set_option maxRecDepth 10000
attribute [local irreducible] Go.Vc.WP
attribute [local go_sem] cx0_t cx0_c k60
noncomputable def cxBt2 : Cx := { P := Tryd.prog, tys := tys, C := [(66, k60), (41, k60)], hty := tysOk, hC := COk.cons c60 (COk.cons c58 (COk.nil _)) }
theorem cxBt2_t : cxBt2.tys = tys := rfl
theorem cxBt2_c : cxBt2.C = [(66, k60), (41, k60)] := rfl
attribute [local go_sem] cxBt2_t cxBt2_c

def letter (c : UInt8) : Bool := decide (97 ≤ c.toNat) && decide (c.toNat ≤ 122)
def nameOk (s : ByteArray) : Bool := (s.data.toList.all letter) && decide (1 ≤ s.size) && decide (s.size ≤ 8)
theorem nameOk_bad {s : ByteArray} {k : Nat} (h : k < s.size) (hb : letter s[k]! = false) : nameOk s = false := by
  unfold nameOk
  have : s.data.toList.all letter = false := by
    rw [Bool.eq_false_iff]
    intro hall
    have h1 := List.all_eq_true.1 hall s[k]! (by
      rw [getElem!_pos s k h]
      exact Array.getElem_mem_toList (by exact h))
    rw [h1] at hb; cases hb
  simp [this]
theorem nameOk_all {s : ByteArray} (h : ∀ i, i < s.size → letter s[i]! = true) : nameOk s = (decide ((1 : Int) ≤ s.size) && decide ((s.size : Int) ≤ 8)) := by
  unfold nameOk
  have : s.data.toList.all letter = true := by
    rw [List.all_eq_true]
    intro c hc
    obtain ⟨i, hi, rfl⟩ := List.mem_iff_getElem.1 hc
    have hi' : i < s.size := by simpa using hi
    have := h i hi'
    rw [getElem!_pos s i hi'] at this
    exact this
  rw [this, Bool.true_and]
  congr 1 <;> · apply decide_eq_decide.2; omega
def kNameOk : Ctr := pur (fun args => aS args 0) (fun s => [.v (.string s)]) (fun s => s.size ≤ 1099511627776) (fun _ s => .v (.bool (nameOk s))) (fun _ _ => [])
theorem cNameOkS : Cn Tryd.prog 42 kNameOk := by
  refine Cn.pur Tryd.func42 (by kernel_rfl) rfl fun d s hL => ?_
  refine Holds.go (c := cxBt2) Tryd.func42 rfl Tryd.results42 Tryd.ntmps42 (by omega) (by simp) rfl ?_
  intro X0 w0
  (repeat' (first | refine WP.seq ?_ | refine WP.block ?_ | ((first | refine WP.region ?_ | refine WP.condW ?_ | refine WP.ret ?_ | refine WP.exit ?_ | refine WP.skip ?_); simp only [go_sem, tyAll, Nat.reduceAdd, Nat.reduceLT, Nat.reduceLeDiff, Nat.reduceEqDiff, Nat.reduceMul, Nat.reduceSub, Nat.reduceGT, reduceIte, Int.reduceNeg, Int.reduceToNat]) |  refine And.intro ?_ ?_ | intro _))
  refine WP.loop (fun k : Nat => ⟨[(0, .v (.string s)), (3, .v (.int .i64 k))], []⟩) (fun k => k ≤ s.size ∧ ∀ i, i < k → letter s[i]! = true) (fun k => s.size - k) 0 (by simp) ?_ ?_
  · simp only [go_sem, tyAll, Nat.reduceAdd, Nat.reduceLT, Nat.reduceLeDiff, Nat.reduceEqDiff, Nat.reduceMul, Nat.reduceSub, Nat.reduceGT, reduceIte, Int.reduceNeg, Int.reduceToNat]; first | exact ⟨rfl, rfl⟩ | rfl
  intro k ⟨hk, hf⟩
  by_cases hlt : k < s.size
  · (repeat' (first | refine WP.seq ?_ | refine WP.block ?_ | ((first | refine WP.region ?_ | refine WP.condW ?_ | refine WP.ret ?_ | refine WP.exit ?_ | refine WP.skip ?_); simp only [go_sem, tyAll, Nat.reduceAdd, Nat.reduceLT, Nat.reduceLeDiff, Nat.reduceEqDiff, Nat.reduceMul, Nat.reduceSub, Nat.reduceGT, reduceIte, Int.reduceNeg, Int.reduceToNat]) |  refine And.intro ?_ ?_ | intro _))
    all_goals first | omega | skip
    · rename_i hh
      rw [nameOk_bad hlt (by rw [Bool.eq_false_iff]; intro hc; simp [letter] at hc; omega)]
    · rename_i hh
      refine ⟨k + 1, ⟨by omega, fun i hik => ?_⟩, by omega, rfl⟩
      rcases Nat.lt_or_ge i k with h | h
      · exact hf i h
      · have : i = k := by omega
        subst this
        simp [letter]; omega
  · (repeat' (first | refine WP.seq ?_ | refine WP.block ?_ | ((first | refine WP.region ?_ | refine WP.condW ?_ | refine WP.ret ?_ | refine WP.exit ?_ | refine WP.skip ?_); simp only [go_sem, tyAll, Nat.reduceAdd, Nat.reduceLT, Nat.reduceLeDiff, Nat.reduceEqDiff, Nat.reduceMul, Nat.reduceSub, Nat.reduceGT, reduceIte, Int.reduceNeg, Int.reduceToNat]) |  refine And.intro ?_ ?_ | intro _))
    all_goals first | omega | skip
    rw [nameOk_all fun i hi => hf i (by omega)]

theorem cNameOkI : Cn Tryd.prog 67 kNameOk := by
  refine Cn.pur Tryd.func67 (by kernel_rfl) rfl fun d s hL => ?_
  refine Holds.go (c := cxBt2) Tryd.func67 rfl Tryd.results67 Tryd.ntmps67 (by omega) (by simp) rfl ?_
  intro X0 w0
  (repeat' (first | refine WP.seq ?_ | refine WP.block ?_ | ((first | refine WP.region ?_ | refine WP.condW ?_ | refine WP.ret ?_ | refine WP.exit ?_ | refine WP.skip ?_); simp only [go_sem, tyAll, Nat.reduceAdd, Nat.reduceLT, Nat.reduceLeDiff, Nat.reduceEqDiff, Nat.reduceMul, Nat.reduceSub, Nat.reduceGT, reduceIte, Int.reduceNeg, Int.reduceToNat]) |  refine And.intro ?_ ?_ | intro _))
  refine WP.loop (fun k : Nat => ⟨[(0, .v (.string s)), (3, .v (.int .i64 k))], []⟩) (fun k => k ≤ s.size ∧ ∀ i, i < k → letter s[i]! = true) (fun k => s.size - k) 0 (by simp) ?_ ?_
  · simp only [go_sem, tyAll, Nat.reduceAdd, Nat.reduceLT, Nat.reduceLeDiff, Nat.reduceEqDiff, Nat.reduceMul, Nat.reduceSub, Nat.reduceGT, reduceIte, Int.reduceNeg, Int.reduceToNat]; first | exact ⟨rfl, rfl⟩ | rfl
  intro k ⟨hk, hf⟩
  by_cases hlt : k < s.size
  · (repeat' (first | refine WP.seq ?_ | refine WP.block ?_ | ((first | refine WP.region ?_ | refine WP.condW ?_ | refine WP.ret ?_ | refine WP.exit ?_ | refine WP.skip ?_); simp only [go_sem, tyAll, Nat.reduceAdd, Nat.reduceLT, Nat.reduceLeDiff, Nat.reduceEqDiff, Nat.reduceMul, Nat.reduceSub, Nat.reduceGT, reduceIte, Int.reduceNeg, Int.reduceToNat]) |  refine And.intro ?_ ?_ | intro _))
    all_goals first | omega | skip
    · rename_i hh
      rw [nameOk_bad hlt (by rw [Bool.eq_false_iff]; intro hc; simp [letter] at hc; omega)]
    · rename_i hh
      refine ⟨k + 1, ⟨by omega, fun i hik => ?_⟩, by omega, rfl⟩
      rcases Nat.lt_or_ge i k with h | h
      · exact hf i h
      · have : i = k := by omega
        subst this
        simp [letter]; omega
  · (repeat' (first | refine WP.seq ?_ | refine WP.block ?_ | ((first | refine WP.region ?_ | refine WP.condW ?_ | refine WP.ret ?_ | refine WP.exit ?_ | refine WP.skip ?_); simp only [go_sem, tyAll, Nat.reduceAdd, Nat.reduceLT, Nat.reduceLeDiff, Nat.reduceEqDiff, Nat.reduceMul, Nat.reduceSub, Nat.reduceGT, reduceIte, Int.reduceNeg, Int.reduceToNat]) |  refine And.intro ?_ ?_ | intro _))
    all_goals first | omega | skip
    rw [nameOk_all fun i hi => hf i (by omega)]
end
end Go.Proofs.YtdhkhapbldkkdaaDoor
