/-
  DERIVED. A region whose order Go leaves open and whose operations make objects: any order.
-/
import Derived.Test.YtdbjioanlkilkaaVcO
namespace Go.Vc
set_option linter.unusedVariables false
set_option linter.unusedSimpArgs false

def SV.leaf (ids : List Nat) : SV → Bool
  | .own i => ids.contains i
  | .ptr i _ _ _ => ids.contains i
  | .agg _ => true
  | .tup _ => true
  | .fn _ _ => true
  | .cond _ _ => true
  | _ => false
def SV.leaf2 (ids : List Nat) : SV → Bool
  | .agg cs => cs.any (SV.leaf ids)
  | x => x.leaf ids
/-- it speaks of one of these objects -/
def SV.refs (ids : List Nat) : SV → Bool
  | .agg cs => cs.any (SV.leaf ids)
  | .tup cs => cs.any (SV.leaf2 ids)
  | .fn _ cs => cs.any (SV.leaf ids)
  | .cond _ x => x.leaf2 ids
  | x => x.leaf ids
def Ob.refs (ids : List Nat) : Ob → Bool
  | .sl _ _ _ => false
  | .box _ cs => cs.any (SV.refs ids)
  | .mp _ _ => false
  | .dp _ _ _ => false
  | .dq _ _ _ _ cs => cs.any (SV.refs ids)
def badS (ids : List Nat) (fr : List (Nat × SV)) : List Nat := (fr.filter fun p => p.2.refs ids).map (·.1)
def badO (ids : List Nat) (hp : List (Nat × Ob)) : List Nat := ids ++ (hp.filter fun p => p.2.refs ids).map (·.1)
def offK {α : Type} (bad : List Nat) (l : List (Nat × α)) : List (Nat × α) := match bad with
  | [] => l
  | _ => l.filter fun p => !bad.contains p.1
def St.hide (ids : List Nat) (st : St) : St := match ids with
  | [] => st
  | _ => { fr := offK (badS ids st.fr) st.fr, hp := offK (badO ids st.hp) st.hp }

theorem leaf_kill {ids : List Nat} {d : Nat} (hd : d ∈ ids) {x : SV} (h : x.leaf ids = false) : x.kill1 d = x := by
  cases x with
  | own i =>
    simp only [SV.leaf] at h
    simp only [SV.kill1]
    rw [if_neg]
    rintro rfl
    rw [List.contains_iff_mem.2 hd] at h; cases h
  | ptr i s a b =>
    simp only [SV.leaf] at h
    simp only [SV.kill1]
    rw [if_neg]
    rintro rfl
    rw [List.contains_iff_mem.2 hd] at h; cases h
  | agg cs => cases h
  | tup cs => cases h
  | fn f cs => cases h
  | cond g y => cases h
  | _ => rfl
theorem any_false {f : SV → Bool} {cs : List SV} (h : cs.any f = false) : ∀ c ∈ cs, f c = false := by
  intro c hc
  rw [List.any_eq_false] at h
  simpa using h c hc
theorem map_same {f : SV → SV} {cs : List SV} (h : ∀ c ∈ cs, f c = c) : cs.map f = cs := by
  induction cs with
  | nil => rfl
  | cons c l ih => rw [List.map_cons, h c List.mem_cons_self, ih fun c hc => h c (List.mem_cons_of_mem _ hc)]
theorem leaf2_kill {ids : List Nat} {d : Nat} (hd : d ∈ ids) {x : SV} (h : x.leaf2 ids = false) : x.up2 (SV.kill1 d) = x := by
  cases x with
  | agg cs => simp only [SV.up2]; rw [map_same fun c hc => leaf_kill hd (any_false h c hc)]
  | v y => exact leaf_kill (x := .v y) hd h
  | sl a b => exact leaf_kill (x := .sl a b) hd h
  | own a => exact leaf_kill (x := .own a) hd h
  | ptr a b c e => exact leaf_kill (x := .ptr a b c e) hd h
  | rptr a b c e => exact leaf_kill (x := .rptr a b c e) hd h
  | tup cs => exact leaf_kill (x := .tup cs) hd h
  | fn f cs => exact leaf_kill (x := .fn f cs) hd h
  | cond g y => exact leaf_kill (x := .cond g y) hd h
  | junk => rfl
theorem refs_kill {ids : List Nat} {d : Nat} (hd : d ∈ ids) {x : SV} (h : x.refs ids = false) : x.kill d = x := by
  cases x with
  | agg cs => simp only [SV.kill, SV.up]; rw [map_same fun c hc => leaf_kill hd (any_false h c hc)]
  | tup cs => simp only [SV.kill, SV.up]; rw [map_same fun c hc => leaf2_kill hd (any_false h c hc)]
  | fn f cs => simp only [SV.kill, SV.up]; rw [map_same fun c hc => leaf_kill hd (any_false h c hc)]
  | cond g y => simp only [SV.kill, SV.up]; rw [leaf2_kill hd h]
  | v y => exact leaf_kill (x := .v y) hd h
  | sl a b => exact leaf_kill (x := .sl a b) hd h
  | own a => exact leaf_kill (x := .own a) hd h
  | ptr a b c e => exact leaf_kill (x := .ptr a b c e) hd h
  | rptr a b c e => exact leaf_kill (x := .rptr a b c e) hd h
  | junk => rfl
theorem Ob.refs_kill {ids : List Nat} {d : Nat} (hd : d ∈ ids) {o : Ob} (h : o.refs ids = false) : o.kill d = o := by
  cases o with
  | sl e s rows => rfl
  | mp e es => rfl
  | dp e s rows => rfl
  | dq e s rows i cs =>
    simp only [Ob.kill]
    rw [map_same (f := SV.upq (SV.kill d)) fun c hc => by
      have e1 := Go.Vc.refs_kill hd (any_false h c hc)
      unfold SV.upq
      rw [e1]
      cases hs : c.isSl <;> simp]
  | box e cs => simp only [Ob.kill]; rw [map_same fun c hc => Go.Vc.refs_kill hd (any_false h c hc)]

theorem offK_lk {α : Type} {bad : List Nat} {l : List (Nat × α)} {t : Nat} {x : α} (h : lk t (offK bad l) = some x) : lk t l = some x ∧ t ∉ bad := by
  unfold offK at h
  split at h
  · exact ⟨h, by simp⟩
  · have h1 := lk_filter (fun t => !bad.contains t) h
    refine ⟨h1, fun hm => ?_⟩
    have : lk t (l.filter fun p => !bad.contains p.1) = none := lk_filter.lk_filter_none (fun t => !bad.contains t) (by simp [hm])
    rw [this] at h; cases h

theorem hide_fr {ids : List Nat} {st : St} {t : Nat} {x : SV} (h : lk t (st.hide ids).fr = some x) : lk t st.fr = some x ∧ ∀ d ∈ ids, x.kill d = x := by
  unfold St.hide at h
  split at h
  · exact ⟨h, by simp⟩
  · rename_i hne
    obtain ⟨h1, h2⟩ := offK_lk h
    refine ⟨h1, fun d hd => refs_kill hd ?_⟩
    rw [Bool.eq_false_iff]
    intro hr
    exact h2 (List.mem_map.2 ⟨(t, x), List.mem_filter.2 ⟨lk_mem h1, hr⟩, rfl⟩)
theorem hide_hp {ids : List Nat} {st : St} {t : Nat} {x : Ob} (h : lk t (st.hide ids).hp = some x) : lk t st.hp = some x ∧ ∀ d ∈ ids, d ≠ t ∧ x.kill d = x := by
  unfold St.hide at h
  split at h
  · exact ⟨h, by simp⟩
  · rename_i hne
    obtain ⟨h1, h2⟩ := offK_lk h
    refine ⟨h1, fun d hd => ⟨fun e => h2 (List.mem_append.2 (.inl (e ▸ hd))), Ob.refs_kill hd ?_⟩⟩
    rw [Bool.eq_false_iff]
    intro hr
    exact h2 (List.mem_append.2 (.inr (List.mem_map.2 ⟨(t, x), List.mem_filter.2 ⟨lk_mem h1, hr⟩, rfl⟩)))

/-- an operation's place among the others: the slots that it looks at, what comes before it in every order, the objects that may be gone when it comes up, those that others make, those that it ends, those that it makes -/
structure Fp where
  lks : List Nat
  anc : List Nat
  gx : List Nat
  av : List Nat
  gn : List Nat
  mks : List Nat

def deps (o : Oper) : List Nat := (o.after.toList.filter fun e => Region.binds .any e).map (·.on)
def fpAt (fl : List Fp) (i : Nat) : Fp := (fl[i]?).getD ⟨[], [], [], [], [], []⟩
def flowOne (ops : Array Oper) (m : Nat) (fl : List Fp) (p : Nat) (o : Oper) : Bool :=
  ((deps o).all fun e => decide (e < p)) &&
  ((fpAt fl p).anc.all fun a => (deps o).contains a || (deps o).any fun b => (fpAt fl b).anc.contains a) &&
  (if p < m then
    o.dst.isSome && ((o.looksAt ops).all fun t => (fpAt fl p).lks.contains t) &&
    ((List.range m).all fun k => k == p || (dstAt ops k != o.dst && ((fpAt fl k).anc.contains p || (fpAt fl k).gn.all fun d => (fpAt fl p).gx.contains d) && ((fpAt fl p).anc.contains k || (fpAt fl k).mks.all fun d => (fpAt fl p).av.contains d) &&
      ((fpAt fl k).mks.all fun d => !(fpAt fl p).mks.contains d)))
  else (List.range p).all fun j => (fpAt fl p).anc.contains j)
def flowB (ops : Array Oper) (m : Nat) (fl : List Fp) : Bool :=
  decide (m ≤ ops.size) && (List.range ops.size).all fun p => match ops[p]? with
    | none => false
    | some o => flowOne ops m fl p o

structure FlowOk (ops : Array Oper) (m : Nat) (fl : List Fp) : Prop where
  le : m ≤ ops.size
  back : ∀ (p : Nat) (o : Oper), ops[p]? = some o → ∀ e ∈ deps o, e < p
  anc : ∀ (p : Nat) (o : Oper), ops[p]? = some o → ∀ a ∈ (fpAt fl p).anc, a ∈ deps o ∨ ∃ b ∈ deps o, a ∈ (fpAt fl b).anc
  dst : ∀ (i : Nat) (o : Oper), i < m → ops[i]? = some o → ∃ d, o.dst = some d
  looks : ∀ (i : Nat) (o : Oper), i < m → ops[i]? = some o → ∀ t ∈ o.looksAt ops, t ∈ (fpAt fl i).lks
  apart : ∀ (i k : Nat), i < m → k < m → i ≠ k → dstAt ops k ≠ dstAt ops i
  gx : ∀ (i k : Nat), i < m → k < m → k ≠ i → i ∉ (fpAt fl k).anc → ∀ d ∈ (fpAt fl k).gn, d ∈ (fpAt fl i).gx
  av : ∀ (i k : Nat), i < m → k < m → k ≠ i → k ∉ (fpAt fl i).anc → ∀ d ∈ (fpAt fl k).mks, d ∈ (fpAt fl i).av
  mks : ∀ (i k : Nat), i < m → k < m → k ≠ i → ∀ d ∈ (fpAt fl k).mks, d ∉ (fpAt fl i).mks
  tail : ∀ (p : Nat) (o : Oper), m ≤ p → ops[p]? = some o → ∀ j, j < p → j ∈ (fpAt fl p).anc

theorem flowB_ok {ops : Array Oper} {m : Nat} {fl : List Fp} (h : flowB ops m fl = true) : FlowOk ops m fl := by
  unfold flowB at h
  rw [Bool.and_eq_true, decide_eq_true_eq] at h
  obtain ⟨h0, h⟩ := h
  rw [List.all_eq_true] at h
  have key : ∀ (p : Nat) (o : Oper), ops[p]? = some o → flowOne ops m fl p o = true := fun p o ho => by
    have hp : p < ops.size := (Array.getElem?_eq_some_iff.1 ho).1
    have := h p (List.mem_range.2 hp)
    rw [ho] at this
    exact this
  have two : ∀ (i k : Nat), i < m → k < m → k ≠ i → ∃ o, ops[i]? = some o ∧ dstAt ops k ≠ o.dst ∧ ((fpAt fl k).anc.contains i = true ∨ ∀ d ∈ (fpAt fl k).gn, (fpAt fl i).gx.contains d = true) ∧ ((fpAt fl i).anc.contains k = true ∨ ∀ d ∈ (fpAt fl k).mks, (fpAt fl i).av.contains d = true) ∧ ∀ d ∈ (fpAt fl k).mks, (fpAt fl i).mks.contains d = false := by
    intro i k hi hk hne
    have ho : ops[i]? = some (ops[i]'(by omega)) := Array.getElem?_eq_getElem (by omega)
    have := key i _ ho
    unfold flowOne at this
    rw [if_pos hi] at this
    simp only [Bool.and_eq_true, List.all_eq_true] at this
    have h3 := this.2.2 k (List.mem_range.2 hk)
    simp only [Bool.or_eq_true, beq_iff_eq, Bool.and_eq_true, bne_iff_ne, List.all_eq_true, Bool.not_eq_true'] at h3
    rcases h3 with e | ⟨⟨⟨a1, a2⟩, a3⟩, a4⟩
    · exact absurd e hne
    · exact ⟨_, ho, a1, a2, a3, a4⟩
  refine ⟨h0, fun p o ho e he => ?_, fun p o ho a ha => ?_, fun i o hi ho => ?_, fun i o hi ho t ht => ?_, fun i k hi hk hne => ?_, fun i k hi hk hne hn d hd => ?_, fun i k hi hk hne hn d hd => ?_, fun i k hi hk hne d hd hm => ?_, fun p o hp ho j hj => ?_⟩
  · have := key p o ho
    unfold flowOne at this
    simp only [Bool.and_eq_true, List.all_eq_true] at this
    simpa using this.1.1 e he
  · have := key p o ho
    unfold flowOne at this
    simp only [Bool.and_eq_true, List.all_eq_true] at this
    have := this.1.2 a ha
    simp only [Bool.or_eq_true, List.any_eq_true] at this
    rcases this with h1 | ⟨b, h1, h2⟩
    · exact .inl (List.contains_iff_mem.1 h1)
    · exact .inr ⟨b, h1, List.contains_iff_mem.1 h2⟩
  · have := key i o ho
    unfold flowOne at this
    rw [if_pos hi] at this
    simp only [Bool.and_eq_true] at this
    exact Option.isSome_iff_exists.1 this.2.1.1
  · have := key i o ho
    unfold flowOne at this
    rw [if_pos hi] at this
    simp only [Bool.and_eq_true, List.all_eq_true] at this
    exact List.contains_iff_mem.1 (this.2.1.2 t ht)
  · obtain ⟨o, ho, h1, _⟩ := two i k hi hk (Ne.symm hne)
    intro e
    apply h1
    rw [e]
    simp [dstAt, ho]
  · obtain ⟨o, ho, _, h1, _⟩ := two i k hi hk hne
    rcases h1 with h1 | h1
    · exact absurd (List.contains_iff_mem.1 h1) hn
    · exact List.contains_iff_mem.1 (h1 d hd)
  · obtain ⟨o, ho, _, _, h1, _⟩ := two i k hi hk hne
    rcases h1 with h1 | h1
    · exact absurd (List.contains_iff_mem.1 h1) hn
    · exact List.contains_iff_mem.1 (h1 d hd)
  · obtain ⟨o, ho, _, _, _, h1⟩ := two i k hi hk hne
    have := h1 d hd
    rw [List.contains_iff_mem.2 hm] at this
    cases this
  · have := key p o ho
    unfold flowOne at this
    rw [if_neg (by omega)] at this
    simp only [Bool.and_eq_true, List.all_eq_true] at this
    exact List.contains_iff_mem.1 (this.2 j (List.mem_range.2 hj))

/-! ## the run, in the text's order, each operation in the least state that it may meet -/

/-- what has been done so far: place, slot, what was left behind -/
abbrev Acc := List (Nat × Nat × Dl)
def St.least (base : St) (acc : Acc) (f : Fp) : St :=
  St.hide f.gx { fr := ((acc.filter fun e => f.anc.contains e.1).map fun e => (e.2.1, e.2.2.x)) ++ base.fr, hp := ((acc.filter fun e => f.anc.contains e.1).flatMap fun e => e.2.2.made) ++ base.hp }
def St.clean (base : St) (ds mks : List Nat) : St := St.hide mks { fr := offK ds base.fr, hp := base.hp }
def St.final (base : St) (acc : Acc) (gs : List Nat) : St := St.hide gs { fr := (acc.map fun e => (e.2.1, e.2.2.x)) ++ base.fr, hp := (acc.flatMap fun e => e.2.2.made) ++ base.hp }
def dlOk (f : Fp) (δ : Dl) : Prop := δ.gone = f.gn ∧ δ.made.map (·.1) = f.mks ∧ δ.x.refs f.av = false ∧ (δ.made.all fun p => !p.2.refs f.av) = true
def St.runF (tys : List (Nat × TyD)) (C : List (FuncId × Ctr)) (N : Nat) (ops : Array Oper) (fl : List Fp) (base : St) : List Oper → Nat → Acc → (Acc → Prop) → Prop
  | [], _, acc, K => K acc
  | o :: l, i, acc, K => ∃ d δ, (base.least acc (fpAt fl i)).dlt tys C N ops o d δ ∧ ((fpAt fl i).lks.all fun t => (lk t (base.least acc (fpAt fl i)).fr).isSome) = true ∧ dlOk (fpAt fl i) δ ∧ St.runF tys C N ops fl base l (i + 1) (acc ++ [(i, d, δ)]) K

theorem runF_acc {tys : List (Nat × TyD)} {C : List (FuncId × Ctr)} {N : Nat} {ops : Array Oper} {fl : List Fp} {base : St} {K : Acc → Prop} : ∀ (l : List Oper) (i : Nat) (acc : Acc), St.runF tys C N ops fl base l i acc K →
    ∃ F : Nat → Nat × Dl, K (acc ++ (List.range l.length).map fun k => (i + k, F k)) ∧ ∀ k o, l[k]? = some o →
      (base.least (acc ++ (List.range k).map fun q => (i + q, F q)) (fpAt fl (i + k))).dlt tys C N ops o (F k).1 (F k).2 ∧ ((fpAt fl (i + k)).lks.all fun t => (lk t (base.least (acc ++ (List.range k).map fun q => (i + q, F q)) (fpAt fl (i + k))).fr).isSome) = true ∧ dlOk (fpAt fl (i + k)) (F k).2
  | [], i, acc, h => ⟨fun _ => (0, ⟨.junk, [], []⟩), by simp only [List.length_nil, List.range_zero, List.map_nil, List.append_nil]; exact h, by simp⟩
  | o :: l, i, acc, h => by
    obtain ⟨d, δ, h1, h2, h3, h4⟩ := h
    obtain ⟨F, h5, h6⟩ := runF_acc l (i + 1) _ h4
    have e : ∀ n, acc ++ [(i, d, δ)] ++ (List.range n).map (fun k => (i + 1 + k, F k)) = acc ++ (List.range (n + 1)).map (fun k => (i + k, (fun k => match k with | 0 => (d, δ) | k + 1 => F k : Nat → Nat × Dl) k)) := fun n => by
      rw [List.append_assoc]
      congr 1
      rw [List.range_succ_eq_map, List.map_cons, List.map_map]
      simp only [List.cons_append, List.nil_append, Nat.add_zero]
      congr 1
      exact List.map_congr_left fun k _ => by simp only [Function.comp_apply, Nat.succ_eq_add_one]; congr 1; omega
    refine ⟨fun k => match k with | 0 => (d, δ) | k + 1 => F k, ?_, fun k q hq => ?_⟩
    · rw [List.length_cons, ← e]; exact h5
    · cases k with
      | zero =>
        simp at hq
        subst hq
        simp only [List.range_zero, List.map_nil, List.append_nil, Nat.add_zero]
        exact ⟨h1, h2, h3⟩
      | succ k =>
        have := h6 k q (by simpa using hq)
        rw [e] at this
        have ei : i + 1 + k = i + (k + 1) := by omega
        rw [ei] at this
        exact this

theorem ready_deps {ops : Array Oper} {listed : Array Bool} {i : Nat} {o : Oper} (h3 : ∀ e ∈ o.after, Region.binds .any e = true → listed.getD e.on false = true) : ∀ e ∈ deps o, listed.getD e false = true := by
  intro e he
  obtain ⟨q, hq, rfl⟩ := List.mem_map.1 he
  obtain ⟨h1, h2⟩ := List.mem_filter.1 hq
  exact h3 q (by simpa using h1) h2
theorem deps_ready {ops : Array Oper} {listed : Array Bool} {i : Nat} {o : Oper} (h3 : ∀ e ∈ deps o, listed.getD e false = true) : ∀ e ∈ o.after, Region.binds .any e = true → listed.getD e.on false = true := fun e he hb =>
  h3 e.on (List.mem_map.2 ⟨e, List.mem_filter.2 ⟨by simpa using he, hb⟩, rfl⟩)

/-- what has come up holds, with each, all that comes before it -/
def Closed (fl : List Fp) (n : Nat) (listed : Array Bool) : Prop := ∀ b, b < n → listed.getD b false = true → ∀ a ∈ (fpAt fl b).anc, listed.getD a false = true
theorem Closed.anc {ops : Array Oper} {m : Nat} {fl : List Fp} (hB : FlowOk ops m fl) {listed : Array Bool} (hc : Closed fl ops.size listed) {i : Nat} {o : Oper} (ho : ops[i]? = some o) (h3 : ∀ e ∈ o.after, Region.binds .any e = true → listed.getD e.on false = true) :
    ∀ a ∈ (fpAt fl i).anc, listed.getD a false = true := fun a ha => by
  have hi : i < ops.size := (Array.getElem?_eq_some_iff.1 ho).1
  rcases hB.anc i o ho a ha with h | ⟨b, hb, h⟩
  · exact ready_deps (i := i) (ops := ops) h3 a h
  · have := hB.back i o ho b hb
    exact hc b (by omega) (ready_deps (i := i) (ops := ops) h3 b hb) a h
theorem Closed.step {ops : Array Oper} {m : Nat} {fl : List Fp} (hB : FlowOk ops m fl) {listed : Array Bool} (hsz : listed.size = ops.size) (hc : Closed fl ops.size listed) {i : Nat} {o : Oper} (ho : ops[i]? = some o) (h3 : ∀ e ∈ o.after, Region.binds .any e = true → listed.getD e.on false = true) :
    Closed fl ops.size (listed.setIfInBounds i true) := fun b hb hl a ha => by
  have hi : i < ops.size := (Array.getElem?_eq_some_iff.1 ho).1
  rw [getD_set _ _ _ _ (by omega)] at hl ⊢
  split
  · rfl
  · by_cases hbi : b = i
    · subst hbi; exact hc.anc hB ho h3 a ha
    · rw [if_neg hbi] at hl; exact hc b hb hl a ha
end Go.Vc
