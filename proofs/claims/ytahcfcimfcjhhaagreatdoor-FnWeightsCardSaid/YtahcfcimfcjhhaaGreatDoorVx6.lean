/-
  DERIVED. Several texts of ours in one: VcZ, VcTh, VtCur, VtStk.
-/
import Derived.Test.YtahcfcimfcjhhaaGreatDoorVx0
import Derived.Test.YtahcfcimfcjhhaaGreatDoorVx1
import Derived.Test.YtahcfcimfcjhhaaGreatDoorVx2
import Derived.Test.YtahcfcimfcjhhaaGreatDoorVx3
import Derived.Test.YtahcfcimfcjhhaaGreatDoorVx4
import Derived.Test.YtahcfcimfcjhhaaGreatDoorVx5
import Derived.Orders
set_option linter.unusedSimpArgs false
set_option linter.unusedVariables false
/-
  DERIVED. A region whose order is open: one of its value operations may be taken as soon as it can be.
-/
namespace Go.Vc
set_option linter.unusedVariables false
section
variable {P : Program} {Q : Exit → Act → World → Prop} {s q : Nat} {ops : Array Oper}
def behind (o : Oper) (q : Nat) : Oper := { o with after := o.after.push ⟨q, .data⟩ }
def addE (s q : Nat) (ops : Array Oper) : Array Oper := ops.modify s fun o => behind o q
theorem addE_get (i : Nat) : (addE s q ops)[i]? = (ops[i]?).map fun o => if i = s then behind o q else o := by
  unfold addE
  rw [Array.getElem?_modify]
  by_cases h : s = i
  · rw [if_pos h]; subst h; simp
  · rw [if_neg h]
    have : ¬ i = s := fun e => h e.symm
    simp [this]
theorem yielded_addE (tmps : Array Value) : yielded (addE s q ops) tmps = yielded ops tmps := by
  funext j
  unfold yielded
  rw [addE_get]
  cases ops[j]? with
  | none => rfl
  | some o =>
    simp only [Option.map_some, Option.bind_some]
    by_cases hj : j = s
    · rw [if_pos hj]; rfl
    · rw [if_neg hj]
theorem wpOp_addE {i : Nat} {K : Act → World → Prop} {a : Act} {w : World} (h : wpOp P (addE s q ops) Q i K a w) : wpOp P ops Q i K a w := by
  unfold wpOp at h ⊢
  rw [addE_get, yielded_addE] at h
  cases ho : ops[i]? with
  | none => rw [ho] at h; exact h
  | some o =>
    rw [ho] at h
    simp only [Option.map_some] at h ⊢
    by_cases hi : i = s
    · rw [if_pos hi] at h; exact h
    · rw [if_neg hi] at h; exact h
theorem ready_addE {i : Nat} {listed : Array Bool} : i ∈ Region.ready .any (addE s q ops) listed ↔ i ∈ Region.ready .any ops listed ∧ (i = s → listed.getD q false = true) := by
  rw [mem_ready', mem_ready', addE_get, show (addE s q ops).size = ops.size by unfold addE; rw [Array.size_modify]]
  constructor
  · rintro ⟨h1, h2, o', ho', h3⟩
    cases ho : ops[i]? with
    | none => rw [ho] at ho'; cases ho'
    | some o =>
      rw [ho] at ho'
      simp only [Option.map_some, Option.some.injEq] at ho'
      by_cases hi : i = s
      · rw [if_pos hi] at ho'
        subst ho'
        refine ⟨⟨h1, h2, o, rfl, fun e he hb => h3 e (by unfold behind; simp [he]) hb⟩, fun _ => h3 ⟨q, .data⟩ (by unfold behind; simp) rfl⟩
      · rw [if_neg hi] at ho'
        subst ho'
        exact ⟨⟨h1, h2, o, rfl, h3⟩, fun e => absurd e hi⟩
  · rintro ⟨⟨h1, h2, o, ho, h3⟩, h4⟩
    rw [ho]
    simp only [Option.map_some, Option.some.injEq]
    refine ⟨h1, h2, _, rfl, fun e he hb => ?_⟩
    by_cases hi : i = s
    · rw [if_pos hi] at he
      unfold behind at he
      simp only [Array.mem_push] at he
      rcases he with he | rfl
      · exact h3 e he hb
      · exact h4 hi
    · rw [if_neg hi] at he
      exact h3 e he hb

/-- what the place of q asks: s waits for all that q waits for, every other operation waits for q or is apart from it -/
structure EdgeOk (ops : Array Oper) (s q : Nat) (oq : Oper) : Prop where
  ne : s ≠ q
  at_q : ops[q]? = some oq
  sel : ∀ (j : Nat) (o : Oper) cs b, ops[j]? = some o → o.op ≠ .select cs b
  deps : ∀ os, ops[s]? = some os → ∀ e ∈ oq.after, Region.binds .any e = true → ∃ e' ∈ os.after, Region.binds .any e' = true ∧ e'.on = e.on
  apart : ∀ j oj, ops[j]? = some oj → j ≠ q → (∀ e ∈ oq.after, Region.binds .any e = true → e.on ≠ j) → (∀ e ∈ oj.after, Region.binds .any e = true → e.on ≠ q) → oq.apart ops oj = true
  guard : oq.guard = none
  pure : ∀ (a : Act) (w : World) (K : Act → World → Prop) (Q : Exit → Act → World → Prop), (∀ e a w, e ≠ .normal → ¬ Q e a w) → oq.wp P a w K Q → ∃ v, (∀ w, (execOp a.eval oq).run P w = .ok (.value v) w) ∧ K (a.put oq.dst v) w

theorem wpAny_edge {oq : Oper} (hE : EdgeOk (P := P) ops s q oq) (hQ : ∀ e a w, e ≠ .normal → ¬ Q e a w) : ∀ (fuel : Nat) (listed : Array Bool) (a : Act) (w : World), listed.size = ops.size → wpAny P .any (addE s q ops) Q fuel listed a w → wpAny P .any ops Q fuel listed a w := by
  have hq2 : ∀ {listed : Array Bool}, q ∈ Region.ready .any ops listed → q ∈ Region.ready .any (addE s q ops) listed := fun {listed} h => ready_addE.2 ⟨h, fun e => absurd e.symm hE.ne⟩
  have early : ∀ {listed : Array Bool} {i : Nat}, listed.size = ops.size → i ∈ Region.ready .any ops listed → i ∉ Region.ready .any (addE s q ops) listed → q ∈ Region.ready .any ops listed := fun {listed i} hsz h1 h2 => by
    have his : i = s := Classical.byContradiction fun hn => h2 (ready_addE.2 ⟨h1, fun e => absurd e hn⟩)
    subst his
    have hql : listed.getD q false = false := by
      cases hh : listed.getD q false with
      | true => exact absurd (ready_addE.2 ⟨h1, fun _ => hh⟩) h2
      | false => rfl
    obtain ⟨g1, g2, os, ho, g3⟩ := mem_ready'.1 h1
    have hqs : q < ops.size := (Array.getElem?_eq_some_iff.1 hE.at_q).1
    have hqt : listed.getD q true = false := by
      rw [Array.getD_eq_getD_getElem?, Array.getElem?_eq_getElem (by omega)] at hql ⊢
      exact hql
    refine mem_ready'.2 ⟨hqs, hqt, oq, hE.at_q, fun e he hb => ?_⟩
    obtain ⟨e', he', hb', hon⟩ := hE.deps os ho e he hb
    rw [← hon]
    exact g3 e' he' hb'
  intro fuel
  induction fuel with
  | zero =>
    intro listed a w hsz h
    refine ⟨?_, h.2⟩
    rcases hr : Region.ready .any ops listed with _ | ⟨i, l⟩
    · rfl
    · exfalso
      have hi : i ∈ Region.ready .any ops listed := by rw [hr]; simp
      have hn : ∀ j, j ∉ Region.ready .any (addE s q ops) listed := fun j hj => by rw [h.1] at hj; cases hj
      exact hn q (hq2 (early hsz hi (hn i)))
  | succ fuel ih =>
    intro listed a w hsz H
    by_cases hq : q ∈ Region.ready .any ops listed
    · have h1 := wpOp_addE (H.2 q (hq2 hq))
      unfold wpOp at h1
      rw [hE.at_q] at h1
      have hw : Region.wanted oq (yielded ops a.tmps) = true := by simp [Region.wanted, hE.guard]
      simp only [hw, if_true] at h1
      rcases h1 with h1 | ⟨_, x, y, h1⟩
      · obtain ⟨v, hrun, hK⟩ := hE.pure a w _ _ hQ h1
        exact wpAny_first hE.at_q hE.sel (fun c a w h => absurd h (hQ _ _ _ (by simp))) fuel listed a w (fun j oj hj hne hl hw' => hE.apart j oj hj hne (fun e he hb hj' => by
          obtain ⟨_, _, o2, ho2, h3⟩ := mem_ready'.1 hq
          rw [hE.at_q] at ho2
          obtain rfl := Option.some.inj ho2
          have h4 := h3 e he hb
          rw [hj'] at h4
          have hjs : j < ops.size := (Array.getElem?_eq_some_iff.1 hj).1
          rw [Array.getD_eq_getD_getElem?, Array.getElem?_eq_getElem (by omega)] at hl h4
          simp only [Option.getD_some] at hl h4
          rw [hl] at h4; cases h4) hw') hq (.inl ⟨hw, hrun⟩) (ih _ _ _ (by simpa using hsz) hK)
      · exact absurd h1 (hQ _ _ _ (by simp))
    · refine ⟨fun he => H.1 ?_, fun i hi => ?_⟩
      · rcases hr : Region.ready .any (addE s q ops) listed with _ | ⟨i, l⟩
        · rfl
        · have hi : i ∈ Region.ready .any (addE s q ops) listed := by rw [hr]; simp
          have := (ready_addE.1 hi).1
          rw [he] at this; cases this
      · have hi' : i ∈ Region.ready .any (addE s q ops) listed := Classical.byContradiction fun hn => hq (early hsz hi hn)
        exact wpOp_mono (fun a' w' h => ih _ _ _ (by simpa using hsz) h) (wpOp_addE (H.2 i hi'))
theorem pure_extract {oq : Oper} {x : Operand} {i : Nat} (ho : oq.op = .extract x i) (a : Act) (w : World) (K : Act → World → Prop) (Q : Exit → Act → World → Prop) (hQ : ∀ e a w, e ≠ .normal → ¬ Q e a w) (h : oq.wp P a w K Q) :
    ∃ v, (∀ w, (execOp a.eval oq).run P w = .ok (.value v) w) ∧ K (a.put oq.dst v) w := by
  unfold Oper.wp at h
  cases hx : a.eval x with
  | tuple us =>
    cases hu : us[i]? with
    | some v =>
      refine ⟨v, fun w => by simp [execOp, ho, hx, Instr.extract, hu], ?_⟩
      simpa [execOp, ho, hx, Instr.extract, hu, Oper.upon] using h
    | none => simp [execOp, ho, hx, Instr.extract, hu, Oper.upon, stuck] at h
  | _ => simp [execOp, ho, hx, Instr.extract, Oper.upon, stuck] at h
def isExtract : Op → Bool
  | .extract _ _ => true
  | _ => false
def isSelect : Op → Bool
  | .select _ _ => true
  | _ => false
def edgeB (ops : Array Oper) (s q : Nat) : Bool := s != q && match ops[q]?, ops[s]? with
  | some oq, some os => isExtract oq.op && oq.guard.isNone &&
    (oq.after.toList.all fun e => !Region.binds .any e || os.after.toList.any fun e' => Region.binds .any e' && e'.on == e.on) &&
    (List.range ops.size).all fun j => match ops[j]? with
      | some oj => !isSelect oj.op && (j == q || (oq.after.toList.any fun e => Region.binds .any e && e.on == j) || (oj.after.toList.any fun e => Region.binds .any e && e.on == q) || oq.apart ops oj)
      | none => true
  | _, _ => false
theorem edgeB_ok (h : edgeB ops s q = true) : ∃ oq, EdgeOk (P := P) ops s q oq := by
  unfold edgeB at h
  rw [Bool.and_eq_true] at h
  obtain ⟨h0, h⟩ := h
  split at h
  case h_2 => cases h
  case h_1 _ _ oq os hoq hos =>
    simp only [Bool.and_eq_true] at h
    obtain ⟨⟨⟨h1, h2⟩, h3⟩, h4⟩ := h
    have key : ∀ j oj, ops[j]? = some oj → isSelect oj.op = false ∧ (j = q ∨ (∃ e ∈ oq.after, Region.binds .any e = true ∧ e.on = j) ∨ (∃ e ∈ oj.after, Region.binds .any e = true ∧ e.on = q) ∨ oq.apart ops oj = true) := fun j oj hj => by
      have := List.all_eq_true.1 h4 j (List.mem_range.2 (Array.getElem?_eq_some_iff.1 hj).1)
      rw [hj] at this
      simp only [Bool.and_eq_true, Bool.not_eq_true', Bool.or_eq_true, beq_iff_eq, List.any_eq_true, Array.mem_toList_iff] at this
      refine ⟨this.1, ?_⟩
      rcases this.2 with ((h | h) | h) | h
      · exact .inl h
      · exact .inr (.inl h)
      · exact .inr (.inr (.inl h))
      · exact .inr (.inr (.inr h))
    refine ⟨oq, ⟨by simpa using h0, hoq, fun j o cs b hj hsel => ?_, fun os' hos' e he hb => ?_, fun j oj hj hne hd hw => ?_, by simpa using h2, ?_⟩⟩
    · have := (key j o hj).1
      rw [hsel] at this; cases this
    · obtain rfl := Option.some.inj (hos.symm.trans hos')
      have := List.all_eq_true.1 h3 e (by simpa using he)
      rw [hb] at this
      simp only [Bool.not_true, Bool.false_or, List.any_eq_true, Bool.and_eq_true, beq_iff_eq] at this
      obtain ⟨e', he', h5, h6⟩ := this
      exact ⟨e', by simpa using he', h5, h6⟩
    · rcases (key j oj hj).2 with h | ⟨e, he, hb, ho⟩ | ⟨e, he, hb, ho⟩ | h
      · exact absurd h hne
      · exact absurd ho (hd e he hb)
      · exact absurd ho (hw e he hb)
      · exact h
    · intro a w K Q hQ hh
      cases hop : oq.op with
      | extract x i => exact pure_extract hop a w K Q hQ hh
      | _ => rw [hop] at h1; cases h1
theorem upon_Q {o : Oper} {a : Act} {K : Act → World → Prop} {Q' Q : Exit → Act → World → Prop} (h : ∀ e a w, Q' e a w → Q e a w) {r : Result Next} (hh : o.upon P a K Q' r) : o.upon P a K Q r := by
  cases r with
  | ok n w' =>
    cases n <;> simp only [Oper.upon] at hh ⊢ <;> first
      | exact hh
      | exact Calls.mono hh fun e w'' he => by
          cases e with
          | returned v => exact he
          | panicked c => exact h _ _ _ he
          | outgrown => obtain ⟨x, y, hxy⟩ := he; exact ⟨x, y, h _ _ _ hxy⟩
  | halt x w' => cases x <;> simp only [Oper.upon] at hh ⊢ <;> first | exact h _ _ _ hh | exact hh.elim
theorem wpOp_Q {i : Nat} {a : Act} {w : World} {K K' : Act → World → Prop} {Q' Q : Exit → Act → World → Prop} (h : ∀ e a w, Q' e a w → Q e a w) (hK : ∀ a w, K' a w → K a w) (hh : wpOp P ops Q' i K' a w) : wpOp P ops Q i K a w := by
  have hh := wpOp_mono hK hh
  unfold wpOp at hh ⊢
  split
  · rename_i ho; rw [ho] at hh; exact hh
  · rename_i o ho
    rw [ho] at hh
    simp only at hh
    split
    · rename_i hw
      rw [if_pos hw] at hh
      rcases hh with hh | ⟨h1, x, y, h2⟩
      · exact .inl (upon_Q h hh)
      · exact .inr ⟨h1, x, y, h _ _ _ h2⟩
    · rename_i hw
      rw [if_neg hw] at hh
      exact hh
theorem wpAny_Q {Q' Q : Exit → Act → World → Prop} (h : ∀ e a w, Q' e a w → Q e a w) : ∀ (fuel : Nat) (listed : Array Bool) (a : Act) (w : World), wpAny P .any ops Q' fuel listed a w → wpAny P .any ops Q fuel listed a w
  | 0, _, _, _, hh => ⟨hh.1, h _ _ _ hh.2⟩
  | fuel + 1, _, _, _, hh => ⟨fun he => h _ _ _ (hh.1 he), fun i hi => wpOp_Q h (fun a' w' h' => wpAny_Q h fuel _ a' w' h') (hh.2 i hi)⟩
end
def addL : Nat → Nat → List Oper → List Oper
  | _, _, [] => []
  | 0, q, o :: l => behind o q :: l
  | s + 1, q, o :: l => o :: addL s q l
theorem addL_get : ∀ (s q : Nat) (l : List Oper) (i : Nat), (addL s q l)[i]? = (l[i]?).map fun o => if i = s then behind o q else o
  | _, _, [], i => by simp [addL]
  | 0, q, o :: l, 0 => by simp [addL]
  | 0, q, o :: l, i + 1 => by simp [addL]
  | s + 1, q, o :: l, 0 => by simp [addL]
  | s + 1, q, o :: l, i + 1 => by simp [addL, addL_get s q l i]
theorem addL_arr (s q : Nat) (l : List Oper) : (addL s q l).toArray = addE s q l.toArray := by
  apply Array.ext_getElem?
  intro i
  rw [addE_get]
  simp [addL_get]
section
variable {c : Cx} {N : Nat} {X0 : Nat → Prop} {M : Nat → Value → Prop} {w0 : World} {K : Exit → St → Prop}
def onlyN (K : Exit → St → Prop) : Exit → St → Prop
  | .normal, st => K .normal st
  | _, _ => False
theorem WP.flowE {id : Nat} {l : List Oper} {st : St} (s q : Nat) (zs : List Nat) (m : Nat) (fl : List Fp) (ds mks gs : List Nat) (hE : edgeB l.toArray s q = true) (hB : flowB (addL s q l).toArray m fl = true)
    (hD : ((List.range m).all fun k => match dstAt (addL s q l).toArray k with | some d => ds.contains d | none => false) = true)
    (hM : ((List.range m).all fun k => ((fpAt fl k).mks.all fun d => mks.contains d) && ((fpAt fl k).gn.all fun d => gs.contains d)) = true) (hm : c.P.follows .mixedOrders = true)
    (h : St.runG c.tys c.C N (addL s q l).toArray fl ((st.fzS zs).clean ds mks) ((addL s q l).take m) 0 [] fun acc => St.runR c.tys c.C N (addL s q l).toArray ((addL s q l).drop m) (((st.fzS zs).clean ds mks).final acc gs) (K .normal)) : WP c N X0 M w0 (.region id l.toArray true) st K := by
  intro hA β a w hs0
  have hs := Sim.fzS hA zs hs0
  generalize st.fzS zs = st at hs h
  have hD0 := flowB_ok hB
  obtain ⟨F, h1, h2⟩ := runF_acc _ _ _ (runF_of_runG _ _ _ h)
  have harr := addL_arr s q l
  have hlen : ((addL s q l).take m).length = m := by
    have := hD0.le
    simp at this ⊢
    omega
  rw [hlen] at h1
  simp only [List.nil_append, Nat.zero_add] at h1 h2
  have hcl0 : ∀ t x, lk t (st.clean ds mks).fr = some x → lk t st.fr = some x ∧ t ∉ ds ∧ ∀ d ∈ mks, x.kill d = x := fun t x hx => by
    obtain ⟨e1, e2⟩ := hide_fr hx
    obtain ⟨e3, e4⟩ := offK_lk e1
    exact ⟨e3, e4, e2⟩
  have hMk : ∀ k, k < m → (∀ d ∈ (fpAt fl k).mks, d ∈ mks) ∧ ∀ d ∈ (fpAt fl k).gn, d ∈ gs := fun k hk => by
    have := List.all_eq_true.1 hM k (List.mem_range.2 hk)
    simp only [Bool.and_eq_true, List.all_eq_true] at this
    exact ⟨fun d hd => List.contains_iff_mem.1 (this.1 d hd), fun d hd => List.contains_iff_mem.1 (this.2 d hd)⟩
  obtain ⟨oq, hEo⟩ := edgeB_ok (P := c.P) hE
  have hsz : (addL s q l).toArray.size = l.toArray.size := by rw [harr]; unfold addE; rw [Array.size_modify]
  refine wp_region_any hm (wpAny_Q (Q' := fun e a' w' => Ok N X0 M w0 (onlyN K e) a' w') (fun e a' w' hk => ?_) _ _ _ _ (wpAny_edge hEo (fun e a' w' hne hk => ?_) _ _ _ _ (by simp) ?_))
  · cases e with
    | normal => exact hk
    | _ => obtain ⟨_, _, hf, _⟩ := hk; exact hf.elim
  · cases e with
    | normal => exact hne rfl
    | _ => obtain ⟨_, _, hf, _⟩ := hk; exact hf.elim
  rw [← harr, ← hsz]
  refine (flow_head (c := c) (K := onlyN K) hA hD0 (base := st.clean ds mks) (F := F) (gs := gs) (fun k o hk ho => ?_) (fun t x hx => ⟨fun k hk e => ?_, fun k hk d hd => (hcl0 t x hx).2.2 d ((hMk k hk).1 d hd)⟩) (fun t ob hx k hk d hd => (hide_hp hx).2 d ((hMk k hk).1 d hd)) (fun k hk => (hMk k hk).2) ?_
    (addL s q l).toArray.size (Array.replicate (addL s q l).toArray.size false) (st.clean ds mks) β a _ (by simp) (fun j _ hj => ?_) ?_ (fun b hb hl => ?_) ?_ (fun t x hx _ => hx) (fun k hk hl => ?_) (fun t ob hx _ => hx) (fun k hk hl => ?_))
  · have : ((addL s q l).take m)[k]? = some o := by rw [List.getElem?_take_of_lt hk]; simpa using ho
    exact h2 k o this
  · have := List.all_eq_true.1 hD k (List.mem_range.2 hk)
    rw [e] at this
    exact (hcl0 t x hx).2.1 (List.contains_iff_mem.1 this)
  · exact h1
  · rw [Array.getD_eq_getD_getElem?, Array.getElem?_replicate]; split <;> rfl
  · have : (List.range (addL s q l).toArray.size).countP (fun j => !(Array.replicate (addL s q l).toArray.size false).getD j false) = (List.range (addL s q l).toArray.size).countP (fun _ => true) := by
      apply List.countP_congr
      intro j hj
      rw [Array.getD_eq_getD_getElem?, Array.getElem?_replicate]; split <;> simp
    rw [this]; simp
  · rw [Array.getD_eq_getD_getElem?, Array.getElem?_replicate] at hl
    split at hl <;> cases hl
  · exact (hs.grow ((Go.RowKit.Below.refl _ _).drew) (fun b _ hb => .inl hb) hs.x0).less (fun t x hx => (hcl0 t x hx).1) (fun t ob hx => (hide_hp hx).1)
  · rw [Array.getD_eq_getD_getElem?, Array.getElem?_replicate] at hl
    split at hl <;> cases hl
  · rw [Array.getD_eq_getD_getElem?, Array.getElem?_replicate] at hl
    split at hl <;> cases hl
end
end Go.Vc

/-
  DERIVED. A region whose order Go leaves open, and in which calls write, one behind the other, into one box that is lent to them.
-/
namespace Go.Vc
set_option linter.unusedVariables false
set_option linter.unusedSimpArgs false

/-- object c holds ob now -/
def St.thr (st : St) (c : Nat) (ob : Ob) : St := { st with hp := (c, ob) :: st.hp }
def St.offO (st : St) (c : Nat) : St := { st with hp := er c st.hp }
def pureBox : Ob → Bool
  | .box _ cs => cs.all SV.pur
  | _ => false
theorem pur_kill {x : SV} (h : x.pur = true) (d : Nat) : x.kill d = x := by
  cases x with
  | v y => rfl
  | sl s r => rfl
  | _ => cases h
theorem pureBox_kill {ob : Ob} (h : pureBox ob = true) (d : Nat) : ob.kill d = ob := by
  cases ob with
  | box e cs =>
    simp only [pureBox] at h
    simp only [Ob.kill]
    rw [map_same fun c hc => pur_kill (List.all_eq_true.1 h c hc) d]
  | _ => cases h

theorem lk_erL_ne {α : Type} {t : Nat} : ∀ {ids : List Nat} {l : List (Nat × α)}, t ∉ ids → lk t (erL ids l) = lk t l
  | [], l, _ => rfl
  | i :: is, l, h => by
    simp only [List.mem_cons, not_or] at h
    show lk t (er i (erL is l)) = lk t l
    rw [lk_er_ne h.1, lk_erL_ne h.2]

/-- a call that writes into box c -/
def St.thrC (st : St) (cl : Call) (ctr : Ctr) (c : Nat) (δ : Dl) (ob' : Ob) (A : List SV) (Ll Lm : List Nat) (q : Prop × SV × List (Nat × Ob) × List (Nat × Ob)) : Prop :=
  match q with
  | (ob, res, robs, kept) => ob ∧ (∀ y ∈ cl.args.toList, (st.ev y).need) ∧ ((restOf (ctr.lend ++ ctr.move) 0 A).all fun y => (y.share st.hp).good) = true ∧
    nodupN (Ll ++ Lm) = true ∧ ((Ll ++ Lm).all fun i => (lk i st.hp).isSome) = true ∧ (((restOf (ctr.lend ++ ctr.move) 0 A).flatMap SV.owns).all fun i => !(Ll ++ Lm).contains i && (lk i st.hp).isSome) = true ∧ Lm.length ≤ 100000 ∧
    (Lm.all fun i => decide (i < 1000000)) = true ∧ ((robs.map (·.1)).all fun i => decide (i < 900000) && !Ll.contains i) = true ∧ nodupN (robs.map (·.1)) = true ∧ (kept.map (·.1) = (pairs 1000000 Ll).map (·.2)) ∧
    (((restOf (ctr.lend ++ ctr.move) 0 A).flatMap SV.owns) = [] ∨ (res.isV2 = true ∧ ∀ p ∈ robs ++ kept, p.2.isV)) ∧
    ctr.isL = true ∧ Ll = [c] ∧ Lm = δ.gone ∧ δ.x = res.up (SV.ren1 (backL (pairs 1000000 Ll) robs)) ∧ unObs (backL (pairs 1000000 Ll) robs) (robs ++ kept) = δ.made ++ [(c, ob')] ∧ δ.made.map (·.1) = robs.map (·.1) ∧ pureBox ob' = true
def St.dltT (C : List (FuncId × Ctr)) (N : Nat) (o : Oper) (st : St) (c d : Nat) (δ : Dl) (ob' : Ob) : Prop :=
  o.dst = some d ∧ o.guard.isNone = true ∧ dstOk N o.dst = true ∧
  match o.op with
  | .call cl => match cl.callee with
    | .value x => match st.ev x with
      | .fn f caps => match lk f C with
        | some ctr => st.thrC cl ctr c δ ob' (st.argL cl caps) (lentBy st (st.argL cl caps) ctr.lend) (lentBy st (st.argL cl caps) ctr.move)
            (ctr.wri d (argsR st.hp (pairs 1000000 (lentBy st (st.argL cl caps) ctr.lend) ++ pairs 900000 (lentBy st (st.argL cl caps) ctr.move)) (ctr.lend ++ ctr.move) 0 (st.argL cl caps)) (obsR st.hp (pairs 1000000 (lentBy st (st.argL cl caps) ctr.lend) ++ pairs 900000 (lentBy st (st.argL cl caps) ctr.move))))
        | none => False
      | _ => False
    | _ => False
  | _ => False

def St.dappT (st : St) (d : Nat) (δ : Dl) (c : Nat) (ob' : Ob) : St :=
  { fr := (d, δ.x) :: er d (st.killL (δ.gone ++ δ.made.map (·.1))).fr, hp := (c, ob') :: (δ.made ++ er c (st.killL (δ.gone ++ δ.made.map (·.1))).hp) }

section
variable {P : Program} {C : List (FuncId × Ctr)} {N : Nat} {X0 : Nat → Prop} {M : Nat → Value → Prop} {w0 : World} {st : St} {β : Nat → Value} {a : Act} {w : World}

theorem dltT_sound (hA : Ap P X0 M w0) (hC : COk P C) (h : Sim N X0 M w0 st β a w) {ops : Array Oper} {o : Oper} {c d : Nat} {δ : Dl} {ob' : Ob} (hw : st.dltT C N o c d δ ob') {Q : Exit → Act → World → Prop} :
    Region.wanted o (yielded ops a.tmps) = true ∧ o.wp P a w (Ok N X0 M w0 fun st' => st' = st.dappT d δ c ob') Q := by
  obtain ⟨hod, hgd, hd, hw⟩ := hw
  have hN : ∀ e, o.dst = some e → e < N := dst_lt hd
  refine ⟨by simp only [Option.isNone_iff_eq_none] at hgd; simp [Region.wanted, hgd], ?_⟩
  split at hw
  case h_2 => exact hw.elim
  case h_1 _ cl ho =>
  split at hw
  case h_2 => exact hw.elim
  case h_1 _ x hcal =>
  split at hw
  case h_2 => exact hw.elim
  case h_1 _ f caps hf =>
  split at hw
  case h_2 => exact hw.elim
  case h_1 _ ctr hctr =>
  obtain ⟨lend, move, pure, wri⟩ := ctr
  dsimp only at hw
  refine Oper.wp_mono (K := Ok N X0 M w0 fun st' => ∃ res robs kept, st' = st.resL (pairs 1000000 [c]) δ.gone o.dst res robs kept ∧ δ.x = res.up (SV.ren1 (backL (pairs 1000000 [c]) robs)) ∧
      unObs (backL (pairs 1000000 [c]) robs) (robs ++ kept) = δ.made ++ [(c, ob')] ∧ δ.made.map (·.1) = robs.map (·.1) ∧ c ∉ robs.map (·.1)) (fun a' w' hk => ?_) (eff_callL (dd := d) hC hA h hN ?_)
  · obtain ⟨st', β', ⟨res, robs, kept, rfl, e1, e2, e3, e4⟩, h'⟩ := hk
    refine ⟨_, β', rfl, h'.less (fun t y hy => ?_) (fun t y hy => ?_)⟩
    · rw [hod]
      simp only [St.resL, St.put, St.dappT] at hy ⊢
      rw [← e1, ← e3]; exact hy
    · rw [hod]
      simp only [St.resL, St.put, St.dappT] at hy ⊢
      rw [e2, lk_append, lk_append]
      simp only [lk] at hy
      by_cases ht : t = c
      · subst ht
        rw [if_pos rfl] at hy
        rw [lk_none (by rw [e3]; exact e4)]
        simp only [lk, if_true]
        exact hy
      · rw [if_neg ht, lk_append] at hy
        cases hq : lk t δ.made with
        | some z => rw [hq] at hy; exact hy
        | none =>
          rw [hq] at hy
          have hy1 : lk t (er c (st.killL (δ.gone ++ δ.made.map (·.1))).hp) = some y := hy
          rw [lk_er_ne ht] at hy1
          simp only [lk, if_neg ht]
          have hnm : t ∉ δ.made.map (·.1) := fun hm => by
            obtain ⟨z, hz⟩ := lk_some_of_mem hm
            rw [hq] at hz; cases hz
          show lk t (erL _ _) = some y
          rw [lk_erL_ne (by simp only [List.map_append, List.mem_append, not_or]; exact ⟨hnm, by simpa using ht⟩), ← e3]
          exact hy1
  · unfold St.callL
    rw [ho]
    simp only [hcal, hf, hctr]
    generalize hLl : lentBy st (st.argL cl caps) lend = Ll at hw ⊢
    generalize hLm : lentBy st (st.argL cl caps) move = Lm at hw ⊢
    generalize wri d (argsR st.hp (pairs 1000000 Ll ++ pairs 900000 Lm) (lend ++ move) 0 (st.argL cl caps)) (obsR st.hp (pairs 1000000 Ll ++ pairs 900000 Lm)) = q at hw ⊢
    obtain ⟨q1, q2, q3, q4⟩ := q
    unfold St.thrC at hw
    simp only at hw ⊢
    obtain ⟨g1, g2, g3, g4, g5, g6, g7, g8, g9, g10, g11, g12, g13, rfl, rfl, g16, g17, g18, g19⟩ := hw
    refine ⟨g1, g2, g3, g4, g5, g6, g7, g8, g9, g10, g11, g12, q2, q3, q4, rfl, g16, g17, g18, fun hm => ?_⟩
    have := List.all_eq_true.1 g9 c hm
    simp at this

theorem lentBy_mono {st st2 : St} (hh : ∀ id ob, lk id st.hp = some ob → lk id st2.hp = some ob) {A : List SV} {is : List Nat} {L : List Nat} (hL : lentBy st A is = L) (hs : ∀ i ∈ L, (lk i st.hp).isSome = true) : lentBy st2 A is = L := by
  rw [← hL] at hs ⊢
  unfold lentBy at hs ⊢
  have key : ∀ y : SV, (∀ i ∈ st.lent1 y, (lk i st.hp).isSome = true) → st2.lent1 y = st.lent1 y := fun y hy => by
    cases y with
    | ptr id s i k =>
      have h1 := hy id (by simp [St.lent1])
      obtain ⟨ob, hob⟩ := Option.isSome_iff_exists.1 h1
      simp only [St.lent1, hob, hh id ob hob]
    | _ => rfl
  have fc : ∀ {γ : Type} {f g : γ → List Nat} (l : List γ), (∀ x ∈ l, f x = g x) → l.flatMap f = l.flatMap g := by
    intro γ f g l
    induction l with
    | nil => intro _; rfl
    | cons x l ih => intro h; rw [List.flatMap_cons, List.flatMap_cons, h x List.mem_cons_self, ih fun y hy => h y (List.mem_cons_of_mem _ hy)]
  refine fc _ fun i hi => ?_
  have hi' : ∀ q ∈ st.lentV (nthS A i), (lk q st.hp).isSome = true := fun q hq => hs q (List.mem_flatMap.2 ⟨i, hi, hq⟩)
  generalize nthS A i = y at hi'
  cases y with
  | agg cs =>
    simp only [St.lentV] at hi' ⊢
    exact fc _ fun z hz => key z fun q hq => hi' q (List.mem_flatMap.2 ⟨z, hz, hq⟩)
  | v x => rfl
  | sl s r => rfl
  | own j => rfl
  | ptr j s a b => exact key (.ptr j s a b) hi'
  | rptr s r a b => rfl
  | tup cs => rfl
  | fn f cs => rfl
  | cond g z => rfl
  | junk => rfl
theorem argsR_mono {hp hp2 : List (Nat × Ob)} (hh : ∀ id ob, lk id hp = some ob → lk id hp2 = some ob) {ρ : List (Nat × Nat)} {is : List Nat} : ∀ {A : List SV} {k : Nat}, ((restOf is k A).all fun y => (y.share hp).good) = true → argsR hp2 ρ is k A = argsR hp ρ is k A
  | [], _, _ => rfl
  | y :: A, k, h => by
    simp only [restOf, argsR] at h ⊢
    split at h
    · rename_i hk
      rw [if_pos hk, if_pos hk, argsR_mono hh h]
    · rename_i hk
      simp only [List.all_cons, Bool.and_eq_true] at h
      rw [if_neg hk, if_neg hk, argsR_mono hh h.2, share_mono hh h.1]
theorem obsR_mono {hp hp2 : List (Nat × Ob)} (hh : ∀ id ob, lk id hp = some ob → lk id hp2 = some ob) {ρ : List (Nat × Nat)} (hs : ∀ p ∈ ρ, (lk p.1 hp).isSome = true) : obsR hp2 ρ = obsR hp ρ := by
  unfold obsR
  refine List.map_congr_left fun p hp' => ?_
  obtain ⟨ob, hob⟩ := Option.isSome_iff_exists.1 (hs p hp')
  rw [hob, hh _ _ hob]
theorem pairs_fst : ∀ (b : Nat) (L : List Nat), ∀ p ∈ pairs b L, p.1 ∈ L
  | _, [], p, h => by cases h
  | b, i :: L, p, h => by
    rcases List.mem_cons.1 h with rfl | h
    · exact List.mem_cons_self
    · exact List.mem_cons_of_mem _ (pairs_fst (b + 1) L p h)

theorem dltT_mono {st2 : St} {ops : Array Oper} {o : Oper} {c d : Nat} {δ : Dl} {ob' : Ob} (h : ∀ t ∈ o.looksAt ops, st2.get t = st.get t) (hh : ∀ id ob, lk id st.hp = some ob → lk id st2.hp = some ob) (hw : st.dltT C N o c d δ ob') : st2.dltT C N o c d δ ob' := by
  obtain ⟨hod, hgd, hd, hw⟩ := hw
  refine ⟨hod, hgd, hd, ?_⟩
  have hop : ∀ y ∈ o.op.operands, st2.ev y = st.ev y := fun y hy => by
    cases y with
    | tmp t => exact h t (List.mem_append_left _ (List.mem_filterMap.2 ⟨.tmp t, by simpa using hy, rfl⟩))
    | _ => rfl
  cases ho : o.op with
  | call cl =>
    rw [ho] at hw hop
    have ha : ∀ y ∈ cl.args.toList, st2.ev y = st.ev y := fun y hy => hop y (by simp only [Op.operands, Call.operands, Array.mem_append]; right; simpa using hy)
    simp only at hw ⊢
    cases hc : cl.callee with
    | value x =>
      rw [hc] at hw
      have hx : st2.ev x = st.ev x := hop x (by simp [Op.operands, Call.operands, hc])
      simp only [hx] at hw ⊢
      split at hw
      case h_2 => exact hw.elim
      case h_1 _ f caps hf =>
        split at hw
        case h_2 => exact hw.elim
        case h_1 _ ctr hctr =>
          rw [argL_mono ha]
          generalize hLl : lentBy st (st.argL cl caps) ctr.lend = Ll at hw
          generalize hLm : lentBy st (st.argL cl caps) ctr.move = Lm at hw
          have hw2 := hw
          have hgood : ((restOf (ctr.lend ++ ctr.move) 0 (st.argL cl caps)).all fun y => (y.share st.hp).good) = true ∧ ((Ll ++ Lm).all fun i => (lk i st.hp).isSome) = true := by
            generalize ctr.wri d (argsR st.hp (pairs 1000000 Ll ++ pairs 900000 Lm) (ctr.lend ++ ctr.move) 0 (st.argL cl caps)) (obsR st.hp (pairs 1000000 Ll ++ pairs 900000 Lm)) = q at hw2
            obtain ⟨q1, q2, q3, q4⟩ := q
            unfold St.thrC at hw2
            exact ⟨hw2.2.2.1, hw2.2.2.2.2.1⟩
          have hsL : ∀ i ∈ Ll ++ Lm, (lk i st.hp).isSome = true := fun i hi => List.all_eq_true.1 hgood.2 i hi
          rw [lentBy_mono hh hLl (fun i hi => hsL i (List.mem_append_left _ hi)), lentBy_mono hh hLm (fun i hi => hsL i (List.mem_append_right _ hi)), argsR_mono hh hgood.1, obsR_mono hh (fun p hp => by
            rcases List.mem_append.1 hp with hp | hp
            · exact hsL _ (List.mem_append_left _ (pairs_fst _ _ p hp))
            · exact hsL _ (List.mem_append_right _ (pairs_fst _ _ p hp)))]
          generalize ctr.wri d (argsR st.hp (pairs 1000000 Ll ++ pairs 900000 Lm) (ctr.lend ++ ctr.move) 0 (st.argL cl caps)) (obsR st.hp (pairs 1000000 Ll ++ pairs 900000 Lm)) = q at hw ⊢
          obtain ⟨q1, q2, q3, q4⟩ := q
          unfold St.thrC at hw ⊢
          simp only at hw ⊢
          obtain ⟨g1, g2, g3, g4, g5, g6, g7⟩ := hw
          refine ⟨g1, fun y hy => by rw [ha y hy]; exact g2 y hy, ?_, g4, ?_, ?_, g7⟩
          · rw [List.all_eq_true] at g3 ⊢
            intro y hy
            rw [share_mono hh (g3 y hy)]; exact g3 y hy
          · rw [List.all_eq_true] at g5 ⊢
            intro i hi
            obtain ⟨ob, hob⟩ := Option.isSome_iff_exists.1 (g5 i hi)
            rw [hh _ _ hob]; rfl
          · rw [List.all_eq_true] at g6 ⊢
            intro i hi
            have := g6 i hi
            rw [Bool.and_eq_true] at this ⊢
            obtain ⟨ob, hob⟩ := Option.isSome_iff_exists.1 this.2
            exact ⟨this.1, by rw [hh _ _ hob]; rfl⟩
    | invoke r q => rw [hc] at hw; exact hw.elim
    | builtin b => rw [hc] at hw; exact hw.elim
  | _ => rw [ho] at hw; exact hw.elim
end

/-- the run: the operations 'ch' write into box c -/
def St.runT (tys : List (Nat × TyD)) (C : List (FuncId × Ctr)) (N : Nat) (ops : Array Oper) (fl : List Fp) (c : Nat) (ch : List Nat) (base : St) : List Oper → Nat → Acc → Ob → (Acc → Ob → Prop) → Prop
  | [], _, acc, cur, K => K acc cur
  | o :: l, i, acc, cur, K => if ch.contains i = true then
      ∃ d δ ob', ((base.least acc (fpAt fl i)).thr c cur).dltT C N o c d δ ob' ∧ ((fpAt fl i).lks.all fun t => (lk t (base.least acc (fpAt fl i)).fr).isSome) = true ∧ dlOk (fpAt fl i) δ ∧ St.runT tys C N ops fl c ch base l (i + 1) (acc ++ [(i, d, δ)]) ob' K
    else ∃ d δ, (base.least acc (fpAt fl i)).dlt tys C N ops o d δ ∧ ((fpAt fl i).lks.all fun t => (lk t (base.least acc (fpAt fl i)).fr).isSome) = true ∧ dlOk (fpAt fl i) δ ∧ St.runT tys C N ops fl c ch base l (i + 1) (acc ++ [(i, d, δ)]) cur K

/-- what operation k, at place i, does -/
def doesT (tys : List (Nat × TyD)) (C : List (FuncId × Ctr)) (N : Nat) (ops : Array Oper) (fl : List Fp) (c : Nat) (ch : List Nat) (base : St) (o : Oper) (i : Nat) (acc : Acc) (d : Nat) (δ : Dl) (cur nxt : Ob) : Prop :=
  ((fpAt fl i).lks.all fun t => (lk t (base.least acc (fpAt fl i)).fr).isSome) = true ∧ dlOk (fpAt fl i) δ ∧
  (if ch.contains i = true then ((base.least acc (fpAt fl i)).thr c cur).dltT C N o c d δ nxt else (base.least acc (fpAt fl i)).dlt tys C N ops o d δ ∧ nxt = cur)

theorem runT_acc {tys : List (Nat × TyD)} {C : List (FuncId × Ctr)} {N : Nat} {ops : Array Oper} {fl : List Fp} {c : Nat} {ch : List Nat} {base : St} {K : Acc → Ob → Prop} : ∀ (l : List Oper) (i : Nat) (acc : Acc) (cur : Ob), St.runT tys C N ops fl c ch base l i acc cur K →
    ∃ (F : Nat → Nat × Dl) (T : Nat → Ob), T 0 = cur ∧ K (acc ++ (List.range l.length).map fun k => (i + k, F k)) (T l.length) ∧ ∀ k o, l[k]? = some o →
      doesT tys C N ops fl c ch base o (i + k) (acc ++ (List.range k).map fun q => (i + q, F q)) (F k).1 (F k).2 (T k) (T (k + 1))
  | [], i, acc, cur, h => ⟨fun _ => (0, ⟨.junk, [], []⟩), fun _ => cur, rfl, by simp only [List.length_nil, List.range_zero, List.map_nil, List.append_nil]; exact h, by simp⟩
  | o :: l, i, acc, cur, h => by
    have h' : ∃ d δ nxt, doesT tys C N ops fl c ch base o i acc d δ cur nxt ∧ St.runT tys C N ops fl c ch base l (i + 1) (acc ++ [(i, d, δ)]) nxt K := by
      unfold St.runT at h
      split at h
      · rename_i hc
        obtain ⟨d, δ, ob', h1, h2, h3, h4⟩ := h
        exact ⟨d, δ, ob', ⟨h2, h3, by rw [if_pos hc]; exact h1⟩, h4⟩
      · rename_i hc
        obtain ⟨d, δ, h1, h2, h3, h4⟩ := h
        exact ⟨d, δ, cur, ⟨h2, h3, by rw [if_neg hc]; exact ⟨h1, rfl⟩⟩, h4⟩
    obtain ⟨d, δ, nxt, h1, h4⟩ := h'
    obtain ⟨F, T, h0, h5, h6⟩ := runT_acc l (i + 1) _ _ h4
    have e : ∀ n, acc ++ [(i, d, δ)] ++ (List.range n).map (fun k => (i + 1 + k, F k)) = acc ++ (List.range (n + 1)).map (fun k => (i + k, (fun k => match k with | 0 => (d, δ) | k + 1 => F k : Nat → Nat × Dl) k)) := fun n => by
      rw [List.append_assoc]
      congr 1
      rw [List.range_succ_eq_map, List.map_cons, List.map_map]
      simp only [List.cons_append, List.nil_append, Nat.add_zero]
      congr 1
      exact List.map_congr_left fun k _ => by simp only [Function.comp_apply, Nat.succ_eq_add_one]; congr 1; omega
    refine ⟨fun k => match k with | 0 => (d, δ) | k + 1 => F k, fun k => match k with | 0 => cur | k + 1 => T k, rfl, ?_, fun k q hq => ?_⟩
    · rw [List.length_cons, ← e]; exact h5
    · cases k with
      | zero =>
        simp at hq
        subst hq
        simp only [List.range_zero, List.map_nil, List.append_nil, Nat.add_zero]
        rw [h0]; exact h1
      | succ k =>
        have := h6 k q (by simpa using hq)
        rw [e] at this
        have ei : i + 1 + k = i + (k + 1) := by omega
        rw [ei] at this
        exact this

/-- the same, carried on -/
def St.thrK (st : St) (cl : Call) (ctr : Ctr) (c d : Nat) (A : List SV) (Ll Lm : List Nat) (q : Prop × SV × List (Nat × Ob) × List (Nat × Ob)) (K : Nat → Dl → Ob → Prop) : Prop :=
  match q with
  | (ob, res, robs, [(k, ob')]) => ob ∧ (∀ y ∈ cl.args.toList, (st.ev y).need) ∧ ((restOf (ctr.lend ++ ctr.move) 0 A).all fun y => (y.share st.hp).good) = true ∧
    nodupN (Ll ++ Lm) = true ∧ ((Ll ++ Lm).all fun i => (lk i st.hp).isSome) = true ∧ (((restOf (ctr.lend ++ ctr.move) 0 A).flatMap SV.owns).all fun i => !(Ll ++ Lm).contains i && (lk i st.hp).isSome) = true ∧ Lm.length ≤ 100000 ∧
    (Lm.all fun i => decide (i < 1000000)) = true ∧ ((robs.map (·.1)).all fun i => decide (i < 900000) && !Ll.contains i) = true ∧ nodupN (robs.map (·.1)) = true ∧ ([k] = (pairs 1000000 Ll).map (·.2)) ∧
    (((restOf (ctr.lend ++ ctr.move) 0 A).flatMap SV.owns) = [] ∨ (res.isV2 = true ∧ ∀ p ∈ robs ++ [(k, ob')], p.2.isV)) ∧
    ctr.isL = true ∧ Ll = [c] ∧ unObs (backL (pairs 1000000 Ll) robs) [(k, ob')] = [(c, ob')] ∧ (unObs (backL (pairs 1000000 Ll) robs) robs).map (·.1) = robs.map (·.1) ∧ pureBox ob' = true ∧
    K d ⟨res.up (SV.ren1 (backL (pairs 1000000 Ll) robs)), unObs (backL (pairs 1000000 Ll) robs) robs, Lm⟩ ob'
  | _ => False
def St.dltTK (C : List (FuncId × Ctr)) (N : Nat) (o : Oper) (st : St) (c : Nat) (K : Nat → Dl → Ob → Prop) : Prop :=
  match o.dst with
  | none => False
  | some d => o.guard.isNone = true ∧ dstOk N o.dst = true ∧
  match o.op with
  | .call cl => match cl.callee with
    | .value x => match st.ev x with
      | .fn f caps => match lk f C with
        | some ctr => st.thrK cl ctr c d (st.argL cl caps) (lentBy st (st.argL cl caps) ctr.lend) (lentBy st (st.argL cl caps) ctr.move)
            (ctr.wri d (argsR st.hp (pairs 1000000 (lentBy st (st.argL cl caps) ctr.lend) ++ pairs 900000 (lentBy st (st.argL cl caps) ctr.move)) (ctr.lend ++ ctr.move) 0 (st.argL cl caps)) (obsR st.hp (pairs 1000000 (lentBy st (st.argL cl caps) ctr.lend) ++ pairs 900000 (lentBy st (st.argL cl caps) ctr.move)))) K
        | none => False
      | _ => False
    | _ => False
  | _ => False
theorem dltTK_ex {C : List (FuncId × Ctr)} {N : Nat} {o : Oper} {st : St} {c : Nat} {K : Nat → Dl → Ob → Prop} (h : st.dltTK C N o c K) : ∃ d δ ob', st.dltT C N o c d δ ob' ∧ K d δ ob' := by
  unfold St.dltTK at h
  cases hod : o.dst with
  | none => rw [hod] at h; exact h.elim
  | some d =>
  rw [hod] at h
  simp only at h
  obtain ⟨hgd, hd, h⟩ := h
  rw [← hod] at hd
  cases ho : o.op with
  | call cl =>
    rw [ho] at h
    simp only at h
    cases hc : cl.callee with
    | value x =>
      rw [hc] at h
      simp only at h
      generalize hx : st.ev x = y at h
      split at h
      case h_2 => exact h.elim
      case h_1 f caps =>
        generalize hf : lk f C = z at h
        split at h
        case h_2 => exact h.elim
        case h_1 ctr =>
          generalize hLl : lentBy st (st.argL cl caps) ctr.lend = Ll at h
          generalize hLm : lentBy st (st.argL cl caps) ctr.move = Lm at h
          generalize hq : ctr.wri d (argsR st.hp (pairs 1000000 Ll ++ pairs 900000 Lm) (ctr.lend ++ ctr.move) 0 (st.argL cl caps)) (obsR st.hp (pairs 1000000 Ll ++ pairs 900000 Lm)) = q at h
          unfold St.thrK at h
          split at h
          case h_2 => exact h.elim
          case h_1 q1 q2 q3 k ob' =>
            obtain ⟨g1, g2, g3, g4, g5, g6, g7, g8, g9, g10, g11, g12, g13, g14, g15, g16, g17, g18⟩ := h
            refine ⟨d, _, ob', ⟨hod, hgd, hd, ?_⟩, g18⟩
            rw [ho]
            simp only [hc, hx, hf, hLl, hLm, hq]
            unfold St.thrC
            simp only
            exact ⟨g1, g2, g3, g4, g5, g6, g7, g8, g9, g10, g11, g12, g13, g14, by first | trivial | rfl, by first | trivial | rfl, by unfold unObs at g15 ⊢; rw [List.map_append, g15], g16, g17⟩
    | invoke r q => rw [hc] at h; exact h.elim
    | builtin b => rw [hc] at h; exact h.elim
  | _ => rw [ho] at h; exact h.elim
def St.runTG (tys : List (Nat × TyD)) (C : List (FuncId × Ctr)) (N : Nat) (ops : Array Oper) (fl : List Fp) (c : Nat) (ch : List Nat) (base : St) : List Oper → Nat → Acc → Ob → (Acc → Ob → Prop) → Prop
  | [], _, acc, cur, K => K acc cur
  | o :: l, i, acc, cur, K => if ch.contains i = true then
      ((base.least acc (fpAt fl i)).thr c cur).dltTK C N o c fun d δ ob' => ((fpAt fl i).lks.all fun t => (lk t (base.least acc (fpAt fl i)).fr).isSome) = true ∧ dlOk (fpAt fl i) δ ∧ St.runTG tys C N ops fl c ch base l (i + 1) (acc ++ [(i, d, δ)]) ob' K
    else (base.least acc (fpAt fl i)).dltK tys C N ops o fun d δ => ((fpAt fl i).lks.all fun t => (lk t (base.least acc (fpAt fl i)).fr).isSome) = true ∧ dlOk (fpAt fl i) δ ∧ St.runTG tys C N ops fl c ch base l (i + 1) (acc ++ [(i, d, δ)]) cur K
theorem runT_of_runTG {tys : List (Nat × TyD)} {C : List (FuncId × Ctr)} {N : Nat} {ops : Array Oper} {fl : List Fp} {c : Nat} {ch : List Nat} {base : St} {K : Acc → Ob → Prop} : ∀ (l : List Oper) (i : Nat) (acc : Acc) (cur : Ob), St.runTG tys C N ops fl c ch base l i acc cur K → St.runT tys C N ops fl c ch base l i acc cur K
  | [], _, _, _, h => h
  | o :: l, i, acc, cur, h => by
    unfold St.runTG at h
    unfold St.runT
    split at h
    · rename_i hc
      rw [if_pos hc]
      obtain ⟨d, δ, ob', h1, h2, h3, h4⟩ := dltTK_ex h
      exact ⟨d, δ, ob', h1, h2, h3, runT_of_runTG l (i + 1) _ _ h4⟩
    · rename_i hc
      rw [if_neg hc]
      obtain ⟨d, δ, h1, h2, h3, h4⟩ := dltK_ex h
      exact ⟨d, δ, h1, h2, h3, runT_of_runTG l (i + 1) _ _ h4⟩

/-- the thread's operations come one behind the other, and none makes or ends its box -/
def threadB (m : Nat) (fl : List Fp) (c : Nat) (ch : List Nat) : Bool :=
  ((List.range m).all fun j => (List.range j).all fun i => !(ch.contains i && ch.contains j) || (fpAt fl j).anc.contains i) &&
  ((List.range m).all fun k => !(fpAt fl k).mks.contains c && !(fpAt fl k).gn.contains c)
theorem lk_offO {st : St} {c : Nat} : lk c (st.offO c).hp = none := lk_er_self c st.hp
def St.has1 (st : St) (c : Nat) (K : Ob → Prop) : Prop := match lk c st.hp with
  | some ob => K ob
  | none => False

section
variable {c : Cx} {N : Nat} {X0 : Nat → Prop} {M : Nat → Value → Prop} {w0 : World} {K : Exit → St → Prop}
theorem flow_headT {cc : Nat} {ch : List Nat} {T : Nat → Ob} (hAp : Ap c.P X0 M w0) {ops : Array Oper} {m : Nat} {fl : List Fp} (hB : FlowOk ops m fl) {base : St} {F : Nat → Nat × Dl} {gs : List Nat}
    (hF : ∀ k o, k < m → ops[k]? = some o → doesT c.tys c.C N ops fl cc ch base o k ((List.range k).map fun q => (q, F q)) (F k).1 (F k).2 (T k) (T (k + 1)))
    (hch : ∀ i j, i < m → j < m → ch.contains i = true → ch.contains j = true → i < j → i ∈ (fpAt fl j).anc) (hcm : ∀ k, k < m → cc ∉ (fpAt fl k).mks ∧ cc ∉ (fpAt fl k).gn) (hT : ∀ i, i ≤ m → pureBox (T i) = true) (hbc : lk cc base.hp = none)
    (hb1 : ∀ t x, lk t base.fr = some x → (∀ k, k < m → dstAt ops k ≠ some t) ∧ ∀ k, k < m → ∀ d ∈ (fpAt fl k).mks, x.kill d = x)
    (hb2 : ∀ id ob, lk id base.hp = some ob → ∀ k, k < m → ∀ d ∈ (fpAt fl k).mks, d ≠ id ∧ ob.kill d = ob) (hgs : ∀ k, k < m → ∀ d ∈ (fpAt fl k).gn, d ∈ gs)
    (hr : St.runR c.tys c.C N ops (ops.toList.drop m) ((base.final ((List.range m).map fun q => (q, F q)) gs).thr cc (T m)) (K .normal)) : ∀ (fuel : Nat) (listed : Array Bool) (st' : St) (β : Nat → Value) (a : Act) (w : World), listed.size = ops.size →
    (∀ j, m ≤ j → j < ops.size → listed.getD j false = false) → fuel = (List.range ops.size).countP (fun j => !listed.getD j false) → Closed fl ops.size listed → Sim N X0 M w0 st' β a w →
    (∀ t x, lk t base.fr = some x → (∀ d, (∃ j, j < m ∧ listed.getD j false = true ∧ d ∈ (fpAt fl j).gn) → x.kill d = x) → lk t st'.fr = some x) →
    (∀ k, k < m → listed.getD k false = true → (∀ d, (∃ j, j < m ∧ listed.getD j false = true ∧ d ∈ (fpAt fl j).gn) → (F k).2.x.kill d = (F k).2.x) → lk (F k).1 st'.fr = some (F k).2.x) →
    (∀ id ob, lk id base.hp = some ob → (∀ d, (∃ j, j < m ∧ listed.getD j false = true ∧ d ∈ (fpAt fl j).gn) → d ≠ id ∧ ob.kill d = ob) → lk id st'.hp = some ob) →
    (∀ k, k < m → listed.getD k false = true → ∀ id ob, lk id (F k).2.made = some ob → (∀ d, (∃ j, j < m ∧ listed.getD j false = true ∧ d ∈ (fpAt fl j).gn) → d ≠ id ∧ ob.kill d = ob) → lk id st'.hp = some ob) →
    (∀ p, p ≤ m → (∀ j, ch.contains j = true → j < m → (listed.getD j false = true ↔ j < p)) → lk cc st'.hp = some (T p)) →
    wpAny c.P .any ops (fun e a' w' => Ok N X0 M w0 (K e) a' w') fuel listed a w := by
  have hdst : ∀ k, k < m → dstAt ops k = some (F k).1 := fun k hk => by
    have hks : k < ops.size := by have := hB.le; omega
    have ho : ops[k]? = some (ops[k]'hks) := Array.getElem?_eq_getElem hks
    have := (hF k _ hk ho).2.2
    unfold dstAt
    rw [ho]
    split at this
    · exact this.1
    · exact this.1.1
  -- where all of the first m have come up
  have hlast : ∀ (fuel : Nat) (listed : Array Bool) (st' : St) (β : Nat → Value) (a : Act) (w : World), m + fuel = ops.size → listed.size = ops.size → Closed fl ops.size listed → (∀ j, j < ops.size → listed.getD j false = decide (j < m)) → Sim N X0 M w0 st' β a w →
      (∀ t x, lk t base.fr = some x → (∀ d, (∃ j, j < m ∧ listed.getD j false = true ∧ d ∈ (fpAt fl j).gn) → x.kill d = x) → lk t st'.fr = some x) →
      (∀ k, k < m → listed.getD k false = true → (∀ d, (∃ j, j < m ∧ listed.getD j false = true ∧ d ∈ (fpAt fl j).gn) → (F k).2.x.kill d = (F k).2.x) → lk (F k).1 st'.fr = some (F k).2.x) →
      (∀ id ob, lk id base.hp = some ob → (∀ d, (∃ j, j < m ∧ listed.getD j false = true ∧ d ∈ (fpAt fl j).gn) → d ≠ id ∧ ob.kill d = ob) → lk id st'.hp = some ob) →
      (∀ k, k < m → listed.getD k false = true → ∀ id ob, lk id (F k).2.made = some ob → (∀ d, (∃ j, j < m ∧ listed.getD j false = true ∧ d ∈ (fpAt fl j).gn) → d ≠ id ∧ ob.kill d = ob) → lk id st'.hp = some ob) →
      (∀ p, p ≤ m → (∀ j, ch.contains j = true → j < m → (listed.getD j false = true ↔ j < p)) → lk cc st'.hp = some (T p)) →
      wpAny c.P .any ops (fun e a' w' => Ok N X0 M w0 (K e) a' w') fuel listed a w := by
    intro fuel listed st' β a w hfu hsz hcl hl hs I1 I2 I3 I4 I5
    refine flow_tail (c := c) hAp hB fuel m listed _ β a w hfu (Nat.le_refl _) hsz hcl hl (hs.less (st' := (base.final ((List.range m).map fun q => (q, F q)) gs).thr cc (T m)) (fun t x hx => ?_) (fun id ob hx => ?_)) hr
    · obtain ⟨h1, h2⟩ := hide_fr hx
      have hG : ∀ d, (∃ j, j < m ∧ listed.getD j false = true ∧ d ∈ (fpAt fl j).gn) → x.kill d = x := fun d ⟨j, hj, _, hd⟩ => h2 d (hgs j hj d hd)
      rcases lk_app h1 with h1 | h1
      · have hm := lk_mem h1
        simp only [List.map_map, List.mem_map, List.mem_range, Function.comp_apply] at hm
        obtain ⟨k, hk, e⟩ := hm
        injection e with e1 e2
        subst e1 e2
        exact I2 k hk (by rw [hl k (by have := hB.le; omega)]; simpa using hk) hG
      · exact I1 t x h1 hG
    · simp only [St.thr, lk] at hx
      by_cases hcc : id = cc
      · rw [if_pos hcc] at hx
        rw [hcc, ← hx]
        exact I5 m (Nat.le_refl _) fun j _ hj => by rw [hl j (by have := hB.le; omega)]; simp
      rw [if_neg hcc] at hx
      obtain ⟨h1, h2⟩ := hide_hp hx
      have hG : ∀ d, (∃ j, j < m ∧ listed.getD j false = true ∧ d ∈ (fpAt fl j).gn) → d ≠ id ∧ ob.kill d = ob := fun d ⟨j, hj, _, hd⟩ => h2 d (hgs j hj d hd)
      rcases lk_app h1 with h1 | h1
      · obtain ⟨e, he, h3⟩ := lk_flatMap h1
        obtain ⟨k, hk, rfl⟩ := List.mem_map.1 he
        have hk := List.mem_range.1 hk
        exact I4 k hk (by rw [hl k (by have := hB.le; omega)]; simpa using hk) id ob h3 hG
      · exact I3 id ob h1 hG
  intro fuel
  induction fuel with
  | zero =>
    intro listed st' β a w hsz hsuf hf hcl hs I1 I2 I3 I4 I5
    have hall : ∀ j, j < ops.size → listed.getD j false = true := fun j hj => by
      have : (List.range ops.size).countP (fun j => !listed.getD j false) = 0 := hf.symm
      rw [List.countP_eq_zero] at this
      have := this j (List.mem_range.2 hj)
      simpa using this
    have hm : m = ops.size := by
      rcases Nat.lt_or_ge m ops.size with h | h
      · have := hall m h; rw [hsuf m (Nat.le_refl _) h] at this; cases this
      · have := hB.le; omega
    exact hlast 0 listed st' β a w (by omega) hsz hcl (fun j hj => by rw [hall j hj]; simp; omega) hs I1 I2 I3 I4 I5
  | succ fuel ih =>
    intro listed st' β a w hsz hsuf hf hcl hs I1 I2 I3 I4 I5
    have hgT : ∀ j, j < ops.size → listed.getD j true = listed.getD j false := fun j hj => by
      rw [Array.getD_eq_getD_getElem?, Array.getD_eq_getD_getElem?, Array.getElem?_eq_getElem (by omega)]; rfl
    have hex : ∃ p, p < ops.size ∧ listed.getD p false = false := by
      have h1 : 0 < (List.range ops.size).countP (fun j => !listed.getD j false) := by omega
      obtain ⟨p, hp, hq⟩ := List.countP_pos_iff.1 h1
      exact ⟨p, List.mem_range.1 hp, by simpa using hq⟩
    obtain ⟨p, ⟨hp, hpf⟩, hmin⟩ := least hex
    have hrdy : p ∈ Region.ready .any ops listed := mem_ready'.2 ⟨hp, by rw [hgT p hp]; exact hpf, _, Array.getElem?_eq_getElem hp, deps_ready (i := p) (ops := ops) fun e he => by
      have hlt := hB.back p _ (Array.getElem?_eq_getElem hp) e he
      cases hh : listed.getD e false with
      | true => rfl
      | false => have := hmin e ⟨by omega, hh⟩; omega⟩
    have hwhole : (∀ j, j < m → listed.getD j false = true) → wpAny c.P .any ops (fun e a' w' => Ok N X0 M w0 (K e) a' w') (fuel + 1) listed a w := fun hbefore => by
      have hl : ∀ j, j < ops.size → listed.getD j false = decide (j < m) := fun j hj => by
        rcases Nat.lt_or_ge j m with h | h
        · rw [hbefore j h]; simp [h]
        · rw [hsuf j h hj]; simp; omega
      have hcount : fuel + 1 = ops.size - m := by
        rw [hf]
        have : (List.range ops.size).countP (fun j => !listed.getD j false) = (List.range ops.size).countP (fun j => decide (m ≤ j)) := by
          apply List.countP_congr
          intro j hj
          rw [hl j (List.mem_range.1 hj)]
          simp
        rw [this]
        have key : ∀ n, (List.range n).countP (fun j => decide (m ≤ j)) = n - m := by
          intro n
          induction n with
          | zero => simp
          | succ n ihn =>
            rw [List.range_succ, List.countP_append, ihn]
            by_cases hh : m ≤ n
            · simp [hh]; omega
            · simp [hh]; omega
        exact key _
      exact hlast (fuel + 1) listed st' β a w (by have := hB.le; omega) hsz hcl hl hs I1 I2 I3 I4 I5
    refine ⟨fun h => (by rw [h] at hrdy; cases hrdy), fun i hi => ?_⟩
    obtain ⟨h1, h2, o, hoi, h3⟩ := mem_ready'.1 hi
    rw [hgT i h1] at h2
    rcases Nat.lt_or_ge i m with him | him
    · -- one of the first m
      obtain ⟨hlks, hok, hdoes⟩ := hF i o him hoi
      have hanc := hcl.anc hB hoi h3
      have hGx : ∀ d, (∃ j, j < m ∧ listed.getD j false = true ∧ d ∈ (fpAt fl j).gn) → d ∈ (fpAt fl i).gx := fun d ⟨j, hj, hlj, hd⟩ =>
        hB.gx i j him hj (fun e => by subst e; rw [h2] at hlj; cases hlj) (fun ha => by have := hcl j (by have := hB.le; omega) hlj i ha; rw [h2] at this; cases this) d hd
      have hWf : ∀ t x, lk t (base.least ((List.range i).map fun q => (q, F q)) (fpAt fl i)).fr = some x → lk t st'.fr = some x := fun t x hx => by
        obtain ⟨e1, e2⟩ := hide_fr hx
        have hG : ∀ d, (∃ j, j < m ∧ listed.getD j false = true ∧ d ∈ (fpAt fl j).gn) → x.kill d = x := fun d hd => e2 d (hGx d hd)
        rcases lk_app e1 with e1 | e1
        · have hm := lk_mem e1
          obtain ⟨e, he, e3⟩ := List.mem_map.1 hm
          obtain ⟨he1, he2⟩ := List.mem_filter.1 he
          obtain ⟨k, hk, rfl⟩ := List.mem_map.1 he1
          injection e3 with e4 e5
          subst e4 e5
          exact I2 k (by have := List.mem_range.1 hk; omega) (hanc k (List.contains_iff_mem.1 he2)) hG
        · exact I1 t x e1 hG
      have hWh : ∀ id ob, lk id (base.least ((List.range i).map fun q => (q, F q)) (fpAt fl i)).hp = some ob → lk id st'.hp = some ob := fun id ob hx => by
        obtain ⟨e1, e2⟩ := hide_hp hx
        have hG : ∀ d, (∃ j, j < m ∧ listed.getD j false = true ∧ d ∈ (fpAt fl j).gn) → d ≠ id ∧ ob.kill d = ob := fun d hd => e2 d (hGx d hd)
        rcases lk_app e1 with e1 | e1
        · obtain ⟨e, he, e3⟩ := lk_flatMap e1
          obtain ⟨he1, he2⟩ := List.mem_filter.1 he
          obtain ⟨k, hk, rfl⟩ := List.mem_map.1 he1
          exact I4 k (by have := List.mem_range.1 hk; omega) (hanc k (List.contains_iff_mem.1 he2)) id ob e3 hG
        · exact I3 id ob e1 hG
      have hlook : ∀ t ∈ o.looksAt ops, st'.get t = (base.least ((List.range i).map fun q => (q, F q)) (fpAt fl i)).get t := fun t ht => by
        have := List.all_eq_true.1 hlks t (hB.looks i o him hoi t ht)
        obtain ⟨x, hx⟩ := Option.isSome_iff_exists.1 this
        unfold St.get
        rw [hx, hWf t x hx]
      obtain ⟨k1, k2, k3, k4⟩ := hok
      have hids : ∀ d, d ∈ (F i).2.gone ++ (F i).2.made.map (·.1) ↔ d ∈ (fpAt fl i).mks ++ (fpAt fl i).gn := fun d => by rw [k1, k2, List.mem_append, List.mem_append]; exact or_comm
      have hids' : (F i).2.ids = (fpAt fl i).mks ++ (fpAt fl i).gn := by unfold Dl.ids; rw [k1, k2]
      have hmade : ∀ id, id ∉ (fpAt fl i).mks → lk id (F i).2.made = none := fun id hid => lk_none (by rw [k2]; exact hid)
      have havk : ∀ k, k < m → k ≠ i → listed.getD k false = true → ∀ d ∈ (fpAt fl i).mks, d ∈ (fpAt fl k).av := fun k hk hne hlk d hd =>
        hB.av k i hk him (Ne.symm hne) (fun ha => by have := hcl k (by have := hB.le; omega) hlk i ha; rw [h2] at this; cases this) d hd
      have hG' : ∀ {Q : Nat → Prop}, (∀ d, (∃ j, j < m ∧ (listed.setIfInBounds i true).getD j false = true ∧ d ∈ (fpAt fl j).gn) → Q d) → (∀ d, (∃ j, j < m ∧ listed.getD j false = true ∧ d ∈ (fpAt fl j).gn) → Q d) ∧ ∀ d ∈ (fpAt fl i).gn, Q d := fun {Q} hq =>
        ⟨fun d ⟨j, hj, hlj, hd⟩ => hq d ⟨j, hj, by rw [getD_set _ _ _ _ (by omega)]; split <;> first | rfl | exact hlj, hd⟩, fun d hd => hq d ⟨i, him, by rw [getD_set _ _ _ _ (by omega), if_pos rfl], hd⟩⟩
      have hks : ∀ k, k < m → k < ops.size := fun k hk => by have := hB.le; omega
      have hset : ∀ j, j ≠ i → (listed.setIfInBounds i true).getD j false = listed.getD j false := fun j hj => by rw [getD_set _ _ _ _ (by omega), if_neg hj]
      -- what is left of the invariants, for a state with these frames and objects
      have hstep : ∀ (st2 : St) (ids : List Nat), (∀ d, d ∈ ids → d ∈ (fpAt fl i).mks ++ (fpAt fl i).gn) → st2.fr = ((F i).1, (F i).2.x) :: er (F i).1 (st'.killL ids).fr →
          (∀ id, id ≠ cc → lk id st2.hp = (lk id (F i).2.made).or (lk id (st'.killL ids).hp)) →
          (∀ p, p ≤ m → (∀ j, ch.contains j = true → j < m → ((listed.setIfInBounds i true).getD j false = true ↔ j < p)) → lk cc st2.hp = some (T p)) →
          ∀ (β' : Nat → Value) (a' : Act) (w' : World), Sim N X0 M w0 st2 β' a' w' → wpAny c.P .any ops (fun e a' w' => Ok N X0 M w0 (K e) a' w') fuel (listed.setIfInBounds i true) a' w' := by
        intro st2 ids hidm hfr2 hhp2 hcc2 β' a' w' h5
        refine ih _ _ β' a' w' (by simpa using hsz) (fun j hj hjn => ?_) ?_ (hcl.step hB hsz hoi h3) h5 (fun t x hx hG => ?_) (fun k hk hlk hG => ?_) (fun id ob hx hG => ?_) (fun k hk hlk id ob hx hG => ?_) hcc2
        · rw [getD_set _ _ _ _ (by omega), if_neg (by omega)]; exact hsuf j hj hjn
        · have := count_set hsz h1 h2; omega
        · obtain ⟨g1, g2⟩ := hG' hG
          obtain ⟨q1, q2⟩ := hb1 t x hx
          have hne : t ≠ (F i).1 := fun e => q1 i him (by rw [hdst i him, e])
          rw [hfr2]
          simp only [lk, if_neg hne, lk_er_ne hne]
          refine killL_keep (fun d hd => ?_) (I1 t x hx g1)
          rcases List.mem_append.1 (hidm d hd) with h | h
          · exact q2 i him d h
          · exact g2 d h
        · obtain ⟨g1, g2⟩ := hG' hG
          rw [hfr2]
          by_cases hki : k = i
          · subst hki; simp [lk]
          · rw [hset k hki] at hlk
            have hne : (F k).1 ≠ (F i).1 := fun e => hB.apart i k him hk (Ne.symm hki) (by rw [hdst i him, hdst k hk, e])
            simp only [lk, if_neg hne, lk_er_ne hne]
            refine killL_keep (fun d hd => ?_) (I2 k hk hlk g1)
            rcases List.mem_append.1 (hidm d hd) with h | h
            · exact refs_kill (havk k hk hki hlk d h) (hF k _ hk (Array.getElem?_eq_getElem (hks k hk))).2.1.2.2.1
            · exact g2 d h
        · obtain ⟨g1, g2⟩ := hG' hG
          have q := hb2 id ob hx i him
          have hnm : id ∉ (fpAt fl i).mks := fun hin => (q id hin).1 rfl
          have hnc : id ≠ cc := fun e => by rw [e, hbc] at hx; cases hx
          rw [hhp2 id hnc, hmade id hnm]
          refine killL_keepO (fun d hd => ?_) (I3 id ob hx g1)
          rcases List.mem_append.1 (hidm d hd) with h | h
          · exact q d h
          · exact g2 d h
        · obtain ⟨g1, g2⟩ := hG' hG
          have hidk : id ∈ (fpAt fl k).mks := by rw [← (hF k _ hk (Array.getElem?_eq_getElem (hks k hk))).2.1.2.1]; exact List.mem_map.2 ⟨(id, ob), lk_mem hx, rfl⟩
          have hnc : id ≠ cc := fun e => (hcm k hk).1 (e ▸ hidk)
          rw [hhp2 id hnc]
          by_cases hki : k = i
          · subst hki; rw [hx]; rfl
          · rw [hset k hki] at hlk
            have hokk := (hF k _ hk (Array.getElem?_eq_getElem (hks k hk))).2.1
            have hnm : id ∉ (fpAt fl i).mks := hB.mks i k him hk hki id hidk
            rw [hmade id hnm]
            refine killL_keepO (fun d hd => ?_) (I4 k hk hlk id ob hx g1)
            rcases List.mem_append.1 (hidm d hd) with h | h
            · refine ⟨fun e => hnm (e ▸ h), Ob.refs_kill (havk k hk hki hlk d h) ?_⟩
              have := List.all_eq_true.1 hokk.2.2.2 (id, ob) (lk_mem hx)
              simpa using this
            · exact g2 d h
      by_cases hci : ch.contains i = true
      · rw [if_pos hci] at hdoes
        have hbefore : ∀ j, ch.contains j = true → j < m → (listed.getD j false = true ↔ j < i) := fun j hj hjm => by
          constructor
          · intro hlj
            rcases Nat.lt_trichotomy j i with h | h | h
            · exact h
            · subst h; rw [h2] at hlj; cases hlj
            · have := hcl j (hks j hjm) hlj i (hch i j him hjm hci hj h)
              rw [h2] at this; cases this
          · intro h; exact hanc j (hch j i hjm him hj hci h)
        have hI := I5 i (by omega) hbefore
        have hd' : st'.dltT c.C N o cc (F i).1 (F i).2 (T (i + 1)) := dltT_mono (ops := ops) (st := (base.least ((List.range i).map fun q => (q, F q)) (fpAt fl i)).thr cc (T i)) (fun t ht => hlook t ht) (fun id ob hx => by
          simp only [St.thr, lk] at hx
          by_cases he : id = cc
          · rw [if_pos he] at hx; rw [he, ← hx]; exact hI
          · rw [if_neg he] at hx; exact hWh id ob hx) hdoes
        obtain ⟨hwant, hst⟩ := dltT_sound (Q := fun e a' w' => Ok N X0 M w0 (K e) a' w') hAp c.hC hs (ops := ops) hd'
        have hconst : ∀ n, i + 1 + n ≤ m → (∀ j, ch.contains j = true → i < j → j < i + 1 + n → False) → T (i + 1 + n) = T (i + 1) := by
          intro n
          induction n with
          | zero => intro _ _; rfl
          | succ n ihn =>
            intro hle hno
            have h4 : ¬ ch.contains (i + 1 + n) = true := fun h => hno _ h (by omega) (by omega)
            have h5 := (hF (i + 1 + n) _ (by omega) (Array.getElem?_eq_getElem (hks _ (by omega)))).2.2
            rw [if_neg h4] at h5
            show T (i + 1 + n + 1) = _
            rw [h5.2]
            exact ihn (by omega) fun j hj h6 h7 => hno j hj h6 (by omega)
        have hnext : ∀ a' w', Ok N X0 M w0 (fun st2 => st2 = st'.dappT (F i).1 (F i).2 cc (T (i + 1))) a' w' → wpAny c.P .any ops (fun e a' w' => Ok N X0 M w0 (K e) a' w') fuel (listed.setIfInBounds i true) a' w' := fun a' w' hk => by
          obtain ⟨st2, β', rfl, h5⟩ := hk
          refine hstep _ ((F i).2.gone ++ (F i).2.made.map (·.1)) (fun d hd => (hids d).1 hd) rfl (fun id hne => ?_) (fun p hp hlp => ?_) β' a' w' h5
          · simp only [St.dappT, lk, if_neg hne]
            rw [lk_append, lk_er_ne hne]
          · simp only [St.dappT, lk, if_true]
            have hip : i < p := (hlp i hci him).1 (by rw [getD_set _ _ _ _ (by omega), if_pos rfl])
            have := hconst (p - (i + 1)) (by omega) fun j hj h6 h7 => by
              have h8 := (hlp j hj (by omega)).2 (by omega)
              rw [hset j (by omega)] at h8
              have := (hbefore j hj (by omega)).1 h8
              omega
            rw [show i + 1 + (p - (i + 1)) = p by omega] at this
            rw [this]
        unfold wpOp
        rw [hoi]
        simp only
        rw [if_pos hwant]
        exact .inl (Oper.wp_mono hnext hst)
      · rw [if_neg hci] at hdoes
        have hd' : st'.dlt c.tys c.C N ops o (F i).1 (F i).2 := dlt_mono (fun t ht => hlook t ht) hWh hdoes.1
        have hst := dlt_sound (Q := fun e a' w' => Ok N X0 M w0 (K e) a' w') hAp c.hty c.hC hs (ops := ops) hd'
        have hnext : ∀ a' w', Ok N X0 M w0 (fun st2 => st2 = st'.dapp (F i).1 (F i).2) a' w' → wpAny c.P .any ops (fun e a' w' => Ok N X0 M w0 (K e) a' w') fuel (listed.setIfInBounds i true) a' w' := fun a' w' hk => by
          obtain ⟨st2, β', rfl, h5⟩ := hk
          refine hstep _ (F i).2.ids (fun d hd => by rw [hids'] at hd; exact hd) rfl (fun id hne => ?_) (fun p hp hlp => ?_) β' a' w' h5
          · simp only [St.dapp]
            rw [lk_append]
          · have h6 := I5 p hp fun j hj hjm => by
              have hji : j ≠ i := fun e => hci (e ▸ hj)
              rw [← hset j hji]; exact hlp j hj hjm
            simp only [St.dapp]
            rw [lk_append, hmade cc (hcm i him).1]
            refine killL_keepO (fun d hd => ?_) h6
            rw [hids'] at hd
            refine ⟨fun e => ?_, pureBox_kill (hT p hp) d⟩
            subst e
            rcases List.mem_append.1 hd with h | h
            · exact (hcm i him).1 h
            · exact (hcm i him).2 h
        unfold wpOp
        rw [hoi]
        simp only
        split
        · rename_i hw; rw [if_pos hw] at hst; exact .inl (Oper.wp_mono hnext hst)
        · rename_i hw; rw [if_neg hw] at hst; exact hnext _ _ hst
    · -- all of the first m have come up
      exact (hwhole fun j hj => hcl.anc hB hoi h3 j (hB.tail i o him hoi j (by omega))).2 i hi


theorem WP.flowT {id : Nat} {l : List Oper} {st : St} (cc : Nat) (ch : List Nat) (zs : List Nat) (m : Nat) (fl : List Fp) (ds mks gs : List Nat) (hB : flowB l.toArray m fl = true) (hth : threadB m fl cc ch = true)
    (hD : ((List.range m).all fun k => match dstAt l.toArray k with | some d => ds.contains d | none => false) = true)
    (hM : ((List.range m).all fun k => ((fpAt fl k).mks.all fun d => mks.contains d) && ((fpAt fl k).gn.all fun d => gs.contains d)) = true) (hm : c.P.follows .mixedOrders = true)
    (h : ((st.fzS zs).clean ds mks).has1 cc fun cur => pureBox cur = true ∧ St.runTG c.tys c.C N l.toArray fl cc ch (((st.fzS zs).clean ds mks).offO cc) (l.take m) 0 [] cur fun acc nxt => St.runR c.tys c.C N l.toArray (l.drop m) (((((st.fzS zs).clean ds mks).offO cc).final acc gs).thr cc nxt) (K .normal)) : WP c N X0 M w0 (.region id l.toArray true) st K := by
  intro hA β a w hs0
  have hs := Sim.fzS hA zs hs0
  generalize st.fzS zs = st at hs h
  have hD0 := flowB_ok hB
  unfold St.has1 at h
  split at h
  case h_2 => exact h.elim
  case h_1 _ cur hcur =>
  obtain ⟨hpc, h⟩ := h
  obtain ⟨F, T, hT0, h1, h2⟩ := runT_acc _ _ _ _ (runT_of_runTG _ _ _ _ h)
  have hlen : (l.take m).length = m := by
    have := hD0.le
    simp at this ⊢
    omega
  rw [hlen] at h1
  simp only [List.nil_append, Nat.zero_add] at h1 h2
  unfold threadB at hth
  rw [Bool.and_eq_true, List.all_eq_true, List.all_eq_true] at hth
  have hch : ∀ i j, i < m → j < m → ch.contains i = true → ch.contains j = true → i < j → i ∈ (fpAt fl j).anc := fun i j hi hj hci hcj hij => by
    have := List.all_eq_true.1 (hth.1 j (List.mem_range.2 hj)) i (List.mem_range.2 hij)
    rw [hci, hcj] at this
    exact List.contains_iff_mem.1 (by simpa using this)
  have hcm : ∀ k, k < m → cc ∉ (fpAt fl k).mks ∧ cc ∉ (fpAt fl k).gn := fun k hk => by
    have := hth.2 k (List.mem_range.2 hk)
    simpa using this
  have hm0 : m ≤ l.toArray.size := hD0.le
  have hTp : ∀ i, i ≤ m → pureBox (T i) = true := by
    intro i
    induction i with
    | zero => intro _; rw [hT0]; exact hpc
    | succ i ih =>
      intro hi
      have h3 := h2 i (l[i]'(by simp at hm0; omega)) (by rw [List.getElem?_take_of_lt (by omega)]; exact List.getElem?_eq_getElem _)
      have h4 := h3.2.2
      split at h4
      · obtain ⟨_, _, _, h5⟩ := h4
        split at h5
        case h_2 => exact h5.elim
        split at h5
        case h_2 => exact h5.elim
        split at h5
        case h_2 => exact h5.elim
        split at h5
        case h_2 => exact h5.elim
        unfold St.thrC at h5
        exact h5.2.2.2.2.2.2.2.2.2.2.2.2.2.2.2.2.2.2
      · rw [h4.2]; exact ih (by omega)
  have hofh : ∀ t x, lk t ((st.clean ds mks).offO cc).hp = some x → lk t (st.clean ds mks).hp = some x := fun t x hx => by
    by_cases he : t = cc
    · rw [he, lk_offO] at hx; cases hx
    · have hx' : lk t (er cc (st.clean ds mks).hp) = some x := hx
      rwa [lk_er_ne he] at hx'
  have hcl0 : ∀ t x, lk t (st.clean ds mks).fr = some x → lk t st.fr = some x ∧ t ∉ ds ∧ ∀ d ∈ mks, x.kill d = x := fun t x hx => by
    obtain ⟨e1, e2⟩ := hide_fr hx
    obtain ⟨e3, e4⟩ := offK_lk e1
    exact ⟨e3, e4, e2⟩
  have hMk : ∀ k, k < m → (∀ d ∈ (fpAt fl k).mks, d ∈ mks) ∧ ∀ d ∈ (fpAt fl k).gn, d ∈ gs := fun k hk => by
    have := List.all_eq_true.1 hM k (List.mem_range.2 hk)
    simp only [Bool.and_eq_true, List.all_eq_true] at this
    exact ⟨fun d hd => List.contains_iff_mem.1 (this.1 d hd), fun d hd => List.contains_iff_mem.1 (this.2 d hd)⟩
  refine wp_region_any hm ?_
  refine (flow_headT (c := c) (K := K) (cc := cc) (ch := ch) (T := T) hA hD0 (base := (st.clean ds mks).offO cc) (F := F) (gs := gs) (fun k o hk ho => ?_) hch hcm hTp lk_offO (fun t x hx => ⟨fun k hk e => ?_, fun k hk d hd => (hcl0 t x hx).2.2 d ((hMk k hk).1 d hd)⟩) (fun t ob hx k hk d hd => (hide_hp (hofh t ob hx)).2 d ((hMk k hk).1 d hd)) (fun k hk => (hMk k hk).2) ?_
    l.toArray.size (Array.replicate l.toArray.size false) (st.clean ds mks) β a _ (by simp) (fun j _ hj => ?_) ?_ (fun b hb hl => ?_) ?_ (fun t x hx _ => hx) (fun k hk hl => ?_) (fun t ob hx _ => hofh t ob hx) (fun k hk hl => ?_) (fun p hp hlp => ?_))
  · have : (l.take m)[k]? = some o := by rw [List.getElem?_take_of_lt hk]; simpa using ho
    exact h2 k o this
  · have := List.all_eq_true.1 hD k (List.mem_range.2 hk)
    rw [e] at this
    exact (hcl0 t x hx).2.1 (List.contains_iff_mem.1 this)
  · exact h1
  · rw [Array.getD_eq_getD_getElem?, Array.getElem?_replicate]; split <;> rfl
  · have : (List.range l.toArray.size).countP (fun j => !(Array.replicate l.toArray.size false).getD j false) = (List.range l.toArray.size).countP (fun _ => true) := by
      apply List.countP_congr
      intro j hj
      rw [Array.getD_eq_getD_getElem?, Array.getElem?_replicate]; split <;> simp
    rw [this]; simp
  · rw [Array.getD_eq_getD_getElem?, Array.getElem?_replicate] at hl
    split at hl <;> cases hl
  · exact (hs.grow ((Go.RowKit.Below.refl _ _).drew) (fun b _ hb => .inl hb) hs.x0).less (fun t x hx => (hcl0 t x hx).1) (fun t ob hx => (hide_hp hx).1)
  · rw [Array.getD_eq_getD_getElem?, Array.getElem?_replicate] at hl
    split at hl <;> cases hl
  · rw [Array.getD_eq_getD_getElem?, Array.getElem?_replicate] at hl
    split at hl <;> cases hl
  · have hz : ∀ n, n ≤ p → T n = T 0 := by
      intro n
      induction n with
      | zero => intro _; rfl
      | succ n ih =>
        intro hn
        have hnc : ¬ ch.contains n = true := fun hc => by
          have h3 := (hlp n hc (by omega)).2 (by omega)
          rw [Array.getD_eq_getD_getElem?, Array.getElem?_replicate] at h3
          split at h3 <;> cases h3
        have h3 := h2 n (l[n]'(by simp at hm0; omega)) (by rw [List.getElem?_take_of_lt (by omega)]; exact List.getElem?_eq_getElem _)
        have h4 := h3.2.2
        rw [if_neg hnc] at h4
        rw [h4.2]; exact ih (by omega)
    rw [hz p (Nat.le_refl _), hT0]; exact hcur

theorem WP.flowTE {id : Nat} {l : List Oper} {st : St} (cc : Nat) (ch : List Nat) (s q : Nat) (zs : List Nat) (m : Nat) (fl : List Fp) (ds mks gs : List Nat) (hE : edgeB l.toArray s q = true) (hB : flowB (addL s q l).toArray m fl = true) (hth : threadB m fl cc ch = true)
    (hD : ((List.range m).all fun k => match dstAt (addL s q l).toArray k with | some d => ds.contains d | none => false) = true)
    (hM : ((List.range m).all fun k => ((fpAt fl k).mks.all fun d => mks.contains d) && ((fpAt fl k).gn.all fun d => gs.contains d)) = true) (hm : c.P.follows .mixedOrders = true)
    (h : ((st.fzS zs).clean ds mks).has1 cc fun cur => pureBox cur = true ∧ St.runTG c.tys c.C N (addL s q l).toArray fl cc ch (((st.fzS zs).clean ds mks).offO cc) ((addL s q l).take m) 0 [] cur fun acc nxt => St.runR c.tys c.C N (addL s q l).toArray ((addL s q l).drop m) (((((st.fzS zs).clean ds mks).offO cc).final acc gs).thr cc nxt) (K .normal)) : WP c N X0 M w0 (.region id l.toArray true) st K := by
  intro hA β a w hs0
  have hs := Sim.fzS hA zs hs0
  generalize st.fzS zs = st at hs h
  have hD0 := flowB_ok hB
  unfold St.has1 at h
  split at h
  case h_2 => exact h.elim
  case h_1 _ cur hcur =>
  obtain ⟨hpc, h⟩ := h
  obtain ⟨F, T, hT0, h1, h2⟩ := runT_acc _ _ _ _ (runT_of_runTG _ _ _ _ h)
  have harr := addL_arr s q l
  have hlen : ((addL s q l).take m).length = m := by
    have := hD0.le
    simp at this ⊢
    omega
  rw [hlen] at h1
  simp only [List.nil_append, Nat.zero_add] at h1 h2
  unfold threadB at hth
  rw [Bool.and_eq_true, List.all_eq_true, List.all_eq_true] at hth
  have hch : ∀ i j, i < m → j < m → ch.contains i = true → ch.contains j = true → i < j → i ∈ (fpAt fl j).anc := fun i j hi hj hci hcj hij => by
    have := List.all_eq_true.1 (hth.1 j (List.mem_range.2 hj)) i (List.mem_range.2 hij)
    rw [hci, hcj] at this
    exact List.contains_iff_mem.1 (by simpa using this)
  have hcm : ∀ k, k < m → cc ∉ (fpAt fl k).mks ∧ cc ∉ (fpAt fl k).gn := fun k hk => by
    have := hth.2 k (List.mem_range.2 hk)
    simpa using this
  have hm0 : m ≤ (addL s q l).toArray.size := hD0.le
  have hTp : ∀ i, i ≤ m → pureBox (T i) = true := by
    intro i
    induction i with
    | zero => intro _; rw [hT0]; exact hpc
    | succ i ih =>
      intro hi
      have h3 := h2 i ((addL s q l)[i]'(by simp at hm0; omega)) (by rw [List.getElem?_take_of_lt (by omega)]; exact List.getElem?_eq_getElem _)
      have h4 := h3.2.2
      split at h4
      · obtain ⟨_, _, _, h5⟩ := h4
        split at h5
        case h_2 => exact h5.elim
        split at h5
        case h_2 => exact h5.elim
        split at h5
        case h_2 => exact h5.elim
        split at h5
        case h_2 => exact h5.elim
        unfold St.thrC at h5
        exact h5.2.2.2.2.2.2.2.2.2.2.2.2.2.2.2.2.2.2
      · rw [h4.2]; exact ih (by omega)
  have hofh : ∀ t x, lk t ((st.clean ds mks).offO cc).hp = some x → lk t (st.clean ds mks).hp = some x := fun t x hx => by
    by_cases he : t = cc
    · rw [he, lk_offO] at hx; cases hx
    · have hx' : lk t (er cc (st.clean ds mks).hp) = some x := hx
      rwa [lk_er_ne he] at hx'
  have hcl0 : ∀ t x, lk t (st.clean ds mks).fr = some x → lk t st.fr = some x ∧ t ∉ ds ∧ ∀ d ∈ mks, x.kill d = x := fun t x hx => by
    obtain ⟨e1, e2⟩ := hide_fr hx
    obtain ⟨e3, e4⟩ := offK_lk e1
    exact ⟨e3, e4, e2⟩
  have hMk : ∀ k, k < m → (∀ d ∈ (fpAt fl k).mks, d ∈ mks) ∧ ∀ d ∈ (fpAt fl k).gn, d ∈ gs := fun k hk => by
    have := List.all_eq_true.1 hM k (List.mem_range.2 hk)
    simp only [Bool.and_eq_true, List.all_eq_true] at this
    exact ⟨fun d hd => List.contains_iff_mem.1 (this.1 d hd), fun d hd => List.contains_iff_mem.1 (this.2 d hd)⟩
  obtain ⟨oq, hEo⟩ := edgeB_ok (P := c.P) hE
  have hsz : (addL s q l).toArray.size = l.toArray.size := by rw [harr]; unfold addE; rw [Array.size_modify]
  refine wp_region_any hm (wpAny_Q (Q' := fun e a' w' => Ok N X0 M w0 (onlyN K e) a' w') (fun e a' w' hk => ?_) _ _ _ _ (wpAny_edge hEo (fun e a' w' hne hk => ?_) _ _ _ _ (by simp) ?_))
  · cases e with
    | normal => exact hk
    | _ => obtain ⟨_, _, hf, _⟩ := hk; exact hf.elim
  · cases e with
    | normal => exact hne rfl
    | _ => obtain ⟨_, _, hf, _⟩ := hk; exact hf.elim
  rw [← harr, ← hsz]
  refine (flow_headT (c := c) (K := onlyN K) (cc := cc) (ch := ch) (T := T) hA hD0 (base := (st.clean ds mks).offO cc) (F := F) (gs := gs) (fun k o hk ho => ?_) hch hcm hTp lk_offO (fun t x hx => ⟨fun k hk e => ?_, fun k hk d hd => (hcl0 t x hx).2.2 d ((hMk k hk).1 d hd)⟩) (fun t ob hx k hk d hd => (hide_hp (hofh t ob hx)).2 d ((hMk k hk).1 d hd)) (fun k hk => (hMk k hk).2) ?_
    (addL s q l).toArray.size (Array.replicate (addL s q l).toArray.size false) (st.clean ds mks) β a _ (by simp) (fun j _ hj => ?_) ?_ (fun b hb hl => ?_) ?_ (fun t x hx _ => hx) (fun k hk hl => ?_) (fun t ob hx _ => hofh t ob hx) (fun k hk hl => ?_) (fun p hp hlp => ?_))
  · have : ((addL s q l).take m)[k]? = some o := by rw [List.getElem?_take_of_lt hk]; simpa using ho
    exact h2 k o this
  · have := List.all_eq_true.1 hD k (List.mem_range.2 hk)
    rw [e] at this
    exact (hcl0 t x hx).2.1 (List.contains_iff_mem.1 this)
  · exact h1
  · rw [Array.getD_eq_getD_getElem?, Array.getElem?_replicate]; split <;> rfl
  · have : (List.range (addL s q l).toArray.size).countP (fun j => !(Array.replicate (addL s q l).toArray.size false).getD j false) = (List.range (addL s q l).toArray.size).countP (fun _ => true) := by
      apply List.countP_congr
      intro j hj
      rw [Array.getD_eq_getD_getElem?, Array.getElem?_replicate]; split <;> simp
    rw [this]; simp
  · rw [Array.getD_eq_getD_getElem?, Array.getElem?_replicate] at hl
    split at hl <;> cases hl
  · exact (hs.grow ((Go.RowKit.Below.refl _ _).drew) (fun b _ hb => .inl hb) hs.x0).less (fun t x hx => (hcl0 t x hx).1) (fun t ob hx => (hide_hp hx).1)
  · rw [Array.getD_eq_getD_getElem?, Array.getElem?_replicate] at hl
    split at hl <;> cases hl
  · rw [Array.getD_eq_getD_getElem?, Array.getElem?_replicate] at hl
    split at hl <;> cases hl
  · have hz : ∀ n, n ≤ p → T n = T 0 := by
      intro n
      induction n with
      | zero => intro _; rfl
      | succ n ih =>
        intro hn
        have hnc : ¬ ch.contains n = true := fun hc => by
          have h3 := (hlp n hc (by omega)).2 (by omega)
          rw [Array.getD_eq_getD_getElem?, Array.getElem?_replicate] at h3
          split at h3 <;> cases h3
        have h3 := h2 n ((addL s q l)[n]'(by simp at hm0; omega)) (by rw [List.getElem?_take_of_lt (by omega)]; exact List.getElem?_eq_getElem _)
        have h4 := h3.2.2
        rw [if_neg hnc] at h4
        rw [h4.2]; exact ih (by omega)
    rw [hz p (Nat.le_refl _), hT0]; exact hcur
end
/-- as 'len', of a function that makes more than one object -/
def len2 {X : Type} (lend move : List Nat) (dec : List SV → List (Nat × Ob) → X) (A : X → List SV) (B : X → List (Nat × Ob)) (pre : X → Prop) (res : Nat → X → SV) (robs : Nat → X → List (Nat × Ob)) (kept : X → List (Nat × Ob)) : Ctr :=
  { lend := lend, move := move, wri := fun d args obs => (args = A (dec args obs) ∧ obs = B (dec args obs) ∧ d < 800000 ∧ pre (dec args obs), res d (dec args obs), robs d (dec args obs), kept (dec args obs)) }
theorem Cn.len2 {P : Program} {f : FuncId} {X : Type} {lend move : List Nat} {dec : List SV → List (Nat × Ob) → X} {A : X → List SV} {B : X → List (Nat × Ob)} {pre : X → Prop} {res : Nat → X → SV} {robs : Nat → X → List (Nat × Ob)} {kept : X → List (Nat × Ob)} {fn : Func} {code : Code}
    (hf : P.funcs[f]? = some fn) (hn : (fn.name == "runtime.NumGoroutine") = false) (hb : fn.body = some code) (h : ∀ d x, d < 800000 → pre x → HoldsL P f (A x) (B x) (res d x) (robs d x) (kept x)) : Cn P f (Go.Vc.len2 lend move dec A B pre res robs kept) :=
  ⟨⟨fn, hf, hn, by rw [hb]; rfl⟩, fun _ _ h => h.elim, fun d args obs ha => by
    have := h d (dec args obs) ha.2.2.1 ha.2.2.2
    rw [← ha.1, ← ha.2.1] at this
    exact this⟩
end Go.Vc

namespace Go.Proofs.YtahcfcimfcjhhaaGreatDoor
open Go.Vc
attribute [local go_sem] St.runR St.runW St.stepV offV St.step St.stepU St.stepG mkCond guardB St.prK St.pr St.prLen St.eff St.callE St.callD St.callF St.callL aI aB aS aR aC St.isM St.argL Ctr.pure Ctr.lend Ctr.move Ctr.isL Ctr.wri pur len lentBy St.lentV St.lent1 nthS argsR restOf obsR pairs swapL unObs backL St.resL erL SV.ren1 SV.up SV.up2 Ob.up St.fzL cellIds partIds St.intoRow SV.ownId St.fz SV.fz1 St.prep St.mvL St.mv SV.re1 rnOk St.prEq vals eqCells scEq Value.kd St.prStr St.prCut cutR St.bnd St.prMin St.bld isShift outL retL outJ oR oC St.ev St.get St.put St.new St.kill SV.kill SV.kill1 Ob.kill St.app St.wrt St.rowsOf St.res St.killL lk er argsL SV.strip SV.need SV.share SV.share1 SV.owns SV.owns1 SV.owns2 SV.good SV.good1 SV.rok SV.rok1 SV.rok2 SV.isV SV.isV2 nodupN SV.cells SV.one SV.pur Ob.pb partsIn rowsIn splice cellsAt dstOk scal2 scal1 thenK blockK retK outK outs okC okL okA okT nilC nilL nilA nilT keepC keepL keepA keepT St.runG St.dltK St.least St.clean St.final St.hide offK badS badO SV.refs SV.leaf SV.leaf2 Ob.refs dlOk fpAt Go.Vc.cover tups SV.ofAgg St.out outC subL St.has rng wr Value.oneCell' Option.isSome_some Option.isSome_none List.nil_append Bool.false_eq_true List.map_cons List.map_nil List.all_cons List.all_nil List.length_cons List.length_nil List.drop_zero List.drop_succ_cons List.take_succ_cons List.take_zero List.drop_nil List.take_nil List.getElem?_cons_zero List.getElem?_cons_succ List.getElem?_nil List.cons_append List.nil_append List.append_nil List.append_assoc List.flatMap_cons List.flatMap_nil List.contains_cons List.contains_nil List.set_cons_zero List.set_cons_succ List.getElem?_toArray Option.getD_some Option.getD_none Option.map_some Option.map_none Option.bind_some Option.some.injEq Prod.mk.injEq if_true if_false true_and and_true and_self and_false false_and Bool.and_false Bool.false_and Bool.or_true Bool.true_or Bool.or_false Bool.false_or ne_eq not_true_eq_false not_false_eq_true decide_true decide_false List.mem_cons List.not_mem_nil List.filter_cons List.filter_nil List.any_cons List.any_nil List.isEmpty_nil List.isEmpty_cons Option.getD_none or_false false_or true_or or_true forall_eq_or_imp forall_eq reduceCtorEq exists_eq exists_eq' exists_eq_left' exists_eq_left exists_eq_right exists_eq_right' imp_self implies_true Bool.and_true Bool.true_and Bool.and_self beq_self_eq_true List.replicate_succ List.replicate_zero forall_const false_implies pickB_or pickB_and beqT beqF Int.toNat_natCast List.length_map List.length_replicate ge_iff_le gt_iff_lt decide_eq_true_eq decide_eq_false_iff_not Bool.and_eq_true Bool.or_eq_true Bool.not_eq_true' Bool.not_eq_false' condG List.toList_toArray Bool.or_eq_false_iff Bool.and_eq_false_iff Int.not_lt Int.not_le beq_iff_eq beq_eq_false_iff_ne bne_iff_ne bne_eq_false_iff_eq ne_eq Bool.not_true Bool.not_false exists_and_left
section
open Go.Vc
set_option linter.unusedSimpArgs false
set_option linter.unusedVariables false
set_option maxHeartbeats 1000000
set_option maxRecDepth 10000
attribute [local irreducible] Go.Vc.WP
attribute [local go_sem] cx0_t cx0_c
def flfc914644f0 : List Go.Vc.Fp := [⟨[3], [], [], [17, 26], [], []⟩, ⟨[], [], [], [26], [], [17]⟩, ⟨[0], [], [], [17, 26], [], []⟩, ⟨[18], [2], [], [17, 26], [], []⟩, ⟨[17, 19], [1, 2, 3], [], [26], [], []⟩, ⟨[20], [1, 2, 3, 4], [], [26], [], []⟩, ⟨[0], [], [], [17, 26], [], []⟩, ⟨[22], [2, 3, 6], [], [17, 26], [], []⟩, ⟨[23], [2, 3, 6, 7], [], [17, 26], [], []⟩, ⟨[21, 24], [1, 2, 3, 4, 5, 6, 7, 8], [], [26], [], []⟩, ⟨[25], [1, 2, 3, 4, 5, 6, 7, 8, 9], [], [], [], [26]⟩, ⟨[], [0, 1, 2, 3, 4, 5, 6, 7, 8, 9, 10], [], [], [], []⟩, ⟨[], [0, 1, 2, 3, 4, 5, 6, 7, 8, 9, 10, 11], [], [], [], []⟩]
attribute [local go_sem] flfc914644f0
attribute [local go_sem] decCur_abc decU_enc decFrame_enc decI_enc St.thr St.offO pureBox St.thrC St.thrK St.dltTK St.runTG St.has1 St.fzS addL behind St.stepWr St.runWr isArith
def kNew : Ctr := pur (fun args => decU (aR args 0)) (fun b => [.sl 1 (b.map encU)]) (fun b => b.length ≤ 1048576 ∧ ∀ z ∈ b, 0 ≤ z ∧ z ≤ 255) (fun d _ => .ptr d 0 0 0) (fun d b => [(d, .box 102 (encCur (newC b)))])
section
noncomputable def cxNewS : Cx := { P := Tryz.prog, tys := tys, C := [], hty := tysOk, hC := COk.nil _ }
theorem cxNewS_t : cxNewS.tys = tys := rfl
theorem cxNewS_c : cxNewS.C = [] := rfl
attribute [local go_sem] cxNewS_t cxNewS_c 
theorem cNewS : Cn Tryz.prog 29 kNew := by
  refine Cn.pur Tryz.func29 (by kernel_rfl) rfl fun d x hx => ?_
  rename List Int => b
  obtain ⟨hb, hz⟩ := hx
  simp only [encCur] at hb hz ⊢
  refine Holds.go (c := cxNewS) Tryz.func29 rfl Tryz.results29 Tryz.ntmps29 (by omega) (by simp) rfl ?_
  intro X0 w0
  (repeat' (first | refine WP.seq ?_ | refine WP.block ?_ | ((first | refine WP.region ?_ | refine WP.condW ?_ | refine WP.ret ?_ | refine WP.exit ?_ | refine WP.skip ?_); simp only [go_sem, tyAll, Nat.reduceAdd, Nat.reduceLT, Nat.reduceLeDiff, Nat.reduceEqDiff, Nat.reduceMul, Nat.reduceSub, Nat.reduceGT, reduceIte, Int.reduceNeg, Int.reduceToNat]) |  refine And.intro ?_ ?_ | intro _))
  all_goals first | omega | skip
  refine WP.loop (fun k : Nat => ⟨[(0, .sl 1 (b.map encU)), (3, .v (.int .i64 (newH b k))), (4, .v (.int .i64 k))], []⟩) (fun k => k ≤ newN b) (fun k => newN b - k) 0 (by simp) ?_ ?_
  · (simp only [go_sem, tyAll, Nat.reduceAdd, Nat.reduceLT, Nat.reduceLeDiff, Nat.reduceEqDiff, Nat.reduceMul, Nat.reduceSub, Nat.reduceGT, reduceIte, Int.reduceNeg, Int.reduceToNat] <;> (first | rfl | exact ⟨rfl, rfl⟩ | exact ⟨rfl, rfl, rfl⟩ | exact ⟨rfl, rfl, rfl, rfl⟩ | exact ⟨rfl, rfl, rfl, rfl, rfl⟩ | exact ⟨⟨rfl, rfl⟩, rfl⟩ | simp))
  intro k hk
  have hN : newN b = min b.length 4000 := rfl
  have hh := newH_bd hb k
  by_cases hlt : k < b.length
  · have hli : (k : Int) < b.length := by omega
    have h1 := rowAt_map encU b k hlt
    have h2 := hz _ (List.getElem_mem hlt)
    by_cases h4 : k < 4000
    · have h4i : (k : Int) < 4000 := by omega
      have hs : newH b (k + 1) = bitAnd .i64 (newH b k * 131 + b[k] + 7) 1073741823 := by
        rw [newH, List.getD_eq_getElem?_getD, List.getElem?_eq_getElem hlt]; rfl
      (repeat' (first | refine WP.seq ?_ | refine WP.block ?_ | ((first | refine WP.region ?_ | refine WP.condW ?_ | refine WP.ret ?_ | refine WP.exit ?_ | refine WP.skip ?_); simp only [go_sem, hli, h1, encU, h4i, tyAll, Nat.reduceAdd, Nat.reduceLT, Nat.reduceLeDiff, Nat.reduceEqDiff, Nat.reduceMul, Nat.reduceSub, Nat.reduceGT, reduceIte, Int.reduceNeg, Int.reduceToNat]) |  refine And.intro ?_ ?_ | intro _))
      all_goals first | omega | skip
      all_goals first | exact ⟨k + 1, by omega, by omega, by rw [hs]; (first | rfl | exact ⟨rfl, rfl⟩ | exact ⟨rfl, rfl, rfl⟩ | exact ⟨rfl, rfl, rfl, rfl⟩ | exact ⟨rfl, rfl, rfl, rfl, rfl⟩ | exact ⟨⟨rfl, rfl⟩, rfl⟩ | simp)⟩ | trace_state
    · have h4i : ¬ (k : Int) < 4000 := by omega
      have hke : k = newN b := by omega
      have he : newC b = ⟨b, 0, newH b k⟩ := by unfold newC; rw [← hke]
      (repeat' (first | refine WP.seq ?_ | refine WP.block ?_ | ((first | refine WP.region ?_ | refine WP.condW ?_ | refine WP.ret ?_ | refine WP.exit ?_ | refine WP.skip ?_); simp only [go_sem, hli, h1, encU, h4i, he, tyAll, Nat.reduceAdd, Nat.reduceLT, Nat.reduceLeDiff, Nat.reduceEqDiff, Nat.reduceMul, Nat.reduceSub, Nat.reduceGT, reduceIte, Int.reduceNeg, Int.reduceToNat]) |  refine And.intro ?_ ?_ | intro _))
      all_goals first | omega | skip
      all_goals trace_state
  · have hge : ¬ (k : Int) < b.length := by omega
    have hke : k = newN b := by have hN : newN b = min b.length 4000 := rfl; omega
    have he : newC b = ⟨b, 0, newH b k⟩ := by unfold newC; rw [← hke]
    (repeat' (first | refine WP.seq ?_ | refine WP.block ?_ | ((first | refine WP.region ?_ | refine WP.condW ?_ | refine WP.ret ?_ | refine WP.exit ?_ | refine WP.skip ?_); simp only [go_sem, hge, he, tyAll, Nat.reduceAdd, Nat.reduceLT, Nat.reduceLeDiff, Nat.reduceEqDiff, Nat.reduceMul, Nat.reduceSub, Nat.reduceGT, reduceIte, Int.reduceNeg, Int.reduceToNat]) |  refine And.intro ?_ ?_ | intro _))
    all_goals first | omega | skip
    all_goals trace_state
end
def kByte : Ctr := len [0] [] (fun args obs => decCur (oC obs 1000000)) (fun c => [.ptr 1000000 0 0 0]) (fun c => [(1000000, .box 102 (encCur c))]) CurOk
  (fun _ c => .v (.int .i64 (byteV c))) (fun _ _ => []) (fun c => [(1000000, .box 102 (encCur (byteC c)))])
section
noncomputable def cxByS : Cx := { P := Tryz.prog, tys := tys, C := [], hty := tysOk, hC := COk.nil _ }
theorem cxByS_t : cxByS.tys = tys := rfl
theorem cxByS_c : cxByS.C = [] := rfl
attribute [local go_sem] cxByS_t cxByS_c 
theorem cByteS : Cn Tryz.prog 64 kByte := by
  refine Cn.len Tryz.func64 (by kernel_rfl) rfl fun d x hd hx => ?_
  obtain ⟨b, i, h⟩ := x
  obtain ⟨h1, h2, h3, h4⟩ := hx
  simp only [encCur] at h1 h2 h3 h4 ⊢
  have hS : wrapI .add (wrapI .mul h 6364136223846793005) 1442695040888963407 = stepH h := rfl
  have hR : bitAnd .i64 (bitXor .i64 (shR .i64 (stepH h) 33) (shR .i64 (stepH h) 45)) 255 = rawX (stepH h) := rfl
  refine HoldsL.go (c := cxByS) Tryz.func64 rfl Tryz.results64 Tryz.ntmps64 (by omega) (by simp) rfl (by simp <;> omega) (by simp [SV.owns2, SV.owns, SV.owns1]) (by simp) rfl rfl (by simp) ?_
  intro X0 M w0
  by_cases hlt : i < b.length
  · obtain ⟨n, rfl⟩ : ∃ n : Nat, i = n := ⟨i.toNat, by omega⟩
    have hn : n < b.length := by omega
    have hr := rowAt_map encU b n hn
    have hz := h2 _ (List.getElem_mem hn)
    have hx : 0 ≤ rawX (stepH h) ∧ rawX (stepH h) ≤ 255 := and255 (bitXor .i64 (shR .i64 (stepH h) 33) (shR .i64 (stepH h) 45))
    have hc : byteC ⟨b, n, h⟩ = ⟨b, n + 1, stepH h⟩ := by unfold byteC; rw [if_pos hlt]
    have hv : byteV ⟨b, n, h⟩ = bitAnd .i64 (rawX (stepH h) + b[n]) 255 := by
      unfold byteV
      rw [if_pos hlt, Int.toNat_natCast, List.getD_eq_getElem?_getD, List.getElem?_eq_getElem hn]; rfl
    rw [hc, hv]
    (repeat' (first | (refine WP.regionWr (id := 1) ?_; simp only [go_sem, hlt, hr, encU, hS, hR, tyAll, Nat.reduceAdd, Nat.reduceLT, Nat.reduceLeDiff, Nat.reduceEqDiff, Nat.reduceMul, Nat.reduceSub, Nat.reduceGT, reduceIte, Int.reduceNeg, Int.reduceToNat]) | refine WP.seq ?_ | refine WP.block ?_ | ((first | refine WP.region ?_ | refine WP.condW ?_ | refine WP.ret ?_ | refine WP.exit ?_ | refine WP.skip ?_); simp only [go_sem, hlt, hr, encU, hS, hR, tyAll, Nat.reduceAdd, Nat.reduceLT, Nat.reduceLeDiff, Nat.reduceEqDiff, Nat.reduceMul, Nat.reduceSub, Nat.reduceGT, reduceIte, Int.reduceNeg, Int.reduceToNat]) | ((first | refine WP.drawW 12 (by decide +kernel) (by kernel_rfl) ?_ | refine WP.drawW 10 (by decide +kernel) (by kernel_rfl) ?_ | refine WP.drawW 14 (by decide +kernel) (by kernel_rfl) ?_); simp only [go_sem, hlt, hr, encU, hS, hR, tyAll, Nat.reduceAdd, Nat.reduceLT, Nat.reduceLeDiff, Nat.reduceEqDiff, Nat.reduceMul, Nat.reduceSub, Nat.reduceGT, reduceIte, Int.reduceNeg, Int.reduceToNat]) |  refine And.intro ?_ ?_ | intro _))
    all_goals first | omega | skip
    all_goals trace_state
  · have hc : byteC ⟨b, i, h⟩ = ⟨b, i, stepH h⟩ := by unfold byteC; rw [if_neg hlt]
    have hv : byteV ⟨b, i, h⟩ = rawX (stepH h) := by unfold byteV; rw [if_neg hlt]
    rw [hc, hv]
    (repeat' (first | (refine WP.regionWr (id := 1) ?_; simp only [go_sem, hlt, hS, hR, tyAll, Nat.reduceAdd, Nat.reduceLT, Nat.reduceLeDiff, Nat.reduceEqDiff, Nat.reduceMul, Nat.reduceSub, Nat.reduceGT, reduceIte, Int.reduceNeg, Int.reduceToNat]) | refine WP.seq ?_ | refine WP.block ?_ | ((first | refine WP.region ?_ | refine WP.condW ?_ | refine WP.ret ?_ | refine WP.exit ?_ | refine WP.skip ?_); simp only [go_sem, hlt, hS, hR, tyAll, Nat.reduceAdd, Nat.reduceLT, Nat.reduceLeDiff, Nat.reduceEqDiff, Nat.reduceMul, Nat.reduceSub, Nat.reduceGT, reduceIte, Int.reduceNeg, Int.reduceToNat]) | ((first | refine WP.drawW 12 (by decide +kernel) (by kernel_rfl) ?_ | refine WP.drawW 10 (by decide +kernel) (by kernel_rfl) ?_ | refine WP.drawW 14 (by decide +kernel) (by kernel_rfl) ?_); simp only [go_sem, hlt, hS, hR, tyAll, Nat.reduceAdd, Nat.reduceLT, Nat.reduceLeDiff, Nat.reduceEqDiff, Nat.reduceMul, Nat.reduceSub, Nat.reduceGT, reduceIte, Int.reduceNeg, Int.reduceToNat]) |  refine And.intro ?_ ?_ | intro _))
    all_goals first | omega | skip
    all_goals trace_state
end

def kBelow : Ctr := len [0] [] (fun args obs => (decCur (oC obs 1000000), aI args 1)) (fun x => [.ptr 1000000 0 0 0, .v (.int .i64 x.2)]) (fun x => [(1000000, .box 102 (encCur x.1))]) (fun x => CurOk x.1 ∧ x.2 ≤ 256)
  (fun _ x => .v (.int .i64 (belowV x.1 x.2))) (fun _ _ => []) (fun x => [(1000000, .box 102 (encCur (belowC x.1 x.2)))])
section
noncomputable def cxBeS : Cx := { P := Tryz.prog, tys := tys, C := [(64, kByte)], hty := tysOk, hC := COk.cons cByteS (COk.nil _) }
theorem cxBeS_t : cxBeS.tys = tys := rfl
theorem cxBeS_c : cxBeS.C = [(64, kByte)] := rfl
attribute [local go_sem] cxBeS_t cxBeS_c kByte
attribute [local go_sem] encCur
theorem cBelowS : Cn Tryz.prog 32 kBelow := by
  refine Cn.len Tryz.func32 (by kernel_rfl) rfl fun d x hd hx => ?_
  obtain ⟨⟨b, i, h⟩, n⟩ := x
  obtain ⟨h1, h2⟩ := hx
  simp only [encCur] at h1 h2 ⊢
  refine HoldsL.go (c := cxBeS) Tryz.func32 rfl Tryz.results32 Tryz.ntmps32 (by omega) (by simp) rfl (by simp <;> omega) (by simp [SV.owns2, SV.owns, SV.owns1]) (by simp) rfl rfl (by simp) ?_
  intro X0 M w0
  by_cases hn : n ≤ 0
  · have e1 : belowV ⟨b, i, h⟩ n = 0 := if_pos hn
    have e2 : belowC ⟨b, i, h⟩ n = ⟨b, i, h⟩ := if_pos hn
    rw [e1, e2]
    (repeat' (first | refine WP.seq ?_ | refine WP.block ?_ | ((first | refine WP.region ?_ | refine WP.condW ?_ | refine WP.ret ?_ | refine WP.exit ?_ | refine WP.skip ?_); simp only [go_sem, hn, tyAll, Nat.reduceAdd, Nat.reduceLT, Nat.reduceLeDiff, Nat.reduceEqDiff, Nat.reduceMul, Nat.reduceSub, Nat.reduceGT, reduceIte, Int.reduceNeg, Int.reduceToNat]) |  refine And.intro ?_ ?_ | intro _))
    all_goals first | omega | skip
    all_goals trace_state
  · have e1 : belowV ⟨b, i, h⟩ n = (byteV ⟨b, i, h⟩).tmod n := if_neg hn
    have e2 : belowC ⟨b, i, h⟩ n = byteC ⟨b, i, h⟩ := if_neg hn
    rw [e1, e2]
    (repeat' (first | refine WP.seq ?_ | refine WP.block ?_ | ((first | refine WP.region ?_ | refine WP.condW ?_ | refine WP.ret ?_ | refine WP.exit ?_ | refine WP.skip ?_); simp only [go_sem, hn, h2, tyAll, Nat.reduceAdd, Nat.reduceLT, Nat.reduceLeDiff, Nat.reduceEqDiff, Nat.reduceMul, Nat.reduceSub, Nat.reduceGT, reduceIte, Int.reduceNeg, Int.reduceToNat]) |  refine And.intro ?_ ?_ | intro _))
    all_goals first | omega | exact h1 | skip
    all_goals trace_state
end
def kPickI : Ctr := len [0] [1] (fun args obs => (decCur (oC obs 1000000), decI (oR obs 900000))) (fun x => [.ptr 1000000 0 0 0, .own 900000]) (fun x => [(1000000, .box 102 (encCur x.1)), (900000, .sl 3 1 (x.2.map encI))]) (fun x => CurOk x.1 ∧ x.2.length ≤ 256 ∧ 0 < x.2.length)
  (fun _ x => .v (.int .i64 (x.2.getD (belowV x.1 x.2.length).toNat 0))) (fun _ _ => []) (fun x => [(1000000, .box 102 (encCur (belowC x.1 x.2.length)))])
section
noncomputable def cxPiS : Cx := { P := Tryz.prog, tys := tys, C := [(32, kBelow)], hty := tysOk, hC := COk.cons cBelowS (COk.nil _) }
theorem cxPiS_t : cxPiS.tys = tys := rfl
theorem cxPiS_c : cxPiS.C = [(32, kBelow)] := rfl
attribute [local go_sem] cxPiS_t cxPiS_c kBelow
attribute [local go_sem] encCur
theorem cPickIS : Cn Tryz.prog 61 kPickI := by
  refine Cn.len Tryz.func61 (by kernel_rfl) rfl fun d x hd hx => ?_
  obtain ⟨⟨b, i, h⟩, L⟩ := x
  obtain ⟨h1, h2, h3⟩ := hx
  simp only [encCur] at h1 h2 h3 ⊢
  refine HoldsL.go (c := cxPiS) Tryz.func61 rfl Tryz.results61 Tryz.ntmps61 (by omega) (by simp) rfl (by simp <;> omega) (by simp [SV.owns2, SV.owns, SV.owns1]) (by simp) rfl rfl (by simp) ?_
  intro X0 M w0
  have hb := belowV_bd ⟨b, i, h⟩ (n := L.length) (by omega)
  obtain ⟨q, hq⟩ : ∃ q : Nat, belowV ⟨b, i, h⟩ L.length = q := ⟨_, (Int.toNat_of_nonneg hb.1).symm⟩
  have hql : q < L.length := by omega
  have hr := rowAt_map encI L q hql
  have hg : L.getD q 0 = L[q] := by rw [List.getD_eq_getElem?_getD, List.getElem?_eq_getElem hql]; rfl
  have hqi : (q : Int) < L.length := by omega
  rw [hq, Int.toNat_natCast, hg]
  (repeat' (first | refine WP.seq ?_ | refine WP.block ?_ | ((first | refine WP.region ?_ | refine WP.condW ?_ | refine WP.ret ?_ | refine WP.exit ?_ | refine WP.skip ?_); simp only [go_sem, hq, hr, encI, hqi, tyAll, Nat.reduceAdd, Nat.reduceLT, Nat.reduceLeDiff, Nat.reduceEqDiff, Nat.reduceMul, Nat.reduceSub, Nat.reduceGT, reduceIte, Int.reduceNeg, Int.reduceToNat]) |  refine And.intro ?_ ?_ | intro _))
  all_goals first | omega | exact h1 | skip
  all_goals trace_state
end
def curT (c : Cur) : Ob := .box 102 (encCur c)
def kStk : Ctr := len [0] [] (fun args obs => decCur (oC obs 1000000)) (fun c => [.ptr 1000000 0 0 0]) (fun c => [(1000000, .box 102 (encCur c))]) CurOk
  (fun d _ => .own d) (fun d c => [(d, .sl 33 2 ((stkD c).1.map encFrame))]) (fun c => [(1000000, .box 102 (encCur (stkD c).2))])
theorem cur_eta (c : Cur) : (⟨c.b, c.i, c.h⟩ : Cur) = c := rfl
theorem row_nm {q : Nat} (h : q < 3) : Go.Vc.rowAt [[SV.v (Value.string ⟨#[102]⟩)], [SV.v (Value.string ⟨#[103, 103]⟩)], [SV.v (Value.string ⟨#[104]⟩)]] q = [SV.v (Value.string (nmAt q))] := by
  match q, h with
  | 0, _ => rfl
  | 1, _ => rfl
  | 2, _ => rfl
section
noncomputable def cxStD : Cx := { P := Tryz.prog, tys := tys, C := [(32, kBelow)], hty := tysOk, hC := COk.cons cBelowS (COk.nil _) }
theorem cxStD_t : cxStD.tys = tys := rfl
theorem cxStD_c : cxStD.C = [(32, kBelow)] := rfl
attribute [local go_sem] cxStD_t cxStD_c kBelow
attribute [local go_sem] cur_eta
theorem cStkS : Cn Tryz.prog 33 kStk := by
  refine Cn.len Tryz.func33 (by kernel_rfl) rfl fun d x hd hx => ?_
  rename Cur => c
  have hb1 := belowV_bd c (n := 3) (by omega)
  have hb2 := belowV_bd (belowC c 3) (n := 4) (by omega)
  have hc3 := hx.belowC 3
  have hc4 := hc3.belowC 4
  have hKn : belowV (belowC c 3) 4 = (stkN c : Int) := (Int.toNat_of_nonneg hb2.1).symm
  refine HoldsL.go (c := cxStD) Tryz.func33 rfl Tryz.results33 Tryz.ntmps33 (by omega) (by simp) rfl (by simp <;> omega) (by simp [SV.owns2, SV.owns, SV.owns1]) (by simp) rfl rfl (by simp) ?_
  intro X0 M w0
  (repeat' (first | refine WP.seq ?_ | refine WP.block ?_ | ((first | refine WP.region ?_ | refine WP.condW ?_ | refine WP.ret ?_ | refine WP.exit ?_ | refine WP.skip ?_); simp only [go_sem, encCur, hKn, tyAll, Nat.reduceAdd, Nat.reduceLT, Nat.reduceLeDiff, Nat.reduceEqDiff, Nat.reduceMul, Nat.reduceSub, Nat.reduceGT, reduceIte, Int.reduceNeg, Int.reduceToNat]) | ((first | refine WP.flowW 11 flfc914644f0 [16, 17, 18, 19, 20, 21, 22, 23, 24, 25, 26] [17, 26] [] (by decide +kernel) (by kernel_rfl) (by kernel_rfl) (by kernel_rfl) ?_); simp only [go_sem, encCur, hKn, tyAll, Nat.reduceAdd, Nat.reduceLT, Nat.reduceLeDiff, Nat.reduceEqDiff, Nat.reduceMul, Nat.reduceSub, Nat.reduceGT, reduceIte, Int.reduceNeg, Int.reduceToNat]) |  refine And.intro ?_ ?_ | intro _))
  all_goals first | omega | exact hx | exact hc3 | skip
  refine WP.loop (fun j : Nat => ⟨[(0, .ptr 1000000 0 0 0), (3, .own 9), (4, .v (.int .i64 ((stkN c : Int) - j)))],
    [(1000000, .box 102 (encCur (stkGo j (belowC (belowC c 3) 4) (stk0 c)).2)), (9, .sl 33 2 ((stkGo j (belowC (belowC c 3) 4) (stk0 c)).1.map encFrame))]⟩)
    (fun j => j ≤ stkN c) (fun j => stkN c - j) 0 (by simp) ?_ ?_
  · simp only [encCur, stkGo, stk0, encFrame, nMain]; (simp only [go_sem, tyAll, Nat.reduceAdd, Nat.reduceLT, Nat.reduceLeDiff, Nat.reduceEqDiff, Nat.reduceMul, Nat.reduceSub, Nat.reduceGT, reduceIte, Int.reduceNeg, Int.reduceToNat] <;> (first | rfl | exact ⟨rfl, rfl⟩ | exact ⟨rfl, rfl, rfl⟩ | exact ⟨rfl, rfl, rfl, rfl⟩ | exact ⟨rfl, rfl, rfl, rfl, rfl⟩ | exact ⟨⟨rfl, rfl⟩, rfl⟩ | simp))
  intro j hj
  obtain ⟨g1, g2⟩ := stkGo_ok j (belowC (belowC c 3) 4) (stk0 c) hc4
  have hnx := stkGo_next j (belowC (belowC c 3) 4) (stk0 c)
  have hl0 : (stk0 c).length = 1 := rfl
  have hN3 := stkN_le c
  by_cases hlt : j < stkN c
  · have hli : (0 : Int) < (stkN c : Int) - j := by omega
    generalize stkGo j (belowC (belowC c 3) 4) (stk0 c) = S at g1 g2 hnx
    obtain ⟨L, u⟩ := S
    simp only at g1 g2 hnx ⊢
    have hq0 := belowV_bd u (n := 3) (by omega)
    have hq1 := belowV_bd (belowC u 3) (n := 3) (by omega)
    have g3 := g1.belowC 3
    obtain ⟨q, hq⟩ : ∃ q : Nat, belowV u 3 = q := ⟨_, (Int.toNat_of_nonneg hq0.1).symm⟩
    have hq3 : q < 3 := by omega
    have hqi : (q : Int) < 3 := by omega
    have hr := row_nm hq3
    (repeat' (first | (refine WP.flowT 1000000 [3, 7] [] 11 [⟨[3], [], [], [17, 26], [], []⟩, ⟨[], [], [], [26], [], [17]⟩, ⟨[0], [], [], [17, 26], [], []⟩, ⟨[18], [2], [], [17, 26], [], []⟩, ⟨[17, 19], [1, 2, 3], [], [26], [], []⟩, ⟨[20], [1, 2, 3, 4], [], [26], [], []⟩, ⟨[0], [], [], [17, 26], [], []⟩, ⟨[22], [2, 3, 6], [], [17, 26], [], []⟩, ⟨[23], [2, 3, 6, 7], [], [17, 26], [], []⟩, ⟨[21, 24], [1, 2, 3, 4, 5, 6, 7, 8], [], [26], [], []⟩, ⟨[25], [1, 2, 3, 4, 5, 6, 7, 8, 9], [], [], [], [26]⟩, ⟨[], [0, 1, 2, 3, 4, 5, 6, 7, 8, 9, 10], [], [], [], []⟩, ⟨[], [0, 1, 2, 3, 4, 5, 6, 7, 8, 9, 10, 11], [], [], [], []⟩] [16, 17, 18, 19, 20, 21, 22, 23, 24, 25, 26] [17, 26] [] (by decide +kernel) (by decide +kernel) (by kernel_rfl) (by kernel_rfl) (by kernel_rfl) ?_; simp only [go_sem, encCur, hli, hq, hqi, hr, tyAll, Nat.reduceAdd, Nat.reduceLT, Nat.reduceLeDiff, Nat.reduceEqDiff, Nat.reduceMul, Nat.reduceSub, Nat.reduceGT, reduceIte, Int.reduceNeg, Int.reduceToNat]) | refine WP.seq ?_ | refine WP.block ?_ | ((first | refine WP.region ?_ | refine WP.condW ?_ | refine WP.ret ?_ | refine WP.exit ?_ | refine WP.skip ?_); simp only [go_sem, encCur, hli, hq, hqi, hr, tyAll, Nat.reduceAdd, Nat.reduceLT, Nat.reduceLeDiff, Nat.reduceEqDiff, Nat.reduceMul, Nat.reduceSub, Nat.reduceGT, reduceIte, Int.reduceNeg, Int.reduceToNat]) | ((first | refine WP.flowW 11 flfc914644f0 [16, 17, 18, 19, 20, 21, 22, 23, 24, 25, 26] [17, 26] [] (by decide +kernel) (by kernel_rfl) (by kernel_rfl) (by kernel_rfl) ?_); simp only [go_sem, encCur, hli, hq, hqi, hr, tyAll, Nat.reduceAdd, Nat.reduceLT, Nat.reduceLeDiff, Nat.reduceEqDiff, Nat.reduceMul, Nat.reduceSub, Nat.reduceGT, reduceIte, Int.reduceNeg, Int.reduceToNat]) |  refine And.intro ?_ ?_ | intro _))
    all_goals first | omega | exact g1 | exact g3 | rfl | skip
    exact ⟨j + 1, by omega, by omega, by rw [show (stkN c : Int) - j - 1 = (stkN c : Int) - ((j + 1 : Nat) : Int) by omega], by rw [hnx], by rw [hnx]; simp only [List.map_append, List.map_cons, List.map_nil, frD, encFrame, hq]⟩
  · have hge : ¬ (0 : Int) < (stkN c : Int) - j := by omega
    have hje : j = stkN c := by omega
    subst hje
    (repeat' (first | refine WP.seq ?_ | refine WP.block ?_ | ((first | refine WP.region ?_ | refine WP.condW ?_ | refine WP.ret ?_ | refine WP.exit ?_ | refine WP.skip ?_); simp only [go_sem, encCur, hge, tyAll, Nat.reduceAdd, Nat.reduceLT, Nat.reduceLeDiff, Nat.reduceEqDiff, Nat.reduceMul, Nat.reduceSub, Nat.reduceGT, reduceIte, Int.reduceNeg, Int.reduceToNat]) | ((first | refine WP.flowW 11 flfc914644f0 [16, 17, 18, 19, 20, 21, 22, 23, 24, 25, 26] [17, 26] [] (by decide +kernel) (by kernel_rfl) (by kernel_rfl) (by kernel_rfl) ?_); simp only [go_sem, encCur, hge, tyAll, Nat.reduceAdd, Nat.reduceLT, Nat.reduceLeDiff, Nat.reduceEqDiff, Nat.reduceMul, Nat.reduceSub, Nat.reduceGT, reduceIte, Int.reduceNeg, Int.reduceToNat]) |  refine And.intro ?_ ?_ | intro _))
    all_goals first | omega | rfl | skip
    all_goals trace_state
end
end
section
open Go.Vc
set_option linter.unusedSimpArgs false
set_option linter.unusedVariables false
set_option maxHeartbeats 1000000
set_option maxRecDepth 10000
attribute [local irreducible] Go.Vc.WP
attribute [local go_sem] cx0_t cx0_c
attribute [local go_sem] decNode_enc oneFrame_enc
/-- a struct of one list of nodes -/
def stkA (args : List SV) (i : Nat) : List Node := match args[i]? with
  | some (.agg [.sl _ rows]) => decNode rows
  | _ => []
theorem stNode_frOk {N : List Node} {k : Nat} {x : Node} (h : frOk (nodeFr x) = false) : stNode N k x = false := by
  cases hs : stNode N k x with
  | false => rfl
  | true => rw [(stNode_iff.1 hs).2.2.1] at h; cases h
theorem stNode_par {N : List Node} {k : Nat} {x : Node} (h : x.parent < -1 ∨ (k : Int) - 1 < x.parent) : stNode N k x = false := by
  cases hs : stNode N k x with
  | false => rfl
  | true => have := stNode_iff.1 hs; omega
def kFrOk : Ctr := pur (fun args => oneFrame (aC args 0)) (fun f => [.agg (encFrame f)]) (fun f => f.name.size ≤ 1099511627776) (fun _ f => .v (.bool (frOk f))) (fun _ _ => [])
section
noncomputable def cxFrI : Cx := { P := Tryz.prog, tys := tys, C := [(46, kNameOk), (44, k60)], hty := tysOk, hC := COk.cons cNameOkI (COk.cons c60 (COk.nil _)) }
theorem cxFrI_t : cxFrI.tys = tys := rfl
theorem cxFrI_c : cxFrI.C = [(46, kNameOk), (44, k60)] := rfl
attribute [local go_sem] cxFrI_t cxFrI_c kNameOk k60
theorem cFrOkI : Cn Tryz.prog 91 kFrOk := by
  refine Cn.pur Tryz.func91 (by kernel_rfl) rfl fun d x hx => ?_
  refine Holds.go (c := cxFrI) Tryz.func91 rfl Tryz.results91 Tryz.ntmps91 (by omega) (by simp) rfl ?_
  intro X0 w0
  (repeat' (first | refine WP.seq ?_ | refine WP.block ?_ | ((first | refine WP.region ?_ | refine WP.condW ?_ | refine WP.ret ?_ | refine WP.exit ?_ | refine WP.skip ?_); simp only [go_sem, encFrame, tyAll, Nat.reduceAdd, Nat.reduceLT, Nat.reduceLeDiff, Nat.reduceEqDiff, Nat.reduceMul, Nat.reduceSub, Nat.reduceGT, reduceIte, Int.reduceNeg, Int.reduceToNat]) |  refine And.intro ?_ ?_ | intro _))
  all_goals first | omega | skip
  rw [frOk, Bool.and_assoc]
end
section
noncomputable def cxFrS : Cx := { P := Tryz.prog, tys := tys, C := [(105, kNameOk), (30, k60)], hty := tysOk, hC := COk.cons cNameOkS (COk.cons c58 (COk.nil _)) }
theorem cxFrS_t : cxFrS.tys = tys := rfl
theorem cxFrS_c : cxFrS.C = [(105, kNameOk), (30, k60)] := rfl
attribute [local go_sem] cxFrS_t cxFrS_c kNameOk k60
theorem cFrOkS : Cn Tryz.prog 100 kFrOk := by
  refine Cn.pur Tryz.func100 (by kernel_rfl) rfl fun d x hx => ?_
  refine Holds.go (c := cxFrS) Tryz.func100 rfl Tryz.results100 Tryz.ntmps100 (by omega) (by simp) rfl ?_
  intro X0 w0
  (repeat' (first | refine WP.seq ?_ | refine WP.block ?_ | ((first | refine WP.region ?_ | refine WP.condW ?_ | refine WP.ret ?_ | refine WP.exit ?_ | refine WP.skip ?_); simp only [go_sem, encFrame, tyAll, Nat.reduceAdd, Nat.reduceLT, Nat.reduceLeDiff, Nat.reduceEqDiff, Nat.reduceMul, Nat.reduceSub, Nat.reduceGT, reduceIte, Int.reduceNeg, Int.reduceToNat]) |  refine And.intro ?_ ?_ | intro _))
  all_goals first | omega | skip
  rw [frOk, Bool.and_assoc]
end
theorem oneFrame_ab (a : ByteArray) (b : Int) : oneFrame [.v (.string a), .v (.int .i64 b)] = ⟨a, b⟩ := rfl
theorem oneNode_abc (p : Int) (a : ByteArray) (b : Int) : oneNode [.v (.int .i64 p), .v (.string a), .v (.int .i64 b)] = ⟨p, a, b⟩ := rfl
def wfN (N : List Node) : Prop := N.length ≤ 4398046511104 ∧ ∀ x ∈ N, x.name.size ≤ 1099511627776
theorem wfN.nm {N : List Node} (h : wfN N) {k : Nat} (hk : k < N.length) : N[k].name.size ≤ 1099511627776 := h.2 _ (List.getElem_mem hk)
def kStOk : Ctr := pur (fun args => stkA args 0) (fun N => [.agg [.sl 3 (N.map encNode)]]) wfN (fun _ N => .v (.bool (stacksOk N))) (fun _ _ => [])
attribute [local go_sem] stkA oneFrame_ab oneNode_abc
theorem noFr {N : List Node} {k : Nat} (hk : k < N.length) (h : (N[k].parent < -1 ∨ (k : Int) - 1 < N[k].parent) ∨ frOk ⟨N[k].name, N[k].line⟩ = false) : stacksOk N = false := by
  refine stacksOk_bad hk ?_
  rcases h with h | h
  · exact stNode_par h
  · exact stNode_frOk h
theorem node_eq {a b : Node} (h : a.parent = b.parent ∧ a.name = b.name ∧ a.line = b.line) : a = b := by
  obtain ⟨p, n, l⟩ := a
  obtain ⟨p', n', l'⟩ := b
  simp only at h
  obtain ⟨rfl, rfl, rfl⟩ := h
  rfl
theorem node_ne {a b : Node} (h : ¬ a.parent = b.parent ∨ ¬ a.name = b.name ∨ ¬ a.line = b.line) : a ≠ b := fun e => by
  subst e
  rcases h with h | h | h <;> exact h rfl
theorem rowAt_take (rows : List (List SV)) {k i : Nat} (h : i < k) : Go.Vc.rowAt (rows.take k) i = Go.Vc.rowAt rows i := by
  unfold Go.Vc.rowAt
  rw [List.getElem?_take_of_lt h]
section
noncomputable def cxSoS : Cx := { P := Tryz.prog, tys := tys, C := [(100, kFrOk), (30, k60)], hty := tysOk, hC := COk.cons cFrOkS (COk.cons c58 (COk.nil _)) }
theorem cxSoS_t : cxSoS.tys = tys := rfl
theorem cxSoS_c : cxSoS.C = [(100, kFrOk), (30, k60)] := rfl
attribute [local go_sem] cxSoS_t cxSoS_c kFrOk k60
theorem cStOkS : Cn Tryz.prog 77 kStOk := by
  refine Cn.pur Tryz.func77 (by kernel_rfl) rfl fun d x hx => ?_
  rename List Node => N
  have hN := hx.1
  refine Holds.go (c := cxSoS) Tryz.func77 rfl Tryz.results77 Tryz.ntmps77 (by omega) (by simp) rfl ?_
  intro X0 w0
  (repeat' (first | refine WP.seq ?_ | refine WP.block ?_ | ((first | refine WP.region ?_ | refine WP.condW ?_ | refine WP.ret ?_ | refine WP.exit ?_ | refine WP.skip ?_); simp only [go_sem, tyAll, Nat.reduceAdd, Nat.reduceLT, Nat.reduceLeDiff, Nat.reduceEqDiff, Nat.reduceMul, Nat.reduceSub, Nat.reduceGT, reduceIte, Int.reduceNeg, Int.reduceToNat]) | ((first | refine WP.drawW 11 (by decide +kernel) (by kernel_rfl) ?_); simp only [go_sem, tyAll, Nat.reduceAdd, Nat.reduceLT, Nat.reduceLeDiff, Nat.reduceEqDiff, Nat.reduceMul, Nat.reduceSub, Nat.reduceGT, reduceIte, Int.reduceNeg, Int.reduceToNat]) |  refine And.intro ?_ ?_ | intro _))
  refine WP.loop (fun k : Nat => ⟨[(1, .ptr 1 0 0 0), (3, .v (.int .i64 k))], [(1, .box 37 [.sl 3 (N.map encNode)])]⟩) (fun k => k ≤ N.length ∧ ∀ j (hj : j < N.length), j < k → stNode N j N[j] = true) (fun k => N.length - k) 0 (by simp) ?_ ?_
  · (simp only [go_sem, tyAll, Nat.reduceAdd, Nat.reduceLT, Nat.reduceLeDiff, Nat.reduceEqDiff, Nat.reduceMul, Nat.reduceSub, Nat.reduceGT, reduceIte, Int.reduceNeg, Int.reduceToNat] <;> (first | rfl | exact ⟨rfl, rfl⟩ | exact ⟨rfl, rfl, rfl⟩ | exact ⟨rfl, rfl, rfl, rfl⟩ | exact ⟨rfl, rfl, rfl, rfl, rfl⟩ | exact ⟨⟨rfl, rfl⟩, rfl⟩ | simp))
  intro k ⟨hk, hf⟩
  by_cases hlt : k < N.length
  · have h1 := rowAt_map encNode N k hlt
    have hnm := hx.nm hlt
    (repeat' (first | refine WP.seq ?_ | refine WP.block ?_ | ((first | refine WP.region ?_ | refine WP.condW ?_ | refine WP.ret ?_ | refine WP.exit ?_ | refine WP.skip ?_); simp only [go_sem, h1, encNode, encFrame, tyAll, Nat.reduceAdd, Nat.reduceLT, Nat.reduceLeDiff, Nat.reduceEqDiff, Nat.reduceMul, Nat.reduceSub, Nat.reduceGT, reduceIte, Int.reduceNeg, Int.reduceToNat]) | ((first | refine WP.drawW 11 (by decide +kernel) (by kernel_rfl) ?_); simp only [go_sem, h1, encNode, encFrame, tyAll, Nat.reduceAdd, Nat.reduceLT, Nat.reduceLeDiff, Nat.reduceEqDiff, Nat.reduceMul, Nat.reduceSub, Nat.reduceGT, reduceIte, Int.reduceNeg, Int.reduceToNat]) |  refine And.intro ?_ ?_ | intro _))
    all_goals first | omega | skip
    · rename_i h
      rw [noFr hlt h]
    rename_i h
    refine WP.loop (fun i : Nat => ⟨[(1, .ptr 1 0 0 0), (3, .v (.int .i64 k)), (4, .v (.int .i64 i))], [(1, .box 37 [.sl 3 (N.map encNode)])]⟩) (fun i => i ≤ k ∧ ∀ j (hj : j < N.length), j < i → N[j] ≠ N[k]) (fun i => k - i) 0 (by simp) ?_ ?_
    · (simp only [go_sem, tyAll, Nat.reduceAdd, Nat.reduceLT, Nat.reduceLeDiff, Nat.reduceEqDiff, Nat.reduceMul, Nat.reduceSub, Nat.reduceGT, reduceIte, Int.reduceNeg, Int.reduceToNat] <;> (first | rfl | exact ⟨rfl, rfl⟩ | exact ⟨rfl, rfl, rfl⟩ | exact ⟨rfl, rfl, rfl, rfl⟩ | exact ⟨rfl, rfl, rfl, rfl, rfl⟩ | exact ⟨⟨rfl, rfl⟩, rfl⟩ | simp))
    intro i ⟨hi, hg⟩
    by_cases hlt2 : i < k
    · have h2 := rowAt_map encNode N i (by omega)
      (repeat' (first | refine WP.seq ?_ | refine WP.block ?_ | ((first | refine WP.region ?_ | refine WP.condW ?_ | refine WP.ret ?_ | refine WP.exit ?_ | refine WP.skip ?_); simp only [go_sem, h1, h2, encNode, tyAll, Nat.reduceAdd, Nat.reduceLT, Nat.reduceLeDiff, Nat.reduceEqDiff, Nat.reduceMul, Nat.reduceSub, Nat.reduceGT, reduceIte, Int.reduceNeg, Int.reduceToNat]) | ((first | refine WP.drawW 11 (by decide +kernel) (by kernel_rfl) ?_); simp only [go_sem, h1, h2, encNode, tyAll, Nat.reduceAdd, Nat.reduceLT, Nat.reduceLeDiff, Nat.reduceEqDiff, Nat.reduceMul, Nat.reduceSub, Nat.reduceGT, reduceIte, Int.reduceNeg, Int.reduceToNat]) |  refine And.intro ?_ ?_ | intro _))
      all_goals first | omega | skip
      · rename_i he
        rw [stacksOk_bad hlt (stNode_dup hlt hlt2 (node_eq he))]
      · rename_i he
        refine ⟨i + 1, ⟨by omega, fun j hj hji => ?_⟩, by omega, by (first | rfl | exact ⟨rfl, rfl⟩ | exact ⟨rfl, rfl, rfl⟩ | exact ⟨rfl, rfl, rfl, rfl⟩ | exact ⟨rfl, rfl, rfl, rfl, rfl⟩ | exact ⟨⟨rfl, rfl⟩, rfl⟩ | simp)⟩
        rcases Nat.lt_or_ge j i with hh | hh
        · exact hg j hj hh
        · have : j = i := by omega
          subst this
          exact node_ne he
    · (repeat' (first | refine WP.seq ?_ | refine WP.block ?_ | ((first | refine WP.region ?_ | refine WP.condW ?_ | refine WP.ret ?_ | refine WP.exit ?_ | refine WP.skip ?_); simp only [go_sem, tyAll, Nat.reduceAdd, Nat.reduceLT, Nat.reduceLeDiff, Nat.reduceEqDiff, Nat.reduceMul, Nat.reduceSub, Nat.reduceGT, reduceIte, Int.reduceNeg, Int.reduceToNat]) | ((first | refine WP.drawW 11 (by decide +kernel) (by kernel_rfl) ?_); simp only [go_sem, tyAll, Nat.reduceAdd, Nat.reduceLT, Nat.reduceLeDiff, Nat.reduceEqDiff, Nat.reduceMul, Nat.reduceSub, Nat.reduceGT, reduceIte, Int.reduceNeg, Int.reduceToNat]) |  refine And.intro ?_ ?_ | intro _))
      all_goals first | omega | skip
      refine ⟨k + 1, ⟨by omega, fun j hj hjk => ?_⟩, by omega, by (first | rfl | exact ⟨rfl, rfl⟩ | exact ⟨rfl, rfl, rfl⟩ | exact ⟨rfl, rfl, rfl, rfl⟩ | exact ⟨rfl, rfl, rfl, rfl, rfl⟩ | exact ⟨⟨rfl, rfl⟩, rfl⟩ | simp)⟩
      rcases Nat.lt_or_ge j k with hh | hh
      · exact hf j hj hh
      · have : j = k := by omega
        subst this
        exact stNode_ok h.1.1 h.1.2 h.2 fun i hi hij => hg i hi (by omega)
  · (repeat' (first | refine WP.seq ?_ | refine WP.block ?_ | ((first | refine WP.region ?_ | refine WP.condW ?_ | refine WP.ret ?_ | refine WP.exit ?_ | refine WP.skip ?_); simp only [go_sem, tyAll, Nat.reduceAdd, Nat.reduceLT, Nat.reduceLeDiff, Nat.reduceEqDiff, Nat.reduceMul, Nat.reduceSub, Nat.reduceGT, reduceIte, Int.reduceNeg, Int.reduceToNat]) | ((first | refine WP.drawW 11 (by decide +kernel) (by kernel_rfl) ?_); simp only [go_sem, tyAll, Nat.reduceAdd, Nat.reduceLT, Nat.reduceLeDiff, Nat.reduceEqDiff, Nat.reduceMul, Nat.reduceSub, Nat.reduceGT, reduceIte, Int.reduceNeg, Int.reduceToNat]) |  refine And.intro ?_ ?_ | intro _))
    all_goals first | omega | skip
    rw [stacksOk_all fun j hj => hf j hj (by omega)]
end
section
noncomputable def cxSoI : Cx := { P := Tryz.prog, tys := tys, C := [(91, kFrOk), (44, k60)], hty := tysOk, hC := COk.cons cFrOkI (COk.cons c60 (COk.nil _)) }
theorem cxSoI_t : cxSoI.tys = tys := rfl
theorem cxSoI_c : cxSoI.C = [(91, kFrOk), (44, k60)] := rfl
attribute [local go_sem] cxSoI_t cxSoI_c kFrOk k60
theorem cStOkI : Cn Tryz.prog 79 kStOk := by
  refine Cn.pur Tryz.func79 (by kernel_rfl) rfl fun d x hx => ?_
  rename List Node => N
  have hN := hx.1
  refine Holds.go (c := cxSoI) Tryz.func79 rfl Tryz.results79 Tryz.ntmps79 (by omega) (by simp) rfl ?_
  intro X0 w0
  (repeat' (first | refine WP.seq ?_ | refine WP.block ?_ | ((first | refine WP.region ?_ | refine WP.condW ?_ | refine WP.ret ?_ | refine WP.exit ?_ | refine WP.skip ?_); simp only [go_sem, tyAll, Nat.reduceAdd, Nat.reduceLT, Nat.reduceLeDiff, Nat.reduceEqDiff, Nat.reduceMul, Nat.reduceSub, Nat.reduceGT, reduceIte, Int.reduceNeg, Int.reduceToNat]) |  refine And.intro ?_ ?_ | intro _))
  all_goals first | omega | skip
  refine WP.loop (fun k : Nat => ⟨[(1, .ptr 1 0 0 0), (8, .sl 3 (N.map encNode)), (9, .v (.int .i64 N.length)), (10, .v (.int .i64 k))], [(1, .box 37 [.sl 3 (N.map encNode)])]⟩) (fun k => k ≤ N.length ∧ ∀ j (hj : j < N.length), j < k → stNode N j N[j] = true) (fun k => N.length - k) 0 (by simp) ?_ ?_
  · (simp only [go_sem, tyAll, Nat.reduceAdd, Nat.reduceLT, Nat.reduceLeDiff, Nat.reduceEqDiff, Nat.reduceMul, Nat.reduceSub, Nat.reduceGT, reduceIte, Int.reduceNeg, Int.reduceToNat] <;> (first | rfl | exact ⟨rfl, rfl⟩ | exact ⟨rfl, rfl, rfl⟩ | exact ⟨rfl, rfl, rfl, rfl⟩ | exact ⟨rfl, rfl, rfl, rfl, rfl⟩ | exact ⟨⟨rfl, rfl⟩, rfl⟩ | simp))
  intro k ⟨hk, hf⟩
  by_cases hlt : k < N.length
  · have h1 := rowAt_map encNode N k hlt
    have hnm := hx.nm hlt
    (repeat' (first | refine WP.seq ?_ | refine WP.block ?_ | ((first | refine WP.region ?_ | refine WP.condW ?_ | refine WP.ret ?_ | refine WP.exit ?_ | refine WP.skip ?_); simp only [go_sem, h1, encNode, encFrame, tyAll, Nat.reduceAdd, Nat.reduceLT, Nat.reduceLeDiff, Nat.reduceEqDiff, Nat.reduceMul, Nat.reduceSub, Nat.reduceGT, reduceIte, Int.reduceNeg, Int.reduceToNat]) |  refine And.intro ?_ ?_ | intro _))
    all_goals first | omega | skip
    · rename_i h
      rw [noFr hlt h]
    rename_i h
    have hl : ((N.map encNode).take k).length = k := by rw [List.length_take, List.length_map]; omega
    refine WP.loop (fun i : Nat => ⟨[(1, .ptr 1 0 0 0), (4, .ptr 4 0 0 0), (8, .sl 3 (N.map encNode)), (9, .v (.int .i64 N.length)), (10, .v (.int .i64 k)), (30, .sl 3 ((N.map encNode).take k)), (31, .v (.int .i64 k)), (32, .v (.int .i64 i))], [(1, .box 37 [.sl 3 (N.map encNode)]), (4, .box 132 (encNode N[k]))]⟩) (fun i => i ≤ k ∧ ∀ j (hj : j < N.length), j < i → N[j] ≠ N[k]) (fun i => k - i) 0 (by simp) ?_ ?_
    · (simp only [go_sem, hl, encNode, tyAll, Nat.reduceAdd, Nat.reduceLT, Nat.reduceLeDiff, Nat.reduceEqDiff, Nat.reduceMul, Nat.reduceSub, Nat.reduceGT, reduceIte, Int.reduceNeg, Int.reduceToNat] <;> (first | rfl | exact ⟨rfl, rfl⟩ | exact ⟨rfl, rfl, rfl⟩ | exact ⟨rfl, rfl, rfl, rfl⟩ | exact ⟨rfl, rfl, rfl, rfl, rfl⟩ | exact ⟨⟨rfl, rfl⟩, rfl⟩ | simp))
    intro i ⟨hi, hg⟩
    by_cases hlt2 : i < k
    · have h2 := rowAt_map encNode N i (by omega)
      have h3 := rowAt_take (N.map encNode) hlt2
      rw [h2] at h3
      (repeat' (first | refine WP.seq ?_ | refine WP.block ?_ | ((first | refine WP.region ?_ | refine WP.condW ?_ | refine WP.ret ?_ | refine WP.exit ?_ | refine WP.skip ?_); simp only [go_sem, h1, h3, hl, encNode, tyAll, Nat.reduceAdd, Nat.reduceLT, Nat.reduceLeDiff, Nat.reduceEqDiff, Nat.reduceMul, Nat.reduceSub, Nat.reduceGT, reduceIte, Int.reduceNeg, Int.reduceToNat]) |  refine And.intro ?_ ?_ | intro _))
      all_goals first | omega | skip
      · rename_i he
        rw [stacksOk_bad hlt (stNode_dup hlt hlt2 (node_eq ⟨he.1.symm, he.2.1.symm, he.2.2.symm⟩))]
      · rename_i he
        refine ⟨i + 1, ⟨by omega, fun j hj hji => ?_⟩, by omega, by (first | rfl | exact ⟨rfl, rfl⟩ | exact ⟨rfl, rfl, rfl⟩ | exact ⟨rfl, rfl, rfl, rfl⟩ | exact ⟨rfl, rfl, rfl, rfl, rfl⟩ | exact ⟨⟨rfl, rfl⟩, rfl⟩ | simp)⟩
        rcases Nat.lt_or_ge j i with hh | hh
        · exact hg j hj hh
        · have : j = i := by omega
          subst this
          exact Ne.symm (node_ne he)
    · (repeat' (first | refine WP.seq ?_ | refine WP.block ?_ | ((first | refine WP.region ?_ | refine WP.condW ?_ | refine WP.ret ?_ | refine WP.exit ?_ | refine WP.skip ?_); simp only [go_sem, tyAll, Nat.reduceAdd, Nat.reduceLT, Nat.reduceLeDiff, Nat.reduceEqDiff, Nat.reduceMul, Nat.reduceSub, Nat.reduceGT, reduceIte, Int.reduceNeg, Int.reduceToNat]) |  refine And.intro ?_ ?_ | intro _))
      all_goals first | omega | skip
      refine ⟨k + 1, ⟨by omega, fun j hj hjk => ?_⟩, by omega, by (first | rfl | exact ⟨rfl, rfl⟩ | exact ⟨rfl, rfl, rfl⟩ | exact ⟨rfl, rfl, rfl, rfl⟩ | exact ⟨rfl, rfl, rfl, rfl, rfl⟩ | exact ⟨⟨rfl, rfl⟩, rfl⟩ | simp)⟩
      rcases Nat.lt_or_ge j k with hh | hh
      · exact hf j hj hh
      · have : j = k := by omega
        subst this
        exact stNode_ok h.1.1 h.1.2 h.2 fun i hi hij => hg i hi (by omega)
  · (repeat' (first | refine WP.seq ?_ | refine WP.block ?_ | ((first | refine WP.region ?_ | refine WP.condW ?_ | refine WP.ret ?_ | refine WP.exit ?_ | refine WP.skip ?_); simp only [go_sem, tyAll, Nat.reduceAdd, Nat.reduceLT, Nat.reduceLeDiff, Nat.reduceEqDiff, Nat.reduceMul, Nat.reduceSub, Nat.reduceGT, reduceIte, Int.reduceNeg, Int.reduceToNat]) |  refine And.intro ?_ ?_ | intro _))
    all_goals first | omega | skip
    rw [stacksOk_all fun j hj => hf j hj (by omega)]
end
def kChild : Ctr := pur (fun args => (stkA args 0, aI args 1, oneFrame (aC args 2))) (fun x => [.agg [.sl 3 (x.1.map encNode)], .v (.int .i64 x.2.1), .agg (encFrame x.2.2)]) (fun x => x.1.length ≤ 4398046511104) (fun _ x => .v (.int .i64 (child x.1 x.2.1 x.2.2))) (fun _ _ => [])
theorem hit_yes {N : List Node} {p : Int} {f : Frame} {k : Nat} (hk : k < N.length) (hf : ∀ j (hj : j < N.length), j < k → hitNode p f N[j] = false) (h : N[k].parent = p ∧ N[k].name = f.name ∧ N[k].line = f.line) : child N p f = k :=
  firstIdx_hit hk hf (by
    obtain ⟨a, b⟩ := f
    simp only at h
    simp [hitNode, nodeFr, h])
theorem hit_no {p : Int} {f : Frame} {x : Node} (h : ¬ x.parent = p ∨ ¬ x.name = f.name ∨ ¬ x.line = f.line) : hitNode p f x = false := by
  obtain ⟨a, b⟩ := f
  simp only at h
  simp only [hitNode, nodeFr, Bool.and_eq_false_iff, decide_eq_false_iff_not, Frame.mk.injEq, not_and]
  rcases h with h | h | h
  · exact .inl h
  · exact .inr fun e => absurd e h
  · exact .inr fun _ => h
theorem cChildS : Cn Tryz.prog 131 kChild := by
  refine Cn.pur Tryz.func131 (by kernel_rfl) rfl fun d x hx => ?_
  obtain ⟨N, p, f⟩ := x
  simp only at hx ⊢
  refine Holds.go (c := cx0) Tryz.func131 rfl Tryz.results131 Tryz.ntmps131 (by omega) (by simp) rfl ?_
  intro X0 w0
  (repeat' (first | refine WP.seq ?_ | refine WP.block ?_ | ((first | refine WP.region ?_ | refine WP.condW ?_ | refine WP.ret ?_ | refine WP.exit ?_ | refine WP.skip ?_); simp only [go_sem, encFrame, tyAll, Nat.reduceAdd, Nat.reduceLT, Nat.reduceLeDiff, Nat.reduceEqDiff, Nat.reduceMul, Nat.reduceSub, Nat.reduceGT, reduceIte, Int.reduceNeg, Int.reduceToNat]) | ((first | refine WP.drawW 18 (by decide +kernel) (by kernel_rfl) ?_); simp only [go_sem, encFrame, tyAll, Nat.reduceAdd, Nat.reduceLT, Nat.reduceLeDiff, Nat.reduceEqDiff, Nat.reduceMul, Nat.reduceSub, Nat.reduceGT, reduceIte, Int.reduceNeg, Int.reduceToNat]) |  refine And.intro ?_ ?_ | intro _))
  all_goals first | omega | skip
  refine WP.loop (fun k : Nat => ⟨[(1, .v (.int .i64 p)), (3, .ptr 3 0 0 0), (5, .ptr 5 0 0 0), (7, .v (.int .i64 k))], [(3, .box 37 [.sl 3 (N.map encNode)]), (5, .box 33 (encFrame f))]⟩) (fun k => k ≤ N.length ∧ ∀ j (hj : j < N.length), j < k → hitNode p f N[j] = false) (fun k => N.length - k) 0 (by simp) ?_ ?_
  · (simp only [go_sem, encFrame, tyAll, Nat.reduceAdd, Nat.reduceLT, Nat.reduceLeDiff, Nat.reduceEqDiff, Nat.reduceMul, Nat.reduceSub, Nat.reduceGT, reduceIte, Int.reduceNeg, Int.reduceToNat] <;> (first | rfl | exact ⟨rfl, rfl⟩ | exact ⟨rfl, rfl, rfl⟩ | exact ⟨rfl, rfl, rfl, rfl⟩ | exact ⟨rfl, rfl, rfl, rfl, rfl⟩ | exact ⟨⟨rfl, rfl⟩, rfl⟩ | simp))
  intro k ⟨hk, hf⟩
  by_cases hlt : k < N.length
  · have h1 := rowAt_map encNode N k hlt
    (repeat' (first | refine WP.seq ?_ | refine WP.block ?_ | ((first | refine WP.region ?_ | refine WP.condW ?_ | refine WP.ret ?_ | refine WP.exit ?_ | refine WP.skip ?_); simp only [go_sem, h1, encNode, encFrame, tyAll, Nat.reduceAdd, Nat.reduceLT, Nat.reduceLeDiff, Nat.reduceEqDiff, Nat.reduceMul, Nat.reduceSub, Nat.reduceGT, reduceIte, Int.reduceNeg, Int.reduceToNat]) | ((first | refine WP.drawW 18 (by decide +kernel) (by kernel_rfl) ?_); simp only [go_sem, h1, encNode, encFrame, tyAll, Nat.reduceAdd, Nat.reduceLT, Nat.reduceLeDiff, Nat.reduceEqDiff, Nat.reduceMul, Nat.reduceSub, Nat.reduceGT, reduceIte, Int.reduceNeg, Int.reduceToNat]) |  refine And.intro ?_ ?_ | intro _))
    all_goals first | omega | skip
    · rename_i he
      rw [hit_yes hlt hf he]
    · rename_i he
      refine ⟨k + 1, ⟨by omega, fun j hj hji => ?_⟩, by omega, by (first | rfl | exact ⟨rfl, rfl⟩ | exact ⟨rfl, rfl, rfl⟩ | exact ⟨rfl, rfl, rfl, rfl⟩ | exact ⟨rfl, rfl, rfl, rfl, rfl⟩ | exact ⟨⟨rfl, rfl⟩, rfl⟩ | simp)⟩
      rcases Nat.lt_or_ge j k with hh | hh
      · exact hf j hj hh
      · have : j = k := by omega
        subst this
        exact hit_no he
  · (repeat' (first | refine WP.seq ?_ | refine WP.block ?_ | ((first | refine WP.region ?_ | refine WP.condW ?_ | refine WP.ret ?_ | refine WP.exit ?_ | refine WP.skip ?_); simp only [go_sem, tyAll, Nat.reduceAdd, Nat.reduceLT, Nat.reduceLeDiff, Nat.reduceEqDiff, Nat.reduceMul, Nat.reduceSub, Nat.reduceGT, reduceIte, Int.reduceNeg, Int.reduceToNat]) | ((first | refine WP.drawW 18 (by decide +kernel) (by kernel_rfl) ?_); simp only [go_sem, tyAll, Nat.reduceAdd, Nat.reduceLT, Nat.reduceLeDiff, Nat.reduceEqDiff, Nat.reduceMul, Nat.reduceSub, Nat.reduceGT, reduceIte, Int.reduceNeg, Int.reduceToNat]) |  refine And.intro ?_ ?_ | intro _))
    all_goals first | omega | skip
    rw [show child N p f = -1 from firstIdx_none fun i hi => hf i hi (by omega)]
theorem cChildI : Cn Tryz.prog 92 kChild := by
  refine Cn.pur Tryz.func92 (by kernel_rfl) rfl fun d x hx => ?_
  obtain ⟨N, p, f⟩ := x
  simp only at hx ⊢
  refine Holds.go (c := cx0) Tryz.func92 rfl Tryz.results92 Tryz.ntmps92 (by omega) (by simp) rfl ?_
  intro X0 w0
  (repeat' (first | refine WP.seq ?_ | refine WP.block ?_ | ((first | refine WP.region ?_ | refine WP.condW ?_ | refine WP.ret ?_ | refine WP.exit ?_ | refine WP.skip ?_); simp only [go_sem, encFrame, tyAll, Nat.reduceAdd, Nat.reduceLT, Nat.reduceLeDiff, Nat.reduceEqDiff, Nat.reduceMul, Nat.reduceSub, Nat.reduceGT, reduceIte, Int.reduceNeg, Int.reduceToNat]) |  refine And.intro ?_ ?_ | intro _))
  all_goals first | omega | skip
  refine WP.loop (fun k : Nat => ⟨[(1, .v (.int .i64 p)), (5, .ptr 5 0 0 0), (10, .sl 3 (N.map encNode)), (11, .v (.int .i64 N.length)), (12, .v (.int .i64 k))], [(5, .box 33 (encFrame f))]⟩) (fun k => k ≤ N.length ∧ ∀ j (hj : j < N.length), j < k → hitNode p f N[j] = false) (fun k => N.length - k) 0 (by simp) ?_ ?_
  · (simp only [go_sem, encFrame, tyAll, Nat.reduceAdd, Nat.reduceLT, Nat.reduceLeDiff, Nat.reduceEqDiff, Nat.reduceMul, Nat.reduceSub, Nat.reduceGT, reduceIte, Int.reduceNeg, Int.reduceToNat] <;> (first | rfl | exact ⟨rfl, rfl⟩ | exact ⟨rfl, rfl, rfl⟩ | exact ⟨rfl, rfl, rfl, rfl⟩ | exact ⟨rfl, rfl, rfl, rfl, rfl⟩ | exact ⟨⟨rfl, rfl⟩, rfl⟩ | simp))
  intro k ⟨hk, hf⟩
  by_cases hlt : k < N.length
  · have h1 := rowAt_map encNode N k hlt
    (repeat' (first | refine WP.seq ?_ | refine WP.block ?_ | ((first | refine WP.region ?_ | refine WP.condW ?_ | refine WP.ret ?_ | refine WP.exit ?_ | refine WP.skip ?_); simp only [go_sem, h1, encNode, encFrame, tyAll, Nat.reduceAdd, Nat.reduceLT, Nat.reduceLeDiff, Nat.reduceEqDiff, Nat.reduceMul, Nat.reduceSub, Nat.reduceGT, reduceIte, Int.reduceNeg, Int.reduceToNat]) |  refine And.intro ?_ ?_ | intro _))
    all_goals first | omega | skip
    · rename_i he
      rw [hit_yes hlt hf he]
    · rename_i he
      refine ⟨k + 1, ⟨by omega, fun j hj hji => ?_⟩, by omega, by (first | rfl | exact ⟨rfl, rfl⟩ | exact ⟨rfl, rfl, rfl⟩ | exact ⟨rfl, rfl, rfl, rfl⟩ | exact ⟨rfl, rfl, rfl, rfl, rfl⟩ | exact ⟨⟨rfl, rfl⟩, rfl⟩ | simp)⟩
      rcases Nat.lt_or_ge j k with hh | hh
      · exact hf j hj hh
      · have : j = k := by omega
        subst this
        exact hit_no he
  · (repeat' (first | refine WP.seq ?_ | refine WP.block ?_ | ((first | refine WP.region ?_ | refine WP.condW ?_ | refine WP.ret ?_ | refine WP.exit ?_ | refine WP.skip ?_); simp only [go_sem, tyAll, Nat.reduceAdd, Nat.reduceLT, Nat.reduceLeDiff, Nat.reduceEqDiff, Nat.reduceMul, Nat.reduceSub, Nat.reduceGT, reduceIte, Int.reduceNeg, Int.reduceToNat]) |  refine And.intro ?_ ?_ | intro _))
    all_goals first | omega | skip
    rw [show child N p f = -1 from firstIdx_none fun i hi => hf i hi (by omega)]
theorem rlNode {N : List Node} {row : List SV} (h : row ∈ N.map encNode) : row.length = 3 := by
  obtain ⟨x, _, rfl⟩ := List.mem_map.1 h; rfl
theorem rlFrame {N : List Frame} {row : List SV} (h : row ∈ N.map encFrame) : row.length = 2 := by
  obtain ⟨x, _, rfl⟩ := List.mem_map.1 h; rfl
theorem rlI {N : List Int} {row : List SV} (h : row ∈ N.map encI) : row.length = 1 := by
  obtain ⟨x, _, rfl⟩ := List.mem_map.1 h; rfl
theorem rlEntry {N : List Entry} {row : List SV} (h : row ∈ N.map encEntry) : row.length = 2 := by
  obtain ⟨x, _, rfl⟩ := List.mem_map.1 h; rfl
def kCopyStk : Ctr := pur (fun args => stkA args 0) (fun N => [.agg [.sl 3 (N.map encNode)]]) (fun N => N.length ≤ 4398046511104) (fun d _ => .agg [.own d]) (fun d N => [(d, .sl 132 3 (N.map encNode))])
theorem cCopyStkS : Cn Tryz.prog 130 kCopyStk := by
  refine Cn.pur Tryz.func130 (by kernel_rfl) rfl fun d x hx => ?_
  rename List Node => N
  refine Holds.go (c := cx0) Tryz.func130 rfl Tryz.results130 Tryz.ntmps130 (by omega) (by simp) rfl ?_
  intro X0 w0
  (repeat' (first | refine WP.seq ?_ | refine WP.block ?_ | ((first | refine WP.region ?_ | refine WP.condW ?_ | refine WP.ret ?_ | refine WP.exit ?_ | refine WP.skip ?_); simp only [go_sem, tyAll, Nat.reduceAdd, Nat.reduceLT, Nat.reduceLeDiff, Nat.reduceEqDiff, Nat.reduceMul, Nat.reduceSub, Nat.reduceGT, reduceIte, Int.reduceNeg, Int.reduceToNat]) |  refine And.intro ?_ ?_ | intro _))
  all_goals first | omega | exact rlNode ‹_› | exact ⟨_, _, rfl, _, _, rfl, rfl⟩ | skip
theorem cCopyStkI : Cn Tryz.prog 90 kCopyStk := by
  refine Cn.pur Tryz.func90 (by kernel_rfl) rfl fun d x hx => ?_
  rename List Node => N
  refine Holds.go (c := cx0) Tryz.func90 rfl Tryz.results90 Tryz.ntmps90 (by omega) (by simp) rfl ?_
  intro X0 w0
  (repeat' (first | refine WP.seq ?_ | refine WP.block ?_ | ((first | refine WP.region ?_ | refine WP.condW ?_ | refine WP.ret ?_ | refine WP.exit ?_ | refine WP.skip ?_); simp only [go_sem, tyAll, Nat.reduceAdd, Nat.reduceLT, Nat.reduceLeDiff, Nat.reduceEqDiff, Nat.reduceMul, Nat.reduceSub, Nat.reduceGT, reduceIte, Int.reduceNeg, Int.reduceToNat]) |  refine And.intro ?_ ?_ | intro _))
  all_goals first | omega | exact rlNode ‹_› | exact ⟨_, _, rfl, _, _, rfl, rfl⟩ | skip
end
end Go.Proofs.YtahcfcimfcjhhaaGreatDoor
