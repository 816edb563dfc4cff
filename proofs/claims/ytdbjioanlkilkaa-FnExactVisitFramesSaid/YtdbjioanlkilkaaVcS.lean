/-
  DERIVED. A region whose order Go leaves open and whose operations make objects: the theorem.
-/
import Derived.Test.YtdbjioanlkilkaaVcQ
namespace Go.Vc
set_option linter.unusedVariables false
set_option linter.unusedSimpArgs false

theorem killL_keep {st : St} {t : Nat} {x : SV} : ∀ {ids : List Nat}, (∀ d ∈ ids, x.kill d = x) → lk t st.fr = some x → lk t (st.killL ids).fr = some x
  | [], _, h => h
  | d :: l, hk, h => by
    have ih := killL_keep (fun e he => hk e (List.mem_cons_of_mem _ he)) h
    simp only [St.killL, St.kill, lk_map, ih, Option.map_some, hk d List.mem_cons_self]
theorem killL_keepO {st : St} {t : Nat} {x : Ob} : ∀ {ids : List Nat}, (∀ d ∈ ids, d ≠ t ∧ x.kill d = x) → lk t st.hp = some x → lk t (st.killL ids).hp = some x
  | [], _, h => h
  | d :: l, hk, h => by
    have ih := killL_keepO (fun e he => hk e (List.mem_cons_of_mem _ he)) h
    have h1 := hk d List.mem_cons_self
    rw [show St.killL st (d :: l) = (st.killL l).kill d from rfl, lk_kill_ne (Ne.symm h1.1), ih]
    simp only [Option.map_some, h1.2]
theorem lk_flatMap {α β : Type} {t : Nat} {x : β} {g : α → List (Nat × β)} : ∀ {l : List α}, lk t (l.flatMap g) = some x → ∃ e ∈ l, lk t (g e) = some x
  | e :: l, h => by
    rw [List.flatMap_cons, lk_append] at h
    cases hq : lk t (g e) with
    | some y => rw [hq] at h; cases h; exact ⟨e, List.mem_cons_self, hq⟩
    | none =>
      rw [hq] at h
      obtain ⟨e', h1, h2⟩ := lk_flatMap (l := l) h
      exact ⟨e', List.mem_cons_of_mem _ h1, h2⟩
theorem lk_app {α : Type} {t : Nat} {x : α} {l l2 : List (Nat × α)} (h : lk t (l ++ l2) = some x) : lk t l = some x ∨ lk t l2 = some x := by
  rw [lk_append] at h
  cases hq : lk t l with
  | some y => rw [hq] at h; cases h; exact .inl rfl
  | none => rw [hq] at h; exact .inr h

section
variable {c : Cx} {N : Nat} {X0 : Nat → Prop} {M : Nat → BV → Prop} {w0 : World} {K : Exit → St → Prop}

/-- behind the first m: one after the other -/
theorem flow_tail (hAp : Ap c.P X0 M w0) {ops : Array Oper} {m : Nat} {fl : List Fp} (hB : FlowOk ops m fl) : ∀ (fuel p : Nat) (listed : Array Bool) (st : St) (β : Nat → BV) (a : Act) (w : World), p + fuel = ops.size → m ≤ p → listed.size = ops.size → Closed fl ops.size listed →
    (∀ j, j < ops.size → listed.getD j false = decide (j < p)) → Sim N X0 M w0 st β a w → St.runR c.tys c.C N ops (ops.toList.drop p) st (K .normal) →
    wpAny c.P .any ops (fun e a' w' => Ok N X0 M w0 (K e) a' w') fuel listed a w
  | 0, p, listed, st, β, a, w, hp, hm, hsz, hcl, hl, hs, hr => by
    have hd : ops.toList.drop p = [] := List.drop_eq_nil_of_le (by simp; omega)
    rw [hd] at hr
    refine ⟨?_, st, β, hr, hs⟩
    rw [List.eq_nil_iff_forall_not_mem]
    intro i hi
    obtain ⟨h1, h2, _⟩ := mem_ready'.1 hi
    have h3 := hl i h1
    rw [Array.getD_eq_getD_getElem?] at h2 h3
    rw [Array.getElem?_eq_getElem (by omega)] at h2 h3
    simp only [Option.getD_some] at h2 h3
    rw [h2] at h3
    have : i < p := by omega
    simp [this] at h3
  | fuel + 1, p, listed, st, β, a, w, hp, hm, hsz, hcl, hl, hs, hr => by
    have hpl : p < ops.size := by omega
    have hgT : ∀ j, j < ops.size → listed.getD j true = decide (j < p) := fun j hj => by
      have := hl j hj
      rw [Array.getD_eq_getD_getElem?, Array.getElem?_eq_getElem (by omega)] at this ⊢
      exact this
    have ho : ops[p]? = some (ops[p]'hpl) := Array.getElem?_eq_getElem hpl
    have hrdy : p ∈ Region.ready .any ops listed := mem_ready'.2 ⟨hpl, by rw [hgT p hpl]; simp, _, ho, deps_ready (i := p) (ops := ops) fun e he => by
      have := hB.back p _ ho e he
      rw [hl e (by omega)]; simpa using this⟩
    refine ⟨fun h => (by rw [h] at hrdy; cases hrdy), fun i hi => ?_⟩
    obtain ⟨h1, h2, o, hoi, h3⟩ := mem_ready'.1 hi
    have hip : i = p := by
      rw [hgT i h1] at h2
      have hge : p ≤ i := by simpa using h2
      rcases Nat.lt_or_ge p i with hlt | hle
      · have := hcl.anc hB hoi h3 p (hB.tail i o (by omega) hoi p hlt)
        rw [hl p hpl] at this
        simp at this
      · omega
    subst hip
    have hdrop : ops.toList.drop i = o :: ops.toList.drop (i + 1) := by
      rw [List.drop_eq_getElem_cons (by simpa using hpl)]
      congr 1
      rw [ho] at hoi
      simpa using hoi
    rw [hdrop] at hr
    have hst := step_sound (Q := fun e a' w' => Ok N X0 M w0 (K e) a' w') hAp c.hty c.hC hs (ops := ops) hr
    have hnext : ∀ a' w', Ok N X0 M w0 (fun st' => St.runR c.tys c.C N ops (ops.toList.drop (i + 1)) st' (K .normal)) a' w' → wpAny c.P .any ops (fun e a' w' => Ok N X0 M w0 (K e) a' w') fuel (listed.setIfInBounds i true) a' w' := fun a' w' hk => by
      obtain ⟨st', β', h4, h5⟩ := hk
      refine flow_tail hAp hB fuel (i + 1) _ st' β' a' w' (by omega) (by omega) (by simpa using hsz) (hcl.step hB hsz hoi h3) (fun j hj => ?_) h5 h4
      rw [getD_set _ _ _ _ (by omega)]
      by_cases hji : j = i
      · subst hji; simp
      · rw [if_neg hji, hl j hj]
        congr 1
        apply propext
        omega
    unfold wpOp
    rw [hoi]
    simp only
    split
    · rename_i hw; rw [if_pos hw] at hst; exact .inl (Oper.wp_mono hnext hst)
    · rename_i hw; rw [if_neg hw] at hst; exact hnext _ _ hst

theorem count_set {listed : Array Bool} {n i : Nat} (hsz : listed.size = n) (hi : i < n) (h2 : listed.getD i false = false) :
    (List.range n).countP (fun j => !listed.getD j false) = (List.range n).countP (fun j => !(listed.setIfInBounds i true).getD j false) + 1 := by
  have key : ∀ l : List Nat, l.Nodup → i ∈ l → l.countP (fun j => !listed.getD j false) = l.countP (fun j => !(listed.setIfInBounds i true).getD j false) + 1 := by
    intro l hn hm
    induction l with
    | nil => cases hm
    | cons q l ihl =>
      rw [List.nodup_cons] at hn
      simp only [List.countP_cons]
      rw [getD_set _ _ _ _ (by omega)]
      by_cases hq : q = i
      · subst hq
        have hno : l.countP (fun j => !listed.getD j false) = l.countP (fun j => !(listed.setIfInBounds q true).getD j false) := by
          apply List.countP_congr
          intro j hj
          rw [getD_set _ _ _ _ (by omega), if_neg (fun e => hn.1 (by rw [← e]; exact hj))]
        rw [h2, hno]; simp
      · have hm' : i ∈ l := by
          rcases List.mem_cons.1 hm with e | e
          · exact absurd e.symm hq
          · exact e
        rw [if_neg hq, ihl hn.2 hm']; omega
  exact key (List.range n) List.nodup_range (List.mem_range.2 hi)

theorem flow_head (hAp : Ap c.P X0 M w0) {ops : Array Oper} {m : Nat} {fl : List Fp} (hB : FlowOk ops m fl) {base : St} {F : Nat → Nat × Dl} {gs : List Nat}
    (hF : ∀ k o, k < m → ops[k]? = some o → (base.least ((List.range k).map fun q => (q, F q)) (fpAt fl k)).dlt c.tys c.C N ops o (F k).1 (F k).2 ∧ ((fpAt fl k).lks.all fun t => (lk t (base.least ((List.range k).map fun q => (q, F q)) (fpAt fl k)).fr).isSome) = true ∧ dlOk (fpAt fl k) (F k).2)
    (hb1 : ∀ t x, lk t base.fr = some x → (∀ k, k < m → dstAt ops k ≠ some t) ∧ ∀ k, k < m → ∀ d ∈ (fpAt fl k).mks, x.kill d = x)
    (hb2 : ∀ id ob, lk id base.hp = some ob → ∀ k, k < m → ∀ d ∈ (fpAt fl k).mks, d ≠ id ∧ ob.kill d = ob) (hgs : ∀ k, k < m → ∀ d ∈ (fpAt fl k).gn, d ∈ gs)
    (hr : St.runR c.tys c.C N ops (ops.toList.drop m) (base.final ((List.range m).map fun q => (q, F q)) gs) (K .normal)) : ∀ (fuel : Nat) (listed : Array Bool) (st' : St) (β : Nat → BV) (a : Act) (w : World), listed.size = ops.size →
    (∀ j, m ≤ j → j < ops.size → listed.getD j false = false) → fuel = (List.range ops.size).countP (fun j => !listed.getD j false) → Closed fl ops.size listed → Sim N X0 M w0 st' β a w →
    (∀ t x, lk t base.fr = some x → (∀ d, (∃ j, j < m ∧ listed.getD j false = true ∧ d ∈ (fpAt fl j).gn) → x.kill d = x) → lk t st'.fr = some x) →
    (∀ k, k < m → listed.getD k false = true → (∀ d, (∃ j, j < m ∧ listed.getD j false = true ∧ d ∈ (fpAt fl j).gn) → (F k).2.x.kill d = (F k).2.x) → lk (F k).1 st'.fr = some (F k).2.x) →
    (∀ id ob, lk id base.hp = some ob → (∀ d, (∃ j, j < m ∧ listed.getD j false = true ∧ d ∈ (fpAt fl j).gn) → d ≠ id ∧ ob.kill d = ob) → lk id st'.hp = some ob) →
    (∀ k, k < m → listed.getD k false = true → ∀ id ob, lk id (F k).2.made = some ob → (∀ d, (∃ j, j < m ∧ listed.getD j false = true ∧ d ∈ (fpAt fl j).gn) → d ≠ id ∧ ob.kill d = ob) → lk id st'.hp = some ob) →
    wpAny c.P .any ops (fun e a' w' => Ok N X0 M w0 (K e) a' w') fuel listed a w := by
  have hdst : ∀ k, k < m → dstAt ops k = some (F k).1 := fun k hk => by
    have hks : k < ops.size := by have := hB.le; omega
    have ho : ops[k]? = some (ops[k]'hks) := Array.getElem?_eq_getElem hks
    have := (hF k _ hk ho).1.1
    unfold dstAt
    rw [ho]; exact this
  -- where all of the first m have come up
  have hlast : ∀ (fuel : Nat) (listed : Array Bool) (st' : St) (β : Nat → BV) (a : Act) (w : World), m + fuel = ops.size → listed.size = ops.size → Closed fl ops.size listed → (∀ j, j < ops.size → listed.getD j false = decide (j < m)) → Sim N X0 M w0 st' β a w →
      (∀ t x, lk t base.fr = some x → (∀ d, (∃ j, j < m ∧ listed.getD j false = true ∧ d ∈ (fpAt fl j).gn) → x.kill d = x) → lk t st'.fr = some x) →
      (∀ k, k < m → listed.getD k false = true → (∀ d, (∃ j, j < m ∧ listed.getD j false = true ∧ d ∈ (fpAt fl j).gn) → (F k).2.x.kill d = (F k).2.x) → lk (F k).1 st'.fr = some (F k).2.x) →
      (∀ id ob, lk id base.hp = some ob → (∀ d, (∃ j, j < m ∧ listed.getD j false = true ∧ d ∈ (fpAt fl j).gn) → d ≠ id ∧ ob.kill d = ob) → lk id st'.hp = some ob) →
      (∀ k, k < m → listed.getD k false = true → ∀ id ob, lk id (F k).2.made = some ob → (∀ d, (∃ j, j < m ∧ listed.getD j false = true ∧ d ∈ (fpAt fl j).gn) → d ≠ id ∧ ob.kill d = ob) → lk id st'.hp = some ob) →
      wpAny c.P .any ops (fun e a' w' => Ok N X0 M w0 (K e) a' w') fuel listed a w := by
    intro fuel listed st' β a w hfu hsz hcl hl hs I1 I2 I3 I4
    refine flow_tail (c := c) hAp hB fuel m listed _ β a w hfu (Nat.le_refl _) hsz hcl hl (hs.less (st' := base.final ((List.range m).map fun q => (q, F q)) gs) (fun t x hx => ?_) (fun id ob hx => ?_)) hr
    · obtain ⟨h1, h2⟩ := hide_fr hx
      have hG : ∀ d, (∃ j, j < m ∧ listed.getD j false = true ∧ d ∈ (fpAt fl j).gn) → x.kill d = x := fun d ⟨j, hj, _, hd⟩ => h2 d (hgs j hj d hd)
      rcases lk_app h1 with h1 | h1
      · have hm := lk_mem h1
        simp only [List.map_map, List.mem_map, List.mem_range, Function.comp_apply] at hm
        obtain ⟨k, hk, e⟩ := hm
        injection e with e1 e2
        subst e1 e2
        exact I2 k hk (by rw [hl k (by have := hB.le; omega)]; simpa using hk) hG
      · exact I1 t x h1 hG
    · obtain ⟨h1, h2⟩ := hide_hp hx
      have hG : ∀ d, (∃ j, j < m ∧ listed.getD j false = true ∧ d ∈ (fpAt fl j).gn) → d ≠ id ∧ ob.kill d = ob := fun d ⟨j, hj, _, hd⟩ => h2 d (hgs j hj d hd)
      rcases lk_app h1 with h1 | h1
      · obtain ⟨e, he, h3⟩ := lk_flatMap h1
        obtain ⟨k, hk, rfl⟩ := List.mem_map.1 he
        have hk := List.mem_range.1 hk
        exact I4 k hk (by rw [hl k (by have := hB.le; omega)]; simpa using hk) id ob h3 hG
      · exact I3 id ob h1 hG
  intro fuel
  induction fuel with
  | zero =>
    intro listed st' β a w hsz hsuf hf hcl hs I1 I2 I3 I4
    have hall : ∀ j, j < ops.size → listed.getD j false = true := fun j hj => by
      have : (List.range ops.size).countP (fun j => !listed.getD j false) = 0 := hf.symm
      rw [List.countP_eq_zero] at this
      have := this j (List.mem_range.2 hj)
      simpa using this
    have hm : m = ops.size := by
      rcases Nat.lt_or_ge m ops.size with h | h
      · have := hall m h; rw [hsuf m (Nat.le_refl _) h] at this; cases this
      · have := hB.le; omega
    exact hlast 0 listed st' β a w (by omega) hsz hcl (fun j hj => by rw [hall j hj]; simp; omega) hs I1 I2 I3 I4
  | succ fuel ih =>
    intro listed st' β a w hsz hsuf hf hcl hs I1 I2 I3 I4
    have hgT : ∀ j, j < ops.size → listed.getD j true = listed.getD j false := fun j hj => by
      rw [Array.getD_eq_getD_getElem?, Array.getD_eq_getD_getElem?, Array.getElem?_eq_getElem (by omega)]; rfl
    have hex : ∃ p, p < ops.size ∧ listed.getD p false = false := by
      have h1 : 0 < (List.range ops.size).countP (fun j => !listed.getD j false) := by omega
      obtain ⟨p, hp, hq⟩ := List.countP_pos_iff.1 h1
      exact ⟨p, List.mem_range.1 hp, by simpa using hq⟩
    obtain ⟨p, ⟨hp, hpf⟩, hmin⟩ := least hex
    have hrdy : p ∈ Region.ready .any ops listed := mem_ready'.2 ⟨hp, by rw [hgT p hp]; exact hpf, _, Array.getElem?_eq_getElem hp, deps_ready (i := p) (ops := ops) fun e he => by
      have hlt := hB.back p _ (Array.getElem?_eq_getElem hp) e he
      cases hh : listed.getD e false with
      | true => rfl
      | false => have := hmin e ⟨by omega, hh⟩; omega⟩
    have hwhole : (∀ j, j < m → listed.getD j false = true) → wpAny c.P .any ops (fun e a' w' => Ok N X0 M w0 (K e) a' w') (fuel + 1) listed a w := fun hbefore => by
      have hl : ∀ j, j < ops.size → listed.getD j false = decide (j < m) := fun j hj => by
        rcases Nat.lt_or_ge j m with h | h
        · rw [hbefore j h]; simp [h]
        · rw [hsuf j h hj]; simp; omega
      have hcount : fuel + 1 = ops.size - m := by
        rw [hf]
        have : (List.range ops.size).countP (fun j => !listed.getD j false) = (List.range ops.size).countP (fun j => decide (m ≤ j)) := by
          apply List.countP_congr
          intro j hj
          rw [hl j (List.mem_range.1 hj)]
          simp
        rw [this]
        have key : ∀ n, (List.range n).countP (fun j => decide (m ≤ j)) = n - m := by
          intro n
          induction n with
          | zero => simp
          | succ n ihn =>
            rw [List.range_succ, List.countP_append, ihn]
            by_cases hh : m ≤ n
            · simp [hh]; omega
            · simp [hh]; omega
        exact key _
      exact hlast (fuel + 1) listed st' β a w (by have := hB.le; omega) hsz hcl hl hs I1 I2 I3 I4
    refine ⟨fun h => (by rw [h] at hrdy; cases hrdy), fun i hi => ?_⟩
    obtain ⟨h1, h2, o, hoi, h3⟩ := mem_ready'.1 hi
    rw [hgT i h1] at h2
    rcases Nat.lt_or_ge i m with him | him
    · -- one of the first m
      obtain ⟨hd, hlks, hok⟩ := hF i o him hoi
      have hanc := hcl.anc hB hoi h3
      have hGx : ∀ d, (∃ j, j < m ∧ listed.getD j false = true ∧ d ∈ (fpAt fl j).gn) → d ∈ (fpAt fl i).gx := fun d ⟨j, hj, hlj, hd⟩ =>
        hB.gx i j him hj (fun e => by subst e; rw [h2] at hlj; cases hlj) (fun ha => by have := hcl j (by have := hB.le; omega) hlj i ha; rw [h2] at this; cases this) d hd
      have hWf : ∀ t x, lk t (base.least ((List.range i).map fun q => (q, F q)) (fpAt fl i)).fr = some x → lk t st'.fr = some x := fun t x hx => by
        obtain ⟨e1, e2⟩ := hide_fr hx
        have hG : ∀ d, (∃ j, j < m ∧ listed.getD j false = true ∧ d ∈ (fpAt fl j).gn) → x.kill d = x := fun d hd => e2 d (hGx d hd)
        rcases lk_app e1 with e1 | e1
        · have hm := lk_mem e1
          obtain ⟨e, he, e3⟩ := List.mem_map.1 hm
          obtain ⟨he1, he2⟩ := List.mem_filter.1 he
          obtain ⟨k, hk, rfl⟩ := List.mem_map.1 he1
          injection e3 with e4 e5
          subst e4 e5
          exact I2 k (by have := List.mem_range.1 hk; omega) (hanc k (List.contains_iff_mem.1 he2)) hG
        · exact I1 t x e1 hG
      have hWh : ∀ id ob, lk id (base.least ((List.range i).map fun q => (q, F q)) (fpAt fl i)).hp = some ob → lk id st'.hp = some ob := fun id ob hx => by
        obtain ⟨e1, e2⟩ := hide_hp hx
        have hG : ∀ d, (∃ j, j < m ∧ listed.getD j false = true ∧ d ∈ (fpAt fl j).gn) → d ≠ id ∧ ob.kill d = ob := fun d hd => e2 d (hGx d hd)
        rcases lk_app e1 with e1 | e1
        · obtain ⟨e, he, e3⟩ := lk_flatMap e1
          obtain ⟨he1, he2⟩ := List.mem_filter.1 he
          obtain ⟨k, hk, rfl⟩ := List.mem_map.1 he1
          exact I4 k (by have := List.mem_range.1 hk; omega) (hanc k (List.contains_iff_mem.1 he2)) id ob e3 hG
        · exact I3 id ob e1 hG
      have hd' : st'.dlt c.tys c.C N ops o (F i).1 (F i).2 := dlt_mono (fun t ht => by
        have := List.all_eq_true.1 hlks t (hB.looks i o him hoi t ht)
        obtain ⟨x, hx⟩ := Option.isSome_iff_exists.1 this
        unfold St.get
        rw [hx, hWf t x hx]) hWh hd
      have hst := dlt_sound (Q := fun e a' w' => Ok N X0 M w0 (K e) a' w') hAp c.hty c.hC hs (ops := ops) hd'
      obtain ⟨k1, k2, k3, k4⟩ := hok
      have hids : (F i).2.ids = (fpAt fl i).mks ++ (fpAt fl i).gn := by unfold Dl.ids; rw [k1, k2]
      have hmade : ∀ id, id ∉ (fpAt fl i).mks → lk id (F i).2.made = none := fun id hid => lk_none (by rw [k2]; exact hid)
      have havk : ∀ k, k < m → k ≠ i → listed.getD k false = true → ∀ d ∈ (fpAt fl i).mks, d ∈ (fpAt fl k).av := fun k hk hne hlk d hd =>
        hB.av k i hk him (Ne.symm hne) (fun ha => by have := hcl k (by have := hB.le; omega) hlk i ha; rw [h2] at this; cases this) d hd
      have hG' : ∀ {Q : Nat → Prop}, (∀ d, (∃ j, j < m ∧ (listed.setIfInBounds i true).getD j false = true ∧ d ∈ (fpAt fl j).gn) → Q d) → (∀ d, (∃ j, j < m ∧ listed.getD j false = true ∧ d ∈ (fpAt fl j).gn) → Q d) ∧ ∀ d ∈ (fpAt fl i).gn, Q d := fun {Q} hq =>
        ⟨fun d ⟨j, hj, hlj, hd⟩ => hq d ⟨j, hj, by rw [getD_set _ _ _ _ (by omega)]; split <;> first | rfl | exact hlj, hd⟩, fun d hd => hq d ⟨i, him, by rw [getD_set _ _ _ _ (by omega), if_pos rfl], hd⟩⟩
      have hnext : ∀ a' w', Ok N X0 M w0 (fun st2 => st2 = st'.dapp (F i).1 (F i).2) a' w' → wpAny c.P .any ops (fun e a' w' => Ok N X0 M w0 (K e) a' w') fuel (listed.setIfInBounds i true) a' w' := fun a' w' hk => by
        obtain ⟨st2, β', rfl, h5⟩ := hk
        refine ih _ _ β' a' w' (by simpa using hsz) (fun j hj hjn => ?_) ?_ (hcl.step hB hsz hoi h3) h5 (fun t x hx hG => ?_) (fun k hk hlk hG => ?_) (fun id ob hx hG => ?_) (fun k hk hlk id ob hx hG => ?_)
        · rw [getD_set _ _ _ _ (by omega), if_neg (by omega)]; exact hsuf j hj hjn
        · have := count_set hsz h1 h2; omega
        · obtain ⟨g1, g2⟩ := hG' hG
          obtain ⟨q1, q2⟩ := hb1 t x hx
          have hne : t ≠ (F i).1 := fun e => q1 i him (by rw [hdst i him, e])
          simp only [St.dapp, lk, if_neg hne, lk_er_ne hne]
          refine killL_keep (fun d hd => ?_) (I1 t x hx g1)
          rw [hids] at hd
          rcases List.mem_append.1 hd with h | h
          · exact q2 i him d h
          · exact g2 d h
        · obtain ⟨g1, g2⟩ := hG' hG
          by_cases hki : k = i
          · subst hki; simp [St.dapp, lk]
          · rw [getD_set _ _ _ _ (by omega), if_neg hki] at hlk
            have hne : (F k).1 ≠ (F i).1 := fun e => hB.apart i k him hk (Ne.symm hki) (by rw [hdst i him, hdst k hk, e])
            simp only [St.dapp, lk, if_neg hne, lk_er_ne hne]
            refine killL_keep (fun d hd => ?_) (I2 k hk hlk g1)
            rw [hids] at hd
            rcases List.mem_append.1 hd with h | h
            · have hks : k < ops.size := by have := hB.le; omega
              exact refs_kill (havk k hk hki hlk d h) (hF k _ hk (Array.getElem?_eq_getElem hks)).2.2.2.2.1
            · exact g2 d h
        · obtain ⟨g1, g2⟩ := hG' hG
          have q := hb2 id ob hx i him
          have hnm : id ∉ (fpAt fl i).mks := fun hin => (q id hin).1 rfl
          show lk id ((F i).2.made ++ _) = _
          rw [lk_append, hmade id hnm]
          refine killL_keepO (fun d hd => ?_) (I3 id ob hx g1)
          rw [hids] at hd
          rcases List.mem_append.1 hd with h | h
          · exact q d h
          · exact g2 d h
        · obtain ⟨g1, g2⟩ := hG' hG
          show lk id ((F i).2.made ++ _) = _
          by_cases hki : k = i
          · subst hki; rw [lk_append, hx]; rfl
          · rw [getD_set _ _ _ _ (by omega), if_neg hki] at hlk
            have hks : k < ops.size := by have := hB.le; omega
            have hokk := (hF k _ hk (Array.getElem?_eq_getElem hks)).2.2
            have hidk : id ∈ (fpAt fl k).mks := by rw [← hokk.2.1]; exact List.mem_map.2 ⟨(id, ob), lk_mem hx, rfl⟩
            have hnm : id ∉ (fpAt fl i).mks := hB.mks i k him hk hki id hidk
            rw [lk_append, hmade id hnm]
            refine killL_keepO (fun d hd => ?_) (I4 k hk hlk id ob hx g1)
            rw [hids] at hd
            rcases List.mem_append.1 hd with h | h
            · refine ⟨fun e => hnm (e ▸ h), Ob.refs_kill (havk k hk hki hlk d h) ?_⟩
              have := List.all_eq_true.1 hokk.2.2.2 (id, ob) (lk_mem hx)
              simpa using this
            · exact g2 d h
      unfold wpOp
      rw [hoi]
      simp only
      split
      · rename_i hw; rw [if_pos hw] at hst; exact .inl (Oper.wp_mono hnext hst)
      · rename_i hw; rw [if_neg hw] at hst; exact hnext _ _ hst
    · -- all of the first m have come up
      exact (hwhole fun j hj => hcl.anc hB hoi h3 j (hB.tail i o him hoi j (by omega))).2 i hi

/-- **A region whose order is open, and that makes objects.** ds: the slots that its first m operations write; mks: the objects that they make; gs: those that they end. -/
theorem WP.flow {id : Nat} {l : List Oper} {st : St} (m : Nat) (fl : List Fp) (ds mks gs : List Nat) (hB : flowB l.toArray m fl = true)
    (hD : ((List.range m).all fun k => match dstAt l.toArray k with | some d => ds.contains d | none => false) = true)
    (hM : ((List.range m).all fun k => ((fpAt fl k).mks.all fun d => mks.contains d) && ((fpAt fl k).gn.all fun d => gs.contains d)) = true) (hm : c.P.follows .mixedOrders = true)
    (h : St.runF c.tys c.C N l.toArray fl (st.clean ds mks) (l.take m) 0 [] fun acc => St.runR c.tys c.C N l.toArray (l.drop m) ((st.clean ds mks).final acc gs) (K .normal)) : WP c N X0 M w0 (.region id l.toArray true) st K := by
  intro hA β a w hs
  have hD0 := flowB_ok hB
  obtain ⟨F, h1, h2⟩ := runF_acc _ _ _ h
  have hlen : (l.take m).length = m := by
    have := hD0.le
    simp at this ⊢
    omega
  rw [hlen] at h1
  simp only [List.nil_append, Nat.zero_add] at h1 h2
  have hcl0 : ∀ t x, lk t (st.clean ds mks).fr = some x → lk t st.fr = some x ∧ t ∉ ds ∧ ∀ d ∈ mks, x.kill d = x := fun t x hx => by
    obtain ⟨e1, e2⟩ := hide_fr hx
    obtain ⟨e3, e4⟩ := offK_lk e1
    exact ⟨e3, e4, e2⟩
  have hMk : ∀ k, k < m → (∀ d ∈ (fpAt fl k).mks, d ∈ mks) ∧ ∀ d ∈ (fpAt fl k).gn, d ∈ gs := fun k hk => by
    have := List.all_eq_true.1 hM k (List.mem_range.2 hk)
    simp only [Bool.and_eq_true, List.all_eq_true] at this
    exact ⟨fun d hd => List.contains_iff_mem.1 (this.1 d hd), fun d hd => List.contains_iff_mem.1 (this.2 d hd)⟩
  refine wp_region_any hm (flow_head (c := c) (K := K) hA hD0 (base := st.clean ds mks) (F := F) (gs := gs) (fun k o hk ho => ?_) (fun t x hx => ⟨fun k hk e => ?_, fun k hk d hd => (hcl0 t x hx).2.2 d ((hMk k hk).1 d hd)⟩) (fun t ob hx k hk d hd => (hide_hp hx).2 d ((hMk k hk).1 d hd)) (fun k hk => (hMk k hk).2) ?_
    l.toArray.size (Array.replicate l.toArray.size false) (st.clean ds mks) β a _ (by simp) (fun j _ hj => ?_) ?_ (fun b hb hl => ?_) ?_ (fun t x hx _ => hx) (fun k hk hl => ?_) (fun t ob hx _ => hx) (fun k hk hl => ?_))
  · have : (l.take m)[k]? = some o := by rw [List.getElem?_take_of_lt hk]; simpa using ho
    exact h2 k o this
  · have := List.all_eq_true.1 hD k (List.mem_range.2 hk)
    rw [e] at this
    exact (hcl0 t x hx).2.1 (List.contains_iff_mem.1 this)
  · exact h1
  · rw [Array.getD_eq_getD_getElem?, Array.getElem?_replicate]; split <;> rfl
  · have : (List.range l.toArray.size).countP (fun j => !(Array.replicate l.toArray.size false).getD j false) = (List.range l.toArray.size).countP (fun _ => true) := by
      apply List.countP_congr
      intro j hj
      rw [Array.getD_eq_getD_getElem?, Array.getElem?_replicate]; split <;> simp
    rw [this]; simp
  · rw [Array.getD_eq_getD_getElem?, Array.getElem?_replicate] at hl
    split at hl <;> cases hl
  · exact (hs.grow ((Go.RowKit.Below.refl _ _).drew) (fun b _ hb => .inl hb) hs.x0).less (fun t x hx => (hcl0 t x hx).1) (fun t ob hx => (hide_hp hx).1)
  · rw [Array.getD_eq_getD_getElem?, Array.getElem?_replicate] at hl
    split at hl <;> cases hl
  · rw [Array.getD_eq_getD_getElem?, Array.getElem?_replicate] at hl
    split at hl <;> cases hl
end
end Go.Vc
