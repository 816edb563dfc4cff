/-
  DERIVED. Bodies of functions that write into what they are lent; numbers anew; lists that are shared from here on.
-/
import Derived.Test.YtdbjioanlkilkaaVcI
namespace Go.Vc
set_option linter.unusedVariables false
set_option linter.unusedSimpArgs false

def St.mvL (st : St) : List (Nat × Nat) → St
  | [] => st
  | (i, j) :: l => (st.mv i j).mvL l
/-- lists shared from here on, then other numbers -/
def St.prep (fz : List Nat) (rn : List (Nat × Nat)) (st : St) : St := (st.fzL fz).mvL rn
def rnOk (rn : List (Nat × Nat)) : Bool := rn.all fun p => decide (p.2 < 1000000) && p.1 != p.2

section
variable {c : Cx} {N : Nat} {X0 : Nat → Prop} {M : Nat → BV → Prop} {w0 : World} {st : St} {K : Exit → St → Prop}

theorem Sim.mvL {a : Act} {w : World} : ∀ {rn : List (Nat × Nat)} {s1 : St} {β : Nat → BV}, rnOk rn = true → Sim N X0 M w0 s1 β a w → ∃ β', Sim N X0 M w0 (s1.mvL rn) β' a w
  | [], s1, β, _, h => ⟨β, h⟩
  | (i, j) :: rn, s1, β, hr, h => by
    unfold rnOk at hr
    rw [List.all_cons, Bool.and_eq_true] at hr
    have h0 := hr.1
    simp only [Bool.and_eq_true, decide_eq_true_eq, bne_iff_ne] at h0
    obtain ⟨β1, h1⟩ := h.mv h0.1 h0.2
    exact Sim.mvL (rn := rn) (s1 := s1.mv i j) hr.2 h1
theorem Sim.prep {P : Program} {a : Act} {w : World} {β : Nat → BV} (hA : Ap P X0 M w0) {fz : List Nat} {rn : List (Nat × Nat)} (hr : rnOk rn = true) (h : Sim N X0 M w0 st β a w) : ∃ β', Sim N X0 M w0 (st.prep fz rn) β' a w :=
  (h.fzL hA fz).mvL hr

theorem WP.prep (fz : List Nat) (rn : List (Nat × Nat)) (hr : rnOk rn = true) {code : Code} (h : WP c N X0 M w0 code (st.prep fz rn) K) : WP c N X0 M w0 code st K := fun hA β a w hs => by
  obtain ⟨β', h'⟩ := hs.prep hA (fz := fz) hr
  exact h hA β' a w h'

open Classical in
/-- as WP.loop, with lists shared and numbers anew at each round's end -/
theorem WP.loopP {S : Type} {p : Code} (fz : List Nat) (rn : List (Nat × Nat)) (hrn : rnOk rn = true) (I : S → St) (J : S → Prop) (μ : S → Nat) (s0 : S) (h0 : J s0) (hi : st.has (I s0))
    (hr : ∀ s, J s → WP c N X0 M w0 p (I s) (thenK (fun st' => ∃ s', J s' ∧ μ s' < μ s ∧ (st'.prep fz rn).has (I s')) K)) : WP c N X0 M w0 (.loop p) st K := by
  intro hA β a w hs
  let Inv : Act → World → Nat → Prop := fun a w n => ∃ s β, J s ∧ μ s = n ∧ Sim N X0 M w0 (I s) β a w
  refine wp_loop (fun a w => ∃ n, Inv a w n) (fun a w => if h : ∃ n, Inv a w n then Classical.choose (least h) else 0) ⟨μ s0, s0, β, h0, rfl, hs.has hi⟩ ?_
  intro a w hI
  have hsp := Classical.choose_spec (least hI)
  obtain ⟨⟨s, β', hj, hm, hsim⟩, _⟩ := hsp
  refine Code.wp_mono (fun e a' w' hq => ?_) (hr s hj hA β' a w hsim)
  cases e with
  | normal =>
    obtain ⟨st', β2, ⟨s', hj', hlt, hhas⟩, h2⟩ := hq
    obtain ⟨β3, h3⟩ := h2.prep hA (fz := fz) hrn
    have hI' : ∃ n, Inv a' w' n := ⟨μ s', s', β3, hj', rfl, h3.has hhas⟩
    refine ⟨hI', ?_⟩
    simp only [dif_pos hI', dif_pos hI]
    have hle := (Classical.choose_spec (least hI')).2 (μ s') ⟨s', β3, hj', rfl, h3.has hhas⟩
    omega
  | _ => exact hq

/-- what a function that is lent objects has to show where it returns -/
def outL (tys : List (Nat × TyD)) (rs : List ResultVar) (res : SV) (robs kept : List (Nat × Ob)) (st : St) : Prop :=
  outK tys rs res robs st ∧ (∀ p ∈ kept, lk p.1 st.hp = some p.2) ∧ ∀ j ∈ outJ rs res st, (kept.map (·.1)).contains j = false
def retL (tys : List (Nat × TyD)) (rs : List ResultVar) (res : SV) (robs kept : List (Nat × Ob)) : Exit → St → Prop
  | .normal, st => outL tys rs res robs kept st
  | .ret, st => outL tys rs res robs kept st
  | _, _ => False

/-- **From a body to a contract, of a function that is lent objects.** -/
theorem HoldsL.of_WP {f : FuncId} {fn : Func} {code : Code} (hf : c.P.funcs[f]? = some fn) (hb : fn.body = some code) {rs : List ResultVar} (hrs : fn.results.toList = rs) (hn : fn.ntmps = N) (hfew : N ≤ 900000) {args : List SV} (ha : args.length ≤ N)
    {obs : List (Nat × Ob)} {res : SV} {robs kept : List (Nat × Ob)} (hrb : ∀ {id ob} , lk id robs = some ob → ob.pb = true) (hrid : ∀ i ∈ robs.map (·.1), i < 900000) (hres : ∀ i ∈ res.owns2, i ∈ robs.map (·.1))
    (hkid : ∀ i ∈ kept.map (·.1), 1000000 ≤ i) (hkre : kept.map (fun p => (p.1, p.2.up (SV.ren1 (kept.map fun q => (q.1, q.1))))) = kept) (hkn : (kept.map (·.1)).Nodup) (hall : ∀ i ∈ obs.map (·.1), 1000000 ≤ i → i ∈ kept.map (·.1))
    (h : ∀ (X0 : Nat → Prop) (M : Nat → BV → Prop) (w0 : World), WP c N X0 M w0 code ⟨argsL 0 args, obs⟩ (retL c.tys rs res robs kept)) : HoldsL c.P f args obs res robs kept := by
  intro w X β vs hG hβ hX hl hargs hobs hlent
  refine calls_of_wp hf hb ?_
  let M : Nat → BV → Prop := fun id v => (∃ ob, lk id obs = some ob) ∧ v = β id
  have hMB : ∀ b, MB M b ↔ ∃ id ob, lk id obs = some ob ∧ (β id).ft b := fun b => by
    constructor
    · rintro ⟨id, v, ⟨⟨ob, h1⟩, rfl⟩, h3⟩; exact ⟨id, ob, h1, h3⟩
    · rintro ⟨id, ob, h1, h3⟩; exact ⟨id, β id, ⟨⟨ob, h1⟩, rfl⟩, h3⟩
  have hA : Ap c.P X M w := ⟨fun b hb => ⟨hX b hb, fun hm => by
    obtain ⟨id, ob, h1, h2⟩ := (hMB b).1 hm
    exact (hlent id ob b h1 h2).1 hb⟩, hG, fun b hm => by
    obtain ⟨id, ob, h1, h2⟩ := (hMB b).1 hm
    exact (hlent id ob b h1 h2).2⟩
  have hsim : Sim N X M w ⟨argsL 0 args, obs⟩ β { tmps := vs.toArray ++ Array.replicate (fn.ntmps - vs.toArray.size) undef, defers := [] } w := {
    size := by simp [hn]; omega
    defers := rfl
    beta := hβ
    slots := fun t x hx => by
      obtain ⟨_, h1⟩ := argsL_lk args 0 t x hx
      simp only [Nat.sub_zero] at h1
      have ht : t < vs.length := by rw [hl]; exact (List.getElem?_eq_some_iff.1 h1).1
      have hv : vs[t]? = some (vs[t]'ht) := List.getElem?_eq_getElem ht
      have : (vs.toArray ++ Array.replicate (fn.ntmps - vs.toArray.size) undef).getD t undef = vs[t]'ht := by
        rw [Array.getD_eq_getD_getElem?, Array.getElem?_append_left (by simpa using ht)]
        simp [ht]
      rw [this]
      exact hargs t x _ h1 hv
    objs := hobs.1
    inj := hobs.2
    x0 := hX
    mine := fun id ob b hi hb => .inl ((hMB b).2 ⟨id, ob, hi, hb⟩)
    pin := fun id v hm _ => congrArg BV.val hm.2.symm
    few := hfew
    os := rfl
    tape := rfl
    output := rfl
    grew := Nat.le_refl _
    kept := fun _ _ _ => rfl }
  refine Code.wp_mono (fun e a w' hq => ?_) (h X M w hA _ _ _ hsim)
  have fin : ∀ {st' : St} {β' : Nat → BV}, outL c.tys rs res robs kept st' → Sim N X M w st' β' a w' → a.defers = [] ∧ ∃ v, (Go.results fn a.tmps).run c.P w' = .ok v w' ∧
      ∃ v' β'', Ending.returned v = .returned v' ∧ w'.os = w.os ∧ w'.tape = w.tape ∧ w'.output = w.output ∧ w.heap.size ≤ w'.heap.size ∧
      (∀ b, b < w.heap.size → (¬ ∃ id ob, lk id obs = some ob ∧ (β id).ft b) → w'.heap[b]? = w.heap[b]?) ∧ (∀ i, (β'' i).val.oneCell' = true) ∧ (∀ i ob, 1000000 ≤ i → lk i obs = some ob → (β'' i).val = (β i).val) ∧
      R w' (XX X β'' (robs ++ kept)) β'' res v' ∧ Obs w' X β'' (robs ++ kept) ∧
      ∀ id ob b, lk id (robs ++ kept) = some ob → (β'' id).ft b → w.heap.size ≤ b ∨ ∃ k o, lk k obs = some o ∧ (β k).ft b := fun {st' β'} ho hs => by
    obtain ⟨ho1, hkept, hJ⟩ := ho
    obtain ⟨v, β2, hr, hR, hβ2, rel, hrel, hrelJ, hcov⟩ := outK_ok (c := c) hs hrs ho1
    have hS : ∀ Y : Nat → Prop, Same Y w' w' := fun Y => ⟨Nat.le_refl _, fun _ _ _ => rfl⟩
    let βf : Nat → BV := fun i => if i ∈ kept.map (·.1) then β' i else β2 i
    have hin : ∀ {i}, i ∈ kept.map (·.1) → βf i = β' i := fun {i} hi => by show (if i ∈ kept.map (·.1) then β' i else β2 i) = _; rw [if_pos hi]
    have hout : ∀ {i}, i ∉ kept.map (·.1) → βf i = β2 i := fun {i} hi => by show (if i ∈ kept.map (·.1) then β' i else β2 i) = _; rw [if_neg hi]
    have hrk : ∀ {i}, i ∈ robs.map (·.1) → i ∉ kept.map (·.1) := fun {i} hi hk => by have := hrid i hi; have := hkid i hk; omega
    have hsplit : ∀ {i ob}, lk i (robs ++ kept) = some ob → (i ∉ kept.map (·.1) ∧ βf i = β2 i ∧ lk i robs = some ob) ∨ (i ∈ kept.map (·.1) ∧ βf i = β' i ∧ lk i kept = some ob ∧ lk i st'.hp = some ob) := fun {i ob} hi => by
      rw [lk_append] at hi
      cases hq : lk i robs with
      | some y =>
        rw [hq] at hi
        cases hi
        have hir : i ∈ robs.map (·.1) := List.mem_map.2 ⟨(i, ob), lk_mem hq, rfl⟩
        exact .inl ⟨hrk hir, hout (hrk hir), rfl⟩
      | none =>
        rw [hq] at hi
        have hi : lk i kept = some ob := hi
        have hik : i ∈ kept.map (·.1) := List.mem_map.2 ⟨(i, ob), lk_mem hi, rfl⟩
        exact .inr ⟨hik, hin hik, hi, hkept (i, ob) (lk_mem hi)⟩
    have kept' : ∀ {id ob b}, lk id robs = some ob → (β2 id).ft b → ∃ j, rel id j ∧ β2 id = β' j ∧ lk j st'.hp = some ob := fun {id ob b} hi hb => by
      rcases hcov id ob hi with ⟨h1, _⟩ | h1
      · rw [h1] at hb; cases hb
      · exact h1
    have hXs : ∀ b, XX X βf (robs ++ kept) b → XX X β' st'.hp b := fun b hb => by
      rcases hb with hb | ⟨id, ob, hi, hb⟩
      · exact .inl hb
      · rcases hsplit hi with ⟨_, e, hi⟩ | ⟨_, e, _, hi⟩
        · rw [e] at hb
          obtain ⟨j, _, h1, h2⟩ := kept' hi hb
          exact .inr ⟨j, ob, h2, by rw [← h1]; exact hb⟩
        · rw [e] at hb; exact .inr ⟨id, ob, hi, hb⟩
    refine ⟨hs.defers, v, hr, v, βf, rfl, hs.os, hs.tape, hs.output, hs.grew, fun b hb hn => hs.kept b hb (fun hm => hn ((hMB b).1 hm)), fun i => ?_, fun i ob h1 hi => ?_, ?_, ⟨fun id ob hi => ?_, fun i j oi oj b hi hj hbi hbj => ?_⟩, fun id ob b hi hb => ?_⟩
    · by_cases hk : i ∈ kept.map (·.1)
      · rw [hin hk]; exact hs.beta i
      · rw [hout hk]; exact hβ2 i
    · rw [hin (hall i (List.mem_map.2 ⟨(i, ob), lk_mem hi, rfl⟩) h1)]
      exact hs.pin i (β i) ⟨⟨ob, hi⟩, rfl⟩ h1
    · exact (hR.mono (hS _) (fun b _ hb => hXs b hb)).beta ho1.2.1 fun id hid => hout (hrk (hres id hid))
    · rcases hsplit hi with ⟨_, e, hi⟩ | ⟨hik, e, hi, hi2⟩
      · rw [e]
        rcases hcov id ob hi with ⟨h1, e, s, rfl⟩ | ⟨j, _, h1, h2⟩
        · exact .nil e s h1
        · rw [h1]
          have hO := hs.objs j ob h2
          cases ob with
          | sl e s rows => exact (hO.mono (hS _) (fun b _ hb => hXs b hb) (fun _ _ => rfl)).sl_beta
          | box e cs => exact (hO.mono (hS _) (fun b _ hb => hXs b hb) (fun _ _ => rfl)).pb_beta (hrb hi)
          | mp e es => exact (hO.mono (hS _) (fun b _ hb => hXs b hb) (fun _ _ => rfl)).pb_beta (hrb hi)
          | dp e s rows => exact (hO.mono (hS _) (fun b _ hb => hXs b hb) (fun _ _ => rfl)).pb_beta (hrb hi)
          | dq e s rows i0 row0 => exact (hO.mono (hS _) (fun b _ hb => hXs b hb) (fun _ _ => rfl)).pb_beta (hrb hi)
      · rw [e]
        have hO := ((hs.objs id ob hi2).mono (hS _) (fun b _ hb => hXs b hb) (fun _ _ => rfl)).up (X' := XX X βf (robs ++ kept)) (β' := βf) (f := SV.ren1 (kept.map fun q => (q.1, q.1))) (fun x v hh => hh.ren1 fun i j hij => by
          have hm := lk_mem hij
          obtain ⟨p, hp, e2⟩ := List.mem_map.1 hm
          cases e2
          exact hin (List.mem_map.2 ⟨p, hp, rfl⟩)) (fun _ _ hh => hh)
        have hob : ob.up (SV.ren1 (kept.map fun q => (q.1, q.1))) = ob := by
          have h1 : lk id (kept.map (fun p => (p.1, p.2.up (SV.ren1 (kept.map fun q => (q.1, q.1)))))) = some (ob.up (SV.ren1 (kept.map fun q => (q.1, q.1)))) := by
            rw [lk_map, hi]; rfl
          rw [hkre, hi] at h1
          simpa using h1.symm
        rw [hob] at hO
        exact hO
    · rcases hsplit hi with ⟨_, e1, hi⟩ | ⟨hik, e1, _, hi⟩ <;> rcases hsplit hj with ⟨_, e2, hj⟩ | ⟨hjk, e2, _, hj⟩
      · rw [e1] at hbi
        rw [e2] at hbj
        obtain ⟨k1, r1, h1, h2⟩ := kept' hi hbi
        obtain ⟨k2, r2, h3, h4⟩ := kept' hj hbj
        have := hs.inj k1 k2 oi oj b h2 h4 (by rw [← h1]; exact hbi) (by rw [← h3]; exact hbj)
        subst this
        exact hrel i j k1 r1 r2
      · rw [e1] at hbi
        rw [e2] at hbj
        obtain ⟨k1, r1, h1, h2⟩ := kept' hi hbi
        have := hs.inj k1 j oi oj b h2 hj (by rw [← h1]; exact hbi) hbj
        subst this
        have := hJ k1 (hrelJ _ _ r1)
        simp at this
        obtain ⟨p, hp, hpe⟩ := List.mem_map.1 hjk
        exact absurd (by rw [← hpe]; exact hp) (this p.2)
      · rw [e1] at hbi
        rw [e2] at hbj
        obtain ⟨k2, r2, h3, h4⟩ := kept' hj hbj
        have := hs.inj i k2 oi oj b hi h4 hbi (by rw [← h3]; exact hbj)
        subst this
        have := hJ i (hrelJ _ _ r2)
        simp at this
        obtain ⟨p, hp, hpe⟩ := List.mem_map.1 hik
        exact absurd (by rw [← hpe]; exact hp) (this p.2)
      · rw [e1] at hbi
        rw [e2] at hbj
        exact hs.inj i j oi oj b hi hj hbi hbj
    · rcases hsplit hi with ⟨_, e, hi⟩ | ⟨hik, e, _, hi⟩
      · rw [e] at hb
        obtain ⟨j, rj, h1, h2⟩ := kept' hi hb
        exact (hs.mine j ob b h2 (by rw [← h1]; exact hb)).symm.imp _root_.id fun hm => (hMB b).1 hm
      · rw [e] at hb
        exact (hs.mine id ob b hi hb).symm.imp _root_.id fun hm => (hMB b).1 hm
  cases e with
  | normal => obtain ⟨st', β', ho, hs⟩ := hq; exact fin ho hs
  | ret => obtain ⟨st', β', ho, hs⟩ := hq; exact fin ho hs
  | _ => obtain ⟨st', β', ho, hs⟩ := hq; exact ho.elim
end
end Go.Vc
