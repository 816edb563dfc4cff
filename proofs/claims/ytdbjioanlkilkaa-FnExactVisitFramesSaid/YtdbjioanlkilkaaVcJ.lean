/-
  DERIVED. A region whose order Go leaves open: its first m operations yield values, in any order that the edges allow; the others come in the text's order.
-/
import Derived.Test.YtdbjioanlkilkaaVcM
namespace Go.Vc
set_option linter.unusedVariables false
set_option linter.unusedSimpArgs false

def hasEdge (o : Oper) (j : Nat) : Bool := o.after.any fun e => e.on == j && Region.binds .any e
def dstAt (ops : Array Oper) (i : Nat) : Option Nat := (ops[i]?).bind (·.dst)

def drawOne (ops : Array Oper) (m i : Nat) (o : Oper) : Bool :=
  o.dst.isSome && ((o.looksAt ops).all fun t => (List.range m).all fun j => !(dstAt ops j == some t) || (decide (j < i) && hasEdge o j)) &&
    (List.range m).all fun j => i == j || dstAt ops j != o.dst
def drawB (ops : Array Oper) (m : Nat) : Bool :=
  decide (m ≤ ops.size) &&
  (List.range ops.size).all fun p => match ops[p]? with
    | none => false
    | some o => (o.after.all fun e => !Region.binds .any e || decide (e.on < p)) && (if p < m then drawOne ops m p o else (List.range p).all (hasEdge o))

structure DrawOk (ops : Array Oper) (m : Nat) : Prop where
  le : m ≤ ops.size
  back : ∀ (p : Nat) (o : Oper), ops[p]? = some o → ∀ e ∈ o.after, Region.binds .any e = true → e.on < p
  dst : ∀ (i : Nat) (o : Oper), i < m → ops[i]? = some o → ∃ d, o.dst = some d
  looks : ∀ (i : Nat) (o : Oper), i < m → ops[i]? = some o → ∀ t ∈ o.looksAt ops, ∀ j, j < m → dstAt ops j = some t → j < i ∧ hasEdge o j = true
  apart : ∀ (i : Nat) (o : Oper), i < m → ops[i]? = some o → ∀ j, j < m → i ≠ j → dstAt ops j ≠ o.dst
  all : ∀ (p : Nat) (o : Oper), m ≤ p → ops[p]? = some o → ∀ j, j < p → hasEdge o j = true

theorem drawB_ok {ops : Array Oper} {m : Nat} (h : drawB ops m = true) : DrawOk ops m := by
  unfold drawB at h
  rw [Bool.and_eq_true, decide_eq_true_eq] at h
  obtain ⟨h0, h⟩ := h
  rw [List.all_eq_true] at h
  have key : ∀ (p : Nat) (o : Oper), ops[p]? = some o → (o.after.all fun e => !Region.binds .any e || decide (e.on < p)) = true ∧ (if p < m then drawOne ops m p o else (List.range p).all (hasEdge o)) = true := fun p o ho => by
    have hp : p < ops.size := (Array.getElem?_eq_some_iff.1 ho).1
    have := h p (List.mem_range.2 hp)
    rw [ho] at this
    simp only [Bool.and_eq_true] at this
    exact this
  refine ⟨h0, fun p o ho e he hb => ?_, fun i o hi ho => ?_, fun i o hi ho t ht j hj hd => ?_, fun i o hi ho j hj hne => ?_, fun p o hp ho j hj => ?_⟩
  · have := (key p o ho).1
    rw [Array.all_eq_true_iff_forall_mem] at this
    have := this e he
    rw [hb] at this
    simpa using this
  · have := (key i o ho).2
    rw [if_pos hi] at this
    simp only [drawOne, Bool.and_eq_true] at this
    exact Option.isSome_iff_exists.1 this.1.1
  · have := (key i o ho).2
    rw [if_pos hi] at this
    simp only [drawOne, Bool.and_eq_true, List.all_eq_true] at this
    have := this.1.2 t ht j (List.mem_range.2 hj)
    rw [hd] at this
    simpa using this
  · have := (key i o ho).2
    rw [if_pos hi] at this
    simp only [drawOne, Bool.and_eq_true, List.all_eq_true] at this
    have := this.2 j (List.mem_range.2 hj)
    simp only [Bool.or_eq_true, beq_iff_eq, bne_iff_ne] at this
    rcases this with e | e
    · exact absurd e hne
    · exact e
  · have := (key p o ho).2
    rw [if_neg (by omega), List.all_eq_true] at this
    exact this j (List.mem_range.2 hj)

/-! ## operations that yield a value -/

def St.valG (tys : List (Nat × TyD)) (C : List (FuncId × Ctr)) (g : Bool) (o : Oper) (st : St) (x : SV) : Prop :=
  match o.op with
  | .call c => match c.callee with
    | .value y => ∃ ob r, st.callF (o.dst.getD 0) C c y = some (ob, r) ∧ x = mkCond g r ∧ (g = true → ob)
    | _ => ∃ ob r, st.pr tys (.call c) = some (ob, r) ∧ x = mkCond g r ∧ (g = true → ob)
  | op => ∃ ob r, st.pr tys op = some (ob, r) ∧ x = mkCond g r ∧ (g = true → ob)
def St.valU (tys : List (Nat × TyD)) (C : List (FuncId × Ctr)) (o : Oper) (st : St) (x : SV) : Prop :=
  match o.op with
  | .call c => match c.callee with
    | .value y => ∃ ob, st.callF (o.dst.getD 0) C c y = some (ob, x) ∧ ob
    | _ => ∃ ob, st.pr tys (.call c) = some (ob, x) ∧ ob
  | op => ∃ ob, st.pr tys op = some (ob, x) ∧ ob
def St.val0 (tys : List (Nat × TyD)) (C : List (FuncId × Ctr)) (N : Nat) (ops : Array Oper) (o : Oper) (st : St) (x : SV) : Prop :=
  dstOk N o.dst = true ∧ match o.guard with
  | none => st.valU tys C o x
  | some (j, want) => match (ops[j]?).bind (·.dst) with
    | some t => match guardB want (st.get t) with
      | some g => st.valG tys C g o x
      | none => False
    | none => False
/-- an operation that is not run: whatever it would be -/
def St.off (N : Nat) (ops : Array Oper) (o : Oper) (st : St) (x : SV) : Prop :=
  dstOk N o.dst = true ∧ (∃ r, x = mkCond false r) ∧ match o.guard with
  | some (j, want) => match (ops[j]?).bind (·.dst) with
    | some t => guardB want (st.get t) = some false
    | none => False
  | none => False
def St.val (tys : List (Nat × TyD)) (C : List (FuncId × Ctr)) (N : Nat) (ops : Array Oper) (o : Oper) (st : St) (x : SV) : Prop := st.val0 tys C N ops o x ∨ st.off N ops o x
def St.runV (tys : List (Nat × TyD)) (C : List (FuncId × Ctr)) (N : Nat) (ops : Array Oper) : List Oper → St → (St → Prop) → Prop
  | [], st, K => K st
  | o :: l, st, K => ∃ x, st.val tys C N ops o x ∧ St.runV tys C N ops l (st.put o.dst x) K

theorem rowsOf_mono {st st2 : St} (hh : ∀ id ob, lk id st.hp = some ob → lk id st2.hp = some ob) {x : SV} {rows : List (List SV)} (h : st.rowsOf x = some rows) : st2.rowsOf x = some rows := by
  cases x with
  | own m =>
    simp only [St.rowsOf] at h ⊢
    cases hl : lk m st.hp with
    | none => rw [hl] at h; cases h
    | some ob => rw [hl] at h; rw [hh m ob hl]; exact h
  | sl s r => exact h
  | v y =>
    unfold St.rowsOf at h ⊢
    split at h
    · rename_i e; cases e
    · rename_i e; cases e
    · exact h
    · cases h
  | _ => cases h
theorem bnd_mono {st st2 : St} {o : Option Operand} (h : ∀ y, o = some y → st2.ev y = st.ev y) : st2.bnd o = st.bnd o := by
  cases o with
  | none => rfl
  | some y => simp only [St.bnd, h y rfl]
theorem bld_mono {st st2 : St} {offs : List (Nat × Nat)} : ∀ {l : List (Nat × Operand)} {cs : List SV}, (∀ p ∈ l, st2.ev p.2 = st.ev p.2) → st2.bld offs l cs = st.bld offs l cs
  | [], cs, _ => rfl
  | (f, x) :: l, cs, h => by
    simp only [St.bld, h (f, x) List.mem_cons_self]
    cases offs[f]? with
    | none => rfl
    | some o => simp only; rw [bld_mono fun p hp => h p (List.mem_cons_of_mem _ hp)]

/-- more slots, more objects: the same value -/
theorem pr_mono {tys : List (Nat × TyD)} {st st2 : St} {op : Op} (h : ∀ y ∈ op.operands, st2.ev y = st.ev y) (hh : ∀ id ob, lk id st.hp = some ob → lk id st2.hp = some ob) {q : Prop × SV} (hq : st.pr tys op = some q) : st2.pr tys op = some q := by
  cases op with
  | move x => simp only [St.pr, h x (by simp [Op.operands])] at hq ⊢; exact hq
  | assign x => simp only [St.pr, h x (by simp [Op.operands])] at hq ⊢; exact hq
  | pick c a b => simp only [St.pr, h c (by simp [Op.operands]), h a (by simp [Op.operands]), h b (by simp [Op.operands])] at hq ⊢; exact hq
  | binOp op T x y U => simp only [St.pr, St.prEq, h x (by simp [Op.operands]), h y (by simp [Op.operands])] at hq ⊢; exact hq
  | unOp op T x => simp only [St.pr, h x (by simp [Op.operands])] at hq ⊢; exact hq
  | nilCheck x => simp only [St.pr, h x (by simp [Op.operands])] at hq ⊢; exact hq
  | fieldAddr T x f => simp only [St.pr, h x (by simp [Op.operands])] at hq ⊢; exact hq
  | indexAddr T x y =>
    simp only [St.pr, h x (by simp [Op.operands]), h y (by simp [Op.operands])] at hq ⊢
    split at hq
    · exact hq
    · split at hq
      · rename_i hk
        rw [if_pos hk]
        split at hq
        · rename_i e s rows hl; simp only [hh _ _ hl]; exact hq
        · rename_i e s rows hl; simp only [hh _ _ hl]; exact hq
        · rename_i e s rows i0 row0 hl; simp only [hh _ _ hl]; exact hq
        · cases hq
      · cases hq
    · cases hq
  | load T x =>
    simp only [St.pr, h x (by simp [Op.operands])] at hq ⊢
    split at hq
    · split at hq
      · rename_i hl; simp only [hh _ _ hl]; exact hq
      · rename_i hl; simp only [hh _ _ hl]; exact hq
      · rename_i hl; simp only [hh _ _ hl]; exact hq
      · cases hq
    · exact hq
    · cases hq
  | index T x y => simp only [St.pr, h x (by simp [Op.operands]), h y (by simp [Op.operands])] at hq ⊢; exact hq
  | extract x i => simp only [St.pr, h x (by simp [Op.operands])] at hq ⊢; exact hq
  | makeFunc fn first caps =>
    cases fn <;> try exact hq
    have e : ∀ c ∈ caps.toList, st2.ev c = st.ev c := fun c hc => h c (by simp only [Op.operands, Array.mem_append]; right; simpa using hc)
    rw [← hq]
    simp only [St.pr]
    split
    · congr 2
      · apply propext
        constructor <;> intro hc c hm
        · rw [← e c hm]; exact hc c hm
        · rw [e c hm]; exact hc c hm
      · congr 1
        exact List.map_congr_left fun c hm => by rw [e c hm]
    · rfl
  | build T parts =>
    have e : ∀ p ∈ parts.toList, st2.ev p.2 = st.ev p.2 := fun p hp => h p.2 (by
      simp only [Op.operands]
      simp only [List.mem_toArray, List.mem_map]
      exact ⟨p, hp, rfl⟩)
    simp only [St.pr] at hq ⊢
    cases hd : lk T tys with
    | none => rw [hd] at hq; cases hq
    | some d => rw [hd] at hq; simp only at hq ⊢; rw [bld_mono e]; exact hq
  | convert S T x =>
    simp only [St.pr, h x (by simp [Op.operands])] at hq ⊢
    split at hq
    · exact hq
    · simp only [St.prStr, h x (by simp [Op.operands])] at hq ⊢
      split at hq
      · rename_i hr; rw [rowsOf_mono hh hr]; exact hq
      · cases hq
    · cases hq
  | slice T x lo hi mx =>
    have e0 := h x (by simp [Op.operands])
    rw [← hq]
    cases mx with
    | some m => cases lo <;> cases hi <;> simp [St.pr]
    | none =>
      cases lo with
      | some lo =>
        have e1 := h lo (by simp [Op.operands])
        cases hi with
        | some hi => simp only [St.pr, St.prCut, St.bnd, e0, e1, h hi (by simp [Op.operands])]
        | none => simp only [St.pr, St.prCut, St.bnd, e0, e1]
      | none =>
        cases hi with
        | some hi => simp only [St.pr, St.prCut, St.bnd, e0, h hi (by simp [Op.operands])]
        | none => simp only [St.pr, St.prCut, St.bnd, e0]
  | call c =>
    have ha : ∀ y ∈ c.args.toList, st2.ev y = st.ev y := fun y hy => h y (by simp only [Op.operands, Call.operands, Array.mem_append]; right; simpa using hy)
    simp only [St.pr] at hq ⊢
    split at hq
    · split at hq
      · rename_i x T hx hT
        have e1 : st2.ev x = st.ev x := ha x (by rw [hx]; simp)
        unfold St.prLen at hq ⊢
        rw [e1]
        split at hq
        · exact hq
        · exact hq
        · exact hq
        · split at hq
          · rename_i hk
            rw [if_pos hk]
            split at hq
            · rename_i hl; simp only [hh _ _ hl]; exact hq
            · rename_i hl; simp only [hh _ _ hl]; exact hq
            · rename_i hl; simp only [hh _ _ hl]; exact hq
            · cases hq
          · cases hq
        · cases hq
      · cases hq
    · split at hq
      · rename_i x y hx
        simp only [St.prMin, ha x (by rw [hx]; simp), ha y (by rw [hx]; simp)] at hq ⊢
        exact hq
      · cases hq
    · split at hq
      · rename_i x y hx
        simp only [St.prMin, ha x (by rw [hx]; simp), ha y (by rw [hx]; simp)] at hq ⊢
        exact hq
      · cases hq
    · cases hq
  | _ => simp [St.pr] at hq

theorem share1_mono {hp hp2 : List (Nat × Ob)} (hh : ∀ id ob, lk id hp = some ob → lk id hp2 = some ob) {x : SV} (hg : (x.share1 hp).good1 = true) : x.share1 hp2 = x.share1 hp := by
  cases x with
  | own id =>
    simp only [SV.share1] at hg ⊢
    cases hl : lk id hp with
    | none => rw [hl] at hg; cases hg
    | some ob => rw [hh id ob hl]
  | ptr id s i k =>
    simp only [SV.share1] at hg ⊢
    cases hl : lk id hp with
    | none => rw [hl] at hg; cases hg
    | some ob => rw [hh id ob hl]
  | _ => rfl
theorem share_mono {hp hp2 : List (Nat × Ob)} (hh : ∀ id ob, lk id hp = some ob → lk id hp2 = some ob) {x : SV} (hg : (x.share hp).good = true) : x.share hp2 = x.share hp := by
  cases x with
  | agg cs =>
    simp only [SV.share, SV.good, List.all_map] at hg ⊢
    congr 1
    exact List.map_congr_left fun y hy => share1_mono hh (List.all_eq_true.1 hg y hy)
  | fn f cs =>
    simp only [SV.share, SV.good, List.all_map] at hg ⊢
    congr 1
    exact List.map_congr_left fun y hy => share1_mono hh (List.all_eq_true.1 hg y hy)
  | v y => rfl
  | sl s r => rfl
  | own id =>
    show (SV.own id).share1 hp2 = (SV.own id).share1 hp
    refine share1_mono hh ?_
    simp only [SV.share, SV.share1] at hg ⊢
    split at hg <;> first | rfl | cases hg
  | ptr id s i k =>
    show (SV.ptr id s i k).share1 hp2 = (SV.ptr id s i k).share1 hp
    refine share1_mono hh ?_
    simp only [SV.share, SV.share1] at hg ⊢
    split at hg
    · split at hg
      · rename_i hs; simp only [hs, if_true]; rfl
      · cases hg
    · split at hg
      · rename_i hs; rw [if_pos hs]; rfl
      · cases hg
    · cases hg
  | rptr s r i k => rfl
  | tup cs => rfl
  | cond g y => rfl
  | junk => rfl
theorem shareL_mono {hp hp2 : List (Nat × Ob)} (hh : ∀ id ob, lk id hp = some ob → lk id hp2 = some ob) {A : List SV} (hg : (A.all fun y => (y.share hp).good) = true) : A.map (SV.share hp2) = A.map (SV.share hp) ∧ (A.all fun y => (y.share hp2).good) = true := by
  have h1 : ∀ y ∈ A, y.share hp2 = y.share hp := fun y hy => share_mono hh (List.all_eq_true.1 hg y hy)
  refine ⟨List.map_congr_left h1, ?_⟩
  rw [List.all_eq_true] at hg ⊢
  intro y hy
  rw [h1 y hy]; exact hg y hy
theorem argL_mono {st st2 : St} {c : Call} (ha : ∀ y ∈ c.args.toList, st2.ev y = st.ev y) (caps : List SV) : st2.argL c caps = st.argL c caps := by
  unfold St.argL
  congr 1
  exact List.map_congr_left fun y hy => by rw [ha y hy]
theorem need_mono {st st2 : St} {c : Call} (ha : ∀ y ∈ c.args.toList, st2.ev y = st.ev y) : (∀ y ∈ c.args.toList, (st2.ev y).need) = ∀ y ∈ c.args.toList, (st.ev y).need := by
  apply propext
  constructor <;> intro hq y hy
  · rw [← ha y hy]; exact hq y hy
  · rw [ha y hy]; exact hq y hy

theorem callF_mono {dd : Nat} {C : List (FuncId × Ctr)} {st st2 : St} {c : Call} (h : ∀ y ∈ (Op.call c).operands, st2.ev y = st.ev y) (hh : ∀ id ob, lk id st.hp = some ob → lk id st2.hp = some ob) {x : Operand} (hc : c.callee = .value x) {q : Prop × SV} (hq : st.callF dd C c x = some q) : st2.callF dd C c x = some q := by
  have ha : ∀ y ∈ c.args.toList, st2.ev y = st.ev y := fun y hy => h y (by simp only [Op.operands, Call.operands, Array.mem_append]; right; simpa using hy)
  have hx : st2.ev x = st.ev x := h x (by simp [Op.operands, Call.operands, hc])
  unfold St.callF at hq ⊢
  rw [hx]
  split at hq
  case h_2 => cases hq
  case h_1 _ f caps hf =>
  split at hq
  case h_2 => cases hq
  case h_1 _ ctr hctr =>
  have key : ∀ (p2 : List (Nat × Ob)) (A : List SV), A = st.argL c caps → (st.argL c caps).map (SV.share p2) = (st.argL c caps).map (SV.share st.hp) → ((st.argL c caps).all fun y => (y.share p2).good) = true → ((st.argL c caps).all fun y => (y.share st.hp).good) = true →
      (match ctr.pure dd (A.map (SV.share p2)) with
      | (ob, res, robs) => if (A.all fun y => (y.share p2).good) = true then some (ob ∧ robs = [] ∧ (∀ y ∈ c.args.toList, (st2.ev y).need) ∧ (A.all fun y => (y.share p2).good) = true ∧ res.rok = true ∧ res.owns2 = [] ∧
            ((A.flatMap SV.owns) = [] ∨ res.isV2 = true) ∧ ctr.isL = false, res) else none) = some q := by
    intro p2 A hAe e1 e2 hg
    subst hAe
    rw [e1]
    generalize ctr.pure dd ((st.argL c caps).map (SV.share st.hp)) = z at hq ⊢
    obtain ⟨z1, z2, z3⟩ := z
    simp only [hg, e2, if_true] at hq ⊢
    rw [need_mono ha]
    exact hq
  have hg : ((st.argL c caps).all fun y => (y.share st.hp).good) = true := by
    by_cases hg : ((st.argL c caps).all fun y => (y.share st.hp).good) = true
    · exact hg
    · exfalso
      generalize ctr.pure dd ((st.argL c caps).map (SV.share st.hp)) = z at hq
      obtain ⟨z1, z2, z3⟩ := z
      simp only [hg, if_false] at hq
      cases hq
  obtain ⟨e1, e2⟩ := shareL_mono hh hg
  exact key st2.hp _ (argL_mono ha caps) e1 e2 hg

theorem val0_mono {tys : List (Nat × TyD)} {C : List (FuncId × Ctr)} {N : Nat} {ops : Array Oper} {o : Oper} {st st2 : St} {x : SV} (h : ∀ t ∈ o.looksAt ops, st2.get t = st.get t) (hh : ∀ id ob, lk id st.hp = some ob → lk id st2.hp = some ob) (hv : st.val0 tys C N ops o x) :
    st2.val0 tys C N ops o x := by
  have hop : ∀ y ∈ o.op.operands, st2.ev y = st.ev y := fun y hy => by
    cases y with
    | tmp t =>
      exact h t (List.mem_append_left _ (List.mem_filterMap.2 ⟨.tmp t, by simpa using hy, rfl⟩))
    | _ => rfl
  obtain ⟨hd, hv⟩ := hv
  refine ⟨hd, ?_⟩
  cases hg : o.guard with
  | none =>
    rw [hg] at hv
    simp only at hv ⊢
    unfold St.valU at hv ⊢
    cases ho : o.op with
    | call c =>
      rw [ho] at hv hop
      cases hc : c.callee with
      | value y => simp only [hc] at hv ⊢; obtain ⟨ob, h1, h2⟩ := hv; exact ⟨ob, callF_mono hop hh hc h1, h2⟩
      | _ => simp only [hc] at hv ⊢; obtain ⟨ob, h1, h2⟩ := hv; exact ⟨ob, pr_mono hop hh h1, h2⟩
    | _ => rw [ho] at hv hop; simp only at hv ⊢; obtain ⟨ob, h1, h2⟩ := hv; exact ⟨ob, pr_mono hop hh h1, h2⟩
  | some gw =>
    obtain ⟨j, want⟩ := gw
    rw [hg] at hv
    simp only at hv ⊢
    cases ht : (ops[j]?).bind (·.dst) with
    | none => rw [ht] at hv; exact hv.elim
    | some t =>
      rw [ht] at hv
      simp only at hv ⊢
      have hgt : st2.get t = st.get t := h t (List.mem_append_right _ (by simp [hg, ht]))
      rw [hgt]
      split at hv
      case h_2 => exact hv.elim
      case h_1 _ cc hcc =>
        unfold St.valG at hv ⊢
        cases ho : o.op with
        | call c =>
          rw [ho] at hv hop
          cases hc : c.callee with
          | value y =>
            simp only [hc] at hv ⊢
            obtain ⟨ob, r, h1, h2⟩ := hv; exact ⟨ob, r, callF_mono hop hh hc h1, h2⟩
          | _ => simp only [hc] at hv ⊢; obtain ⟨ob, r, h1, h2⟩ := hv; exact ⟨ob, r, pr_mono hop hh h1, h2⟩
        | _ => rw [ho] at hv hop; simp only at hv ⊢; obtain ⟨ob, r, h1, h2⟩ := hv; exact ⟨ob, r, pr_mono hop hh h1, h2⟩
theorem val_mono {tys : List (Nat × TyD)} {C : List (FuncId × Ctr)} {N : Nat} {ops : Array Oper} {o : Oper} {st st2 : St} {x : SV} (h : ∀ t ∈ o.looksAt ops, st2.get t = st.get t) (hh : ∀ id ob, lk id st.hp = some ob → lk id st2.hp = some ob) (hv : st.val tys C N ops o x) :
    st2.val tys C N ops o x := by
  rcases hv with hv | ⟨h1, h2, h3⟩
  · exact .inl (val0_mono h hh hv)
  · refine .inr ⟨h1, h2, ?_⟩
    cases hg : o.guard with
    | none => rw [hg] at h3; exact h3
    | some gw =>
      obtain ⟨j, want⟩ := gw
      rw [hg] at h3
      simp only at h3 ⊢
      cases ht : (ops[j]?).bind (·.dst) with
      | none => rw [ht] at h3; exact h3
      | some t =>
        rw [ht] at h3
        simp only at h3 ⊢
        rw [h t (List.mem_append_right _ (by simp [hg, ht]))]
        exact h3
theorem val_congr {tys : List (Nat × TyD)} {C : List (FuncId × Ctr)} {N : Nat} {ops : Array Oper} {o : Oper} {st st2 : St} {x : SV} (h : ∀ t ∈ o.looksAt ops, st2.get t = st.get t) (hh : st2.hp = st.hp) (hv : st.val tys C N ops o x) :
    st2.val tys C N ops o x := val_mono h (fun id ob hi => by rw [hh]; exact hi) hv

theorem pr_slice_own {tys : List (Nat × TyD)} {st : St} {T : Nat} {x : Operand} {lo hi mx : Option Operand} {q : Prop × SV} (h : st.pr tys (.slice T x lo hi mx) = some q) : (st.ev x).strip.ownId = [] := by
  cases hx : (st.ev x).strip with
  | own i =>
    exfalso
    cases mx with
    | some m => cases lo <;> cases hi <;> simp [St.pr] at h
    | none =>
      cases lo <;> cases hi <;> simp only [St.pr, St.prCut, hx] at h <;> (cases hl : lk T tys <;> simp [hl] at h)
  | _ => rfl

theorem step_of_val {tys : List (Nat × TyD)} {C : List (FuncId × Ctr)} {N : Nat} {ops : Array Oper} {o : Oper} {st : St} {x : SV} (hv : st.val0 tys C N ops o x) : st.step tys C N ops o fun st' => st' = st.put o.dst x := by
  obtain ⟨hd, hv⟩ := hv
  unfold St.step
  cases hg : o.guard with
  | none =>
    rw [hg] at hv
    simp only at hv ⊢
    unfold St.valU at hv
    unfold St.stepU
    have fin : ∀ {op}, o.op = op → (∃ ob, st.pr tys op = some (ob, x) ∧ ob) → st.prK tys o fun st' => st' = st.put o.dst x := fun {op} ho hp => by
      obtain ⟨ob, h1, h2⟩ := hp
      unfold St.prK
      rw [ho, h1]
      exact ⟨h2, rfl⟩
    cases ho : o.op with
    | call c =>
      rw [ho] at hv
      cases hc : c.callee with
      | value y =>
        simp only [hc] at hv ⊢
        obtain ⟨ob, hcf, hob⟩ := hv
        have hv := St.callV_of_callF hc hcf hob
        refine ⟨hd, ?_⟩
        rw [St.isM_of_callV hv hc]
        exact St.callE_of_callV (by rw [ho]; exact hv) (by cases o.dst <;> rfl)
      | invoke r q => simp only [hc] at hv ⊢; exact ⟨hd, fin ho hv⟩
      | builtin b =>
        cases b <;> simp only [hc] at hv ⊢ <;> first
          | exact ⟨hd, fin ho hv⟩
          | (exfalso; obtain ⟨ob, h1, _⟩ := hv; simp [St.pr, hc] at h1)
    | alloc T => rw [ho] at hv; obtain ⟨ob, h1, _⟩ := hv; simp [St.pr] at h1
    | box T y => rw [ho] at hv; obtain ⟨ob, h1, _⟩ := hv; simp [St.pr] at h1
    | buildSlice T n p => rw [ho] at hv; obtain ⟨ob, h1, _⟩ := hv; simp [St.pr] at h1
    | makeSlice T l q => rw [ho] at hv; obtain ⟨ob, h1, _⟩ := hv; simp [St.pr] at h1
    | store T p y => rw [ho] at hv; obtain ⟨ob, h1, _⟩ := hv; simp [St.pr] at h1
    | slice T y lo hi mx =>
      rw [ho] at hv
      have h1 := hv
      obtain ⟨ob, h1, _⟩ := h1
      simp only
      rw [pr_slice_own h1]
      exact ⟨hd, fin ho hv⟩
    | _ => rw [ho] at hv; exact ⟨hd, fin ho hv⟩
  | some gw =>
    obtain ⟨j, want⟩ := gw
    rw [hg] at hv
    simp only at hv ⊢
    cases ht : (ops[j]?).bind (·.dst) with
    | none => rw [ht] at hv; exact hv.elim
    | some t =>
      rw [ht] at hv
      simp only at hv ⊢
      split at hv
      case h_2 => exact hv.elim
      case h_1 _ cc hcc =>
        rw [hcc]
        simp only
        unfold St.valG at hv
        unfold St.stepG
        have fin : ∀ {op}, o.op = op → (∃ ob r, st.pr tys op = some (ob, r) ∧ x = mkCond cc r ∧ (cc = true → ob)) → (match st.pr tys o.op with
            | some (ob, r) => (cc = true → ob) ∧ st.put o.dst (mkCond cc r) = st.put o.dst x
            | none => False) := fun {op} ho hp => by
          obtain ⟨ob, r, h1, h2, h3⟩ := hp
          rw [ho, h1]
          exact ⟨h3, by rw [h2]⟩
        cases ho : o.op with
        | call c =>
          rw [ho] at hv
          cases hc : c.callee with
          | value y =>
            simp only [hc] at hv ⊢
            obtain ⟨ob, r, h1, h2, h3⟩ := hv
            refine ⟨hd, ?_⟩
            rw [h1]
            exact ⟨h3, by rw [h2]⟩
          | _ => simp only [hc] at hv ⊢; have := fin ho hv; rw [ho] at this; exact ⟨hd, this⟩
        | _ => rw [ho] at hv; have := fin ho hv; rw [ho] at this; exact ⟨hd, this⟩

theorem val_sound {P : Program} {tys : List (Nat × TyD)} {C : List (FuncId × Ctr)} {N : Nat} {X0 : Nat → Prop} {M : Nat → BV → Prop} {w0 : World} {st : St} {β : Nat → BV} {a : Act} {w : World} (hA : Ap P X0 M w0) (hty : ∀ T d, lk T tys = some d → TyOk P T d) (hC : COk P C) (h : Sim N X0 M w0 st β a w)
    {ops : Array Oper} {o : Oper} {x : SV} (hv : st.val tys C N ops o x) {Q : Exit → Act → World → Prop} :
    if Region.wanted o (yielded ops a.tmps) then o.wp P a w (Ok N X0 M w0 fun st' => st' = st.put o.dst x) Q else Ok N X0 M w0 (fun st' => st' = st.put o.dst x) (a.put o.dst undef) w := by
  rcases hv with hv | ⟨hd, hx, h3⟩
  · exact step_sound hA hty hC h (step_of_val hv)
  · obtain ⟨r, hx⟩ := hx
    cases hg : o.guard with
    | none => rw [hg] at h3; exact h3.elim
    | some gw =>
      obtain ⟨j, want⟩ := gw
      rw [hg] at h3
      simp only at h3
      cases ht : (ops[j]?).bind (·.dst) with
      | none => rw [ht] at h3; exact h3.elim
      | some t =>
        rw [ht] at h3
        simp only at h3
        have hR : R w (XX X0 β st.hp) β (st.get t) (a.eval (.tmp t)) := St.ev_ok h (.tmp t)
        have hy : yielded ops a.tmps j = (match a.tmps.getD t undef with | .bool b => some b | _ => none) := by
          unfold yielded
          rw [ht]
          simp only [Option.bind_some]
          rw [Array.getD_eq_getD_getElem?]
          cases hq : a.tmps[t]? with
          | none => rfl
          | some v => cases v <;> rfl
        have hwant : Region.wanted o (yielded ops a.tmps) = false := by
          simp only [Region.wanted, hg, hy]
          generalize st.get t = y at h3 hR
          unfold guardB at h3
          split at h3
          · rename_i b
            have hv : a.tmps.getD t undef = .bool b := hR.v_inv
            rw [hv]
            cases b <;> cases want <;> simp_all
          · rename_i g' b
            cases g' with
            | false =>
              have hv : a.tmps.getD t undef = undef := hR.cond_undef rfl
              rw [hv]; rfl
            | true =>
              have hv : a.tmps.getD t undef = .bool b := (hR.cond_inv rfl).v_inv
              rw [hv]
              cases b <;> cases want <;> simp_all
          · cases h3
        rw [hwant, if_neg (by simp)]
        refine ⟨_, β, rfl, ?_⟩
        cases hdd : o.dst with
        | none => exact h
        | some d =>
          rw [hdd] at hd
          rw [hx]
          exact h.put (by simpa [dstOk] using hd) (mkCond_R (fun hh => by cases hh) fun _ => rfl)

/-! ## any order -/

def stF (l : List Oper) (xs : Nat → SV) (st : St) : Nat → St
  | 0 => st
  | i + 1 => (stF l xs st i).put ((l[i]?).bind (·.dst)) (xs i)

theorem stF_cons (o : Oper) (l : List Oper) (x : SV) (xs : Nat → SV) (st : St) : ∀ i, stF (o :: l) (fun i => match i with | 0 => x | i + 1 => xs i) st (i + 1) = stF l xs (st.put o.dst x) i
  | 0 => rfl
  | i + 1 => by
    have ih := stF_cons o l x xs st i
    show (stF (o :: l) _ st (i + 1)).put _ _ = (stF l xs (st.put o.dst x) i).put _ _
    rw [ih]
    rfl

theorem runV_xs {tys : List (Nat × TyD)} {C : List (FuncId × Ctr)} {N : Nat} {ops : Array Oper} {K : St → Prop} : ∀ (l : List Oper) (st : St), St.runV tys C N ops l st K →
    ∃ xs : Nat → SV, (∀ i o, l[i]? = some o → (stF l xs st i).val tys C N ops o (xs i)) ∧ K (stF l xs st l.length)
  | [], st, h => ⟨fun _ => .junk, by simp, h⟩
  | o :: l, st, h => by
    obtain ⟨x, hv, hr⟩ := h
    obtain ⟨xs, h1, h2⟩ := runV_xs l (st.put o.dst x) hr
    refine ⟨fun i => match i with | 0 => x | i + 1 => xs i, fun i q hq => ?_, ?_⟩
    · cases i with
      | zero => simp at hq; subst hq; exact hv
      | succ i => rw [stF_cons]; exact h1 i q (by simpa using hq)
    · rw [List.length_cons, stF_cons]; exact h2

theorem stF_hp (l : List Oper) (xs : Nat → SV) (st : St) : ∀ i, (stF l xs st i).hp = st.hp
  | 0 => rfl
  | i + 1 => by
    have ih := stF_hp l xs st i
    simp only [stF, St.put]
    split
    · exact ih
    · exact ih
theorem put_lk_ne (st : St) (d : Option Nat) (x : SV) (t : Nat) (h : d ≠ some t) : lk t (st.put d x).fr = lk t st.fr := by
  cases d with
  | none => rfl
  | some d =>
    have : t ≠ d := fun e => h (by rw [e])
    simp only [St.put, lk, if_neg this, lk_er_ne this]
theorem put_lk_same (st : St) (d : Nat) (x : SV) : lk d (st.put (some d) x).fr = some x := by simp [St.put, lk]
theorem put_hp (st : St) (d : Option Nat) (x : SV) : (st.put d x).hp = st.hp := by cases d <;> rfl

theorem stF_other {l : List Oper} (xs : Nat → SV) (st : St) {t : Nat} (h : ∀ j : Nat, (l[j]?).bind (·.dst) ≠ some t) : ∀ i, lk t (stF l xs st i).fr = lk t st.fr
  | 0 => rfl
  | i + 1 => by
    rw [show stF l xs st (i + 1) = (stF l xs st i).put ((l[i]?).bind (·.dst)) (xs i) from rfl, put_lk_ne _ _ _ _ (h i)]
    exact stF_other xs st h i
theorem stF_dst {l : List Oper} (xs : Nat → SV) (st : St) {t j : Nat} (hj : (l[j]?).bind (·.dst) = some t) (h : ∀ i : Nat, i ≠ j → (l[i]?).bind (·.dst) ≠ some t) : ∀ i, j < i → lk t (stF l xs st i).fr = some (xs j)
  | 0, hi => absurd hi (by omega)
  | i + 1, hi => by
    rw [show stF l xs st (i + 1) = (stF l xs st i).put ((l[i]?).bind (·.dst)) (xs i) from rfl]
    by_cases he : i = j
    · subst he; rw [hj]; exact put_lk_same _ _ _
    · rw [put_lk_ne _ _ _ _ (h i he)]
      exact stF_dst xs st hj h i (by omega)

theorem mem_ready' {ops : Array Oper} {listed : Array Bool} {i : Nat} : i ∈ Region.ready .any ops listed ↔ i < ops.size ∧ listed.getD i true = false ∧ ∃ o, ops[i]? = some o ∧ ∀ e ∈ o.after, Region.binds .any e = true → listed.getD e.on false = true := by
  unfold Region.ready
  rw [List.mem_filter, List.mem_range, Bool.and_eq_true, Bool.not_eq_true']
  constructor
  · rintro ⟨h1, h2, h3⟩
    refine ⟨h1, h2, ?_⟩
    cases ho : ops[i]? with
    | none => rw [ho] at h3; cases h3
    | some o =>
      rw [ho] at h3
      simp only [Option.map_some, Option.getD_some] at h3
      rw [Array.all_eq_true_iff_forall_mem] at h3
      refine ⟨o, rfl, fun e he hb => ?_⟩
      have := h3 e he
      rw [hb] at this
      simpa using this
  · rintro ⟨h1, h2, o, ho, h3⟩
    refine ⟨h1, h2, ?_⟩
    rw [ho]
    simp only [Option.map_some, Option.getD_some]
    rw [Array.all_eq_true_iff_forall_mem]
    intro e he
    by_cases hb : Region.binds .any e = true
    · rw [h3 e he hb]; simp
    · simp [hb]

theorem hasEdge_listed {o : Oper} {listed : Array Bool} (h : ∀ e ∈ o.after, Region.binds .any e = true → listed.getD e.on false = true) {j : Nat} (hj : hasEdge o j = true) : listed.getD j false = true := by
  unfold hasEdge at hj
  rw [← Array.any_toList, List.any_eq_true] at hj
  obtain ⟨e, he, hh⟩ := hj
  have he : e ∈ o.after := by simpa using he
  rw [Bool.and_eq_true, beq_iff_eq] at hh
  rw [← hh.1]
  exact h e he hh.2

theorem getD_set (listed : Array Bool) (i j : Nat) (d : Bool) (hi : i < listed.size) : (listed.setIfInBounds i true).getD j d = if j = i then true else listed.getD j d := by
  rw [Array.getD_eq_getD_getElem?, Array.getD_eq_getD_getElem?, Array.getElem?_setIfInBounds]
  by_cases h : i = j
  · subst h; simp [hi]
  · rw [if_neg h, if_neg (fun e => h e.symm)]

section
variable {c : Cx} {N : Nat} {X0 : Nat → Prop} {M : Nat → BV → Prop} {w0 : World} {K : Exit → St → Prop}

/-- behind the first m: one after the other -/
theorem draw_tail (hAp : Ap c.P X0 M w0) {ops : Array Oper} {m : Nat} (hB : DrawOk ops m) : ∀ (fuel p : Nat) (listed : Array Bool) (st : St) (β : Nat → BV) (a : Act) (w : World), p + fuel = ops.size → m ≤ p → listed.size = ops.size →
    (∀ j, j < ops.size → listed.getD j false = decide (j < p)) → Sim N X0 M w0 st β a w → St.runR c.tys c.C N ops (ops.toList.drop p) st (K .normal) →
    wpAny c.P .any ops (fun e a' w' => Ok N X0 M w0 (K e) a' w') fuel listed a w
  | 0, p, listed, st, β, a, w, hp, hm, hsz, hl, hs, hr => by
    have hd : ops.toList.drop p = [] := List.drop_eq_nil_of_le (by simp; omega)
    rw [hd] at hr
    refine ⟨?_, st, β, hr, hs⟩
    rw [List.eq_nil_iff_forall_not_mem]
    intro i hi
    obtain ⟨h1, h2, _⟩ := mem_ready'.1 hi
    have h3 := hl i h1
    rw [Array.getD_eq_getD_getElem?] at h2 h3
    rw [Array.getElem?_eq_getElem (by omega)] at h2 h3
    simp only [Option.getD_some] at h2 h3
    rw [h2] at h3
    have : i < p := by omega
    simp [this] at h3
  | fuel + 1, p, listed, st, β, a, w, hp, hm, hsz, hl, hs, hr => by
    have hpl : p < ops.size := by omega
    have hgT : ∀ j, j < ops.size → listed.getD j true = decide (j < p) := fun j hj => by
      have := hl j hj
      rw [Array.getD_eq_getD_getElem?, Array.getElem?_eq_getElem (by omega)] at this ⊢
      exact this
    have ho : ops[p]? = some (ops[p]'hpl) := Array.getElem?_eq_getElem hpl
    have hrdy : p ∈ Region.ready .any ops listed := mem_ready'.2 ⟨hpl, by rw [hgT p hpl]; simp, _, ho, fun e he hb => by
      have := hB.back p _ ho e he hb
      rw [hl e.on (by omega)]; simpa using this⟩
    refine ⟨fun h => (by rw [h] at hrdy; cases hrdy), fun i hi => ?_⟩
    obtain ⟨h1, h2, o, hoi, h3⟩ := mem_ready'.1 hi
    have hip : i = p := by
      rw [hgT i h1] at h2
      have hge : p ≤ i := by simpa using h2
      rcases Nat.lt_or_ge p i with hlt | hle
      · have := hasEdge_listed h3 (hB.all i o (by omega) hoi p hlt)
        rw [hl p hpl] at this
        simp at this
      · omega
    subst hip
    have hdrop : ops.toList.drop i = o :: ops.toList.drop (i + 1) := by
      rw [List.drop_eq_getElem_cons (by simpa using hpl)]
      congr 1
      rw [ho] at hoi
      simpa using hoi
    rw [hdrop] at hr
    have hst := step_sound (Q := fun e a' w' => Ok N X0 M w0 (K e) a' w') hAp c.hty c.hC hs (ops := ops) hr
    have hnext : ∀ a' w', Ok N X0 M w0 (fun st' => St.runR c.tys c.C N ops (ops.toList.drop (i + 1)) st' (K .normal)) a' w' → wpAny c.P .any ops (fun e a' w' => Ok N X0 M w0 (K e) a' w') fuel (listed.setIfInBounds i true) a' w' := fun a' w' hk => by
      obtain ⟨st', β', h4, h5⟩ := hk
      refine draw_tail hAp hB fuel (i + 1) _ st' β' a' w' (by omega) (by omega) (by simpa using hsz) (fun j hj => ?_) h5 h4
      rw [getD_set _ _ _ _ (by omega)]
      by_cases hji : j = i
      · subst hji; simp
      · rw [if_neg hji, hl j hj]
        congr 1
        apply propext
        omega
    unfold wpOp
    rw [hoi]
    simp only
    split
    · rename_i hw; rw [if_pos hw] at hst; exact .inl (Oper.wp_mono hnext hst)
    · rename_i hw; rw [if_neg hw] at hst; exact hnext _ _ hst

theorem draw_head (hAp : Ap c.P X0 M w0) {ops : Array Oper} {m : Nat} (hB : DrawOk ops m) {st : St} {xs : Nat → SV} (hv : ∀ i o, i < m → ops[i]? = some o → (stF (ops.toList.take m) xs st i).val c.tys c.C N ops o (xs i))
    (hr : St.runR c.tys c.C N ops (ops.toList.drop m) (stF (ops.toList.take m) xs st m) (K .normal)) : ∀ (fuel : Nat) (listed : Array Bool) (st' : St) (β : Nat → BV) (a : Act) (w : World), listed.size = ops.size →
    (∀ j, m ≤ j → j < ops.size → listed.getD j false = false) → fuel = (List.range ops.size).countP (fun j => !listed.getD j false) → Sim N X0 M w0 st' β a w → st'.hp = st.hp →
    (∀ t, (∀ j, j < m → dstAt ops j ≠ some t) → lk t st'.fr = lk t st.fr) → (∀ i d, i < m → listed.getD i false = true → dstAt ops i = some d → lk d st'.fr = some (xs i)) →
    wpAny c.P .any ops (fun e a' w' => Ok N X0 M w0 (K e) a' w') fuel listed a w := by
  have hdt : ∀ j, ((ops.toList.take m)[j]?).bind (·.dst) = if j < m then dstAt ops j else none := fun j => by
    by_cases hj : j < m
    · rw [if_pos hj, List.getElem?_take_of_lt hj, Array.getElem?_toList]; rfl
    · rw [if_neg hj, List.getElem?_eq_none (by simp; omega)]; rfl
  have hap : ∀ {i j d}, i < m → j < m → dstAt ops i = some d → dstAt ops j = some d → i = j := fun {i j d} hi hj h1 h2 => by
    have hio : i < ops.size := by have := hB.le; omega
    have ho : ops[i]? = some (ops[i]'hio) := Array.getElem?_eq_getElem hio
    rcases Nat.decEq i j with hne | he
    · exfalso
      refine hB.apart i _ hi ho j hj hne ?_
      rw [h2, ← h1]
      unfold dstAt
      rw [ho]; rfl
    · exact he
  -- what stF has
  have hF2 : ∀ t, (∀ j, j < m → dstAt ops j ≠ some t) → ∀ i, lk t (stF (ops.toList.take m) xs st i).fr = lk t st.fr := fun t ht i => stF_other xs st (fun j => by
    rw [hdt j]; split
    · rename_i hj; exact ht j hj
    · simp) i
  have hF3 : ∀ {t j i}, j < m → dstAt ops j = some t → j < i → lk t (stF (ops.toList.take m) xs st i).fr = some (xs j) := fun {t j i} hj hd hi => stF_dst xs st (by rw [hdt j, if_pos hj]; exact hd) (fun k hk => by
    rw [hdt k]; split
    · rename_i hkm; exact fun e => hk (hap hkm hj e hd)
    · simp) i hi
  intro fuel
  induction fuel with
  | zero =>
    intro listed st' β a w hsz hsuf hf hs hhp hA hB'
    have hall : ∀ j, j < ops.size → listed.getD j false = true := fun j hj => by
      have : (List.range ops.size).countP (fun j => !listed.getD j false) = 0 := hf.symm
      rw [List.countP_eq_zero] at this
      have := this j (List.mem_range.2 hj)
      simpa using this
    have hm : m = ops.size := by
      rcases Nat.lt_or_ge m ops.size with h | h
      · have := hall m h; rw [hsuf m (Nat.le_refl _) h] at this; cases this
      · have := hB.le; omega
    refine draw_tail (c := c) hAp hB 0 m listed (stF (ops.toList.take m) xs st m) β a w (by omega) (Nat.le_refl _) hsz (fun j hj => by rw [hall j hj]; simp; omega) ?_ hr
    refine hs.less (fun t x hx => ?_) (fun t x hx => by rw [hhp, ← stF_hp (ops.toList.take m) xs st m]; exact hx)
    by_cases ht : ∃ j, j < m ∧ dstAt ops j = some t
    · obtain ⟨j, hj, hd⟩ := ht
      rw [hF3 hj hd hj] at hx
      rw [hB' j t hj (hall j (by omega)) hd]; exact hx
    · have ht' : ∀ j, j < m → dstAt ops j ≠ some t := fun j hj hd => ht ⟨j, hj, hd⟩
      rw [hF2 t ht'] at hx
      rw [hA t ht']; exact hx
  | succ fuel ih =>
    intro listed st' β a w hsz hsuf hf hs hhp hA hB'
    have hgT : ∀ j, j < ops.size → listed.getD j true = listed.getD j false := fun j hj => by
      rw [Array.getD_eq_getD_getElem?, Array.getD_eq_getD_getElem?, Array.getElem?_eq_getElem (by omega)]; rfl
    -- some operation has not come up; the least of them may
    have hex : ∃ p, p < ops.size ∧ listed.getD p false = false := by
      have h1 : 0 < (List.range ops.size).countP (fun j => !listed.getD j false) := by omega
      obtain ⟨p, hp, hq⟩ := List.countP_pos_iff.1 h1
      exact ⟨p, List.mem_range.1 hp, by simpa using hq⟩
    obtain ⟨p, ⟨hp, hpf⟩, hmin⟩ := least hex
    have hrdy : p ∈ Region.ready .any ops listed := mem_ready'.2 ⟨hp, by rw [hgT p hp]; exact hpf, _, Array.getElem?_eq_getElem hp, fun e he hb => by
      have hlt := hB.back p _ (Array.getElem?_eq_getElem hp) e he hb
      cases hh : listed.getD e.on false with
      | true => rfl
      | false => have := hmin e.on ⟨by omega, hh⟩; omega⟩
    refine ⟨fun h => (by rw [h] at hrdy; cases hrdy), fun i hi => ?_⟩
    obtain ⟨h1, h2, o, hoi, h3⟩ := mem_ready'.1 hi
    rw [hgT i h1] at h2
    rcases Nat.lt_or_ge i m with him | him
    · -- one of the first m
      have hval : st'.val c.tys c.C N ops o (xs i) := by
        refine val_congr (fun t ht => ?_) (by rw [hhp, stF_hp]) (hv i o him hoi)
        unfold St.get
        by_cases hd : ∃ j, j < m ∧ dstAt ops j = some t
        · obtain ⟨j, hj, hd⟩ := hd
          obtain ⟨hji, hed⟩ := hB.looks i o him hoi t ht j hj hd
          rw [hB' j t hj (hasEdge_listed h3 hed) hd, hF3 hj hd hji]
        · have hd' : ∀ j, j < m → dstAt ops j ≠ some t := fun j hj hd' => hd ⟨j, hj, hd'⟩
          rw [hA t hd', hF2 t hd']
      have hst := val_sound (Q := fun e a' w' => Ok N X0 M w0 (K e) a' w') hAp c.hty c.hC hs (ops := ops) hval
      obtain ⟨d, hd⟩ := hB.dst i o him hoi
      have hdi : dstAt ops i = some d := by unfold dstAt; rw [hoi]; exact hd
      have hnext : ∀ a' w', Ok N X0 M w0 (fun st2 => st2 = st'.put o.dst (xs i)) a' w' → wpAny c.P .any ops (fun e a' w' => Ok N X0 M w0 (K e) a' w') fuel (listed.setIfInBounds i true) a' w' := fun a' w' hk => by
        obtain ⟨st2, β', rfl, h5⟩ := hk
        refine ih _ _ β' a' w' (by simpa using hsz) (fun j hj hjn => ?_) ?_ h5 (by rw [put_hp]; exact hhp) (fun t ht => ?_) (fun j e hj hjl hje => ?_)
        · rw [getD_set _ _ _ _ (by omega), if_neg (by omega)]; exact hsuf j hj hjn
        · have key : ∀ l : List Nat, l.Nodup → i ∈ l → l.countP (fun j => !listed.getD j false) = l.countP (fun j => !(listed.setIfInBounds i true).getD j false) + 1 := by
            intro l hn hm
            induction l with
            | nil => cases hm
            | cons q l ihl =>
              rw [List.nodup_cons] at hn
              simp only [List.countP_cons]
              rw [getD_set _ _ _ _ (by omega)]
              by_cases hq : q = i
              · subst hq
                have hno : l.countP (fun j => !listed.getD j false) = l.countP (fun j => !(listed.setIfInBounds q true).getD j false) := by
                  apply List.countP_congr
                  intro j hj
                  rw [getD_set _ _ _ _ (by omega), if_neg (fun e => hn.1 (by rw [← e]; exact hj))]
                rw [h2, hno]; simp
              · have hm' : i ∈ l := by
                  rcases List.mem_cons.1 hm with e | e
                  · exact absurd e.symm hq
                  · exact e
                rw [if_neg hq, ihl hn.2 hm']; omega
          have := key (List.range ops.size) List.nodup_range (List.mem_range.2 h1)
          omega
        · rw [hd, put_lk_ne _ _ _ _ (fun e => ht i him (by rw [hdi, ← hd]; rw [hd]; exact e))]
          exact hA t ht
        · rw [getD_set _ _ _ _ (by omega)] at hjl
          by_cases hji : j = i
          · subst hji
            rw [hdi] at hje
            cases hje
            rw [hd]; exact put_lk_same _ _ _
          · rw [if_neg hji] at hjl
            rw [hd, put_lk_ne _ _ _ _ (fun e' => hji (hap hj him hje (by rw [hdi]; exact e')))]
            exact hB' j e hj hjl hje
      unfold wpOp
      rw [hoi]
      simp only
      split
      · rename_i hw; rw [if_pos hw] at hst; exact .inl (Oper.wp_mono hnext hst)
      · rename_i hw; rw [if_neg hw] at hst; exact hnext _ _ hst
    · -- all before it have come up: it is the m-th
      have hbefore : ∀ j, j < i → listed.getD j false = true := fun j hj => hasEdge_listed h3 (hB.all i o him hoi j hj)
      have himm : i = m := by
        rcases Nat.lt_or_ge m i with h | h
        · have := hbefore m h; rw [hsuf m (Nat.le_refl _) (by omega)] at this; cases this
        · omega
      have hl : ∀ j, j < ops.size → listed.getD j false = decide (j < m) := fun j hj => by
        rcases Nat.lt_or_ge j m with h | h
        · rw [hbefore j (by omega)]; simp [h]
        · rw [hsuf j h hj]; simp; omega
      have hcount : fuel + 1 = ops.size - m := by
        rw [hf]
        have : (List.range ops.size).countP (fun j => !listed.getD j false) = (List.range ops.size).countP (fun j => decide (m ≤ j)) := by
          apply List.countP_congr
          intro j hj
          rw [hl j (List.mem_range.1 hj)]
          simp
        rw [this]
        have key : ∀ n, (List.range n).countP (fun j => decide (m ≤ j)) = n - m := by
          intro n
          induction n with
          | zero => simp
          | succ n ihn =>
            rw [List.range_succ, List.countP_append, ihn]
            by_cases hh : m ≤ n
            · simp [hh]; omega
            · simp [hh]; omega
        exact key _
      have htail := draw_tail (c := c) hAp hB (fuel + 1) m listed (stF (ops.toList.take m) xs st m) β a w (by have := hB.le; omega) (Nat.le_refl _) hsz hl (hs.less (fun t x hx => by
          by_cases ht : ∃ j, j < m ∧ dstAt ops j = some t
          · obtain ⟨j, hj, hd⟩ := ht
            rw [hF3 hj hd hj] at hx
            rw [hB' j t hj (hbefore j (by omega)) hd]; exact hx
          · have ht' : ∀ j, j < m → dstAt ops j ≠ some t := fun j hj hd => ht ⟨j, hj, hd⟩
            rw [hF2 t ht'] at hx
            rw [hA t ht']; exact hx) (fun t x hx => by rw [hhp, ← stF_hp (ops.toList.take m) xs st m]; exact hx)) hr
      exact htail.2 i hi

/-- **A region whose order is open.** -/
theorem WP.draw {id : Nat} {l : List Oper} {st : St} (m : Nat) (hB : drawB l.toArray m = true) (hm : c.P.follows .mixedOrders = true)
    (h : St.runV c.tys c.C N l.toArray (l.take m) st fun st' => St.runR c.tys c.C N l.toArray (l.drop m) st' (K .normal)) : WP c N X0 M w0 (.region id l.toArray true) st K := by
  intro hA β a w hs
  have hD := drawB_ok hB
  obtain ⟨xs, h1, h2⟩ := runV_xs _ _ h
  have hlen : (l.take m).length = m := by
    have := hD.le
    simp at this ⊢
    omega
  rw [hlen] at h2
  refine wp_region_any hm (draw_head (c := c) (K := K) hA hD (st := st) (xs := xs) (fun i o hi ho => ?_) ?_ l.toArray.size (Array.replicate l.toArray.size false) st β a _ (by simp) (fun j _ hj => ?_) ?_ ?_ rfl (fun _ _ => rfl) (fun i d hi hl => ?_))
  · have : (l.take m)[i]? = some o := by rw [List.getElem?_take_of_lt hi]; simpa using ho
    exact h1 i o this
  · exact h2
  · rw [Array.getD_eq_getD_getElem?, Array.getElem?_replicate]; split <;> rfl
  · have : (List.range l.toArray.size).countP (fun j => !(Array.replicate l.toArray.size false).getD j false) = (List.range l.toArray.size).countP (fun _ => true) := by
      apply List.countP_congr
      intro j hj
      rw [Array.getD_eq_getD_getElem?, Array.getElem?_replicate]; split <;> simp
    rw [this]; simp
  · exact hs.grow ((Go.RowKit.Below.refl _ _).drew) (fun b _ hb => .inl hb) hs.x0
  · rw [Array.getD_eq_getD_getElem?, Array.getElem?_replicate] at hl
    split at hl <;> cases hl
end
end Go.Vc
