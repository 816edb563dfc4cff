/-
  DERIVED. Several texts of ours in one: VcJ, VcN, VcO, VcQ, VcS, VcK, VcT, VcEv.
-/
import Derived.Test.YtdhkhapbldkkdaaGreatDoorVk0
import Derived.Test.YtdhkhapbldkkdaaGreatDoorVk1
import Derived.Test.YtdhkhapbldkkdaaGreatDoorVk2
import Derived.KernelRfl
set_option linter.unusedSimpArgs false
set_option linter.unusedVariables false
set_option maxHeartbeats 1000000
set_option maxRecDepth 10000
namespace Go.Vc
def kJu (o : Oper) (j : Nat) : Bool := o.after.any fun e => e.on == j && Region.binds .any e
def kB8 (ops : Array Oper) (i : Nat) : Option Nat := (ops[i]?).bind (·.dst)
def kNa (ops : Array Oper) (m i : Nat) (o : Oper) : Bool :=
 o.dst.isSome && ((o.looksAt ops).all fun t => (List.range m).all fun j => !(kB8 ops j == some t) || (decide (j < i) && kJu o j)) &&
  (List.range m).all fun j => i == j || kB8 ops j != o.dst
def kWz (ops : Array Oper) (m : Nat) : Bool :=
 decide (m ≤ ops.size) &&
 (List.range ops.size).all fun p => match ops[p]? with
  |none => false
  |some o => (o.after.all fun e => !Region.binds .any e || decide (e.on < p)) && (if p < m then kNa ops m p o else (List.range p).all (kJu o))
structure kX3 (ops : Array Oper) (m : Nat) : Prop where
 le : m ≤ ops.size
 back : ∀ (p : Nat) (o : Oper), ops[p]? = some o → ∀ e ∈ o.after, Region.binds .any e = true → e.on < p
 dst : ∀ (i : Nat) (o : Oper), i < m → ops[i]? = some o → ∃ d, o.dst = some d
 looks : ∀ (i : Nat) (o : Oper), i < m → ops[i]? = some o → ∀ t ∈ o.looksAt ops, ∀ j, j < m → kB8 ops j = some t → j < i ∧ kJu o j = true
 apart : ∀ (i : Nat) (o : Oper), i < m → ops[i]? = some o → ∀ j, j < m → i ≠ j → kB8 ops j ≠ o.dst
 all : ∀ (p : Nat) (o : Oper), m ≤ p → ops[p]? = some o → ∀ j, j < p → kJu o j = true
theorem k9y {ops : Array Oper} {m : Nat} (h : kWz ops m = true) : kX3 ops m := by
 unfold kWz at h
 rw [Bool.and_eq_true, decide_eq_true_eq] at h
 obtain ⟨h0, h⟩ := h
 rw [List.all_eq_true] at h
 have key : ∀ (p : Nat) (o : Oper), ops[p]? = some o → (o.after.all fun e => !Region.binds .any e || decide (e.on < p)) = true ∧ (if p < m then kNa ops m p o else (List.range p).all (kJu o)) = true := fun p o ho => by
  have hp : p < ops.size := (Array.getElem?_eq_some_iff.1 ho).1
  have := h p (List.mem_range.2 hp)
  rw [ho] at this
  simp only [Bool.and_eq_true] at this
  exact this
 refine ⟨h0, fun p o ho e he hb => ?_, fun i o hi ho => ?_, fun i o hi ho t ht j hj hd => ?_, fun i o hi ho j hj hne => ?_, fun p o hp ho j hj => ?_⟩
 ·have := (key p o ho).1
  rw [Array.all_eq_true_iff_forall_mem] at this
  have := this e he
  rw [hb] at this
  simpa using this
 ·have := (key i o ho).2
  rw [if_pos hi] at this
  simp only [kNa, Bool.and_eq_true] at this
  exact Option.isSome_iff_exists.1 this.1.1
 ·have := (key i o ho).2
  rw [if_pos hi] at this
  simp only [kNa, Bool.and_eq_true, List.all_eq_true] at this
  have := this.1.2 t ht j (List.mem_range.2 hj)
  rw [hd] at this
  simpa using this
 ·have := (key i o ho).2
  rw [if_pos hi] at this
  simp only [kNa, Bool.and_eq_true, List.all_eq_true] at this
  have := this.2 j (List.mem_range.2 hj)
  simp only [Bool.or_eq_true, beq_iff_eq, bne_iff_ne] at this
  rcases this with e | e
  ·exact absurd e hne
  ·exact e
 ·have := (key p o ho).2
  rw [if_neg (by omega), List.all_eq_true] at this
  exact this j (List.mem_range.2 hj)
def St.valG (tys : List (Nat × TyD)) (C : List (FuncId × Ctr)) (g : Bool) (o : Oper) (st : St) (x : SV) : Prop :=
 match o.op with
 | .call c => match c.callee with
  | .value y => ∃ ob r, st.kEy (o.dst.getD 0) C c y = some (ob, r) ∧ x = kB7 g r ∧ (g = true → ob)
  | _ => ∃ ob r, st.pr tys (.call c) = some (ob, r) ∧ x = kB7 g r ∧ (g = true → ob)
 |op => ∃ ob r, st.pr tys op = some (ob, r) ∧ x = kB7 g r ∧ (g = true → ob)
def St.valU (tys : List (Nat × TyD)) (C : List (FuncId × Ctr)) (o : Oper) (st : St) (x : SV) : Prop :=
 match o.op with
 | .call c => match c.callee with
  | .value y => ∃ ob, st.kEy (o.dst.getD 0) C c y = some (ob, x) ∧ ob
  | _ => ∃ ob, st.pr tys (.call c) = some (ob, x) ∧ ob
 |op => ∃ ob, st.pr tys op = some (ob, x) ∧ ob
def St.val0 (tys : List (Nat × TyD)) (C : List (FuncId × Ctr)) (N : Nat) (ops : Array Oper) (o : Oper) (st : St) (x : SV) : Prop :=
 kAy N o.dst = true ∧ match o.guard with
 |none => st.valU tys C o x
 |some (j, want) => match (ops[j]?).bind (·.dst) with
  |some t => match kD8 want (st.get t) with
   |some g => st.valG tys C g o x
   |none => False
  |none => False
def St.off (N : Nat) (ops : Array Oper) (o : Oper) (st : St) (x : SV) : Prop :=
 kAy N o.dst = true ∧ (∃ r, x = kB7 false r) ∧ match o.guard with
 |some (j, want) => match (ops[j]?).bind (·.dst) with
  |some t => kD8 want (st.get t) = some false
  |none => False
 |none => False
def St.val (tys : List (Nat × TyD)) (C : List (FuncId × Ctr)) (N : Nat) (ops : Array Oper) (o : Oper) (st : St) (x : SV) : Prop := st.val0 tys C N ops o x ∨ st.off N ops o x
def St.runV (tys : List (Nat × TyD)) (C : List (FuncId × Ctr)) (N : Nat) (ops : Array Oper) : List Oper → St → (St → Prop) → Prop
 | [], st, K => K st
 |o :: l, st, K => ∃ x, st.val tys C N ops o x ∧ St.runV tys C N ops l (st.put o.dst x) K
theorem kQ1 {st st2 : St} (hh : ∀ id ob, lk id st.hp = some ob → lk id st2.hp = some ob) {x : SV} {rows : List (List SV)} (h : st.rowsOf x = some rows) : st2.rowsOf x = some rows := by
 cases x with
 |own m =>
  simp only [St.rowsOf] at h ⊢
  cases hl : lk m st.hp with
  |none => rw [hl] at h; cases h
  |some ob => rw [hl] at h; rw [hh m ob hl]; exact h
 |sl s r => exact h
 |v y =>
  unfold St.rowsOf at h ⊢
  split at h
  ·rename_i e; cases e
  ·rename_i e; cases e
  ·exact h
  ·cases h
 | _ => cases h
theorem kX4 {st st2 : St} {offs : List (Nat × Nat)} : ∀ {l : List (Nat × Operand)} {cs : List SV}, (∀ p ∈ l, st2.ev p.2 = st.ev p.2) → st2.bld offs l cs = st.bld offs l cs
 | [], cs, _ => rfl
 | (f, x) :: l, cs, h => by
  simp only [St.bld, h (f, x) List.mem_cons_self]
  cases offs[f]? with
  |none => rfl
  |some o => simp only; rw [kX4 fun p hp => h p (List.mem_cons_of_mem _ hp)]
theorem kP7 {tys : List (Nat × TyD)} {st st2 : St} {op : Op} (h : ∀ y ∈ op.operands, st2.ev y = st.ev y) (hh : ∀ id ob, lk id st.hp = some ob → lk id st2.hp = some ob) {q : Prop × SV} (hq : st.pr tys op = some q) : st2.pr tys op = some q := by
 cases op with
 |move x => simp only [St.pr, h x (by simp [Op.operands])] at hq ⊢; exact hq
 |assign x => simp only [St.pr, h x (by simp [Op.operands])] at hq ⊢; exact hq
 |pick c a b => simp only [St.pr, h c (by simp [Op.operands]), h a (by simp [Op.operands]), h b (by simp [Op.operands])] at hq ⊢; exact hq
 |binOp op T x y U => simp only [St.pr, St.prEq, h x (by simp [Op.operands]), h y (by simp [Op.operands])] at hq ⊢; exact hq
 |unOp op T x => simp only [St.pr, h x (by simp [Op.operands])] at hq ⊢; exact hq
 |nilCheck x => simp only [St.pr, h x (by simp [Op.operands])] at hq ⊢; exact hq
 |fieldAddr T x f => simp only [St.pr, h x (by simp [Op.operands])] at hq ⊢; exact hq
 |indexAddr T x y =>
  simp only [St.pr, h x (by simp [Op.operands]), h y (by simp [Op.operands])] at hq ⊢
  split at hq
  ·exact hq
  ·split at hq
   ·rename_i hk
    rw [if_pos hk]
    split at hq
    ·rename_i e s rows hl; simp only [hh _ _ hl]; exact hq
    ·rename_i e s rows hl; simp only [hh _ _ hl]; exact hq
    ·rename_i e s rows i0 row0 hl; simp only [hh _ _ hl]; exact hq
    ·cases hq
   ·cases hq
  ·cases hq
 |load T x =>
  simp only [St.pr, h x (by simp [Op.operands])] at hq ⊢
  split at hq
  ·split at hq
   ·rename_i hl; simp only [hh _ _ hl]; exact hq
   ·rename_i hl; simp only [hh _ _ hl]; exact hq
   ·rename_i hl; simp only [hh _ _ hl]; exact hq
   ·cases hq
  ·exact hq
  ·cases hq
 |index T x y => simp only [St.pr, h x (by simp [Op.operands]), h y (by simp [Op.operands])] at hq ⊢; exact hq
 |extract x i => simp only [St.pr, h x (by simp [Op.operands])] at hq ⊢; exact hq
 |makeFunc fn first caps =>
  cases fn <;> try exact hq
  have e : ∀ c ∈ caps.toList, st2.ev c = st.ev c := fun c hc => h c (by simp only [Op.operands, Array.mem_append]; right; simpa using hc)
  rw [← hq]
  simp only [St.pr]
  split
  ·congr 2
   ·apply propext
    constructor <;> intro hc c hm
    ·rw [← e c hm]; exact hc c hm
    ·rw [e c hm]; exact hc c hm
   ·congr 1
    exact List.map_congr_left fun c hm => by rw [e c hm]
  ·rfl
 |build T parts =>
  have e : ∀ p ∈ parts.toList, st2.ev p.2 = st.ev p.2 := fun p hp => h p.2 (by
   simp only [Op.operands]
   simp only [List.mem_toArray, List.mem_map]
   exact ⟨p, hp, rfl⟩)
  simp only [St.pr] at hq ⊢
  cases hd : lk T tys with
  |none => rw [hd] at hq; cases hq
  |some d => rw [hd] at hq; simp only at hq ⊢; rw [kX4 e]; exact hq
 |convert S T x =>
  simp only [St.pr, h x (by simp [Op.operands])] at hq ⊢
  split at hq
  ·exact hq
  ·simp only [St.kH1, h x (by simp [Op.operands])] at hq ⊢
   split at hq
   ·rename_i hr; rw [kQ1 hh hr]; exact hq
   ·cases hq
  ·cases hq
 |slice T x lo hi mx =>
  have e0 := h x (by simp [Op.operands])
  rw [← hq]
  cases mx with
  |some m => cases lo <;> cases hi <;> simp [St.pr]
  |none =>
   cases lo with
   |some lo =>
    have e1 := h lo (by simp [Op.operands])
    cases hi with
    |some hi => simp only [St.pr, St.kEr, St.bnd, e0, e1, h hi (by simp [Op.operands])]
    |none => simp only [St.pr, St.kEr, St.bnd, e0, e1]
   |none =>
    cases hi with
    |some hi => simp only [St.pr, St.kEr, St.bnd, e0, h hi (by simp [Op.operands])]
    |none => simp only [St.pr, St.kEr, St.bnd, e0]
 |call c =>
  have ha : ∀ y ∈ c.args.toList, st2.ev y = st.ev y := fun y hy => h y (by simp only [Op.operands, Call.operands, Array.mem_append]; right; simpa using hy)
  simp only [St.pr] at hq ⊢
  split at hq
  ·split at hq
   ·rename_i x T hx hT
    have e1 : st2.ev x = st.ev x := ha x (by rw [hx]; simp)
    unfold St.kH2 at hq ⊢
    rw [e1]
    split at hq
    ·exact hq
    ·exact hq
    ·exact hq
    ·split at hq
     ·rename_i hk
      rw [if_pos hk]
      split at hq
      ·rename_i hl; simp only [hh _ _ hl]; exact hq
      ·rename_i hl; simp only [hh _ _ hl]; exact hq
      ·rename_i hl; simp only [hh _ _ hl]; exact hq
      ·cases hq
     ·cases hq
    ·cases hq
   ·cases hq
  ·split at hq
   ·rename_i x y hx
    simp only [St.kGp, ha x (by rw [hx]; simp), ha y (by rw [hx]; simp)] at hq ⊢
    exact hq
   ·cases hq
  ·split at hq
   ·rename_i x y hx
    simp only [St.kGp, ha x (by rw [hx]; simp), ha y (by rw [hx]; simp)] at hq ⊢
    exact hq
   ·cases hq
  ·cases hq
 | _ => simp [St.pr] at hq
theorem kJ8 {hp hp2 : List (Nat × Ob)} (hh : ∀ id ob, lk id hp = some ob → lk id hp2 = some ob) {x : SV} (hg : (x.share1 hp).good1 = true) : x.share1 hp2 = x.share1 hp := by
 cases x with
 |own id =>
  simp only [SV.share1] at hg ⊢
  cases hl : lk id hp with
  |none => rw [hl] at hg; cases hg
  |some ob => rw [hh id ob hl]
 |ptr id s i k =>
  simp only [SV.share1] at hg ⊢
  cases hl : lk id hp with
  |none => rw [hl] at hg; cases hg
  |some ob => rw [hh id ob hl]
 | _ => rfl
theorem kNw {hp hp2 : List (Nat × Ob)} (hh : ∀ id ob, lk id hp = some ob → lk id hp2 = some ob) {x : SV} (hg : (x.share hp).good = true) : x.share hp2 = x.share hp := by
 cases x with
 |agg cs =>
  simp only [SV.share, SV.good, List.all_map] at hg ⊢
  congr 1
  exact List.map_congr_left fun y hy => kJ8 hh (List.all_eq_true.1 hg y hy)
 |fn f cs =>
  simp only [SV.share, SV.good, List.all_map] at hg ⊢
  congr 1
  exact List.map_congr_left fun y hy => kJ8 hh (List.all_eq_true.1 hg y hy)
 |v y => rfl
 |sl s r => rfl
 |own id =>
  show (SV.own id).share1 hp2 = (SV.own id).share1 hp
  refine kJ8 hh ?_
  simp only [SV.share, SV.share1] at hg ⊢
  split at hg <;> first | rfl | cases hg
 |ptr id s i k =>
  show (SV.ptr id s i k).share1 hp2 = (SV.ptr id s i k).share1 hp
  refine kJ8 hh ?_
  simp only [SV.share, SV.share1] at hg ⊢
  split at hg
  ·split at hg
   ·rename_i hs; simp only [hs, if_true]; rfl
   ·cases hg
  ·split at hg
   ·rename_i hs; rw [if_pos hs]; rfl
   ·cases hg
  ·cases hg
 |rptr s r i k => rfl
 |tup cs => rfl
 |cond g y => rfl
 |junk => rfl
theorem kQ2 {hp hp2 : List (Nat × Ob)} (hh : ∀ id ob, lk id hp = some ob → lk id hp2 = some ob) {A : List SV} (hg : (A.all fun y => (y.share hp).good) = true) : A.map (SV.share hp2) = A.map (SV.share hp) ∧ (A.all fun y => (y.share hp2).good) = true := by
 have h1 : ∀ y ∈ A, y.share hp2 = y.share hp := fun y hy => kNw hh (List.all_eq_true.1 hg y hy)
 refine ⟨List.map_congr_left h1, ?_⟩
 rw [List.all_eq_true] at hg ⊢
 intro y hy
 rw [h1 y hy]; exact hg y hy
theorem kO6 {st st2 : St} {c : Call} (ha : ∀ y ∈ c.args.toList, st2.ev y = st.ev y) (caps : List SV) : st2.argL c caps = st.argL c caps := by
 unfold St.argL
 congr 1
 exact List.map_congr_left fun y hy => by rw [ha y hy]
theorem k6n {st st2 : St} {c : Call} (ha : ∀ y ∈ c.args.toList, st2.ev y = st.ev y) : (∀ y ∈ c.args.toList, (st2.ev y).need) = ∀ y ∈ c.args.toList, (st.ev y).need := by
 apply propext
 constructor <;> intro hq y hy
 ·rw [← ha y hy]; exact hq y hy
 ·rw [ha y hy]; exact hq y hy
theorem kSj {dd : Nat} {C : List (FuncId × Ctr)} {st st2 : St} {c : Call} (h : ∀ y ∈ (Op.call c).operands, st2.ev y = st.ev y) (hh : ∀ id ob, lk id st.hp = some ob → lk id st2.hp = some ob) {x : Operand} (hc : c.callee = .value x) {q : Prop × SV} (hq : st.kEy dd C c x = some q) : st2.kEy dd C c x = some q := by
 have ha : ∀ y ∈ c.args.toList, st2.ev y = st.ev y := fun y hy => h y (by simp only [Op.operands, Call.operands, Array.mem_append]; right; simpa using hy)
 have hx : st2.ev x = st.ev x := h x (by simp [Op.operands, Call.operands, hc])
 unfold St.kEy at hq ⊢
 rw [hx]
 split at hq
 case h_2 => cases hq
 case h_1 _ f caps hf =>
 split at hq
 case h_2 => cases hq
 case h_1 _ ctr hctr =>
 have key : ∀ (p2 : List (Nat × Ob)) (A : List SV), A = st.argL c caps → (st.argL c caps).map (SV.share p2) = (st.argL c caps).map (SV.share st.hp) → ((st.argL c caps).all fun y => (y.share p2).good) = true → ((st.argL c caps).all fun y => (y.share st.hp).good) = true →
   (match ctr.pure dd (A.map (SV.share p2)) with
   | (ob, res, robs) => if (A.all fun y => (y.share p2).good) = true then some (ob ∧ robs = [] ∧ (∀ y ∈ c.args.toList, (st2.ev y).need) ∧ (A.all fun y => (y.share p2).good) = true ∧ res.rok = true ∧ res.kCo = [] ∧
      ((A.flatMap SV.owns) = [] ∨ res.isV2 = true) ∧ ctr.isL = false, res) else none) = some q := by
  intro p2 A hAe e1 e2 hg
  subst hAe
  rw [e1]
  generalize ctr.pure dd ((st.argL c caps).map (SV.share st.hp)) = z at hq ⊢
  obtain ⟨z1, z2, z3⟩ := z
  simp only [hg, e2, if_true] at hq ⊢
  rw [k6n ha]
  exact hq
 have hg : ((st.argL c caps).all fun y => (y.share st.hp).good) = true := by
  by_cases hg : ((st.argL c caps).all fun y => (y.share st.hp).good) = true
  ·exact hg
  ·exfalso
   generalize ctr.pure dd ((st.argL c caps).map (SV.share st.hp)) = z at hq
   obtain ⟨z1, z2, z3⟩ := z
   simp only [hg, if_false] at hq
   cases hq
 obtain ⟨e1, e2⟩ := kQ2 hh hg
 exact key st2.hp _ (kO6 ha caps) e1 e2 hg
theorem k6o {tys : List (Nat × TyD)} {C : List (FuncId × Ctr)} {N : Nat} {ops : Array Oper} {o : Oper} {st st2 : St} {x : SV} (h : ∀ t ∈ o.looksAt ops, st2.get t = st.get t) (hh : ∀ id ob, lk id st.hp = some ob → lk id st2.hp = some ob) (hv : st.val0 tys C N ops o x) :
  st2.val0 tys C N ops o x := by
 have hop : ∀ y ∈ o.op.operands, st2.ev y = st.ev y := fun y hy => by
  cases y with
  |tmp t =>
   exact h t (List.mem_append_left _ (List.mem_filterMap.2 ⟨.tmp t, by simpa using hy, rfl⟩))
  | _ => rfl
 obtain ⟨hd, hv⟩ := hv
 refine ⟨hd, ?_⟩
 cases hg : o.guard with
 |none =>
  rw [hg] at hv
  simp only at hv ⊢
  unfold St.valU at hv ⊢
  cases ho : o.op with
  |call c =>
   rw [ho] at hv hop
   cases hc : c.callee with
   |value y => simp only [hc] at hv ⊢; obtain ⟨ob, h1, h2⟩ := hv; exact ⟨ob, kSj hop hh hc h1, h2⟩
   | _ => simp only [hc] at hv ⊢; obtain ⟨ob, h1, h2⟩ := hv; exact ⟨ob, kP7 hop hh h1, h2⟩
  | _ => rw [ho] at hv hop; simp only at hv ⊢; obtain ⟨ob, h1, h2⟩ := hv; exact ⟨ob, kP7 hop hh h1, h2⟩
 |some gw =>
  obtain ⟨j, want⟩ := gw
  rw [hg] at hv
  simp only at hv ⊢
  cases ht : (ops[j]?).bind (·.dst) with
  |none => rw [ht] at hv; exact hv.elim
  |some t =>
   rw [ht] at hv
   simp only at hv ⊢
   have hgt : st2.get t = st.get t := h t (List.mem_append_right _ (by simp [hg, ht]))
   rw [hgt]
   split at hv
   case h_2 => exact hv.elim
   case h_1 _ cc hcc =>
    unfold St.valG at hv ⊢
    cases ho : o.op with
    |call c =>
     rw [ho] at hv hop
     cases hc : c.callee with
     |value y =>
      simp only [hc] at hv ⊢
      obtain ⟨ob, r, h1, h2⟩ := hv; exact ⟨ob, r, kSj hop hh hc h1, h2⟩
     | _ => simp only [hc] at hv ⊢; obtain ⟨ob, r, h1, h2⟩ := hv; exact ⟨ob, r, kP7 hop hh h1, h2⟩
    | _ => rw [ho] at hv hop; simp only at hv ⊢; obtain ⟨ob, r, h1, h2⟩ := hv; exact ⟨ob, r, kP7 hop hh h1, h2⟩
theorem kX5 {tys : List (Nat × TyD)} {C : List (FuncId × Ctr)} {N : Nat} {ops : Array Oper} {o : Oper} {st st2 : St} {x : SV} (h : ∀ t ∈ o.looksAt ops, st2.get t = st.get t) (hh : ∀ id ob, lk id st.hp = some ob → lk id st2.hp = some ob) (hv : st.val tys C N ops o x) :
  st2.val tys C N ops o x := by
 rcases hv with hv | ⟨h1, h2, h3⟩
 ·exact .inl (k6o h hh hv)
 ·refine .inr ⟨h1, h2, ?_⟩
  cases hg : o.guard with
  |none => rw [hg] at h3; exact h3
  |some gw =>
   obtain ⟨j, want⟩ := gw
   rw [hg] at h3
   simp only at h3 ⊢
   cases ht : (ops[j]?).bind (·.dst) with
   |none => rw [ht] at h3; exact h3
   |some t =>
    rw [ht] at h3
    simp only at h3 ⊢
    rw [h t (List.mem_append_right _ (by simp [hg, ht]))]
    exact h3
theorem val_congr {tys : List (Nat × TyD)} {C : List (FuncId × Ctr)} {N : Nat} {ops : Array Oper} {o : Oper} {st st2 : St} {x : SV} (h : ∀ t ∈ o.looksAt ops, st2.get t = st.get t) (hh : st2.hp = st.hp) (hv : st.val tys C N ops o x) :
  st2.val tys C N ops o x := kX5 h (fun id ob hi => by rw [hh]; exact hi) hv
theorem kX6 {tys : List (Nat × TyD)} {st : St} {T : Nat} {x : Operand} {lo hi mx : Option Operand} {q : Prop × SV} (h : st.pr tys (.slice T x lo hi mx) = some q) : (st.ev x).strip.kI3 = [] := by
 cases hx : (st.ev x).strip with
 |own i =>
  exfalso
  cases mx with
  |some m => cases lo <;> cases hi <;> simp [St.pr] at h
  |none =>
   cases lo <;> cases hi <;> simp only [St.pr, St.kEr, hx] at h <;> (cases hl : lk T tys <;> simp [hl] at h)
 | _ => rfl
theorem k0f {tys : List (Nat × TyD)} {C : List (FuncId × Ctr)} {N : Nat} {ops : Array Oper} {o : Oper} {st : St} {x : SV} (hv : st.val0 tys C N ops o x) : st.step tys C N ops o fun st' => st' = st.put o.dst x := by
 obtain ⟨hd, hv⟩ := hv
 unfold St.step
 cases hg : o.guard with
 |none =>
  rw [hg] at hv
  simp only at hv ⊢
  unfold St.valU at hv
  unfold St.kHb
  have fin : ∀ {op}, o.op = op → (∃ ob, st.pr tys op = some (ob, x) ∧ ob) → st.prK tys o fun st' => st' = st.put o.dst x := fun {op} ho hp => by
   obtain ⟨ob, h1, h2⟩ := hp
   unfold St.prK
   rw [ho, h1]
   exact ⟨h2, rfl⟩
  cases ho : o.op with
  |call c =>
   rw [ho] at hv
   cases hc : c.callee with
   |value y =>
    simp only [hc] at hv ⊢
    obtain ⟨ob, hcf, hob⟩ := hv
    have hv := St.kM8 hc hcf hob
    refine ⟨hd, ?_⟩
    rw [St.kXy hv hc]
    exact St.kM9 (by rw [ho]; exact hv) (by cases o.dst <;> rfl)
   |invoke r q => simp only [hc] at hv ⊢; exact ⟨hd, fin ho hv⟩
   |builtin b =>
    cases b <;> simp only [hc] at hv ⊢ <;> first
     |exact ⟨hd, fin ho hv⟩
     | (exfalso; obtain ⟨ob, h1, _⟩ := hv; simp [St.pr, hc] at h1)
  |alloc T => rw [ho] at hv; obtain ⟨ob, h1, _⟩ := hv; simp [St.pr] at h1
  |box T y => rw [ho] at hv; obtain ⟨ob, h1, _⟩ := hv; simp [St.pr] at h1
  |buildSlice T n p => rw [ho] at hv; obtain ⟨ob, h1, _⟩ := hv; simp [St.pr] at h1
  |makeSlice T l q => rw [ho] at hv; obtain ⟨ob, h1, _⟩ := hv; simp [St.pr] at h1
  |store T p y => rw [ho] at hv; obtain ⟨ob, h1, _⟩ := hv; simp [St.pr] at h1
  |slice T y lo hi mx =>
   rw [ho] at hv
   have h1 := hv
   obtain ⟨ob, h1, _⟩ := h1
   simp only
   rw [kX6 h1]
   exact ⟨hd, fin ho hv⟩
  | _ => rw [ho] at hv; exact ⟨hd, fin ho hv⟩
 |some gw =>
  obtain ⟨j, want⟩ := gw
  rw [hg] at hv
  simp only at hv ⊢
  cases ht : (ops[j]?).bind (·.dst) with
  |none => rw [ht] at hv; exact hv.elim
  |some t =>
   rw [ht] at hv
   simp only at hv ⊢
   split at hv
   case h_2 => exact hv.elim
   case h_1 _ cc hcc =>
    try rw [hcc]
    try simp only
    unfold St.valG at hv
    unfold St.stepG
    have fin : ∀ {op}, o.op = op → (∃ ob r, st.pr tys op = some (ob, r) ∧ x = kB7 cc r ∧ (cc = true → ob)) → (match st.pr tys o.op with
      |some (ob, r) => (cc = true → ob) ∧ st.put o.dst (kB7 cc r) = st.put o.dst x
      |none => False) := fun {op} ho hp => by
     obtain ⟨ob, r, h1, h2, h3⟩ := hp
     rw [ho, h1]
     exact ⟨h3, by rw [h2]⟩
    cases ho : o.op with
    |call c =>
     rw [ho] at hv
     cases hc : c.callee with
     |value y =>
      simp only [hc] at hv ⊢
      obtain ⟨ob, r, h1, h2, h3⟩ := hv
      refine ⟨hd, ?_⟩
      rw [h1]
      exact ⟨h3, by rw [h2]⟩
     | _ => simp only [hc] at hv ⊢; have := fin ho hv; rw [ho] at this; exact ⟨hd, this⟩
    | _ => rw [ho] at hv; have := fin ho hv; rw [ho] at this; exact ⟨hd, this⟩
theorem kVd {P : Program} {tys : List (Nat × TyD)} {C : List (FuncId × Ctr)} {N : Nat} {X0 : Nat → Prop} {M : Nat → BV → Prop} {w0 : World} {st : St} {β : Nat → BV} {a : Act} {w : World} (hA : Ap P X0 M w0) (hty : ∀ T d, lk T tys = some d → TyOk P T d) (hC : COk P C) (h : Sim N X0 M w0 st β a w)
  {ops : Array Oper} {o : Oper} {x : SV} (hv : st.val tys C N ops o x) {Q : Exit → Act → World → Prop} :
  if Region.wanted o (yielded ops a.tmps) then o.wp P a w (Ok N X0 M w0 fun st' => st' = st.put o.dst x) Q else Ok N X0 M w0 (fun st' => st' = st.put o.dst x) (a.put o.dst undef) w := by
 rcases hv with hv | ⟨hd, hx, h3⟩
 ·exact kC8 hA hty hC h (k0f hv)
 ·obtain ⟨r, hx⟩ := hx
  cases hg : o.guard with
  |none => rw [hg] at h3; exact h3.elim
  |some gw =>
   obtain ⟨j, want⟩ := gw
   rw [hg] at h3
   simp only at h3
   cases ht : (ops[j]?).bind (·.dst) with
   |none => rw [ht] at h3; exact h3.elim
   |some t =>
    rw [ht] at h3
    simp only at h3
    have hR : R w (XX X0 β st.hp) β (st.get t) (a.eval (.tmp t)) := St.kC7 h (.tmp t)
    have hy : yielded ops a.tmps j = (match a.tmps.getD t undef with | .bool b => some b | _ => none) := by
     unfold yielded
     rw [ht]
     simp only [Option.bind_some]
     rw [Array.getD_eq_getD_getElem?]
     cases hq : a.tmps[t]? with
     |none => rfl
     |some v => cases v <;> rfl
    have hwant : Region.wanted o (yielded ops a.tmps) = false := by
     simp only [Region.wanted, hg, hy]
     generalize st.get t = y at h3 hR
     unfold kD8 at h3
     split at h3
     ·rename_i b
      have hv : a.tmps.getD t undef = .bool b := hR.kAz
      rw [hv]
      cases b <;> cases want <;> simp_all
     ·rename_i g' b
      cases g' with
      |false =>
       have hv : a.tmps.getD t undef = undef := hR.kIy rfl
       rw [hv]; rfl
      |true =>
       have hv : a.tmps.getD t undef = .bool b := (hR.kJo rfl).kAz
       rw [hv]
       cases b <;> cases want <;> simp_all
     ·cases h3
    rw [hwant, if_neg (by simp)]
    refine ⟨_, β, rfl, ?_⟩
    cases hdd : o.dst with
    |none => exact h
    |some d =>
     rw [hdd] at hd
     rw [hx]
     exact h.put (by simpa [kAy] using hd) (kLm (fun hh => by cases hh) fun _ => rfl)
def stF (l : List Oper) (xs : Nat → SV) (st : St) : Nat → St
 | 0 => st
 |i + 1 => (stF l xs st i).put ((l[i]?).bind (·.dst)) (xs i)
theorem kRl (o : Oper) (l : List Oper) (x : SV) (xs : Nat → SV) (st : St) : ∀ i, stF (o :: l) (fun i => match i with | 0 => x | i + 1 => xs i) st (i + 1) = stF l xs (st.put o.dst x) i
 | 0 => rfl
 |i + 1 => by
  have ih := kRl o l x xs st i
  show (stF (o :: l) _ st (i + 1)).put _ _ = (stF l xs (st.put o.dst x) i).put _ _
  rw [ih]
  rfl
theorem k1e {tys : List (Nat × TyD)} {C : List (FuncId × Ctr)} {N : Nat} {ops : Array Oper} {K : St → Prop} : ∀ (l : List Oper) (st : St), St.runV tys C N ops l st K →
  ∃ xs : Nat → SV, (∀ i o, l[i]? = some o → (stF l xs st i).val tys C N ops o (xs i)) ∧ K (stF l xs st l.length)
 | [], st, h => ⟨fun _ => .junk, by simp, h⟩
 |o :: l, st, h => by
  obtain ⟨x, hv, hr⟩ := h
  obtain ⟨xs, h1, h2⟩ := k1e l (st.put o.dst x) hr
  refine ⟨fun i => match i with | 0 => x | i + 1 => xs i, fun i q hq => ?_, ?_⟩
  ·cases i with
   |zero => simp at hq; subst hq; exact hv
   |succ i => rw [kRl]; exact h1 i q (by simpa using hq)
  ·rw [List.length_cons, kRl]; exact h2
theorem kSk (l : List Oper) (xs : Nat → SV) (st : St) : ∀ i, (stF l xs st i).hp = st.hp
 | 0 => rfl
 |i + 1 => by
  have ih := kSk l xs st i
  simp only [stF, St.put]
  split
  ·exact ih
  ·exact ih
theorem kL7 (st : St) (d : Option Nat) (x : SV) (t : Nat) (h : d ≠ some t) : lk t (st.put d x).fr = lk t st.fr := by
 cases d with
 |none => rfl
 |some d =>
  have : t ≠ d := fun e => h (by rw [e])
  simp only [St.put, lk, if_neg this, kA7 this]
theorem kQ3 (st : St) (d : Nat) (x : SV) : lk d (st.put (some d) x).fr = some x := by simp [St.put, lk]
theorem put_hp (st : St) (d : Option Nat) (x : SV) : (st.put d x).hp = st.hp := by cases d <;> rfl
theorem kVe {l : List Oper} (xs : Nat → SV) (st : St) {t : Nat} (h : ∀ j : Nat, (l[j]?).bind (·.dst) ≠ some t) : ∀ i, lk t (stF l xs st i).fr = lk t st.fr
 | 0 => rfl
 |i + 1 => by
  rw [show stF l xs st (i + 1) = (stF l xs st i).put ((l[i]?).bind (·.dst)) (xs i) from rfl, kL7 _ _ _ _ (h i)]
  exact kVe xs st h i
theorem k1f {l : List Oper} (xs : Nat → SV) (st : St) {t j : Nat} (hj : (l[j]?).bind (·.dst) = some t) (h : ∀ i : Nat, i ≠ j → (l[i]?).bind (·.dst) ≠ some t) : ∀ i, j < i → lk t (stF l xs st i).fr = some (xs j)
 | 0, hi => absurd hi (by omega)
 |i + 1, hi => by
  rw [show stF l xs st (i + 1) = (stF l xs st i).put ((l[i]?).bind (·.dst)) (xs i) from rfl]
  by_cases he : i = j
  ·subst he; rw [hj]; exact kQ3 _ _ _
  ·rw [kL7 _ _ _ _ (h i he)]
   exact k1f xs st hj h i (by omega)
theorem kCc {ops : Array Oper} {listed : Array Bool} {i : Nat} : i ∈ Region.ready .any ops listed ↔ i < ops.size ∧ listed.getD i true = false ∧ ∃ o, ops[i]? = some o ∧ ∀ e ∈ o.after, Region.binds .any e = true → listed.getD e.on false = true := by
 unfold Region.ready
 rw [List.mem_filter, List.mem_range, Bool.and_eq_true, Bool.not_eq_true']
 constructor
 ·rintro ⟨h1, h2, h3⟩
  refine ⟨h1, h2, ?_⟩
  cases ho : ops[i]? with
  |none => rw [ho] at h3; cases h3
  |some o =>
   rw [ho] at h3
   simp only [Option.map_some, Option.getD_some] at h3
   rw [Array.all_eq_true_iff_forall_mem] at h3
   refine ⟨o, rfl, fun e he hb => ?_⟩
   have := h3 e he
   rw [hb] at this
   simpa using this
 ·rintro ⟨h1, h2, o, ho, h3⟩
  refine ⟨h1, h2, ?_⟩
  rw [ho]
  simp only [Option.map_some, Option.getD_some]
  rw [Array.all_eq_true_iff_forall_mem]
  intro e he
  by_cases hb : Region.binds .any e = true
  ·rw [h3 e he hb]; simp
  ·simp [hb]
theorem kJv {o : Oper} {listed : Array Bool} (h : ∀ e ∈ o.after, Region.binds .any e = true → listed.getD e.on false = true) {j : Nat} (hj : kJu o j = true) : listed.getD j false = true := by
 unfold kJu at hj
 rw [← Array.any_toList, List.any_eq_true] at hj
 obtain ⟨e, he, hh⟩ := hj
 have he : e ∈ o.after := by simpa using he
 rw [Bool.and_eq_true, beq_iff_eq] at hh
 rw [← hh.1]
 exact h e he hh.2
theorem kCs (listed : Array Bool) (i j : Nat) (d : Bool) (hi : i < listed.size) : (listed.setIfInBounds i true).getD j d = if j = i then true else listed.getD j d := by
 rw [Array.getD_eq_getD_getElem?, Array.getD_eq_getD_getElem?, Array.getElem?_setIfInBounds]
 by_cases h : i = j
 ·subst h; simp [hi]
 ·rw [if_neg h, if_neg (fun e => h e.symm)]
section
variable {c : Cx} {N : Nat} {X0 : Nat → Prop} {M : Nat → BV → Prop} {w0 : World} {K : Exit → St → Prop}
theorem kO7 (hAp : Ap c.P X0 M w0) {ops : Array Oper} {m : Nat} (hB : kX3 ops m) : ∀ (fuel p : Nat) (listed : Array Bool) (st : St) (β : Nat → BV) (a : Act) (w : World), p + fuel = ops.size → m ≤ p → listed.size = ops.size →
  (∀ j, j < ops.size → listed.getD j false = decide (j < p)) → Sim N X0 M w0 st β a w → St.runR c.tys c.C N ops (ops.toList.drop p) st (K .normal) →
  wpAny c.P .any ops (fun e a' w' => Ok N X0 M w0 (K e) a' w') fuel listed a w
 | 0, p, listed, st, β, a, w, hp, hm, hsz, hl, hs, hr => by
  have hd : ops.toList.drop p = [] := List.drop_eq_nil_of_le (by simp; omega)
  rw [hd] at hr
  refine ⟨?_, st, β, hr, hs⟩
  rw [List.eq_nil_iff_forall_not_mem]
  intro i hi
  obtain ⟨h1, h2, _⟩ := kCc.1 hi
  have h3 := hl i h1
  rw [Array.getD_eq_getD_getElem?] at h2 h3
  rw [Array.getElem?_eq_getElem (by omega)] at h2 h3
  simp only [Option.getD_some] at h2 h3
  rw [h2] at h3
  have : i < p := by omega
  simp [this] at h3
 |fuel + 1, p, listed, st, β, a, w, hp, hm, hsz, hl, hs, hr => by
  have hpl : p < ops.size := by omega
  have hgT : ∀ j, j < ops.size → listed.getD j true = decide (j < p) := fun j hj => by
   have := hl j hj
   rw [Array.getD_eq_getD_getElem?, Array.getElem?_eq_getElem (by omega)] at this ⊢
   exact this
  have ho : ops[p]? = some (ops[p]'hpl) := Array.getElem?_eq_getElem hpl
  have hrdy : p ∈ Region.ready .any ops listed := kCc.2 ⟨hpl, by rw [hgT p hpl]; simp, _, ho, fun e he hb => by
   have := hB.back p _ ho e he hb
   rw [hl e.on (by omega)]; simpa using this⟩
  refine ⟨fun h => (by rw [h] at hrdy; cases hrdy), fun i hi => ?_⟩
  obtain ⟨h1, h2, o, hoi, h3⟩ := kCc.1 hi
  have hip : i = p := by
   rw [hgT i h1] at h2
   have hge : p ≤ i := by simpa using h2
   rcases Nat.lt_or_ge p i with hlt | hle
   ·have := kJv h3 (hB.all i o (by omega) hoi p hlt)
    rw [hl p hpl] at this
    simp at this
   ·omega
  subst hip
  have hdrop : ops.toList.drop i = o :: ops.toList.drop (i + 1) := by
   rw [List.drop_eq_getElem_cons (by simpa using hpl)]
   congr 1
   rw [ho] at hoi
   simpa using hoi
  rw [hdrop] at hr
  have hst := kC8 (Q := fun e a' w' => Ok N X0 M w0 (K e) a' w') hAp c.hty c.hC hs (ops := ops) hr
  have hnext : ∀ a' w', Ok N X0 M w0 (fun st' => St.runR c.tys c.C N ops (ops.toList.drop (i + 1)) st' (K .normal)) a' w' → wpAny c.P .any ops (fun e a' w' => Ok N X0 M w0 (K e) a' w') fuel (listed.setIfInBounds i true) a' w' := fun a' w' hk => by
   obtain ⟨st', β', h4, h5⟩ := hk
   refine kO7 hAp hB fuel (i + 1) _ st' β' a' w' (by omega) (by omega) (by simpa using hsz) (fun j hj => ?_) h5 h4
   rw [kCs _ _ _ _ (by omega)]
   by_cases hji : j = i
   ·subst hji; simp
   ·rw [if_neg hji, hl j hj]
    congr 1
    apply propext
    omega
  unfold wpOp
  rw [hoi]
  simp only
  split
  ·rename_i hw; rw [if_pos hw] at hst; exact .inl (Oper.wp_mono hnext hst)
  ·rename_i hw; rw [if_neg hw] at hst; exact hnext _ _ hst
theorem k6p (hAp : Ap c.P X0 M w0) {ops : Array Oper} {m : Nat} (hB : kX3 ops m) {st : St} {xs : Nat → SV} (hv : ∀ i o, i < m → ops[i]? = some o → (stF (ops.toList.take m) xs st i).val c.tys c.C N ops o (xs i))
  (hr : St.runR c.tys c.C N ops (ops.toList.drop m) (stF (ops.toList.take m) xs st m) (K .normal)) : ∀ (fuel : Nat) (listed : Array Bool) (st' : St) (β : Nat → BV) (a : Act) (w : World), listed.size = ops.size →
  (∀ j, m ≤ j → j < ops.size → listed.getD j false = false) → fuel = (List.range ops.size).countP (fun j => !listed.getD j false) → Sim N X0 M w0 st' β a w → st'.hp = st.hp →
  (∀ t, (∀ j, j < m → kB8 ops j ≠ some t) → lk t st'.fr = lk t st.fr) → (∀ i d, i < m → listed.getD i false = true → kB8 ops i = some d → lk d st'.fr = some (xs i)) →
  wpAny c.P .any ops (fun e a' w' => Ok N X0 M w0 (K e) a' w') fuel listed a w := by
 have hdt : ∀ j, ((ops.toList.take m)[j]?).bind (·.dst) = if j < m then kB8 ops j else none := fun j => by
  by_cases hj : j < m
  ·rw [if_pos hj, List.getElem?_take_of_lt hj, Array.getElem?_toList]; rfl
  ·rw [if_neg hj, List.getElem?_eq_none (by simp; omega)]; rfl
 have hap : ∀ {i j d}, i < m → j < m → kB8 ops i = some d → kB8 ops j = some d → i = j := fun {i j d} hi hj h1 h2 => by
  have hio : i < ops.size := by have := hB.le; omega
  have ho : ops[i]? = some (ops[i]'hio) := Array.getElem?_eq_getElem hio
  rcases Nat.decEq i j with hne | he
  ·exfalso
   refine hB.apart i _ hi ho j hj hne ?_
   rw [h2, ← h1]
   unfold kB8
   rw [ho]; rfl
  ·exact he
 have hF2 : ∀ t, (∀ j, j < m → kB8 ops j ≠ some t) → ∀ i, lk t (stF (ops.toList.take m) xs st i).fr = lk t st.fr := fun t ht i => kVe xs st (fun j => by
  rw [hdt j]; split
  ·rename_i hj; exact ht j hj
  ·simp) i
 have hF3 : ∀ {t j i}, j < m → kB8 ops j = some t → j < i → lk t (stF (ops.toList.take m) xs st i).fr = some (xs j) := fun {t j i} hj hd hi => k1f xs st (by rw [hdt j, if_pos hj]; exact hd) (fun k hk => by
  rw [hdt k]; split
  ·rename_i hkm; exact fun e => hk (hap hkm hj e hd)
  ·simp) i hi
 intro fuel
 induction fuel with
 |zero =>
  intro listed st' β a w hsz hsuf hf hs hhp hA hB'
  have hall : ∀ j, j < ops.size → listed.getD j false = true := fun j hj => by
   have : (List.range ops.size).countP (fun j => !listed.getD j false) = 0 := hf.symm
   rw [List.countP_eq_zero] at this
   have := this j (List.mem_range.2 hj)
   simpa using this
  have hm : m = ops.size := by
   rcases Nat.lt_or_ge m ops.size with h | h
   ·have := hall m h; rw [hsuf m (Nat.le_refl _) h] at this; cases this
   ·have := hB.le; omega
  refine kO7 (c := c) hAp hB 0 m listed (stF (ops.toList.take m) xs st m) β a w (by omega) (Nat.le_refl _) hsz (fun j hj => by rw [hall j hj]; simp; omega) ?_ hr
  refine hs.less (fun t x hx => ?_) (fun t x hx => by rw [hhp, ← kSk (ops.toList.take m) xs st m]; exact hx)
  by_cases ht : ∃ j, j < m ∧ kB8 ops j = some t
  ·obtain ⟨j, hj, hd⟩ := ht
   rw [hF3 hj hd hj] at hx
   rw [hB' j t hj (hall j (by omega)) hd]; exact hx
  ·have ht' : ∀ j, j < m → kB8 ops j ≠ some t := fun j hj hd => ht ⟨j, hj, hd⟩
   rw [hF2 t ht'] at hx
   rw [hA t ht']; exact hx
 |succ fuel ih =>
  intro listed st' β a w hsz hsuf hf hs hhp hA hB'
  have hgT : ∀ j, j < ops.size → listed.getD j true = listed.getD j false := fun j hj => by
   rw [Array.getD_eq_getD_getElem?, Array.getD_eq_getD_getElem?, Array.getElem?_eq_getElem (by omega)]; rfl
  have hex : ∃ p, p < ops.size ∧ listed.getD p false = false := by
   have h1 : 0 < (List.range ops.size).countP (fun j => !listed.getD j false) := by omega
   obtain ⟨p, hp, hq⟩ := List.countP_pos_iff.1 h1
   exact ⟨p, List.mem_range.1 hp, by simpa using hq⟩
  obtain ⟨p, ⟨hp, hpf⟩, hmin⟩ := least hex
  have hrdy : p ∈ Region.ready .any ops listed := kCc.2 ⟨hp, by rw [hgT p hp]; exact hpf, _, Array.getElem?_eq_getElem hp, fun e he hb => by
   have hlt := hB.back p _ (Array.getElem?_eq_getElem hp) e he hb
   cases hh : listed.getD e.on false with
   |true => rfl
   |false => have := hmin e.on ⟨by omega, hh⟩; omega⟩
  refine ⟨fun h => (by rw [h] at hrdy; cases hrdy), fun i hi => ?_⟩
  obtain ⟨h1, h2, o, hoi, h3⟩ := kCc.1 hi
  rw [hgT i h1] at h2
  rcases Nat.lt_or_ge i m with him | him
  ·-- one of the first m
   have hval : st'.val c.tys c.C N ops o (xs i) := by
    refine val_congr (fun t ht => ?_) (by rw [hhp, kSk]) (hv i o him hoi)
    unfold St.get
    by_cases hd : ∃ j, j < m ∧ kB8 ops j = some t
    ·obtain ⟨j, hj, hd⟩ := hd
     obtain ⟨hji, hed⟩ := hB.looks i o him hoi t ht j hj hd
     rw [hB' j t hj (kJv h3 hed) hd, hF3 hj hd hji]
    ·have hd' : ∀ j, j < m → kB8 ops j ≠ some t := fun j hj hd' => hd ⟨j, hj, hd'⟩
     rw [hA t hd', hF2 t hd']
   have hst := kVd (Q := fun e a' w' => Ok N X0 M w0 (K e) a' w') hAp c.hty c.hC hs (ops := ops) hval
   obtain ⟨d, hd⟩ := hB.dst i o him hoi
   have hdi : kB8 ops i = some d := by unfold kB8; rw [hoi]; exact hd
   have hnext : ∀ a' w', Ok N X0 M w0 (fun st2 => st2 = st'.put o.dst (xs i)) a' w' → wpAny c.P .any ops (fun e a' w' => Ok N X0 M w0 (K e) a' w') fuel (listed.setIfInBounds i true) a' w' := fun a' w' hk => by
    obtain ⟨st2, β', rfl, h5⟩ := hk
    refine ih _ _ β' a' w' (by simpa using hsz) (fun j hj hjn => ?_) ?_ h5 (by rw [put_hp]; exact hhp) (fun t ht => ?_) (fun j e hj hjl hje => ?_)
    ·rw [kCs _ _ _ _ (by omega), if_neg (by omega)]; exact hsuf j hj hjn
    ·have key : ∀ l : List Nat, l.Nodup → i ∈ l → l.countP (fun j => !listed.getD j false) = l.countP (fun j => !(listed.setIfInBounds i true).getD j false) + 1 := by
      intro l hn hm
      induction l with
      |nil => cases hm
      |cons q l ihl =>
       rw [List.nodup_cons] at hn
       simp only [List.countP_cons]
       rw [kCs _ _ _ _ (by omega)]
       by_cases hq : q = i
       ·subst hq
        have hno : l.countP (fun j => !listed.getD j false) = l.countP (fun j => !(listed.setIfInBounds q true).getD j false) := by
         apply List.countP_congr
         intro j hj
         rw [kCs _ _ _ _ (by omega), if_neg (fun e => hn.1 (by rw [← e]; exact hj))]
        rw [h2, hno]; simp
       ·have hm' : i ∈ l := by
         rcases List.mem_cons.1 hm with e | e
         ·exact absurd e.symm hq
         ·exact e
        rw [if_neg hq, ihl hn.2 hm']; omega
     have := key (List.range ops.size) List.nodup_range (List.mem_range.2 h1)
     omega
    ·rw [hd, kL7 _ _ _ _ (fun e => ht i him (by rw [hdi, ← hd]; rw [hd]; exact e))]
     exact hA t ht
    ·rw [kCs _ _ _ _ (by omega)] at hjl
     by_cases hji : j = i
     ·subst hji
      rw [hdi] at hje
      cases hje
      rw [hd]; exact kQ3 _ _ _
     ·rw [if_neg hji] at hjl
      rw [hd, kL7 _ _ _ _ (fun e' => hji (hap hj him hje (by rw [hdi]; exact e')))]
      exact hB' j e hj hjl hje
   unfold wpOp
   rw [hoi]
   simp only
   split
   ·rename_i hw; rw [if_pos hw] at hst; exact .inl (Oper.wp_mono hnext hst)
   ·rename_i hw; rw [if_neg hw] at hst; exact hnext _ _ hst
  ·-- all before it have come up: it is the m-th
   have kGl : ∀ j, j < i → listed.getD j false = true := fun j hj => kJv h3 (hB.all i o him hoi j hj)
   have himm : i = m := by
    rcases Nat.lt_or_ge m i with h | h
    ·have := kGl m h; rw [hsuf m (Nat.le_refl _) (by omega)] at this; cases this
    ·omega
   have hl : ∀ j, j < ops.size → listed.getD j false = decide (j < m) := fun j hj => by
    rcases Nat.lt_or_ge j m with h | h
    ·rw [kGl j (by omega)]; simp [h]
    ·rw [hsuf j h hj]; simp; omega
   have hcount : fuel + 1 = ops.size - m := by
    rw [hf]
    have : (List.range ops.size).countP (fun j => !listed.getD j false) = (List.range ops.size).countP (fun j => decide (m ≤ j)) := by
     apply List.countP_congr
     intro j hj
     rw [hl j (List.mem_range.1 hj)]
     simp
    rw [this]
    have key : ∀ n, (List.range n).countP (fun j => decide (m ≤ j)) = n - m := by
     intro n
     induction n with
     |zero => simp
     |succ n ihn =>
      rw [List.range_succ, List.countP_append, ihn]
      by_cases hh : m ≤ n
      ·simp [hh]; omega
      ·simp [hh]; omega
    exact key _
   have htail := kO7 (c := c) hAp hB (fuel + 1) m listed (stF (ops.toList.take m) xs st m) β a w (by have := hB.le; omega) (Nat.le_refl _) hsz hl (hs.less (fun t x hx => by
     by_cases ht : ∃ j, j < m ∧ kB8 ops j = some t
     ·obtain ⟨j, hj, hd⟩ := ht
      rw [hF3 hj hd hj] at hx
      rw [hB' j t hj (kGl j (by omega)) hd]; exact hx
     ·have ht' : ∀ j, j < m → kB8 ops j ≠ some t := fun j hj hd => ht ⟨j, hj, hd⟩
      rw [hF2 t ht'] at hx
      rw [hA t ht']; exact hx) (fun t x hx => by rw [hhp, ← kSk (ops.toList.take m) xs st m]; exact hx)) hr
   exact htail.2 i hi
theorem WP.draw {id : Nat} {l : List Oper} {st : St} (m : Nat) (hB : kWz l.toArray m = true) (hm : c.P.follows .mixedOrders = true)
  (h : St.runV c.tys c.C N l.toArray (l.take m) st fun st' => St.runR c.tys c.C N l.toArray (l.drop m) st' (K .normal)) : WP c N X0 M w0 (.region id l.toArray true) st K := by
 intro hA β a w hs
 have hD := k9y hB
 obtain ⟨xs, h1, h2⟩ := k1e _ _ h
 have hlen : (l.take m).length = m := by
  have := hD.le
  simp at this ⊢
  omega
 rw [hlen] at h2
 refine wp_region_any hm (k6p (c := c) (K := K) hA hD (st := st) (xs := xs) (fun i o hi ho => ?_) ?_ l.toArray.size (Array.replicate l.toArray.size false) st β a _ (by simp) (fun j _ hj => ?_) ?_ ?_ rfl (fun _ _ => rfl) (fun i d hi hl => ?_))
 ·have : (l.take m)[i]? = some o := by rw [List.getElem?_take_of_lt hi]; simpa using ho
  exact h1 i o this
 ·exact h2
 ·rw [Array.getD_eq_getD_getElem?, Array.getElem?_replicate]; split <;> rfl
 ·have : (List.range l.toArray.size).countP (fun j => !(Array.replicate l.toArray.size false).getD j false) = (List.range l.toArray.size).countP (fun _ => true) := by
   apply List.countP_congr
   intro j hj
   rw [Array.getD_eq_getD_getElem?, Array.getElem?_replicate]; split <;> simp
  rw [this]; simp
 ·exact hs.grow ((Go.RowKit.Below.refl _ _).drew) (fun b _ hb => .inl hb) hs.x0
 ·rw [Array.getD_eq_getD_getElem?, Array.getElem?_replicate] at hl
  split at hl <;> cases hl
end
end Go.Vc

namespace Go.Vc
structure Dl where
 x : SV
 made : List (Nat × Ob) := []
 gone : List Nat := []
def Dl.ids (δ : Dl) : List Nat := δ.made.map (·.1) ++ δ.gone
def St.dapp (st : St) (d : Nat) (δ : Dl) : St := { fr := (d, δ.x) :: er d (st.kAt δ.ids).fr, hp := δ.made ++ (st.kAt δ.ids).hp }
def St.dlt (tys : List (Nat × TyD)) (C : List (FuncId × Ctr)) (N : Nat) (ops : Array Oper) (o : Oper) (d : Nat) (st : St) (δ : Dl) : Prop :=
 o.dst = some d ∧
 ((st.val tys C N ops o δ.x ∧ δ.made = [] ∧ δ.gone = []) ∨
  (o.guard = none ∧ kAy N o.dst = true ∧ match o.op with
  | .alloc T => match lk T tys with
   |some t => t.z.all Value.oneCell' = true ∧ δ = ⟨.ptr d 0 0 0, [(d, .box T (t.z.map .v))], []⟩
   |none => False
  | .box T x => (st.ev x).need ∧ (st.ev x).strip.cells.all SV.one = true ∧ (st.ev x).strip.cells.map (SV.kill d) = (st.ev x).strip.cells ∧ δ = ⟨.ptr d 0 0 0, [(d, .box T (st.ev x).strip.cells)], []⟩
  | .buildSlice T n parts => match lk T tys with
   |some t => match lk t.elem tys with
    |some e => t.kind = 1 ∧ 0 < e.size ∧ n * e.size ≤ 16777216 ∧ e.z.length = e.size ∧ e.z.all Value.oneCell' = true ∧ kEb st n e.size parts.toList ∧
      δ = ⟨.own d, [(d, .sl t.elem e.size (kEh st (e.z.map .v) parts.toList (List.replicate n (e.z.map .v))))], []⟩
    |none => False
   |none => False
  | .makeSlice T l c => match lk T tys, (st.ev l).strip, (st.ev c).strip with
   |some t, .v (.int .i64 n), .v (.int .i64 m) => match lk t.elem tys with
    |some e => t.kind = 1 ∧ (st.ev l).need ∧ (st.ev c).need ∧ 0 ≤ n ∧ n ≤ m ∧ m * (e.bytes : Int) ≤ 281474976710656 ∧ 0 < e.bytes ∧ e.z.length = e.size ∧ e.z.all Value.oneCell' = true ∧
      δ = ⟨.own d, [(d, .sl t.elem e.size (List.replicate n.toNat (e.z.map .v)))], []⟩
    |none => False
   | _, _, _ => False
  | .call c => match c.callee with
   | .value x => match st.ev x with
    | .fn f caps => match lk f C with
     |some ctr => ctr.isL = false ∧ (match ctr.pure d ((st.argL c caps).map (SV.share st.hp)) with
      | (ob, res, robs) => ob ∧ (∀ y ∈ c.args.toList, (st.ev y).need) ∧ ((st.argL c caps).all fun y => (y.share st.hp).good) = true ∧ res.rok = true ∧ (res.kCo.all fun i => (robs.map (·.1)).contains i) = true ∧
       kBr (robs.map (·.1)) = true ∧ ((robs.map (·.1)).all fun i => decide (i < 1000000)) = true ∧ (robs.all fun p => p.2.pl) = true ∧
       (((st.argL c caps).flatMap SV.owns) = [] ∨ (res.isV2 = true ∧ ∀ p ∈ robs, p.2.isV)) ∧ δ = ⟨res, robs, []⟩)
     |none => False
    | _ => False
   | .builtin .append => match c.args.toList, c.argTypes.toList with
    | [x, y], [T, T'] => match lk T tys, st.rowsOf (st.ev y).strip with
     |some t, some news => match lk t.elem tys with
      |some e => T = T' ∧ t.kind = 1 ∧ (st.ev x).need ∧ (st.ev y).need ∧ 0 < e.size ∧ 0 < e.bytes ∧ e.z.length = e.size ∧
       (match (st.ev x).strip with
       | .own j => match lk j st.hp with
        |some (.sl e' s' rows) => j < 1000000 ∧ j ≠ d ∧ e' = t.elem ∧ s' = e.size ∧ (rows.length + news.length) * e.bytes ≤ 140737488355328 ∧ (∀ row ∈ news, row.length = e.size) ∧ δ = ⟨.own d, [(d, .sl e' s' (rows ++ news))], [j]⟩
        | _ => False
       | .v (.slice none 0 0) => news.length * e.bytes ≤ 140737488355328 ∧ (∀ row ∈ news, row.length = e.size) ∧ δ = ⟨.own d, [(d, .sl t.elem e.size news)], []⟩
       | _ => False)
      |none => False
     | _, _ => False
    | _, _ => False
   | _ => False
  | _ => False) ∨
  (o.guard = none ∧ kAy N o.dst = true ∧ ∃ p ob is, st.kE7 tys o = some (p, ob, is) ∧ p ∧ δ = ⟨.own d, [(d, ob)], is⟩))
section
variable {P : Program} {tys : List (Nat × TyD)} {C : List (FuncId × Ctr)} {N : Nat} {X0 : Nat → Prop} {M : Nat → BV → Prop} {w0 : World} {st : St} {β : Nat → BV} {a : Act} {w : World}
theorem kPb (j d : Nat) (x : SV) : ((x.kBp j).kBp d).re1 j d = (x.kBp j).kBp d := by
 cases x with
 |own k =>
  by_cases h1 : k = j
  ·simp [SV.kBp, SV.re1, h1]
  ·by_cases h2 : k = d
   ·subst h2; simp [SV.kBp, SV.re1, h1]
   ·simp [SV.kBp, SV.re1, h1, h2]
 |ptr k s a b =>
  by_cases h1 : k = j
  ·simp [SV.kBp, SV.re1, h1]
  ·by_cases h2 : k = d
   ·subst h2; simp [SV.kBp, SV.re1, h1]
   ·simp [SV.kBp, SV.re1, h1, h2]
 | _ => rfl
theorem k6u (j d : Nat) (x : SV) : (((x.up2 (SV.kBp j)).up2 (SV.kBp d)).up2 (SV.re1 j d)) = (x.up2 (SV.kBp j)).up2 (SV.kBp d) := by
 cases x with
 |agg cs =>
  simp only [SV.up2, List.map_map]
  congr 1
  exact List.map_congr_left fun y _ => kPb j d y
 |own k =>
  by_cases h1 : k = j
  ·simp [SV.up2, SV.kBp, SV.re1, h1]
  ·by_cases h2 : k = d
   ·subst h2; simp [SV.up2, SV.kBp, SV.re1, h1]
   ·simp [SV.up2, SV.kBp, SV.re1, h1, h2]
 |ptr k s a b =>
  by_cases h1 : k = j
  ·simp [SV.up2, SV.kBp, SV.re1, h1]
  ·by_cases h2 : k = d
   ·subst h2; simp [SV.up2, SV.kBp, SV.re1, h1]
   ·simp [SV.up2, SV.kBp, SV.re1, h1, h2]
 | _ => rfl
theorem kNd (j d : Nat) (x : SV) : ((x.kill j).kill d).up (SV.re1 j d) = (x.kill j).kill d := by
 cases x with
 |agg cs =>
  simp only [SV.kill, SV.up, List.map_map]
  congr 1
  exact List.map_congr_left fun y _ => kPb j d y
 |tup cs =>
  simp only [SV.kill, SV.up, List.map_map]
  congr 1
  exact List.map_congr_left fun y _ => k6u j d y
 |fn f cs =>
  simp only [SV.kill, SV.up, List.map_map]
  congr 1
  exact List.map_congr_left fun y _ => kPb j d y
 |cond g x => simp only [SV.kill, SV.up, k6u j d x]
 |own k =>
  by_cases h1 : k = j
  ·simp [SV.kill, SV.up, SV.kBp, SV.re1, h1]
  ·by_cases h2 : k = d
   ·subst h2; simp [SV.kill, SV.up, SV.kBp, SV.re1, h1]
   ·simp [SV.kill, SV.up, SV.kBp, SV.re1, h1, h2]
 |ptr k s a b =>
  by_cases h1 : k = j
  ·simp [SV.kill, SV.up, SV.kBp, SV.re1, h1]
  ·by_cases h2 : k = d
   ·subst h2; simp [SV.kill, SV.up, SV.kBp, SV.re1, h1]
   ·simp [SV.kill, SV.up, SV.kBp, SV.re1, h1, h2]
 | _ => rfl
theorem Ob.kNd (j d : Nat) (o : Ob) : ((o.kill j).kill d).up (SV.re1 j d) = (o.kill j).kill d := by
 cases o with
 |sl e s rows => rfl
 |mp e es => rfl
 |dp e s rows => rfl
 |dq e s rows i row =>
  simp only [Ob.kill, Ob.up, List.map_map]
  congr 1
  refine List.map_congr_left fun y _ => ?_
  have nk : ∀ (d : Nat) (c : SV), c.isSl = false → (c.kill d).isSl = false := fun d c hc => by
   cases c <;> first | (cases hc; done) | rfl | (simp only [SV.kill, SV.up, SV.kBp]; split <;> rfl)
  simp only [Function.comp]
  cases hy : y.isSl with
  |true => simp [SV.upq, hy]
  |false =>
   have e1 := nk j y hy
   have e2 := nk d _ e1
   simp [SV.upq, hy, e1, e2, Go.Vc.kNd j d y]
 |box e cs =>
  simp only [Ob.kill, Ob.up, List.map_map]
  congr 1
  exact List.map_congr_left fun y _ => Go.Vc.kNd j d y
theorem Sim.app2 {j d : Nat} {e s : Nat} {rows : List (List SV)} (hjd : j ≠ d) (hd : d < N) (h : Sim N X0 M w0 (st.app j d (.sl e s rows)) β a w) : ∃ β', Sim N X0 M w0 (st.dapp d ⟨.own d, [(d, .sl e s rows)], [j]⟩) β' a w := by
 obtain ⟨β', h'⟩ := h.mv (i := j) (j := d) (by have := h.few; omega) hjd
 refine ⟨β', h'.less (fun t x hx => ?_) (fun t x hx => ?_)⟩
 ·have hlj : lk j (st.app j d (.sl e s rows)).hp = some (.sl e s rows) := by simp [St.app, lk]
  unfold St.mv
  rw [hlj]
  simp only [kCp]
  simp only [St.dapp, lk] at hx
  by_cases ht : t = d
  ·rw [if_pos ht] at hx
   cases hx
   subst ht
   simp [St.app, St.kill, lk, kCp, SV.kill, SV.up, SV.kBp, SV.re1, hjd]
  ·rw [if_neg ht, kA7 ht] at hx
   have e1 : lk t ((st.app j d (.sl e s rows)).kill d).fr = lk t ((st.kill j).kill d).fr := by
    simp only [St.app, St.kill, kCp]
    simp only [lk, if_neg ht]
    simp only [kCp, kA7 ht]
   rw [e1]
   have e2 : lk t ((st.kill j).kill d).fr = some x := hx
   rw [e2]
   have e3 : ∃ y : SV, x = (y.kill j).kill d := by
    simp only [St.kill, kCp] at e2
    cases hq : lk t st.fr with
    |none => rw [hq] at e2; cases e2
    |some y => rw [hq] at e2; exact ⟨y, by simpa using e2.symm⟩
   obtain ⟨y, rfl⟩ := e3
   simp only [Option.map_some, Go.Vc.kNd]
 ·have hlj : lk j (st.app j d (.sl e s rows)).hp = some (.sl e s rows) := by simp [St.app, lk]
  unfold St.mv
  rw [hlj]
  simp only [St.dapp, List.cons_append, List.nil_append, lk] at hx ⊢
  by_cases ht : t = d
  ·rw [if_pos ht] at hx ⊢
   cases hx
   rfl
  ·rw [if_neg ht] at hx ⊢
   have e2 : lk t ((st.kill j).kill d).hp = some x := hx
   have htj : t ≠ j := fun e => by
    subst e
    rw [kEq ht, kGg] at e2
    cases e2
   rw [kCp, kA7 htj, kEq ht]
   have e1 : lk t (st.app j d (.sl e s rows)).hp = lk t (st.kill j).hp := by simp [St.app, lk, htj]
   rw [e1]
   rw [kEq ht] at e2
   cases hq : lk t (st.kill j).hp with
   |none => rw [hq] at e2; cases e2
   |some y =>
    rw [hq] at e2
    have hy : ∃ z : Ob, y = z.kill j := by
     rw [kEq htj] at hq
     cases hz : lk t st.hp with
     |none => rw [hz] at hq; cases hq
     |some z => rw [hz] at hq; exact ⟨z, by simpa using hq.symm⟩
    obtain ⟨z, rfl⟩ := hy
    have hx2 : x = (z.kill j).kill d := by simpa using e2.symm
    subst hx2
    simp only [Option.map_some, Ob.kNd]
end
end Go.Vc

namespace Go.Vc
section
variable {P : Program} {tys : List (Nat × TyD)} {C : List (FuncId × Ctr)} {N : Nat} {X0 : Nat → Prop} {M : Nat → BV → Prop} {w0 : World} {st : St} {β : Nat → BV} {a : Act} {w : World}
theorem k3g (d : Nat) (l : List Value) : (l.map SV.v).map (SV.kill d) = l.map SV.v := by
 rw [List.map_map]; rfl
theorem kVj (hA : Ap P X0 M w0) (hty : ∀ T d, lk T tys = some d → TyOk P T d) (hC : COk P C) (h : Sim N X0 M w0 st β a w) {ops : Array Oper} {o : Oper} {d : Nat} {δ : Dl} (hw : st.dlt tys C N ops o d δ) {Q : Exit → Act → World → Prop} :
  if Region.wanted o (yielded ops a.tmps) then o.wp P a w (Ok N X0 M w0 fun st' => st' = st.dapp d δ) Q else Ok N X0 M w0 (fun st' => st' = st.dapp d δ) (a.put o.dst undef) w := by
 obtain ⟨hod, hw⟩ := hw
 rcases hw with ⟨hv, hm, hg⟩ | ⟨hgd, hd, hw⟩ | ⟨hgd, hd, p, ob, is, hq, hp, rfl⟩
 rotate_right
 ·have hwant : Region.wanted o (yielded ops a.tmps) = true := by simp [Region.wanted, hgd]
  rw [if_pos hwant]
  exact kQz (K := fun st' => st' = st.dapp d ⟨.own d, [(d, ob)], is⟩) hty h hq hp hod (by rw [hod] at hd; simpa [kAy] using hd) rfl
 ·have e : st.dapp d δ = st.put o.dst δ.x := by
   rw [hod]
   simp [St.dapp, Dl.ids, hm, hg, St.kAt, St.put]
  rw [e]
  exact kVd hA hty hC h hv
 ·have hwant : Region.wanted o (yielded ops a.tmps) = true := by simp [Region.wanted, hgd]
  rw [if_pos hwant]
  have hdN : d < N := by rw [hod] at hd; simpa [kAy] using hd
  have hN : ∀ e, o.dst = some e → e < N := kE6 hd
  cases ho : o.op with
  |alloc T =>
   rw [ho] at hw
   simp only at hw
   split at hw
   case h_2 => exact hw.elim
   case h_1 _ t ht =>
    obtain ⟨h1, rfl⟩ := hw
    refine kU8 hty h ho hN ?_
    unfold St.eff
    rw [ho]
    simp only [hod, ht]
    refine ⟨h1, ?_⟩
    simp only [St.new, St.dapp, Dl.ids, List.map_cons, List.map_nil, List.append_nil, St.kAt, Ob.kill, k3g, List.cons_append, List.nil_append]
  |box T x =>
   rw [ho] at hw
   simp only at hw
   obtain ⟨h1, h2, h3, rfl⟩ := hw
   refine k05 (tys := tys) h ho hN ?_
   unfold St.eff
   rw [ho]
   simp only [hod]
   refine ⟨h1, h2, ?_⟩
   simp only [St.new, St.dapp, Dl.ids, List.map_cons, List.map_nil, List.append_nil, St.kAt, Ob.kill, h3, List.cons_append, List.nil_append]
  |buildSlice T n parts =>
   rw [ho] at hw
   simp only at hw
   split at hw
   case h_2 => exact hw.elim
   case h_1 _ t ht =>
    split at hw
    case h_2 => exact hw.elim
    case h_1 _ e he =>
     obtain ⟨h1, h2, h3, h4, h5, h6, rfl⟩ := hw
     refine kJs hty h ho hN ?_
     unfold St.eff
     rw [ho]
     simp only [hod, ht, he]
     exact ⟨h1, h2, h3, h4, h5, h6, rfl⟩
  |makeSlice T l cc =>
   rw [ho] at hw
   simp only at hw
   split at hw
   case h_2 => exact hw.elim
   case h_1 _ _ _ t n m ht hl hc =>
    split at hw
    case h_2 => exact hw.elim
    case h_1 _ e he =>
     obtain ⟨h1, h2, h3, h4, h5, h6, h7, h8, h9, rfl⟩ := hw
     refine kOv hty h ho hN ?_
     unfold St.eff
     rw [ho]
     simp only [hod, ht, hl, hc, he]
     exact ⟨h1, h2, h3, h4, h5, h6, h7, h8, h9, rfl⟩
  |call c =>
   rw [ho] at hw
   simp only at hw
   cases hc : c.callee with
   |value x =>
    rw [hc] at hw
    simp only at hw
    split at hw
    case h_2 => exact hw.elim
    case h_1 _ f caps hf =>
     split at hw
     case h_2 => exact hw.elim
     case h_1 _ ctr hctr =>
      obtain ⟨hL, hw⟩ := hw
      refine kRj (dd := d) hC hA h hN ?_
      unfold St.kGr
      rw [ho]
      simp only [hc, hf, hctr]
      generalize ctr.pure d ((st.argL c caps).map (SV.share st.hp)) = q at hw ⊢
      obtain ⟨q1, q2, q3⟩ := q
      obtain ⟨g1, g2, g3, g4, g5, g6, g7, g8, g9, rfl⟩ := hw
      refine ⟨g1, g2, g3, g4, g5, g6, g7, List.all_eq_true.2 fun p hp => Ob.pb_pl (List.all_eq_true.1 g8 p hp), g9, ?_⟩
      rw [hod]
      simp [St.res, St.put, St.dapp, Dl.ids]
   |invoke r q => rw [hc] at hw; exact hw.elim
   |builtin b =>
    rw [hc] at hw
    cases b <;> first | exact False.elim hw | skip
    simp only at hw ⊢
    split at hw
    case h_2 => exact hw.elim
    case h_1 _ _ x y T T' ha hAt =>
     split at hw
     case h_2 => exact hw.elim
     case h_1 _ _ t news ht hnr =>
      split at hw
      case h_2 => exact hw.elim
      case h_1 _ e he =>
       obtain ⟨h1, h2, h3, h4, h5, h6, h7, hw⟩ := hw
       split at hw
       case h_3 => exact hw.elim
       case h_1 _ j hj =>
        split at hw
        case h_2 => exact hw.elim
        case h_1 _ e' s' rows hl =>
         obtain ⟨g1, g2, g3, g4, g5, g6, rfl⟩ := hw
         refine Oper.wp_mono (fun a' w' hk => ?_) (kNs (K := fun st' => st' = st.app j d (.sl e' s' (rows ++ news))) hty h ho hc hN ?_)
         ·obtain ⟨st', β', rfl, h'⟩ := hk
          obtain ⟨β2, h2⟩ := Sim.app2 g2 hdN h'
          exact ⟨_, β2, rfl, h2⟩
         ·unfold St.eff
          rw [ho]
          simp only [hc, hod, ha, hAt, ht, hnr, he, hj, hl]
          exact ⟨h1, h2, h3, h4, h5, h6, h7, g1, g3, g4, g5, g6, trivial⟩
       case h_2 _ hj =>
        obtain ⟨g5, g6, rfl⟩ := hw
        refine kNs hty h ho hc hN ?_
        unfold St.eff
        rw [ho]
        simp only [hc, hod, ha, hAt, ht, hnr, he, hj]
        exact ⟨h1, h2, h3, h4, h5, h6, h7, g5, g6, rfl⟩
  | _ => rw [ho] at hw; exact hw.elim
theorem kSn {st2 : St} {n s : Nat} : ∀ {l : List (Nat × Operand)}, (∀ p ∈ l, st2.ev p.2 = st.ev p.2) → kEb st n s l → kEb st2 n s l
 | [], _, h => h
 | (i, x) :: l, he, h => by
  obtain ⟨h1, h2, h3, h4, h5⟩ := h
  have e := he (i, x) List.mem_cons_self
  simp only at e
  exact ⟨by rw [e]; exact h1, h2, by rw [e]; exact h3, by rw [e]; exact h4, kSn (fun p hp => he p (List.mem_cons_of_mem _ hp)) h5⟩
theorem kQ4 {st2 : St} {z : List SV} : ∀ {l : List (Nat × Operand)} {rows : List (List SV)}, (∀ p ∈ l, st2.ev p.2 = st.ev p.2) → kEh st2 z l rows = kEh st z l rows
 | [], _, _ => rfl
 | (i, x) :: l, rows, he => by
  have e := he (i, x) List.mem_cons_self
  simp only at e
  simp only [kEh, e]
  exact kQ4 fun p hp => he p (List.mem_cons_of_mem _ hp)
theorem kL8 {hp hp2 : List (Nat × Ob)} (hh : ∀ id ob, lk id hp = some ob → lk id hp2 = some ob) : ∀ {cs : List SV} {q : Prop × List SV × List Nat}, absC hp cs = some q → absC hp2 cs = some q
 | [], q, h => h
 |x0 :: l, q, h => by
  cases x0 with
  |v x =>
   simp only [absC] at h ⊢
   split at h
   ·rename_i p' r' is' h2; rw [kL8 hh h2]; exact h
   ·cases h
  |own j =>
   simp only [absC] at h ⊢
   split at h
   ·rename_i e s rows hl
    rw [hh _ _ hl]
    split at h
    ·rename_i p' r' is' h2; simp only [kL8 hh h2]; exact h
    ·cases h
   ·rename_i e s rows hl
    rw [hh _ _ hl]
    split at h
    ·rename_i p' r' is' h2; simp only [kL8 hh h2]; exact h
    ·cases h
   ·cases h
  | _ => cases h
theorem k3h {st2 : St} {o : Oper} (hev : ∀ y ∈ o.op.operands, st2.ev y = st.ev y) (hh : ∀ id ob, lk id st.hp = some ob → lk id st2.hp = some ob) {q : Prop × Ob × List Nat} (hq : st.kE7 tys o = some q) : st2.kE7 tys o = some q := by
 unfold St.kE7 at hq ⊢
 split at hq
 ·rename_i T parts ho
  rw [ho] at hev
  split at hq
  ·rename_i x t hpa ht
   have ex : st2.ev x = st.ev x := hev x (by
    simp only [Op.operands, List.mem_toArray, List.mem_map]
    exact ⟨(0, x), by rw [hpa]; simp, rfl⟩)
   simp only [ht, ex]
   split at hq
   ·rename_i e p' row is he habs
    simp only [he, kL8 hh habs]
    exact hq
   ·cases hq
  ·cases hq
 ·rename_i c ho
  rw [ho] at hev
  have ha : ∀ y ∈ c.args.toList, st2.ev y = st.ev y := fun y hy => hev y (by simp only [Op.operands, Call.operands, Array.mem_append]; right; simpa using hy)
  split at hq
  ·rename_i hc
   split at hq
   ·rename_i x y T T' hxy hA
    rw [ha x (by rw [hxy]; simp), ha y (by rw [hxy]; simp)]
    split at hq
    ·rename_i t j i ht hj hi
     split at hq
     ·rename_i e e' s rows e2 s2 news he hlj hli
      simp only [he, hh _ _ hlj, hh _ _ hli]
      exact hq
     ·cases hq
    ·cases hq
   ·cases hq
  ·cases hq
 ·cases hq
theorem kYc {st2 : St} {ops : Array Oper} {o : Oper} {d : Nat} {δ : Dl} (h : ∀ t ∈ o.looksAt ops, st2.get t = st.get t) (hh : ∀ id ob, lk id st.hp = some ob → lk id st2.hp = some ob) (hw : st.dlt tys C N ops o d δ) : st2.dlt tys C N ops o d δ := by
 obtain ⟨hod, hw⟩ := hw
 refine ⟨hod, ?_⟩
 have hop : ∀ y ∈ o.op.operands, st2.ev y = st.ev y := fun y hy => by
  cases y with
  |tmp t => exact h t (List.mem_append_left _ (List.mem_filterMap.2 ⟨.tmp t, by simpa using hy, rfl⟩))
  | _ => rfl
 rcases hw with ⟨hv, hm, hg⟩ | ⟨hgd, hd, hw⟩ | ⟨hgd, hd, p, ob, is, hq, hp, rfl⟩
 ·exact .inl ⟨kX5 h hh hv, hm, hg⟩
 rotate_left
 ·exact .inr (.inr ⟨hgd, hd, p, ob, is, k3h hop hh hq, hp, rfl⟩)
 ·refine .inr (.inl ⟨hgd, hd, ?_⟩)
  cases ho : o.op with
  |alloc T => rw [ho] at hw; exact hw
  |box T x =>
   rw [ho] at hw hop
   simp only [hop x (by simp [Op.operands])] at hw ⊢
   exact hw
  |buildSlice T n parts =>
   rw [ho] at hw hop
   have e : ∀ p ∈ parts.toList, st2.ev p.2 = st.ev p.2 := fun p hp => hop p.2 (by
    simp only [Op.operands, List.mem_toArray, List.mem_map]
    exact ⟨p, hp, rfl⟩)
   simp only at hw ⊢
   split at hw
   case h_2 => exact hw.elim
   case h_1 _ t ht =>
    split at hw
    case h_2 => exact hw.elim
    case h_1 _ e' he =>
     obtain ⟨h1, h2, h3, h4, h5, h6, rfl⟩ := hw
     exact ⟨h1, h2, h3, h4, h5, kSn e h6, by rw [kQ4 e]⟩
  |makeSlice T l cc =>
   rw [ho] at hw hop
   simp only [hop l (by simp [Op.operands]), hop cc (by simp [Op.operands])] at hw ⊢
   exact hw
  |call c =>
   rw [ho] at hw hop
   have ha : ∀ y ∈ c.args.toList, st2.ev y = st.ev y := fun y hy => hop y (by simp only [Op.operands, Call.operands, Array.mem_append]; right; simpa using hy)
   simp only at hw ⊢
   cases hc : c.callee with
   |value x =>
    rw [hc] at hw
    have hx : st2.ev x = st.ev x := hop x (by simp [Op.operands, Call.operands, hc])
    simp only [hx] at hw ⊢
    split at hw
    case h_2 => exact hw.elim
    case h_1 _ f caps hf =>
     split at hw
     case h_2 => exact hw.elim
     case h_1 _ ctr hctr =>
      refine ⟨hw.1, ?_⟩
      have hw2 := hw.2
      have hg : ((st.argL c caps).all fun y => (y.share st.hp).good) = true := by
       generalize ctr.pure d ((st.argL c caps).map (SV.share st.hp)) = q at hw2
       obtain ⟨q1, q2, q3⟩ := q
       exact hw2.2.2.1
      obtain ⟨e1, e2⟩ := kQ2 hh hg
      rw [kO6 ha, e1]
      generalize ctr.pure d ((st.argL c caps).map (SV.share st.hp)) = q at hw2
      obtain ⟨q1, q2, q3⟩ := q
      obtain ⟨g1, g2, g3, g⟩ := hw2
      exact ⟨g1, fun y hy => by rw [ha y hy]; exact g2 y hy, e2, g⟩
   |invoke r q => rw [hc] at hw; exact hw.elim
   |builtin b =>
    rw [hc] at hw
    cases b <;> first | exact False.elim hw | skip
    simp only at hw ⊢
    split at hw
    case h_2 => exact hw.elim
    case h_1 _ _ x y T T' hxy hAt =>
     have ex := ha x (by rw [hxy]; simp)
     have ey := ha y (by rw [hxy]; simp)
     split at hw
     case h_2 => exact hw.elim
     case h_1 _ _ t news ht hnr =>
      split at hw
      case h_2 => exact hw.elim
      case h_1 _ e he =>
       obtain ⟨h1, h2, h3, h4, h5, h6, h7, hw⟩ := hw
       rw [← ey] at hnr h4
       rw [← ex] at h3 hw
       simp only [hxy, hAt, ht, kQ1 hh hnr, he]
       refine ⟨h1, h2, h3, h4, h5, h6, h7, ?_⟩
       split at hw
       case h_3 => exact hw.elim
       case h_1 _ j hj =>
        split at hw
        case h_2 => exact hw.elim
        case h_1 _ e' s' rows hl =>
         simp only [hh _ _ hl]
         exact hw
       case h_2 => exact hw
  | _ => rw [ho] at hw; exact hw
end
end Go.Vc

namespace Go.Vc
def SV.leaf (ids : List Nat) : SV → Bool
 | .own i => ids.contains i
 | .ptr i _ _ _ => ids.contains i
 | .agg _ => true
 | .tup _ => true
 | .fn _ _ => true
 | .cond _ _ => true
 | _ => false
def SV.kI4 (ids : List Nat) : SV → Bool
 | .agg cs => cs.any (SV.leaf ids)
 |x => x.leaf ids
def SV.refs (ids : List Nat) : SV → Bool
 | .agg cs => cs.any (SV.leaf ids)
 | .tup cs => cs.any (SV.kI4 ids)
 | .fn _ cs => cs.any (SV.leaf ids)
 | .cond _ x => x.kI4 ids
 |x => x.leaf ids
def Ob.refs (ids : List Nat) : Ob → Bool
 | .sl _ _ _ => false
 | .box _ cs => cs.any (SV.refs ids)
 | .mp _ _ => false
 | .dp _ _ _ => false
 | .dq _ _ _ _ cs => cs.any (SV.refs ids)
def badS (ids : List Nat) (fr : List (Nat × SV)) : List Nat := (fr.filter fun p => p.2.refs ids).map (·.1)
def badO (ids : List Nat) (hp : List (Nat × Ob)) : List Nat := ids ++ (hp.filter fun p => p.2.refs ids).map (·.1)
def offK {α : Type} (bad : List Nat) (l : List (Nat × α)) : List (Nat × α) := match bad with
 | [] => l
 | _ => l.filter fun p => !bad.contains p.1
def St.hide (ids : List Nat) (st : St) : St := match ids with
 | [] => st
 | _ => { fr := offK (badS ids st.fr) st.fr, hp := offK (badO ids st.hp) st.hp }
theorem kC5 {ids : List Nat} {d : Nat} (hd : d ∈ ids) {x : SV} (h : x.leaf ids = false) : x.kBp d = x := by
 cases x with
 |own i =>
  simp only [SV.leaf] at h
  simp only [SV.kBp]
  rw [if_neg]
  rintro rfl
  rw [List.contains_iff_mem.2 hd] at h; cases h
 |ptr i s a b =>
  simp only [SV.leaf] at h
  simp only [SV.kBp]
  rw [if_neg]
  rintro rfl
  rw [List.contains_iff_mem.2 hd] at h; cases h
 |agg cs => cases h
 |tup cs => cases h
 |fn f cs => cases h
 |cond g y => cases h
 | _ => rfl
theorem any_false {f : SV → Bool} {cs : List SV} (h : cs.any f = false) : ∀ c ∈ cs, f c = false := by
 intro c hc
 rw [List.any_eq_false] at h
 simpa using h c hc
theorem kIg {f : SV → SV} {cs : List SV} (h : ∀ c ∈ cs, f c = c) : cs.map f = cs := by
 induction cs with
 |nil => rfl
 |cons c l ih => rw [List.map_cons, h c List.mem_cons_self, ih fun c hc => h c (List.mem_cons_of_mem _ hc)]
theorem kSo {ids : List Nat} {d : Nat} (hd : d ∈ ids) {x : SV} (h : x.kI4 ids = false) : x.up2 (SV.kBp d) = x := by
 cases x with
 |agg cs => simp only [SV.up2]; rw [kIg fun c hc => kC5 hd (any_false h c hc)]
 |v y => exact kC5 (x := .v y) hd h
 |sl a b => exact kC5 (x := .sl a b) hd h
 |own a => exact kC5 (x := .own a) hd h
 |ptr a b c e => exact kC5 (x := .ptr a b c e) hd h
 |rptr a b c e => exact kC5 (x := .rptr a b c e) hd h
 |tup cs => exact kC5 (x := .tup cs) hd h
 |fn f cs => exact kC5 (x := .fn f cs) hd h
 |cond g y => exact kC5 (x := .cond g y) hd h
 |junk => rfl
theorem kFa {ids : List Nat} {d : Nat} (hd : d ∈ ids) {x : SV} (h : x.refs ids = false) : x.kill d = x := by
 cases x with
 |agg cs => simp only [SV.kill, SV.up]; rw [kIg fun c hc => kC5 hd (any_false h c hc)]
 |tup cs => simp only [SV.kill, SV.up]; rw [kIg fun c hc => kSo hd (any_false h c hc)]
 |fn f cs => simp only [SV.kill, SV.up]; rw [kIg fun c hc => kC5 hd (any_false h c hc)]
 |cond g y => simp only [SV.kill, SV.up]; rw [kSo hd h]
 |v y => exact kC5 (x := .v y) hd h
 |sl a b => exact kC5 (x := .sl a b) hd h
 |own a => exact kC5 (x := .own a) hd h
 |ptr a b c e => exact kC5 (x := .ptr a b c e) hd h
 |rptr a b c e => exact kC5 (x := .rptr a b c e) hd h
 |junk => rfl
theorem Ob.kFa {ids : List Nat} {d : Nat} (hd : d ∈ ids) {o : Ob} (h : o.refs ids = false) : o.kill d = o := by
 cases o with
 |sl e s rows => rfl
 |mp e es => rfl
 |dp e s rows => rfl
 |dq e s rows i cs =>
  simp only [Ob.kill]
  rw [kIg (f := SV.upq (SV.kill d)) fun c hc => by
   have e1 := Go.Vc.kFa hd (any_false h c hc)
   unfold SV.upq
   rw [e1]
   cases hs : c.isSl <;> simp]
 |box e cs => simp only [Ob.kill]; rw [kIg fun c hc => Go.Vc.kFa hd (any_false h c hc)]
theorem kLe {α : Type} {bad : List Nat} {l : List (Nat × α)} {t : Nat} {x : α} (h : lk t (offK bad l) = some x) : lk t l = some x ∧ t ∉ bad := by
 unfold offK at h
 split at h
 ·exact ⟨h, by simp⟩
 ·have h1 := kIp (fun t => !bad.contains t) h
  refine ⟨h1, fun hm => ?_⟩
  have : lk t (l.filter fun p => !bad.contains p.1) = none := kIp.kG9 (fun t => !bad.contains t) (by simp [hm])
  rw [this] at h; cases h
theorem kIq {ids : List Nat} {st : St} {t : Nat} {x : SV} (h : lk t (st.hide ids).fr = some x) : lk t st.fr = some x ∧ ∀ d ∈ ids, x.kill d = x := by
 unfold St.hide at h
 split at h
 ·exact ⟨h, by simp⟩
 ·rename_i hne
  obtain ⟨h1, h2⟩ := kLe h
  refine ⟨h1, fun d hd => kFa hd ?_⟩
  rw [Bool.eq_false_iff]
  intro hr
  exact h2 (List.mem_map.2 ⟨(t, x), List.mem_filter.2 ⟨kBs h1, hr⟩, rfl⟩)
theorem kE2 {ids : List Nat} {st : St} {t : Nat} {x : Ob} (h : lk t (st.hide ids).hp = some x) : lk t st.hp = some x ∧ ∀ d ∈ ids, d ≠ t ∧ x.kill d = x := by
 unfold St.hide at h
 split at h
 ·exact ⟨h, by simp⟩
 ·rename_i hne
  obtain ⟨h1, h2⟩ := kLe h
  refine ⟨h1, fun d hd => ⟨fun e => h2 (List.mem_append.2 (.inl (e ▸ hd))), Ob.kFa hd ?_⟩⟩
  rw [Bool.eq_false_iff]
  intro hr
  exact h2 (List.mem_append.2 (.inr (List.mem_map.2 ⟨(t, x), List.mem_filter.2 ⟨kBs h1, hr⟩, rfl⟩)))
structure Fp where
 lks : List Nat
 anc : List Nat
 gx : List Nat
 av : List Nat
 gn : List Nat
 mks : List Nat
def deps (o : Oper) : List Nat := (o.after.toList.filter fun e => Region.binds .any e).map (·.on)
def fpAt (fl : List Fp) (i : Nat) : Fp := (fl[i]?).getD ⟨[], [], [], [], [], []⟩
def kIr (ops : Array Oper) (m : Nat) (fl : List Fp) (p : Nat) (o : Oper) : Bool :=
 ((deps o).all fun e => decide (e < p)) &&
 ((fpAt fl p).anc.all fun a => (deps o).contains a || (deps o).any fun b => (fpAt fl b).anc.contains a) &&
 (if p < m then
  o.dst.isSome && ((o.looksAt ops).all fun t => (fpAt fl p).lks.contains t) &&
  ((List.range m).all fun k => k == p || (kB8 ops k != o.dst && ((fpAt fl k).anc.contains p || (fpAt fl k).gn.all fun d => (fpAt fl p).gx.contains d) && ((fpAt fl p).anc.contains k || (fpAt fl k).mks.all fun d => (fpAt fl p).av.contains d) &&
   ((fpAt fl k).mks.all fun d => !(fpAt fl p).mks.contains d)))
 else (List.range p).all fun j => (fpAt fl p).anc.contains j)
def kL9 (ops : Array Oper) (m : Nat) (fl : List Fp) : Bool :=
 decide (m ≤ ops.size) && (List.range ops.size).all fun p => match ops[p]? with
  |none => false
  |some o => kIr ops m fl p o
structure kNe (ops : Array Oper) (m : Nat) (fl : List Fp) : Prop where
 le : m ≤ ops.size
 back : ∀ (p : Nat) (o : Oper), ops[p]? = some o → ∀ e ∈ deps o, e < p
 anc : ∀ (p : Nat) (o : Oper), ops[p]? = some o → ∀ a ∈ (fpAt fl p).anc, a ∈ deps o ∨ ∃ b ∈ deps o, a ∈ (fpAt fl b).anc
 dst : ∀ (i : Nat) (o : Oper), i < m → ops[i]? = some o → ∃ d, o.dst = some d
 looks : ∀ (i : Nat) (o : Oper), i < m → ops[i]? = some o → ∀ t ∈ o.looksAt ops, t ∈ (fpAt fl i).lks
 apart : ∀ (i k : Nat), i < m → k < m → i ≠ k → kB8 ops k ≠ kB8 ops i
 gx : ∀ (i k : Nat), i < m → k < m → k ≠ i → i ∉ (fpAt fl k).anc → ∀ d ∈ (fpAt fl k).gn, d ∈ (fpAt fl i).gx
 av : ∀ (i k : Nat), i < m → k < m → k ≠ i → k ∉ (fpAt fl i).anc → ∀ d ∈ (fpAt fl k).mks, d ∈ (fpAt fl i).av
 mks : ∀ (i k : Nat), i < m → k < m → k ≠ i → ∀ d ∈ (fpAt fl k).mks, d ∉ (fpAt fl i).mks
 tail : ∀ (p : Nat) (o : Oper), m ≤ p → ops[p]? = some o → ∀ j, j < p → j ∈ (fpAt fl p).anc
theorem kN2 {ops : Array Oper} {m : Nat} {fl : List Fp} (h : kL9 ops m fl = true) : kNe ops m fl := by
 unfold kL9 at h
 rw [Bool.and_eq_true, decide_eq_true_eq] at h
 obtain ⟨h0, h⟩ := h
 rw [List.all_eq_true] at h
 have key : ∀ (p : Nat) (o : Oper), ops[p]? = some o → kIr ops m fl p o = true := fun p o ho => by
  have hp : p < ops.size := (Array.getElem?_eq_some_iff.1 ho).1
  have := h p (List.mem_range.2 hp)
  rw [ho] at this
  exact this
 have two : ∀ (i k : Nat), i < m → k < m → k ≠ i → ∃ o, ops[i]? = some o ∧ kB8 ops k ≠ o.dst ∧ ((fpAt fl k).anc.contains i = true ∨ ∀ d ∈ (fpAt fl k).gn, (fpAt fl i).gx.contains d = true) ∧ ((fpAt fl i).anc.contains k = true ∨ ∀ d ∈ (fpAt fl k).mks, (fpAt fl i).av.contains d = true) ∧ ∀ d ∈ (fpAt fl k).mks, (fpAt fl i).mks.contains d = false := by
  intro i k hi hk hne
  have ho : ops[i]? = some (ops[i]'(by omega)) := Array.getElem?_eq_getElem (by omega)
  have := key i _ ho
  unfold kIr at this
  rw [if_pos hi] at this
  simp only [Bool.and_eq_true, List.all_eq_true] at this
  have h3 := this.2.2 k (List.mem_range.2 hk)
  simp only [Bool.or_eq_true, beq_iff_eq, Bool.and_eq_true, bne_iff_ne, List.all_eq_true, Bool.not_eq_true'] at h3
  rcases h3 with e | ⟨⟨⟨a1, a2⟩, a3⟩, a4⟩
  ·exact absurd e hne
  ·exact ⟨_, ho, a1, a2, a3, a4⟩
 refine ⟨h0, fun p o ho e he => ?_, fun p o ho a ha => ?_, fun i o hi ho => ?_, fun i o hi ho t ht => ?_, fun i k hi hk hne => ?_, fun i k hi hk hne hn d hd => ?_, fun i k hi hk hne hn d hd => ?_, fun i k hi hk hne d hd hm => ?_, fun p o hp ho j hj => ?_⟩
 ·have := key p o ho
  unfold kIr at this
  simp only [Bool.and_eq_true, List.all_eq_true] at this
  simpa using this.1.1 e he
 ·have := key p o ho
  unfold kIr at this
  simp only [Bool.and_eq_true, List.all_eq_true] at this
  have := this.1.2 a ha
  simp only [Bool.or_eq_true, List.any_eq_true] at this
  rcases this with h1 | ⟨b, h1, h2⟩
  ·exact .inl (List.contains_iff_mem.1 h1)
  ·exact .inr ⟨b, h1, List.contains_iff_mem.1 h2⟩
 ·have := key i o ho
  unfold kIr at this
  rw [if_pos hi] at this
  simp only [Bool.and_eq_true] at this
  exact Option.isSome_iff_exists.1 this.2.1.1
 ·have := key i o ho
  unfold kIr at this
  rw [if_pos hi] at this
  simp only [Bool.and_eq_true, List.all_eq_true] at this
  exact List.contains_iff_mem.1 (this.2.1.2 t ht)
 ·obtain ⟨o, ho, h1, _⟩ := two i k hi hk (Ne.symm hne)
  intro e
  apply h1
  rw [e]
  simp [kB8, ho]
 ·obtain ⟨o, ho, _, h1, _⟩ := two i k hi hk hne
  rcases h1 with h1 | h1
  ·exact absurd (List.contains_iff_mem.1 h1) hn
  ·exact List.contains_iff_mem.1 (h1 d hd)
 ·obtain ⟨o, ho, _, _, h1, _⟩ := two i k hi hk hne
  rcases h1 with h1 | h1
  ·exact absurd (List.contains_iff_mem.1 h1) hn
  ·exact List.contains_iff_mem.1 (h1 d hd)
 ·obtain ⟨o, ho, _, _, _, h1⟩ := two i k hi hk hne
  have := h1 d hd
  rw [List.contains_iff_mem.2 hm] at this
  cases this
 ·have := key p o ho
  unfold kIr at this
  rw [if_neg (by omega)] at this
  simp only [Bool.and_eq_true, List.all_eq_true] at this
  exact List.contains_iff_mem.1 (this.2 j (List.mem_range.2 hj))
abbrev Acc := List (Nat × Nat × Dl)
def St.least (base : St) (acc : Acc) (f : Fp) : St :=
 St.hide f.gx { fr := ((acc.filter fun e => f.anc.contains e.1).map fun e => (e.2.1, e.2.2.x)) ++ base.fr, hp := ((acc.filter fun e => f.anc.contains e.1).flatMap fun e => e.2.2.made) ++ base.hp }
def St.clean (base : St) (ds mks : List Nat) : St := St.hide mks { fr := offK ds base.fr, hp := base.hp }
def St.final (base : St) (acc : Acc) (gs : List Nat) : St := St.hide gs { fr := (acc.map fun e => (e.2.1, e.2.2.x)) ++ base.fr, hp := (acc.flatMap fun e => e.2.2.made) ++ base.hp }
def dlOk (f : Fp) (δ : Dl) : Prop := δ.gone = f.gn ∧ δ.made.map (·.1) = f.mks ∧ δ.x.refs f.av = false ∧ (δ.made.all fun p => !p.2.refs f.av) = true
def St.runF (tys : List (Nat × TyD)) (C : List (FuncId × Ctr)) (N : Nat) (ops : Array Oper) (fl : List Fp) (base : St) : List Oper → Nat → Acc → (Acc → Prop) → Prop
 | [], _, acc, K => K acc
 |o :: l, i, acc, K => ∃ d δ, (base.least acc (fpAt fl i)).dlt tys C N ops o d δ ∧ ((fpAt fl i).lks.all fun t => (lk t (base.least acc (fpAt fl i)).fr).isSome) = true ∧ dlOk (fpAt fl i) δ ∧ St.runF tys C N ops fl base l (i + 1) (acc ++ [(i, d, δ)]) K
theorem kRo {tys : List (Nat × TyD)} {C : List (FuncId × Ctr)} {N : Nat} {ops : Array Oper} {fl : List Fp} {base : St} {K : Acc → Prop} : ∀ (l : List Oper) (i : Nat) (acc : Acc), St.runF tys C N ops fl base l i acc K →
  ∃ F : Nat → Nat × Dl, K (acc ++ (List.range l.length).map fun k => (i + k, F k)) ∧ ∀ k o, l[k]? = some o →
   (base.least (acc ++ (List.range k).map fun q => (i + q, F q)) (fpAt fl (i + k))).dlt tys C N ops o (F k).1 (F k).2 ∧ ((fpAt fl (i + k)).lks.all fun t => (lk t (base.least (acc ++ (List.range k).map fun q => (i + q, F q)) (fpAt fl (i + k))).fr).isSome) = true ∧ dlOk (fpAt fl (i + k)) (F k).2
 | [], i, acc, h => ⟨fun _ => (0, ⟨.junk, [], []⟩), by simp only [List.length_nil, List.range_zero, List.map_nil, List.append_nil]; exact h, by simp⟩
 |o :: l, i, acc, h => by
  obtain ⟨d, δ, h1, h2, h3, h4⟩ := h
  obtain ⟨F, h5, h6⟩ := kRo l (i + 1) _ h4
  have e : ∀ n, acc ++ [(i, d, δ)] ++ (List.range n).map (fun k => (i + 1 + k, F k)) = acc ++ (List.range (n + 1)).map (fun k => (i + k, (fun k => match k with | 0 => (d, δ) | k + 1 => F k : Nat → Nat × Dl) k)) := fun n => by
   rw [List.append_assoc]
   congr 1
   rw [List.range_succ_eq_map, List.map_cons, List.map_map]
   simp only [List.cons_append, List.nil_append, Nat.add_zero]
   congr 1
   exact List.map_congr_left fun k _ => by simp only [Function.comp_apply, Nat.succ_eq_add_one]; congr 1; omega
  refine ⟨fun k => match k with | 0 => (d, δ) | k + 1 => F k, ?_, fun k q hq => ?_⟩
  ·rw [List.length_cons, ← e]; exact h5
  ·cases k with
   |zero =>
    simp at hq
    subst hq
    simp only [List.range_zero, List.map_nil, List.append_nil, Nat.add_zero]
    exact ⟨h1, h2, h3⟩
   |succ k =>
    have := h6 k q (by simpa using hq)
    rw [e] at this
    have ei : i + 1 + k = i + (k + 1) := by omega
    rw [ei] at this
    exact this
theorem kSp {ops : Array Oper} {listed : Array Bool} {i : Nat} {o : Oper} (h3 : ∀ e ∈ o.after, Region.binds .any e = true → listed.getD e.on false = true) : ∀ e ∈ deps o, listed.getD e false = true := by
 intro e he
 obtain ⟨q, hq, rfl⟩ := List.mem_map.1 he
 obtain ⟨h1, h2⟩ := List.mem_filter.1 hq
 exact h3 q (by simpa using h1) h2
theorem kN3 {ops : Array Oper} {listed : Array Bool} {i : Nat} {o : Oper} (h3 : ∀ e ∈ deps o, listed.getD e false = true) : ∀ e ∈ o.after, Region.binds .any e = true → listed.getD e.on false = true := fun e he hb =>
 h3 e.on (List.mem_map.2 ⟨e, List.mem_filter.2 ⟨by simpa using he, hb⟩, rfl⟩)
def Closed (fl : List Fp) (n : Nat) (listed : Array Bool) : Prop := ∀ b, b < n → listed.getD b false = true → ∀ a ∈ (fpAt fl b).anc, listed.getD a false = true
theorem Closed.anc {ops : Array Oper} {m : Nat} {fl : List Fp} (hB : kNe ops m fl) {listed : Array Bool} (hc : Closed fl ops.size listed) {i : Nat} {o : Oper} (ho : ops[i]? = some o) (h3 : ∀ e ∈ o.after, Region.binds .any e = true → listed.getD e.on false = true) :
  ∀ a ∈ (fpAt fl i).anc, listed.getD a false = true := fun a ha => by
 have hi : i < ops.size := (Array.getElem?_eq_some_iff.1 ho).1
 rcases hB.anc i o ho a ha with h | ⟨b, hb, h⟩
 ·exact kSp (i := i) (ops := ops) h3 a h
 ·have := hB.back i o ho b hb
  exact hc b (by omega) (kSp (i := i) (ops := ops) h3 b hb) a h
theorem Closed.step {ops : Array Oper} {m : Nat} {fl : List Fp} (hB : kNe ops m fl) {listed : Array Bool} (hsz : listed.size = ops.size) (hc : Closed fl ops.size listed) {i : Nat} {o : Oper} (ho : ops[i]? = some o) (h3 : ∀ e ∈ o.after, Region.binds .any e = true → listed.getD e.on false = true) :
  Closed fl ops.size (listed.setIfInBounds i true) := fun b hb hl a ha => by
 have hi : i < ops.size := (Array.getElem?_eq_some_iff.1 ho).1
 rw [kCs _ _ _ _ (by omega)] at hl ⊢
 split
 ·rfl
 ·by_cases hbi : b = i
  ·subst hbi; exact hc.anc hB ho h3 a ha
  ·rw [if_neg hbi] at hl; exact hc b hb hl a ha
end Go.Vc

namespace Go.Vc
theorem kI5 {st : St} {t : Nat} {x : SV} : ∀ {ids : List Nat}, (∀ d ∈ ids, x.kill d = x) → lk t st.fr = some x → lk t (st.kAt ids).fr = some x
 | [], _, h => h
 |d :: l, hk, h => by
  have ih := kI5 (fun e he => hk e (List.mem_cons_of_mem _ he)) h
  simp only [St.kAt, St.kill, kCp, ih, Option.map_some, hk d List.mem_cons_self]
theorem kGm {st : St} {t : Nat} {x : Ob} : ∀ {ids : List Nat}, (∀ d ∈ ids, d ≠ t ∧ x.kill d = x) → lk t st.hp = some x → lk t (st.kAt ids).hp = some x
 | [], _, h => h
 |d :: l, hk, h => by
  have ih := kGm (fun e he => hk e (List.mem_cons_of_mem _ he)) h
  have h1 := hk d List.mem_cons_self
  rw [show St.kAt st (d :: l) = (st.kAt l).kill d from rfl, kEq (Ne.symm h1.1), ih]
  simp only [Option.map_some, h1.2]
theorem kI6 {α β : Type} {t : Nat} {x : β} {g : α → List (Nat × β)} : ∀ {l : List α}, lk t (l.flatMap g) = some x → ∃ e ∈ l, lk t (g e) = some x
 |e :: l, h => by
  rw [List.flatMap_cons, kBy] at h
  cases hq : lk t (g e) with
  |some y => rw [hq] at h; cases h; exact ⟨e, List.mem_cons_self, hq⟩
  |none =>
   rw [hq] at h
   obtain ⟨e', h1, h2⟩ := kI6 (l := l) h
   exact ⟨e', List.mem_cons_of_mem _ h1, h2⟩
theorem kKr {α : Type} {t : Nat} {x : α} {l l2 : List (Nat × α)} (h : lk t (l ++ l2) = some x) : lk t l = some x ∨ lk t l2 = some x := by
 rw [kBy] at h
 cases hq : lk t l with
 |some y => rw [hq] at h; cases h; exact .inl rfl
 |none => rw [hq] at h; exact .inr h
section
variable {c : Cx} {N : Nat} {X0 : Nat → Prop} {M : Nat → BV → Prop} {w0 : World} {K : Exit → St → Prop}
theorem kPd (hAp : Ap c.P X0 M w0) {ops : Array Oper} {m : Nat} {fl : List Fp} (hB : kNe ops m fl) : ∀ (fuel p : Nat) (listed : Array Bool) (st : St) (β : Nat → BV) (a : Act) (w : World), p + fuel = ops.size → m ≤ p → listed.size = ops.size → Closed fl ops.size listed →
  (∀ j, j < ops.size → listed.getD j false = decide (j < p)) → Sim N X0 M w0 st β a w → St.runR c.tys c.C N ops (ops.toList.drop p) st (K .normal) →
  wpAny c.P .any ops (fun e a' w' => Ok N X0 M w0 (K e) a' w') fuel listed a w
 | 0, p, listed, st, β, a, w, hp, hm, hsz, hcl, hl, hs, hr => by
  have hd : ops.toList.drop p = [] := List.drop_eq_nil_of_le (by simp; omega)
  rw [hd] at hr
  refine ⟨?_, st, β, hr, hs⟩
  rw [List.eq_nil_iff_forall_not_mem]
  intro i hi
  obtain ⟨h1, h2, _⟩ := kCc.1 hi
  have h3 := hl i h1
  rw [Array.getD_eq_getD_getElem?] at h2 h3
  rw [Array.getElem?_eq_getElem (by omega)] at h2 h3
  simp only [Option.getD_some] at h2 h3
  rw [h2] at h3
  have : i < p := by omega
  simp [this] at h3
 |fuel + 1, p, listed, st, β, a, w, hp, hm, hsz, hcl, hl, hs, hr => by
  have hpl : p < ops.size := by omega
  have hgT : ∀ j, j < ops.size → listed.getD j true = decide (j < p) := fun j hj => by
   have := hl j hj
   rw [Array.getD_eq_getD_getElem?, Array.getElem?_eq_getElem (by omega)] at this ⊢
   exact this
  have ho : ops[p]? = some (ops[p]'hpl) := Array.getElem?_eq_getElem hpl
  have hrdy : p ∈ Region.ready .any ops listed := kCc.2 ⟨hpl, by rw [hgT p hpl]; simp, _, ho, kN3 (i := p) (ops := ops) fun e he => by
   have := hB.back p _ ho e he
   rw [hl e (by omega)]; simpa using this⟩
  refine ⟨fun h => (by rw [h] at hrdy; cases hrdy), fun i hi => ?_⟩
  obtain ⟨h1, h2, o, hoi, h3⟩ := kCc.1 hi
  have hip : i = p := by
   rw [hgT i h1] at h2
   have hge : p ≤ i := by simpa using h2
   rcases Nat.lt_or_ge p i with hlt | hle
   ·have := hcl.anc hB hoi h3 p (hB.tail i o (by omega) hoi p hlt)
    rw [hl p hpl] at this
    simp at this
   ·omega
  subst hip
  have hdrop : ops.toList.drop i = o :: ops.toList.drop (i + 1) := by
   rw [List.drop_eq_getElem_cons (by simpa using hpl)]
   congr 1
   rw [ho] at hoi
   simpa using hoi
  rw [hdrop] at hr
  have hst := kC8 (Q := fun e a' w' => Ok N X0 M w0 (K e) a' w') hAp c.hty c.hC hs (ops := ops) hr
  have hnext : ∀ a' w', Ok N X0 M w0 (fun st' => St.runR c.tys c.C N ops (ops.toList.drop (i + 1)) st' (K .normal)) a' w' → wpAny c.P .any ops (fun e a' w' => Ok N X0 M w0 (K e) a' w') fuel (listed.setIfInBounds i true) a' w' := fun a' w' hk => by
   obtain ⟨st', β', h4, h5⟩ := hk
   refine kPd hAp hB fuel (i + 1) _ st' β' a' w' (by omega) (by omega) (by simpa using hsz) (hcl.step hB hsz hoi h3) (fun j hj => ?_) h5 h4
   rw [kCs _ _ _ _ (by omega)]
   by_cases hji : j = i
   ·subst hji; simp
   ·rw [if_neg hji, hl j hj]
    congr 1
    apply propext
    omega
  unfold wpOp
  rw [hoi]
  simp only
  split
  ·rename_i hw; rw [if_pos hw] at hst; exact .inl (Oper.wp_mono hnext hst)
  ·rename_i hw; rw [if_neg hw] at hst; exact hnext _ _ hst
theorem count_set {listed : Array Bool} {n i : Nat} (hsz : listed.size = n) (hi : i < n) (h2 : listed.getD i false = false) :
  (List.range n).countP (fun j => !listed.getD j false) = (List.range n).countP (fun j => !(listed.setIfInBounds i true).getD j false) + 1 := by
 have key : ∀ l : List Nat, l.Nodup → i ∈ l → l.countP (fun j => !listed.getD j false) = l.countP (fun j => !(listed.setIfInBounds i true).getD j false) + 1 := by
  intro l hn hm
  induction l with
  |nil => cases hm
  |cons q l ihl =>
   rw [List.nodup_cons] at hn
   simp only [List.countP_cons]
   rw [kCs _ _ _ _ (by omega)]
   by_cases hq : q = i
   ·subst hq
    have hno : l.countP (fun j => !listed.getD j false) = l.countP (fun j => !(listed.setIfInBounds q true).getD j false) := by
     apply List.countP_congr
     intro j hj
     rw [kCs _ _ _ _ (by omega), if_neg (fun e => hn.1 (by rw [← e]; exact hj))]
    rw [h2, hno]; simp
   ·have hm' : i ∈ l := by
     rcases List.mem_cons.1 hm with e | e
     ·exact absurd e.symm hq
     ·exact e
    rw [if_neg hq, ihl hn.2 hm']; omega
 exact key (List.range n) List.nodup_range (List.mem_range.2 hi)
theorem kVk (hAp : Ap c.P X0 M w0) {ops : Array Oper} {m : Nat} {fl : List Fp} (hB : kNe ops m fl) {base : St} {F : Nat → Nat × Dl} {gs : List Nat}
  (hF : ∀ k o, k < m → ops[k]? = some o → (base.least ((List.range k).map fun q => (q, F q)) (fpAt fl k)).dlt c.tys c.C N ops o (F k).1 (F k).2 ∧ ((fpAt fl k).lks.all fun t => (lk t (base.least ((List.range k).map fun q => (q, F q)) (fpAt fl k)).fr).isSome) = true ∧ dlOk (fpAt fl k) (F k).2)
  (hb1 : ∀ t x, lk t base.fr = some x → (∀ k, k < m → kB8 ops k ≠ some t) ∧ ∀ k, k < m → ∀ d ∈ (fpAt fl k).mks, x.kill d = x)
  (hb2 : ∀ id ob, lk id base.hp = some ob → ∀ k, k < m → ∀ d ∈ (fpAt fl k).mks, d ≠ id ∧ ob.kill d = ob) (hgs : ∀ k, k < m → ∀ d ∈ (fpAt fl k).gn, d ∈ gs)
  (hr : St.runR c.tys c.C N ops (ops.toList.drop m) (base.final ((List.range m).map fun q => (q, F q)) gs) (K .normal)) : ∀ (fuel : Nat) (listed : Array Bool) (st' : St) (β : Nat → BV) (a : Act) (w : World), listed.size = ops.size →
  (∀ j, m ≤ j → j < ops.size → listed.getD j false = false) → fuel = (List.range ops.size).countP (fun j => !listed.getD j false) → Closed fl ops.size listed → Sim N X0 M w0 st' β a w →
  (∀ t x, lk t base.fr = some x → (∀ d, (∃ j, j < m ∧ listed.getD j false = true ∧ d ∈ (fpAt fl j).gn) → x.kill d = x) → lk t st'.fr = some x) →
  (∀ k, k < m → listed.getD k false = true → (∀ d, (∃ j, j < m ∧ listed.getD j false = true ∧ d ∈ (fpAt fl j).gn) → (F k).2.x.kill d = (F k).2.x) → lk (F k).1 st'.fr = some (F k).2.x) →
  (∀ id ob, lk id base.hp = some ob → (∀ d, (∃ j, j < m ∧ listed.getD j false = true ∧ d ∈ (fpAt fl j).gn) → d ≠ id ∧ ob.kill d = ob) → lk id st'.hp = some ob) →
  (∀ k, k < m → listed.getD k false = true → ∀ id ob, lk id (F k).2.made = some ob → (∀ d, (∃ j, j < m ∧ listed.getD j false = true ∧ d ∈ (fpAt fl j).gn) → d ≠ id ∧ ob.kill d = ob) → lk id st'.hp = some ob) →
  wpAny c.P .any ops (fun e a' w' => Ok N X0 M w0 (K e) a' w') fuel listed a w := by
 have hdst : ∀ k, k < m → kB8 ops k = some (F k).1 := fun k hk => by
  have hks : k < ops.size := by have := hB.le; omega
  have ho : ops[k]? = some (ops[k]'hks) := Array.getElem?_eq_getElem hks
  have := (hF k _ hk ho).1.1
  unfold kB8
  rw [ho]; exact this
 have hlast : ∀ (fuel : Nat) (listed : Array Bool) (st' : St) (β : Nat → BV) (a : Act) (w : World), m + fuel = ops.size → listed.size = ops.size → Closed fl ops.size listed → (∀ j, j < ops.size → listed.getD j false = decide (j < m)) → Sim N X0 M w0 st' β a w →
   (∀ t x, lk t base.fr = some x → (∀ d, (∃ j, j < m ∧ listed.getD j false = true ∧ d ∈ (fpAt fl j).gn) → x.kill d = x) → lk t st'.fr = some x) →
   (∀ k, k < m → listed.getD k false = true → (∀ d, (∃ j, j < m ∧ listed.getD j false = true ∧ d ∈ (fpAt fl j).gn) → (F k).2.x.kill d = (F k).2.x) → lk (F k).1 st'.fr = some (F k).2.x) →
   (∀ id ob, lk id base.hp = some ob → (∀ d, (∃ j, j < m ∧ listed.getD j false = true ∧ d ∈ (fpAt fl j).gn) → d ≠ id ∧ ob.kill d = ob) → lk id st'.hp = some ob) →
   (∀ k, k < m → listed.getD k false = true → ∀ id ob, lk id (F k).2.made = some ob → (∀ d, (∃ j, j < m ∧ listed.getD j false = true ∧ d ∈ (fpAt fl j).gn) → d ≠ id ∧ ob.kill d = ob) → lk id st'.hp = some ob) →
   wpAny c.P .any ops (fun e a' w' => Ok N X0 M w0 (K e) a' w') fuel listed a w := by
  intro fuel listed st' β a w hfu hsz hcl hl hs I1 I2 I3 I4
  refine kPd (c := c) hAp hB fuel m listed _ β a w hfu (Nat.le_refl _) hsz hcl hl (hs.less (st' := base.final ((List.range m).map fun q => (q, F q)) gs) (fun t x hx => ?_) (fun id ob hx => ?_)) hr
  ·obtain ⟨h1, h2⟩ := kIq hx
   have hG : ∀ d, (∃ j, j < m ∧ listed.getD j false = true ∧ d ∈ (fpAt fl j).gn) → x.kill d = x := fun d ⟨j, hj, _, hd⟩ => h2 d (hgs j hj d hd)
   rcases kKr h1 with h1 | h1
   ·have hm := kBs h1
    simp only [List.map_map, List.mem_map, List.mem_range, Function.comp_apply] at hm
    obtain ⟨k, hk, e⟩ := hm
    injection e with e1 e2
    subst e1 e2
    exact I2 k hk (by rw [hl k (by have := hB.le; omega)]; simpa using hk) hG
   ·exact I1 t x h1 hG
  ·obtain ⟨h1, h2⟩ := kE2 hx
   have hG : ∀ d, (∃ j, j < m ∧ listed.getD j false = true ∧ d ∈ (fpAt fl j).gn) → d ≠ id ∧ ob.kill d = ob := fun d ⟨j, hj, _, hd⟩ => h2 d (hgs j hj d hd)
   rcases kKr h1 with h1 | h1
   ·obtain ⟨e, he, h3⟩ := kI6 h1
    obtain ⟨k, hk, rfl⟩ := List.mem_map.1 he
    have hk := List.mem_range.1 hk
    exact I4 k hk (by rw [hl k (by have := hB.le; omega)]; simpa using hk) id ob h3 hG
   ·exact I3 id ob h1 hG
 intro fuel
 induction fuel with
 |zero =>
  intro listed st' β a w hsz hsuf hf hcl hs I1 I2 I3 I4
  have hall : ∀ j, j < ops.size → listed.getD j false = true := fun j hj => by
   have : (List.range ops.size).countP (fun j => !listed.getD j false) = 0 := hf.symm
   rw [List.countP_eq_zero] at this
   have := this j (List.mem_range.2 hj)
   simpa using this
  have hm : m = ops.size := by
   rcases Nat.lt_or_ge m ops.size with h | h
   ·have := hall m h; rw [hsuf m (Nat.le_refl _) h] at this; cases this
   ·have := hB.le; omega
  exact hlast 0 listed st' β a w (by omega) hsz hcl (fun j hj => by rw [hall j hj]; simp; omega) hs I1 I2 I3 I4
 |succ fuel ih =>
  intro listed st' β a w hsz hsuf hf hcl hs I1 I2 I3 I4
  have hgT : ∀ j, j < ops.size → listed.getD j true = listed.getD j false := fun j hj => by
   rw [Array.getD_eq_getD_getElem?, Array.getD_eq_getD_getElem?, Array.getElem?_eq_getElem (by omega)]; rfl
  have hex : ∃ p, p < ops.size ∧ listed.getD p false = false := by
   have h1 : 0 < (List.range ops.size).countP (fun j => !listed.getD j false) := by omega
   obtain ⟨p, hp, hq⟩ := List.countP_pos_iff.1 h1
   exact ⟨p, List.mem_range.1 hp, by simpa using hq⟩
  obtain ⟨p, ⟨hp, hpf⟩, hmin⟩ := least hex
  have hrdy : p ∈ Region.ready .any ops listed := kCc.2 ⟨hp, by rw [hgT p hp]; exact hpf, _, Array.getElem?_eq_getElem hp, kN3 (i := p) (ops := ops) fun e he => by
   have hlt := hB.back p _ (Array.getElem?_eq_getElem hp) e he
   cases hh : listed.getD e false with
   |true => rfl
   |false => have := hmin e ⟨by omega, hh⟩; omega⟩
  have hwhole : (∀ j, j < m → listed.getD j false = true) → wpAny c.P .any ops (fun e a' w' => Ok N X0 M w0 (K e) a' w') (fuel + 1) listed a w := fun kGl => by
   have hl : ∀ j, j < ops.size → listed.getD j false = decide (j < m) := fun j hj => by
    rcases Nat.lt_or_ge j m with h | h
    ·rw [kGl j h]; simp [h]
    ·rw [hsuf j h hj]; simp; omega
   have hcount : fuel + 1 = ops.size - m := by
    rw [hf]
    have : (List.range ops.size).countP (fun j => !listed.getD j false) = (List.range ops.size).countP (fun j => decide (m ≤ j)) := by
     apply List.countP_congr
     intro j hj
     rw [hl j (List.mem_range.1 hj)]
     simp
    rw [this]
    have key : ∀ n, (List.range n).countP (fun j => decide (m ≤ j)) = n - m := by
     intro n
     induction n with
     |zero => simp
     |succ n ihn =>
      rw [List.range_succ, List.countP_append, ihn]
      by_cases hh : m ≤ n
      ·simp [hh]; omega
      ·simp [hh]; omega
    exact key _
   exact hlast (fuel + 1) listed st' β a w (by have := hB.le; omega) hsz hcl hl hs I1 I2 I3 I4
  refine ⟨fun h => (by rw [h] at hrdy; cases hrdy), fun i hi => ?_⟩
  obtain ⟨h1, h2, o, hoi, h3⟩ := kCc.1 hi
  rw [hgT i h1] at h2
  rcases Nat.lt_or_ge i m with him | him
  ·-- one of the first m
   obtain ⟨hd, hlks, hok⟩ := hF i o him hoi
   have hanc := hcl.anc hB hoi h3
   have hGx : ∀ d, (∃ j, j < m ∧ listed.getD j false = true ∧ d ∈ (fpAt fl j).gn) → d ∈ (fpAt fl i).gx := fun d ⟨j, hj, hlj, hd⟩ =>
    hB.gx i j him hj (fun e => by subst e; rw [h2] at hlj; cases hlj) (fun ha => by have := hcl j (by have := hB.le; omega) hlj i ha; rw [h2] at this; cases this) d hd
   have hWf : ∀ t x, lk t (base.least ((List.range i).map fun q => (q, F q)) (fpAt fl i)).fr = some x → lk t st'.fr = some x := fun t x hx => by
    obtain ⟨e1, e2⟩ := kIq hx
    have hG : ∀ d, (∃ j, j < m ∧ listed.getD j false = true ∧ d ∈ (fpAt fl j).gn) → x.kill d = x := fun d hd => e2 d (hGx d hd)
    rcases kKr e1 with e1 | e1
    ·have hm := kBs e1
     obtain ⟨e, he, e3⟩ := List.mem_map.1 hm
     obtain ⟨he1, he2⟩ := List.mem_filter.1 he
     obtain ⟨k, hk, rfl⟩ := List.mem_map.1 he1
     injection e3 with e4 e5
     subst e4 e5
     exact I2 k (by have := List.mem_range.1 hk; omega) (hanc k (List.contains_iff_mem.1 he2)) hG
    ·exact I1 t x e1 hG
   have hWh : ∀ id ob, lk id (base.least ((List.range i).map fun q => (q, F q)) (fpAt fl i)).hp = some ob → lk id st'.hp = some ob := fun id ob hx => by
    obtain ⟨e1, e2⟩ := kE2 hx
    have hG : ∀ d, (∃ j, j < m ∧ listed.getD j false = true ∧ d ∈ (fpAt fl j).gn) → d ≠ id ∧ ob.kill d = ob := fun d hd => e2 d (hGx d hd)
    rcases kKr e1 with e1 | e1
    ·obtain ⟨e, he, e3⟩ := kI6 e1
     obtain ⟨he1, he2⟩ := List.mem_filter.1 he
     obtain ⟨k, hk, rfl⟩ := List.mem_map.1 he1
     exact I4 k (by have := List.mem_range.1 hk; omega) (hanc k (List.contains_iff_mem.1 he2)) id ob e3 hG
    ·exact I3 id ob e1 hG
   have hd' : st'.dlt c.tys c.C N ops o (F i).1 (F i).2 := kYc (fun t ht => by
    have := List.all_eq_true.1 hlks t (hB.looks i o him hoi t ht)
    obtain ⟨x, hx⟩ := Option.isSome_iff_exists.1 this
    unfold St.get
    rw [hx, hWf t x hx]) hWh hd
   have hst := kVj (Q := fun e a' w' => Ok N X0 M w0 (K e) a' w') hAp c.hty c.hC hs (ops := ops) hd'
   obtain ⟨k1, k2, k3, k4⟩ := hok
   have hids : (F i).2.ids = (fpAt fl i).mks ++ (fpAt fl i).gn := by unfold Dl.ids; rw [k1, k2]
   have kQc : ∀ id, id ∉ (fpAt fl i).mks → lk id (F i).2.made = none := fun id hid => kHe (by rw [k2]; exact hid)
   have havk : ∀ k, k < m → k ≠ i → listed.getD k false = true → ∀ d ∈ (fpAt fl i).mks, d ∈ (fpAt fl k).av := fun k hk hne hlk d hd =>
    hB.av k i hk him (Ne.symm hne) (fun ha => by have := hcl k (by have := hB.le; omega) hlk i ha; rw [h2] at this; cases this) d hd
   have hG' : ∀ {Q : Nat → Prop}, (∀ d, (∃ j, j < m ∧ (listed.setIfInBounds i true).getD j false = true ∧ d ∈ (fpAt fl j).gn) → Q d) → (∀ d, (∃ j, j < m ∧ listed.getD j false = true ∧ d ∈ (fpAt fl j).gn) → Q d) ∧ ∀ d ∈ (fpAt fl i).gn, Q d := fun {Q} hq =>
    ⟨fun d ⟨j, hj, hlj, hd⟩ => hq d ⟨j, hj, by rw [kCs _ _ _ _ (by omega)]; split <;> first | rfl | exact hlj, hd⟩, fun d hd => hq d ⟨i, him, by rw [kCs _ _ _ _ (by omega), if_pos rfl], hd⟩⟩
   have hnext : ∀ a' w', Ok N X0 M w0 (fun st2 => st2 = st'.dapp (F i).1 (F i).2) a' w' → wpAny c.P .any ops (fun e a' w' => Ok N X0 M w0 (K e) a' w') fuel (listed.setIfInBounds i true) a' w' := fun a' w' hk => by
    obtain ⟨st2, β', rfl, h5⟩ := hk
    refine ih _ _ β' a' w' (by simpa using hsz) (fun j hj hjn => ?_) ?_ (hcl.step hB hsz hoi h3) h5 (fun t x hx hG => ?_) (fun k hk hlk hG => ?_) (fun id ob hx hG => ?_) (fun k hk hlk id ob hx hG => ?_)
    ·rw [kCs _ _ _ _ (by omega), if_neg (by omega)]; exact hsuf j hj hjn
    ·have := count_set hsz h1 h2; omega
    ·obtain ⟨g1, g2⟩ := hG' hG
     obtain ⟨q1, q2⟩ := hb1 t x hx
     have hne : t ≠ (F i).1 := fun e => q1 i him (by rw [hdst i him, e])
     simp only [St.dapp, lk, if_neg hne, kA7 hne]
     refine kI5 (fun d hd => ?_) (I1 t x hx g1)
     rw [hids] at hd
     rcases List.mem_append.1 hd with h | h
     ·exact q2 i him d h
     ·exact g2 d h
    ·obtain ⟨g1, g2⟩ := hG' hG
     by_cases hki : k = i
     ·subst hki; simp [St.dapp, lk]
     ·rw [kCs _ _ _ _ (by omega), if_neg hki] at hlk
      have hne : (F k).1 ≠ (F i).1 := fun e => hB.apart i k him hk (Ne.symm hki) (by rw [hdst i him, hdst k hk, e])
      simp only [St.dapp, lk, if_neg hne, kA7 hne]
      refine kI5 (fun d hd => ?_) (I2 k hk hlk g1)
      rw [hids] at hd
      rcases List.mem_append.1 hd with h | h
      ·have hks : k < ops.size := by have := hB.le; omega
       exact kFa (havk k hk hki hlk d h) (hF k _ hk (Array.getElem?_eq_getElem hks)).2.2.2.2.1
      ·exact g2 d h
    ·obtain ⟨g1, g2⟩ := hG' hG
     have q := hb2 id ob hx i him
     have hnm : id ∉ (fpAt fl i).mks := fun hin => (q id hin).1 rfl
     show lk id ((F i).2.made ++ _) = _
     rw [kBy, kQc id hnm]
     refine kGm (fun d hd => ?_) (I3 id ob hx g1)
     rw [hids] at hd
     rcases List.mem_append.1 hd with h | h
     ·exact q d h
     ·exact g2 d h
    ·obtain ⟨g1, g2⟩ := hG' hG
     show lk id ((F i).2.made ++ _) = _
     by_cases hki : k = i
     ·subst hki; rw [kBy, hx]; rfl
     ·rw [kCs _ _ _ _ (by omega), if_neg hki] at hlk
      have hks : k < ops.size := by have := hB.le; omega
      have hokk := (hF k _ hk (Array.getElem?_eq_getElem hks)).2.2
      have hidk : id ∈ (fpAt fl k).mks := by rw [← hokk.2.1]; exact List.mem_map.2 ⟨(id, ob), kBs hx, rfl⟩
      have hnm : id ∉ (fpAt fl i).mks := hB.mks i k him hk hki id hidk
      rw [kBy, kQc id hnm]
      refine kGm (fun d hd => ?_) (I4 k hk hlk id ob hx g1)
      rw [hids] at hd
      rcases List.mem_append.1 hd with h | h
      ·refine ⟨fun e => hnm (e ▸ h), Ob.kFa (havk k hk hki hlk d h) ?_⟩
       have := List.all_eq_true.1 hokk.2.2.2 (id, ob) (kBs hx)
       simpa using this
      ·exact g2 d h
   unfold wpOp
   rw [hoi]
   simp only
   split
   ·rename_i hw; rw [if_pos hw] at hst; exact .inl (Oper.wp_mono hnext hst)
   ·rename_i hw; rw [if_neg hw] at hst; exact hnext _ _ hst
  ·-- all of the first m have come up
   exact (hwhole fun j hj => hcl.anc hB hoi h3 j (hB.tail i o him hoi j (by omega))).2 i hi
theorem WP.flow {id : Nat} {l : List Oper} {st : St} (m : Nat) (fl : List Fp) (ds mks gs : List Nat) (hB : kL9 l.toArray m fl = true)
  (hD : ((List.range m).all fun k => match kB8 l.toArray k with | some d => ds.contains d | none => false) = true)
  (hM : ((List.range m).all fun k => ((fpAt fl k).mks.all fun d => mks.contains d) && ((fpAt fl k).gn.all fun d => gs.contains d)) = true) (hm : c.P.follows .mixedOrders = true)
  (h : St.runF c.tys c.C N l.toArray fl (st.clean ds mks) (l.take m) 0 [] fun acc => St.runR c.tys c.C N l.toArray (l.drop m) ((st.clean ds mks).final acc gs) (K .normal)) : WP c N X0 M w0 (.region id l.toArray true) st K := by
 intro hA β a w hs
 have hD0 := kN2 hB
 obtain ⟨F, h1, h2⟩ := kRo _ _ _ h
 have hlen : (l.take m).length = m := by
  have := hD0.le
  simp at this ⊢
  omega
 rw [hlen] at h1
 simp only [List.nil_append, Nat.zero_add] at h1 h2
 have hcl0 : ∀ t x, lk t (st.clean ds mks).fr = some x → lk t st.fr = some x ∧ t ∉ ds ∧ ∀ d ∈ mks, x.kill d = x := fun t x hx => by
  obtain ⟨e1, e2⟩ := kIq hx
  obtain ⟨e3, e4⟩ := kLe e1
  exact ⟨e3, e4, e2⟩
 have hMk : ∀ k, k < m → (∀ d ∈ (fpAt fl k).mks, d ∈ mks) ∧ ∀ d ∈ (fpAt fl k).gn, d ∈ gs := fun k hk => by
  have := List.all_eq_true.1 hM k (List.mem_range.2 hk)
  simp only [Bool.and_eq_true, List.all_eq_true] at this
  exact ⟨fun d hd => List.contains_iff_mem.1 (this.1 d hd), fun d hd => List.contains_iff_mem.1 (this.2 d hd)⟩
 refine wp_region_any hm (kVk (c := c) (K := K) hA hD0 (base := st.clean ds mks) (F := F) (gs := gs) (fun k o hk ho => ?_) (fun t x hx => ⟨fun k hk e => ?_, fun k hk d hd => (hcl0 t x hx).2.2 d ((hMk k hk).1 d hd)⟩) (fun t ob hx k hk d hd => (kE2 hx).2 d ((hMk k hk).1 d hd)) (fun k hk => (hMk k hk).2) ?_
  l.toArray.size (Array.replicate l.toArray.size false) (st.clean ds mks) β a _ (by simp) (fun j _ hj => ?_) ?_ (fun b hb hl => ?_) ?_ (fun t x hx _ => hx) (fun k hk hl => ?_) (fun t ob hx _ => hx) (fun k hk hl => ?_))
 ·have : (l.take m)[k]? = some o := by rw [List.getElem?_take_of_lt hk]; simpa using ho
  exact h2 k o this
 ·have := List.all_eq_true.1 hD k (List.mem_range.2 hk)
  rw [e] at this
  exact (hcl0 t x hx).2.1 (List.contains_iff_mem.1 this)
 ·exact h1
 ·rw [Array.getD_eq_getD_getElem?, Array.getElem?_replicate]; split <;> rfl
 ·have : (List.range l.toArray.size).countP (fun j => !(Array.replicate l.toArray.size false).getD j false) = (List.range l.toArray.size).countP (fun _ => true) := by
   apply List.countP_congr
   intro j hj
   rw [Array.getD_eq_getD_getElem?, Array.getElem?_replicate]; split <;> simp
  rw [this]; simp
 ·rw [Array.getD_eq_getD_getElem?, Array.getElem?_replicate] at hl
  split at hl <;> cases hl
 ·exact (hs.grow ((Go.RowKit.Below.refl _ _).drew) (fun b _ hb => .inl hb) hs.x0).less (fun t x hx => (hcl0 t x hx).1) (fun t ob hx => (kE2 hx).1)
 ·rw [Array.getD_eq_getD_getElem?, Array.getElem?_replicate] at hl
  split at hl <;> cases hl
 ·rw [Array.getD_eq_getD_getElem?, Array.getElem?_replicate] at hl
  split at hl <;> cases hl
end
end Go.Vc

namespace Go.Vc
def kJ7 (x : SV) (p q : Prop) : Prop := match x with
 | .v (.bool b) => (b = true → p) ∧ (b = false → q)
 | _ => False
section
variable {c : Cx} {N : Nat} {X0 : Nat → Prop} {M : Nat → BV → Prop} {w0 : World} {st : St} {K : Exit → St → Prop}
theorem WP.kAa {x : Operand} {p q : Code} (h : kJ7 (st.ev x) (WP c N X0 M w0 p st K) (WP c N X0 M w0 q st K)) : WP c N X0 M w0 (.cond x p q) st K := by
 unfold kJ7 at h
 split at h
 ·rename_i b hb; exact WP.cond hb h.1 h.2
 ·exact h.elim
end
def offV (tys : List (Nat × TyD)) (o : Oper) : SV := match lk o.type tys with
 |some d => match d.z with
  | [z] => .v z
  | _ => .junk
 |none => .junk
def St.kGq (tys : List (Nat × TyD)) (C : List (FuncId × Ctr)) (N : Nat) (ops : Array Oper) (o : Oper) (st : St) (K : SV → Prop) : Prop :=
 kAy N o.dst = true ∧ match o.guard with
 |none => (match o.op with
  | .call c => (match c.callee with
   | .value x => (match st.kEy (o.dst.getD 0) C c x with
    |some (ob, r) => ob ∧ K r
    |none => False)
   | _ => (match st.pr tys (.call c) with
    |some (ob, r) => ob ∧ K r
    |none => False))
  |op => (match st.pr tys op with
   |some (ob, r) => ob ∧ K r
   |none => False))
 |some (j, want) => match (ops[j]?).bind (·.dst) with
  |some t => (match kD8 want (st.get t) with
   |some c => (match o.op with
    | .call cl => (match cl.callee with
     | .value x => (match st.kEy (o.dst.getD 0) C cl x with
      |some (ob, r) => (c = true → ob) ∧ K (kB7 c r)
      |none => c = false ∧ K (kB7 c (offV tys o)))
     | _ => (match st.pr tys (.call cl) with
      |some (ob, r) => (c = true → ob) ∧ K (kB7 c r)
      |none => c = false ∧ K (kB7 c (offV tys o))))
    |op => (match st.pr tys op with
     |some (ob, r) => (c = true → ob) ∧ K (kB7 c r)
     |none => c = false ∧ K (kB7 c (offV tys o))))
   |none => False)
  |none => False
def St.runW (tys : List (Nat × TyD)) (C : List (FuncId × Ctr)) (N : Nat) (ops : Array Oper) : List Oper → St → (St → Prop) → Prop
 | [], st, K => K st
 |o :: l, st, K => st.kGq tys C N ops o fun x => St.runW tys C N ops l (st.put o.dst x) K
theorem kVf {tys : List (Nat × TyD)} {C : List (FuncId × Ctr)} {N : Nat} {ops : Array Oper} {o : Oper} {st : St} {K : SV → Prop} (h : st.kGq tys C N ops o K) : ∃ x, st.val tys C N ops o x ∧ K x := by
 obtain ⟨hd, h⟩ := h
 have prU : ∀ {op}, (match st.pr tys op with | some (ob, r) => ob ∧ K r | none => False) → ∃ x, (∃ ob, st.pr tys op = some (ob, x) ∧ ob) ∧ K x := fun {op} h => by
  split at h
  ·rename_i ob r hp; exact ⟨r, ⟨ob, hp, h.1⟩, h.2⟩
  ·exact h.elim
 have prG : ∀ {op} {g : Bool}, (match st.pr tys op with | some (ob, r) => (g = true → ob) ∧ K (kB7 g r) | none => g = false ∧ K (kB7 g (offV tys o))) → (∃ x, (∃ ob r, st.pr tys op = some (ob, r) ∧ x = kB7 g r ∧ (g = true → ob)) ∧ K x) ∨ (g = false ∧ K (kB7 g (offV tys o))) := fun {op g} h => by
  split at h
  ·rename_i ob r hp; exact .inl ⟨_, ⟨ob, r, hp, rfl, h.1⟩, h.2⟩
  ·exact .inr h
 cases hg : o.guard with
 |none =>
  rw [hg] at h
  simp only at h
  have hval : ∀ {x}, st.valU tys C o x → st.val tys C N ops o x := fun {x} hx => .inl ⟨hd, by rw [hg]; exact hx⟩
  cases ho : o.op with
  |call c =>
   rw [ho] at h
   cases hc : c.callee with
   |value y =>
    simp only [hc] at h
    split at h
    case h_2 => exact h.elim
    case h_1 _ ob res hcf =>
    exact ⟨res, hval (by unfold St.valU; rw [ho]; simp only [hc]; exact ⟨ob, hcf, h.1⟩), h.2⟩
   | _ =>
    simp only [hc] at h
    obtain ⟨x, h1, h2⟩ := prU h
    exact ⟨x, hval (by unfold St.valU; rw [ho]; simp only [hc]; exact h1), h2⟩
  | _ =>
   rw [ho] at h
   obtain ⟨x, h1, h2⟩ := prU (op := o.op) (by rw [ho]; exact h)
   rw [ho] at h1
   exact ⟨x, hval (by unfold St.valU; rw [ho]; exact h1), h2⟩
 |some gw =>
  obtain ⟨j, want⟩ := gw
  rw [hg] at h
  simp only at h
  cases ht : (ops[j]?).bind (·.dst) with
  |none => rw [ht] at h; exact h.elim
  |some t =>
   rw [ht] at h
   simp only at h
   split at h
   case h_2 => exact h.elim
   case h_1 _ cc hcc =>
    have hval : ∀ {x}, st.valG tys C cc o x → st.val tys C N ops o x := fun {x} hx => .inl ⟨hd, by rw [hg]; simp only [ht, hcc]; exact hx⟩
    have hoff : cc = false → K (kB7 cc (offV tys o)) → ∃ x, st.val tys C N ops o x ∧ K x := fun h1 h2 => by
     subst h1
     exact ⟨_, .inr ⟨hd, ⟨_, rfl⟩, by rw [hg]; simp only [ht, hcc]⟩, h2⟩
    cases ho : o.op with
    |call c =>
     rw [ho] at h
     cases hc : c.callee with
     |value y =>
      simp only [hc] at h
      split at h
      case h_2 => exact hoff h.1 h.2
      case h_1 _ ob res hcf =>
      exact ⟨_, hval (by unfold St.valG; rw [ho]; simp only [hc]; exact ⟨ob, res, hcf, rfl, h.1⟩), h.2⟩
     | _ =>
      simp only [hc] at h
      rcases prG h with ⟨x, h1, h2⟩ | ⟨h1, h2⟩
      ·exact ⟨x, hval (by unfold St.valG; rw [ho]; simp only [hc]; exact h1), h2⟩
      ·exact hoff h1 h2
    | _ =>
     rw [ho] at h
     rcases prG (op := o.op) (by rw [ho]; exact h) with ⟨x, h1, h2⟩ | ⟨h1, h2⟩
     ·rw [ho] at h1
      exact ⟨x, hval (by unfold St.valG; rw [ho]; exact h1), h2⟩
     ·exact hoff h1 h2
theorem kO8 {tys : List (Nat × TyD)} {C : List (FuncId × Ctr)} {N : Nat} {ops : Array Oper} {K : St → Prop} : ∀ (l : List Oper) {st : St}, St.runW tys C N ops l st K → St.runV tys C N ops l st K
 | [], st, h => h
 |o :: l, st, h => by
  obtain ⟨x, h1, h2⟩ := kVf h
  exact ⟨x, h1, kO8 l h2⟩
theorem WP.kAg {c : Cx} {N : Nat} {X0 : Nat → Prop} {M : Nat → BV → Prop} {w0 : World} {K : Exit → St → Prop} {id : Nat} {l : List Oper} {st : St} (m : Nat) (hB : kWz l.toArray m = true) (hm : c.P.follows .mixedOrders = true)
  (h : St.runW c.tys c.C N l.toArray (l.take m) st fun st' => St.runR c.tys c.C N l.toArray (l.drop m) st' (K .normal)) : WP c N X0 M w0 (.region id l.toArray true) st K :=
 WP.draw m hB hm (kO8 _ h)
structure Cn (P : Program) (f : FuncId) (ctr : Ctr) : Prop where
 call : kNt P f
 holds : ∀ d args, (ctr.pure d args).1 → Holds P f args (ctr.pure d args).2.1 (ctr.pure d args).2.2
 kLl : ∀ d args obs, (ctr.wri d args obs).1 → kCw P f args obs (ctr.wri d args obs).2.1 (ctr.wri d args obs).2.2.1 (ctr.wri d args obs).2.2.2
theorem COk.nil (P : Program) : COk P [] := ⟨fun f c h => (by cases h), fun f c h => (by cases h), fun f c h => (by cases h)⟩
theorem COk.cons {P : Program} {f : FuncId} {ctr : Ctr} {C : List (FuncId × Ctr)} (h : Cn P f ctr) (hC : COk P C) : COk P ((f, ctr) :: C) where
 call := fun g c hg => by
  simp only [lk] at hg
  by_cases he : g = f
  ·subst he; exact h.call
  ·rw [if_neg he] at hg; exact hC.call g c hg
 holds := fun g c hg => by
  simp only [lk] at hg
  by_cases he : g = f
  ·subst he; rw [if_pos rfl] at hg; cases hg; exact h.holds
  ·rw [if_neg he] at hg; exact hC.holds g c hg
 kLl := fun g c hg => by
  simp only [lk] at hg
  by_cases he : g = f
  ·subst he; rw [if_pos rfl] at hg; cases hg; exact h.kLl
  ·rw [if_neg he] at hg; exact hC.kLl g c hg
def pur {X : Type} (dec : List SV → X) (A : X → List SV) (pre : X → Prop) (res : Nat → X → SV) (robs : Nat → X → List (Nat × Ob)) : Ctr :=
 {pure := fun d args => (args = A (dec args) ∧ pre (dec args), res d (dec args), robs d (dec args)) }
def len {X : Type} (lend move : List Nat) (dec : List SV → List (Nat × Ob) → X) (A : X → List SV) (B : X → List (Nat × Ob)) (pre : X → Prop) (res : Nat → X → SV) (robs : Nat → X → List (Nat × Ob)) (kept : X → List (Nat × Ob)) : Ctr :=
 {lend := lend, move := move, wri := fun d args obs => (args = A (dec args obs) ∧ obs = B (dec args obs) ∧ d < 900000 ∧ pre (dec args obs), res d (dec args obs), robs d (dec args obs), kept (dec args obs)) }
theorem Cn.pur {P : Program} {f : FuncId} {X : Type} {dec : List SV → X} {A : X → List SV} {pre : X → Prop} {res : Nat → X → SV} {robs : Nat → X → List (Nat × Ob)} {fn : Func} {code : Code} (hf : P.funcs[f]? = some fn) (hn : (fn.name == "runtime.NumGoroutine") = false) (hb : fn.body = some code)
  (h : ∀ d x, pre x → Holds P f (A x) (res d x) (robs d x)) : Cn P f (pur dec A pre res robs) :=
 ⟨⟨fn, hf, hn, by rw [hb]; rfl⟩, fun d args ha => (by have := h d (dec args) ha.2; rw [← ha.1] at this; exact this), fun _ _ _ h => h.elim⟩
theorem Cn.len {P : Program} {f : FuncId} {X : Type} {lend move : List Nat} {dec : List SV → List (Nat × Ob) → X} {A : X → List SV} {B : X → List (Nat × Ob)} {pre : X → Prop} {res : Nat → X → SV} {robs : Nat → X → List (Nat × Ob)} {kept : X → List (Nat × Ob)} {fn : Func} {code : Code}
  (hf : P.funcs[f]? = some fn) (hn : (fn.name == "runtime.NumGoroutine") = false) (hb : fn.body = some code) (h : ∀ d x, d < 900000 → pre x → kCw P f (A x) (B x) (res d x) (robs d x) (kept x)) : Cn P f (len lend move dec A B pre res robs kept) :=
 ⟨⟨fn, hf, hn, by rw [hb]; rfl⟩, fun _ _ h => h.elim, fun d args obs ha => by
  have := h d (dec args obs) ha.2.2.1 ha.2.2.2
  rw [← ha.1, ← ha.2.1] at this
  exact this⟩
def aI (args : List SV) (i : Nat) : Int := match args[i]? with
 |some (.v (.int _ n)) => n
 | _ => 0
def aS (args : List SV) (i : Nat) : ByteArray := match args[i]? with
 |some (.v (.string s)) => s
 | _ => ⟨#[]⟩
def aR (args : List SV) (i : Nat) : List (List SV) := match args[i]? with
 |some (.sl _ rows) => rows
 | _ => []
def aC (args : List SV) (i : Nat) : List SV := match args[i]? with
 |some (.agg cs) => cs
 | _ => []
def oR (obs : List (Nat × Ob)) (i : Nat) : List (List SV) := match lk i obs with
 |some (.sl _ _ rows) => rows
 | _ => []
def oC (obs : List (Nat × Ob)) (i : Nat) : List SV := match lk i obs with
 |some (.box _ cs) => cs
 | _ => []
theorem Holds.go {c : Cx} {N : Nat} {f : FuncId} {fn : Func} {code : Code} (hf : c.P.funcs[f]? = some fn) (hb : fn.body = some code) {rs : List ResultVar} (hrs : fn.results = rs.toArray) (hn : fn.ntmps = N) (hfew : N ≤ 900000) {args : List SV} (ha : args.length ≤ N) {res : SV} {robs : List (Nat × Ob)}
  (hrb : (robs.all fun p => p.2.pb) = true)
  (h : ∀ (X0 : Nat → Prop) (w0 : World), WP c N X0 (fun _ _ => False) w0 code ⟨kE8 0 args, []⟩ (retK c.tys rs res robs)) : Holds c.P f args res robs :=
 Holds.k2y hf hb (by rw [hrs]) hn hfew ha (fun {id ob} hi => List.all_eq_true.1 hrb _ (kBs hi)) h
theorem kCw.go {c : Cx} {N : Nat} {f : FuncId} {fn : Func} {code : Code} (hf : c.P.funcs[f]? = some fn) (hb : fn.body = some code) {rs : List ResultVar} (hrs : fn.results = rs.toArray) (hn : fn.ntmps = N) (hfew : N ≤ 900000) {args : List SV} (ha : args.length ≤ N)
  {obs : List (Nat × Ob)} {res : SV} {robs kept : List (Nat × Ob)} (hrb : (robs.all fun p => p.2.pb) = true) (hrid : ∀ i ∈ robs.map (·.1), i < 900000) (hres : ∀ i ∈ res.kCo, i ∈ robs.map (·.1))
  (hkid : ∀ i ∈ kept.map (·.1), 1000000 ≤ i) (hkre : kept.map (fun p => (p.1, p.2.up (SV.ren1 (kept.map fun q => (q.1, q.1))))) = kept) (hkn : kBr (kept.map (·.1)) = true) (hall : ∀ i ∈ obs.map (·.1), 1000000 ≤ i → i ∈ kept.map (·.1))
  (h : ∀ (X0 : Nat → Prop) (M : Nat → BV → Prop) (w0 : World), WP c N X0 M w0 code ⟨kE8 0 args, obs⟩ (retL c.tys rs res robs kept)) : kCw c.P f args obs res robs kept :=
 kCw.k2y hf hb (by rw [hrs]) hn hfew ha (fun {id ob} hi => List.all_eq_true.1 hrb _ (kBs hi)) hrid hres hkid hkre (kEs.1 hkn) hall h
theorem beqT (b : Bool) : (b == true) = b := by cases b <;> rfl
theorem beqF (b : Bool) : (b == false) = !b := by cases b <;> rfl
section
variable {α : Type} (enc : α → List SV) (z : List SV) (L : List α)
theorem kAd (k : Nat) (hk : k < L.length) : rowAt (L.map enc) k = enc L[k] := by
 unfold rowAt
 rw [List.getElem?_map, List.getElem?_eq_getElem hk]; rfl
end
end Go.Vc

namespace Go.Vc
def St.dltK (tys : List (Nat × TyD)) (C : List (FuncId × Ctr)) (N : Nat) (ops : Array Oper) (o : Oper) (st : St) (K : Nat → Dl → Prop) : Prop :=
 match o.dst with
 |none => False
 |some d => match o.guard with
  |some _ => st.kGq tys C N ops o fun x => K d ⟨x, [], []⟩
  |none => match o.op with
   | .alloc T => match lk T tys with
    |some t => kAy N o.dst = true ∧ t.z.all Value.oneCell' = true ∧ K d ⟨.ptr d 0 0 0, [(d, .box T (t.z.map .v))], []⟩
    |none => False
   | .box T x => kAy N o.dst = true ∧ (st.ev x).need ∧ (st.ev x).strip.cells.all SV.one = true ∧ (st.ev x).strip.cells.map (SV.kill d) = (st.ev x).strip.cells ∧ K d ⟨.ptr d 0 0 0, [(d, .box T (st.ev x).strip.cells)], []⟩
   | .buildSlice T n parts => match kFo st parts.toList with
    | _ :: _ => kAy N o.dst = true ∧ (match st.kE7 tys o with
    |some (p, ob, is) => p ∧ K d ⟨.own d, [(d, ob)], is⟩
    |none => False)
    | [] => match lk T tys with
    |some t => match lk t.elem tys with
     |some e => kAy N o.dst = true ∧ t.kind = 1 ∧ 0 < e.size ∧ n * e.size ≤ 16777216 ∧ e.z.length = e.size ∧ e.z.all Value.oneCell' = true ∧ kEb st n e.size parts.toList ∧
       K d ⟨.own d, [(d, .sl t.elem e.size (kEh st (e.z.map .v) parts.toList (List.replicate n (e.z.map .v))))], []⟩
     |none => False
    |none => False
   | .makeSlice T l c => match lk T tys, (st.ev l).strip, (st.ev c).strip with
    |some t, .v (.int .i64 n), .v (.int .i64 m) => match lk t.elem tys with
     |some e => kAy N o.dst = true ∧ t.kind = 1 ∧ (st.ev l).need ∧ (st.ev c).need ∧ 0 ≤ n ∧ n ≤ m ∧ m * (e.bytes : Int) ≤ 281474976710656 ∧ 0 < e.bytes ∧ e.z.length = e.size ∧ e.z.all Value.oneCell' = true ∧
       K d ⟨.own d, [(d, .sl t.elem e.size (List.replicate n.toNat (e.z.map .v)))], []⟩
     |none => False
    | _, _, _ => False
   | .call c => match c.callee with
    | .value x => match st.ev x with
     | .fn f caps => match lk f C with
      |some ctr => kAy N o.dst = true ∧ ctr.isL = false ∧ (match ctr.pure d ((st.argL c caps).map (SV.share st.hp)) with
       | (ob, res, robs) => ob ∧ (∀ y ∈ c.args.toList, (st.ev y).need) ∧ ((st.argL c caps).all fun y => (y.share st.hp).good) = true ∧ res.rok = true ∧ (res.kCo.all fun i => (robs.map (·.1)).contains i) = true ∧
        kBr (robs.map (·.1)) = true ∧ ((robs.map (·.1)).all fun i => decide (i < 1000000)) = true ∧ (robs.all fun p => p.2.pl) = true ∧
        (((st.argL c caps).flatMap SV.owns) = [] ∨ (res.isV2 = true ∧ ∀ p ∈ robs, p.2.isV)) ∧ K d ⟨res, robs, []⟩)
      |none => False
     | _ => False
    | .builtin .append => match st.kJ6 c with
     |true => kAy N o.dst = true ∧ (match st.kE7 tys o with
     |some (p, ob, is) => p ∧ K d ⟨.own d, [(d, ob)], is⟩
     |none => False)
     |false => match c.args.toList, c.argTypes.toList with
     | [x, y], [T, T'] => match lk T tys, st.rowsOf (st.ev y).strip with
      |some t, some news => match lk t.elem tys with
       |some e => kAy N o.dst = true ∧ T = T' ∧ t.kind = 1 ∧ (st.ev x).need ∧ (st.ev y).need ∧ 0 < e.size ∧ 0 < e.bytes ∧ e.z.length = e.size ∧
        (match (st.ev x).strip with
        | .own j => match lk j st.hp with
         |some (.sl e' s' rows) => j < 1000000 ∧ j ≠ d ∧ e' = t.elem ∧ s' = e.size ∧ (rows.length + news.length) * e.bytes ≤ 140737488355328 ∧ (∀ row ∈ news, row.length = e.size) ∧ K d ⟨.own d, [(d, .sl e' s' (rows ++ news))], [j]⟩
         | _ => False
        | .v (.slice none 0 0) => news.length * e.bytes ≤ 140737488355328 ∧ (∀ row ∈ news, row.length = e.size) ∧ K d ⟨.own d, [(d, .sl t.elem e.size news)], []⟩
        | _ => False)
       |none => False
      | _, _ => False
     | _, _ => False
    | _ => st.kGq tys C N ops o fun x => K d ⟨x, [], []⟩
   | _ => st.kGq tys C N ops o fun x => K d ⟨x, [], []⟩
theorem k1k {tys : List (Nat × TyD)} {C : List (FuncId × Ctr)} {N : Nat} {ops : Array Oper} {o : Oper} {st : St} {K : Nat → Dl → Prop} (h : st.dltK tys C N ops o K) : ∃ d δ, st.dlt tys C N ops o d δ ∧ K d δ := by
 unfold St.dltK at h
 cases hod : o.dst with
 |none => rw [hod] at h; exact h.elim
 |some d =>
  rw [hod] at h
  simp only at h
  have val : (st.kGq tys C N ops o fun x => K d ⟨x, [], []⟩) → ∃ d δ, st.dlt tys C N ops o d δ ∧ K d δ := fun hv => by
   obtain ⟨x, h1, h2⟩ := kVf hv
   exact ⟨d, _, ⟨hod, .inl ⟨h1, rfl, rfl⟩⟩, h2⟩
  cases hg : o.guard with
  |some g => rw [hg] at h; exact val h
  |none =>
   rw [hg] at h
   simp only at h
   cases ho : o.op with
   |alloc T =>
    rw [ho] at h
    simp only at h
    split at h
    case h_2 => exact h.elim
    case h_1 _ t ht =>
     refine ⟨d, _, ⟨hod, .inr (.inl ⟨hg, by rw [hod]; exact h.1, ?_⟩)⟩, h.2.2⟩
     rw [ho]
     simp only [ht]
     exact ⟨h.2.1, trivial⟩
   |box T x =>
    rw [ho] at h
    simp only at h
    refine ⟨d, _, ⟨hod, .inr (.inl ⟨hg, by rw [hod]; exact h.1, ?_⟩)⟩, h.2.2.2.2⟩
    rw [ho]
    exact ⟨h.2.1, h.2.2.1, h.2.2.2.1, rfl⟩
   |buildSlice T n parts =>
    rw [ho] at h
    simp only at h
    split at h
    ·obtain ⟨h0, h⟩ := h
     split at h
     ·rename_i p ob is hq
      exact ⟨d, _, ⟨hod, .inr (.inr ⟨hg, by rw [hod]; exact h0, p, ob, is, hq, h.1, rfl⟩)⟩, h.2⟩
     ·exact h.elim
    split at h
    case h_2 => exact h.elim
    case h_1 _ t ht =>
     split at h
     case h_2 => exact h.elim
     case h_1 _ e he =>
      obtain ⟨h0, h1, h2, h3, h4, h5, h6, h7⟩ := h
      refine ⟨d, _, ⟨hod, .inr (.inl ⟨hg, by rw [hod]; exact h0, ?_⟩)⟩, h7⟩
      rw [ho]
      simp only [ht, he]
      exact ⟨h1, h2, h3, h4, h5, h6, trivial⟩
   |makeSlice T l cc =>
    rw [ho] at h
    simp only at h
    split at h
    case h_2 => exact h.elim
    case h_1 _ _ _ t n m ht hl hc =>
     split at h
     case h_2 => exact h.elim
     case h_1 _ e he =>
      obtain ⟨h0, h1, h2, h3, h4, h5, h6, h7, h8, h9, h10⟩ := h
      refine ⟨d, _, ⟨hod, .inr (.inl ⟨hg, by rw [hod]; exact h0, ?_⟩)⟩, h10⟩
      rw [ho]
      simp only [ht, hl, hc, he]
      exact ⟨h1, h2, h3, h4, h5, h6, h7, h8, h9, trivial⟩
   |call c =>
    rw [ho] at h
    simp only at h
    cases hc : c.callee with
    |value x =>
     rw [hc] at h
     simp only at h
     split at h
     case h_2 => exact h.elim
     case h_1 _ f caps hf =>
      split at h
      case h_2 => exact h.elim
      case h_1 _ ctr hctr =>
       obtain ⟨h0, h1, h⟩ := h
       have hdl : ∀ {δ : Dl}, (match ctr.pure d ((st.argL c caps).map (SV.share st.hp)) with
         | (ob, res, robs) => ob ∧ (∀ y ∈ c.args.toList, (st.ev y).need) ∧ ((st.argL c caps).all fun y => (y.share st.hp).good) = true ∧ res.rok = true ∧ (res.kCo.all fun i => (robs.map (·.1)).contains i) = true ∧
          kBr (robs.map (·.1)) = true ∧ ((robs.map (·.1)).all fun i => decide (i < 1000000)) = true ∧ (robs.all fun p => p.2.pl) = true ∧
          (((st.argL c caps).flatMap SV.owns) = [] ∨ (res.isV2 = true ∧ ∀ p ∈ robs, p.2.isV)) ∧ δ = ⟨res, robs, []⟩) → st.dlt tys C N ops o d δ := fun {δ} hq => by
        refine ⟨hod, .inr (.inl ⟨hg, by rw [hod]; exact h0, ?_⟩)⟩
        rw [ho]
        simp only [hc, hf, hctr]
        exact ⟨h1, hq⟩
       obtain ⟨g1, g2, g3, g4, g5, g6, g7, g8, g9, g10⟩ := h
       have hq := hdl (δ := ⟨(ctr.pure d ((st.argL c caps).map (SV.share st.hp))).2.1, (ctr.pure d ((st.argL c caps).map (SV.share st.hp))).2.2, []⟩) ⟨g1, g2, g3, g4, g5, g6, g7, g8, g9, rfl⟩
       exact ⟨d, _, hq, g10⟩
    |invoke r q => rw [hc] at h; exact val h
    |builtin b =>
     rw [hc] at h
     cases b <;> first | exact val h | skip
     simp only at h
     split at h
     ·obtain ⟨h0, h⟩ := h
      split at h
      ·rename_i p ob is hq
       exact ⟨d, _, ⟨hod, .inr (.inr ⟨hg, by rw [hod]; exact h0, p, ob, is, hq, h.1, rfl⟩)⟩, h.2⟩
      ·exact h.elim
     split at h
     case h_2 => exact h.elim
     case h_1 _ _ x y T T' ha hAt =>
      split at h
      case h_2 => exact h.elim
      case h_1 _ _ t news ht hnr =>
       split at h
       case h_2 => exact h.elim
       case h_1 _ e he =>
        obtain ⟨h0, h1, h2, h3, h4, h5, h6, h7, h⟩ := h
        split at h
        case h_3 => exact h.elim
        case h_1 _ j hj =>
         split at h
         case h_2 => exact h.elim
         case h_1 _ e' s' rows hl =>
          obtain ⟨g1, g2, g3, g4, g5, g6, g7⟩ := h
          refine ⟨d, _, ⟨hod, .inr (.inl ⟨hg, by rw [hod]; exact h0, ?_⟩)⟩, g7⟩
          rw [ho]
          simp only [hc, ha, hAt, ht, hnr, he, hj, hl]
          exact ⟨h1, h2, h3, h4, h5, h6, h7, g1, g2, g3, g4, g5, g6, trivial⟩
        case h_2 _ hj =>
         obtain ⟨g5, g6, g7⟩ := h
         refine ⟨d, _, ⟨hod, .inr (.inl ⟨hg, by rw [hod]; exact h0, ?_⟩)⟩, g7⟩
         rw [ho]
         simp only [hc, ha, hAt, ht, hnr, he, hj]
         exact ⟨h1, h2, h3, h4, h5, h6, h7, g5, g6, trivial⟩
   | _ => rw [ho] at h; exact val h
def St.runG (tys : List (Nat × TyD)) (C : List (FuncId × Ctr)) (N : Nat) (ops : Array Oper) (fl : List Fp) (base : St) : List Oper → Nat → Acc → (Acc → Prop) → Prop
 | [], _, acc, K => K acc
 |o :: l, i, acc, K => (base.least acc (fpAt fl i)).dltK tys C N ops o fun d δ => ((fpAt fl i).lks.all fun t => (lk t (base.least acc (fpAt fl i)).fr).isSome) = true ∧ dlOk (fpAt fl i) δ ∧ St.runG tys C N ops fl base l (i + 1) (acc ++ [(i, d, δ)]) K
theorem kLo {tys : List (Nat × TyD)} {C : List (FuncId × Ctr)} {N : Nat} {ops : Array Oper} {fl : List Fp} {base : St} {K : Acc → Prop} : ∀ (l : List Oper) (i : Nat) (acc : Acc), St.runG tys C N ops fl base l i acc K → St.runF tys C N ops fl base l i acc K
 | [], _, _, h => h
 |o :: l, i, acc, h => by
  obtain ⟨d, δ, h1, h2, h3, h4⟩ := k1k h
  exact ⟨d, δ, h1, h2, h3, kLo l (i + 1) _ h4⟩
theorem WP.kAh {c : Cx} {N : Nat} {X0 : Nat → Prop} {M : Nat → BV → Prop} {w0 : World} {K : Exit → St → Prop} {id : Nat} {l : List Oper} {st : St} (m : Nat) (fl : List Fp) (ds mks gs : List Nat) (hB : kL9 l.toArray m fl = true)
  (hD : ((List.range m).all fun k => match kB8 l.toArray k with | some d => ds.contains d | none => false) = true)
  (hM : ((List.range m).all fun k => ((fpAt fl k).mks.all fun d => mks.contains d) && ((fpAt fl k).gn.all fun d => gs.contains d)) = true) (hm : c.P.follows .mixedOrders = true)
  (h : St.runG c.tys c.C N l.toArray fl (st.clean ds mks) (l.take m) 0 [] fun acc => St.runR c.tys c.C N l.toArray (l.drop m) ((st.clean ds mks).final acc gs) (K .normal)) : WP c N X0 M w0 (.region id l.toArray true) st K :=
 WP.flow m fl ds mks gs hB hD hM hm (kLo _ _ _ h)
end Go.Vc

namespace Go.Vc
attribute [go_sem] St.runR St.runW St.kGq offV St.step St.kHb St.stepG kB7 kD8 St.prK St.pr St.kH2 St.eff St.kKz St.kGr St.kEy St.kHc aI aS aR aC St.isM St.argL Ctr.pure Ctr.lend Ctr.move Ctr.isL Ctr.wri pur len kA0 St.kI2 St.kF5 nthS kCr kCq obsR pairs kDa kC3 kD5 St.resL erL SV.ren1 SV.up SV.up2 Ob.up St.fzL kGj kFo St.kGk SV.kI3 St.fz SV.fz1 St.prep St.mvL St.mv SV.re1 rnOk St.prEq vals kC4 scEq Value.kd St.kH1 St.kEr cutR St.bnd St.kGp St.bld kGh outL retL outJ oR oC SV.upq SV.isSl SV.shut St.kHa St.kJ6 St.kE7 absC Ob.pl St.ev St.get St.put St.new St.kill SV.kill SV.kBp Ob.kill St.app St.wrt St.rowsOf St.res St.kAt lk er kE8 SV.strip SV.need SV.share SV.share1 SV.owns SV.kBq SV.kCo SV.good SV.good1 SV.rok SV.rok1 SV.rok2 SV.isV SV.isV2 kBr SV.cells SV.one SV.pur Ob.pb kEb kEh splice kDt kAy kGo kI0 kGn kHr retK outK outs okC okL okA okT nilC nilL nilA nilT kE9 kHd keepA kEz St.runG St.dltK St.least St.clean St.final St.hide offK badS badO SV.refs SV.leaf SV.kI4 Ob.refs dlOk fpAt Go.Vc.cover tups SV.kF4 St.out outC subL St.has rng wr Value.oneCell' Option.isSome_some Option.isSome_none List.nil_append Bool.false_eq_true List.map_cons List.map_nil List.all_cons List.all_nil List.length_cons List.length_nil List.drop_zero List.drop_succ_cons List.take_succ_cons List.take_zero List.drop_nil List.take_nil List.getElem?_cons_zero List.getElem?_cons_succ List.getElem?_nil List.cons_append List.nil_append List.append_nil List.append_assoc List.flatMap_cons List.flatMap_nil List.contains_cons List.contains_nil List.set_cons_zero List.set_cons_succ List.getElem?_toArray Option.getD_some Option.getD_none Option.map_some Option.map_none Option.bind_some Option.some.injEq Prod.mk.injEq if_true if_false true_and and_true and_self and_false false_and Bool.and_false Bool.false_and Bool.or_true Bool.true_or Bool.or_false Bool.false_or ne_eq not_true_eq_false not_false_eq_true decide_true decide_false List.mem_cons List.not_mem_nil List.filter_cons List.filter_nil List.any_cons List.any_nil List.isEmpty_nil List.isEmpty_cons Option.getD_none or_false false_or true_or or_true forall_eq_or_imp forall_eq reduceCtorEq exists_eq exists_eq' exists_eq_left' exists_eq_left exists_eq_right exists_eq_right' imp_self implies_true Bool.and_true Bool.true_and Bool.and_self beq_self_eq_true List.replicate_succ List.replicate_zero forall_const false_implies kG0 kF2 beqT beqF Int.toNat_natCast List.length_map List.length_replicate ge_iff_le gt_iff_lt decide_eq_true_eq decide_eq_false_iff_not Bool.and_eq_true Bool.or_eq_true Bool.not_eq_true' Bool.not_eq_false' kJ7 List.toList_toArray Bool.or_eq_false_iff Bool.and_eq_false_iff Int.not_lt Int.not_le beq_iff_eq beq_eq_false_iff_ne bne_iff_ne bne_eq_false_iff_eq ne_eq Bool.not_true Bool.not_false exists_and_left
attribute [go_sem] Nat.reduceAdd Nat.reduceLT Nat.reduceLeDiff Nat.reduceEqDiff Nat.reduceMul Nat.reduceSub Nat.reduceGT reduceIte Int.reduceNeg Int.reduceToNat
end Go.Vc

