/-
  DERIVED. What each operation does to the state of VcA, and that the model's run does that.
-/
import Derived.Test.YtdbjioanlkilkaaVcA
import Derived.Laws.StructEq
namespace Go.Vc
set_option linter.unusedVariables false

structure TyD where
  kind : Nat := 0
  size : Nat := 1
  bytes : Nat := 8
  z : List Value := []
  elem : Nat := 0
  offs : List (Nat × Nat) := []
  ik : Option IntKind := none
  eqs : List Nat := []

/-! ## '==' of structs -/

/-- the kinds of a comparable type's cells: 5 a bool, 4 an integer, 2 a string -/
def eqSh (P : Program) : Nat → TypeId → Option (List Nat)
  | 0, _ => none
  | d + 1, t => match P.underlying t with
    | some .bool => some [5]
    | some (.int _) => some [4]
    | some .string => some [2]
    | some (.struct fs) => if P.stoodInHeld t then none else
        fs.toList.foldlM (fun acc f => if f.name = "_" ∨ f.offset ≠ acc.length then none else match eqSh P d f.type with
          | some sh => if (P.info? f.type).map (·.size) = some sh.length then some (acc ++ sh) else none
          | none => none) []
    | _ => none
def Value.kd : Value → Nat
  | .bool _ => 5
  | .int _ _ => 4
  | .string _ => 2
  | _ => 0
def scEq : Value → Value → Option Bool
  | .int k a, .int k' b => if k = k' then some (a == b) else none
  | .string a, .string b => some (decide (a = b))
  | .bool a, .bool b => some (a == b)
  | _, _ => none
def eqCells : List Value → List Value → Option Bool
  | [], [] => some true
  | x :: xs, y :: ys => match scEq x y, eqCells xs ys with
    | some a, some b => some (a && b)
    | _, _ => none
  | _, _ => none
def aggOf (P : Program) (t : TypeId) (l : List Value) : Value := match P.underlying t with
  | some (.struct _) => .agg l.toArray
  | _ => l.headD undef

theorem eqCells_append : ∀ {a1 b1 a2 b2 : List Value} {r : Bool}, a1.length = b1.length → eqCells (a1 ++ a2) (b1 ++ b2) = some r → ∃ r1 r2, eqCells a1 b1 = some r1 ∧ eqCells a2 b2 = some r2 ∧ r = (r1 && r2)
  | [], [], a2, b2, r, _, h => ⟨true, r, rfl, h, by simp⟩
  | x :: a1, y :: b1, a2, b2, r, hl, h => by
    simp only [List.cons_append, eqCells] at h
    split at h
    · rename_i a b h1 h2
      cases h
      obtain ⟨r1, r2, h3, h4, h5⟩ := eqCells_append (by simpa using hl) h2
      exact ⟨a && r1, r2, by simp [eqCells, h1, h3], h4, by rw [h5, Bool.and_assoc]⟩
    · cases h
theorem eqCells_len : ∀ {a b : List Value} {r : Bool}, eqCells a b = some r → a.length = b.length
  | [], [], _, _ => rfl
  | x :: a, y :: b, r, h => by
    simp only [eqCells] at h
    split at h
    · rename_i p q h1 h2; simp [eqCells_len h2]
    · cases h
  | [], _ :: _, _, h => by cases h
  | _ :: _, [], _, h => by cases h

def TypeDesc.flat : TypeDesc → Bool
  | .struct _ => false
  | .array _ _ => false
  | _ => true

theorem part_ok {P : Program} {d : Nat} {t : TypeId} {sh : List Nat} (ht : eqSh P d t = some sh) (hi : (P.info? t).map (·.size) = some sh.length) {pre l post : List Value} (hl : l.length = sh.length) (w : World) :
    (part t (pre ++ l ++ post).toArray pre.length).run P w = .ok (aggOf P t l) w := by
  cases d with
  | zero => cases ht
  | succ d =>
    have one : ∀ {k : Nat}, sh = [k] → ∃ x, l = [x] := fun {k} e => by
      subst e
      match l, hl with
      | [x], _ => exact ⟨x, rfl⟩
    have sc : ∀ {ty : TypeDesc}, P.underlying t = some ty → TypeDesc.flat ty = true → (∃ k, sh = [k]) → (isAgg t).run P w = .ok false w → (part t (pre ++ l ++ post).toArray pre.length).run P w = .ok (aggOf P t l) w := fun {ty} hu hn ⟨k, hk⟩ ha => by
      obtain ⟨x, rfl⟩ := one hk
      have hg : (pre ++ [x] ++ post).toArray[pre.length]? = some x := by simp
      have hag : aggOf P t [x] = x := by
        unfold aggOf
        rw [hu]
        cases ty <;> first | rfl | (cases hn)
      rw [hag]
      simp only [part, Sem.run_bind, ha, Result.andThen_ok, Bool.false_eq_true, if_false, hg, Sem.run_pure]
    unfold eqSh at ht
    split at ht
    · rename_i hu; exact sc hu rfl ⟨5, by simpa using ht.symm⟩ (by simp [isAgg, run_underlying hu])
    · rename_i hu; exact sc hu rfl ⟨4, by simpa using ht.symm⟩ (by simp [isAgg, run_underlying hu])
    · rename_i hu; exact sc hu rfl ⟨2, by simpa using ht.symm⟩ (by simp [isAgg, run_underlying hu])
    · rename_i fs hu
      cases hii : P.info? t with
      | none => rw [hii] at hi; cases hi
      | some i =>
        rw [hii] at hi
        have hsz : i.size = sh.length := by simpa using hi
        have hag : aggOf P t l = .agg l.toArray := by unfold aggOf; rw [hu]
        rw [hag]
        have he : (pre ++ l ++ post).toArray.extract pre.length (pre.length + sh.length) = l.toArray := by
          apply Array.toList_inj.1
          rw [Array.toList_extract]
          simp [List.extract, ← hl]
        simp [part, isAgg, run_underlying hu, sizeOf, typeInfo, hii, hsz]
        simpa using he
    · cases ht

theorem eqSh_ok (P : Program) : ∀ (d : Nat) (t : TypeId) (sh : List Nat), eqSh P d t = some sh → ∀ (d' : Nat), d ≤ d' → ∀ (w : World) (l1 l2 : List Value) (r : Bool), l1.map Value.kd = sh → l2.map Value.kd = sh → eqCells l1 l2 = some r →
    (Op.equalIn d' t (aggOf P t l1) (aggOf P t l2)).run P w = .ok r w
  | 0, _, _, h => by cases h
  | d + 1, t, sh, h => by
    intro d' hd w l1 l2 r h1 h2 he
    obtain ⟨d', rfl⟩ : ∃ e, d' = e + 1 := ⟨d' - 1, by omega⟩
    have one : ∀ {k : Nat} {l : List Value}, l.map Value.kd = [k] → ∃ x, l = [x] ∧ Value.kd x = k := fun {k l} e => by
      match l, e with
      | [x], e => exact ⟨x, rfl, by simpa using e⟩
    unfold eqSh at h
    split at h
    · rename_i hu
      cases h
      obtain ⟨x, rfl, hx⟩ := one h1
      obtain ⟨y, rfl, hy⟩ := one h2
      cases x <;> cases hx
      cases y <;> cases hy
      simp only [eqCells, scEq, Bool.and_true, Option.some.injEq] at he
      subst he
      simp [aggOf, hu, Op.equalIn, run_underlying hu]
    · rename_i hu
      cases h
      obtain ⟨x, rfl, hx⟩ := one h1
      obtain ⟨y, rfl, hy⟩ := one h2
      cases x <;> cases hx
      cases y <;> cases hy
      simp only [eqCells, scEq] at he
      split at he
      · rename_i e1 e2
        split at e1
        · rename_i hk
          cases e1; cases e2; cases he
          subst hk
          simp [aggOf, hu, Op.equalIn, run_underlying hu]
        · cases e1
      · cases he
    · rename_i hu
      cases h
      obtain ⟨x, rfl, hx⟩ := one h1
      obtain ⟨y, rfl, hy⟩ := one h2
      cases x <;> cases hx
      cases y <;> cases hy
      simp only [eqCells, scEq, Bool.and_true, Option.some.injEq] at he
      subst he
      simp [aggOf, hu, Op.equalIn, run_underlying hu, beq_toListBytes, ByteArray.toList_eq]
      rename_i a b
      rw [Bool.eq_iff_iff]
      simp only [beq_iff_eq, decide_eq_true_eq]
      exact ⟨fun e => ByteArray.ext e, fun e => by rw [e]⟩
    · rename_i fs hu
      split at h
      · cases h
      · rename_i hst
        have hst' : P.stoodInHeld t = false := by simpa using hst
        have hf : P.fieldsOf t = fs := by unfold Program.fieldsOf; rw [hu]
        have ha : ∀ l, aggOf P t l = .agg l.toArray := fun l => by unfold aggOf; rw [hu]
        rw [ha, ha, run_equalIn_struct w d' t _ _ (by rw [hf]; exact hu) hst', hf]
        have key : ∀ (L : List Field) (acc : List Nat) (p1 q1 p2 q2 : List Value) (r : Bool), L.foldlM (fun acc f => if f.name = "_" ∨ f.offset ≠ acc.length then none else match eqSh P d f.type with
            | some sh => if (P.info? f.type).map (·.size) = some sh.length then some (acc ++ sh) else none
            | none => none) acc = some sh → (p1 ++ q1).map Value.kd = sh → (p2 ++ q2).map Value.kd = sh → p1.length = acc.length → p2.length = acc.length → eqCells q1 q2 = some r →
            (Op.eqFields d' (p1 ++ q1).toArray (p2 ++ q2).toArray L).run P w = .ok r w := by
          intro L
          induction L with
          | nil =>
            intro acc p1 q1 p2 q2 r hL k1 k2 hp1 hp2 hq
            simp only [List.foldlM_nil, pure, Option.some.injEq] at hL
            have e1 : q1 = [] := List.eq_nil_of_length_eq_zero (by have := congrArg List.length k1; rw [← hL] at this; simp at this; omega)
            have e2 : q2 = [] := List.eq_nil_of_length_eq_zero (by have := congrArg List.length k2; rw [← hL] at this; simp at this; omega)
            subst e1 e2
            cases hq
            simp [Op.eqFields]
          | cons f L ih =>
            intro acc p1 q1 p2 q2 r hL k1 k2 hp1 hp2 hq
            simp only [List.foldlM_cons] at hL
            split at hL
            · cases hL
            · rename_i hn
              simp only [not_or, ne_eq, Decidable.not_not] at hn
              cases hs : eqSh P d f.type with
              | none => rw [hs] at hL; cases hL
              | some s =>
                rw [hs] at hL
                simp only at hL
                split at hL
                · rename_i hsz
                  have hL' : L.foldlM (fun acc f => if f.name = "_" ∨ f.offset ≠ acc.length then none else match eqSh P d f.type with
                    | some sh => if (P.info? f.type).map (·.size) = some sh.length then some (acc ++ sh) else none
                    | none => none) (acc ++ s) = some sh := hL
                  -- the shape goes on from acc ++ s
                  have hpre : ∀ (L : List Field) (acc : List Nat), L.foldlM (fun acc f => if f.name = "_" ∨ f.offset ≠ acc.length then none else match eqSh P d f.type with
                    | some sh => if (P.info? f.type).map (·.size) = some sh.length then some (acc ++ sh) else none
                    | none => none) acc = some sh → ∃ rest, sh = acc ++ rest := by
                    intro L
                    induction L with
                    | nil => intro acc h; simp only [List.foldlM_nil, pure, Option.some.injEq] at h; exact ⟨[], by simp [h]⟩
                    | cons f L ih =>
                      intro acc h
                      simp only [List.foldlM_cons] at h
                      split at h
                      · cases h
                      · cases hs : eqSh P d f.type with
                        | none => rw [hs] at h; cases h
                        | some s =>
                          rw [hs] at h
                          simp only at h
                          split at h
                          · obtain ⟨rest, hr⟩ := ih (acc ++ s) h
                            exact ⟨s ++ rest, by rw [hr, List.append_assoc]⟩
                          · cases h
                  obtain ⟨rest, hrest⟩ := hpre L (acc ++ s) hL'
                  have m1 : p1.map Value.kd = acc ∧ q1.map Value.kd = s ++ rest := by
                    rw [List.map_append, hrest, List.append_assoc] at k1
                    exact List.append_inj k1 (by simpa using hp1)
                  have m2 : p2.map Value.kd = acc ∧ q2.map Value.kd = s ++ rest := by
                    rw [List.map_append, hrest, List.append_assoc] at k2
                    exact List.append_inj k2 (by simpa using hp2)
                  have t1 : q1 = q1.take s.length ++ q1.drop s.length := (List.take_append_drop _ _).symm
                  have t2 : q2 = q2.take s.length ++ q2.drop s.length := (List.take_append_drop _ _).symm
                  have ln1 : q1.length = s.length + rest.length := by have := congrArg List.length m1.2; simpa using this
                  have ln2 : q2.length = s.length + rest.length := by have := congrArg List.length m2.2; simpa using this
                  have c1 : (q1.take s.length).length = s.length := by simp; omega
                  have c2 : (q2.take s.length).length = s.length := by simp; omega
                  have v1 : (q1.take s.length).map Value.kd = s := by rw [List.map_take, m1.2]; simp
                  have v2 : (q2.take s.length).map Value.kd = s := by rw [List.map_take, m2.2]; simp
                  rw [t1, t2] at hq
                  obtain ⟨r1, r2, g1, g2, rfl⟩ := eqCells_append (by rw [c1, c2]) hq
                  have b1 := part_ok hs hsz (pre := p1) (l := q1.take s.length) (post := q1.drop s.length) c1 w
                  have b2 := part_ok hs hsz (pre := p2) (l := q2.take s.length) (post := q2.drop s.length) c2 w
                  rw [List.append_assoc, ← t1, hp1, ← hn.2] at b1
                  rw [List.append_assoc, ← t2, hp2, ← hn.2] at b2
                  have b3 := eqSh_ok P d f.type s hs d' (by omega) w _ _ r1 v1 v2 g1
                  have b4 := ih (acc ++ s) (p1 ++ q1.take s.length) (q1.drop s.length) (p2 ++ q2.take s.length) (q2.drop s.length) r2 hL' (by rw [List.append_assoc, ← t1]; exact k1) (by rw [List.append_assoc, ← t2]; exact k2)
                    (by simp only [List.length_append, c1, hp1]) (by simp only [List.length_append, c2, hp2]) g2
                  rw [List.append_assoc, ← t1, List.append_assoc, ← t2] at b4
                  simp only [Op.eqFields, hn.1, ne_eq, not_false_eq_true, if_true, Sem.run_bind, b1, b2, b3, Result.andThen_ok]
                  cases r1
                  · simp
                  · simpa using b4
                · cases hL
        exact key fs.toList [] [] l1 [] l2 r h h1 h2 rfl rfl he
    · cases h

/-- kind: 1 a slice, 2 a string, 3 a struct, 4 an integer type, 0 any other -/
structure TyOk (P : Program) (T : Nat) (d : TyD) : Prop where
  info : (P.info? T).map (fun i => (i.size, i.bytes, i.zero.map (·.cells.toList))) = some (d.size, d.bytes, some d.z)
  und : match d.kind with
    | 3 => (match P.underlying T with | some (.struct fs) => some (fs.toList.map fun f => (f.offset, ((P.info? f.type).map (·.size)).getD 0)) | _ => none) = some d.offs
    | 1 => P.underlying T = some (.slice d.elem)
    | 2 => P.underlying T = some .string
    | 4 => (match d.ik with | some k => P.underlying T = some (.int k) | none => False)
    | 5 => P.underlying T = some .bool
    | _ => (P.underlying T).map TypeDesc.flat = some true
  one : d.kind ≠ 3 → 0 < d.size
  cmp : d.eqs = [] ∨ (eqSh P 6 T = some d.eqs ∧ P.eqGuardType P.depth T = false ∧ d.kind = 3)

def SV.strip : SV → SV
  | .cond _ x => x
  | x => x
def SV.need : SV → Prop
  | .cond g _ => g = true
  | _ => True

def St.ev (st : St) : Operand → SV
  | .tmp t => st.get t
  | .const x => .v x
  | .func f => .fn f []
  | .global _ => .junk

/-- the result of an operation on two scalars, and what it asks -/
def wr (k : IntKind) (n : Int) : Int := match k with
  | .i64 => n
  | k => k.wrap n
def rng (k : IntKind) (n : Int) : Prop := match k with
  | .i64 => -9223372036854775808 ≤ n ∧ n ≤ 9223372036854775807
  | _ => True

theorem wr_ok {k : IntKind} {n : Int} (h : rng k n) : k.wrap n = wr k n := by
  cases k <;> first | rfl | (simp only [rng] at h; simp only [wr]; exact IntWalk.i64_in _ ⟨by omega, by omega⟩)

def bitAnd (k : IntKind) (a b : Int) : Int := k.wrap (BitVec.ofInt k.bits a &&& BitVec.ofInt k.bits b).toNat
def bitOr (k : IntKind) (a b : Int) : Int := k.wrap (BitVec.ofInt k.bits a ||| BitVec.ofInt k.bits b).toNat
def bitXor (k : IntKind) (a b : Int) : Int := k.wrap (BitVec.ofInt k.bits a ^^^ BitVec.ofInt k.bits b).toNat
def shL (k : IntKind) (a b : Int) : Int := k.wrap (a * 2 ^ min b.toNat k.bits)
def shR (k : IntKind) (a b : Int) : Int := a.fdiv (2 ^ min b.toNat k.bits)
def isShift : BinOp → Bool
  | .shl => true
  | .shr => true
  | _ => false
def scal2 (bl : Bool) (op : BinOp) : Value → Value → Option (Prop × Value)
  | .int k a, .int k' b => if isShift op = true then
    match op with
    | .shl => some (0 ≤ b, .int k (shL k a b))
    | .shr => some (0 ≤ b, .int k (shR k a b))
    | _ => none
    else if k = k' then
    match op with
    | .and => some (True, .int k (bitAnd k a b))
    | .or => some (True, .int k (bitOr k a b))
    | .xor => some (True, .int k (bitXor k a b))
    | .add => some (rng k (a + b), .int k (wr k (a + b)))
    | .sub => some (rng k (a - b), .int k (wr k (a - b)))
    | .mul => some (rng k (a * b), .int k (wr k (a * b)))
    | .quo => some (b ≠ 0 ∧ rng k (a.tdiv b), .int k (wr k (a.tdiv b)))
    | .rem => some (b ≠ 0, .int k (a.tmod b))
    | .eql => some (True, .bool (a == b))
    | .neq => some (True, .bool (a != b))
    | .lss => some (True, .bool (decide (a < b)))
    | .leq => some (True, .bool (decide (a ≤ b)))
    | .gtr => some (True, .bool (decide (a > b)))
    | .geq => some (True, .bool (decide (a ≥ b)))
    | _ => none
    else none
  | .string a, .string b =>
    match op with
    | .add => some ((((a.size + b.size : Nat) : Int) ≤ 9223372036854775807), .string (a ++ b))
    | .eql => some (True, .bool (decide (a = b)))
    | .neq => some (True, .bool (!decide (a = b)))
    | .lss => some (True, .bool (Op.bytesLess a.toList b.toList))
    | .leq => some (True, .bool (Op.bytesLess a.toList b.toList || decide (a = b)))
    | .gtr => some (True, .bool !(Op.bytesLess a.toList b.toList || decide (a = b)))
    | .geq => some (True, .bool !(Op.bytesLess a.toList b.toList))
    | _ => none
  | .bool a, .bool b =>
    match bl, op with
    | true, .eql => some (True, .bool (a == b))
    | true, .neq => some (True, .bool (a != b))
    | _, _ => none
  | _, _ => none

theorem toList_eq (a b : ByteArray) : (a.toList == b.toList) = decide (a = b) := by
  rw [Bool.eq_iff_iff]
  simp only [beq_iff_eq, decide_eq_true_eq]
  constructor
  · intro h
    rw [ByteArray.toList_eq, ByteArray.toList_eq] at h
    exact ByteArray.ext (Array.toList_inj.1 h)
  · rintro rfl; rfl

theorem scal2_sound {P : Program} {T : Nat} {bl : Bool} (hbl : bl = true → P.underlying T = some .bool) {op : BinOp} {x y r : Value} {p : Prop} (h : scal2 bl op x y = some (p, r)) (hp : p) (ox oy : Operand) (w : World) :
    (do eqGuard op T ox oy x y; binOp op T x y : Sem Value).run P w = .ok r w := by
  cases x <;> cases y <;> try (simp [scal2] at h; done)
  case int.int k a k' b =>
    simp only [scal2] at h
    by_cases hsh : isShift op = true
    · rw [if_pos hsh] at h
      cases op <;> simp only [Option.some.injEq, Prod.mk.injEq, reduceCtorEq] at h <;> obtain ⟨rfl, rfl⟩ := h <;> simp [eqGuard, binOp, Op.shift, show ¬ b < 0 from Int.not_lt.2 hp, shL, shR]
    rw [if_neg hsh] at h
    have hsh2 : op ≠ .shl ∧ op ≠ .shr := ⟨fun e => hsh (by rw [e]; rfl), fun e => hsh (by rw [e]; rfl)⟩
    by_cases hk : k = k'
    · subst hk
      rw [if_pos rfl] at h
      cases op <;> simp only [Option.some.injEq, Prod.mk.injEq, reduceCtorEq] at h <;> obtain ⟨rfl, rfl⟩ := h <;> simp [eqGuard, binOp, Op.intArith, Op.intDiv, Op.intCmp, Op.intBits, bitAnd, bitOr, bitXor]
      · exact wr_ok hp
      · exact wr_ok hp
      · exact wr_ok hp
      · rw [if_neg hp.1]; simp [wr_ok hp.2]
      · exact fun e => absurd e hp
    · rw [if_neg hk] at h; cases h
  case string.string a b =>
    simp only [scal2] at h
    cases op <;> simp only [Option.some.injEq, Prod.mk.injEq, reduceCtorEq] at h <;> obtain ⟨rfl, rfl⟩ := h <;> simp [eqGuard, binOp, Op.stringOp, toList_eq]
    · omega
  case bool.bool a b =>
    simp only [scal2] at h
    cases bl with
    | false => cases h
    | true =>
      have hu := hbl rfl
      have he : ∀ w, (Op.equalIn 10000 T (.bool a) (.bool b)).run P w = .ok (a == b) w := fun w => run_equalIn_bool w 9999 T a b hu
      cases op <;> simp only [Option.some.injEq, Prod.mk.injEq, reduceCtorEq] at h <;> obtain ⟨rfl, rfl⟩ := h <;>
        simp [eqGuard, binOp, Op.equal, Op.maxDepth, he]
      cases a <;> cases b <;> rfl

/-! ## Operations that yield a value and leave all else alone -/

def scal1 (op : UnOp) : Value → Option (Prop × Value)
  | .bool b => match op with | .not => some (True, .bool !b) | _ => none
  | .int k n => match op with | .neg => some (rng k (0 - n), .int k (wr k (0 - n))) | _ => none
  | _ => none

theorem scal1_sound {P : Program} {op : UnOp} {x r : Value} {p : Prop} (h : scal1 op x = some (p, r)) (hp : p) (w : World) : (Op.unary op x).run P w = .ok r w := by
  cases x <;> simp only [scal1, reduceCtorEq] at h
  · cases op <;> simp only [Option.some.injEq, Prod.mk.injEq, reduceCtorEq] at h
    obtain ⟨rfl, rfl⟩ := h
    simp [Op.unary]
  · cases op <;> simp only [Option.some.injEq, Prod.mk.injEq, reduceCtorEq] at h
    obtain ⟨rfl, rfl⟩ := h
    have hw := wr_ok hp
    simp only [Int.zero_sub] at hw ⊢
    simp [Op.unary, Op.intArith, hw]

def pickB (c p q : Bool) : Bool := if c then p else q
theorem pickB_or (c q : Bool) : pickB c true q = (c || q) := by cases c <;> rfl
theorem pickB_and (c p : Bool) : pickB c p false = (c && p) := by cases c <;> rfl

def rowAt (rows : List (List SV)) (i : Nat) : List SV := (rows[i]?).getD []
def cellsAt (kind size : Nat) (row : List SV) (k : Nat) : SV := if kind = 3 then .agg ((row.drop k).take size) else (row[k]?).getD .junk

/-! ## cells of a value -/

def SV.cells : SV → List SV
  | .agg cs => cs
  | .v (.agg us) => us.toList.map .v
  | x => [x]
/-- one cell that a variable may hold -/
def SV.one : SV → Bool
  | .v x => x.oneCell'
  | .sl _ _ => true
  | .own _ => true
  | .ptr _ _ _ _ => true
  | .rptr _ _ _ _ => true
  | .fn _ _ => true
  | _ => false
/-- one cell that a row may hold -/
def SV.pur : SV → Bool
  | .v x => x.oneCell'
  | .sl _ _ => true
  | _ => false
def splice (cs : List SV) (k : Nat) (new : List SV) : List SV := cs.take k ++ new ++ cs.drop (k + new.length)
def SV.ofAgg : SV → Option (List SV)
  | .agg cs => some cs
  | .v (.agg us) => some (us.toList.map .v)
  | _ => none
def St.rowsOf (st : St) : SV → Option (List (List SV))
  | .sl _ rows => some rows
  | .own m => match lk m st.hp with
    | some (.sl _ _ rows) => some rows
    | _ => none
  | .v (.slice none 0 0) => some []
  | _ => none
/-- the values of cells that hold scalars -/
def vals : List SV → Option (List Value)
  | [] => some []
  | .v x :: l => (vals l).map (x :: ·)
  | _ => none
def St.prEq (tys : List (Nat × TyD)) (st : St) (op : BinOp) (T : Nat) (x y : Operand) : Option (Prop × SV) :=
  match lk T tys, (st.ev x).strip.ofAgg, (st.ev y).strip.ofAgg with
  | some d, some cs, some ds => match vals cs, vals ds with
    | some a, some b => match eqCells a b, op with
      | some r, .eql => some ((st.ev x).need ∧ (st.ev y).need ∧ d.eqs ≠ [] ∧ a.map Value.kd = d.eqs ∧ b.map Value.kd = d.eqs, .v (.bool r))
      | some r, .neq => some ((st.ev x).need ∧ (st.ev y).need ∧ d.eqs ≠ [] ∧ a.map Value.kd = d.eqs ∧ b.map Value.kd = d.eqs, .v (.bool !r))
      | _, _ => none
    | _, _ => none
  | _, _, _ => none
def byteOf : List SV → UInt8
  | [.v (.int _ n)] => UInt8.ofNat n.toNat
  | _ => 0
def strOf (rows : List (List SV)) : ByteArray := ⟨(rows.map byteOf).toArray⟩
def isByte (row : List SV) : Prop := ∃ n, row = [.v (.int .u8 n)]
def St.prStr (tys : List (Nat × TyD)) (st : St) (e d : TyD) (x : Operand) : Option (Prop × SV) :=
  match st.rowsOf (st.ev x).strip with
  | some rows => if e.kind = 1 ∧ d.kind = 2 then some ((st.ev x).need ∧ (lk e.elem tys).map (fun q => (q.kind, q.ik, q.size)) = some (4, some .u8, 1) ∧ ∀ row ∈ rows, isByte row, .v (.string (strOf rows))) else none
  | none => none
def cutR (rows : List (List SV)) : Option Int → Option Int → List (List SV)
  | none, none => rows
  | some a, none => rows.drop a.toNat
  | none, some b => rows.take b.toNat
  | some a, some b => (rows.take b.toNat).drop a.toNat
def St.bnd (st : St) : Option Operand → Option (Prop × Option Int)
  | none => some (True, none)
  | some o => match (st.ev o).strip with
    | .v (.int .i64 n) => some ((st.ev o).need, some n)
    | _ => none
def St.prCut (tys : List (Nat × TyD)) (st : St) (T : Nat) (x : Operand) (lo hi : Option Operand) : Option (Prop × SV) :=
  match lk T tys, (st.ev x).strip with
  | some d, .sl s rows => match st.bnd lo, st.bnd hi with
    | some (p, a), some (q, b) => if d.kind = 1 then some ((st.ev x).need ∧ p ∧ q ∧ (lk d.elem tys).map (·.size) = some s ∧ 0 ≤ a.getD 0 ∧ a.getD 0 ≤ b.getD rows.length ∧ b.getD rows.length ≤ (rows.length : Int), .sl s (cutR rows a b)) else none
    | _, _ => none
  | _, _ => none
def St.prMin (st : St) (mx : Bool) (x y : Operand) : Option (Prop × SV) :=
  match (st.ev x).strip, (st.ev y).strip with
  | .v (.int .i64 a), .v (.int .i64 b) => some ((st.ev x).need ∧ (st.ev y).need, .v (.int .i64 (if mx then (if a < b then b else a) else (if b < a then b else a))))
  | _, _ => none
def St.bld (st : St) (offs : List (Nat × Nat)) : List (Nat × Operand) → List SV → Option (Prop × List SV)
  | [], cs => some (True, cs)
  | (f, x) :: l, cs => match offs[f]? with
    | some o => match st.bld offs l (splice cs o.1 (st.ev x).strip.cells) with
      | some (p, r) => some ((st.ev x).need ∧ (st.ev x).strip.cells.length = o.2 ∧ o.1 + o.2 ≤ cs.length ∧ (st.ev x).strip.cells.all SV.one = true ∧ p, r)
      | none => none
    | none => none

def SV.isPtr : SV → Bool
  | .ptr _ _ _ _ => true
  | .rptr _ _ _ _ => true
  | .fn _ _ => true
  | _ => false

/-- what may be read of a cell of an open row -/
def SV.shut : SV → SV
  | .sl _ _ => .junk
  | x => x
def St.prLen (tys : List (Nat × TyD)) (st : St) (T : Nat) (x : Operand) : Option (Prop × SV) :=
  match lk T tys, (st.ev x).strip with
  | some d, .v (.string s) => if d.kind = 2 then some ((st.ev x).need, .v (.int .i64 s.size)) else none
  | some d, .v (.slice none 0 0) => if d.kind = 1 then some ((st.ev x).need, .v (.int .i64 0)) else none
  | some d, .sl _ rows => if d.kind = 1 then some ((st.ev x).need, .v (.int .i64 rows.length)) else none
  | some d, .own id => if d.kind = 1 then (match lk id st.hp with
    | some (.sl _ _ rows) => some ((st.ev x).need, .v (.int .i64 rows.length))
    | some (.dp _ _ rows) => some ((st.ev x).need, .v (.int .i64 rows.length))
    | some (.dq _ _ rows _ _) => some ((st.ev x).need, .v (.int .i64 rows.length))
    | _ => none) else none
  | _, _ => none

/-- what an operation asks, and what it yields; 'none': not one of these -/
def St.pr (tys : List (Nat × TyD)) (st : St) : Op → Option (Prop × SV)
  | .move x => some (True, st.ev x)
  | .assign x => some (True, st.ev x)
  | .pick c a b => match (st.ev c).strip, (st.ev a).strip, (st.ev b).strip with
    | .v (.bool cv), .v (.bool p), .v (.bool q) => some ((st.ev c).need ∧ (cv = true → (st.ev a).need) ∧ (cv = false → (st.ev b).need), .v (.bool (pickB cv p q)))
    | _, _, _ => none
  | .binOp op T x y _ => match (st.ev x).strip, (st.ev y).strip with
    | .v a, .v b => match scal2 (((lk T tys).map (·.kind)) == some 5) op a b with
      | some (p, r) => some ((st.ev x).need ∧ (st.ev y).need ∧ p, .v r)
      | none => st.prEq tys op T x y
    | _, _ => st.prEq tys op T x y
  | .unOp op _ x => match (st.ev x).strip with
    | .v a => match scal1 op a with
      | some (p, r) => some ((st.ev x).need ∧ p, .v r)
      | none => none
    | _ => none
  | .nilCheck x => match (st.ev x).strip with
    | .ptr id s i k => some ((st.ev x).need, .ptr id s i k)
    | .rptr s rows i k => some ((st.ev x).need, .rptr s rows i k)
    | _ => none
  | .fieldAddr T x f => match lk T tys, (st.ev x).strip with
    | some d, .ptr id s i k => if d.kind = 3 then (match d.offs[f]? with | some o => some ((st.ev x).need ∧ o.2 ≠ 0, .ptr id s i (k + o.1)) | none => none) else none
    | some d, .rptr s rows i k => if d.kind = 3 then (match d.offs[f]? with | some o => some ((st.ev x).need ∧ o.2 ≠ 0, .rptr s rows i (k + o.1)) | none => none) else none
    | _, _ => none
  | .indexAddr T x ix => match lk T tys, (st.ev x).strip, (st.ev ix).strip with
    | some d, .sl s rows, .v (.int .i64 n) => if d.kind = 1 then some ((st.ev x).need ∧ (st.ev ix).need ∧ (lk d.elem tys).map (·.size) = some s ∧ 0 ≤ n ∧ n < (rows.length : Int), .rptr s rows n.toNat 0) else none
    | some d, .own id, .v (.int .i64 n) => if d.kind = 1 then (match lk id st.hp with
      | some (.sl _ s rows) => some ((st.ev x).need ∧ (st.ev ix).need ∧ (lk d.elem tys).map (·.size) = some s ∧ 0 ≤ n ∧ n < (rows.length : Int), .ptr id s n.toNat 0)
      | some (.dp _ s rows) => some ((st.ev x).need ∧ (st.ev ix).need ∧ (lk d.elem tys).map (·.size) = some s ∧ 0 ≤ n ∧ n < (rows.length : Int), .ptr id s n.toNat 0)
      | some (.dq _ s rows _ _) => some ((st.ev x).need ∧ (st.ev ix).need ∧ (lk d.elem tys).map (·.size) = some s ∧ 0 ≤ n ∧ n < (rows.length : Int), .ptr id s n.toNat 0)
      | _ => none) else none
    | _, _, _ => none
  | .load T x => match lk T tys, (st.ev x).strip with
    | some d, .ptr id s i k => match lk id st.hp with
      | some (.box _ cs) => some ((st.ev x).need ∧ i = 0 ∧ k + d.size ≤ cs.length, cellsAt d.kind d.size cs k)
      | some (.sl _ s' rows) => some ((st.ev x).need ∧ s = s' ∧ i < rows.length ∧ k + d.size ≤ s, cellsAt d.kind d.size (rowAt rows i) k)
      | some (.dq _ s' _ i0 row0) => some ((st.ev x).need ∧ s = s' ∧ i = i0 ∧ k + d.size ≤ s, cellsAt d.kind d.size (row0.map SV.shut) k)
      | _ => none
    | some d, .rptr s rows i k => some ((st.ev x).need ∧ i < rows.length ∧ k + d.size ≤ s, cellsAt d.kind d.size (rowAt rows i) k)
    | _, _ => none
  | .index T x ix => match lk T tys, (st.ev x).strip, (st.ev ix).strip with
    | some d, .v (.string s), .v (.int .i64 n) => if d.kind = 2 then some ((st.ev x).need ∧ (st.ev ix).need ∧ 0 ≤ n ∧ n < (s.size : Int), .v (.int .u8 (s[n.toNat]!).toNat)) else none
    | _, _, _ => none
  | .extract x i => match (st.ev x).strip with
    | .tup cs => match cs[i]? with
      | some c => some ((st.ev x).need, c)
      | none => none
    | _ => none
  | .makeFunc (.func f) first caps => if first = #[] then some (∀ c ∈ caps.toList, (st.ev c).need, .fn f (caps.toList.map fun c => (st.ev c).strip)) else none
  | .convert S T x => match lk S tys, lk T tys, (st.ev x).strip with
    | some e, some d, .v (.int _ n) => if e.kind = 4 ∧ d.kind = 4 then (match d.ik with
      | some k' => some ((st.ev x).need ∧ rng k' n, .v (.int k' (wr k' n)))
      | none => none) else none
    | some e, some d, _ => st.prStr tys e d x
    | _, _, _ => none
  | .build T parts => match lk T tys with
    | some d => if d.kind = 3 then (match st.bld d.offs parts.toList (d.z.map .v) with
      | some (p, r) => some (p ∧ (d.offs.all fun o => o.2 != 0) = true, .agg r)
      | none => none) else none
    | none => none
  | .slice T x (some lo) (some hi) none => match lk T tys, (st.ev x).strip, (st.ev lo).strip, (st.ev hi).strip with
    | some d, .v (.string s), .v (.int .i64 a), .v (.int .i64 b) =>
      if d.kind = 2 then some ((st.ev x).need ∧ (st.ev lo).need ∧ (st.ev hi).need ∧ 0 ≤ a ∧ a ≤ b ∧ b ≤ (s.size : Int), .v (.string (s.extract a.toNat b.toNat))) else none
    | _, _, _, _ => st.prCut tys T x (some lo) (some hi)
  | .slice T x (some lo) none none => match lk T tys, (st.ev x).strip, (st.ev lo).strip with
    | some d, .v (.string s), .v (.int .i64 a) =>
      if d.kind = 2 then some ((st.ev x).need ∧ (st.ev lo).need ∧ 0 ≤ a ∧ a ≤ (s.size : Int), .v (.string (s.extract a.toNat s.size))) else none
    | _, _, _ => st.prCut tys T x (some lo) none
  | .slice T x none (some hi) none => match lk T tys, (st.ev x).strip, (st.ev hi).strip with
    | some d, .v (.string s), .v (.int .i64 b) =>
      if d.kind = 2 then some ((st.ev x).need ∧ (st.ev hi).need ∧ 0 ≤ b ∧ b ≤ (s.size : Int), .v (.string (s.extract 0 b.toNat))) else none
    | _, _, _ => st.prCut tys T x none (some hi)
  | .slice T x none none none => st.prCut tys T x none none
  | .call c => match c.callee with
    | .builtin .len => match c.args.toList, c.argTypes.toList with
      | [x], [T] => st.prLen tys T x
      | _, _ => none
    | .builtin .min => match c.args.toList with
      | [x, y] => st.prMin false x y
      | _ => none
    | .builtin .max => match c.args.toList with
      | [x, y] => st.prMin true x y
      | _ => none
    | _ => none
  | _ => none

section
variable {P : Program} {tys : List (Nat × TyD)} {N : Nat} {X0 : Nat → Prop} {M : Nat → BV → Prop} {w0 : World} {st : St} {β : Nat → BV} {a : Act} {w : World}

theorem St.ev_ok (h : Sim N X0 M w0 st β a w) (x : Operand) : R w (XX X0 β st.hp) β (st.ev x) (a.eval x) := by
  cases x with
  | tmp t =>
    show R w _ β (st.get t) (a.tmps.getD t undef)
    unfold St.get
    cases hl : lk t st.fr with
    | none => exact .junk _
    | some y => exact h.slots t y hl
  | const v => exact .p (.v v)
  | global g => exact .junk _
  | func f =>
    refine .fn (us := []) rfl ?_
    intro k c u hk
    simp at hk

theorem R.strip {X : Nat → Prop} {x : SV} {v : Value} (h : R w X β x v) (hn : x.need) : R w X β x.strip v := by
  cases x with
  | cond g y => exact h.cond_inv hn
  | _ => exact h

theorem St.ev_strip (h : Sim N X0 M w0 st β a w) {x : Operand} {y : SV} (hy : (st.ev x).strip = y) (hn : (st.ev x).need) : R w (XX X0 β st.hp) β y (a.eval x) := by
  rw [← hy]; exact (St.ev_ok h x).strip hn

end
end Go.Vc
