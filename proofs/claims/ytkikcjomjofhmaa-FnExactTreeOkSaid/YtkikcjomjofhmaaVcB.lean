/-
  DERIVED. What each operation does to the state of VcA, and that the model's run does that.
-/
import Derived.Test.YtkikcjomjofhmaaVcA
namespace Go.Vc
set_option linter.unusedVariables false

structure TyD where
  kind : Nat := 0
  size : Nat := 1
  bytes : Nat := 8
  z : List Value := []
  elem : Nat := 0
  offs : List (Nat × Nat) := []
  ik : Option IntKind := none

def TypeDesc.flat : TypeDesc → Bool
  | .struct _ => false
  | .array _ _ => false
  | _ => true

/-- kind: 1 a slice, 2 a string, 3 a struct, 4 an integer type, 0 any other -/
structure TyOk (P : Program) (T : Nat) (d : TyD) : Prop where
  info : (P.info? T).map (fun i => (i.size, i.bytes, i.zero.map (·.cells.toList))) = some (d.size, d.bytes, some d.z)
  und : match d.kind with
    | 3 => (match P.underlying T with | some (.struct fs) => some (fs.toList.map fun f => (f.offset, ((P.info? f.type).map (·.size)).getD 0)) | _ => none) = some d.offs
    | 1 => P.underlying T = some (.slice d.elem)
    | 2 => P.underlying T = some .string
    | 4 => (match d.ik with | some k => P.underlying T = some (.int k) | none => False)
    | 5 => P.underlying T = some .bool
    | _ => (P.underlying T).map TypeDesc.flat = some true
  one : d.kind ≠ 3 → 0 < d.size

def SV.strip : SV → SV
  | .cond _ x => x
  | x => x
def SV.need : SV → Prop
  | .cond g _ => g = true
  | _ => True

def St.ev (st : St) : Operand → SV
  | .tmp t => st.get t
  | .const x => .v x
  | .func f => .fn f []
  | .global _ => .junk

/-- the result of an operation on two scalars, and what it asks -/
def wr (k : IntKind) (n : Int) : Int := match k with
  | .i64 => n
  | k => k.wrap n
def rng (k : IntKind) (n : Int) : Prop := match k with
  | .i64 => -9223372036854775808 ≤ n ∧ n ≤ 9223372036854775807
  | _ => True

theorem wr_ok {k : IntKind} {n : Int} (h : rng k n) : k.wrap n = wr k n := by
  cases k <;> first | rfl | (simp only [rng] at h; simp only [wr]; exact IntWalk.i64_in _ ⟨by omega, by omega⟩)

def scal2 (bl : Bool) (op : BinOp) : Value → Value → Option (Prop × Value)
  | .int k a, .int k' b => if k = k' then
    match op with
    | .add => some (rng k (a + b), .int k (wr k (a + b)))
    | .sub => some (rng k (a - b), .int k (wr k (a - b)))
    | .mul => some (rng k (a * b), .int k (wr k (a * b)))
    | .quo => some (b ≠ 0 ∧ rng k (a.tdiv b), .int k (wr k (a.tdiv b)))
    | .rem => some (b ≠ 0, .int k (a.tmod b))
    | .eql => some (True, .bool (a == b))
    | .neq => some (True, .bool (a != b))
    | .lss => some (True, .bool (decide (a < b)))
    | .leq => some (True, .bool (decide (a ≤ b)))
    | .gtr => some (True, .bool (decide (a > b)))
    | .geq => some (True, .bool (decide (a ≥ b)))
    | _ => none
    else none
  | .string a, .string b =>
    match op with
    | .add => some ((((a.size + b.size : Nat) : Int) ≤ 9223372036854775807), .string (a ++ b))
    | .eql => some (True, .bool (decide (a = b)))
    | .neq => some (True, .bool (!decide (a = b)))
    | .lss => some (True, .bool (Op.bytesLess a.toList b.toList))
    | .leq => some (True, .bool (Op.bytesLess a.toList b.toList || decide (a = b)))
    | .gtr => some (True, .bool !(Op.bytesLess a.toList b.toList || decide (a = b)))
    | .geq => some (True, .bool !(Op.bytesLess a.toList b.toList))
    | _ => none
  | .bool a, .bool b =>
    match bl, op with
    | true, .eql => some (True, .bool (a == b))
    | true, .neq => some (True, .bool (a != b))
    | _, _ => none
  | _, _ => none

theorem toList_eq (a b : ByteArray) : (a.toList == b.toList) = decide (a = b) := by
  rw [Bool.eq_iff_iff]
  simp only [beq_iff_eq, decide_eq_true_eq]
  constructor
  · intro h
    rw [ByteArray.toList_eq, ByteArray.toList_eq] at h
    exact ByteArray.ext (Array.toList_inj.1 h)
  · rintro rfl; rfl

theorem scal2_sound {P : Program} {T : Nat} {bl : Bool} (hbl : bl = true → P.underlying T = some .bool) {op : BinOp} {x y r : Value} {p : Prop} (h : scal2 bl op x y = some (p, r)) (hp : p) (ox oy : Operand) (w : World) :
    (do eqGuard op T ox oy x y; binOp op T x y : Sem Value).run P w = .ok r w := by
  cases x <;> cases y <;> try (simp [scal2] at h; done)
  case int.int k a k' b =>
    simp only [scal2] at h
    by_cases hk : k = k'
    · subst hk
      rw [if_pos rfl] at h
      cases op <;> simp only [Option.some.injEq, Prod.mk.injEq, reduceCtorEq] at h <;> obtain ⟨rfl, rfl⟩ := h <;> simp [eqGuard, binOp, Op.intArith, Op.intDiv, Op.intCmp]
      · exact wr_ok hp
      · exact wr_ok hp
      · exact wr_ok hp
      · rw [if_neg hp.1]; simp [wr_ok hp.2]
      · exact fun e => absurd e hp
    · rw [if_neg hk] at h; cases h
  case string.string a b =>
    simp only [scal2] at h
    cases op <;> simp only [Option.some.injEq, Prod.mk.injEq, reduceCtorEq] at h <;> obtain ⟨rfl, rfl⟩ := h <;> simp [eqGuard, binOp, Op.stringOp, toList_eq]
    · omega
  case bool.bool a b =>
    simp only [scal2] at h
    cases bl with
    | false => cases h
    | true =>
      have hu := hbl rfl
      have he : ∀ w, (Op.equalIn 10000 T (.bool a) (.bool b)).run P w = .ok (a == b) w := fun w => run_equalIn_bool w 9999 T a b hu
      cases op <;> simp only [Option.some.injEq, Prod.mk.injEq, reduceCtorEq] at h <;> obtain ⟨rfl, rfl⟩ := h <;>
        simp [eqGuard, binOp, Op.equal, Op.maxDepth, he]
      cases a <;> cases b <;> rfl

/-! ## Operations that yield a value and leave all else alone -/

def scal1 (op : UnOp) : Value → Option (Prop × Value)
  | .bool b => match op with | .not => some (True, .bool !b) | _ => none
  | .int k n => match op with | .neg => some (rng k (0 - n), .int k (wr k (0 - n))) | _ => none
  | _ => none

theorem scal1_sound {P : Program} {op : UnOp} {x r : Value} {p : Prop} (h : scal1 op x = some (p, r)) (hp : p) (w : World) : (Op.unary op x).run P w = .ok r w := by
  cases x <;> simp only [scal1, reduceCtorEq] at h
  · cases op <;> simp only [Option.some.injEq, Prod.mk.injEq, reduceCtorEq] at h
    obtain ⟨rfl, rfl⟩ := h
    simp [Op.unary]
  · cases op <;> simp only [Option.some.injEq, Prod.mk.injEq, reduceCtorEq] at h
    obtain ⟨rfl, rfl⟩ := h
    have hw := wr_ok hp
    simp only [Int.zero_sub] at hw ⊢
    simp [Op.unary, Op.intArith, hw]

def pickB (c p q : Bool) : Bool := if c then p else q
theorem pickB_or (c q : Bool) : pickB c true q = (c || q) := by cases c <;> rfl
theorem pickB_and (c p : Bool) : pickB c p false = (c && p) := by cases c <;> rfl

def rowAt (rows : List (List SV)) (i : Nat) : List SV := (rows[i]?).getD []
def cellsAt (kind size : Nat) (row : List SV) (k : Nat) : SV := if kind = 3 then .agg ((row.drop k).take size) else (row[k]?).getD .junk

def SV.isPtr : SV → Bool
  | .ptr _ _ _ _ => true
  | .rptr _ _ _ _ => true
  | .fn _ _ => true
  | _ => false

def St.prLen (tys : List (Nat × TyD)) (st : St) (T : Nat) (x : Operand) : Option (Prop × SV) :=
  match lk T tys, (st.ev x).strip with
  | some d, .v (.string s) => if d.kind = 2 then some ((st.ev x).need, .v (.int .i64 s.size)) else none
  | some d, .v (.slice none 0 0) => if d.kind = 1 then some ((st.ev x).need, .v (.int .i64 0)) else none
  | some d, .sl _ rows => if d.kind = 1 then some ((st.ev x).need, .v (.int .i64 rows.length)) else none
  | some d, .own id => if d.kind = 1 then (match lk id st.hp with
    | some (.sl _ _ rows) => some ((st.ev x).need, .v (.int .i64 rows.length))
    | _ => none) else none
  | _, _ => none

/-- what an operation asks, and what it yields; 'none': not one of these -/
def St.pr (tys : List (Nat × TyD)) (st : St) : Op → Option (Prop × SV)
  | .move x => some (True, st.ev x)
  | .assign x => some (True, st.ev x)
  | .pick c a b => match st.ev c, (st.ev a).strip, (st.ev b).strip with
    | .v (.bool cv), .v (.bool p), .v (.bool q) => some ((cv = true → (st.ev a).need) ∧ (cv = false → (st.ev b).need), .v (.bool (pickB cv p q)))
    | _, _, _ => none
  | .binOp op T x y _ => match (st.ev x).strip, (st.ev y).strip with
    | .v a, .v b => match scal2 (((lk T tys).map (·.kind)) == some 5) op a b with
      | some (p, r) => some ((st.ev x).need ∧ (st.ev y).need ∧ p, .v r)
      | none => none
    | _, _ => none
  | .unOp op _ x => match (st.ev x).strip with
    | .v a => match scal1 op a with
      | some (p, r) => some ((st.ev x).need ∧ p, .v r)
      | none => none
    | _ => none
  | .nilCheck x => match (st.ev x).strip with
    | .ptr id s i k => some ((st.ev x).need, .ptr id s i k)
    | .rptr s rows i k => some ((st.ev x).need, .rptr s rows i k)
    | _ => none
  | .fieldAddr T x f => match lk T tys, (st.ev x).strip with
    | some d, .ptr id s i k => if d.kind = 3 then (match d.offs[f]? with | some o => some ((st.ev x).need ∧ o.2 ≠ 0, .ptr id s i (k + o.1)) | none => none) else none
    | some d, .rptr s rows i k => if d.kind = 3 then (match d.offs[f]? with | some o => some ((st.ev x).need ∧ o.2 ≠ 0, .rptr s rows i (k + o.1)) | none => none) else none
    | _, _ => none
  | .indexAddr T x ix => match lk T tys, (st.ev x).strip, (st.ev ix).strip with
    | some d, .sl s rows, .v (.int .i64 n) => if d.kind = 1 then some ((st.ev x).need ∧ (st.ev ix).need ∧ (lk d.elem tys).map (·.size) = some s ∧ 0 ≤ n ∧ n < (rows.length : Int), .rptr s rows n.toNat 0) else none
    | some d, .own id, .v (.int .i64 n) => if d.kind = 1 then (match lk id st.hp with
      | some (.sl _ s rows) => some ((st.ev x).need ∧ (st.ev ix).need ∧ (lk d.elem tys).map (·.size) = some s ∧ 0 ≤ n ∧ n < (rows.length : Int), .ptr id s n.toNat 0)
      | _ => none) else none
    | _, _, _ => none
  | .load T x => match lk T tys, (st.ev x).strip with
    | some d, .ptr id s i k => match lk id st.hp with
      | some (.box _ cs) => some ((st.ev x).need ∧ i = 0 ∧ k + d.size ≤ cs.length, cellsAt d.kind d.size cs k)
      | some (.sl _ s' rows) => some ((st.ev x).need ∧ s = s' ∧ i < rows.length ∧ k + d.size ≤ s, cellsAt d.kind d.size (rowAt rows i) k)
      | none => none
    | some d, .rptr s rows i k => some ((st.ev x).need ∧ i < rows.length ∧ k + d.size ≤ s, cellsAt d.kind d.size (rowAt rows i) k)
    | _, _ => none
  | .index T x ix => match lk T tys, (st.ev x).strip, (st.ev ix).strip with
    | some d, .v (.string s), .v (.int .i64 n) => if d.kind = 2 then some ((st.ev x).need ∧ (st.ev ix).need ∧ 0 ≤ n ∧ n < (s.size : Int), .v (.int .u8 (s[n.toNat]!).toNat)) else none
    | _, _, _ => none
  | .extract x i => match (st.ev x).strip with
    | .tup cs => match cs[i]? with
      | some c => some ((st.ev x).need, c)
      | none => none
    | _ => none
  | .makeFunc (.func f) first caps => if first = #[] then some (∀ c ∈ caps.toList, (st.ev c).need, .fn f (caps.toList.map fun c => (st.ev c).strip)) else none
  | .convert S T x => match lk S tys, lk T tys, (st.ev x).strip with
    | some e, some d, .v (.int _ n) => if e.kind = 4 ∧ d.kind = 4 then (match d.ik with
      | some k' => some ((st.ev x).need ∧ rng k' n, .v (.int k' (wr k' n)))
      | none => none) else none
    | _, _, _ => none
  | .slice T x (some lo) (some hi) none => match lk T tys, (st.ev x).strip, (st.ev lo).strip, (st.ev hi).strip with
    | some d, .v (.string s), .v (.int .i64 a), .v (.int .i64 b) =>
      if d.kind = 2 then some ((st.ev x).need ∧ (st.ev lo).need ∧ (st.ev hi).need ∧ 0 ≤ a ∧ a ≤ b ∧ b ≤ (s.size : Int), .v (.string (s.extract a.toNat b.toNat))) else none
    | _, _, _, _ => none
  | .slice T x (some lo) none none => match lk T tys, (st.ev x).strip, (st.ev lo).strip with
    | some d, .v (.string s), .v (.int .i64 a) =>
      if d.kind = 2 then some ((st.ev x).need ∧ (st.ev lo).need ∧ 0 ≤ a ∧ a ≤ (s.size : Int), .v (.string (s.extract a.toNat s.size))) else none
    | _, _, _ => none
  | .slice T x none (some hi) none => match lk T tys, (st.ev x).strip, (st.ev hi).strip with
    | some d, .v (.string s), .v (.int .i64 b) =>
      if d.kind = 2 then some ((st.ev x).need ∧ (st.ev hi).need ∧ 0 ≤ b ∧ b ≤ (s.size : Int), .v (.string (s.extract 0 b.toNat))) else none
    | _, _, _ => none
  | .call c => match c.callee with
    | .builtin .len => match c.args.toList, c.argTypes.toList with
      | [x], [T] => st.prLen tys T x
      | _, _ => none
    | _ => none
  | _ => none

section
variable {P : Program} {tys : List (Nat × TyD)} {N : Nat} {X0 : Nat → Prop} {M : Nat → Value → Prop} {w0 : World} {st : St} {β : Nat → Value} {a : Act} {w : World}

theorem St.ev_ok (h : Sim N X0 M w0 st β a w) (x : Operand) : R w (XX X0 β st.hp) β (st.ev x) (a.eval x) := by
  cases x with
  | tmp t =>
    show R w _ β (st.get t) (a.tmps.getD t undef)
    unfold St.get
    cases hl : lk t st.fr with
    | none => exact .junk _
    | some y => exact h.slots t y hl
  | const v => exact .p (.v v)
  | global g => exact .junk _
  | func f =>
    refine .fn (us := []) rfl ?_
    intro k c u hk
    simp at hk

theorem R.strip {X : Nat → Prop} {x : SV} {v : Value} (h : R w X β x v) (hn : x.need) : R w X β x.strip v := by
  cases x with
  | cond g y => exact h.cond_inv hn
  | _ => exact h

theorem St.ev_strip (h : Sim N X0 M w0 st β a w) {x : Operand} {y : SV} (hy : (st.ev x).strip = y) (hn : (st.ev x).need) : R w (XX X0 β st.hp) β y (a.eval x) := by
  rw [← hy]; exact (St.ev_ok h x).strip hn

end
end Go.Vc
