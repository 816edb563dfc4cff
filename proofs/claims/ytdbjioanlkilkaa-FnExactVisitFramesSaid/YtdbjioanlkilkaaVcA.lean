/-
  DERIVED. What the walks share: values that stand for lists, a state of them, and what each operation does to it.
-/
import Derived.WalkKit
import Derived.WalkSpells
import Derived.WalkLawsBesides
import Derived.Still
namespace Go.Vc

inductive SV where
  | v (x : Value)
  | sl (s : Nat) (rows : List (List SV))
  | own (id : Nat)
  | ptr (id s i k : Nat)
  | rptr (s : Nat) (rows : List (List SV)) (i k : Nat)
  | agg (cs : List SV)
  | tup (cs : List SV)
  | fn (f : FuncId) (caps : List SV)
  | cond (g : Bool) (x : SV)
  | junk

inductive Ob where
  | sl (e s : Nat) (rows : List (List SV))
  | box (e : Nat) (cs : List SV)
  | mp (e : Nat) (es : List (Value × Value))
  /-- a list that owns the lists in its cells -/
  | dp (e s : Nat) (rows : List (List SV))
  /-- .. of which row i stands open: its cells are told apart -/
  | dq (e s : Nat) (rows : List (List SV)) (i : Nat) (row : List SV)

structure St where
  fr : List (Nat × SV)
  hp : List (Nat × Ob)

def lk {α : Type} (t : Nat) : List (Nat × α) → Option α
  | [] => none
  | (u, a) :: l => if t = u then some a else lk t l
def er {α : Type} (t : Nat) : List (Nat × α) → List (Nat × α)
  | [] => []
  | (u, a) :: l => if t = u then er t l else (u, a) :: er t l

theorem lk_er_ne {α : Type} {t u : Nat} (h : t ≠ u) : ∀ l : List (Nat × α), lk t (er u l) = lk t l
  | [] => rfl
  | (x, a) :: l => by
    unfold er
    by_cases hx : u = x
    · rw [if_pos hx, lk_er_ne h l]; simp only [lk]; rw [if_neg (by omega)]
    · rw [if_neg hx]; simp only [lk]; rw [lk_er_ne h l]
theorem lk_er_self {α : Type} (u : Nat) : ∀ l : List (Nat × α), lk u (er u l) = none
  | [] => rfl
  | (x, a) :: l => by
    unfold er
    by_cases hx : u = x
    · rw [if_pos hx, lk_er_self u l]
    · rw [if_neg hx]; simp only [lk]; rw [if_neg hx, lk_er_self u l]
theorem lk_map {α β : Type} (f : α → β) (t : Nat) : ∀ l : List (Nat × α), lk t (l.map fun p => (p.1, f p.2)) = (lk t l).map f
  | [] => rfl
  | (x, a) :: l => by
    simp only [List.map_cons, lk]
    by_cases hx : t = x
    · simp [hx]
    · simp [hx, lk_map f t l]

/-- what a slot holds no more, once object d is no more -/
def SV.kill1 (d : Nat) : SV → SV
  | .own i => if i = d then .junk else .own i
  | .ptr i s a b => if i = d then .junk else .ptr i s a b
  | .agg _ => .junk
  | .tup _ => .junk
  | .fn _ _ => .junk
  | .cond _ _ => .junk
  | x => x
def SV.up2 (f : SV → SV) : SV → SV
  | .agg cs => .agg (cs.map f)
  | x => f x
/-- a change of the leaves, carried through what is made of them -/
def SV.up (f : SV → SV) : SV → SV
  | .agg cs => .agg (cs.map f)
  | .tup cs => .tup (cs.map (SV.up2 f))
  | .fn g cs => .fn g (cs.map f)
  | .cond g x => .cond g (x.up2 f)
  | x => f x
def SV.kill (d : Nat) (x : SV) : SV := x.up (SV.kill1 d)
/-- a cell of an open row: a list that is owned, or what a slot may hold -/
def SV.isSl : SV → Bool
  | .sl _ _ => true
  | _ => false
/-- what a change of slots makes of a cell of an open row -/
def SV.upq (f : SV → SV) (c : SV) : SV := if c.isSl then c else if (f c).isSl then .junk else f c
def Ob.kill (d : Nat) : Ob → Ob
  | .sl e s rows => .sl e s rows
  | .box e cs => .box e (cs.map (SV.kill d))
  | .mp e es => .mp e es
  | .dp e s rows => .dp e s rows
  | .dq e s rows i row => .dq e s rows i (row.map (SV.upq (SV.kill d)))

def St.kill (d : Nat) (st : St) : St :=
  { fr := st.fr.map fun p => (p.1, p.2.kill d), hp := (er d st.hp).map fun p => (p.1, p.2.kill d) }
def St.put (st : St) (t : Option Nat) (x : SV) : St :=
  match t with
  | some t => { st with fr := (t, x) :: er t st.fr }
  | none => st
def St.new (st : St) (d : Nat) (ob : Ob) (x : SV) : St := { fr := (d, x) :: er d (st.kill d).fr, hp := (d, ob.kill d) :: (st.kill d).hp }
def St.get (st : St) (t : Nat) : SV := (lk t st.fr).getD .junk
def St.keep (st : St) (ts : List Nat) (ids : List Nat) : St :=
  { fr := st.fr.filter fun p => ts.contains p.1, hp := st.hp.filter fun p => ids.contains p.1 }

/-! ## The relation -/

/-- what may be read and is never written -/
inductive Rp (w : World) (X : Nat → Prop) : SV → Value → Prop
  | v (x : Value) : Rp w X (.v x) x
  | nil (s : Nat) (p : Option Addr) (cap : Nat) : Rp w X (.sl s []) (.slice p 0 cap)
  | sl {s : Nat} {rows : List (List SV)} (b off cap : Nat) (us : Nat → Nat → Value) (hX : ¬ X b) (hb : b < w.heap.size)
      (hcap : rows.length ≤ cap) (hlen : ∀ (i : Nat) (row : List SV), rows[i]? = some row → row.length = s)
      (hcell : ∀ (i k : Nat) (row : List SV) (c : SV), rows[i]? = some row → row[k]? = some c → w.cell? ⟨b, off + (i * s + k), none⟩ = some (us i k))
      (hone : ∀ (i k : Nat) (row : List SV) (c : SV), rows[i]? = some row → row[k]? = some c → (us i k).oneCell' = true)
      (hr : ∀ (i k : Nat) (row : List SV) (c : SV), rows[i]? = some row → row[k]? = some c → Rp w X c (us i k)) :
      Rp w X (.sl s rows) (.slice (some ⟨b, off, none⟩) rows.length cap)
  | agg {cs : List SV} {us : List Value} (hl : cs.length = us.length) (h : ∀ (k : Nat) (c : SV) (u : Value), cs[k]? = some c → us[k]? = some u → Rp w X c u) : Rp w X (.agg cs) (.agg us.toArray)
  | tup {cs : List SV} {us : List Value} (hl : cs.length = us.length) (h : ∀ (k : Nat) (c : SV) (u : Value), cs[k]? = some c → us[k]? = some u → Rp w X c u) : Rp w X (.tup cs) (.tuple us.toArray)

def blk : Value → Option Nat
  | .slice (some a) _ _ => some a.block
  | .pointer (some a) => some a.block
  | .map (some b) => some b
  | _ => none

/-- a value and the blocks that it owns -/
structure BV where
  val : Value
  ft : Nat → Prop
def plain (v : Value) : BV := ⟨v, fun b => blk v = some b⟩
def nilB : BV := plain (.slice none 0 0)
@[simp] theorem plain_val (v : Value) : (plain v).val = v := rfl
@[simp] theorem nilB_val : nilB.val = .slice none 0 0 := rfl

/-- what owns the lists in it: F are their blocks -/
inductive Dp (w : World) : SV → Value → (Nat → Prop) → Prop
  | v (x : Value) (F : Nat → Prop) (hF : ∀ b, ¬ F b) : Dp w (.v x) x F
  | nil (s : Nat) (F : Nat → Prop) (hF : ∀ b, ¬ F b) : Dp w (.sl s []) (.slice none 0 0) F
  | sl {s : Nat} {rows : List (List SV)} (e b cap : Nat) (cur : Array Value) (us : Nat → Nat → Value) (fs : Nat → Nat → Nat → Prop) (F : Nat → Prop)
      (hh : w.heap[b]? = some (.cells cur e (0, 0))) (hcap : rows.length ≤ cap) (hmax : cap ≤ maxLen) (hsz : cur.size = cap * s)
      (hlen : ∀ (i : Nat) (row : List SV), rows[i]? = some row → row.length = s)
      (hcell : ∀ (i k : Nat), i < rows.length → k < s → cur[i * s + k]? = some (us i k))
      (hone : ∀ (i k : Nat), i < rows.length → k < s → (us i k).oneCell' = true)
      (hr : ∀ (i k : Nat) (row : List SV) (c : SV), rows[i]? = some row → row[k]? = some c → Dp w c (us i k) (fs i k))
      (hin : ∀ (i k b' : Nat), fs i k b' → i < rows.length ∧ k < s)
      (hne : ∀ (i k : Nat), ¬ fs i k b)
      (hdis : ∀ (i k i' k' b' : Nat), fs i k b' → fs i' k' b' → i = i' ∧ k = k')
      (hF : ∀ b', F b' ↔ b' = b ∨ ∃ (i k : Nat), fs i k b') :
      Dp w (.sl s rows) (.slice (some ⟨b, 0, none⟩) rows.length cap) F

inductive R (w : World) (X : Nat → Prop) (β : Nat → BV) : SV → Value → Prop
  | p {x : SV} {v : Value} (h : Rp w X x v) : R w X β x v
  | own (id : Nat) : R w X β (.own id) (β id).val
  | ptr (id s i k b : Nat) (h : blk (β id).val = some b) : R w X β (.ptr id s i k) (.pointer (some ⟨b, i * s + k, none⟩))
  | rptr (s : Nat) (rows : List (List SV)) (i k b off cap : Nat) (h : Rp w X (.sl s rows) (.slice (some ⟨b, off, none⟩) rows.length cap)) :
      R w X β (.rptr s rows i k) (.pointer (some ⟨b, off + (i * s + k), none⟩))
  | agg {cs : List SV} {us : List Value} (hl : cs.length = us.length) (h : ∀ (k : Nat) (c : SV) (u : Value), cs[k]? = some c → us[k]? = some u → R w X β c u) : R w X β (.agg cs) (.agg us.toArray)
  | tup {cs : List SV} {us : List Value} (hl : cs.length = us.length) (h : ∀ (k : Nat) (c : SV) (u : Value), cs[k]? = some c → us[k]? = some u → R w X β c u) : R w X β (.tup cs) (.tuple us.toArray)
  | fn {f : FuncId} {cs : List SV} {us : List Value} (hl : cs.length = us.length) (h : ∀ (k : Nat) (c : SV) (u : Value), cs[k]? = some c → us[k]? = some u → R w X β c u) : R w X β (.fn f cs) (.func (.func f) #[] us.toArray)
  | cond {g : Bool} {x : SV} {v : Value} (h : g = true → R w X β x v) (hn : g = false → v = undef) : R w X β (.cond g x) v
  | junk (v : Value) : R w X β .junk v

/-- the two worlds are alike where it matters -/
structure Same (X : Nat → Prop) (w w' : World) : Prop where
  size : w.heap.size ≤ w'.heap.size
  block : ∀ b, b < w.heap.size → ¬ X b → w'.heap[b]? = w.heap[b]?

theorem Rp.mono {w w' : World} {X X' : Nat → Prop} (hs : Same X w w') (hX : ∀ b, b < w.heap.size → X' b → X b) {x : SV} {v : Value} (h : Rp w X x v) : Rp w' X' x v := by
  induction h with
  | v x => exact .v x
  | nil s p cap => exact .nil s p cap
  | sl b off cap us h1 h2 h3 h4 h5 h6 _ ih =>
    refine .sl b off cap us (fun hb => h1 (hX b h2 hb)) (Nat.lt_of_lt_of_le h2 hs.size) h3 h4 (fun i k row c hr hc => ?_) h6 ih
    rw [World.cell?_of_block (w := w) (hs.block b h2 h1)]
    exact h5 i k row c hr hc
  | agg hl _ ih => exact .agg hl ih
  | tup hl _ ih => exact .tup hl ih

theorem R.mono {w w' : World} {X X' : Nat → Prop} {β : Nat → BV} (hs : Same X w w') (hX : ∀ b, b < w.heap.size → X' b → X b) {x : SV} {v : Value} (h : R w X β x v) : R w' X' β x v := by
  induction h with
  | p h => exact .p (h.mono hs hX)
  | own id => exact .own id
  | ptr id s i k b h => exact .ptr id s i k b h
  | rptr s rows i k b off cap h => exact .rptr s rows i k b off cap (h.mono hs hX)
  | agg hl _ ih => exact .agg hl ih
  | tup hl _ ih => exact .tup hl ih
  | fn hl _ ih => exact .fn hl ih
  | cond _ hn ih => exact .cond ih hn
  | junk v => exact .junk v

theorem R.v_inv {w : World} {X : Nat → Prop} {β : Nat → BV} {x v : Value} (h : R w X β (.v x) v) : v = x := by
  cases h with
  | p h => cases h; rfl
theorem R.own_inv {w : World} {X : Nat → Prop} {β : Nat → BV} {id : Nat} {v : Value} (h : R w X β (.own id) v) : v = (β id).val := by
  cases h with
  | p h => cases h
  | own => rfl
theorem R.ptr_inv {w : World} {X : Nat → Prop} {β : Nat → BV} {id s i k : Nat} {v : Value} (h : R w X β (.ptr id s i k) v) :
    ∃ b, blk (β id).val = some b ∧ v = .pointer (some ⟨b, i * s + k, none⟩) := by
  cases h with
  | p h => cases h
  | ptr _ _ _ _ b h => exact ⟨b, h, rfl⟩
theorem R.rptr_inv {w : World} {X : Nat → Prop} {β : Nat → BV} {s i k : Nat} {rows : List (List SV)} {v : Value} (h : R w X β (.rptr s rows i k) v) :
    ∃ b off cap, Rp w X (.sl s rows) (.slice (some ⟨b, off, none⟩) rows.length cap) ∧ v = .pointer (some ⟨b, off + (i * s + k), none⟩) := by
  cases h with
  | p h => cases h
  | rptr _ _ _ _ b off cap h => exact ⟨b, off, cap, h, rfl⟩
theorem R.sl_inv {w : World} {X : Nat → Prop} {β : Nat → BV} {s : Nat} {rows : List (List SV)} {v : Value} (h : R w X β (.sl s rows) v) : Rp w X (.sl s rows) v := by
  cases h with
  | p h => exact h
theorem R.agg_inv {w : World} {X : Nat → Prop} {β : Nat → BV} {cs : List SV} {v : Value} (h : R w X β (.agg cs) v) :
    ∃ us : List Value, v = .agg us.toArray ∧ cs.length = us.length ∧ ∀ (k : Nat) (c : SV) (u : Value), cs[k]? = some c → us[k]? = some u → R w X β c u := by
  cases h with
  | p h => cases h with | agg hl h => exact ⟨_, rfl, hl, fun k c u a b => .p (h k c u a b)⟩
  | agg hl h => exact ⟨_, rfl, hl, h⟩
theorem R.tup_inv {w : World} {X : Nat → Prop} {β : Nat → BV} {cs : List SV} {v : Value} (h : R w X β (.tup cs) v) :
    ∃ us : List Value, v = .tuple us.toArray ∧ cs.length = us.length ∧ ∀ (k : Nat) (c : SV) (u : Value), cs[k]? = some c → us[k]? = some u → R w X β c u := by
  cases h with
  | p h => cases h with | tup hl h => exact ⟨_, rfl, hl, fun k c u a b => .p (h k c u a b)⟩
  | tup hl h => exact ⟨_, rfl, hl, h⟩
theorem R.fn_inv {w : World} {X : Nat → Prop} {β : Nat → BV} {f : FuncId} {cs : List SV} {v : Value} (h : R w X β (.fn f cs) v) :
    ∃ us : List Value, v = .func (.func f) #[] us.toArray ∧ cs.length = us.length ∧ ∀ (k : Nat) (c : SV) (u : Value), cs[k]? = some c → us[k]? = some u → R w X β c u := by
  cases h with
  | p h => cases h
  | fn hl h => exact ⟨_, rfl, hl, h⟩
theorem R.cond_inv {w : World} {X : Nat → Prop} {β : Nat → BV} {g : Bool} {x : SV} {v : Value} (h : R w X β (.cond g x) v) (hg : g = true) : R w X β x v := by
  cases h with
  | p h => cases h
  | cond h _ => exact h hg

theorem R.cond_undef {w : World} {X : Nat → Prop} {β : Nat → BV} {g : Bool} {x : SV} {v : Value} (h : R w X β (.cond g x) v) (hg : g = false) : v = undef := by
  cases h with
  | p h => cases h
  | cond _ hn => exact hn hg

theorem R.kill1 {w : World} {X : Nat → Prop} {β β' : Nat → BV} {d : Nat} (hβ : ∀ i, i ≠ d → (β' i).val = (β i).val) {x : SV} {v : Value} (h : R w X β x v) : R w X β' (x.kill1 d) v := by
  cases x with
  | v x => have := h.v_inv; subst this; exact .p (.v _)
  | sl s rows => exact .p h.sl_inv
  | own i =>
    have := h.own_inv; subst this
    show R w X β' (if i = d then .junk else .own i) _
    by_cases hi : i = d
    · rw [if_pos hi]; exact .junk _
    · rw [if_neg hi, ← hβ i hi]; exact .own i
  | ptr i s a b =>
    obtain ⟨bb, hb, rfl⟩ := h.ptr_inv
    show R w X β' (if i = d then .junk else .ptr i s a b) _
    by_cases hi : i = d
    · rw [if_pos hi]; exact .junk _
    · rw [if_neg hi]; exact .ptr i s a b bb (by rw [hβ i hi]; exact hb)
  | rptr s rows i k => obtain ⟨b, off, cap, hr, rfl⟩ := h.rptr_inv; exact .rptr s rows i k b off cap hr
  | agg cs => exact .junk _
  | tup cs => exact .junk _
  | fn f cs => exact .junk _
  | cond g x => exact .junk _
  | junk => exact .junk _

theorem map_get {f : SV → SV} {cs : List SV} {k : Nat} {c : SV} (h : (cs.map f)[k]? = some c) : ∃ c0, cs[k]? = some c0 ∧ c = f c0 := by
  rw [List.getElem?_map] at h
  cases hk : cs[k]? with
  | none => rw [hk] at h; cases h
  | some c0 => rw [hk] at h; exact ⟨c0, rfl, by simpa using h.symm⟩

theorem R.up2 {w w' : World} {X X' : Nat → Prop} {β β' : Nat → BV} {f : SV → SV} (hf : ∀ x v, R w X β x v → R w' X' β' (f x) v) {x : SV} {v : Value} (h : R w X β x v) : R w' X' β' (x.up2 f) v := by
  cases x with
  | agg cs =>
    obtain ⟨us, rfl, hl, hh⟩ := h.agg_inv
    refine .agg (by simpa using hl) fun k c u hc hu => ?_
    obtain ⟨c0, h0, rfl⟩ := map_get hc
    exact hf _ _ (hh k c0 u h0 hu)
  | _ => exact hf _ _ h
theorem R.up {w w' : World} {X X' : Nat → Prop} {β β' : Nat → BV} {f : SV → SV} (hf : ∀ x v, R w X β x v → R w' X' β' (f x) v) {x : SV} {v : Value} (h : R w X β x v) : R w' X' β' (x.up f) v := by
  cases x with
  | agg cs =>
    obtain ⟨us, rfl, hl, hh⟩ := h.agg_inv
    refine .agg (by simpa using hl) fun k c u hc hu => ?_
    obtain ⟨c0, h0, rfl⟩ := map_get hc
    exact hf _ _ (hh k c0 u h0 hu)
  | tup cs =>
    obtain ⟨us, rfl, hl, hh⟩ := h.tup_inv
    refine .tup (by simpa using hl) fun k c u hc hu => ?_
    obtain ⟨c0, h0, rfl⟩ := map_get hc
    exact (hh k c0 u h0 hu).up2 hf
  | fn g cs =>
    obtain ⟨us, rfl, hl, hh⟩ := h.fn_inv
    refine .fn (by simpa using hl) fun k c u hc hu => ?_
    obtain ⟨c0, h0, rfl⟩ := map_get hc
    exact hf _ _ (hh k c0 u h0 hu)
  | cond g x => exact .cond (fun hg => (h.cond_inv hg).up2 hf) fun hg => h.cond_undef hg
  | _ => exact hf _ _ h
theorem R.kill {w : World} {X : Nat → Prop} {β β' : Nat → BV} {d : Nat} (hβ : ∀ i, i ≠ d → (β' i).val = (β i).val) {x : SV} {v : Value} (h : R w X β x v) : R w X β' (x.kill d) v := h.up fun _ _ h => h.kill1 hβ


/-! ## The state -/

def XX (X0 : Nat → Prop) (β : Nat → BV) (hp : List (Nat × Ob)) (b : Nat) : Prop := X0 b ∨ ∃ id ob, lk id hp = some ob ∧ (β id).ft b

def DqC (w : World) (X : Nat → Prop) (β : Nat → BV) (c : SV) (u : Value) (F : Nat → Prop) : Prop :=
  (c.isSl = true ∧ Dp w c u F) ∨ (c.isSl = false ∧ R w X β c u ∧ ∀ b, ¬ F b)
theorem DqC.mono {w w' : World} {X X' : Nat → Prop} {β : Nat → BV} {c : SV} {u : Value} {F : Nat → Prop} (hR : R w X β c u → R w' X' β c u) (hD : Dp w c u F → Dp w' c u F) (h : DqC w X β c u F) : DqC w' X' β c u F :=
  h.imp (fun ⟨a, b⟩ => ⟨a, hD b⟩) fun ⟨a, b, d⟩ => ⟨a, hR b, d⟩
theorem DqC.upq {w : World} {X X' : Nat → Prop} {β β' : Nat → BV} {f : SV → SV} {c : SV} {u : Value} {F : Nat → Prop} (hR : R w X β c u → R w X' β' (f c) u) (h : DqC w X β c u F) : DqC w X' β' (c.upq f) u F := by
  rcases h with ⟨a, b⟩ | ⟨a, b, d⟩
  · unfold SV.upq; rw [if_pos a]; exact .inl ⟨a, b⟩
  · unfold SV.upq
    rw [if_neg (by simp [a])]
    split
    · exact .inr ⟨rfl, .junk _, d⟩
    · rename_i hn; exact .inr ⟨by simpa using hn, hR b, d⟩

inductive ObR (w : World) (X : Nat → Prop) (β : Nat → BV) (v : BV) : Ob → Prop
  | nil (e s : Nat) (h : v = nilB) : ObR w X β v (.sl e s [])
  | sl {e s : Nat} {rows : List (List SV)} (b cap : Nat) (cur : Array Value) (us : Nat → Nat → Value) (hv : v = plain (.slice (some ⟨b, 0, none⟩) rows.length cap))
      (hh : w.heap[b]? = some (.cells cur e (0, 0))) (hcap : rows.length ≤ cap) (hmax : cap ≤ maxLen) (hsz : cur.size = cap * s)
      (hlen : ∀ (i : Nat) (row : List SV), rows[i]? = some row → row.length = s)
      (hcell : ∀ (i k : Nat) (row : List SV) (c : SV), rows[i]? = some row → row[k]? = some c → cur[i * s + k]? = some (us i k))
      (hone : ∀ (i k : Nat) (row : List SV) (c : SV), rows[i]? = some row → row[k]? = some c → (us i k).oneCell' = true)
      (hr : ∀ (i k : Nat) (row : List SV) (c : SV), rows[i]? = some row → row[k]? = some c → Rp w X c (us i k)) : ObR w X β v (.sl e s rows)
  | box {e : Nat} {cs : List SV} (b : Nat) (cur : Array Value) (hv : v = plain (.pointer (some ⟨b, 0, none⟩))) (hh : w.heap[b]? = some (.cells cur e (0, 0)))
      (hl : cs.length = cur.size) (hc : ∀ (k : Nat) (c : SV) (u : Value), cs[k]? = some c → cur[k]? = some u → u.oneCell' = true ∧ R w X β c u) : ObR w X β v (.box e cs)
  | mp {e : Nat} {es : List (Value × Value)} (b clock : Nat) (ents : Array MapEntry) (hv : v = plain (.map (some b))) (hh : w.heap[b]? = some (.map ents clock)) (he : ents.toList.map (fun e => (e.key, e.val)) = es) : ObR w X β v (.mp e es)
  | dp {e s : Nat} {rows : List (List SV)} (hd : Dp w (.sl s rows) v.val v.ft) (he : ∀ b, blk v.val = some b → ∃ cur, w.heap[b]? = some (.cells cur e (0, 0))) : ObR w X β v (.dp e s rows)
  | dq {e s : Nat} {rows : List (List SV)} {i0 : Nat} {row0 : List SV} (b cap : Nat) (cur : Array Value) (us : Nat → Nat → Value) (fs : Nat → Nat → Nat → Prop) (hv : v.val = .slice (some ⟨b, 0, none⟩) rows.length cap)
      (hh : w.heap[b]? = some (.cells cur e (0, 0))) (hcap : rows.length ≤ cap) (hmax : cap ≤ maxLen) (hsz : cur.size = cap * s)
      (hi0 : i0 < rows.length) (hrow0 : row0.length = s)
      (hlen : ∀ (i : Nat) (row : List SV), rows[i]? = some row → row.length = s)
      (hcell : ∀ (i k : Nat), i < rows.length → k < s → cur[i * s + k]? = some (us i k))
      (hone : ∀ (i k : Nat), i < rows.length → k < s → (us i k).oneCell' = true)
      (hr : ∀ (i k : Nat) (row : List SV) (c : SV), i ≠ i0 → rows[i]? = some row → row[k]? = some c → Dp w c (us i k) (fs i k))
      (hr0 : ∀ (k : Nat) (c : SV), row0[k]? = some c → DqC w X β c (us i0 k) (fs i0 k))
      (hin : ∀ (i k b' : Nat), fs i k b' → i < rows.length ∧ k < s)
      (hne : ∀ (i k : Nat), ¬ fs i k b)
      (hdis : ∀ (i k i' k' b' : Nat), fs i k b' → fs i' k' b' → i = i' ∧ k = k')
      (hF : ∀ b', v.ft b' ↔ b' = b ∨ ∃ (i k : Nat), fs i k b') :
      ObR w X β v (.dq e s rows i0 row0)

theorem lt_of_heap {w : World} {b : Nat} {o : Obj} (h : w.heap[b]? = some o) : b < w.heap.size := by
  rcases Nat.lt_or_ge b w.heap.size with h' | h'
  · exact h'
  · rw [Array.getElem?_eq_none h'] at h; cases h

theorem row_cell {rows : List (List SV)} {s : Nat} (hlen : ∀ (i : Nat) (row : List SV), rows[i]? = some row → row.length = s) {i k : Nat} (hi : i < rows.length) (hk : k < s) : ∃ row c, rows[i]? = some row ∧ row[k]? = some c := by
  have h1 : rows[i]? = some (rows[i]'hi) := List.getElem?_eq_getElem hi
  have h2 := hlen i _ h1
  exact ⟨_, _, h1, List.getElem?_eq_getElem (by omega)⟩
theorem row_lt {rows : List (List SV)} {s : Nat} (hlen : ∀ (i : Nat) (row : List SV), rows[i]? = some row → row.length = s) {i k : Nat} {row : List SV} {c : SV} (h1 : rows[i]? = some row) (h2 : row[k]? = some c) : i < rows.length ∧ k < s := by
  have := hlen i row h1
  exact ⟨(List.getElem?_eq_some_iff.1 h1).1, by rw [← this]; exact (List.getElem?_eq_some_iff.1 h2).1⟩
theorem Dp.lt {w : World} {x : SV} {v : Value} {F : Nat → Prop} (h : Dp w x v F) {b : Nat} (hb : F b) : b < w.heap.size := by
  induction h with
  | v _ F hF => exact absurd hb (hF b)
  | nil s F hF => exact absurd hb (hF b)
  | sl e b0 cap cur us fs F hh h1 h2 h3 h4 h5 h6 h7 h8 h9 h10 hF ih =>
    rcases (hF b).1 hb with rfl | ⟨i, k, e3⟩
    · exact lt_of_heap hh
    · obtain ⟨q1, q2⟩ := h8 i k b e3
      obtain ⟨row, c, e1, e2⟩ := row_cell h4 q1 q2
      exact ih i k row c e1 e2 e3
/-- other blocks may have turned -/
theorem Dp.keep {w w' : World} {x : SV} {v : Value} {F : Nat → Prop} (h : Dp w x v F) (hk : ∀ b, F b → w'.heap[b]? = w.heap[b]?) : Dp w' x v F := by
  induction h with
  | v _ F hF => exact Dp.v _ F hF
  | nil s F hF => exact .nil s F hF
  | sl e b0 cap cur us fs F hh h1 h2 h3 h4 h5 h6 h7 h8 h9 h10 hF ih =>
    refine .sl e b0 cap cur us fs F (by rw [hk b0 ((hF b0).2 (.inl rfl))]; exact hh) h1 h2 h3 h4 h5 h6 (fun i k row c e1 e2 => ih i k row c e1 e2 fun b hb => hk b ((hF b).2 (.inr ⟨i, k, hb⟩))) h8 h9 h10 hF
theorem Dp.ext {w : World} {x : SV} {v : Value} {F F' : Nat → Prop} (h : Dp w x v F) (hF : ∀ b, F' b ↔ F b) : Dp w x v F' := by
  cases h with
  | v _ F h => exact Dp.v _ F' fun b hb => h b ((hF b).1 hb)
  | nil s F h => exact .nil s F' fun b hb => h b ((hF b).1 hb)
  | sl e b0 cap cur us fs F hh h1 h2 h3 h4 h5 h6 h7 h8 h9 h10 h11 => exact .sl e b0 cap cur us fs F' hh h1 h2 h3 h4 h5 h6 h7 h8 h9 h10 fun b => (hF b).trans (h11 b)
theorem Dp.blkft {w : World} {s : Nat} {rows : List (List SV)} {v : Value} {F : Nat → Prop} (h : Dp w (.sl s rows) v F) {b : Nat} (hb : blk v = some b) : F b := by
  cases h with
  | nil => cases hb
  | sl e b0 cap cur us fs F hh h1 h2 h3 h4 h5 h6 h7 h8 h9 h10 h11 => cases hb; exact (h11 _).2 (.inl rfl)

theorem ObR.lt {w : World} {X : Nat → Prop} {β : Nat → BV} {v : BV} {ob : Ob} (h : ObR w X β v ob) {b : Nat} (hb : v.ft b) : b < w.heap.size := by
  cases h with
  | nil e s h => subst h; cases hb
  | sl b' cap cur us hv hh => subst hv; cases hb; exact lt_of_heap hh
  | box b' cur hv hh => subst hv; cases hb; exact lt_of_heap hh
  | mp b' clock ents hv hh => subst hv; cases hb; exact lt_of_heap hh
  | dp hd he => exact hd.lt hb
  | @dq e s rows i0 row0 b0 cap cur us fs hv hh h1 h2 h3 h4 h5 h6 h7 h8 h9 h10 h11 h12 h13 hF =>
    rcases (hF b).1 hb with rfl | ⟨i, k, e3⟩
    · exact lt_of_heap hh
    · obtain ⟨q1, q2⟩ := h11 i k b e3
      by_cases hi : i = i0
      · subst hi
        rcases h10 k (row0[k]'(by omega)) (List.getElem?_eq_getElem (by omega)) with ⟨_, hd⟩ | ⟨_, _, hn⟩
        · exact hd.lt e3
        · exact absurd e3 (hn b)
      · obtain ⟨row, c, e1, e2⟩ := row_cell h6 q1 q2
        exact (h9 i k row c hi e1 e2).lt e3
theorem ObR.blkft {w : World} {X : Nat → Prop} {β : Nat → BV} {v : BV} {ob : Ob} (h : ObR w X β v ob) {b : Nat} (hb : blk v.val = some b) : v.ft b := by
  cases h with
  | nil e s h => subst h; cases hb
  | sl b' cap cur us hv hh => subst hv; exact hb
  | box b' cur hv hh => subst hv; exact hb
  | mp b' clock ents hv hh => subst hv; exact hb
  | dp hd he => exact hd.blkft hb
  | dq b0 cap cur us fs hv hh h1 h2 h3 h4 h5 h6 h7 h8 h9 h10 h11 h12 h13 hF => rw [hv] at hb; cases hb; exact (hF _).2 (.inl rfl)

/-- to another world, another set of blocks: the object's own block is as it was -/
theorem ObR.mono {w w' : World} {X X' : Nat → Prop} {β : Nat → BV} {v : BV} {ob : Ob} (hs : Same X w w') (hX : ∀ b, b < w.heap.size → X' b → X b)
    (hown : ∀ b, v.ft b → w'.heap[b]? = w.heap[b]?) (h : ObR w X β v ob) : ObR w' X' β v ob := by
  cases h with
  | nil e s h => exact .nil e s h
  | sl b cap cur us hv hh h1 h2 h3 h4 h5 h6 h7 => exact .sl b cap cur us hv (by rw [hown b (by rw [hv]; rfl)]; exact hh) h1 h2 h3 h4 h5 h6 (fun i k row c a b => (h7 i k row c a b).mono hs hX)
  | box b cur hv hh hl hc => exact .box b cur hv (by rw [hown b (by rw [hv]; rfl)]; exact hh) hl (fun k c u a b => ⟨(hc k c u a b).1, (hc k c u a b).2.mono hs hX⟩)
  | mp b clock ents hv hh he => exact .mp b clock ents hv (by rw [hown b (by rw [hv]; rfl)]; exact hh) he
  | dp hd he => exact .dp (hd.keep hown) fun b hb => by rw [hown b (hd.blkft hb)]; exact he b hb
  | @dq e s rows i0 row0 b cap cur us fs hv hh h1 h2 h3 h4 h5 h6 h7 h8 h9 h10 h11 h12 h13 hF =>
    exact .dq b cap cur us fs hv (by rw [hown b ((hF b).2 (.inl rfl))]; exact hh) h1 h2 h3 h4 h5 h6 h7 h8 (fun i k row c e0 e1 e2 => (h9 i k row c e0 e1 e2).keep fun b' hb => hown b' ((hF b').2 (.inr ⟨i, k, hb⟩)))
      (fun k c hc => (h10 k c hc).mono (fun h => h.mono hs hX) fun h => h.keep fun b' hb => hown b' ((hF b').2 (.inr ⟨i0, k, hb⟩))) h11 h12 h13 hF

theorem ObR.kill {w : World} {X : Nat → Prop} {β β' : Nat → BV} {v : BV} {d : Nat} (hβ : ∀ i, i ≠ d → (β' i).val = (β i).val) {ob : Ob} (h : ObR w X β v ob) : ObR w X β' v (ob.kill d) := by
  cases h with
  | nil e s h => exact .nil e s h
  | sl b cap cur us hv hh h1 h2 h3 h4 h5 h6 h7 => exact .sl b cap cur us hv hh h1 h2 h3 h4 h5 h6 h7
  | box b cur hv hh hl hc =>
    refine .box b cur hv hh (by simpa using hl) fun k c u hk hu => ?_
    obtain ⟨c0, h0, rfl⟩ := map_get hk
    exact ⟨(hc k c0 u h0 hu).1, (hc k c0 u h0 hu).2.kill hβ⟩
  | mp b clock ents hv hh he => exact .mp b clock ents hv hh he
  | dp hd he => exact .dp hd he
  | dq b cap cur us fs hv hh h1 h2 h3 h4 h5 h6 h7 h8 h9 h10 h11 h12 h13 hF =>
    refine .dq b cap cur us fs hv hh h1 h2 h3 h4 (by simpa using h5) h6 h7 h8 h9 (fun k c hk => ?_) h11 h12 h13 hF
    obtain ⟨c0, h0, rfl⟩ := map_get hk
    exact (h10 k c0 h0).upq fun h => h.kill hβ

theorem R.val_eq {w : World} {X : Nat → Prop} {β β' : Nat → BV} (hβ : ∀ i, (β' i).val = (β i).val) {x : SV} {v : Value} (h : R w X β x v) : R w X β' x v := by
  induction h with
  | p h => exact .p h
  | own id => rw [← hβ id]; exact .own id
  | ptr id s i k b h => exact .ptr id s i k b (by rw [hβ id]; exact h)
  | rptr s rows i k b off cap h => exact .rptr s rows i k b off cap h
  | agg hl _ ih => exact .agg hl ih
  | tup hl _ ih => exact .tup hl ih
  | fn hl _ ih => exact .fn hl ih
  | cond _ hn ih => exact .cond ih hn
  | junk v => exact .junk v
theorem ObR.val_eq {w : World} {X : Nat → Prop} {β β' : Nat → BV} {v : BV} (hβ : ∀ i, (β' i).val = (β i).val) {ob : Ob} (h : ObR w X β v ob) : ObR w X β' v ob := by
  cases h with
  | nil e s h => exact .nil e s h
  | sl b cap cur us hv hh h1 h2 h3 h4 h5 h6 h7 => exact .sl b cap cur us hv hh h1 h2 h3 h4 h5 h6 h7
  | box b cur hv hh hl hc => exact .box b cur hv hh hl fun k c u hk hu => ⟨(hc k c u hk hu).1, (hc k c u hk hu).2.val_eq hβ⟩
  | mp b clock ents hv hh he => exact .mp b clock ents hv hh he
  | dp hd he => exact .dp hd he
  | dq b cap cur us fs hv hh h1 h2 h3 h4 h5 h6 h7 h8 h9 h10 h11 h12 h13 hF => exact .dq b cap cur us fs hv hh h1 h2 h3 h4 h5 h6 h7 h8 h9 (fun k c hk => (h10 k c hk).imp id fun ⟨p, q, r⟩ => ⟨p, q.val_eq hβ, r⟩) h11 h12 h13 hF

/-- the blocks that the caller has lent -/
def MB (M : Nat → BV → Prop) (b : Nat) : Prop := ∃ id v, M id v ∧ v.ft b

structure Sim (N : Nat) (X0 : Nat → Prop) (M : Nat → BV → Prop) (w0 : World) (st : St) (β : Nat → BV) (a : Act) (w : World) : Prop where
  size : a.tmps.size = N
  defers : a.defers = []
  beta : ∀ i, (β i).val.oneCell' = true
  slots : ∀ t x, lk t st.fr = some x → R w (XX X0 β st.hp) β x (a.tmps.getD t undef)
  objs : ∀ id ob, lk id st.hp = some ob → ObR w (XX X0 β st.hp) β (β id) ob
  inj : ∀ i j oi oj b, lk i st.hp = some oi → lk j st.hp = some oj → (β i).ft b → (β j).ft b → i = j
  x0 : ∀ b, X0 b → b < w.heap.size
  mine : ∀ id ob b, lk id st.hp = some ob → (β id).ft b → MB M b ∨ w0.heap.size ≤ b
  pin : ∀ id v, M id v → 1000000 ≤ id → (β id).val = v.val
  few : N ≤ 900000
  os : w.os = w0.os
  tape : w.tape = w0.tape
  output : w.output = w0.output
  grew : w0.heap.size ≤ w.heap.size
  kept : ∀ b, b < w0.heap.size → ¬ MB M b → w.heap[b]? = w0.heap[b]?

section
variable {N : Nat} {X0 : Nat → Prop} {M : Nat → BV → Prop} {w0 : World} {st : St} {β : Nat → BV} {a : Act} {w : World}

theorem Sim.live (h : Sim N X0 M w0 st β a w) {b : Nat} (hb : XX X0 β st.hp b) : b < w.heap.size := by
  rcases hb with hb | ⟨id, ob, hi, hb⟩
  · exact h.x0 b hb
  · exact (h.objs id ob hi).lt hb

theorem getD_put_same {a : Act} {d : Nat} {v : Value} (h : d < a.tmps.size) : (a.put (some d) v).tmps.getD d undef = v := by
  simp [Act.put, Array.getD_eq_getD_getElem?, h]
theorem getD_put_ne {a : Act} {d t : Nat} {v : Value} (h : t ≠ d) : (a.put (some d) v).tmps.getD t undef = a.tmps.getD t undef := by
  simp [Act.put, Array.getD_eq_getD_getElem?, Array.getElem?_setIfInBounds_ne (Ne.symm h)]

/-- a value into a slot -/
theorem Sim.put (h : Sim N X0 M w0 st β a w) {d : Nat} (hd : d < N) {x : SV} {v : Value} (hx : R w (XX X0 β st.hp) β x v) :
    Sim N X0 M w0 (st.put (some d) x) β (a.put (some d) v) w where
  size := by simpa [Act.put] using h.size
  defers := h.defers
  beta := h.beta
  slots := fun t y hy => by
    simp only [St.put, lk] at hy
    by_cases ht : t = d
    · rw [if_pos ht] at hy
      cases hy
      subst ht
      rw [getD_put_same (by rw [h.size]; exact hd)]
      exact hx
    · rw [if_neg ht, lk_er_ne ht] at hy
      rw [getD_put_ne ht]
      exact h.slots t y hy
  objs := h.objs
  inj := h.inj
  x0 := h.x0
  mine := h.mine
  pin := h.pin
  few := h.few
  os := h.os
  tape := h.tape
  output := h.output
  grew := h.grew
  kept := h.kept

theorem Sim.putN (h : Sim N X0 M w0 st β a w) (v : Value) : Sim N X0 M w0 st β (a.put none v) w := h

theorem lk_filter {α : Type} (p : Nat → Bool) {t : Nat} {x : α} : ∀ {l : List (Nat × α)}, lk t (l.filter fun q => p q.1) = some x → lk t l = some x
  | [], h => h
  | (u, y) :: l, h => by
    simp only [List.filter_cons] at h
    by_cases hu : p u = true
    · simp only [hu, if_true, lk] at h ⊢
      by_cases ht : t = u
      · simpa [ht] using h
      · simp only [ht, if_false] at h ⊢; exact lk_filter p h
    · simp only [hu, Bool.false_eq_true, if_false] at h
      have h1 := lk_filter p h
      simp only [lk]
      by_cases ht : t = u
      · subst ht
        exact absurd h (by rw [lk_filter_none p (by simpa using hu)]; simp)
      · rw [if_neg ht]; exact h1
where
  lk_filter_none {α : Type} (p : Nat → Bool) {t : Nat} (hp : p t = false) : ∀ {l : List (Nat × α)}, lk t (l.filter fun q => p q.1) = none
  | [] => rfl
  | (u, y) :: l => by
    simp only [List.filter_cons]
    by_cases hu : p u = true
    · simp only [hu, if_true, lk]
      have : t ≠ u := fun e => by subst e; rw [hp] at hu; cases hu
      rw [if_neg this]; exact lk_filter_none p hp
    · simp only [hu, Bool.false_eq_true, if_false]; exact lk_filter_none p hp

/-- fewer slots, fewer objects -/
theorem Sim.less (h : Sim N X0 M w0 st β a w) {st' : St} (hf : ∀ t x, lk t st'.fr = some x → lk t st.fr = some x) (hh : ∀ t x, lk t st'.hp = some x → lk t st.hp = some x) :
    Sim N X0 M w0 st' β a w := by
  have hX : ∀ b, b < w.heap.size → XX X0 β st'.hp b → XX X0 β st.hp b := fun b _ hb => by
    rcases hb with hb | ⟨id, ob, hi, hb⟩
    · exact .inl hb
    · exact .inr ⟨id, ob, hh _ _ hi, hb⟩
  have hS : Same (XX X0 β st.hp) w w := ⟨Nat.le_refl _, fun _ _ _ => rfl⟩
  exact { h with
    slots := fun t x hx => (h.slots t x (hf t x hx)).mono hS hX
    objs := fun id ob hi => (h.objs id ob (hh _ _ hi)).mono hS hX (fun _ _ => rfl)
    inj := fun i j oi oj b hi hj => h.inj i j oi oj b (hh _ _ hi) (hh _ _ hj)
    mine := fun id ob b hi => h.mine id ob b (hh _ _ hi) }

theorem Sim.keep (h : Sim N X0 M w0 st β a w) (ts ids : List Nat) : Sim N X0 M w0 (st.keep ts ids) β a w :=
  h.less (fun _ _ hx => lk_filter (fun t => ts.contains t) hx) (fun _ _ hx => lk_filter (fun t => ids.contains t) hx)


/-- object d is no more, and its block may have turned; some blocks are set apart -/
theorem Sim.kill (h : Sim N X0 M w0 st β a w) (d : Nat) (hdl : d < 1000000) {β' : Nat → BV} (hβ : ∀ i, i ≠ d → β' i = β i) (hβd : (β' d).val.oneCell' = true) {w' : World} (hos : w'.os = w.os) (htape : w'.tape = w.tape) (hout : w'.output = w.output)
    (hsz : w.heap.size ≤ w'.heap.size) (hb : ∀ b, b < w.heap.size → (lk d st.hp ≠ none → ¬ (β d).ft b) → w'.heap[b]? = w.heap[b]?)
    {X1 : Nat → Prop} (h1 : ∀ b, b < w.heap.size → X1 b → XX X0 β st.hp b) (h2 : ∀ b, X1 b → b < w'.heap.size) :
    Sim N X1 M w0 (st.kill d) β' a w' := by
  have hl : ∀ (t : Nat) (x : Ob), lk t (st.kill d).hp = some x → t ≠ d ∧ ∃ y, lk t st.hp = some y ∧ x = y.kill d := fun t x hx => by
    simp only [St.kill, lk_map] at hx
    by_cases ht : t = d
    · subst ht; rw [lk_er_self] at hx; cases hx
    · rw [lk_er_ne ht] at hx
      cases hy : lk t st.hp with
      | none => rw [hy] at hx; cases hx
      | some y => rw [hy] at hx; exact ⟨ht, y, rfl, by simpa using hx.symm⟩
  have hX : ∀ b, b < w.heap.size → XX X1 β' (st.kill d).hp b → XX X0 β st.hp b := fun b hlt hb => by
    rcases hb with hb | ⟨id, ob, hi, hb⟩
    · exact h1 b hlt hb
    · obtain ⟨hne, y, hy, _⟩ := hl id ob hi
      exact .inr ⟨id, y, hy, by rw [← hβ id hne]; exact hb⟩
  have hS : Same (XX X0 β st.hp) w w' := ⟨hsz, fun b hlt hn => hb b hlt (fun hd he => hn (.inr ⟨d, (lk d st.hp).get (Option.isSome_iff_ne_none.2 hd), by simp, he⟩))⟩
  exact {
    size := h.size
    defers := h.defers
    beta := fun i => by
      by_cases hi : i = d
      · rw [hi]; exact hβd
      · rw [hβ i hi]; exact h.beta i
    slots := fun t x hx => by
      simp only [St.kill, lk_map] at hx
      cases hy : lk t st.fr with
      | none => rw [hy] at hx; cases hx
      | some y =>
        rw [hy] at hx
        have hx' : y.kill d = x := by simpa using hx
        subst hx'
        exact ((h.slots t y hy).mono hS hX).kill fun i hi => congrArg BV.val (hβ i hi)
    objs := fun id ob hi => by
      obtain ⟨hne, y, hy, rfl⟩ := hl id ob hi
      rw [hβ id hne]
      refine ObR.kill (fun i hi => congrArg BV.val (hβ i hi)) ((h.objs id y hy).mono hS hX fun b hbb => hb b ((h.objs id y hy).lt hbb) fun hd he => ?_)
      exact hne (h.inj id d y ((lk d st.hp).get (Option.isSome_iff_ne_none.2 hd)) b hy (by simp) hbb he)
    inj := fun i j oi oj b hi hj hbi hbj => by
      obtain ⟨hni, yi, hyi, _⟩ := hl i oi hi
      obtain ⟨hnj, yj, hyj, _⟩ := hl j oj hj
      rw [hβ i hni] at hbi
      rw [hβ j hnj] at hbj
      exact h.inj i j yi yj b hyi hyj hbi hbj
    x0 := h2
    mine := fun id ob b hi hbb => by
      obtain ⟨hne, y, hy, _⟩ := hl id ob hi
      rw [hβ id hne] at hbb
      exact h.mine id y b hy hbb
    pin := fun id v hm h1 => by rw [hβ id (by omega)]; exact h.pin id v hm h1
    few := h.few
    os := hos.trans h.os
    tape := htape.trans h.tape
    output := hout.trans h.output
    grew := Nat.le_trans h.grew hsz
    kept := fun b hb0 hM => by
      rw [hb b (Nat.lt_of_lt_of_le hb0 h.grew) (fun hd he => ?_)]
      · exact h.kept b hb0 hM
      · rcases h.mine d ((lk d st.hp).get (Option.isSome_iff_ne_none.2 hd)) b (by simp) he with hm | hm
        · exact hM hm
        · omega }

/-- the world has grown; some new blocks are set apart -/
theorem Sim.grow (h : Sim N X0 M w0 st β a w) {w' : World} (hb : Go.RowKit.Below w.heap.size w w') {X1 : Nat → Prop} (h1 : ∀ b, b < w.heap.size → X1 b → XX X0 β st.hp b) (h2 : ∀ b, X1 b → b < w'.heap.size) :
    Sim N X1 M w0 st β a w' := by
  have hX : ∀ b, b < w.heap.size → XX X1 β st.hp b → XX X0 β st.hp b := fun b hlt hb => by
    rcases hb with hb | hb
    · exact h1 b hlt hb
    · exact .inr hb
  have hS : Same (XX X0 β st.hp) w w' := ⟨hb.size, fun b hlt _ => hb.block b hlt⟩
  exact { h with
    slots := fun t x hx => (h.slots t x hx).mono hS hX
    objs := fun id ob hi => (h.objs id ob hi).mono hS hX fun b hbb => hb.block b ((h.objs id ob hi).lt hbb)
    x0 := h2
    os := hb.os.trans h.os
    tape := hb.tape.trans h.tape
    output := hb.output.trans h.output
    grew := Nat.le_trans h.grew hb.size
    kept := fun b hb0 hM => (hb.block b (Nat.lt_of_lt_of_le hb0 h.grew)).trans (h.kept b hb0 hM) }

/-- fewer blocks set apart -/
theorem Sim.un (h : Sim N X0 M w0 st β a w) {X1 : Nat → Prop} (h1 : ∀ b, X1 b → X0 b) : Sim N X1 M w0 st β a w :=
  h.grow (Go.RowKit.Below.refl _ _) (fun b _ hb => .inl (h1 b hb)) (fun b hb => h.x0 b (h1 b hb))

/-- a new object, nowhere named, its block set apart -/
theorem Sim.add (h : Sim N X0 M w0 st β a w) {j : Nat} (hj : lk j st.hp = none) {ob : Ob}
    (hob : ObR w (XX X0 β st.hp) β (β j) ob) (hx0 : ∀ b, (β j).ft b → X0 b) (hm : ∀ b, (β j).ft b → MB M b ∨ w0.heap.size ≤ b)
    (hdis : ∀ b id o, (β j).ft b → lk id st.hp = some o → ¬ (β id).ft b) :
    Sim N X0 M w0 { st with hp := (j, ob) :: st.hp } β a w := by
  have hX : ∀ b, b < w.heap.size → XX X0 β ((j, ob) :: st.hp) b → XX X0 β st.hp b := fun b _ hb => by
    rcases hb with hb | ⟨id, o, hi, hb⟩
    · exact .inl hb
    · simp only [lk] at hi
      by_cases he : id = j
      · subst he; exact .inl (hx0 b hb)
      · rw [if_neg he] at hi; exact .inr ⟨id, o, hi, hb⟩
  have hS : Same (XX X0 β st.hp) w w := ⟨Nat.le_refl _, fun _ _ _ => rfl⟩
  exact { h with
    slots := fun t x hx => (h.slots t x hx).mono hS hX
    objs := fun id o hi => by
      simp only [lk] at hi
      by_cases he : id = j
      · subst he; simp only [if_true, Option.some.injEq] at hi; subst hi; exact hob.mono hS hX (fun _ _ => rfl)
      · rw [if_neg he] at hi; exact (h.objs id o hi).mono hS hX (fun _ _ => rfl)
    inj := fun i k oi ok b hi hk hbi hbk => by
      simp only [lk] at hi hk
      by_cases hij : i = j <;> by_cases hkj : k = j
      · rw [hij, hkj]
      · subst hij; rw [if_neg hkj] at hk; exact absurd hbk (hdis b k ok hbi hk)
      · subst hkj; rw [if_neg hij] at hi; exact absurd hbi (hdis b i oi hbk hi)
      · rw [if_neg hij] at hi; rw [if_neg hkj] at hk; exact h.inj i k oi ok b hi hk hbi hbk
    mine := fun id o b hi hb => by
      simp only [lk] at hi
      by_cases he : id = j
      · subst he; exact hm b hb
      · rw [if_neg he] at hi; exact h.mine id o b hi hb }

/-- an object is written -/
theorem Sim.write (h : Sim N X0 M w0 st β a w) {j : Nat} {ob ob' : Ob} (hj : lk j st.hp = some ob) {w' : World} (hos : w'.os = w.os) (htape : w'.tape = w.tape) (hout : w'.output = w.output)
    (hsz : w.heap.size ≤ w'.heap.size) (hb : ∀ b, b < w.heap.size → ¬ (β j).ft b → w'.heap[b]? = w.heap[b]?)
    (hob : ObR w' (XX X0 β st.hp) β (β j) ob') : Sim N X0 M w0 { st with hp := (j, ob') :: er j st.hp } β a w' := by
  have hl : ∀ (t : Nat) (x : Ob), lk t ((j, ob') :: er j st.hp) = some x → (t = j ∧ x = ob') ∨ (t ≠ j ∧ lk t st.hp = some x) := fun t x hx => by
    simp only [lk] at hx
    by_cases ht : t = j
    · rw [if_pos ht] at hx; exact .inl ⟨ht, by simpa using hx.symm⟩
    · rw [if_neg ht, lk_er_ne ht] at hx; exact .inr ⟨ht, hx⟩
  have hX : ∀ b, XX X0 β ((j, ob') :: er j st.hp) b → XX X0 β st.hp b := fun b hb => by
    rcases hb with hb | ⟨id, o, hi, hbb⟩
    · exact .inl hb
    · rcases hl id o hi with ⟨rfl, _⟩ | ⟨_, hi⟩
      · exact .inr ⟨id, ob, hj, hbb⟩
      · exact .inr ⟨id, o, hi, hbb⟩
  have hS : Same (XX X0 β st.hp) w w' := ⟨by omega, fun b hlt hn => hb b hlt fun he => hn (.inr ⟨j, ob, hj, he⟩)⟩
  have hS' : Same (XX X0 β st.hp) w' w' := ⟨Nat.le_refl _, fun _ _ _ => rfl⟩
  exact { h with
    slots := fun t x hx => (h.slots t x hx).mono hS (fun b _ => hX b)
    objs := fun id o hi => by
      rcases hl id o hi with ⟨rfl, rfl⟩ | ⟨hne, hi⟩
      · exact hob.mono hS' (fun b _ => hX b) (fun _ _ => rfl)
      · exact (h.objs id o hi).mono hS (fun b _ => hX b) fun b hbb => hb b ((h.objs id o hi).lt hbb) fun he => hne (h.inj id j o ob b hi hj hbb he)
    inj := fun i k oi ok b hi hk hbi hbk => by
      have e1 : ∃ o, lk i st.hp = some o := by
        rcases hl i oi hi with ⟨rfl, _⟩ | ⟨_, hi⟩
        · exact ⟨_, hj⟩
        · exact ⟨_, hi⟩
      have e2 : ∃ o, lk k st.hp = some o := by
        rcases hl k ok hk with ⟨rfl, _⟩ | ⟨_, hi⟩
        · exact ⟨_, hj⟩
        · exact ⟨_, hi⟩
      obtain ⟨o1, e1⟩ := e1
      obtain ⟨o2, e2⟩ := e2
      exact h.inj i k o1 o2 b e1 e2 hbi hbk
    x0 := fun b hb => by have := h.x0 b hb; omega
    mine := fun id o b hi hbb => by
      rcases hl id o hi with ⟨rfl, _⟩ | ⟨_, hi⟩
      · exact h.mine id ob b hj hbb
      · exact h.mine id o b hi hbb
    os := hos.trans h.os
    tape := htape.trans h.tape
    output := hout.trans h.output
    grew := Nat.le_trans h.grew hsz
    kept := fun b hb0 hM => by
      rw [hb b (Nat.lt_of_lt_of_le hb0 h.grew) (fun he => ?_)]
      · exact h.kept b hb0 hM
      · rcases h.mine j ob b hj he with hm | hm
        · exact hM hm
        · omega }

/-- .. and its blocks are fewer -/
theorem Sim.writeQ (h : Sim N X0 M w0 st β a w) {j : Nat} {ob ob' : Ob} (hj : lk j st.hp = some ob) {v : BV} (hvv : v.val = (β j).val) (hft : ∀ b, v.ft b → (β j).ft b) {β' : Nat → BV} (hβ' : β' j = v) (hβ'' : β' = fun i => if i = j then v else β i) {w' : World} (hos : w'.os = w.os) (htape : w'.tape = w.tape) (hout : w'.output = w.output)
    (hsz : w.heap.size ≤ w'.heap.size) (hb : ∀ b, b < w.heap.size → ¬ (β j).ft b → w'.heap[b]? = w.heap[b]?)
    (hob : ObR w' (XX X0 β st.hp) β' v ob') : Sim N X0 M w0 { st with hp := (j, ob') :: er j st.hp } β' a w' := by
  have hval : ∀ i, (β' i).val = (β i).val := fun i => by
    rw [hβ'']
    show (if i = j then v else β i).val = _
    split
    · rename_i e; rw [e, hvv]
    · rfl
  have hother : ∀ i, i ≠ j → β' i = β i := fun i hi => by rw [hβ'']; exact if_neg hi
  have hfts : ∀ i b, (β' i).ft b → (β i).ft b := fun i b hb => by
    by_cases hi : i = j
    · rw [hi] at hb ⊢; rw [hβ'] at hb; exact hft b hb
    · rw [hother i hi] at hb; exact hb
  have hl : ∀ (t : Nat) (x : Ob), lk t ((j, ob') :: er j st.hp) = some x → (t = j ∧ x = ob') ∨ (t ≠ j ∧ lk t st.hp = some x) := fun t x hx => by
    simp only [lk] at hx
    by_cases ht : t = j
    · rw [if_pos ht] at hx; exact .inl ⟨ht, by simpa using hx.symm⟩
    · rw [if_neg ht, lk_er_ne ht] at hx; exact .inr ⟨ht, hx⟩
  have hX : ∀ b, XX X0 β' ((j, ob') :: er j st.hp) b → XX X0 β st.hp b := fun b hb => by
    rcases hb with hb | ⟨id, o, hi, hbb⟩
    · exact .inl hb
    · rcases hl id o hi with ⟨rfl, _⟩ | ⟨_, hi⟩
      · exact .inr ⟨id, ob, hj, hfts _ _ hbb⟩
      · exact .inr ⟨id, o, hi, hfts _ _ hbb⟩
  have hS : Same (XX X0 β st.hp) w w' := ⟨by omega, fun b hlt hn => hb b hlt fun he => hn (.inr ⟨j, ob, hj, he⟩)⟩
  have hS' : Same (XX X0 β st.hp) w' w' := ⟨Nat.le_refl _, fun _ _ _ => rfl⟩
  exact { h with
    beta := fun i => by rw [hval]; exact h.beta i
    slots := fun t x hx => ((h.slots t x hx).mono hS (fun b _ => hX b)).val_eq hval
    objs := fun id o hi => by
      rcases hl id o hi with ⟨rfl, rfl⟩ | ⟨hne, hi⟩
      · rw [hβ']; exact hob.mono hS' (fun b _ => hX b) (fun _ _ => rfl)
      · rw [hother id hne]; exact ((h.objs id o hi).mono hS (fun b _ => hX b) fun b hbb => hb b ((h.objs id o hi).lt hbb) fun he => hne (h.inj id j o ob b hi hj hbb he)).val_eq hval
    inj := fun i k oi ok b hi hk hbi hbk => by
      have e1 : ∃ o, lk i st.hp = some o := by
        rcases hl i oi hi with ⟨rfl, _⟩ | ⟨_, hi⟩
        · exact ⟨_, hj⟩
        · exact ⟨_, hi⟩
      have e2 : ∃ o, lk k st.hp = some o := by
        rcases hl k ok hk with ⟨rfl, _⟩ | ⟨_, hi⟩
        · exact ⟨_, hj⟩
        · exact ⟨_, hi⟩
      obtain ⟨o1, e1⟩ := e1
      obtain ⟨o2, e2⟩ := e2
      exact h.inj i k o1 o2 b e1 e2 (hfts _ _ hbi) (hfts _ _ hbk)
    x0 := fun b hb => by have := h.x0 b hb; omega
    mine := fun id o b hi hbb => by
      rcases hl id o hi with ⟨rfl, _⟩ | ⟨_, hi⟩
      · exact h.mine id ob b hj (hfts _ _ hbb)
      · exact h.mine id o b hi (hfts _ _ hbb)
    pin := fun id u hm h1 => by rw [hval]; exact h.pin id u hm h1
    os := hos.trans h.os
    tape := htape.trans h.tape
    output := hout.trans h.output
    grew := Nat.le_trans h.grew hsz
    kept := fun b hb0 hM => by
      rw [hb b (Nat.lt_of_lt_of_le hb0 h.grew) (fun he => ?_)]
      · exact h.kept b hb0 hM
      · rcases h.mine j ob b hj he with hm | hm
        · exact hM hm
        · omega }

theorem XX_kill {β' : Nat → BV} {d : Nat} (hβ : ∀ i, i ≠ d → β' i = β i) {X1 : Nat → Prop} {b : Nat} (h1 : X1 b → XX X0 β st.hp b) (hb : XX X1 β' (st.kill d).hp b) : XX X0 β st.hp b := by
  rcases hb with hb | ⟨id, ob, hi, hb⟩
  · exact h1 hb
  · simp only [St.kill, lk_map] at hi
    by_cases ht : id = d
    · subst ht; rw [lk_er_self] at hi; cases hi
    · rw [lk_er_ne ht] at hi
      cases hy : lk id st.hp with
      | none => rw [hy] at hi; cases hi
      | some y => exact .inr ⟨id, y, hy, by rw [← hβ id ht]; exact hb⟩

theorem lk_kill (st : St) (d : Nat) : lk d (st.kill d).hp = none := by
  simp only [St.kill, lk_map, lk_er_self, Option.map_none]

/-- a new object, in a block that the world has just got -/
theorem Sim.fresh (h : Sim N X0 M w0 st β a w) {d : Nat} (hd : d < N) {w' : World} (hb : Go.RowKit.Below w.heap.size w w') {v : BV} {ob : Ob} (hv1 : v.val.oneCell' = true)
    (hv : ∀ b, v.ft b → w.heap.size ≤ b ∧ b < w'.heap.size) (hob : ∀ X' : Nat → Prop, (∀ b, b < w.heap.size → X' b → XX X0 β st.hp b) → ObR w' X' β v ob) {x : SV}
    (hx : x = .own d ∨ x = .ptr d 0 0 0 ∧ ∃ b, v = plain (.pointer (some ⟨b, 0, none⟩))) : ∃ β', Sim N X0 M w0 (st.new d ob x) β' (a.put (some d) v.val) w' := by
  let β' : Nat → BV := fun i => if i = d then v else β i
  have hβ : ∀ i, i ≠ d → β' i = β i := fun i hi => by show (if i = d then v else β i) = _; rw [if_neg hi]
  have hβd : β' d = v := by show (if d = d then v else β d) = _; rw [if_pos rfl]
  have h1 : Sim N (fun b => X0 b ∨ v.ft b) M w0 (st.kill d) β' a w' := by
    refine h.kill d (by have := h.few; omega) hβ (by rw [hβd]; exact hv1) hb.os hb.tape hb.output hb.size (fun b hlt _ => hb.block b hlt) (fun b hlt hh => ?_) (fun b hh => ?_)
    · rcases hh with hh | hh
      · exact .inl hh
      · have := (hv b hh).1; omega
    · rcases hh with hh | hh
      · exact Nat.lt_of_lt_of_le (h.x0 b hh) hb.size
      · exact (hv b hh).2
  have hX : ∀ b, b < w.heap.size → XX (fun b => X0 b ∨ v.ft b) β' (st.kill d).hp b → XX X0 β st.hp b := fun b hlt hh =>
    XX_kill hβ (fun hh => by
      rcases hh with hh | hh
      · exact .inl hh
      · have := (hv b hh).1; omega) hh
  have h2 := h1.add (j := d) (lk_kill st d) (ob := ob.kill d) (by rw [hβd]; exact (hob _ hX).kill fun i hi => congrArg BV.val (hβ i hi)) (fun b hh => .inr (by rw [hβd] at hh; exact hh))
    (fun b hh => by rw [hβd] at hh; exact .inr (Nat.le_trans h.grew (hv b hh).1))
    (fun b id o hh hi he => by
      rw [hβd] at hh
      have hlt : b < w.heap.size := by
        have hne : id ≠ d := fun e => by subst e; rw [lk_kill] at hi; cases hi
        rw [hβ id hne] at he
        simp only [St.kill, lk_map] at hi
        rw [lk_er_ne hne] at hi
        cases hy : lk id st.hp with
        | none => rw [hy] at hi; cases hi
        | some y => exact (h.objs id y hy).lt he
      have := (hv b hh).1
      omega)
  have h3 := h2.un (X1 := X0) (fun b hh => .inl hh)
  refine ⟨β', h3.put hd (x := x) ?_⟩
  rcases hx with rfl | ⟨rfl, b, hvb⟩
  · have := R.own (w := w') (X := XX X0 β' ((d, ob.kill d) :: (st.kill d).hp)) (β := β') d
    rw [hβd] at this
    exact this
  · have := R.ptr (w := w') (X := XX X0 β' ((d, ob.kill d) :: (st.kill d).hp)) (β := β') d 0 0 0 b (by rw [hβd, hvb]; rfl)
    rw [hvb]
    simpa [plain] using this

/-! ## another number for an object; an object that is written no more -/

def SV.re1 (i j : Nat) : SV → SV
  | .own k => if k = i then .own j else .own k
  | .ptr k s a b => if k = i then .ptr j s a b else .ptr k s a b
  | .agg _ => .junk
  | .tup _ => .junk
  | .fn _ _ => .junk
  | .cond _ _ => .junk
  | x => x
def Ob.up (f : SV → SV) : Ob → Ob
  | .sl e s rows => .sl e s rows
  | .box e cs => .box e (cs.map (SV.up f))
  | .mp e es => .mp e es
  | .dp e s rows => .dp e s rows
  | .dq e s rows i row => .dq e s rows i (row.map (SV.upq (SV.up f)))
/-- object i is called j from here on -/
def St.mv (st : St) (i j : Nat) : St :=
  match lk i st.hp with
  | some ob => { fr := (st.kill j).fr.map fun p => (p.1, p.2.up (SV.re1 i j)), hp := (j, (ob.kill j).up (SV.re1 i j)) :: (er i (st.kill j).hp).map fun p => (p.1, p.2.up (SV.re1 i j)) }
  | none => st

theorem ObR.up {X X' : Nat → Prop} {β' : Nat → BV} {v : BV} {f : SV → SV} (hR : ∀ x v, R w X β x v → R w X' β' (f x) v) (hP : ∀ x v, Rp w X x v → Rp w X' x v) {ob : Ob} (h : ObR w X β v ob) : ObR w X' β' v (ob.up f) := by
  cases h with
  | nil e s h => exact .nil e s h
  | sl b cap cur us hv hh h1 h2 h3 h4 h5 h6 h7 => exact .sl b cap cur us hv hh h1 h2 h3 h4 h5 h6 (fun i k row c a b => hP _ _ (h7 i k row c a b))
  | box b cur hv hh hl hc =>
    refine .box b cur hv hh (by simpa using hl) fun k c u hk hu => ?_
    obtain ⟨c0, h0, rfl⟩ := map_get hk
    exact ⟨(hc k c0 u h0 hu).1, (hc k c0 u h0 hu).2.up hR⟩
  | mp b clock ents hv hh he => exact .mp b clock ents hv hh he
  | dp hd he => exact .dp hd he
  | dq b cap cur us fs hv hh h1 h2 h3 h4 h5 h6 h7 h8 h9 h10 h11 h12 h13 hF =>
    refine .dq b cap cur us fs hv hh h1 h2 h3 h4 (by simpa using h5) h6 h7 h8 h9 (fun k c hk => ?_) h11 h12 h13 hF
    obtain ⟨c0, h0, rfl⟩ := map_get hk
    exact (h10 k c0 h0).upq fun h => h.up hR

theorem R.re1 {X : Nat → Prop} {i j : Nat} (hij : β j = β i) {x : SV} {v : Value} (h : R w X β x v) : R w X β (x.re1 i j) v := by
  cases x with
  | own k =>
    have := h.own_inv; subst this
    show R w X β (if k = i then .own j else .own k) _
    by_cases hk : k = i
    · rw [if_pos hk, hk, ← hij]; exact .own j
    · rw [if_neg hk]; exact .own k
  | ptr k s a b =>
    obtain ⟨bb, hb, rfl⟩ := h.ptr_inv
    show R w X β (if k = i then .ptr j s a b else .ptr k s a b) _
    by_cases hk : k = i
    · rw [if_pos hk]; exact .ptr j s a b bb (by rw [hij, ← hk]; exact hb)
    · rw [if_neg hk]; exact .ptr k s a b bb hb
  | v x => exact h
  | sl s rows => exact h
  | rptr s rows a b => exact h
  | agg cs => exact .junk _
  | tup cs => exact .junk _
  | fn f cs => exact .junk _
  | cond g x => exact .junk _
  | junk => exact .junk _

theorem lk_kill_ne {st : St} {d t : Nat} (h : t ≠ d) : lk t (st.kill d).hp = (lk t st.hp).map (Ob.kill d) := by
  simp only [St.kill, lk_map]
  rw [lk_er_ne h]

theorem Sim.mv (h : Sim N X0 M w0 st β a w) {i j : Nat} (hj : j < 1000000) (hij : i ≠ j) : ∃ β', Sim N X0 M w0 (st.mv i j) β' a w := by
  unfold St.mv
  cases hi : lk i st.hp with
  | none => exact ⟨β, h⟩
  | some ob =>
    simp only
    have hβ : ∀ k, k ≠ j → (fun k => if k = j then β i else β k) k = β k := fun k hk => by simp [hk]
    have h1 := h.kill j hj (β' := fun k => if k = j then β i else β k) hβ (by simp [h.beta]) (w' := w) rfl rfl rfl (Nat.le_refl _) (fun _ _ _ => rfl) (X1 := X0) (fun b _ hb => .inl hb) h.x0
    refine ⟨fun k => if k = j then β i else β k, ?_⟩
    generalize hB : (fun k => if k = j then β i else β k) = B at h1 hβ
    have hBij : B j = B i := by rw [← hB]; simp
    have hik : lk i (st.kill j).hp = some (ob.kill j) := by rw [lk_kill_ne hij, hi]; rfl
    generalize hs : st.kill j = s1 at h1 hik
    generalize hob : ob.kill j = ob1 at hik
    have hjn : lk j s1.hp = none := by rw [← hs]; exact lk_kill st j
    have hl : ∀ (t : Nat) (o : Ob), lk t ((j, ob1.up (SV.re1 i j)) :: (er i s1.hp).map fun p => (p.1, p.2.up (SV.re1 i j))) = some o → ∃ t0 o0, lk t0 s1.hp = some o0 ∧ o = o0.up (SV.re1 i j) ∧ B t = B t0 ∧ (t = j → t0 = i) ∧ (t ≠ j → t0 = t ∧ t ≠ i) := by
      intro t o ht
      simp only [lk] at ht
      by_cases htj : t = j
      · rw [if_pos htj] at ht; cases ht
        exact ⟨i, ob1, hik, rfl, by rw [htj]; exact hBij, fun _ => rfl, fun hn => absurd htj hn⟩
      · rw [if_neg htj, lk_map] at ht
        by_cases hti : t = i
        · subst hti; rw [lk_er_self] at ht; cases ht
        · rw [lk_er_ne hti] at ht
          cases hq : lk t s1.hp with
          | none => rw [hq] at ht; cases ht
          | some o0 => rw [hq] at ht; exact ⟨t, o0, hq, by simpa using ht.symm, rfl, fun e => absurd e htj, fun _ => ⟨rfl, hti⟩⟩
    have hX : ∀ b, XX X0 B ((j, ob1.up (SV.re1 i j)) :: (er i s1.hp).map fun p => (p.1, p.2.up (SV.re1 i j))) b → XX X0 B s1.hp b := fun b hb => by
      rcases hb with hb | ⟨t, o, ht, hb⟩
      · exact .inl hb
      · obtain ⟨t0, o0, h2, _, h3, _⟩ := hl t o ht
        exact .inr ⟨t0, o0, h2, by rw [← h3]; exact hb⟩
    have hS : Same (XX X0 B s1.hp) w w := ⟨Nat.le_refl _, fun _ _ _ => rfl⟩
    exact { h1 with
      slots := fun t x hx => by
        rw [lk_map] at hx
        cases hy : lk t s1.fr with
        | none => rw [hy] at hx; cases hx
        | some y =>
          rw [hy] at hx
          have hx' : y.up (SV.re1 i j) = x := by simpa using hx
          subst hx'
          exact ((h1.slots t y hy).mono hS (fun b _ => hX b)).up fun x v hh => hh.re1 hBij
      objs := fun id o hi' => by
        obtain ⟨t0, o0, h2, rfl, h3, _⟩ := hl id o hi'
        rw [h3]
        exact ((h1.objs t0 o0 h2).mono hS (fun b _ => hX b) (fun _ _ => rfl)).up (fun x v hh => hh.re1 hBij) (fun _ _ hh => hh)
      inj := fun p q op oq b hp hq hbp hbq => by
        obtain ⟨p0, o1, e1, _, e2, e3, e4⟩ := hl p op hp
        obtain ⟨q0, o2, f1, _, f2, f3, f4⟩ := hl q oq hq
        have := h1.inj p0 q0 o1 o2 b e1 f1 (by rw [← e2]; exact hbp) (by rw [← f2]; exact hbq)
        by_cases hpj : p = j <;> by_cases hqj : q = j
        · rw [hpj, hqj]
        · have := e3 hpj; have := f4 hqj; omega
        · have := e4 hpj; have := f3 hqj; omega
        · have := e4 hpj; have := f4 hqj; omega
      mine := fun id o b hi' hb => by
        obtain ⟨t0, o0, h2, _, h3, _⟩ := hl id o hi'
        exact h1.mine t0 o0 b h2 (by rw [← h3]; exact hb) }

/-- the powers of ten that the library writes numbers by -/
def pow10s : List Int := (List.range 20).map fun i => ((10 ^ i : Nat) : Int)
/-- what is package-level is as it was laid -/
def Grd (P : Program) (w : World) : Prop := P.globals.size = 0 ∨ (P.globals.size ≤ w.heap.size ∧ ∃ W0 : World, W0.ShapedOpen P ∧
  ((P.globalNamed "internal/strconv.uint64pow10").isSome = true → W0.var? P "internal/strconv.uint64pow10" = some (pow10s.map fun z => Value.int .u64 z).toArray) ∧ ∀ b, b < P.globals.size → w.heap[b]? = W0.heap[b]?)
theorem Grd.keep {P : Program} {w w' : World} (h : Grd P w) (hs : w.heap.size ≤ w'.heap.size) (hk : ∀ b, b < P.globals.size → b < w.heap.size → w'.heap[b]? = w.heap[b]?) : Grd P w' := by
  rcases h with h | ⟨h1, W0, h2, h3, h4⟩
  · exact .inl h
  · exact .inr ⟨by omega, W0, h2, h3, fun b hb => by rw [hk b hb (by omega)]; exact h4 b hb⟩
/-- the blocks set apart are the caller's, and none that he has lent; nothing package-level is lent -/
structure Ap (P : Program) (X0 : Nat → Prop) (M : Nat → BV → Prop) (w0 : World) : Prop where
  old : ∀ b, X0 b → b < w0.heap.size ∧ ¬ MB M b
  grd : Grd P w0
  far : ∀ b, MB M b → P.globals.size ≤ b
theorem Ap.now {P : Program} (hA : Ap P X0 M w0) (h : Sim N X0 M w0 st β a w) : Grd P w :=
  hA.grd.keep h.grew fun b hb hlt => h.kept b hlt fun hm => by have := hA.far b hm; omega
theorem Ap.own {P : Program} (hA : Ap P X0 M w0) (h : Sim N X0 M w0 st β a w) {id : Nat} {ob : Ob} {b : Nat} (hi : lk id st.hp = some ob) (hb : (β id).ft b) : P.globals.size ≤ b := by
  rcases h.mine id ob b hi hb with hm | hm
  · exact hA.far b hm
  · rcases hA.grd with h0 | ⟨h0, _⟩ <;> omega

def SV.fz1 (i s : Nat) (rows : List (List SV)) : SV → SV
  | .own k => if k = i then .sl s rows else .own k
  | .ptr k s' a b => if k = i then (if s' = s then .rptr s rows a b else .junk) else .ptr k s' a b
  | .agg _ => .junk
  | .tup _ => .junk
  | .fn _ _ => .junk
  | .cond _ _ => .junk
  | x => x
/-- list i is written no more: it may be shared -/
def St.fz (st : St) (i : Nat) : St :=
  match lk i st.hp with
  | some (.sl _ s rows) => { fr := st.fr.map fun p => (p.1, p.2.up (SV.fz1 i s rows)), hp := (er i st.hp).map fun p => (p.1, p.2.up (SV.fz1 i s rows)) }
  | some (.dp _ s rows) => { fr := st.fr.map fun p => (p.1, p.2.up (SV.fz1 i s rows)), hp := (er i st.hp).map fun p => (p.1, p.2.up (SV.fz1 i s rows)) }
  | _ => st

/-- what owns the lists in it may be read -/
theorem Dp.rp {x : SV} {v : Value} {F X : Nat → Prop} (h : Dp w x v F) (hX : ∀ b, F b → ¬ X b) : Rp w X x v := by
  induction h with
  | v _ F hF => exact Rp.v _
  | nil s F hF => exact .nil s _ _
  | sl e b0 cap cur us fs F hh h1 h2 h3 h4 h5 h6 h7 h8 h9 h10 hF ih =>
    refine .sl b0 0 cap us (hX b0 ((hF b0).2 (.inl rfl))) (lt_of_heap hh) h1 h4 (fun i k row c hr hc => ?_) (fun i k row c hr hc => h6 i k (row_lt h4 hr hc).1 (row_lt h4 hr hc).2) (fun i k row c e1 e2 => ih i k row c e1 e2 fun b hb => hX b ((hF b).2 (.inr ⟨i, k, hb⟩)))
    simp only [World.cell?, hh, Nat.zero_add]
    exact h5 i k (row_lt h4 hr hc).1 (row_lt h4 hr hc).2

/-- a list that is read -/
def Ob.rd : Ob → Option (Nat × List (List SV))
  | .sl _ s rows => some (s, rows)
  | .dp _ s rows => some (s, rows)
  | _ => none

/-- a list that may be read by one who may not read the blocks of X -/
theorem ObR.rd {X Y : Nat → Prop} {v : BV} {ob : Ob} {s : Nat} {rows : List (List SV)} (h : ObR w Y β v ob) (ho : ob.rd = some (s, rows)) (hX : ∀ b, v.ft b → ¬ X b) (hXY : ∀ b, X b → Y b) : Rp w X (.sl s rows) v.val := by
  cases h with
  | nil e s' h0 => cases ho; rw [h0]; exact .nil s _ _
  | sl b cap cur us hv hh h1 h2 h3 h4 h5 h6 h7 =>
    cases ho
    rw [hv]
    refine .sl b 0 cap us (fun hx => hX b (by rw [hv]; rfl) hx) (lt_of_heap hh) h1 h4 (fun i k row c hr hc => ?_) h6 (fun i k row c hr hc => (h7 i k row c hr hc).mono ⟨Nat.le_refl _, fun _ _ _ => rfl⟩ (fun b _ hb => hXY b hb))
    simp only [World.cell?, hh, Nat.zero_add]
    exact h5 i k row c hr hc
  | dp hd he => cases ho; exact hd.rp hX
  | _ => cases ho
theorem ObR.rdz {Y : Nat → Prop} {v : BV} {ob : Ob} {s : Nat} {rows : List (List SV)} (h : ObR w Y β v ob) (ho : ob.rd = some (s, rows)) : (v.val = .slice none 0 0 ∧ rows = []) ∨ ∃ b cap, v.val = .slice (some ⟨b, 0, none⟩) rows.length cap ∧ rows.length ≤ cap := by
  cases h with
  | nil e s' h0 => cases ho; rw [h0]; exact .inl ⟨rfl, rfl⟩
  | sl b cap cur us hv hh h1 => cases ho; rw [hv]; exact .inr ⟨b, cap, rfl, h1⟩
  | dp hd he =>
    cases ho
    generalize v.val = x at hd
    generalize v.ft = F at hd
    cases hd with
    | nil => exact .inl ⟨rfl, rfl⟩
    | sl e b cap cur us fs F hh h1 => exact .inr ⟨b, cap, rfl, h1⟩
  | _ => cases ho

theorem Sim.fz_rp {P : Program} (hA : Ap P X0 M w0) (h : Sim N X0 M w0 st β a w) {i : Nat} {ob : Ob} {s : Nat} {rows : List (List SV)} (hi : lk i st.hp = some ob) (ho : ob.rd = some (s, rows)) {X : Nat → Prop} (hX : ∀ b, X b → XX X0 β (er i st.hp) b) : Rp w X (.sl s rows) (β i).val := by
  have hO := h.objs i _ hi
  have hnX : ∀ b, (β i).ft b → ¬ X b := fun b hb hx => by
    rcases hX b hx with hx | ⟨t, o, ht, hbt⟩
    · obtain ⟨h1, h2⟩ := hA.old b hx
      rcases h.mine i _ b hi hb with h3 | h3
      · exact h2 h3
      · omega
    · have hti : t ≠ i := fun e => by subst e; rw [lk_er_self] at ht; cases ht
      rw [lk_er_ne hti] at ht
      exact hti (h.inj t i o _ b ht hi hbt hb)
  have hXX : ∀ b, X b → XX X0 β st.hp b := fun b hx => by
    rcases hX b hx with hx | ⟨t, o, ht, hbt⟩
    · exact .inl hx
    · have hti : t ≠ i := fun e => by subst e; rw [lk_er_self] at ht; cases ht
      rw [lk_er_ne hti] at ht
      exact .inr ⟨t, o, ht, hbt⟩
  exact hO.rd ho hnX hXX

theorem R.fz1 {X : Nat → Prop} {i s : Nat} {rows : List (List SV)} (hp : Rp w X (.sl s rows) (β i).val) (hz : ∀ b, blk (β i).val = some b → ∃ cap, (β i).val = .slice (some ⟨b, 0, none⟩) rows.length cap) {x : SV} {v : Value} (h : R w X β x v) : R w X β (x.fz1 i s rows) v := by
  cases x with
  | own k =>
    have := h.own_inv; subst this
    show R w X β (if k = i then .sl s rows else .own k) _
    by_cases hk : k = i
    · rw [if_pos hk, hk]; exact .p hp
    · rw [if_neg hk]; exact .own k
  | ptr k s' a b =>
    obtain ⟨bb, hb, rfl⟩ := h.ptr_inv
    show R w X β (if k = i then (if s' = s then .rptr s rows a b else .junk) else .ptr k s' a b) _
    by_cases hk : k = i
    · rw [if_pos hk]
      by_cases hs : s' = s
      · rw [if_pos hs]
        subst hs hk
        obtain ⟨cap, hv⟩ := hz bb hb
        rw [hv] at hp
        have := R.rptr (β := β) s' rows a b bb 0 cap hp
        simpa using this
      · rw [if_neg hs]; exact .junk _
    · rw [if_neg hk]; exact .ptr k s' a b bb hb
  | v x => exact h
  | sl s rows => exact h
  | rptr s rows a b => exact h
  | agg cs => exact .junk _
  | tup cs => exact .junk _
  | fn f cs => exact .junk _
  | cond g x => exact .junk _
  | junk => exact .junk _

theorem Sim.fzA {P : Program} (hA : Ap P X0 M w0) (h : Sim N X0 M w0 st β a w) {i : Nat} {ob : Ob} {s : Nat} {rows : List (List SV)} (hi : lk i st.hp = some ob) (ho : ob.rd = some (s, rows)) :
    Sim N X0 M w0 { fr := st.fr.map fun p => (p.1, p.2.up (SV.fz1 i s rows)), hp := (er i st.hp).map fun p => (p.1, p.2.up (SV.fz1 i s rows)) } β a w := by
    have hXX : ∀ b, XX X0 β (er i st.hp) b → XX X0 β st.hp b := fun b hx => by
      rcases hx with hx | ⟨t, o, ht, hbt⟩
      · exact .inl hx
      · have hti : t ≠ i := fun e => by subst e; rw [lk_er_self] at ht; cases ht
        rw [lk_er_ne hti] at ht
        exact .inr ⟨t, o, ht, hbt⟩
    have hz : ∀ b, blk (β i).val = some b → ∃ cap, (β i).val = .slice (some ⟨b, 0, none⟩) rows.length cap := fun b hb => by
      rcases (h.objs i _ hi).rdz ho with ⟨e, _⟩ | ⟨b', cap, e, _⟩
      · rw [e] at hb; cases hb
      · rw [e] at hb; cases hb; exact ⟨cap, e⟩
    have hl : ∀ (t : Nat) (o : Ob), lk t ((er i st.hp).map fun p => (p.1, p.2.up (SV.fz1 i s rows))) = some o → ∃ o0, t ≠ i ∧ lk t st.hp = some o0 ∧ o = o0.up (SV.fz1 i s rows) := fun t o ht => by
      rw [lk_map] at ht
      have hti : t ≠ i := fun e => by subst e; rw [lk_er_self] at ht; cases ht
      rw [lk_er_ne hti] at ht
      cases hq : lk t st.hp with
      | none => rw [hq] at ht; cases ht
      | some o0 => rw [hq] at ht; exact ⟨o0, hti, rfl, by simpa using ht.symm⟩
    have hX : ∀ b, XX X0 β ((er i st.hp).map fun p => (p.1, p.2.up (SV.fz1 i s rows))) b → XX X0 β (er i st.hp) b := fun b hb => by
      rcases hb with hb | ⟨t, o, ht, hb⟩
      · exact .inl hb
      · obtain ⟨o0, hti, h2, _⟩ := hl t o ht
        exact .inr ⟨t, o0, by rw [lk_er_ne hti]; exact h2, hb⟩
    have hrp := h.fz_rp hA hi ho (X := XX X0 β ((er i st.hp).map fun p => (p.1, p.2.up (SV.fz1 i s rows)))) hX
    have hS : Same (XX X0 β st.hp) w w := ⟨Nat.le_refl _, fun _ _ _ => rfl⟩
    exact { h with
      slots := fun t x hx => by
        rw [lk_map] at hx
        cases hy : lk t st.fr with
        | none => rw [hy] at hx; cases hx
        | some y =>
          rw [hy] at hx
          have hx' : y.up (SV.fz1 i s rows) = x := by simpa using hx
          subst hx'
          exact ((h.slots t y hy).mono hS (fun b _ hb => hXX b (hX b hb))).up fun x v hh => hh.fz1 hrp hz
      objs := fun id o hi' => by
        obtain ⟨o0, _, h2, rfl⟩ := hl id o hi'
        exact ((h.objs id o0 h2).mono hS (fun b _ hb => hXX b (hX b hb)) (fun _ _ => rfl)).up (fun x v hh => hh.fz1 hrp hz) (fun _ _ hh => hh)
      inj := fun p q op oq b hp hq hbp hbq => by
        obtain ⟨o1, _, e1, _⟩ := hl p op hp
        obtain ⟨o2, _, f1, _⟩ := hl q oq hq
        exact h.inj p q o1 o2 b e1 f1 hbp hbq
      mine := fun id o b hi' hb => by
        obtain ⟨o0, _, h2, _⟩ := hl id o hi'
        exact h.mine id o0 b h2 hb }
theorem Sim.fz {P : Program} (hA : Ap P X0 M w0) (h : Sim N X0 M w0 st β a w) (i : Nat) : Sim N X0 M w0 (st.fz i) β a w := by
  unfold St.fz
  split
  case h_1 _ e s rows hi => exact h.fzA hA hi rfl
  case h_2 _ e s rows hi => exact h.fzA hA hi rfl
  case h_3 => exact h
end
end Go.Vc
