/-
  DERIVED. A region whose order Go leaves open and whose operations make objects.
-/
import Derived.Test.YtdbjioanlkilkaaVcJ
namespace Go.Vc
set_option linter.unusedVariables false
set_option linter.unusedSimpArgs false

/-- what an operation leaves behind: its value, the objects that it makes, the objects that are no more -/
structure Dl where
  x : SV
  made : List (Nat × Ob) := []
  gone : List Nat := []
def Dl.ids (δ : Dl) : List Nat := δ.made.map (·.1) ++ δ.gone
def St.dapp (st : St) (d : Nat) (δ : Dl) : St := { fr := (d, δ.x) :: er d (st.killL δ.ids).fr, hp := δ.made ++ (st.killL δ.ids).hp }

def St.valK (tys : List (Nat × TyD)) (C : List (FuncId × Ctr)) (N : Nat) (ops : Array Oper) (o : Oper) (st : St) (K : SV → Prop) : Prop := ∃ x, st.val tys C N ops o x ∧ K x

/-- an operation of such a region -/
def St.dlt (tys : List (Nat × TyD)) (C : List (FuncId × Ctr)) (N : Nat) (ops : Array Oper) (o : Oper) (d : Nat) (st : St) (δ : Dl) : Prop :=
  o.dst = some d ∧
  ((st.val tys C N ops o δ.x ∧ δ.made = [] ∧ δ.gone = []) ∨
   (o.guard = none ∧ dstOk N o.dst = true ∧ match o.op with
    | .alloc T => match lk T tys with
      | some t => t.z.all Value.oneCell' = true ∧ δ = ⟨.ptr d 0 0 0, [(d, .box T (t.z.map .v))], []⟩
      | none => False
    | .box T x => (st.ev x).need ∧ (st.ev x).strip.cells.all SV.one = true ∧ (st.ev x).strip.cells.map (SV.kill d) = (st.ev x).strip.cells ∧ δ = ⟨.ptr d 0 0 0, [(d, .box T (st.ev x).strip.cells)], []⟩
    | .buildSlice T n parts => match lk T tys with
      | some t => match lk t.elem tys with
        | some e => t.kind = 1 ∧ 0 < e.size ∧ n * e.size ≤ 16777216 ∧ e.z.length = e.size ∧ e.z.all Value.oneCell' = true ∧ partsIn st n e.size parts.toList ∧
            δ = ⟨.own d, [(d, .sl t.elem e.size (rowsIn st (e.z.map .v) parts.toList (List.replicate n (e.z.map .v))))], []⟩
        | none => False
      | none => False
    | .makeSlice T l c => match lk T tys, (st.ev l).strip, (st.ev c).strip with
      | some t, .v (.int .i64 n), .v (.int .i64 m) => match lk t.elem tys with
        | some e => t.kind = 1 ∧ (st.ev l).need ∧ (st.ev c).need ∧ 0 ≤ n ∧ n ≤ m ∧ m * (e.bytes : Int) ≤ 281474976710656 ∧ 0 < e.bytes ∧ e.z.length = e.size ∧ e.z.all Value.oneCell' = true ∧
            δ = ⟨.own d, [(d, .sl t.elem e.size (List.replicate n.toNat (e.z.map .v)))], []⟩
        | none => False
      | _, _, _ => False
    | .call c => match c.callee with
      | .value x => match st.ev x with
        | .fn f caps => match lk f C with
          | some ctr => ctr.isL = false ∧ (match ctr.pure d ((st.argL c caps).map (SV.share st.hp)) with
            | (ob, res, robs) => ob ∧ (∀ y ∈ c.args.toList, (st.ev y).need) ∧ ((st.argL c caps).all fun y => (y.share st.hp).good) = true ∧ res.rok = true ∧ (res.owns2.all fun i => (robs.map (·.1)).contains i) = true ∧
              nodupN (robs.map (·.1)) = true ∧ ((robs.map (·.1)).all fun i => decide (i < 1000000)) = true ∧ (∀ p ∈ robs, ∃ e s rows, p.2 = .sl e s rows) ∧
              (((st.argL c caps).flatMap SV.owns) = [] ∨ (res.isV2 = true ∧ ∀ p ∈ robs, p.2.isV)) ∧ δ = ⟨res, robs, []⟩)
          | none => False
        | _ => False
      | .builtin .append => match c.args.toList, c.argTypes.toList with
        | [x, y], [T, T'] => match lk T tys, st.rowsOf (st.ev y).strip with
          | some t, some news => match lk t.elem tys with
            | some e => T = T' ∧ t.kind = 1 ∧ (st.ev x).need ∧ (st.ev y).need ∧ 0 < e.size ∧ 0 < e.bytes ∧ e.z.length = e.size ∧
              (match (st.ev x).strip with
              | .own j => match lk j st.hp with
                | some (.sl e' s' rows) => j < 1000000 ∧ j ≠ d ∧ e' = t.elem ∧ s' = e.size ∧ (rows.length + news.length) * e.bytes ≤ 140737488355328 ∧ (∀ row ∈ news, row.length = e.size) ∧ δ = ⟨.own d, [(d, .sl e' s' (rows ++ news))], [j]⟩
                | _ => False
              | .v (.slice none 0 0) => news.length * e.bytes ≤ 140737488355328 ∧ (∀ row ∈ news, row.length = e.size) ∧ δ = ⟨.own d, [(d, .sl t.elem e.size news)], []⟩
              | _ => False)
            | none => False
          | _, _ => False
        | _, _ => False
      | _ => False
    | _ => False))

section
variable {P : Program} {tys : List (Nat × TyD)} {C : List (FuncId × Ctr)} {N : Nat} {X0 : Nat → Prop} {M : Nat → BV → Prop} {w0 : World} {st : St} {β : Nat → BV} {a : Act} {w : World}


theorem kill1_re1 (j d : Nat) (x : SV) : ((x.kill1 j).kill1 d).re1 j d = (x.kill1 j).kill1 d := by
  cases x with
  | own k =>
    by_cases h1 : k = j
    · simp [SV.kill1, SV.re1, h1]
    · by_cases h2 : k = d
      · subst h2; simp [SV.kill1, SV.re1, h1]
      · simp [SV.kill1, SV.re1, h1, h2]
  | ptr k s a b =>
    by_cases h1 : k = j
    · simp [SV.kill1, SV.re1, h1]
    · by_cases h2 : k = d
      · subst h2; simp [SV.kill1, SV.re1, h1]
      · simp [SV.kill1, SV.re1, h1, h2]
  | _ => rfl
theorem up2_kr (j d : Nat) (x : SV) : (((x.up2 (SV.kill1 j)).up2 (SV.kill1 d)).up2 (SV.re1 j d)) = (x.up2 (SV.kill1 j)).up2 (SV.kill1 d) := by
  cases x with
  | agg cs =>
    simp only [SV.up2, List.map_map]
    congr 1
    exact List.map_congr_left fun y _ => kill1_re1 j d y
  | own k =>
    by_cases h1 : k = j
    · simp [SV.up2, SV.kill1, SV.re1, h1]
    · by_cases h2 : k = d
      · subst h2; simp [SV.up2, SV.kill1, SV.re1, h1]
      · simp [SV.up2, SV.kill1, SV.re1, h1, h2]
  | ptr k s a b =>
    by_cases h1 : k = j
    · simp [SV.up2, SV.kill1, SV.re1, h1]
    · by_cases h2 : k = d
      · subst h2; simp [SV.up2, SV.kill1, SV.re1, h1]
      · simp [SV.up2, SV.kill1, SV.re1, h1, h2]
  | _ => rfl
theorem kill_re (j d : Nat) (x : SV) : ((x.kill j).kill d).up (SV.re1 j d) = (x.kill j).kill d := by
  cases x with
  | agg cs =>
    simp only [SV.kill, SV.up, List.map_map]
    congr 1
    exact List.map_congr_left fun y _ => kill1_re1 j d y
  | tup cs =>
    simp only [SV.kill, SV.up, List.map_map]
    congr 1
    exact List.map_congr_left fun y _ => up2_kr j d y
  | fn f cs =>
    simp only [SV.kill, SV.up, List.map_map]
    congr 1
    exact List.map_congr_left fun y _ => kill1_re1 j d y
  | cond g x => simp only [SV.kill, SV.up, up2_kr j d x]
  | own k =>
    by_cases h1 : k = j
    · simp [SV.kill, SV.up, SV.kill1, SV.re1, h1]
    · by_cases h2 : k = d
      · subst h2; simp [SV.kill, SV.up, SV.kill1, SV.re1, h1]
      · simp [SV.kill, SV.up, SV.kill1, SV.re1, h1, h2]
  | ptr k s a b =>
    by_cases h1 : k = j
    · simp [SV.kill, SV.up, SV.kill1, SV.re1, h1]
    · by_cases h2 : k = d
      · subst h2; simp [SV.kill, SV.up, SV.kill1, SV.re1, h1]
      · simp [SV.kill, SV.up, SV.kill1, SV.re1, h1, h2]
  | _ => rfl
theorem Ob.kill_re (j d : Nat) (o : Ob) : ((o.kill j).kill d).up (SV.re1 j d) = (o.kill j).kill d := by
  cases o with
  | sl e s rows => rfl
  | mp e es => rfl
  | dp e s rows => rfl
  | dq e s rows i row =>
    simp only [Ob.kill, Ob.up, List.map_map]
    congr 1
    refine List.map_congr_left fun y _ => ?_
    have nk : ∀ (d : Nat) (c : SV), c.isSl = false → (c.kill d).isSl = false := fun d c hc => by
      cases c <;> first | (cases hc; done) | rfl | (simp only [SV.kill, SV.up, SV.kill1]; split <;> rfl)
    simp only [Function.comp]
    cases hy : y.isSl with
    | true => simp [SV.upq, hy]
    | false =>
      have e1 := nk j y hy
      have e2 := nk d _ e1
      simp [SV.upq, hy, e1, e2, Go.Vc.kill_re j d y]
  | box e cs =>
    simp only [Ob.kill, Ob.up, List.map_map]
    congr 1
    exact List.map_congr_left fun y _ => Go.Vc.kill_re j d y

/-- append, its result under a number of its own -/
theorem Sim.app2 {j d : Nat} {e s : Nat} {rows : List (List SV)} (hjd : j ≠ d) (hd : d < N) (h : Sim N X0 M w0 (st.app j d (.sl e s rows)) β a w) : ∃ β', Sim N X0 M w0 (st.dapp d ⟨.own d, [(d, .sl e s rows)], [j]⟩) β' a w := by
  obtain ⟨β', h'⟩ := h.mv (i := j) (j := d) (by have := h.few; omega) hjd
  refine ⟨β', h'.less (fun t x hx => ?_) (fun t x hx => ?_)⟩
  · have hlj : lk j (st.app j d (.sl e s rows)).hp = some (.sl e s rows) := by simp [St.app, lk]
    unfold St.mv
    rw [hlj]
    simp only [lk_map]
    simp only [St.dapp, lk] at hx
    by_cases ht : t = d
    · rw [if_pos ht] at hx
      cases hx
      subst ht
      simp [St.app, St.kill, lk, lk_map, SV.kill, SV.up, SV.kill1, SV.re1, hjd]
    · rw [if_neg ht, lk_er_ne ht] at hx
      have e1 : lk t ((st.app j d (.sl e s rows)).kill d).fr = lk t ((st.kill j).kill d).fr := by
        simp only [St.app, St.kill, lk_map]
        simp only [lk, if_neg ht]
        simp only [lk_map, lk_er_ne ht]
      rw [e1]
      have e2 : lk t ((st.kill j).kill d).fr = some x := hx
      rw [e2]
      have e3 : ∃ y : SV, x = (y.kill j).kill d := by
        simp only [St.kill, lk_map] at e2
        cases hq : lk t st.fr with
        | none => rw [hq] at e2; cases e2
        | some y => rw [hq] at e2; exact ⟨y, by simpa using e2.symm⟩
      obtain ⟨y, rfl⟩ := e3
      simp only [Option.map_some, Go.Vc.kill_re]
  · have hlj : lk j (st.app j d (.sl e s rows)).hp = some (.sl e s rows) := by simp [St.app, lk]
    unfold St.mv
    rw [hlj]
    simp only [St.dapp, List.cons_append, List.nil_append, lk] at hx ⊢
    by_cases ht : t = d
    · rw [if_pos ht] at hx ⊢
      cases hx
      rfl
    · rw [if_neg ht] at hx ⊢
      have e2 : lk t ((st.kill j).kill d).hp = some x := hx
      have htj : t ≠ j := fun e => by
        subst e
        rw [lk_kill_ne ht, lk_kill] at e2
        cases e2
      rw [lk_map, lk_er_ne htj, lk_kill_ne ht]
      have e1 : lk t (st.app j d (.sl e s rows)).hp = lk t (st.kill j).hp := by simp [St.app, lk, htj]
      rw [e1]
      rw [lk_kill_ne ht] at e2
      cases hq : lk t (st.kill j).hp with
      | none => rw [hq] at e2; cases e2
      | some y =>
        rw [hq] at e2
        have hy : ∃ z : Ob, y = z.kill j := by
          rw [lk_kill_ne htj] at hq
          cases hz : lk t st.hp with
          | none => rw [hz] at hq; cases hq
          | some z => rw [hz] at hq; exact ⟨z, by simpa using hq.symm⟩
        obtain ⟨z, rfl⟩ := hy
        have hx2 : x = (z.kill j).kill d := by simpa using e2.symm
        subst hx2
        simp only [Option.map_some, Ob.kill_re]
end
end Go.Vc
