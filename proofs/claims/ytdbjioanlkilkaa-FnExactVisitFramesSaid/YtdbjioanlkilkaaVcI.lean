/-
  DERIVED. Regions in the text's order, control, a function's body.
-/
import Derived.Test.YtdbjioanlkilkaaVcL
namespace Go.Vc
set_option linter.unusedVariables false
set_option linter.unusedSimpArgs false

def dstOk (N : Nat) : Option Nat → Bool
  | some d => decide (d < N)
  | none => true

def St.prK (tys : List (Nat × TyD)) (o : Oper) (st : St) (K : St → Prop) : Prop :=
  match st.pr tys o.op with
  | some (ob, r) => ob ∧ K (st.put o.dst r)
  | none => False

def St.fzL (st : St) : List Nat → St
  | [] => st
  | i :: l => (st.fz i).fzL l
/-- the lists that a value's cells own -/
def cellIds (x : SV) : List Nat := x.cells.flatMap SV.owns1
def partIds (st : St) (l : List (Nat × Operand)) : List Nat := l.flatMap fun p => cellIds (st.ev p.2).strip
def St.intoRow (st : St) (p : Operand) : Bool := match (st.ev p).strip with
  | .ptr id _ _ _ => match lk id st.hp with
    | some (.sl _ _ _) => true
    | _ => false
  | _ => false
def SV.ownId : SV → List Nat
  | .own i => [i]
  | _ => []
/-- one operation -/
def St.stepU (tys : List (Nat × TyD)) (C : List (FuncId × Ctr)) (N : Nat) (o : Oper) (st : St) (K : St → Prop) : Prop :=
  match o.op with
  | .alloc _ => dstOk N o.dst = true ∧ st.eff tys o K
  | .box _ _ => dstOk N o.dst = true ∧ st.eff tys o K
  | .buildSlice _ _ ps => dstOk N o.dst = true ∧ (st.fzL (partIds st ps.toList)).eff tys o K
  | .makeSlice _ _ _ => dstOk N o.dst = true ∧ st.eff tys o K
  | .store _ p x => o.dst = none ∧ (match st.intoRow p with | true => (st.fzL (cellIds (st.ev x).strip)).eff tys o K | false => st.eff tys o K)
  | .slice _ x _ _ _ => dstOk N o.dst = true ∧ (st.fzL (st.ev x).strip.ownId).prK tys o K
  | .call c => match c.callee with
    | .value x => dstOk N o.dst = true ∧ (match st.isM C x with | true => st.callL (o.dst.getD 0) C o K | false => st.callE C o K)
    | .builtin .append => dstOk N o.dst = true ∧ st.eff tys o K
    | _ => dstOk N o.dst = true ∧ st.prK tys o K
  | _ => dstOk N o.dst = true ∧ st.prK tys o K

/-- a value that is there where g -/
def mkCond (g : Bool) : SV → SV
  | .cond g' y => .cond (g && g') y
  | r => .cond g r
def guardB (want : Bool) : SV → Option Bool
  | .v (.bool c) => some (c == want)
  | .cond g (.v (.bool c)) => some (g && (c == want))
  | _ => none
/-- one operation that is carried out where g -/
def St.stepG (tys : List (Nat × TyD)) (C : List (FuncId × Ctr)) (N : Nat) (g : Bool) (o : Oper) (st : St) (K : St → Prop) : Prop :=
  match o.op with
  | .call c => match c.callee with
    | .value x => dstOk N o.dst = true ∧ (match st.callF (o.dst.getD 0) C c x with
      | some (ob, r) => (g = true → ob) ∧ K (st.put o.dst (mkCond g r))
      | none => False)
    | _ => dstOk N o.dst = true ∧ (match st.pr tys o.op with
      | some (ob, r) => (g = true → ob) ∧ K (st.put o.dst (mkCond g r))
      | none => False)
  | _ => dstOk N o.dst = true ∧ (match st.pr tys o.op with
      | some (ob, r) => (g = true → ob) ∧ K (st.put o.dst (mkCond g r))
      | none => False)

def St.step (tys : List (Nat × TyD)) (C : List (FuncId × Ctr)) (N : Nat) (ops : Array Oper) (o : Oper) (st : St) (K : St → Prop) : Prop :=
  match o.guard with
  | none => st.stepU tys C N o K
  | some (j, want) => match (ops[j]?).bind (·.dst) with
    | some t => match guardB want (st.get t) with
      | some g => st.stepG tys C N g o K
      | none => False
    | none => False

def St.runR (tys : List (Nat × TyD)) (C : List (FuncId × Ctr)) (N : Nat) (ops : Array Oper) : List Oper → St → (St → Prop) → Prop
  | [], st, K => K st
  | o :: l, st, K => st.step tys C N ops o fun st' => St.runR tys C N ops l st' K

section
variable {P : Program} {tys : List (Nat × TyD)} {C : List (FuncId × Ctr)} {N : Nat} {X0 : Nat → Prop} {M : Nat → BV → Prop} {w0 : World} {st : St} {β : Nat → BV} {a : Act} {w : World}

theorem wp_of_Yl (h : Sim N X0 M w0 st β a w) {o : Oper} {r : SV} (hd : dstOk N o.dst = true) (hy : Yl P (XX X0 β st.hp) β a w o r) {K : St → Prop} (hK : K (st.put o.dst r)) {Q : Exit → Act → World → Prop} : o.wp P a w (Ok N X0 M w0 K) Q := by
  obtain ⟨v, hr, hR⟩ := hy
  unfold Oper.wp
  rw [hr, Oper.upon_value]
  cases hdd : o.dst with
  | none => rw [hdd] at hK; exact ⟨_, β, hK, h⟩
  | some d => rw [hdd] at hK hd; exact ⟨_, β, hK, h.put (by simpa [dstOk] using hd) hR⟩

theorem dst_lt {o : Oper} (hd : dstOk N o.dst = true) : ∀ d, o.dst = some d → d < N := fun d e => by rw [e] at hd; simpa [dstOk] using hd

theorem prK_sound (hty : ∀ T d, lk T tys = some d → TyOk P T d) (h : Sim N X0 M w0 st β a w) {o : Oper} {K : St → Prop} (hd : dstOk N o.dst = true) (hw : st.prK tys o K) {Q : Exit → Act → World → Prop} : o.wp P a w (Ok N X0 M w0 K) Q := by
  unfold St.prK at hw
  split at hw
  case h_1 _ ob r hp => exact wp_of_Yl h hd (pr_sound hty h rfl hp hw.1) hw.2
  case h_2 => exact hw.elim

theorem Sim.fzL {P : Program} (hA : Ap P X0 M w0) : ∀ (l : List Nat) {st : St}, Sim N X0 M w0 st β a w → Sim N X0 M w0 (st.fzL l) β a w
  | [], st, h => h
  | i :: l, st, h => Sim.fzL hA l (h.fz hA i)

theorem stepU_sound (hA : Ap P X0 M w0) (hty : ∀ T d, lk T tys = some d → TyOk P T d) (hC : COk P C) (h : Sim N X0 M w0 st β a w) {o : Oper} {K : St → Prop} (hw : st.stepU tys C N o K) {Q : Exit → Act → World → Prop} : o.wp P a w (Ok N X0 M w0 K) Q := by
  unfold St.stepU at hw
  cases ho : o.op with
  | alloc T => rw [ho] at hw; exact eff_alloc hty h ho (dst_lt hw.1) hw.2
  | box T x => rw [ho] at hw; exact eff_box h ho (dst_lt hw.1) hw.2
  | buildSlice T n p => rw [ho] at hw; exact eff_buildSlice hty (h.fzL hA _) ho (dst_lt hw.1) hw.2
  | makeSlice T l c => rw [ho] at hw; exact eff_makeSlice hty h ho (dst_lt hw.1) hw.2
  | store T p x =>
    rw [ho] at hw
    obtain ⟨hd, hw⟩ := hw
    cases hm : st.intoRow p with
    | true => rw [hm] at hw; exact eff_store hty (h.fzL hA _) ho hd hw
    | false => rw [hm] at hw; exact eff_store hty h ho hd hw
  | slice T x lo hi mx => rw [ho] at hw; exact prK_sound hty (h.fzL hA _) hw.1 hw.2
  | call c =>
    rw [ho] at hw
    cases hc : c.callee with
    | value x =>
      simp only [hc] at hw
      obtain ⟨hd, hw⟩ := hw
      cases hm : st.isM C x with
      | true => rw [hm] at hw; exact eff_callL hC hA h (dst_lt hd) hw
      | false => rw [hm] at hw; exact eff_call hC hA h (dst_lt hd) hw
    | invoke r m => simp only [hc] at hw; exact prK_sound hty h hw.1 hw.2
    | builtin b =>
      cases b <;> simp only [hc] at hw <;> first
        | exact eff_append hty h ho hc (dst_lt hw.1) hw.2
        | exact prK_sound hty h hw.1 hw.2
  | _ => rw [ho] at hw; exact prK_sound hty h hw.1 hw.2

theorem mkCond_R {X : Nat → Prop} {g : Bool} {x : SV} {v : Value} (h1 : g = true → R w X β x v) (h2 : g = false → v = undef) : R w X β (mkCond g x) v := by
  cases x with
  | cond g' y =>
    refine .cond (fun hg => ?_) fun hg => ?_
    · rw [Bool.and_eq_true] at hg
      exact (h1 hg.1).cond_inv hg.2
    · cases g with
      | false => exact h2 rfl
      | true => exact (h1 rfl).cond_undef (by simpa using hg)
  | _ => exact .cond h1 h2

theorem pr_wp (hty : ∀ T d, lk T tys = some d → TyOk P T d) (h : Sim N X0 M w0 st β a w) {o : Oper} {g : Bool} (hd : dstOk N o.dst = true) {K : St → Prop} {Q : Exit → Act → World → Prop}
    (hw : match st.pr tys o.op with | some (ob, r) => (g = true → ob) ∧ K (st.put o.dst (mkCond g r)) | none => False) :
    (g = true → o.wp P a w (Ok N X0 M w0 K) Q) ∧ (g = false → Ok N X0 M w0 K (a.put o.dst undef) w) := by
  split at hw
  case h_2 => exact hw.elim
  case h_1 _ ob r hp =>
    refine ⟨fun hg => ?_, fun hg => ?_⟩
    · obtain ⟨v, hr, hR⟩ := pr_sound hty h rfl hp (hw.1 hg)
      exact wp_of_Yl h hd ⟨v, hr, mkCond_R (fun _ => hR) fun e => by rw [hg] at e; cases e⟩ hw.2
    · have hK := hw.2
      cases hdd : o.dst with
      | none => rw [hdd] at hK; exact ⟨_, β, hK, h⟩
      | some d => rw [hdd] at hK hd; exact ⟨_, β, hK, h.put (by simpa [dstOk] using hd) (mkCond_R (fun hh => by rw [hg] at hh; cases hh) fun _ => rfl)⟩

theorem Ok.mono {K K' : St → Prop} (hk : ∀ st, K st → K' st) (h : Ok N X0 M w0 K a w) : Ok N X0 M w0 K' a w :=
  let ⟨st, β, h1, h2⟩ := h; ⟨st, β, hk st h1, h2⟩

theorem stepG_sound (hA : Ap P X0 M w0) (hty : ∀ T d, lk T tys = some d → TyOk P T d) (hC : COk P C) (h : Sim N X0 M w0 st β a w) {o : Oper} {g : Bool} {K : St → Prop} (hw : st.stepG tys C N g o K) {Q : Exit → Act → World → Prop} :
    (g = true → o.wp P a w (Ok N X0 M w0 K) Q) ∧ (g = false → Ok N X0 M w0 K (a.put o.dst undef) w) := by
  unfold St.stepG at hw
  cases ho : o.op with
  | call c =>
    rw [ho] at hw
    cases hc : c.callee with
    | value x =>
      simp only [hc] at hw
      obtain ⟨hd, hw⟩ := hw
      split at hw
      case h_2 => exact hw.elim
      case h_1 _ ob res hcf =>
      obtain ⟨hob, hK⟩ := hw
      have hcall : g = true → st.callV (o.dst.getD 0) C (.call c) res := fun hg => St.callV_of_callF hc hcf (hob hg)
      refine ⟨fun hg => ?_, fun hg => ?_⟩
      · refine Oper.wp_mono (fun a' w' hk => ?_) (eff_call (Q := Q) (K := fun st' => st' = st.res o.dst res []) hC hA h (dst_lt hd) (St.callE_of_callV (by rw [ho]; exact hcall hg) rfl))
        obtain ⟨st', β', rfl, h'⟩ := hk
        cases hdd : o.dst with
        | none =>
          rw [hdd] at h' hK
          refine ⟨_, β', hK, ?_⟩
          have : St.res st none res [] = st := rfl
          rw [this] at h'
          exact h'
        | some d =>
          rw [hdd] at h' hK hd
          have hlt : d < N := by simpa [dstOk] using hd
          refine ⟨_, β', hK, ?_⟩
          have hR : R w' (XX X0 β' st.hp) β' (mkCond g res) (a'.tmps.getD d undef) := mkCond_R (fun _ => h'.slots d res (by simp [St.res, St.put, lk])) fun e => by rw [hg] at e; cases e
          have hless : Sim N X0 M w0 { fr := er d st.fr, hp := st.hp } β' a' w' := h'.less (fun t x hx => by
            simp only [St.res, St.put, List.map_nil, St.killL, lk]
            by_cases ht : t = d
            · subst ht; rw [lk_er_self] at hx; cases hx
            · rw [if_neg ht]; exact hx) (fun t x hx => hx)
          exact { hless with
            slots := fun t x hx => by
              simp only [St.put, lk] at hx
              by_cases ht : t = d
              · subst ht
                rw [if_pos rfl] at hx
                cases hx
                exact hR
              · rw [if_neg ht] at hx
                exact hless.slots t x hx }
      · cases hdd : o.dst with
        | none => rw [hdd] at hK; exact ⟨_, β, hK, h⟩
        | some d => rw [hdd] at hK hd; exact ⟨_, β, hK, h.put (by simpa [dstOk] using hd) (mkCond_R (fun hh => by rw [hg] at hh; cases hh) fun _ => rfl)⟩
    | invoke r m => simp only [hc] at hw; exact pr_wp hty h hw.1 (by rw [ho]; exact hw.2)
    | builtin b => simp only [hc] at hw; exact pr_wp hty h hw.1 (by rw [ho]; exact hw.2)
  | _ => rw [ho] at hw; exact pr_wp hty h hw.1 (by rw [ho]; exact hw.2)

theorem step_sound (hA : Ap P X0 M w0) (hty : ∀ T d, lk T tys = some d → TyOk P T d) (hC : COk P C) (h : Sim N X0 M w0 st β a w) {ops : Array Oper} {o : Oper} {K : St → Prop} (hw : st.step tys C N ops o K) {Q : Exit → Act → World → Prop} :
    if Region.wanted o (yielded ops a.tmps) then o.wp P a w (Ok N X0 M w0 K) Q else Ok N X0 M w0 K (a.put o.dst undef) w := by
  unfold St.step at hw
  cases hg : o.guard with
  | none =>
    rw [hg] at hw
    have : Region.wanted o (yielded ops a.tmps) = true := by simp [Region.wanted, hg]
    rw [if_pos this]
    exact stepU_sound hA hty hC h hw
  | some gw =>
    obtain ⟨j, want⟩ := gw
    rw [hg] at hw
    simp only at hw
    split at hw
    case h_2 => exact hw.elim
    case h_1 _ t ht =>
      split at hw
      case h_2 => exact hw.elim
      case h_1 _ g hc =>
        have hR : R w (XX X0 β st.hp) β (st.get t) (a.eval (.tmp t)) := St.ev_ok h (.tmp t)
        have hy : yielded ops a.tmps j = (match a.tmps.getD t undef with | .bool b => some b | _ => none) := by
          unfold yielded
          rw [ht]
          simp only [Option.bind_some]
          rw [Array.getD_eq_getD_getElem?]
          cases hq : a.tmps[t]? with
          | none => rfl
          | some v => cases v <;> rfl
        have hwant : Region.wanted o (yielded ops a.tmps) = g := by
          simp only [Region.wanted, hg, hy]
          generalize st.get t = y at hc hR
          unfold guardB at hc
          split at hc
          · rename_i b
            have hv : a.tmps.getD t undef = .bool b := hR.v_inv
            rw [hv]
            cases hc
            cases b <;> cases want <;> rfl
          · rename_i g' b
            cases hc
            cases g' with
            | false =>
              have hv : a.tmps.getD t undef = undef := hR.cond_undef rfl
              rw [hv]; rfl
            | true =>
              have hv : a.tmps.getD t undef = .bool b := (hR.cond_inv rfl).v_inv
              rw [hv]
              cases b <;> cases want <;> rfl
          · cases hc
        obtain ⟨h1, h2⟩ := stepG_sound (Q := Q) hA hty hC h hw
        rw [hwant]
        by_cases hcw : g = true
        · rw [if_pos hcw]; exact h1 hcw
        · rw [if_neg hcw]; exact h2 (by simpa using hcw)

theorem runR_sound (hA : Ap P X0 M w0) (hty : ∀ T d, lk T tys = some d → TyOk P T d) (hC : COk P C) {ops : Array Oper} {K : St → Prop} {Q : Exit → Act → World → Prop} (hQ : ∀ a w, Ok N X0 M w0 K a w → Q .normal a w) :
    ∀ (l : List Oper) {st : St} {β : Nat → BV} {a : Act} {w : World}, Sim N X0 M w0 st β a w → St.runR tys C N ops l st K → wpList P ops Q l a w
  | [], st, β, a, w, h, hw => hQ a w ⟨st, β, hw, h⟩
  | o :: l, st, β, a, w, h, hw => by
    have h1 := step_sound (Q := Q) hA hty hC h hw
    unfold wpList
    split
    · rename_i hwt
      rw [if_pos hwt] at h1
      exact .inl (Oper.wp_mono (fun a' w' ⟨st', β', h2, h3⟩ => runR_sound hA hty hC hQ l h3 h2) h1)
    · rename_i hwt
      rw [if_neg hwt] at h1
      obtain ⟨st', β', h2, h3⟩ := h1
      exact runR_sound hA hty hC hQ l h3 h2
end

/-! ## Control -/

structure Cx where
  P : Program
  tys : List (Nat × TyD)
  C : List (FuncId × Ctr)
  hty : ∀ T d, lk T tys = some d → TyOk P T d
  hC : COk P C

def WP (c : Cx) (N : Nat) (X0 : Nat → Prop) (M : Nat → BV → Prop) (w0 : World) (code : Code) (st : St) (K : Exit → St → Prop) : Prop :=
  Ap c.P X0 M w0 → ∀ β a w, Sim N X0 M w0 st β a w → code.wp c.P (fun e a' w' => Ok N X0 M w0 (K e) a' w') a w

def thenK (next : St → Prop) (K : Exit → St → Prop) : Exit → St → Prop
  | .normal, st => next st
  | e, st => K e st
def blockK (id : Nat) (K : Exit → St → Prop) : Exit → St → Prop
  | .exit id', st => if id' = id then K .normal st else K (.exit id') st
  | e, st => K e st

section
variable {c : Cx} {N : Nat} {X0 : Nat → Prop} {M : Nat → BV → Prop} {w0 : World} {st : St} {K : Exit → St → Prop}

theorem WP.seq {x y : Code} (h : WP c N X0 M w0 x st (thenK (fun st' => WP c N X0 M w0 y st' K) K)) : WP c N X0 M w0 (.seq x y) st K := fun hA β a w hs =>
  wp_seq (Code.wp_mono (fun e a w hq => by
    cases e with
    | normal => obtain ⟨st', β', h1, h2⟩ := hq; exact h1 hA β' a w h2
    | _ => exact hq) (h hA β a w hs))

theorem WP.cond {x : Operand} {p q : Code} {b : Bool} (hx : st.ev x = .v (.bool b)) (h1 : b = true → WP c N X0 M w0 p st K) (h2 : b = false → WP c N X0 M w0 q st K) : WP c N X0 M w0 (.cond x p q) st K := fun hA β a w hs => by
  have he : a.eval x = .bool b := (hx ▸ St.ev_ok hs x : R w _ β (.v (.bool b)) (a.eval x)).v_inv
  exact wp_cond_split he (fun h => h1 h hA β a w hs) (fun h => h2 h hA β a w hs)

theorem WP.block {id : Nat} {p : Code} (h : WP c N X0 M w0 p st (blockK id K)) : WP c N X0 M w0 (.block id p) st K := fun hA β a w hs =>
  wp_block (Code.wp_mono (fun e a w hq => by
    cases e with
    | exit id' =>
      obtain ⟨st', β', h1, h2⟩ := hq
      simp only [blockK] at h1
      simp only [Exit.inBlock]
      split
      · rename_i he; rw [if_pos he] at h1; exact ⟨st', β', h1, h2⟩
      · rename_i he; rw [if_neg he] at h1; exact ⟨st', β', h1, h2⟩
    | _ => exact hq) (h hA β a w hs))

theorem WP.skip (h : K .normal st) : WP c N X0 M w0 .skip st K := fun hA β a w hs => wp_skip ⟨st, β, h, hs⟩
theorem WP.ret (h : K .ret st) : WP c N X0 M w0 .ret st K := fun hA β a w hs => wp_ret ⟨st, β, h, hs⟩
theorem WP.exit {id : Nat} (h : K (.exit id) st) : WP c N X0 M w0 (.exit id) st K := fun hA β a w hs => wp_exit ⟨st, β, h, hs⟩

theorem WP.region {id : Nat} {l : List Oper} (h : St.runR c.tys c.C N l.toArray l st (K .normal)) : WP c N X0 M w0 (.region id l.toArray false) st K := fun hA β a w hs =>
  wp_region_lit (runR_sound hA c.hty c.hC (fun a w hk => hk) l hs h)

theorem WP.mono {code : Code} {K' : Exit → St → Prop} (hk : ∀ e st, K e st → K' e st) (h : WP c N X0 M w0 code st K) : WP c N X0 M w0 code st K' := fun hA β a w hs =>
  Code.wp_mono (fun e a w hq => hq.mono (hk e)) (h hA β a w hs)

/-- st' is a part of st -/
def subL {α : Type} : List (Nat × α) → List (Nat × α) → Prop
  | [], _ => True
  | (t, x) :: r, l => lk t l = some x ∧ subL r l
def St.has (st st' : St) : Prop := subL st'.fr st.fr ∧ subL st'.hp st.hp

theorem subL_lk {α : Type} {t : Nat} {x : α} : ∀ {r l : List (Nat × α)}, subL r l → lk t r = some x → lk t l = some x
  | (u, y) :: r, l, h, hx => by
    simp only [lk] at hx
    by_cases ht : t = u
    · rw [if_pos ht] at hx; cases hx; subst ht; exact h.1
    · rw [if_neg ht] at hx; exact subL_lk h.2 hx

theorem Sim.has {β : Nat → BV} {a : Act} {w : World} (h : Sim N X0 M w0 st β a w) {st' : St} (hs : st.has st') : Sim N X0 M w0 st' β a w :=
  h.less (fun t x hx => subL_lk hs.1 hx) (fun t x hx => subL_lk hs.2 hx)

theorem WP.part {code : Code} {st' : St} (hs : st.has st') (h : WP c N X0 M w0 code st' K) : WP c N X0 M w0 code st K := fun hA β a w hw => h hA β a w (hw.has hs)

theorem least {p : Nat → Prop} (h : ∃ n, p n) : ∃ n, p n ∧ ∀ m, p m → n ≤ m := by
  obtain ⟨n, hn⟩ := h
  induction n using Nat.strongRecOn with
  | _ n ih =>
    by_cases hm : ∃ m, m < n ∧ p m
    · obtain ⟨m, hlt, hp⟩ := hm; exact ih m hlt hp
    · exact ⟨n, hn, fun m hp => by
        rcases Nat.lt_or_ge m n with h | h
        · exact absurd ⟨m, h, hp⟩ hm
        · exact h⟩

open Classical in
/-- a loop: at each round's head the state is I s for some s of which J s holds; every round lowers μ -/
theorem WP.loop {S : Type} {p : Code} (I : S → St) (J : S → Prop) (μ : S → Nat) (s0 : S) (h0 : J s0) (hi : st.has (I s0))
    (hr : ∀ s, J s → WP c N X0 M w0 p (I s) (thenK (fun st' => ∃ s', J s' ∧ μ s' < μ s ∧ st'.has (I s')) K)) : WP c N X0 M w0 (.loop p) st K := by
  intro hA β a w hs
  let Inv : Act → World → Nat → Prop := fun a w n => ∃ s β, J s ∧ μ s = n ∧ Sim N X0 M w0 (I s) β a w
  refine wp_loop (fun a w => ∃ n, Inv a w n) (fun a w => if h : ∃ n, Inv a w n then Classical.choose (least h) else 0) ⟨μ s0, s0, β, h0, rfl, hs.has hi⟩ ?_
  intro a w hI
  have hsp := Classical.choose_spec (least hI)
  obtain ⟨⟨s, β', hj, hm, hsim⟩, _⟩ := hsp
  refine Code.wp_mono (fun e a' w' hq => ?_) (hr s hj hA β' a w hsim)
  cases e with
  | normal =>
    obtain ⟨st', β2, ⟨s', hj', hlt, hhas⟩, h2⟩ := hq
    have hI' : ∃ n, Inv a' w' n := ⟨μ s', s', β2, hj', rfl, h2.has hhas⟩
    refine ⟨hI', ?_⟩
    simp only [dif_pos hI', dif_pos hI]
    have hle := (Classical.choose_spec (least hI')).2 (μ s') ⟨s', β2, hj', rfl, h2.has hhas⟩
    omega
  | _ => exact hq

/-! ## A function -/

/-- what is handed back -/
def St.out (st : St) : ResultVar → Option SV
  | .tmp t => some (st.get t)
  | .cell t _ => match st.get t with
    | .ptr id _ 0 0 => match lk id st.hp with
      | some (.box _ cs) => some (.agg cs)
      | _ => none
    | _ => none
def outs (st : St) : List ResultVar → Option (List SV)
  | [] => some []
  | r :: l => match st.out r, outs st l with
    | some x, some xs => some (x :: xs)
    | _, _ => none
def outC (tys : List (Nat × TyD)) (st : St) : ResultVar → Prop
  | .tmp _ => True
  | .cell t T => ∃ d, lk T tys = some d ∧ d.kind = 3 ∧ ∃ id s, st.get t = .ptr id s 0 0 ∧ ∃ e cs, lk id st.hp = some (.box e cs) ∧ cs.length = d.size
/-! a result that is nil may stand for an empty list of one's own -/
def okC (hp robs : List (Nat × Ob)) (x : SV) : SV → Prop
  | .own i => match x with
    | .v (.slice none 0 0) => ∃ e s, lk i robs = some (.sl e s [])
    | .own j => ∃ ob, lk j hp = some ob ∧ lk i robs = some ob
    | _ => False
  | .sl s rows => x = .sl s rows ∨ (rows = [] ∧ x = .v (.slice none 0 0))
  | .ptr i s a b => match x with
    | .ptr j s' a' b' => (s' = s ∧ a' = a ∧ b' = b) ∧ ∃ ob, lk j hp = some ob ∧ lk i robs = some ob
    | _ => False
  | r => x = r
def nilC (x : SV) : SV → List Nat
  | .own i => match x with
    | .v (.slice none 0 0) => [i]
    | _ => []
  | _ => []
def keepC (x : SV) : SV → List (Nat × Nat)
  | .own i => match x with
    | .own j => [(i, j)]
    | _ => []
  | .ptr i _ _ _ => match x with
    | .ptr j _ _ _ => [(i, j)]
    | _ => []
  | _ => []
def okL (hp robs : List (Nat × Ob)) : List SV → List SV → Prop
  | [], [] => True
  | x :: xs, r :: rs => okC hp robs x r ∧ okL hp robs xs rs
  | _, _ => False
def nilL : List SV → List SV → List Nat
  | x :: xs, r :: rs => nilC x r ++ nilL xs rs
  | _, _ => []
def keepL : List SV → List SV → List (Nat × Nat)
  | x :: xs, r :: rs => keepC x r ++ keepL xs rs
  | _, _ => []
def okA (hp robs : List (Nat × Ob)) (x : SV) : SV → Prop
  | .agg cs => match x.ofAgg with
    | some ds => okL hp robs ds cs
    | none => False
  | r => okC hp robs x r
def nilA (x : SV) : SV → List Nat
  | .agg cs => match x.ofAgg with
    | some ds => nilL ds cs
    | none => []
  | r => nilC x r
def keepA (x : SV) : SV → List (Nat × Nat)
  | .agg cs => match x.ofAgg with
    | some ds => keepL ds cs
    | none => []
  | r => keepC x r
def okT (hp robs : List (Nat × Ob)) : List SV → List SV → Prop
  | [], [] => True
  | x :: xs, r :: rs => okA hp robs x r ∧ okT hp robs xs rs
  | _, _ => False
def nilT : List SV → List SV → List Nat
  | x :: xs, r :: rs => nilA x r ++ nilT xs rs
  | _, _ => []
def keepT : List SV → List SV → List (Nat × Nat)
  | x :: xs, r :: rs => keepA x r ++ keepT xs rs
  | _, _ => []
def cover (robs : List (Nat × Ob)) (nl : List Nat) (kl : List (Nat × Nat)) : Bool :=
  ((robs.map (·.1)).all fun i => (nl ++ kl.map (·.1)).contains i) && (nl.all fun i => !(kl.map (·.1)).contains i) && nodupN (kl.map (·.1)) && nodupN (kl.map (·.2))
def tups (rs : SV) : Option (List SV) := match rs with
  | .tup cs => some cs
  | _ => none
def outK (tys : List (Nat × TyD)) (rs : List ResultVar) (res : SV) (robs : List (Nat × Ob)) (st : St) : Prop :=
  (∀ r ∈ rs, outC tys st r) ∧ res.rok = true ∧
  match rs with
  | [r] => match st.out r with
    | some x => okA st.hp robs x res ∧ cover robs (nilA x res) (keepA x res) = true
    | none => False
  | l => match outs st l, tups res with
    | some xs, some cs => okT st.hp robs xs cs ∧ cover robs (nilT xs cs) (keepT xs cs) = true
    | _, _ => False
def retK (tys : List (Nat × TyD)) (rs : List ResultVar) (res : SV) (robs : List (Nat × Ob)) : Exit → St → Prop
  | .normal, st => outK tys rs res robs st
  | .ret, st => outK tys rs res robs st
  | _, _ => False

def argsL : Nat → List SV → List (Nat × SV)
  | _, [] => []
  | k, x :: l => (k, x) :: argsL (k + 1) l

theorem argsL_lk : ∀ (l : List SV) (k t : Nat) (x : SV), lk t (argsL k l) = some x → k ≤ t ∧ l[t - k]? = some x
  | [], k, t, x, h => by cases h
  | y :: l, k, t, x, h => by
    simp only [argsL, lk] at h
    by_cases ht : t = k
    · rw [if_pos ht] at h; cases h; subst ht; exact ⟨Nat.le_refl _, by simp⟩
    · rw [if_neg ht] at h
      obtain ⟨h1, h2⟩ := argsL_lk l (k + 1) t x h
      refine ⟨by omega, ?_⟩
      have : t - k = (t - (k + 1)) + 1 := by omega
      rw [this, List.getElem?_cons_succ]
      exact h2

def resF (tmps : Array Value) : ResultVar → Sem Value
  | .tmp t => pure (tmps.getD t undef)
  | .cell a t => do loadVar t (← asAddr (tmps.getD a undef))

theorem out_ok {β : Nat → BV} {a : Act} {w : World} (h : Sim N X0 M w0 st β a w) {r : ResultVar} {x : SV} (hx : st.out r = some x)
    (hr : outC c.tys st r) :
    ∃ v, (resF a.tmps r).run c.P w = .ok v w ∧ R w (XX X0 β st.hp) β x v := by
  cases r with
  | tmp t =>
    simp only [St.out, Option.some.injEq] at hx
    subst hx
    exact ⟨_, rfl, St.ev_ok h (.tmp t)⟩
  | cell t T =>
    obtain ⟨d, hd, hk, id, s, hg, e, cs, hl, hlen⟩ := hr
    simp only [St.out, hg, hl, Option.some.injEq] at hx
    subst hx
    have hev : st.ev (.tmp t) = .ptr id s 0 0 := hg
    obtain ⟨b, hb, hv⟩ := (hev ▸ St.ev_ok h (.tmp t) : R w _ β (.ptr id s 0 0) (a.eval (.tmp t))).ptr_inv
    have hv' : a.tmps.getD t undef = .pointer (some ⟨b, 0, none⟩) := by
      have : a.eval (.tmp t) = a.tmps.getD t undef := rfl
      rw [← this, hv]; simp
    obtain ⟨b', hvb, hcell⟩ := (h.objs id _ hl).boxCell
    have hbb : b = b' := by rw [hvb] at hb; simpa [blk, plain] using hb.symm
    subst hbb
    obtain ⟨v, hr, hR⟩ := loadVar_ok (c.hty T d hd) (w := w) (X := XX X0 β st.hp) (β := β) (b := b) (off := 0) (k := 0) (row := cs) (by omega) (c.hty T d hd).one (fun j hj => by
      obtain ⟨q, u, h1, h2, _, h3⟩ := hcell j (by omega)
      exact ⟨q, u, by simpa using h1, by simpa using h2, h3⟩)
    refine ⟨v, by simp [resF, hv', asAddr]; exact hr, ?_⟩
    have : cellsAt d.kind d.size cs 0 = .agg cs := by
      unfold cellsAt
      rw [if_pos hk, List.drop_zero, List.take_of_length_le (by omega)]
    rw [← this]; exact hR

theorem outs_ok {β : Nat → BV} {a : Act} {w : World} (h : Sim N X0 M w0 st β a w) : ∀ (rs : List ResultVar) {xs : List SV}, outs st rs = some xs →
    (∀ r ∈ rs, outC c.tys st r) →
    ∃ vs, (rs.mapM (resF a.tmps)).run c.P w = .ok vs w ∧ xs.length = vs.length ∧ ∀ (k : Nat) (y : SV) (u : Value), xs[k]? = some y → vs[k]? = some u → R w (XX X0 β st.hp) β y u
  | [], xs, hx, _ => by
    simp only [outs, Option.some.injEq] at hx
    subst hx
    exact ⟨[], by simp, rfl, by simp⟩
  | r :: l, xs, hx, hr => by
    simp only [outs] at hx
    split at hx
    · rename_i x xs' h1 h2
      cases hx
      obtain ⟨v, hv, hR⟩ := out_ok (c := c) h h1 (hr r List.mem_cons_self)
      obtain ⟨vs, hvs, hl, hRs⟩ := outs_ok h l h2 (fun r hm => hr r (List.mem_cons_of_mem _ hm))
      refine ⟨v :: vs, by simp [List.mapM_cons, hv, hvs], by simp [hl], fun k y u hy hu => ?_⟩
      cases k with
      | zero => simp at hy hu; subst hy hu; exact hR
      | succ k => exact hRs k y u (by simpa using hy) (by simpa using hu)
    · cases hx

theorem results_eq (fn : Func) (tmps : Array Value) : Go.results fn tmps = (do
    let vs ← fn.results.mapM (resF tmps)
    pure (if h : vs.size = 1 then vs[0] else .tuple vs)) := rfl

section
variable {w' : World} {X : Nat → Prop} {β β' : Nat → BV} {hp robs : List (Nat × Ob)}
theorem okC_R {x res : SV} {v : Value} (h : okC hp robs x res) (hR : R w' X β x v) (hk : res.rok1 = true) (hn : ∀ i ∈ nilC x res, β' i = nilB) (hb : ∀ p ∈ keepC x res, β' p.1 = β p.2) : R w' X β' res v := by
  cases res with
  | own i =>
    simp only [okC] at h
    split at h
    · have := hR.v_inv; subst this
      have h0 := R.own (w := w') (X := X) (β := β') i
      rw [hn i (by simp [nilC])] at h0; exact h0
    · rename_i j
      have := hR.own_inv; subst this
      rw [← hb (i, j) (by simp [keepC])]; exact .own i
    · exact h.elim
  | v y => simp only [okC] at h; subst h; have := hR.v_inv; subst this; exact .p (.v _)
  | sl s rows =>
    simp only [okC] at h
    rcases h with h | ⟨h1, h2⟩
    · subst h; exact .p hR.sl_inv
    · subst h1 h2; have := hR.v_inv; subst this; exact .p (.nil s _ _)
  | ptr i s a b =>
    simp only [okC] at h
    split at h
    · rename_i j s' a' b'
      obtain ⟨⟨rfl, rfl, rfl⟩, _⟩ := h
      obtain ⟨bb, hbb, rfl⟩ := hR.ptr_inv
      exact .ptr i _ _ _ bb (by rw [hb (i, j) (by simp [keepC])]; exact hbb)
    · exact h.elim
  | _ => cases hk
theorem okC_cov {x res : SV} (h : okC hp robs x res) : (∀ i ∈ nilC x res, ∃ e s, lk i robs = some (.sl e s [])) ∧ ∀ p ∈ keepC x res, ∃ ob, lk p.2 hp = some ob ∧ lk p.1 robs = some ob := by
  cases res with
  | own i =>
    simp only [okC, nilC, keepC] at h ⊢
    split at h
    · simpa using h
    · simpa using h
    · exact h.elim
  | ptr i s a b =>
    simp only [okC, nilC, keepC] at h ⊢
    split at h
    · simpa using h.2
    · exact h.elim
  | _ => simp [nilC, keepC]
theorem okL_R : ∀ {xs rs : List SV} {us : List Value}, okL hp robs xs rs → xs.length = us.length → (∀ (k : Nat) (c : SV) (u : Value), xs[k]? = some c → us[k]? = some u → R w' X β c u) → rs.all SV.rok1 = true →
    (∀ i ∈ nilL xs rs, β' i = nilB) → (∀ p ∈ keepL xs rs, β' p.1 = β p.2) → rs.length = us.length ∧ ∀ (k : Nat) (c : SV) (u : Value), rs[k]? = some c → us[k]? = some u → R w' X β' c u
  | [], [], us, _, hl, _, _, _, _ => ⟨hl, fun k c u hc => by simp at hc⟩
  | x :: xs, r :: rs, u0 :: us, h, hl, hR, hk, hn, hb => by
    simp only [List.all_cons, Bool.and_eq_true] at hk
    have ih := okL_R (us := us) h.2 (by simpa using hl) (fun k c u hc hu => hR (k + 1) c u (by simpa using hc) (by simpa using hu)) hk.2 (fun i hi => hn i (List.mem_append_right _ hi)) (fun i hi => hb i (List.mem_append_right _ hi))
    have h0 := okC_R h.1 (hR 0 x u0 rfl rfl) hk.1 (fun i hi => hn i (List.mem_append_left _ hi)) (fun i hi => hb i (List.mem_append_left _ hi))
    refine ⟨by simp [ih.1], fun k c u hc hu => ?_⟩
    cases k with
    | zero => simp at hc hu; subst hc hu; exact h0
    | succ k => exact ih.2 k c u (by simpa using hc) (by simpa using hu)
  | x :: xs, r :: rs, [], _, hl, _, _, _, _ => by simp at hl
  | [], _ :: _, _, h, _, _, _, _, _ => h.elim
  | _ :: _, [], _, h, _, _, _, _, _ => h.elim
theorem okL_cov : ∀ {xs rs : List SV}, okL hp robs xs rs → (∀ i ∈ nilL xs rs, ∃ e s, lk i robs = some (.sl e s [])) ∧ ∀ p ∈ keepL xs rs, ∃ ob, lk p.2 hp = some ob ∧ lk p.1 robs = some ob
  | [], [], _ => by simp [nilL, keepL]
  | x :: xs, r :: rs, h => by
    have h1 := okC_cov h.1
    have h2 := okL_cov h.2
    refine ⟨fun i hi => ?_, fun i hi => ?_⟩
    · rcases List.mem_append.1 hi with hi | hi
      · exact h1.1 i hi
      · exact h2.1 i hi
    · rcases List.mem_append.1 hi with hi | hi
      · exact h1.2 i hi
      · exact h2.2 i hi
  | [], _ :: _, h => h.elim
  | _ :: _, [], h => h.elim
theorem okA_R {x res : SV} {v : Value} (h : okA hp robs x res) (hR : R w' X β x v) (hk : res.rok2 = true) (hn : ∀ i ∈ nilA x res, β' i = nilB) (hb : ∀ p ∈ keepA x res, β' p.1 = β p.2) : R w' X β' res v := by
  cases res with
  | agg cs =>
    simp only [okA] at h
    simp only [nilA, keepA] at hn hb
    split at h
    · rename_i ds hds
      rw [hds] at hn hb
      obtain ⟨us, rfl, hl, hh⟩ := ofAgg_R hds hR
      have := okL_R h hl hh hk hn hb
      exact .agg this.1 this.2
    · exact h.elim
  | v y => exact okC_R (hp := hp) (robs := robs) h hR hk hn hb
  | sl s rows => exact okC_R (hp := hp) (robs := robs) h hR hk hn hb
  | own i => exact okC_R (hp := hp) (robs := robs) h hR hk hn hb
  | ptr i s a b => exact okC_R (hp := hp) (robs := robs) h hR hk hn hb
  | _ => cases hk
theorem okA_cov {x res : SV} (h : okA hp robs x res) : (∀ i ∈ nilA x res, ∃ e s, lk i robs = some (.sl e s [])) ∧ ∀ p ∈ keepA x res, ∃ ob, lk p.2 hp = some ob ∧ lk p.1 robs = some ob := by
  cases res with
  | agg cs =>
    simp only [okA] at h
    simp only [nilA, keepA]
    split at h
    · rename_i ds hds; first | (rw [hds]; exact okL_cov h) | exact okL_cov h
    · exact h.elim
  | _ => simp only [okA] at h; exact okC_cov (hp := hp) (robs := robs) h
theorem okT_R : ∀ {xs rs : List SV} {us : List Value}, okT hp robs xs rs → xs.length = us.length → (∀ (k : Nat) (c : SV) (u : Value), xs[k]? = some c → us[k]? = some u → R w' X β c u) → rs.all SV.rok2 = true →
    (∀ i ∈ nilT xs rs, β' i = nilB) → (∀ p ∈ keepT xs rs, β' p.1 = β p.2) → rs.length = us.length ∧ ∀ (k : Nat) (c : SV) (u : Value), rs[k]? = some c → us[k]? = some u → R w' X β' c u
  | [], [], us, _, hl, _, _, _, _ => ⟨hl, fun k c u hc => by simp at hc⟩
  | x :: xs, r :: rs, u0 :: us, h, hl, hR, hk, hn, hb => by
    simp only [List.all_cons, Bool.and_eq_true] at hk
    have ih := okT_R (us := us) h.2 (by simpa using hl) (fun k c u hc hu => hR (k + 1) c u (by simpa using hc) (by simpa using hu)) hk.2 (fun i hi => hn i (List.mem_append_right _ hi)) (fun i hi => hb i (List.mem_append_right _ hi))
    have h0 := okA_R h.1 (hR 0 x u0 rfl rfl) hk.1 (fun i hi => hn i (List.mem_append_left _ hi)) (fun i hi => hb i (List.mem_append_left _ hi))
    refine ⟨by simp [ih.1], fun k c u hc hu => ?_⟩
    cases k with
    | zero => simp at hc hu; subst hc hu; exact h0
    | succ k => exact ih.2 k c u (by simpa using hc) (by simpa using hu)
  | x :: xs, r :: rs, [], _, hl, _, _, _, _ => by simp at hl
  | [], _ :: _, _, h, _, _, _, _, _ => h.elim
  | _ :: _, [], _, h, _, _, _, _, _ => h.elim
theorem okT_cov : ∀ {xs rs : List SV}, okT hp robs xs rs → (∀ i ∈ nilT xs rs, ∃ e s, lk i robs = some (.sl e s [])) ∧ ∀ p ∈ keepT xs rs, ∃ ob, lk p.2 hp = some ob ∧ lk p.1 robs = some ob
  | [], [], _ => by simp [nilT, keepT]
  | x :: xs, r :: rs, h => by
    have h1 := okA_cov h.1
    have h2 := okT_cov h.2
    refine ⟨fun i hi => ?_, fun i hi => ?_⟩
    · rcases List.mem_append.1 hi with hi | hi
      · exact h1.1 i hi
      · exact h2.1 i hi
    · rcases List.mem_append.1 hi with hi | hi
      · exact h1.2 i hi
      · exact h2.2 i hi
  | [], _ :: _, h => h.elim
  | _ :: _, [], h => h.elim
end

theorem outs_len {st : St} : ∀ (l : List ResultVar) {xs}, outs st l = some xs → xs.length = l.length := by
  intro l
  induction l with
  | nil => intro xs hx; simp only [outs, Option.some.injEq] at hx; subst hx; rfl
  | cons r l ih =>
    intro xs hx
    simp only [outs] at hx
    split at hx
    · rename_i x xs' _ h2; cases hx; simp [ih h2]
    · cases hx

theorem nodupN_mem {d : Nat} {l : List Nat} (h : nodupN (d :: l) = true) : d ∉ l ∧ nodupN l = true := by simpa [nodupN] using h
theorem lk_nodup : ∀ {l : List (Nat × Nat)} {i j : Nat}, nodupN (l.map (·.1)) = true → (i, j) ∈ l → lk i l = some j
  | (a, b) :: l, i, j, h, hm => by
    obtain ⟨h1, h2⟩ := nodupN_mem h
    simp only [lk]
    rcases List.mem_cons.1 hm with e | hm
    · cases e; rw [if_pos rfl]
    · rw [if_neg (fun e => h1 (by rw [← e]; exact List.mem_map.2 ⟨_, hm, rfl⟩))]
      exact lk_nodup h2 hm
theorem snd_nodup : ∀ {l : List (Nat × Nat)} {i i' j : Nat}, nodupN (l.map (·.2)) = true → (i, j) ∈ l → (i', j) ∈ l → i = i'
  | (a, b) :: l, i, i', j, h, hm, hm' => by
    obtain ⟨h1, h2⟩ := nodupN_mem h
    rcases List.mem_cons.1 hm with e | hm
    · rcases List.mem_cons.1 hm' with e' | hm'
      · cases e; cases e'; rfl
      · cases e; exact absurd (List.mem_map.2 ⟨_, hm', rfl⟩) h1
    · rcases List.mem_cons.1 hm' with e' | hm'
      · cases e'; exact absurd (List.mem_map.2 ⟨_, hm, rfl⟩) h1
      · exact snd_nodup h2 hm hm'

/-- the numbers of what is handed back, and the rest -/
def outJ (rs : List ResultVar) (res : SV) (st : St) : List Nat := match rs with
  | [r] => match st.out r with
    | some x => (keepA x res).map (·.2)
    | none => []
  | l => match outs st l, tups res with
    | some xs, some cs => (keepT xs cs).map (·.2)
    | _, _ => []
def OutOk (L : List Nat) (st : St) (β β' : Nat → BV) (robs : List (Nat × Ob)) : Prop :=
  (∀ i, (β' i).val.oneCell' = true) ∧ ∃ rel : Nat → Nat → Prop, (∀ i i' j, rel i j → rel i' j → i = i') ∧ (∀ i j, rel i j → j ∈ L) ∧
    ∀ i ob, lk i robs = some ob → (β' i = nilB ∧ ∃ e s, ob = .sl e s []) ∨ (∃ j, rel i j ∧ β' i = β j ∧ lk j st.hp = some ob)
theorem outK_ok {β : Nat → BV} {a : Act} {w : World} (h : Sim N X0 M w0 st β a w) {fn : Func} {rs : List ResultVar} (hrs : fn.results.toList = rs) {res : SV} {robs : List (Nat × Ob)} (ho : outK c.tys rs res robs st) :
    ∃ v β', (Go.results fn a.tmps).run c.P w = .ok v w ∧ R w (XX X0 β st.hp) β' res v ∧ OutOk (outJ rs res st) st β β' robs := by
  have hfr : fn.results = rs.toArray := by rw [← hrs]
  obtain ⟨h2, hrok, h1⟩ := ho
  rw [results_eq, hfr]
  have fin : ∀ (nl : List Nat) (kl : List (Nat × Nat)), cover robs nl kl = true → (∀ i ∈ nl, ∃ e s, lk i robs = some (.sl e s [])) → (∀ p ∈ kl, ∃ ob, lk p.2 st.hp = some ob ∧ lk p.1 robs = some ob) →
      let β' : Nat → BV := fun i => if i ∈ nl then nilB else match lk i kl with | some j => β j | none => β i
      OutOk (kl.map (·.2)) st β β' robs ∧ (∀ i ∈ nl, β' i = nilB) ∧ (∀ p ∈ kl, β' p.1 = β p.2) := by
    intro nl kl hcv hn hk β'
    simp only [cover, Bool.and_eq_true] at hcv
    obtain ⟨⟨⟨c1, c2⟩, c3⟩, c4⟩ := hcv
    have hkl : ∀ p ∈ kl, β' p.1 = β p.2 := fun p hp => by
      have : p.1 ∉ nl := fun hin => by
        have := List.all_eq_true.1 c2 p.1 hin
        simp at this
        exact this p.2 hp
      simp [β', this, lk_nodup c3 hp]
    refine ⟨⟨fun i => ?_, fun i j => (i, j) ∈ kl, fun i i' j h1 h2 => snd_nodup c4 h1 h2, fun i j hh => List.mem_map.2 ⟨(i, j), hh, rfl⟩, fun i ob hi => ?_⟩, fun i hi => by simp [β', hi], hkl⟩
    · by_cases hi : i ∈ nl
      · simp [β', hi, nilB, Value.oneCell']
      · simp only [β', hi, if_false]
        split <;> exact h.beta _
    · have := List.all_eq_true.1 c1 i (List.mem_map.2 ⟨(i, ob), lk_mem hi, rfl⟩)
      by_cases hin : i ∈ nl
      · obtain ⟨e, s, he⟩ := hn i hin
        rw [he] at hi; cases hi
        exact .inl ⟨by simp [β', hin], e, s, rfl⟩
      · have hik : i ∈ kl.map (·.1) := by
          rw [List.contains_iff_mem, List.mem_append] at this
          exact this.resolve_left hin
        obtain ⟨p, hp, rfl⟩ := List.mem_map.1 hik
        obtain ⟨o, h3, h4⟩ := hk p hp
        rw [h4] at hi; cases hi
        exact .inr ⟨p.2, hp, hkl p hp, h3⟩
  have two : ∀ (xs cs : List SV), outs st rs = some xs → tups res = some cs → rs.length ≠ 1 → okT st.hp robs xs cs ∧ cover robs (nilT xs cs) (keepT xs cs) = true →
      ∃ v β', (do let vs ← rs.toArray.mapM (resF a.tmps); pure (if h : vs.size = 1 then vs[0] else .tuple vs) : Sem Value).run c.P w = .ok v w ∧ R w (XX X0 β st.hp) β' res v ∧ OutOk ((keepT xs cs).map (·.2)) st β β' robs := fun xs cs hx hc hn hk => by
    obtain ⟨vs, hv, hl, hR⟩ := outs_ok (c := c) h rs hx h2
    have hvn : vs.length ≠ 1 := by rw [← hl, outs_len rs hx]; exact hn
    have hcov := okT_cov hk.1
    obtain ⟨f1, f2, f3⟩ := fin _ _ hk.2 hcov.1 hcov.2
    cases res with
    | tup ds =>
      simp only [tups, Option.some.injEq] at hc
      subst hc
      have := okT_R hk.1 hl hR hrok f2 f3
      exact ⟨.tuple vs.toArray, _, by simp [hv, hvn], .tup this.1 this.2, f1⟩
    | _ => cases hc
  match rs, h1, h2, two with
  | [], h1, h2, two =>
    simp only at h1
    split at h1
    · rename_i xs cs hx hc
      have e : outJ [] res st = (keepT xs cs).map (·.2) := by simp only [outJ, hx, hc]
      rw [e]
      exact two xs cs hx hc (by simp) h1
    · exact h1.elim
  | [r], h1, h2, two =>
    simp only at h1
    split at h1
    · rename_i x hx
      have eJ : outJ [r] res st = (keepA x res).map (·.2) := by simp only [outJ, hx]
      rw [eJ]
      obtain ⟨v, hv, hR⟩ := out_ok (c := c) h hx (h2 r List.mem_cons_self)
      have hcov := okA_cov h1.1
      obtain ⟨f1, f2, f3⟩ := fin _ _ h1.2 hcov.1 hcov.2
      cases hres : res with
      | tup ds =>
        rw [hres] at h1
        simp only [okA, okC] at h1
        rw [h1.1] at hR
        refine ⟨v, β, by simp [hv], hR, h.beta, fun _ _ => False, fun _ _ _ hf => hf.elim, fun _ _ hf => hf.elim, fun i ob hi => ?_⟩
        have h12 := h1.2
        have e1 : nilA x (.tup ds) = [] := rfl
        have e2 : keepA x (.tup ds) = [] := rfl
        rw [e1, e2] at h12
        simp only [cover, Bool.and_eq_true] at h12
        have := List.all_eq_true.1 h12.1.1.1 i (List.mem_map.2 ⟨(i, ob), lk_mem hi, rfl⟩)
        simp at this
      | _ => rw [hres] at h1 hrok f1 f2 f3; exact ⟨v, _, by simp [hv], okA_R h1.1 hR hrok f2 f3, f1⟩
    · exact h1.elim
  | r :: r' :: l, h1, h2, two =>
    simp only at h1
    split at h1
    · rename_i xs cs hx hc
      have e : outJ (r :: r' :: l) res st = (keepT xs cs).map (·.2) := by simp only [outJ, hx, hc]
      rw [e]
      exact two xs cs hx hc (by simp) h1
    · exact h1.elim

/-- **From a body to a contract.** -/
theorem Holds.of_WP {f : FuncId} {fn : Func} {code : Code} (hf : c.P.funcs[f]? = some fn) (hb : fn.body = some code) {rs : List ResultVar} (hrs : fn.results.toList = rs) (hn : fn.ntmps = N) (hfew : N ≤ 900000) {args : List SV} (ha : args.length ≤ N) {res : SV} {robs : List (Nat × Ob)}
    (hrb : ∀ {id ob} , lk id robs = some ob → ob.pb = true)
    (h : ∀ (X0 : Nat → Prop) (w0 : World), WP c N X0 (fun _ _ => False) w0 code ⟨argsL 0 args, []⟩ (retK c.tys rs res robs)) : Holds c.P f args res robs := by
  intro w X vs hG hX hl hargs
  refine calls_of_wp hf hb ?_
  have hsim : Sim N X (fun _ _ => False) w ⟨argsL 0 args, []⟩ (fun _ => nilB) { tmps := vs.toArray ++ Array.replicate (fn.ntmps - vs.toArray.size) undef, defers := [] } w := {
    size := by simp [hn]; omega
    defers := rfl
    beta := fun _ => rfl
    slots := fun t x hx => by
      obtain ⟨_, h1⟩ := argsL_lk args 0 t x hx
      simp only [Nat.sub_zero] at h1
      have ht : t < vs.length := by rw [hl]; exact (List.getElem?_eq_some_iff.1 h1).1
      have hv : vs[t]? = some (vs[t]'ht) := List.getElem?_eq_getElem ht
      have : (vs.toArray ++ Array.replicate (fn.ntmps - vs.toArray.size) undef).getD t undef = vs[t]'ht := by
        rw [Array.getD_eq_getD_getElem?, Array.getElem?_append_left (by simpa using ht)]
        simp [ht]
      rw [this]
      refine ((hargs t x _ h1 hv).mono ⟨Nat.le_refl _, fun _ _ _ => rfl⟩ fun b _ hb => ?_)
      rcases hb with hb | ⟨id, ob, hi, _⟩
      · exact hb
      · cases hi
    objs := fun id ob hi => by cases hi
    inj := fun i j oi oj b hi => by cases hi
    x0 := hX
    mine := fun id ob b hi => by cases hi
    pin := fun id v h => h.elim
    few := hfew
    os := rfl
    tape := rfl
    output := rfl
    grew := Nat.le_refl _
    kept := fun _ _ _ => rfl }
  refine Code.wp_mono (fun e a w' hq => ?_) (h X w ⟨fun b hb => ⟨hX b hb, fun ⟨_, _, hf, _⟩ => hf⟩, hG, fun b ⟨_, _, hf, _⟩ => hf.elim⟩ _ _ _ hsim)
  have fin : ∀ {st' : St} {β' : Nat → BV}, outK c.tys rs res robs st' → Sim N X (fun _ _ => False) w st' β' a w' → a.defers = [] ∧ ∃ v, (Go.results fn a.tmps).run c.P w' = .ok v w' ∧
      ∃ v' β, Ending.returned v = .returned v' ∧ Go.RowKit.Below w.heap.size w w' ∧ (∀ i, (β i).val.oneCell' = true) ∧ R w' (XX X β robs) β res v' ∧ Obs w' X β robs ∧ ∀ id ob b, lk id robs = some ob → (β id).ft b → w.heap.size ≤ b := fun {st' β'} ho hs => by
    obtain ⟨v, β2, hr, hR, hβ2, rel, hrel, _, hcov⟩ := outK_ok (c := c) hs hrs ho
    have hS : Same (XX X β' st'.hp) w' w' := ⟨Nat.le_refl _, fun _ _ _ => rfl⟩
    have kept : ∀ {id ob b}, lk id robs = some ob → (β2 id).ft b → ∃ j, rel id j ∧ β2 id = β' j ∧ lk j st'.hp = some ob := fun {id ob b} hi hb => by
      rcases hcov id ob hi with ⟨h1, _⟩ | h1
      · rw [h1] at hb; cases hb
      · exact h1
    have hXs : ∀ b, b < w'.heap.size → XX X β2 robs b → XX X β' st'.hp b := fun b _ hb => by
      rcases hb with hb | ⟨id, ob, hi, hb⟩
      · exact .inl hb
      · obtain ⟨j, _, h1, h2⟩ := kept hi hb
        exact .inr ⟨j, ob, h2, by rw [← h1]; exact hb⟩
    refine ⟨hs.defers, v, hr, v, β2, rfl, ⟨hs.os, hs.tape, hs.output, hs.grew, fun b hb => hs.kept b hb (fun ⟨_, _, hf, _⟩ => hf)⟩, hβ2, hR.mono hS hXs, ⟨fun id ob hi => ?_, fun i j oi oj b hi hj hbi hbj => ?_⟩, fun id ob b hi hb => ?_⟩
    · rcases hcov id ob hi with ⟨h1, e, s, rfl⟩ | ⟨j, _, h1, h2⟩
      · exact .nil e s h1
      · rw [h1]
        have hO := hs.objs j ob h2
        cases ob with
        | sl e s rows => exact (hO.mono hS hXs (fun _ _ => rfl)).sl_beta
        | box e cs => exact (hO.mono hS hXs (fun _ _ => rfl)).pb_beta (hrb hi)
        | mp e es => exact (hO.mono hS hXs (fun _ _ => rfl)).pb_beta (hrb hi)
        | dp e s rows => exact (hO.mono hS hXs (fun _ _ => rfl)).pb_beta (hrb hi)
        | dq e s rows i0 row0 => exact (hO.mono hS hXs (fun _ _ => rfl)).pb_beta (hrb hi)
    · obtain ⟨k1, r1, h1, h2⟩ := kept hi hbi
      obtain ⟨k2, r2, h3, h4⟩ := kept hj hbj
      have := hs.inj k1 k2 oi oj b h2 h4 (by rw [← h1]; exact hbi) (by rw [← h3]; exact hbj)
      subst this
      exact hrel i j k1 r1 r2
    · obtain ⟨j, _, h1, h2⟩ := kept hi hb
      rcases hs.mine j ob b h2 (by rw [← h1]; exact hb) with hf | hge
      · obtain ⟨_, _, hf, _⟩ := hf; exact hf.elim
      · exact hge
  cases e with
  | normal => obtain ⟨st', β', ho, hs⟩ := hq; exact fin ho hs
  | ret => obtain ⟨st', β', ho, hs⟩ := hq; exact fin ho hs
  | _ => obtain ⟨st', β', ho, hs⟩ := hq; exact ho.elim

end
end Go.Vc
