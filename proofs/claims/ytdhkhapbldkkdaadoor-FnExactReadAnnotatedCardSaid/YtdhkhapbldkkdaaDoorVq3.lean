/-
  DERIVED. Several texts of ours in one: VcI, VcM, VcJ, VcN, VcO.
-/
import Derived.Test.YtdhkhapbldkkdaaDoorVq0
import Derived.Test.YtdhkhapbldkkdaaDoorVq1
import Derived.Test.YtdhkhapbldkkdaaDoorVq2
set_option linter.unusedSimpArgs false
set_option linter.unusedVariables false
/-
  DERIVED. Regions in the text's order, control, a function's body.
-/
namespace Go.Vc
set_option linter.unusedVariables false
set_option linter.unusedSimpArgs false

def dstOk (N : Nat) : Option Nat → Bool
  | some d => decide (d < N)
  | none => true

def St.prK (tys : List (Nat × TyD)) (o : Oper) (st : St) (K : St → Prop) : Prop :=
  match st.pr tys o.op with
  | some (ob, r) => ob ∧ K (st.put o.dst r)
  | none => False

def St.fzL (st : St) : List Nat → St
  | [] => st
  | i :: l => (st.fz i).fzL l
/-- the lists that a value's cells own -/
def cellIds (x : SV) : List Nat := x.cells.flatMap SV.owns1
def partIds (st : St) (l : List (Nat × Operand)) : List Nat := l.flatMap fun p => cellIds (st.ev p.2).strip
def St.intoRow (st : St) (p : Operand) : Bool := match (st.ev p).strip with
  | .ptr id _ _ _ => match lk id st.hp with
    | some (.sl _ _ _) => true
    | _ => false
  | _ => false
def St.deepK (tys : List (Nat × TyD)) (o : Oper) (st : St) (K : St → Prop) : Prop :=
  match o.dst, st.deepQ tys o with
  | some d, some (p, ob, is) => p ∧ is.contains d = false ∧ K { fr := (d, .own d) :: er d (st.killL (d :: is)).fr, hp := (d, ob) :: (st.killL (d :: is)).hp }
  | _, _ => False
/-- what is appended owns what is in it -/
def St.dpArg (st : St) (c : Call) : Bool := match c.args.toList with
  | [_, y] => match (st.ev y).strip with
    | .own i => match lk i st.hp with
      | some (.dp _ _ _) => true
      | _ => false
    | _ => false
  | _ => false
def SV.ownId : SV → List Nat
  | .own i => [i]
  | _ => []
/-- one operation -/
def St.stepU (tys : List (Nat × TyD)) (C : List (FuncId × Ctr)) (N : Nat) (o : Oper) (st : St) (K : St → Prop) : Prop :=
  match o.op with
  | .alloc _ => dstOk N o.dst = true ∧ st.eff tys o K
  | .box _ _ => dstOk N o.dst = true ∧ st.eff tys o K
  | .buildSlice _ _ ps => dstOk N o.dst = true ∧ (match lk 999999 st.fr with
    | some _ => (match partIds st ps.toList with
      | [] => st.eff tys o K
      | _ => st.deepK tys o K)
    | none => (st.fzL (partIds st ps.toList)).eff tys o K)
  | .makeSlice _ _ _ => dstOk N o.dst = true ∧ st.eff tys o K
  | .store _ p x => o.dst = none ∧ (match st.intoRow p with | true => (st.fzL (cellIds (st.ev x).strip)).eff tys o K | false => st.eff tys o K)
  | .slice _ x _ _ _ => dstOk N o.dst = true ∧ (st.fzL (st.ev x).strip.ownId).prK tys o K
  | .call c => match c.callee with
    | .value x => dstOk N o.dst = true ∧ (match st.isM C x with | true => st.callL (o.dst.getD 0) C o K | false => st.callE C o K)
    | .builtin .append => dstOk N o.dst = true ∧ (match st.dpArg c with | true => st.deepK tys o K | false => st.eff tys o K)
    | _ => dstOk N o.dst = true ∧ st.prK tys o K
  | _ => dstOk N o.dst = true ∧ st.prK tys o K

/-- a value that is there where g -/
def mkCond (g : Bool) : SV → SV
  | .cond g' y => .cond (g && g') y
  | r => .cond g r
def guardB (want : Bool) : SV → Option Bool
  | .v (.bool c) => some (c == want)
  | .cond g (.v (.bool c)) => some (g && (c == want))
  | _ => none
/-- one operation that is carried out where g -/
def St.stepG (tys : List (Nat × TyD)) (C : List (FuncId × Ctr)) (N : Nat) (g : Bool) (o : Oper) (st : St) (K : St → Prop) : Prop :=
  match o.op with
  | .call c => match c.callee with
    | .value x => dstOk N o.dst = true ∧ (match st.callF (o.dst.getD 0) C c x with
      | some (ob, r) => (g = true → ob) ∧ K (st.put o.dst (mkCond g r))
      | none => False)
    | _ => dstOk N o.dst = true ∧ (match st.pr tys o.op with
      | some (ob, r) => (g = true → ob) ∧ K (st.put o.dst (mkCond g r))
      | none => False)
  | _ => dstOk N o.dst = true ∧ (match st.pr tys o.op with
      | some (ob, r) => (g = true → ob) ∧ K (st.put o.dst (mkCond g r))
      | none => False)

def St.step (tys : List (Nat × TyD)) (C : List (FuncId × Ctr)) (N : Nat) (ops : Array Oper) (o : Oper) (st : St) (K : St → Prop) : Prop :=
  match o.guard with
  | none => st.stepU tys C N o K
  | some (j, want) => match (ops[j]?).bind (·.dst) with
    | some t => match guardB want (st.get t) with
      | some g => st.stepG tys C N g o K
      | none => False
    | none => False

def St.runR (tys : List (Nat × TyD)) (C : List (FuncId × Ctr)) (N : Nat) (ops : Array Oper) : List Oper → St → (St → Prop) → Prop
  | [], st, K => K st
  | o :: l, st, K => st.step tys C N ops o fun st' => St.runR tys C N ops l st' K

section
variable {P : Program} {tys : List (Nat × TyD)} {C : List (FuncId × Ctr)} {N : Nat} {X0 : Nat → Prop} {M : Nat → BV → Prop} {w0 : World} {st : St} {β : Nat → BV} {a : Act} {w : World}

theorem wp_of_Yl (h : Sim N X0 M w0 st β a w) {o : Oper} {r : SV} (hd : dstOk N o.dst = true) (hy : Yl P (XX X0 β st.hp) β a w o r) {K : St → Prop} (hK : K (st.put o.dst r)) {Q : Exit → Act → World → Prop} : o.wp P a w (Ok N X0 M w0 K) Q := by
  obtain ⟨v, hr, hR⟩ := hy
  unfold Oper.wp
  rw [hr, Oper.upon_value]
  cases hdd : o.dst with
  | none => rw [hdd] at hK; exact ⟨_, β, hK, h⟩
  | some d => rw [hdd] at hK hd; exact ⟨_, β, hK, h.put (by simpa [dstOk] using hd) hR⟩

theorem dst_lt {o : Oper} (hd : dstOk N o.dst = true) : ∀ d, o.dst = some d → d < N := fun d e => by rw [e] at hd; simpa [dstOk] using hd

theorem prK_sound (hty : ∀ T d, lk T tys = some d → TyOk P T d) (h : Sim N X0 M w0 st β a w) {o : Oper} {K : St → Prop} (hd : dstOk N o.dst = true) (hw : st.prK tys o K) {Q : Exit → Act → World → Prop} : o.wp P a w (Ok N X0 M w0 K) Q := by
  unfold St.prK at hw
  split at hw
  case h_1 _ ob r hp => exact wp_of_Yl h hd (pr_sound hty h rfl hp hw.1) hw.2
  case h_2 => exact hw.elim

theorem Sim.fzL {P : Program} (hA : Ap P X0 M w0) : ∀ (l : List Nat) {st : St}, Sim N X0 M w0 st β a w → Sim N X0 M w0 (st.fzL l) β a w
  | [], st, h => h
  | i :: l, st, h => Sim.fzL hA l (h.fz hA i)

theorem deepK_sound (hty : ∀ T d, lk T tys = some d → TyOk P T d) (h : Sim N X0 M w0 st β a w) {o : Oper} {K : St → Prop} (hd : ∀ d, o.dst = some d → d < N) (hw : st.deepK tys o K) {Q : Exit → Act → World → Prop} : o.wp P a w (Ok N X0 M w0 K) Q := by
  unfold St.deepK at hw
  split at hw
  · rename_i d p ob is hdd hq
    exact deepQ_sound hty h hq hw.1 hdd (hd d hdd) hw.2.2
  · exact hw.elim
theorem stepU_sound (hA : Ap P X0 M w0) (hty : ∀ T d, lk T tys = some d → TyOk P T d) (hC : COk P C) (h : Sim N X0 M w0 st β a w) {o : Oper} {K : St → Prop} (hw : st.stepU tys C N o K) {Q : Exit → Act → World → Prop} : o.wp P a w (Ok N X0 M w0 K) Q := by
  unfold St.stepU at hw
  cases ho : o.op with
  | alloc T => rw [ho] at hw; exact eff_alloc hty h ho (dst_lt hw.1) hw.2
  | box T x => rw [ho] at hw; exact eff_box h ho (dst_lt hw.1) hw.2
  | buildSlice T n p =>
    rw [ho] at hw
    obtain ⟨hd, hw⟩ := hw
    split at hw
    · split at hw
      · exact eff_buildSlice hty h ho (dst_lt hd) hw
      · exact deepK_sound hty h (dst_lt hd) hw
    · exact eff_buildSlice hty (h.fzL hA _) ho (dst_lt hd) hw
  | makeSlice T l c => rw [ho] at hw; exact eff_makeSlice hty h ho (dst_lt hw.1) hw.2
  | store T p x =>
    rw [ho] at hw
    obtain ⟨hd, hw⟩ := hw
    cases hm : st.intoRow p with
    | true => rw [hm] at hw; exact eff_store hty (h.fzL hA _) ho hd hw
    | false => rw [hm] at hw; exact eff_store hty h ho hd hw
  | slice T x lo hi mx => rw [ho] at hw; exact prK_sound hty (h.fzL hA _) hw.1 hw.2
  | call c =>
    rw [ho] at hw
    cases hc : c.callee with
    | value x =>
      simp only [hc] at hw
      obtain ⟨hd, hw⟩ := hw
      cases hm : st.isM C x with
      | true => rw [hm] at hw; exact eff_callL hC hA h (dst_lt hd) hw
      | false => rw [hm] at hw; exact eff_call hC hA h (dst_lt hd) hw
    | invoke r m => simp only [hc] at hw; exact prK_sound hty h hw.1 hw.2
    | builtin b =>
      cases b <;> simp only [hc] at hw <;> first
        | (obtain ⟨hd, hw⟩ := hw; split at hw; exact deepK_sound hty h (dst_lt hd) hw; exact eff_append hty h ho hc (dst_lt hd) hw)
        | exact prK_sound hty h hw.1 hw.2
  | _ => rw [ho] at hw; exact prK_sound hty h hw.1 hw.2

theorem mkCond_R {X : Nat → Prop} {g : Bool} {x : SV} {v : Value} (h1 : g = true → R w X β x v) (h2 : g = false → v = undef) : R w X β (mkCond g x) v := by
  cases x with
  | cond g' y =>
    refine .cond (fun hg => ?_) fun hg => ?_
    · rw [Bool.and_eq_true] at hg
      exact (h1 hg.1).cond_inv hg.2
    · cases g with
      | false => exact h2 rfl
      | true => exact (h1 rfl).cond_undef (by simpa using hg)
  | _ => exact .cond h1 h2

theorem pr_wp (hty : ∀ T d, lk T tys = some d → TyOk P T d) (h : Sim N X0 M w0 st β a w) {o : Oper} {g : Bool} (hd : dstOk N o.dst = true) {K : St → Prop} {Q : Exit → Act → World → Prop}
    (hw : match st.pr tys o.op with | some (ob, r) => (g = true → ob) ∧ K (st.put o.dst (mkCond g r)) | none => False) :
    (g = true → o.wp P a w (Ok N X0 M w0 K) Q) ∧ (g = false → Ok N X0 M w0 K (a.put o.dst undef) w) := by
  split at hw
  case h_2 => exact hw.elim
  case h_1 _ ob r hp =>
    refine ⟨fun hg => ?_, fun hg => ?_⟩
    · obtain ⟨v, hr, hR⟩ := pr_sound hty h rfl hp (hw.1 hg)
      exact wp_of_Yl h hd ⟨v, hr, mkCond_R (fun _ => hR) fun e => by rw [hg] at e; cases e⟩ hw.2
    · have hK := hw.2
      cases hdd : o.dst with
      | none => rw [hdd] at hK; exact ⟨_, β, hK, h⟩
      | some d => rw [hdd] at hK hd; exact ⟨_, β, hK, h.put (by simpa [dstOk] using hd) (mkCond_R (fun hh => by rw [hg] at hh; cases hh) fun _ => rfl)⟩

theorem Ok.mono {K K' : St → Prop} (hk : ∀ st, K st → K' st) (h : Ok N X0 M w0 K a w) : Ok N X0 M w0 K' a w :=
  let ⟨st, β, h1, h2⟩ := h; ⟨st, β, hk st h1, h2⟩

theorem stepG_sound (hA : Ap P X0 M w0) (hty : ∀ T d, lk T tys = some d → TyOk P T d) (hC : COk P C) (h : Sim N X0 M w0 st β a w) {o : Oper} {g : Bool} {K : St → Prop} (hw : st.stepG tys C N g o K) {Q : Exit → Act → World → Prop} :
    (g = true → o.wp P a w (Ok N X0 M w0 K) Q) ∧ (g = false → Ok N X0 M w0 K (a.put o.dst undef) w) := by
  unfold St.stepG at hw
  cases ho : o.op with
  | call c =>
    rw [ho] at hw
    cases hc : c.callee with
    | value x =>
      simp only [hc] at hw
      obtain ⟨hd, hw⟩ := hw
      split at hw
      case h_2 => exact hw.elim
      case h_1 _ ob res hcf =>
      obtain ⟨hob, hK⟩ := hw
      have hcall : g = true → st.callV (o.dst.getD 0) C (.call c) res := fun hg => St.callV_of_callF hc hcf (hob hg)
      refine ⟨fun hg => ?_, fun hg => ?_⟩
      · refine Oper.wp_mono (fun a' w' hk => ?_) (eff_call (Q := Q) (K := fun st' => st' = st.res o.dst res []) hC hA h (dst_lt hd) (St.callE_of_callV (by rw [ho]; exact hcall hg) rfl))
        obtain ⟨st', β', rfl, h'⟩ := hk
        cases hdd : o.dst with
        | none =>
          rw [hdd] at h' hK
          refine ⟨_, β', hK, ?_⟩
          have : St.res st none res [] = st := rfl
          rw [this] at h'
          exact h'
        | some d =>
          rw [hdd] at h' hK hd
          have hlt : d < N := by simpa [dstOk] using hd
          refine ⟨_, β', hK, ?_⟩
          have hR : R w' (XX X0 β' st.hp) β' (mkCond g res) (a'.tmps.getD d undef) := mkCond_R (fun _ => h'.slots d res (by simp [St.res, St.put, lk])) fun e => by rw [hg] at e; cases e
          have hless : Sim N X0 M w0 { fr := er d st.fr, hp := st.hp } β' a' w' := h'.less (fun t x hx => by
            simp only [St.res, St.put, List.map_nil, St.killL, lk]
            by_cases ht : t = d
            · subst ht; rw [lk_er_self] at hx; cases hx
            · rw [if_neg ht]; exact hx) (fun t x hx => hx)
          exact { hless with
            slots := fun t x hx => by
              simp only [St.put, lk] at hx
              by_cases ht : t = d
              · subst ht
                rw [if_pos rfl] at hx
                cases hx
                exact hR
              · rw [if_neg ht] at hx
                exact hless.slots t x hx }
      · cases hdd : o.dst with
        | none => rw [hdd] at hK; exact ⟨_, β, hK, h⟩
        | some d => rw [hdd] at hK hd; exact ⟨_, β, hK, h.put (by simpa [dstOk] using hd) (mkCond_R (fun hh => by rw [hg] at hh; cases hh) fun _ => rfl)⟩
    | invoke r m => simp only [hc] at hw; exact pr_wp hty h hw.1 (by rw [ho]; exact hw.2)
    | builtin b => simp only [hc] at hw; exact pr_wp hty h hw.1 (by rw [ho]; exact hw.2)
  | _ => rw [ho] at hw; exact pr_wp hty h hw.1 (by rw [ho]; exact hw.2)

theorem step_sound (hA : Ap P X0 M w0) (hty : ∀ T d, lk T tys = some d → TyOk P T d) (hC : COk P C) (h : Sim N X0 M w0 st β a w) {ops : Array Oper} {o : Oper} {K : St → Prop} (hw : st.step tys C N ops o K) {Q : Exit → Act → World → Prop} :
    if Region.wanted o (yielded ops a.tmps) then o.wp P a w (Ok N X0 M w0 K) Q else Ok N X0 M w0 K (a.put o.dst undef) w := by
  unfold St.step at hw
  cases hg : o.guard with
  | none =>
    rw [hg] at hw
    have : Region.wanted o (yielded ops a.tmps) = true := by simp [Region.wanted, hg]
    rw [if_pos this]
    exact stepU_sound hA hty hC h hw
  | some gw =>
    obtain ⟨j, want⟩ := gw
    rw [hg] at hw
    simp only at hw
    split at hw
    case h_2 => exact hw.elim
    case h_1 _ t ht =>
      split at hw
      case h_2 => exact hw.elim
      case h_1 _ g hc =>
        have hR : R w (XX X0 β st.hp) β (st.get t) (a.eval (.tmp t)) := St.ev_ok h (.tmp t)
        have hy : yielded ops a.tmps j = (match a.tmps.getD t undef with | .bool b => some b | _ => none) := by
          unfold yielded
          rw [ht]
          simp only [Option.bind_some]
          rw [Array.getD_eq_getD_getElem?]
          cases hq : a.tmps[t]? with
          | none => rfl
          | some v => cases v <;> rfl
        have hwant : Region.wanted o (yielded ops a.tmps) = g := by
          simp only [Region.wanted, hg, hy]
          generalize st.get t = y at hc hR
          unfold guardB at hc
          split at hc
          · rename_i b
            have hv : a.tmps.getD t undef = .bool b := hR.v_inv
            rw [hv]
            cases hc
            cases b <;> cases want <;> rfl
          · rename_i g' b
            cases hc
            cases g' with
            | false =>
              have hv : a.tmps.getD t undef = undef := hR.cond_undef rfl
              rw [hv]; rfl
            | true =>
              have hv : a.tmps.getD t undef = .bool b := (hR.cond_inv rfl).v_inv
              rw [hv]
              cases b <;> cases want <;> rfl
          · cases hc
        obtain ⟨h1, h2⟩ := stepG_sound (Q := Q) hA hty hC h hw
        rw [hwant]
        by_cases hcw : g = true
        · rw [if_pos hcw]; exact h1 hcw
        · rw [if_neg hcw]; exact h2 (by simpa using hcw)

theorem runR_sound (hA : Ap P X0 M w0) (hty : ∀ T d, lk T tys = some d → TyOk P T d) (hC : COk P C) {ops : Array Oper} {K : St → Prop} {Q : Exit → Act → World → Prop} (hQ : ∀ a w, Ok N X0 M w0 K a w → Q .normal a w) :
    ∀ (l : List Oper) {st : St} {β : Nat → BV} {a : Act} {w : World}, Sim N X0 M w0 st β a w → St.runR tys C N ops l st K → wpList P ops Q l a w
  | [], st, β, a, w, h, hw => hQ a w ⟨st, β, hw, h⟩
  | o :: l, st, β, a, w, h, hw => by
    have h1 := step_sound (Q := Q) hA hty hC h hw
    unfold wpList
    split
    · rename_i hwt
      rw [if_pos hwt] at h1
      exact .inl (Oper.wp_mono (fun a' w' ⟨st', β', h2, h3⟩ => runR_sound hA hty hC hQ l h3 h2) h1)
    · rename_i hwt
      rw [if_neg hwt] at h1
      obtain ⟨st', β', h2, h3⟩ := h1
      exact runR_sound hA hty hC hQ l h3 h2
end

/-! ## Control -/

structure Cx where
  P : Program
  tys : List (Nat × TyD)
  C : List (FuncId × Ctr)
  hty : ∀ T d, lk T tys = some d → TyOk P T d
  hC : COk P C

def WP (c : Cx) (N : Nat) (X0 : Nat → Prop) (M : Nat → BV → Prop) (w0 : World) (code : Code) (st : St) (K : Exit → St → Prop) : Prop :=
  Ap c.P X0 M w0 → ∀ β a w, Sim N X0 M w0 st β a w → code.wp c.P (fun e a' w' => Ok N X0 M w0 (K e) a' w') a w

def thenK (next : St → Prop) (K : Exit → St → Prop) : Exit → St → Prop
  | .normal, st => next st
  | e, st => K e st
def blockK (id : Nat) (K : Exit → St → Prop) : Exit → St → Prop
  | .exit id', st => if id' = id then K .normal st else K (.exit id') st
  | e, st => K e st

section
variable {c : Cx} {N : Nat} {X0 : Nat → Prop} {M : Nat → BV → Prop} {w0 : World} {st : St} {K : Exit → St → Prop}

theorem WP.seq {x y : Code} (h : WP c N X0 M w0 x st (thenK (fun st' => WP c N X0 M w0 y st' K) K)) : WP c N X0 M w0 (.seq x y) st K := fun hA β a w hs =>
  wp_seq (Code.wp_mono (fun e a w hq => by
    cases e with
    | normal => obtain ⟨st', β', h1, h2⟩ := hq; exact h1 hA β' a w h2
    | _ => exact hq) (h hA β a w hs))

theorem WP.cond {x : Operand} {p q : Code} {b : Bool} (hx : st.ev x = .v (.bool b)) (h1 : b = true → WP c N X0 M w0 p st K) (h2 : b = false → WP c N X0 M w0 q st K) : WP c N X0 M w0 (.cond x p q) st K := fun hA β a w hs => by
  have he : a.eval x = .bool b := (hx ▸ St.ev_ok hs x : R w _ β (.v (.bool b)) (a.eval x)).v_inv
  exact wp_cond_split he (fun h => h1 h hA β a w hs) (fun h => h2 h hA β a w hs)

theorem WP.block {id : Nat} {p : Code} (h : WP c N X0 M w0 p st (blockK id K)) : WP c N X0 M w0 (.block id p) st K := fun hA β a w hs =>
  wp_block (Code.wp_mono (fun e a w hq => by
    cases e with
    | exit id' =>
      obtain ⟨st', β', h1, h2⟩ := hq
      simp only [blockK] at h1
      simp only [Exit.inBlock]
      split
      · rename_i he; rw [if_pos he] at h1; exact ⟨st', β', h1, h2⟩
      · rename_i he; rw [if_neg he] at h1; exact ⟨st', β', h1, h2⟩
    | _ => exact hq) (h hA β a w hs))

theorem WP.skip (h : K .normal st) : WP c N X0 M w0 .skip st K := fun hA β a w hs => wp_skip ⟨st, β, h, hs⟩
theorem WP.ret (h : K .ret st) : WP c N X0 M w0 .ret st K := fun hA β a w hs => wp_ret ⟨st, β, h, hs⟩
theorem WP.exit {id : Nat} (h : K (.exit id) st) : WP c N X0 M w0 (.exit id) st K := fun hA β a w hs => wp_exit ⟨st, β, h, hs⟩

theorem WP.region {id : Nat} {l : List Oper} (h : St.runR c.tys c.C N l.toArray l st (K .normal)) : WP c N X0 M w0 (.region id l.toArray false) st K := fun hA β a w hs =>
  wp_region_lit (runR_sound hA c.hty c.hC (fun a w hk => hk) l hs h)

theorem WP.mono {code : Code} {K' : Exit → St → Prop} (hk : ∀ e st, K e st → K' e st) (h : WP c N X0 M w0 code st K) : WP c N X0 M w0 code st K' := fun hA β a w hs =>
  Code.wp_mono (fun e a w hq => hq.mono (hk e)) (h hA β a w hs)

/-- st' is a part of st -/
def subL {α : Type} : List (Nat × α) → List (Nat × α) → Prop
  | [], _ => True
  | (t, x) :: r, l => lk t l = some x ∧ subL r l
def St.has (st st' : St) : Prop := subL st'.fr st.fr ∧ subL st'.hp st.hp

theorem subL_lk {α : Type} {t : Nat} {x : α} : ∀ {r l : List (Nat × α)}, subL r l → lk t r = some x → lk t l = some x
  | (u, y) :: r, l, h, hx => by
    simp only [lk] at hx
    by_cases ht : t = u
    · rw [if_pos ht] at hx; cases hx; subst ht; exact h.1
    · rw [if_neg ht] at hx; exact subL_lk h.2 hx

theorem Sim.has {β : Nat → BV} {a : Act} {w : World} (h : Sim N X0 M w0 st β a w) {st' : St} (hs : st.has st') : Sim N X0 M w0 st' β a w :=
  h.less (fun t x hx => subL_lk hs.1 hx) (fun t x hx => subL_lk hs.2 hx)

theorem WP.part {code : Code} {st' : St} (hs : st.has st') (h : WP c N X0 M w0 code st' K) : WP c N X0 M w0 code st K := fun hA β a w hw => h hA β a w (hw.has hs)

theorem least {p : Nat → Prop} (h : ∃ n, p n) : ∃ n, p n ∧ ∀ m, p m → n ≤ m := by
  obtain ⟨n, hn⟩ := h
  induction n using Nat.strongRecOn with
  | _ n ih =>
    by_cases hm : ∃ m, m < n ∧ p m
    · obtain ⟨m, hlt, hp⟩ := hm; exact ih m hlt hp
    · exact ⟨n, hn, fun m hp => by
        rcases Nat.lt_or_ge m n with h | h
        · exact absurd ⟨m, h, hp⟩ hm
        · exact h⟩

open Classical in
/-- a loop: at each round's head the state is I s for some s of which J s holds; every round lowers μ -/
theorem WP.loop {S : Type} {p : Code} (I : S → St) (J : S → Prop) (μ : S → Nat) (s0 : S) (h0 : J s0) (hi : st.has (I s0))
    (hr : ∀ s, J s → WP c N X0 M w0 p (I s) (thenK (fun st' => ∃ s', J s' ∧ μ s' < μ s ∧ st'.has (I s')) K)) : WP c N X0 M w0 (.loop p) st K := by
  intro hA β a w hs
  let Inv : Act → World → Nat → Prop := fun a w n => ∃ s β, J s ∧ μ s = n ∧ Sim N X0 M w0 (I s) β a w
  refine wp_loop (fun a w => ∃ n, Inv a w n) (fun a w => if h : ∃ n, Inv a w n then Classical.choose (least h) else 0) ⟨μ s0, s0, β, h0, rfl, hs.has hi⟩ ?_
  intro a w hI
  have hsp := Classical.choose_spec (least hI)
  obtain ⟨⟨s, β', hj, hm, hsim⟩, _⟩ := hsp
  refine Code.wp_mono (fun e a' w' hq => ?_) (hr s hj hA β' a w hsim)
  cases e with
  | normal =>
    obtain ⟨st', β2, ⟨s', hj', hlt, hhas⟩, h2⟩ := hq
    have hI' : ∃ n, Inv a' w' n := ⟨μ s', s', β2, hj', rfl, h2.has hhas⟩
    refine ⟨hI', ?_⟩
    simp only [dif_pos hI', dif_pos hI]
    have hle := (Classical.choose_spec (least hI')).2 (μ s') ⟨s', β2, hj', rfl, h2.has hhas⟩
    omega
  | _ => exact hq

/-! ## A function -/

/-- what is handed back -/
def St.out (st : St) : ResultVar → Option SV
  | .tmp t => some (st.get t)
  | .cell t _ => match st.get t with
    | .ptr id _ 0 0 => match lk id st.hp with
      | some (.box _ cs) => some (.agg cs)
      | _ => none
    | _ => none
def outs (st : St) : List ResultVar → Option (List SV)
  | [] => some []
  | r :: l => match st.out r, outs st l with
    | some x, some xs => some (x :: xs)
    | _, _ => none
def outC (tys : List (Nat × TyD)) (st : St) : ResultVar → Prop
  | .tmp _ => True
  | .cell t T => ∃ d, lk T tys = some d ∧ d.kind = 3 ∧ ∃ id s, st.get t = .ptr id s 0 0 ∧ ∃ e cs, lk id st.hp = some (.box e cs) ∧ cs.length = d.size
/-! a result that is nil may stand for an empty list of one's own -/
def okC (hp robs : List (Nat × Ob)) (x : SV) : SV → Prop
  | .own i => match x with
    | .v (.slice none 0 0) => ∃ e s, lk i robs = some (.sl e s [])
    | .own j => ∃ ob, lk j hp = some ob ∧ lk i robs = some ob
    | _ => False
  | .sl s rows => x = .sl s rows ∨ (rows = [] ∧ x = .v (.slice none 0 0))
  | .ptr i s a b => match x with
    | .ptr j s' a' b' => (s' = s ∧ a' = a ∧ b' = b) ∧ ∃ ob, lk j hp = some ob ∧ lk i robs = some ob
    | _ => False
  | r => x = r
def nilC (x : SV) : SV → List Nat
  | .own i => match x with
    | .v (.slice none 0 0) => [i]
    | _ => []
  | _ => []
def keepC (x : SV) : SV → List (Nat × Nat)
  | .own i => match x with
    | .own j => [(i, j)]
    | _ => []
  | .ptr i _ _ _ => match x with
    | .ptr j _ _ _ => [(i, j)]
    | _ => []
  | _ => []
def okL (hp robs : List (Nat × Ob)) : List SV → List SV → Prop
  | [], [] => True
  | x :: xs, r :: rs => okC hp robs x r ∧ okL hp robs xs rs
  | _, _ => False
def nilL : List SV → List SV → List Nat
  | x :: xs, r :: rs => nilC x r ++ nilL xs rs
  | _, _ => []
def keepL : List SV → List SV → List (Nat × Nat)
  | x :: xs, r :: rs => keepC x r ++ keepL xs rs
  | _, _ => []
def okA (hp robs : List (Nat × Ob)) (x : SV) : SV → Prop
  | .agg cs => match x.ofAgg with
    | some ds => okL hp robs ds cs
    | none => False
  | r => okC hp robs x r
def nilA (x : SV) : SV → List Nat
  | .agg cs => match x.ofAgg with
    | some ds => nilL ds cs
    | none => []
  | r => nilC x r
def keepA (x : SV) : SV → List (Nat × Nat)
  | .agg cs => match x.ofAgg with
    | some ds => keepL ds cs
    | none => []
  | r => keepC x r
def okT (hp robs : List (Nat × Ob)) : List SV → List SV → Prop
  | [], [] => True
  | x :: xs, r :: rs => okA hp robs x r ∧ okT hp robs xs rs
  | _, _ => False
def nilT : List SV → List SV → List Nat
  | x :: xs, r :: rs => nilA x r ++ nilT xs rs
  | _, _ => []
def keepT : List SV → List SV → List (Nat × Nat)
  | x :: xs, r :: rs => keepA x r ++ keepT xs rs
  | _, _ => []
def cover (robs : List (Nat × Ob)) (nl : List Nat) (kl : List (Nat × Nat)) : Bool :=
  ((robs.map (·.1)).all fun i => (nl ++ kl.map (·.1)).contains i) && (nl.all fun i => !(kl.map (·.1)).contains i) && nodupN (kl.map (·.1)) && nodupN (kl.map (·.2))
def tups (rs : SV) : Option (List SV) := match rs with
  | .tup cs => some cs
  | _ => none
def outK (tys : List (Nat × TyD)) (rs : List ResultVar) (res : SV) (robs : List (Nat × Ob)) (st : St) : Prop :=
  (∀ r ∈ rs, outC tys st r) ∧ res.rok = true ∧
  match rs with
  | [r] => match st.out r with
    | some x => okA st.hp robs x res ∧ cover robs (nilA x res) (keepA x res) = true
    | none => False
  | l => match outs st l, tups res with
    | some xs, some cs => okT st.hp robs xs cs ∧ cover robs (nilT xs cs) (keepT xs cs) = true
    | _, _ => False
def retK (tys : List (Nat × TyD)) (rs : List ResultVar) (res : SV) (robs : List (Nat × Ob)) : Exit → St → Prop
  | .normal, st => outK tys rs res robs st
  | .ret, st => outK tys rs res robs st
  | _, _ => False

def argsL : Nat → List SV → List (Nat × SV)
  | _, [] => []
  | k, x :: l => (k, x) :: argsL (k + 1) l

theorem argsL_lk : ∀ (l : List SV) (k t : Nat) (x : SV), lk t (argsL k l) = some x → k ≤ t ∧ l[t - k]? = some x
  | [], k, t, x, h => by cases h
  | y :: l, k, t, x, h => by
    simp only [argsL, lk] at h
    by_cases ht : t = k
    · rw [if_pos ht] at h; cases h; subst ht; exact ⟨Nat.le_refl _, by simp⟩
    · rw [if_neg ht] at h
      obtain ⟨h1, h2⟩ := argsL_lk l (k + 1) t x h
      refine ⟨by omega, ?_⟩
      have : t - k = (t - (k + 1)) + 1 := by omega
      rw [this, List.getElem?_cons_succ]
      exact h2

def resF (tmps : Array Value) : ResultVar → Sem Value
  | .tmp t => pure (tmps.getD t undef)
  | .cell a t => do loadVar t (← asAddr (tmps.getD a undef))

theorem out_ok {β : Nat → BV} {a : Act} {w : World} (h : Sim N X0 M w0 st β a w) {r : ResultVar} {x : SV} (hx : st.out r = some x)
    (hr : outC c.tys st r) :
    ∃ v, (resF a.tmps r).run c.P w = .ok v w ∧ R w (XX X0 β st.hp) β x v := by
  cases r with
  | tmp t =>
    simp only [St.out, Option.some.injEq] at hx
    subst hx
    exact ⟨_, rfl, St.ev_ok h (.tmp t)⟩
  | cell t T =>
    obtain ⟨d, hd, hk, id, s, hg, e, cs, hl, hlen⟩ := hr
    simp only [St.out, hg, hl, Option.some.injEq] at hx
    subst hx
    have hev : st.ev (.tmp t) = .ptr id s 0 0 := hg
    obtain ⟨b, hb, hv⟩ := (hev ▸ St.ev_ok h (.tmp t) : R w _ β (.ptr id s 0 0) (a.eval (.tmp t))).ptr_inv
    have hv' : a.tmps.getD t undef = .pointer (some ⟨b, 0, none⟩) := by
      have : a.eval (.tmp t) = a.tmps.getD t undef := rfl
      rw [← this, hv]; simp
    obtain ⟨b', hvb, hcell⟩ := (h.objs id _ hl).boxCell
    have hbb : b = b' := by rw [hvb] at hb; simpa [blk, plain] using hb.symm
    subst hbb
    obtain ⟨v, hr, hR⟩ := loadVar_ok (c.hty T d hd) (w := w) (X := XX X0 β st.hp) (β := β) (b := b) (off := 0) (k := 0) (row := cs) (by omega) (c.hty T d hd).one (fun j hj => by
      obtain ⟨q, u, h1, h2, _, h3⟩ := hcell j (by omega)
      exact ⟨q, u, by simpa using h1, by simpa using h2, h3⟩)
    refine ⟨v, by simp [resF, hv', asAddr]; exact hr, ?_⟩
    have : cellsAt d.kind d.size cs 0 = .agg cs := by
      unfold cellsAt
      rw [if_pos hk, List.drop_zero, List.take_of_length_le (by omega)]
    rw [← this]; exact hR

theorem outs_ok {β : Nat → BV} {a : Act} {w : World} (h : Sim N X0 M w0 st β a w) : ∀ (rs : List ResultVar) {xs : List SV}, outs st rs = some xs →
    (∀ r ∈ rs, outC c.tys st r) →
    ∃ vs, (rs.mapM (resF a.tmps)).run c.P w = .ok vs w ∧ xs.length = vs.length ∧ ∀ (k : Nat) (y : SV) (u : Value), xs[k]? = some y → vs[k]? = some u → R w (XX X0 β st.hp) β y u
  | [], xs, hx, _ => by
    simp only [outs, Option.some.injEq] at hx
    subst hx
    exact ⟨[], by simp, rfl, by simp⟩
  | r :: l, xs, hx, hr => by
    simp only [outs] at hx
    split at hx
    · rename_i x xs' h1 h2
      cases hx
      obtain ⟨v, hv, hR⟩ := out_ok (c := c) h h1 (hr r List.mem_cons_self)
      obtain ⟨vs, hvs, hl, hRs⟩ := outs_ok h l h2 (fun r hm => hr r (List.mem_cons_of_mem _ hm))
      refine ⟨v :: vs, by simp [List.mapM_cons, hv, hvs], by simp [hl], fun k y u hy hu => ?_⟩
      cases k with
      | zero => simp at hy hu; subst hy hu; exact hR
      | succ k => exact hRs k y u (by simpa using hy) (by simpa using hu)
    · cases hx

theorem results_eq (fn : Func) (tmps : Array Value) : Go.results fn tmps = (do
    let vs ← fn.results.mapM (resF tmps)
    pure (if h : vs.size = 1 then vs[0] else .tuple vs)) := rfl

section
variable {w' : World} {X : Nat → Prop} {β β' : Nat → BV} {hp robs : List (Nat × Ob)}
theorem okC_R {x res : SV} {v : Value} (h : okC hp robs x res) (hR : R w' X β x v) (hk : res.rok1 = true) (hn : ∀ i ∈ nilC x res, β' i = nilB) (hb : ∀ p ∈ keepC x res, β' p.1 = β p.2) : R w' X β' res v := by
  cases res with
  | own i =>
    simp only [okC] at h
    split at h
    · have := hR.v_inv; subst this
      have h0 := R.own (w := w') (X := X) (β := β') i
      rw [hn i (by simp [nilC])] at h0; exact h0
    · rename_i j
      have := hR.own_inv; subst this
      rw [← hb (i, j) (by simp [keepC])]; exact .own i
    · exact h.elim
  | v y => simp only [okC] at h; subst h; have := hR.v_inv; subst this; exact .p (.v _)
  | sl s rows =>
    simp only [okC] at h
    rcases h with h | ⟨h1, h2⟩
    · subst h; exact .p hR.sl_inv
    · subst h1 h2; have := hR.v_inv; subst this; exact .p (.nil s _ _)
  | ptr i s a b =>
    simp only [okC] at h
    split at h
    · rename_i j s' a' b'
      obtain ⟨⟨rfl, rfl, rfl⟩, _⟩ := h
      obtain ⟨bb, hbb, rfl⟩ := hR.ptr_inv
      exact .ptr i _ _ _ bb (by rw [hb (i, j) (by simp [keepC])]; exact hbb)
    · exact h.elim
  | _ => cases hk
theorem okC_cov {x res : SV} (h : okC hp robs x res) : (∀ i ∈ nilC x res, ∃ e s, lk i robs = some (.sl e s [])) ∧ ∀ p ∈ keepC x res, ∃ ob, lk p.2 hp = some ob ∧ lk p.1 robs = some ob := by
  cases res with
  | own i =>
    simp only [okC, nilC, keepC] at h ⊢
    split at h
    · simpa using h
    · simpa using h
    · exact h.elim
  | ptr i s a b =>
    simp only [okC, nilC, keepC] at h ⊢
    split at h
    · simpa using h.2
    · exact h.elim
  | _ => simp [nilC, keepC]
theorem okL_R : ∀ {xs rs : List SV} {us : List Value}, okL hp robs xs rs → xs.length = us.length → (∀ (k : Nat) (c : SV) (u : Value), xs[k]? = some c → us[k]? = some u → R w' X β c u) → rs.all SV.rok1 = true →
    (∀ i ∈ nilL xs rs, β' i = nilB) → (∀ p ∈ keepL xs rs, β' p.1 = β p.2) → rs.length = us.length ∧ ∀ (k : Nat) (c : SV) (u : Value), rs[k]? = some c → us[k]? = some u → R w' X β' c u
  | [], [], us, _, hl, _, _, _, _ => ⟨hl, fun k c u hc => by simp at hc⟩
  | x :: xs, r :: rs, u0 :: us, h, hl, hR, hk, hn, hb => by
    simp only [List.all_cons, Bool.and_eq_true] at hk
    have ih := okL_R (us := us) h.2 (by simpa using hl) (fun k c u hc hu => hR (k + 1) c u (by simpa using hc) (by simpa using hu)) hk.2 (fun i hi => hn i (List.mem_append_right _ hi)) (fun i hi => hb i (List.mem_append_right _ hi))
    have h0 := okC_R h.1 (hR 0 x u0 rfl rfl) hk.1 (fun i hi => hn i (List.mem_append_left _ hi)) (fun i hi => hb i (List.mem_append_left _ hi))
    refine ⟨by simp [ih.1], fun k c u hc hu => ?_⟩
    cases k with
    | zero => simp at hc hu; subst hc hu; exact h0
    | succ k => exact ih.2 k c u (by simpa using hc) (by simpa using hu)
  | x :: xs, r :: rs, [], _, hl, _, _, _, _ => by simp at hl
  | [], _ :: _, _, h, _, _, _, _, _ => h.elim
  | _ :: _, [], _, h, _, _, _, _, _ => h.elim
theorem okL_cov : ∀ {xs rs : List SV}, okL hp robs xs rs → (∀ i ∈ nilL xs rs, ∃ e s, lk i robs = some (.sl e s [])) ∧ ∀ p ∈ keepL xs rs, ∃ ob, lk p.2 hp = some ob ∧ lk p.1 robs = some ob
  | [], [], _ => by simp [nilL, keepL]
  | x :: xs, r :: rs, h => by
    have h1 := okC_cov h.1
    have h2 := okL_cov h.2
    refine ⟨fun i hi => ?_, fun i hi => ?_⟩
    · rcases List.mem_append.1 hi with hi | hi
      · exact h1.1 i hi
      · exact h2.1 i hi
    · rcases List.mem_append.1 hi with hi | hi
      · exact h1.2 i hi
      · exact h2.2 i hi
  | [], _ :: _, h => h.elim
  | _ :: _, [], h => h.elim
theorem okA_R {x res : SV} {v : Value} (h : okA hp robs x res) (hR : R w' X β x v) (hk : res.rok2 = true) (hn : ∀ i ∈ nilA x res, β' i = nilB) (hb : ∀ p ∈ keepA x res, β' p.1 = β p.2) : R w' X β' res v := by
  cases res with
  | agg cs =>
    simp only [okA] at h
    simp only [nilA, keepA] at hn hb
    split at h
    · rename_i ds hds
      rw [hds] at hn hb
      obtain ⟨us, rfl, hl, hh⟩ := ofAgg_R hds hR
      have := okL_R h hl hh hk hn hb
      exact .agg this.1 this.2
    · exact h.elim
  | v y => exact okC_R (hp := hp) (robs := robs) h hR hk hn hb
  | sl s rows => exact okC_R (hp := hp) (robs := robs) h hR hk hn hb
  | own i => exact okC_R (hp := hp) (robs := robs) h hR hk hn hb
  | ptr i s a b => exact okC_R (hp := hp) (robs := robs) h hR hk hn hb
  | _ => cases hk
theorem okA_cov {x res : SV} (h : okA hp robs x res) : (∀ i ∈ nilA x res, ∃ e s, lk i robs = some (.sl e s [])) ∧ ∀ p ∈ keepA x res, ∃ ob, lk p.2 hp = some ob ∧ lk p.1 robs = some ob := by
  cases res with
  | agg cs =>
    simp only [okA] at h
    simp only [nilA, keepA]
    split at h
    · rename_i ds hds; first | (rw [hds]; exact okL_cov h) | exact okL_cov h
    · exact h.elim
  | _ => simp only [okA] at h; exact okC_cov (hp := hp) (robs := robs) h
theorem okT_R : ∀ {xs rs : List SV} {us : List Value}, okT hp robs xs rs → xs.length = us.length → (∀ (k : Nat) (c : SV) (u : Value), xs[k]? = some c → us[k]? = some u → R w' X β c u) → rs.all SV.rok2 = true →
    (∀ i ∈ nilT xs rs, β' i = nilB) → (∀ p ∈ keepT xs rs, β' p.1 = β p.2) → rs.length = us.length ∧ ∀ (k : Nat) (c : SV) (u : Value), rs[k]? = some c → us[k]? = some u → R w' X β' c u
  | [], [], us, _, hl, _, _, _, _ => ⟨hl, fun k c u hc => by simp at hc⟩
  | x :: xs, r :: rs, u0 :: us, h, hl, hR, hk, hn, hb => by
    simp only [List.all_cons, Bool.and_eq_true] at hk
    have ih := okT_R (us := us) h.2 (by simpa using hl) (fun k c u hc hu => hR (k + 1) c u (by simpa using hc) (by simpa using hu)) hk.2 (fun i hi => hn i (List.mem_append_right _ hi)) (fun i hi => hb i (List.mem_append_right _ hi))
    have h0 := okA_R h.1 (hR 0 x u0 rfl rfl) hk.1 (fun i hi => hn i (List.mem_append_left _ hi)) (fun i hi => hb i (List.mem_append_left _ hi))
    refine ⟨by simp [ih.1], fun k c u hc hu => ?_⟩
    cases k with
    | zero => simp at hc hu; subst hc hu; exact h0
    | succ k => exact ih.2 k c u (by simpa using hc) (by simpa using hu)
  | x :: xs, r :: rs, [], _, hl, _, _, _, _ => by simp at hl
  | [], _ :: _, _, h, _, _, _, _, _ => h.elim
  | _ :: _, [], _, h, _, _, _, _, _ => h.elim
theorem okT_cov : ∀ {xs rs : List SV}, okT hp robs xs rs → (∀ i ∈ nilT xs rs, ∃ e s, lk i robs = some (.sl e s [])) ∧ ∀ p ∈ keepT xs rs, ∃ ob, lk p.2 hp = some ob ∧ lk p.1 robs = some ob
  | [], [], _ => by simp [nilT, keepT]
  | x :: xs, r :: rs, h => by
    have h1 := okA_cov h.1
    have h2 := okT_cov h.2
    refine ⟨fun i hi => ?_, fun i hi => ?_⟩
    · rcases List.mem_append.1 hi with hi | hi
      · exact h1.1 i hi
      · exact h2.1 i hi
    · rcases List.mem_append.1 hi with hi | hi
      · exact h1.2 i hi
      · exact h2.2 i hi
  | [], _ :: _, h => h.elim
  | _ :: _, [], h => h.elim
end

theorem outs_len {st : St} : ∀ (l : List ResultVar) {xs}, outs st l = some xs → xs.length = l.length := by
  intro l
  induction l with
  | nil => intro xs hx; simp only [outs, Option.some.injEq] at hx; subst hx; rfl
  | cons r l ih =>
    intro xs hx
    simp only [outs] at hx
    split at hx
    · rename_i x xs' _ h2; cases hx; simp [ih h2]
    · cases hx

theorem nodupN_mem {d : Nat} {l : List Nat} (h : nodupN (d :: l) = true) : d ∉ l ∧ nodupN l = true := by simpa [nodupN] using h
theorem lk_nodup : ∀ {l : List (Nat × Nat)} {i j : Nat}, nodupN (l.map (·.1)) = true → (i, j) ∈ l → lk i l = some j
  | (a, b) :: l, i, j, h, hm => by
    obtain ⟨h1, h2⟩ := nodupN_mem h
    simp only [lk]
    rcases List.mem_cons.1 hm with e | hm
    · cases e; rw [if_pos rfl]
    · rw [if_neg (fun e => h1 (by rw [← e]; exact List.mem_map.2 ⟨_, hm, rfl⟩))]
      exact lk_nodup h2 hm
theorem snd_nodup : ∀ {l : List (Nat × Nat)} {i i' j : Nat}, nodupN (l.map (·.2)) = true → (i, j) ∈ l → (i', j) ∈ l → i = i'
  | (a, b) :: l, i, i', j, h, hm, hm' => by
    obtain ⟨h1, h2⟩ := nodupN_mem h
    rcases List.mem_cons.1 hm with e | hm
    · rcases List.mem_cons.1 hm' with e' | hm'
      · cases e; cases e'; rfl
      · cases e; exact absurd (List.mem_map.2 ⟨_, hm', rfl⟩) h1
    · rcases List.mem_cons.1 hm' with e' | hm'
      · cases e'; exact absurd (List.mem_map.2 ⟨_, hm, rfl⟩) h1
      · exact snd_nodup h2 hm hm'

/-- the numbers of what is handed back, and the rest -/
def outJ (rs : List ResultVar) (res : SV) (st : St) : List Nat := match rs with
  | [r] => match st.out r with
    | some x => (keepA x res).map (·.2)
    | none => []
  | l => match outs st l, tups res with
    | some xs, some cs => (keepT xs cs).map (·.2)
    | _, _ => []
def OutOk (L : List Nat) (st : St) (β β' : Nat → BV) (robs : List (Nat × Ob)) : Prop :=
  (∀ i, (β' i).val.oneCell' = true) ∧ ∃ rel : Nat → Nat → Prop, (∀ i i' j, rel i j → rel i' j → i = i') ∧ (∀ i j, rel i j → j ∈ L) ∧
    ∀ i ob, lk i robs = some ob → (β' i = nilB ∧ ∃ e s, ob = .sl e s []) ∨ (∃ j, rel i j ∧ β' i = β j ∧ lk j st.hp = some ob)
theorem outK_ok {β : Nat → BV} {a : Act} {w : World} (h : Sim N X0 M w0 st β a w) {fn : Func} {rs : List ResultVar} (hrs : fn.results.toList = rs) {res : SV} {robs : List (Nat × Ob)} (ho : outK c.tys rs res robs st) :
    ∃ v β', (Go.results fn a.tmps).run c.P w = .ok v w ∧ R w (XX X0 β st.hp) β' res v ∧ OutOk (outJ rs res st) st β β' robs := by
  have hfr : fn.results = rs.toArray := by rw [← hrs]
  obtain ⟨h2, hrok, h1⟩ := ho
  rw [results_eq, hfr]
  have fin : ∀ (nl : List Nat) (kl : List (Nat × Nat)), cover robs nl kl = true → (∀ i ∈ nl, ∃ e s, lk i robs = some (.sl e s [])) → (∀ p ∈ kl, ∃ ob, lk p.2 st.hp = some ob ∧ lk p.1 robs = some ob) →
      let β' : Nat → BV := fun i => if i ∈ nl then nilB else match lk i kl with | some j => β j | none => β i
      OutOk (kl.map (·.2)) st β β' robs ∧ (∀ i ∈ nl, β' i = nilB) ∧ (∀ p ∈ kl, β' p.1 = β p.2) := by
    intro nl kl hcv hn hk β'
    simp only [cover, Bool.and_eq_true] at hcv
    obtain ⟨⟨⟨c1, c2⟩, c3⟩, c4⟩ := hcv
    have hkl : ∀ p ∈ kl, β' p.1 = β p.2 := fun p hp => by
      have : p.1 ∉ nl := fun hin => by
        have := List.all_eq_true.1 c2 p.1 hin
        simp at this
        exact this p.2 hp
      simp [β', this, lk_nodup c3 hp]
    refine ⟨⟨fun i => ?_, fun i j => (i, j) ∈ kl, fun i i' j h1 h2 => snd_nodup c4 h1 h2, fun i j hh => List.mem_map.2 ⟨(i, j), hh, rfl⟩, fun i ob hi => ?_⟩, fun i hi => by simp [β', hi], hkl⟩
    · by_cases hi : i ∈ nl
      · simp [β', hi, nilB, Value.oneCell']
      · simp only [β', hi, if_false]
        split <;> exact h.beta _
    · have := List.all_eq_true.1 c1 i (List.mem_map.2 ⟨(i, ob), lk_mem hi, rfl⟩)
      by_cases hin : i ∈ nl
      · obtain ⟨e, s, he⟩ := hn i hin
        rw [he] at hi; cases hi
        exact .inl ⟨by simp [β', hin], e, s, rfl⟩
      · have hik : i ∈ kl.map (·.1) := by
          rw [List.contains_iff_mem, List.mem_append] at this
          exact this.resolve_left hin
        obtain ⟨p, hp, rfl⟩ := List.mem_map.1 hik
        obtain ⟨o, h3, h4⟩ := hk p hp
        rw [h4] at hi; cases hi
        exact .inr ⟨p.2, hp, hkl p hp, h3⟩
  have two : ∀ (xs cs : List SV), outs st rs = some xs → tups res = some cs → rs.length ≠ 1 → okT st.hp robs xs cs ∧ cover robs (nilT xs cs) (keepT xs cs) = true →
      ∃ v β', (do let vs ← rs.toArray.mapM (resF a.tmps); pure (if h : vs.size = 1 then vs[0] else .tuple vs) : Sem Value).run c.P w = .ok v w ∧ R w (XX X0 β st.hp) β' res v ∧ OutOk ((keepT xs cs).map (·.2)) st β β' robs := fun xs cs hx hc hn hk => by
    obtain ⟨vs, hv, hl, hR⟩ := outs_ok (c := c) h rs hx h2
    have hvn : vs.length ≠ 1 := by rw [← hl, outs_len rs hx]; exact hn
    have hcov := okT_cov hk.1
    obtain ⟨f1, f2, f3⟩ := fin _ _ hk.2 hcov.1 hcov.2
    cases res with
    | tup ds =>
      simp only [tups, Option.some.injEq] at hc
      subst hc
      have := okT_R hk.1 hl hR hrok f2 f3
      exact ⟨.tuple vs.toArray, _, by simp [hv, hvn], .tup this.1 this.2, f1⟩
    | _ => cases hc
  match rs, h1, h2, two with
  | [], h1, h2, two =>
    simp only at h1
    split at h1
    · rename_i xs cs hx hc
      have e : outJ [] res st = (keepT xs cs).map (·.2) := by simp only [outJ, hx, hc]
      rw [e]
      exact two xs cs hx hc (by simp) h1
    · exact h1.elim
  | [r], h1, h2, two =>
    simp only at h1
    split at h1
    · rename_i x hx
      have eJ : outJ [r] res st = (keepA x res).map (·.2) := by simp only [outJ, hx]
      rw [eJ]
      obtain ⟨v, hv, hR⟩ := out_ok (c := c) h hx (h2 r List.mem_cons_self)
      have hcov := okA_cov h1.1
      obtain ⟨f1, f2, f3⟩ := fin _ _ h1.2 hcov.1 hcov.2
      cases hres : res with
      | tup ds =>
        rw [hres] at h1
        simp only [okA, okC] at h1
        rw [h1.1] at hR
        refine ⟨v, β, by simp [hv], hR, h.beta, fun _ _ => False, fun _ _ _ hf => hf.elim, fun _ _ hf => hf.elim, fun i ob hi => ?_⟩
        have h12 := h1.2
        have e1 : nilA x (.tup ds) = [] := rfl
        have e2 : keepA x (.tup ds) = [] := rfl
        rw [e1, e2] at h12
        simp only [cover, Bool.and_eq_true] at h12
        have := List.all_eq_true.1 h12.1.1.1 i (List.mem_map.2 ⟨(i, ob), lk_mem hi, rfl⟩)
        simp at this
      | _ => rw [hres] at h1 hrok f1 f2 f3; exact ⟨v, _, by simp [hv], okA_R h1.1 hR hrok f2 f3, f1⟩
    · exact h1.elim
  | r :: r' :: l, h1, h2, two =>
    simp only at h1
    split at h1
    · rename_i xs cs hx hc
      have e : outJ (r :: r' :: l) res st = (keepT xs cs).map (·.2) := by simp only [outJ, hx, hc]
      rw [e]
      exact two xs cs hx hc (by simp) h1
    · exact h1.elim

/-- **From a body to a contract.** -/
theorem Holds.of_WP {f : FuncId} {fn : Func} {code : Code} (hf : c.P.funcs[f]? = some fn) (hb : fn.body = some code) {rs : List ResultVar} (hrs : fn.results.toList = rs) (hn : fn.ntmps = N) (hfew : N ≤ 900000) {args : List SV} (ha : args.length ≤ N) {res : SV} {robs : List (Nat × Ob)}
    (hrb : ∀ {id ob} , lk id robs = some ob → ob.pb = true)
    (h : ∀ (X0 : Nat → Prop) (w0 : World), WP c N X0 (fun _ _ => False) w0 code ⟨argsL 0 args, []⟩ (retK c.tys rs res robs)) : Holds c.P f args res robs := by
  intro w X vs hG hX hl hargs
  refine calls_of_wp hf hb ?_
  have hsim : Sim N X (fun _ _ => False) w ⟨argsL 0 args, []⟩ (fun _ => nilB) { tmps := vs.toArray ++ Array.replicate (fn.ntmps - vs.toArray.size) undef, defers := [] } w := {
    size := by simp [hn]; omega
    defers := rfl
    beta := fun _ => rfl
    slots := fun t x hx => by
      obtain ⟨_, h1⟩ := argsL_lk args 0 t x hx
      simp only [Nat.sub_zero] at h1
      have ht : t < vs.length := by rw [hl]; exact (List.getElem?_eq_some_iff.1 h1).1
      have hv : vs[t]? = some (vs[t]'ht) := List.getElem?_eq_getElem ht
      have : (vs.toArray ++ Array.replicate (fn.ntmps - vs.toArray.size) undef).getD t undef = vs[t]'ht := by
        rw [Array.getD_eq_getD_getElem?, Array.getElem?_append_left (by simpa using ht)]
        simp [ht]
      rw [this]
      refine ((hargs t x _ h1 hv).mono ⟨Nat.le_refl _, fun _ _ _ => rfl⟩ fun b _ hb => ?_)
      rcases hb with hb | ⟨id, ob, hi, _⟩
      · exact hb
      · cases hi
    objs := fun id ob hi => by cases hi
    inj := fun i j oi oj b hi => by cases hi
    x0 := hX
    mine := fun id ob b hi => by cases hi
    pin := fun id v h => h.elim
    few := hfew
    os := rfl
    tape := rfl
    output := rfl
    grew := Nat.le_refl _
    kept := fun _ _ _ => rfl }
  refine Code.wp_mono (fun e a w' hq => ?_) (h X w ⟨fun b hb => ⟨hX b hb, fun ⟨_, _, hf, _⟩ => hf⟩, hG, fun b ⟨_, _, hf, _⟩ => hf.elim⟩ _ _ _ hsim)
  have fin : ∀ {st' : St} {β' : Nat → BV}, outK c.tys rs res robs st' → Sim N X (fun _ _ => False) w st' β' a w' → a.defers = [] ∧ ∃ v, (Go.results fn a.tmps).run c.P w' = .ok v w' ∧
      ∃ v' β, Ending.returned v = .returned v' ∧ Go.RowKit.Below w.heap.size w w' ∧ (∀ i, (β i).val.oneCell' = true) ∧ R w' (XX X β robs) β res v' ∧ Obs w' X β robs ∧ ∀ id ob b, lk id robs = some ob → (β id).ft b → w.heap.size ≤ b := fun {st' β'} ho hs => by
    obtain ⟨v, β2, hr, hR, hβ2, rel, hrel, _, hcov⟩ := outK_ok (c := c) hs hrs ho
    have hS : Same (XX X β' st'.hp) w' w' := ⟨Nat.le_refl _, fun _ _ _ => rfl⟩
    have kept : ∀ {id ob b}, lk id robs = some ob → (β2 id).ft b → ∃ j, rel id j ∧ β2 id = β' j ∧ lk j st'.hp = some ob := fun {id ob b} hi hb => by
      rcases hcov id ob hi with ⟨h1, _⟩ | h1
      · rw [h1] at hb; cases hb
      · exact h1
    have hXs : ∀ b, b < w'.heap.size → XX X β2 robs b → XX X β' st'.hp b := fun b _ hb => by
      rcases hb with hb | ⟨id, ob, hi, hb⟩
      · exact .inl hb
      · obtain ⟨j, _, h1, h2⟩ := kept hi hb
        exact .inr ⟨j, ob, h2, by rw [← h1]; exact hb⟩
    refine ⟨hs.defers, v, hr, v, β2, rfl, ⟨hs.os, hs.tape, hs.output, hs.grew, fun b hb => hs.kept b hb (fun ⟨_, _, hf, _⟩ => hf)⟩, hβ2, hR.mono hS hXs, ⟨fun id ob hi => ?_, fun i j oi oj b hi hj hbi hbj => ?_⟩, fun id ob b hi hb => ?_⟩
    · rcases hcov id ob hi with ⟨h1, e, s, rfl⟩ | ⟨j, _, h1, h2⟩
      · exact .nil e s h1
      · rw [h1]
        have hO := hs.objs j ob h2
        cases ob with
        | sl e s rows => exact (hO.mono hS hXs (fun _ _ => rfl)).sl_beta
        | box e cs => exact (hO.mono hS hXs (fun _ _ => rfl)).pb_beta (hrb hi)
        | mp e es => exact (hO.mono hS hXs (fun _ _ => rfl)).pb_beta (hrb hi)
        | dp e s rows => exact (hO.mono hS hXs (fun _ _ => rfl)).pb_beta (hrb hi)
        | dq e s rows i0 row0 => exact (hO.mono hS hXs (fun _ _ => rfl)).pb_beta (hrb hi)
    · obtain ⟨k1, r1, h1, h2⟩ := kept hi hbi
      obtain ⟨k2, r2, h3, h4⟩ := kept hj hbj
      have := hs.inj k1 k2 oi oj b h2 h4 (by rw [← h1]; exact hbi) (by rw [← h3]; exact hbj)
      subst this
      exact hrel i j k1 r1 r2
    · obtain ⟨j, _, h1, h2⟩ := kept hi hb
      rcases hs.mine j ob b h2 (by rw [← h1]; exact hb) with hf | hge
      · obtain ⟨_, _, hf, _⟩ := hf; exact hf.elim
      · exact hge
  cases e with
  | normal => obtain ⟨st', β', ho, hs⟩ := hq; exact fin ho hs
  | ret => obtain ⟨st', β', ho, hs⟩ := hq; exact fin ho hs
  | _ => obtain ⟨st', β', ho, hs⟩ := hq; exact ho.elim

end
end Go.Vc

/-
  DERIVED. Bodies of functions that write into what they are lent; numbers anew; lists that are shared from here on.
-/
namespace Go.Vc
set_option linter.unusedVariables false
set_option linter.unusedSimpArgs false

def St.mvL (st : St) : List (Nat × Nat) → St
  | [] => st
  | (i, j) :: l => (st.mv i j).mvL l
/-- lists shared from here on, then other numbers -/
def St.prep (fz : List Nat) (rn : List (Nat × Nat)) (st : St) : St := (st.fzL fz).mvL rn
def rnOk (rn : List (Nat × Nat)) : Bool := rn.all fun p => decide (p.2 < 1000000) && p.1 != p.2

section
variable {c : Cx} {N : Nat} {X0 : Nat → Prop} {M : Nat → BV → Prop} {w0 : World} {st : St} {K : Exit → St → Prop}

theorem Sim.mvL {a : Act} {w : World} : ∀ {rn : List (Nat × Nat)} {s1 : St} {β : Nat → BV}, rnOk rn = true → Sim N X0 M w0 s1 β a w → ∃ β', Sim N X0 M w0 (s1.mvL rn) β' a w
  | [], s1, β, _, h => ⟨β, h⟩
  | (i, j) :: rn, s1, β, hr, h => by
    unfold rnOk at hr
    rw [List.all_cons, Bool.and_eq_true] at hr
    have h0 := hr.1
    simp only [Bool.and_eq_true, decide_eq_true_eq, bne_iff_ne] at h0
    obtain ⟨β1, h1⟩ := h.mv h0.1 h0.2
    exact Sim.mvL (rn := rn) (s1 := s1.mv i j) hr.2 h1
theorem Sim.prep {P : Program} {a : Act} {w : World} {β : Nat → BV} (hA : Ap P X0 M w0) {fz : List Nat} {rn : List (Nat × Nat)} (hr : rnOk rn = true) (h : Sim N X0 M w0 st β a w) : ∃ β', Sim N X0 M w0 (st.prep fz rn) β' a w :=
  (h.fzL hA fz).mvL hr

theorem WP.prep (fz : List Nat) (rn : List (Nat × Nat)) (hr : rnOk rn = true) {code : Code} (h : WP c N X0 M w0 code (st.prep fz rn) K) : WP c N X0 M w0 code st K := fun hA β a w hs => by
  obtain ⟨β', h'⟩ := hs.prep hA (fz := fz) hr
  exact h hA β' a w h'

open Classical in
/-- as WP.loop, with lists shared and numbers anew at each round's end -/
theorem WP.loopP {S : Type} {p : Code} (fz : List Nat) (rn : List (Nat × Nat)) (hrn : rnOk rn = true) (I : S → St) (J : S → Prop) (μ : S → Nat) (s0 : S) (h0 : J s0) (hi : st.has (I s0))
    (hr : ∀ s, J s → WP c N X0 M w0 p (I s) (thenK (fun st' => ∃ s', J s' ∧ μ s' < μ s ∧ (st'.prep fz rn).has (I s')) K)) : WP c N X0 M w0 (.loop p) st K := by
  intro hA β a w hs
  let Inv : Act → World → Nat → Prop := fun a w n => ∃ s β, J s ∧ μ s = n ∧ Sim N X0 M w0 (I s) β a w
  refine wp_loop (fun a w => ∃ n, Inv a w n) (fun a w => if h : ∃ n, Inv a w n then Classical.choose (least h) else 0) ⟨μ s0, s0, β, h0, rfl, hs.has hi⟩ ?_
  intro a w hI
  have hsp := Classical.choose_spec (least hI)
  obtain ⟨⟨s, β', hj, hm, hsim⟩, _⟩ := hsp
  refine Code.wp_mono (fun e a' w' hq => ?_) (hr s hj hA β' a w hsim)
  cases e with
  | normal =>
    obtain ⟨st', β2, ⟨s', hj', hlt, hhas⟩, h2⟩ := hq
    obtain ⟨β3, h3⟩ := h2.prep hA (fz := fz) hrn
    have hI' : ∃ n, Inv a' w' n := ⟨μ s', s', β3, hj', rfl, h3.has hhas⟩
    refine ⟨hI', ?_⟩
    simp only [dif_pos hI', dif_pos hI]
    have hle := (Classical.choose_spec (least hI')).2 (μ s') ⟨s', β3, hj', rfl, h3.has hhas⟩
    omega
  | _ => exact hq

/-- what a function that is lent objects has to show where it returns -/
def outL (tys : List (Nat × TyD)) (rs : List ResultVar) (res : SV) (robs kept : List (Nat × Ob)) (st : St) : Prop :=
  outK tys rs res robs st ∧ (∀ p ∈ kept, lk p.1 st.hp = some p.2) ∧ ∀ j ∈ outJ rs res st, (kept.map (·.1)).contains j = false
def retL (tys : List (Nat × TyD)) (rs : List ResultVar) (res : SV) (robs kept : List (Nat × Ob)) : Exit → St → Prop
  | .normal, st => outL tys rs res robs kept st
  | .ret, st => outL tys rs res robs kept st
  | _, _ => False

/-- **From a body to a contract, of a function that is lent objects.** -/
theorem HoldsL.of_WP {f : FuncId} {fn : Func} {code : Code} (hf : c.P.funcs[f]? = some fn) (hb : fn.body = some code) {rs : List ResultVar} (hrs : fn.results.toList = rs) (hn : fn.ntmps = N) (hfew : N ≤ 900000) {args : List SV} (ha : args.length ≤ N)
    {obs : List (Nat × Ob)} {res : SV} {robs kept : List (Nat × Ob)} (hrb : ∀ {id ob} , lk id robs = some ob → ob.pb = true) (hrid : ∀ i ∈ robs.map (·.1), i < 900000) (hres : ∀ i ∈ res.owns2, i ∈ robs.map (·.1))
    (hkid : ∀ i ∈ kept.map (·.1), 1000000 ≤ i) (hkre : kept.map (fun p => (p.1, p.2.up (SV.ren1 (kept.map fun q => (q.1, q.1))))) = kept) (hkn : (kept.map (·.1)).Nodup) (hall : ∀ i ∈ obs.map (·.1), 1000000 ≤ i → i ∈ kept.map (·.1))
    (h : ∀ (X0 : Nat → Prop) (M : Nat → BV → Prop) (w0 : World), WP c N X0 M w0 code ⟨argsL 0 args, obs⟩ (retL c.tys rs res robs kept)) : HoldsL c.P f args obs res robs kept := by
  intro w X β vs hG hβ hX hl hargs hobs hlent
  refine calls_of_wp hf hb ?_
  let M : Nat → BV → Prop := fun id v => (∃ ob, lk id obs = some ob) ∧ v = β id
  have hMB : ∀ b, MB M b ↔ ∃ id ob, lk id obs = some ob ∧ (β id).ft b := fun b => by
    constructor
    · rintro ⟨id, v, ⟨⟨ob, h1⟩, rfl⟩, h3⟩; exact ⟨id, ob, h1, h3⟩
    · rintro ⟨id, ob, h1, h3⟩; exact ⟨id, β id, ⟨⟨ob, h1⟩, rfl⟩, h3⟩
  have hA : Ap c.P X M w := ⟨fun b hb => ⟨hX b hb, fun hm => by
    obtain ⟨id, ob, h1, h2⟩ := (hMB b).1 hm
    exact (hlent id ob b h1 h2).1 hb⟩, hG, fun b hm => by
    obtain ⟨id, ob, h1, h2⟩ := (hMB b).1 hm
    exact (hlent id ob b h1 h2).2⟩
  have hsim : Sim N X M w ⟨argsL 0 args, obs⟩ β { tmps := vs.toArray ++ Array.replicate (fn.ntmps - vs.toArray.size) undef, defers := [] } w := {
    size := by simp [hn]; omega
    defers := rfl
    beta := hβ
    slots := fun t x hx => by
      obtain ⟨_, h1⟩ := argsL_lk args 0 t x hx
      simp only [Nat.sub_zero] at h1
      have ht : t < vs.length := by rw [hl]; exact (List.getElem?_eq_some_iff.1 h1).1
      have hv : vs[t]? = some (vs[t]'ht) := List.getElem?_eq_getElem ht
      have : (vs.toArray ++ Array.replicate (fn.ntmps - vs.toArray.size) undef).getD t undef = vs[t]'ht := by
        rw [Array.getD_eq_getD_getElem?, Array.getElem?_append_left (by simpa using ht)]
        simp [ht]
      rw [this]
      exact hargs t x _ h1 hv
    objs := hobs.1
    inj := hobs.2
    x0 := hX
    mine := fun id ob b hi hb => .inl ((hMB b).2 ⟨id, ob, hi, hb⟩)
    pin := fun id v hm _ => congrArg BV.val hm.2.symm
    few := hfew
    os := rfl
    tape := rfl
    output := rfl
    grew := Nat.le_refl _
    kept := fun _ _ _ => rfl }
  refine Code.wp_mono (fun e a w' hq => ?_) (h X M w hA _ _ _ hsim)
  have fin : ∀ {st' : St} {β' : Nat → BV}, outL c.tys rs res robs kept st' → Sim N X M w st' β' a w' → a.defers = [] ∧ ∃ v, (Go.results fn a.tmps).run c.P w' = .ok v w' ∧
      ∃ v' β'', Ending.returned v = .returned v' ∧ w'.os = w.os ∧ w'.tape = w.tape ∧ w'.output = w.output ∧ w.heap.size ≤ w'.heap.size ∧
      (∀ b, b < w.heap.size → (¬ ∃ id ob, lk id obs = some ob ∧ (β id).ft b) → w'.heap[b]? = w.heap[b]?) ∧ (∀ i, (β'' i).val.oneCell' = true) ∧ (∀ i ob, 1000000 ≤ i → lk i obs = some ob → (β'' i).val = (β i).val) ∧
      R w' (XX X β'' (robs ++ kept)) β'' res v' ∧ Obs w' X β'' (robs ++ kept) ∧
      ∀ id ob b, lk id (robs ++ kept) = some ob → (β'' id).ft b → w.heap.size ≤ b ∨ ∃ k o, lk k obs = some o ∧ (β k).ft b := fun {st' β'} ho hs => by
    obtain ⟨ho1, hkept, hJ⟩ := ho
    obtain ⟨v, β2, hr, hR, hβ2, rel, hrel, hrelJ, hcov⟩ := outK_ok (c := c) hs hrs ho1
    have hS : ∀ Y : Nat → Prop, Same Y w' w' := fun Y => ⟨Nat.le_refl _, fun _ _ _ => rfl⟩
    let βf : Nat → BV := fun i => if i ∈ kept.map (·.1) then β' i else β2 i
    have hin : ∀ {i}, i ∈ kept.map (·.1) → βf i = β' i := fun {i} hi => by show (if i ∈ kept.map (·.1) then β' i else β2 i) = _; rw [if_pos hi]
    have hout : ∀ {i}, i ∉ kept.map (·.1) → βf i = β2 i := fun {i} hi => by show (if i ∈ kept.map (·.1) then β' i else β2 i) = _; rw [if_neg hi]
    have hrk : ∀ {i}, i ∈ robs.map (·.1) → i ∉ kept.map (·.1) := fun {i} hi hk => by have := hrid i hi; have := hkid i hk; omega
    have hsplit : ∀ {i ob}, lk i (robs ++ kept) = some ob → (i ∉ kept.map (·.1) ∧ βf i = β2 i ∧ lk i robs = some ob) ∨ (i ∈ kept.map (·.1) ∧ βf i = β' i ∧ lk i kept = some ob ∧ lk i st'.hp = some ob) := fun {i ob} hi => by
      rw [lk_append] at hi
      cases hq : lk i robs with
      | some y =>
        rw [hq] at hi
        cases hi
        have hir : i ∈ robs.map (·.1) := List.mem_map.2 ⟨(i, ob), lk_mem hq, rfl⟩
        exact .inl ⟨hrk hir, hout (hrk hir), rfl⟩
      | none =>
        rw [hq] at hi
        have hi : lk i kept = some ob := hi
        have hik : i ∈ kept.map (·.1) := List.mem_map.2 ⟨(i, ob), lk_mem hi, rfl⟩
        exact .inr ⟨hik, hin hik, hi, hkept (i, ob) (lk_mem hi)⟩
    have kept' : ∀ {id ob b}, lk id robs = some ob → (β2 id).ft b → ∃ j, rel id j ∧ β2 id = β' j ∧ lk j st'.hp = some ob := fun {id ob b} hi hb => by
      rcases hcov id ob hi with ⟨h1, _⟩ | h1
      · rw [h1] at hb; cases hb
      · exact h1
    have hXs : ∀ b, XX X βf (robs ++ kept) b → XX X β' st'.hp b := fun b hb => by
      rcases hb with hb | ⟨id, ob, hi, hb⟩
      · exact .inl hb
      · rcases hsplit hi with ⟨_, e, hi⟩ | ⟨_, e, _, hi⟩
        · rw [e] at hb
          obtain ⟨j, _, h1, h2⟩ := kept' hi hb
          exact .inr ⟨j, ob, h2, by rw [← h1]; exact hb⟩
        · rw [e] at hb; exact .inr ⟨id, ob, hi, hb⟩
    refine ⟨hs.defers, v, hr, v, βf, rfl, hs.os, hs.tape, hs.output, hs.grew, fun b hb hn => hs.kept b hb (fun hm => hn ((hMB b).1 hm)), fun i => ?_, fun i ob h1 hi => ?_, ?_, ⟨fun id ob hi => ?_, fun i j oi oj b hi hj hbi hbj => ?_⟩, fun id ob b hi hb => ?_⟩
    · by_cases hk : i ∈ kept.map (·.1)
      · rw [hin hk]; exact hs.beta i
      · rw [hout hk]; exact hβ2 i
    · rw [hin (hall i (List.mem_map.2 ⟨(i, ob), lk_mem hi, rfl⟩) h1)]
      exact hs.pin i (β i) ⟨⟨ob, hi⟩, rfl⟩ h1
    · exact (hR.mono (hS _) (fun b _ hb => hXs b hb)).beta ho1.2.1 fun id hid => hout (hrk (hres id hid))
    · rcases hsplit hi with ⟨_, e, hi⟩ | ⟨hik, e, hi, hi2⟩
      · rw [e]
        rcases hcov id ob hi with ⟨h1, e, s, rfl⟩ | ⟨j, _, h1, h2⟩
        · exact .nil e s h1
        · rw [h1]
          have hO := hs.objs j ob h2
          cases ob with
          | sl e s rows => exact (hO.mono (hS _) (fun b _ hb => hXs b hb) (fun _ _ => rfl)).sl_beta
          | box e cs => exact (hO.mono (hS _) (fun b _ hb => hXs b hb) (fun _ _ => rfl)).pb_beta (hrb hi)
          | mp e es => exact (hO.mono (hS _) (fun b _ hb => hXs b hb) (fun _ _ => rfl)).pb_beta (hrb hi)
          | dp e s rows => exact (hO.mono (hS _) (fun b _ hb => hXs b hb) (fun _ _ => rfl)).pb_beta (hrb hi)
          | dq e s rows i0 row0 => exact (hO.mono (hS _) (fun b _ hb => hXs b hb) (fun _ _ => rfl)).pb_beta (hrb hi)
      · rw [e]
        have hO := ((hs.objs id ob hi2).mono (hS _) (fun b _ hb => hXs b hb) (fun _ _ => rfl)).up (X' := XX X βf (robs ++ kept)) (β' := βf) (f := SV.ren1 (kept.map fun q => (q.1, q.1))) (fun x v hh => hh.ren1 fun i j hij => by
          have hm := lk_mem hij
          obtain ⟨p, hp, e2⟩ := List.mem_map.1 hm
          cases e2
          exact hin (List.mem_map.2 ⟨p, hp, rfl⟩)) (fun _ _ hh => hh)
        have hob : ob.up (SV.ren1 (kept.map fun q => (q.1, q.1))) = ob := by
          have h1 : lk id (kept.map (fun p => (p.1, p.2.up (SV.ren1 (kept.map fun q => (q.1, q.1)))))) = some (ob.up (SV.ren1 (kept.map fun q => (q.1, q.1)))) := by
            rw [lk_map, hi]; rfl
          rw [hkre, hi] at h1
          simpa using h1.symm
        rw [hob] at hO
        exact hO
    · rcases hsplit hi with ⟨_, e1, hi⟩ | ⟨hik, e1, _, hi⟩ <;> rcases hsplit hj with ⟨_, e2, hj⟩ | ⟨hjk, e2, _, hj⟩
      · rw [e1] at hbi
        rw [e2] at hbj
        obtain ⟨k1, r1, h1, h2⟩ := kept' hi hbi
        obtain ⟨k2, r2, h3, h4⟩ := kept' hj hbj
        have := hs.inj k1 k2 oi oj b h2 h4 (by rw [← h1]; exact hbi) (by rw [← h3]; exact hbj)
        subst this
        exact hrel i j k1 r1 r2
      · rw [e1] at hbi
        rw [e2] at hbj
        obtain ⟨k1, r1, h1, h2⟩ := kept' hi hbi
        have := hs.inj k1 j oi oj b h2 hj (by rw [← h1]; exact hbi) hbj
        subst this
        have := hJ k1 (hrelJ _ _ r1)
        simp at this
        obtain ⟨p, hp, hpe⟩ := List.mem_map.1 hjk
        exact absurd (by rw [← hpe]; exact hp) (this p.2)
      · rw [e1] at hbi
        rw [e2] at hbj
        obtain ⟨k2, r2, h3, h4⟩ := kept' hj hbj
        have := hs.inj i k2 oi oj b hi h4 hbi (by rw [← h3]; exact hbj)
        subst this
        have := hJ i (hrelJ _ _ r2)
        simp at this
        obtain ⟨p, hp, hpe⟩ := List.mem_map.1 hik
        exact absurd (by rw [← hpe]; exact hp) (this p.2)
      · rw [e1] at hbi
        rw [e2] at hbj
        exact hs.inj i j oi oj b hi hj hbi hbj
    · rcases hsplit hi with ⟨_, e, hi⟩ | ⟨hik, e, _, hi⟩
      · rw [e] at hb
        obtain ⟨j, rj, h1, h2⟩ := kept' hi hb
        exact (hs.mine j ob b h2 (by rw [← h1]; exact hb)).symm.imp _root_.id fun hm => (hMB b).1 hm
      · rw [e] at hb
        exact (hs.mine id ob b hi hb).symm.imp _root_.id fun hm => (hMB b).1 hm
  cases e with
  | normal => obtain ⟨st', β', ho, hs⟩ := hq; exact fin ho hs
  | ret => obtain ⟨st', β', ho, hs⟩ := hq; exact fin ho hs
  | _ => obtain ⟨st', β', ho, hs⟩ := hq; exact ho.elim
end
end Go.Vc

/-
  DERIVED. A region whose order Go leaves open: its first m operations yield values, in any order that the edges allow; the others come in the text's order.
-/
namespace Go.Vc
set_option linter.unusedVariables false
set_option linter.unusedSimpArgs false

def hasEdge (o : Oper) (j : Nat) : Bool := o.after.any fun e => e.on == j && Region.binds .any e
def dstAt (ops : Array Oper) (i : Nat) : Option Nat := (ops[i]?).bind (·.dst)

def drawOne (ops : Array Oper) (m i : Nat) (o : Oper) : Bool :=
  o.dst.isSome && ((o.looksAt ops).all fun t => (List.range m).all fun j => !(dstAt ops j == some t) || (decide (j < i) && hasEdge o j)) &&
    (List.range m).all fun j => i == j || dstAt ops j != o.dst
def drawB (ops : Array Oper) (m : Nat) : Bool :=
  decide (m ≤ ops.size) &&
  (List.range ops.size).all fun p => match ops[p]? with
    | none => false
    | some o => (o.after.all fun e => !Region.binds .any e || decide (e.on < p)) && (if p < m then drawOne ops m p o else (List.range p).all (hasEdge o))

structure DrawOk (ops : Array Oper) (m : Nat) : Prop where
  le : m ≤ ops.size
  back : ∀ (p : Nat) (o : Oper), ops[p]? = some o → ∀ e ∈ o.after, Region.binds .any e = true → e.on < p
  dst : ∀ (i : Nat) (o : Oper), i < m → ops[i]? = some o → ∃ d, o.dst = some d
  looks : ∀ (i : Nat) (o : Oper), i < m → ops[i]? = some o → ∀ t ∈ o.looksAt ops, ∀ j, j < m → dstAt ops j = some t → j < i ∧ hasEdge o j = true
  apart : ∀ (i : Nat) (o : Oper), i < m → ops[i]? = some o → ∀ j, j < m → i ≠ j → dstAt ops j ≠ o.dst
  all : ∀ (p : Nat) (o : Oper), m ≤ p → ops[p]? = some o → ∀ j, j < p → hasEdge o j = true

theorem drawB_ok {ops : Array Oper} {m : Nat} (h : drawB ops m = true) : DrawOk ops m := by
  unfold drawB at h
  rw [Bool.and_eq_true, decide_eq_true_eq] at h
  obtain ⟨h0, h⟩ := h
  rw [List.all_eq_true] at h
  have key : ∀ (p : Nat) (o : Oper), ops[p]? = some o → (o.after.all fun e => !Region.binds .any e || decide (e.on < p)) = true ∧ (if p < m then drawOne ops m p o else (List.range p).all (hasEdge o)) = true := fun p o ho => by
    have hp : p < ops.size := (Array.getElem?_eq_some_iff.1 ho).1
    have := h p (List.mem_range.2 hp)
    rw [ho] at this
    simp only [Bool.and_eq_true] at this
    exact this
  refine ⟨h0, fun p o ho e he hb => ?_, fun i o hi ho => ?_, fun i o hi ho t ht j hj hd => ?_, fun i o hi ho j hj hne => ?_, fun p o hp ho j hj => ?_⟩
  · have := (key p o ho).1
    rw [Array.all_eq_true_iff_forall_mem] at this
    have := this e he
    rw [hb] at this
    simpa using this
  · have := (key i o ho).2
    rw [if_pos hi] at this
    simp only [drawOne, Bool.and_eq_true] at this
    exact Option.isSome_iff_exists.1 this.1.1
  · have := (key i o ho).2
    rw [if_pos hi] at this
    simp only [drawOne, Bool.and_eq_true, List.all_eq_true] at this
    have := this.1.2 t ht j (List.mem_range.2 hj)
    rw [hd] at this
    simpa using this
  · have := (key i o ho).2
    rw [if_pos hi] at this
    simp only [drawOne, Bool.and_eq_true, List.all_eq_true] at this
    have := this.2 j (List.mem_range.2 hj)
    simp only [Bool.or_eq_true, beq_iff_eq, bne_iff_ne] at this
    rcases this with e | e
    · exact absurd e hne
    · exact e
  · have := (key p o ho).2
    rw [if_neg (by omega), List.all_eq_true] at this
    exact this j (List.mem_range.2 hj)

/-! ## operations that yield a value -/

def St.valG (tys : List (Nat × TyD)) (C : List (FuncId × Ctr)) (g : Bool) (o : Oper) (st : St) (x : SV) : Prop :=
  match o.op with
  | .call c => match c.callee with
    | .value y => ∃ ob r, st.callF (o.dst.getD 0) C c y = some (ob, r) ∧ x = mkCond g r ∧ (g = true → ob)
    | _ => ∃ ob r, st.pr tys (.call c) = some (ob, r) ∧ x = mkCond g r ∧ (g = true → ob)
  | op => ∃ ob r, st.pr tys op = some (ob, r) ∧ x = mkCond g r ∧ (g = true → ob)
def St.valU (tys : List (Nat × TyD)) (C : List (FuncId × Ctr)) (o : Oper) (st : St) (x : SV) : Prop :=
  match o.op with
  | .call c => match c.callee with
    | .value y => ∃ ob, st.callF (o.dst.getD 0) C c y = some (ob, x) ∧ ob
    | _ => ∃ ob, st.pr tys (.call c) = some (ob, x) ∧ ob
  | op => ∃ ob, st.pr tys op = some (ob, x) ∧ ob
def St.val0 (tys : List (Nat × TyD)) (C : List (FuncId × Ctr)) (N : Nat) (ops : Array Oper) (o : Oper) (st : St) (x : SV) : Prop :=
  dstOk N o.dst = true ∧ match o.guard with
  | none => st.valU tys C o x
  | some (j, want) => match (ops[j]?).bind (·.dst) with
    | some t => match guardB want (st.get t) with
      | some g => st.valG tys C g o x
      | none => False
    | none => False
/-- an operation that is not run: whatever it would be -/
def St.off (N : Nat) (ops : Array Oper) (o : Oper) (st : St) (x : SV) : Prop :=
  dstOk N o.dst = true ∧ (∃ r, x = mkCond false r) ∧ match o.guard with
  | some (j, want) => match (ops[j]?).bind (·.dst) with
    | some t => guardB want (st.get t) = some false
    | none => False
  | none => False
def St.val (tys : List (Nat × TyD)) (C : List (FuncId × Ctr)) (N : Nat) (ops : Array Oper) (o : Oper) (st : St) (x : SV) : Prop := st.val0 tys C N ops o x ∨ st.off N ops o x
def St.runV (tys : List (Nat × TyD)) (C : List (FuncId × Ctr)) (N : Nat) (ops : Array Oper) : List Oper → St → (St → Prop) → Prop
  | [], st, K => K st
  | o :: l, st, K => ∃ x, st.val tys C N ops o x ∧ St.runV tys C N ops l (st.put o.dst x) K

theorem rowsOf_mono {st st2 : St} (hh : ∀ id ob, lk id st.hp = some ob → lk id st2.hp = some ob) {x : SV} {rows : List (List SV)} (h : st.rowsOf x = some rows) : st2.rowsOf x = some rows := by
  cases x with
  | own m =>
    simp only [St.rowsOf] at h ⊢
    cases hl : lk m st.hp with
    | none => rw [hl] at h; cases h
    | some ob => rw [hl] at h; rw [hh m ob hl]; exact h
  | sl s r => exact h
  | v y =>
    unfold St.rowsOf at h ⊢
    split at h
    · rename_i e; cases e
    · rename_i e; cases e
    · exact h
    · cases h
  | _ => cases h
theorem bnd_mono {st st2 : St} {o : Option Operand} (h : ∀ y, o = some y → st2.ev y = st.ev y) : st2.bnd o = st.bnd o := by
  cases o with
  | none => rfl
  | some y => simp only [St.bnd, h y rfl]
theorem bld_mono {st st2 : St} {offs : List (Nat × Nat)} : ∀ {l : List (Nat × Operand)} {cs : List SV}, (∀ p ∈ l, st2.ev p.2 = st.ev p.2) → st2.bld offs l cs = st.bld offs l cs
  | [], cs, _ => rfl
  | (f, x) :: l, cs, h => by
    simp only [St.bld, h (f, x) List.mem_cons_self]
    cases offs[f]? with
    | none => rfl
    | some o => simp only; rw [bld_mono fun p hp => h p (List.mem_cons_of_mem _ hp)]

/-- more slots, more objects: the same value -/
theorem pr_mono {tys : List (Nat × TyD)} {st st2 : St} {op : Op} (h : ∀ y ∈ op.operands, st2.ev y = st.ev y) (hh : ∀ id ob, lk id st.hp = some ob → lk id st2.hp = some ob) {q : Prop × SV} (hq : st.pr tys op = some q) : st2.pr tys op = some q := by
  cases op with
  | move x => simp only [St.pr, h x (by simp [Op.operands])] at hq ⊢; exact hq
  | assign x => simp only [St.pr, h x (by simp [Op.operands])] at hq ⊢; exact hq
  | pick c a b => simp only [St.pr, h c (by simp [Op.operands]), h a (by simp [Op.operands]), h b (by simp [Op.operands])] at hq ⊢; exact hq
  | binOp op T x y U => simp only [St.pr, St.prEq, h x (by simp [Op.operands]), h y (by simp [Op.operands])] at hq ⊢; exact hq
  | unOp op T x => simp only [St.pr, h x (by simp [Op.operands])] at hq ⊢; exact hq
  | nilCheck x => simp only [St.pr, h x (by simp [Op.operands])] at hq ⊢; exact hq
  | fieldAddr T x f => simp only [St.pr, h x (by simp [Op.operands])] at hq ⊢; exact hq
  | indexAddr T x y =>
    simp only [St.pr, h x (by simp [Op.operands]), h y (by simp [Op.operands])] at hq ⊢
    split at hq
    · exact hq
    · split at hq
      · rename_i hk
        rw [if_pos hk]
        split at hq
        · rename_i e s rows hl; simp only [hh _ _ hl]; exact hq
        · rename_i e s rows hl; simp only [hh _ _ hl]; exact hq
        · rename_i e s rows i0 row0 hl; simp only [hh _ _ hl]; exact hq
        · cases hq
      · cases hq
    · cases hq
  | load T x =>
    simp only [St.pr, h x (by simp [Op.operands])] at hq ⊢
    split at hq
    · split at hq
      · rename_i hl; simp only [hh _ _ hl]; exact hq
      · rename_i hl; simp only [hh _ _ hl]; exact hq
      · rename_i hl; simp only [hh _ _ hl]; exact hq
      · cases hq
    · exact hq
    · cases hq
  | index T x y => simp only [St.pr, h x (by simp [Op.operands]), h y (by simp [Op.operands])] at hq ⊢; exact hq
  | extract x i => simp only [St.pr, h x (by simp [Op.operands])] at hq ⊢; exact hq
  | makeFunc fn first caps =>
    cases fn <;> try exact hq
    have e : ∀ c ∈ caps.toList, st2.ev c = st.ev c := fun c hc => h c (by simp only [Op.operands, Array.mem_append]; right; simpa using hc)
    rw [← hq]
    simp only [St.pr]
    split
    · congr 2
      · apply propext
        constructor <;> intro hc c hm
        · rw [← e c hm]; exact hc c hm
        · rw [e c hm]; exact hc c hm
      · congr 1
        exact List.map_congr_left fun c hm => by rw [e c hm]
    · rfl
  | build T parts =>
    have e : ∀ p ∈ parts.toList, st2.ev p.2 = st.ev p.2 := fun p hp => h p.2 (by
      simp only [Op.operands]
      simp only [List.mem_toArray, List.mem_map]
      exact ⟨p, hp, rfl⟩)
    simp only [St.pr] at hq ⊢
    cases hd : lk T tys with
    | none => rw [hd] at hq; cases hq
    | some d => rw [hd] at hq; simp only at hq ⊢; rw [bld_mono e]; exact hq
  | convert S T x =>
    simp only [St.pr, h x (by simp [Op.operands])] at hq ⊢
    split at hq
    · exact hq
    · simp only [St.prStr, h x (by simp [Op.operands])] at hq ⊢
      split at hq
      · rename_i hr; rw [rowsOf_mono hh hr]; exact hq
      · cases hq
    · cases hq
  | slice T x lo hi mx =>
    have e0 := h x (by simp [Op.operands])
    rw [← hq]
    cases mx with
    | some m => cases lo <;> cases hi <;> simp [St.pr]
    | none =>
      cases lo with
      | some lo =>
        have e1 := h lo (by simp [Op.operands])
        cases hi with
        | some hi => simp only [St.pr, St.prCut, St.bnd, e0, e1, h hi (by simp [Op.operands])]
        | none => simp only [St.pr, St.prCut, St.bnd, e0, e1]
      | none =>
        cases hi with
        | some hi => simp only [St.pr, St.prCut, St.bnd, e0, h hi (by simp [Op.operands])]
        | none => simp only [St.pr, St.prCut, St.bnd, e0]
  | call c =>
    have ha : ∀ y ∈ c.args.toList, st2.ev y = st.ev y := fun y hy => h y (by simp only [Op.operands, Call.operands, Array.mem_append]; right; simpa using hy)
    simp only [St.pr] at hq ⊢
    split at hq
    · split at hq
      · rename_i x T hx hT
        have e1 : st2.ev x = st.ev x := ha x (by rw [hx]; simp)
        unfold St.prLen at hq ⊢
        rw [e1]
        split at hq
        · exact hq
        · exact hq
        · exact hq
        · split at hq
          · rename_i hk
            rw [if_pos hk]
            split at hq
            · rename_i hl; simp only [hh _ _ hl]; exact hq
            · rename_i hl; simp only [hh _ _ hl]; exact hq
            · rename_i hl; simp only [hh _ _ hl]; exact hq
            · cases hq
          · cases hq
        · cases hq
      · cases hq
    · split at hq
      · rename_i x y hx
        simp only [St.prMin, ha x (by rw [hx]; simp), ha y (by rw [hx]; simp)] at hq ⊢
        exact hq
      · cases hq
    · split at hq
      · rename_i x y hx
        simp only [St.prMin, ha x (by rw [hx]; simp), ha y (by rw [hx]; simp)] at hq ⊢
        exact hq
      · cases hq
    · cases hq
  | _ => simp [St.pr] at hq

theorem share1_mono {hp hp2 : List (Nat × Ob)} (hh : ∀ id ob, lk id hp = some ob → lk id hp2 = some ob) {x : SV} (hg : (x.share1 hp).good1 = true) : x.share1 hp2 = x.share1 hp := by
  cases x with
  | own id =>
    simp only [SV.share1] at hg ⊢
    cases hl : lk id hp with
    | none => rw [hl] at hg; cases hg
    | some ob => rw [hh id ob hl]
  | ptr id s i k =>
    simp only [SV.share1] at hg ⊢
    cases hl : lk id hp with
    | none => rw [hl] at hg; cases hg
    | some ob => rw [hh id ob hl]
  | _ => rfl
theorem share_mono {hp hp2 : List (Nat × Ob)} (hh : ∀ id ob, lk id hp = some ob → lk id hp2 = some ob) {x : SV} (hg : (x.share hp).good = true) : x.share hp2 = x.share hp := by
  cases x with
  | agg cs =>
    simp only [SV.share, SV.good, List.all_map] at hg ⊢
    congr 1
    exact List.map_congr_left fun y hy => share1_mono hh (List.all_eq_true.1 hg y hy)
  | fn f cs =>
    simp only [SV.share, SV.good, List.all_map] at hg ⊢
    congr 1
    exact List.map_congr_left fun y hy => share1_mono hh (List.all_eq_true.1 hg y hy)
  | v y => rfl
  | sl s r => rfl
  | own id =>
    show (SV.own id).share1 hp2 = (SV.own id).share1 hp
    refine share1_mono hh ?_
    simp only [SV.share, SV.share1] at hg ⊢
    split at hg <;> first | rfl | cases hg
  | ptr id s i k =>
    show (SV.ptr id s i k).share1 hp2 = (SV.ptr id s i k).share1 hp
    refine share1_mono hh ?_
    simp only [SV.share, SV.share1] at hg ⊢
    split at hg
    · split at hg
      · rename_i hs; simp only [hs, if_true]; rfl
      · cases hg
    · split at hg
      · rename_i hs; rw [if_pos hs]; rfl
      · cases hg
    · cases hg
  | rptr s r i k => rfl
  | tup cs => rfl
  | cond g y => rfl
  | junk => rfl
theorem shareL_mono {hp hp2 : List (Nat × Ob)} (hh : ∀ id ob, lk id hp = some ob → lk id hp2 = some ob) {A : List SV} (hg : (A.all fun y => (y.share hp).good) = true) : A.map (SV.share hp2) = A.map (SV.share hp) ∧ (A.all fun y => (y.share hp2).good) = true := by
  have h1 : ∀ y ∈ A, y.share hp2 = y.share hp := fun y hy => share_mono hh (List.all_eq_true.1 hg y hy)
  refine ⟨List.map_congr_left h1, ?_⟩
  rw [List.all_eq_true] at hg ⊢
  intro y hy
  rw [h1 y hy]; exact hg y hy
theorem argL_mono {st st2 : St} {c : Call} (ha : ∀ y ∈ c.args.toList, st2.ev y = st.ev y) (caps : List SV) : st2.argL c caps = st.argL c caps := by
  unfold St.argL
  congr 1
  exact List.map_congr_left fun y hy => by rw [ha y hy]
theorem need_mono {st st2 : St} {c : Call} (ha : ∀ y ∈ c.args.toList, st2.ev y = st.ev y) : (∀ y ∈ c.args.toList, (st2.ev y).need) = ∀ y ∈ c.args.toList, (st.ev y).need := by
  apply propext
  constructor <;> intro hq y hy
  · rw [← ha y hy]; exact hq y hy
  · rw [ha y hy]; exact hq y hy

theorem callF_mono {dd : Nat} {C : List (FuncId × Ctr)} {st st2 : St} {c : Call} (h : ∀ y ∈ (Op.call c).operands, st2.ev y = st.ev y) (hh : ∀ id ob, lk id st.hp = some ob → lk id st2.hp = some ob) {x : Operand} (hc : c.callee = .value x) {q : Prop × SV} (hq : st.callF dd C c x = some q) : st2.callF dd C c x = some q := by
  have ha : ∀ y ∈ c.args.toList, st2.ev y = st.ev y := fun y hy => h y (by simp only [Op.operands, Call.operands, Array.mem_append]; right; simpa using hy)
  have hx : st2.ev x = st.ev x := h x (by simp [Op.operands, Call.operands, hc])
  unfold St.callF at hq ⊢
  rw [hx]
  split at hq
  case h_2 => cases hq
  case h_1 _ f caps hf =>
  split at hq
  case h_2 => cases hq
  case h_1 _ ctr hctr =>
  have key : ∀ (p2 : List (Nat × Ob)) (A : List SV), A = st.argL c caps → (st.argL c caps).map (SV.share p2) = (st.argL c caps).map (SV.share st.hp) → ((st.argL c caps).all fun y => (y.share p2).good) = true → ((st.argL c caps).all fun y => (y.share st.hp).good) = true →
      (match ctr.pure dd (A.map (SV.share p2)) with
      | (ob, res, robs) => if (A.all fun y => (y.share p2).good) = true then some (ob ∧ robs = [] ∧ (∀ y ∈ c.args.toList, (st2.ev y).need) ∧ (A.all fun y => (y.share p2).good) = true ∧ res.rok = true ∧ res.owns2 = [] ∧
            ((A.flatMap SV.owns) = [] ∨ res.isV2 = true) ∧ ctr.isL = false, res) else none) = some q := by
    intro p2 A hAe e1 e2 hg
    subst hAe
    rw [e1]
    generalize ctr.pure dd ((st.argL c caps).map (SV.share st.hp)) = z at hq ⊢
    obtain ⟨z1, z2, z3⟩ := z
    simp only [hg, e2, if_true] at hq ⊢
    rw [need_mono ha]
    exact hq
  have hg : ((st.argL c caps).all fun y => (y.share st.hp).good) = true := by
    by_cases hg : ((st.argL c caps).all fun y => (y.share st.hp).good) = true
    · exact hg
    · exfalso
      generalize ctr.pure dd ((st.argL c caps).map (SV.share st.hp)) = z at hq
      obtain ⟨z1, z2, z3⟩ := z
      simp only [hg, if_false] at hq
      cases hq
  obtain ⟨e1, e2⟩ := shareL_mono hh hg
  exact key st2.hp _ (argL_mono ha caps) e1 e2 hg

theorem val0_mono {tys : List (Nat × TyD)} {C : List (FuncId × Ctr)} {N : Nat} {ops : Array Oper} {o : Oper} {st st2 : St} {x : SV} (h : ∀ t ∈ o.looksAt ops, st2.get t = st.get t) (hh : ∀ id ob, lk id st.hp = some ob → lk id st2.hp = some ob) (hv : st.val0 tys C N ops o x) :
    st2.val0 tys C N ops o x := by
  have hop : ∀ y ∈ o.op.operands, st2.ev y = st.ev y := fun y hy => by
    cases y with
    | tmp t =>
      exact h t (List.mem_append_left _ (List.mem_filterMap.2 ⟨.tmp t, by simpa using hy, rfl⟩))
    | _ => rfl
  obtain ⟨hd, hv⟩ := hv
  refine ⟨hd, ?_⟩
  cases hg : o.guard with
  | none =>
    rw [hg] at hv
    simp only at hv ⊢
    unfold St.valU at hv ⊢
    cases ho : o.op with
    | call c =>
      rw [ho] at hv hop
      cases hc : c.callee with
      | value y => simp only [hc] at hv ⊢; obtain ⟨ob, h1, h2⟩ := hv; exact ⟨ob, callF_mono hop hh hc h1, h2⟩
      | _ => simp only [hc] at hv ⊢; obtain ⟨ob, h1, h2⟩ := hv; exact ⟨ob, pr_mono hop hh h1, h2⟩
    | _ => rw [ho] at hv hop; simp only at hv ⊢; obtain ⟨ob, h1, h2⟩ := hv; exact ⟨ob, pr_mono hop hh h1, h2⟩
  | some gw =>
    obtain ⟨j, want⟩ := gw
    rw [hg] at hv
    simp only at hv ⊢
    cases ht : (ops[j]?).bind (·.dst) with
    | none => rw [ht] at hv; exact hv.elim
    | some t =>
      rw [ht] at hv
      simp only at hv ⊢
      have hgt : st2.get t = st.get t := h t (List.mem_append_right _ (by simp [hg, ht]))
      rw [hgt]
      split at hv
      case h_2 => exact hv.elim
      case h_1 _ cc hcc =>
        unfold St.valG at hv ⊢
        cases ho : o.op with
        | call c =>
          rw [ho] at hv hop
          cases hc : c.callee with
          | value y =>
            simp only [hc] at hv ⊢
            obtain ⟨ob, r, h1, h2⟩ := hv; exact ⟨ob, r, callF_mono hop hh hc h1, h2⟩
          | _ => simp only [hc] at hv ⊢; obtain ⟨ob, r, h1, h2⟩ := hv; exact ⟨ob, r, pr_mono hop hh h1, h2⟩
        | _ => rw [ho] at hv hop; simp only at hv ⊢; obtain ⟨ob, r, h1, h2⟩ := hv; exact ⟨ob, r, pr_mono hop hh h1, h2⟩
theorem val_mono {tys : List (Nat × TyD)} {C : List (FuncId × Ctr)} {N : Nat} {ops : Array Oper} {o : Oper} {st st2 : St} {x : SV} (h : ∀ t ∈ o.looksAt ops, st2.get t = st.get t) (hh : ∀ id ob, lk id st.hp = some ob → lk id st2.hp = some ob) (hv : st.val tys C N ops o x) :
    st2.val tys C N ops o x := by
  rcases hv with hv | ⟨h1, h2, h3⟩
  · exact .inl (val0_mono h hh hv)
  · refine .inr ⟨h1, h2, ?_⟩
    cases hg : o.guard with
    | none => rw [hg] at h3; exact h3
    | some gw =>
      obtain ⟨j, want⟩ := gw
      rw [hg] at h3
      simp only at h3 ⊢
      cases ht : (ops[j]?).bind (·.dst) with
      | none => rw [ht] at h3; exact h3
      | some t =>
        rw [ht] at h3
        simp only at h3 ⊢
        rw [h t (List.mem_append_right _ (by simp [hg, ht]))]
        exact h3
theorem val_congr {tys : List (Nat × TyD)} {C : List (FuncId × Ctr)} {N : Nat} {ops : Array Oper} {o : Oper} {st st2 : St} {x : SV} (h : ∀ t ∈ o.looksAt ops, st2.get t = st.get t) (hh : st2.hp = st.hp) (hv : st.val tys C N ops o x) :
    st2.val tys C N ops o x := val_mono h (fun id ob hi => by rw [hh]; exact hi) hv

theorem pr_slice_own {tys : List (Nat × TyD)} {st : St} {T : Nat} {x : Operand} {lo hi mx : Option Operand} {q : Prop × SV} (h : st.pr tys (.slice T x lo hi mx) = some q) : (st.ev x).strip.ownId = [] := by
  cases hx : (st.ev x).strip with
  | own i =>
    exfalso
    cases mx with
    | some m => cases lo <;> cases hi <;> simp [St.pr] at h
    | none =>
      cases lo <;> cases hi <;> simp only [St.pr, St.prCut, hx] at h <;> (cases hl : lk T tys <;> simp [hl] at h)
  | _ => rfl

theorem step_of_val {tys : List (Nat × TyD)} {C : List (FuncId × Ctr)} {N : Nat} {ops : Array Oper} {o : Oper} {st : St} {x : SV} (hv : st.val0 tys C N ops o x) : st.step tys C N ops o fun st' => st' = st.put o.dst x := by
  obtain ⟨hd, hv⟩ := hv
  unfold St.step
  cases hg : o.guard with
  | none =>
    rw [hg] at hv
    simp only at hv ⊢
    unfold St.valU at hv
    unfold St.stepU
    have fin : ∀ {op}, o.op = op → (∃ ob, st.pr tys op = some (ob, x) ∧ ob) → st.prK tys o fun st' => st' = st.put o.dst x := fun {op} ho hp => by
      obtain ⟨ob, h1, h2⟩ := hp
      unfold St.prK
      rw [ho, h1]
      exact ⟨h2, rfl⟩
    cases ho : o.op with
    | call c =>
      rw [ho] at hv
      cases hc : c.callee with
      | value y =>
        simp only [hc] at hv ⊢
        obtain ⟨ob, hcf, hob⟩ := hv
        have hv := St.callV_of_callF hc hcf hob
        refine ⟨hd, ?_⟩
        rw [St.isM_of_callV hv hc]
        exact St.callE_of_callV (by rw [ho]; exact hv) (by cases o.dst <;> rfl)
      | invoke r q => simp only [hc] at hv ⊢; exact ⟨hd, fin ho hv⟩
      | builtin b =>
        cases b <;> simp only [hc] at hv ⊢ <;> first
          | exact ⟨hd, fin ho hv⟩
          | (exfalso; obtain ⟨ob, h1, _⟩ := hv; simp [St.pr, hc] at h1)
    | alloc T => rw [ho] at hv; obtain ⟨ob, h1, _⟩ := hv; simp [St.pr] at h1
    | box T y => rw [ho] at hv; obtain ⟨ob, h1, _⟩ := hv; simp [St.pr] at h1
    | buildSlice T n p => rw [ho] at hv; obtain ⟨ob, h1, _⟩ := hv; simp [St.pr] at h1
    | makeSlice T l q => rw [ho] at hv; obtain ⟨ob, h1, _⟩ := hv; simp [St.pr] at h1
    | store T p y => rw [ho] at hv; obtain ⟨ob, h1, _⟩ := hv; simp [St.pr] at h1
    | slice T y lo hi mx =>
      rw [ho] at hv
      have h1 := hv
      obtain ⟨ob, h1, _⟩ := h1
      simp only
      rw [pr_slice_own h1]
      exact ⟨hd, fin ho hv⟩
    | _ => rw [ho] at hv; exact ⟨hd, fin ho hv⟩
  | some gw =>
    obtain ⟨j, want⟩ := gw
    rw [hg] at hv
    simp only at hv ⊢
    cases ht : (ops[j]?).bind (·.dst) with
    | none => rw [ht] at hv; exact hv.elim
    | some t =>
      rw [ht] at hv
      simp only at hv ⊢
      split at hv
      case h_2 => exact hv.elim
      case h_1 _ cc hcc =>
        try rw [hcc]
        try simp only
        unfold St.valG at hv
        unfold St.stepG
        have fin : ∀ {op}, o.op = op → (∃ ob r, st.pr tys op = some (ob, r) ∧ x = mkCond cc r ∧ (cc = true → ob)) → (match st.pr tys o.op with
            | some (ob, r) => (cc = true → ob) ∧ st.put o.dst (mkCond cc r) = st.put o.dst x
            | none => False) := fun {op} ho hp => by
          obtain ⟨ob, r, h1, h2, h3⟩ := hp
          rw [ho, h1]
          exact ⟨h3, by rw [h2]⟩
        cases ho : o.op with
        | call c =>
          rw [ho] at hv
          cases hc : c.callee with
          | value y =>
            simp only [hc] at hv ⊢
            obtain ⟨ob, r, h1, h2, h3⟩ := hv
            refine ⟨hd, ?_⟩
            rw [h1]
            exact ⟨h3, by rw [h2]⟩
          | _ => simp only [hc] at hv ⊢; have := fin ho hv; rw [ho] at this; exact ⟨hd, this⟩
        | _ => rw [ho] at hv; have := fin ho hv; rw [ho] at this; exact ⟨hd, this⟩

theorem val_sound {P : Program} {tys : List (Nat × TyD)} {C : List (FuncId × Ctr)} {N : Nat} {X0 : Nat → Prop} {M : Nat → BV → Prop} {w0 : World} {st : St} {β : Nat → BV} {a : Act} {w : World} (hA : Ap P X0 M w0) (hty : ∀ T d, lk T tys = some d → TyOk P T d) (hC : COk P C) (h : Sim N X0 M w0 st β a w)
    {ops : Array Oper} {o : Oper} {x : SV} (hv : st.val tys C N ops o x) {Q : Exit → Act → World → Prop} :
    if Region.wanted o (yielded ops a.tmps) then o.wp P a w (Ok N X0 M w0 fun st' => st' = st.put o.dst x) Q else Ok N X0 M w0 (fun st' => st' = st.put o.dst x) (a.put o.dst undef) w := by
  rcases hv with hv | ⟨hd, hx, h3⟩
  · exact step_sound hA hty hC h (step_of_val hv)
  · obtain ⟨r, hx⟩ := hx
    cases hg : o.guard with
    | none => rw [hg] at h3; exact h3.elim
    | some gw =>
      obtain ⟨j, want⟩ := gw
      rw [hg] at h3
      simp only at h3
      cases ht : (ops[j]?).bind (·.dst) with
      | none => rw [ht] at h3; exact h3.elim
      | some t =>
        rw [ht] at h3
        simp only at h3
        have hR : R w (XX X0 β st.hp) β (st.get t) (a.eval (.tmp t)) := St.ev_ok h (.tmp t)
        have hy : yielded ops a.tmps j = (match a.tmps.getD t undef with | .bool b => some b | _ => none) := by
          unfold yielded
          rw [ht]
          simp only [Option.bind_some]
          rw [Array.getD_eq_getD_getElem?]
          cases hq : a.tmps[t]? with
          | none => rfl
          | some v => cases v <;> rfl
        have hwant : Region.wanted o (yielded ops a.tmps) = false := by
          simp only [Region.wanted, hg, hy]
          generalize st.get t = y at h3 hR
          unfold guardB at h3
          split at h3
          · rename_i b
            have hv : a.tmps.getD t undef = .bool b := hR.v_inv
            rw [hv]
            cases b <;> cases want <;> simp_all
          · rename_i g' b
            cases g' with
            | false =>
              have hv : a.tmps.getD t undef = undef := hR.cond_undef rfl
              rw [hv]; rfl
            | true =>
              have hv : a.tmps.getD t undef = .bool b := (hR.cond_inv rfl).v_inv
              rw [hv]
              cases b <;> cases want <;> simp_all
          · cases h3
        rw [hwant, if_neg (by simp)]
        refine ⟨_, β, rfl, ?_⟩
        cases hdd : o.dst with
        | none => exact h
        | some d =>
          rw [hdd] at hd
          rw [hx]
          exact h.put (by simpa [dstOk] using hd) (mkCond_R (fun hh => by cases hh) fun _ => rfl)

/-! ## any order -/

def stF (l : List Oper) (xs : Nat → SV) (st : St) : Nat → St
  | 0 => st
  | i + 1 => (stF l xs st i).put ((l[i]?).bind (·.dst)) (xs i)

theorem stF_cons (o : Oper) (l : List Oper) (x : SV) (xs : Nat → SV) (st : St) : ∀ i, stF (o :: l) (fun i => match i with | 0 => x | i + 1 => xs i) st (i + 1) = stF l xs (st.put o.dst x) i
  | 0 => rfl
  | i + 1 => by
    have ih := stF_cons o l x xs st i
    show (stF (o :: l) _ st (i + 1)).put _ _ = (stF l xs (st.put o.dst x) i).put _ _
    rw [ih]
    rfl

theorem runV_xs {tys : List (Nat × TyD)} {C : List (FuncId × Ctr)} {N : Nat} {ops : Array Oper} {K : St → Prop} : ∀ (l : List Oper) (st : St), St.runV tys C N ops l st K →
    ∃ xs : Nat → SV, (∀ i o, l[i]? = some o → (stF l xs st i).val tys C N ops o (xs i)) ∧ K (stF l xs st l.length)
  | [], st, h => ⟨fun _ => .junk, by simp, h⟩
  | o :: l, st, h => by
    obtain ⟨x, hv, hr⟩ := h
    obtain ⟨xs, h1, h2⟩ := runV_xs l (st.put o.dst x) hr
    refine ⟨fun i => match i with | 0 => x | i + 1 => xs i, fun i q hq => ?_, ?_⟩
    · cases i with
      | zero => simp at hq; subst hq; exact hv
      | succ i => rw [stF_cons]; exact h1 i q (by simpa using hq)
    · rw [List.length_cons, stF_cons]; exact h2

theorem stF_hp (l : List Oper) (xs : Nat → SV) (st : St) : ∀ i, (stF l xs st i).hp = st.hp
  | 0 => rfl
  | i + 1 => by
    have ih := stF_hp l xs st i
    simp only [stF, St.put]
    split
    · exact ih
    · exact ih
theorem put_lk_ne (st : St) (d : Option Nat) (x : SV) (t : Nat) (h : d ≠ some t) : lk t (st.put d x).fr = lk t st.fr := by
  cases d with
  | none => rfl
  | some d =>
    have : t ≠ d := fun e => h (by rw [e])
    simp only [St.put, lk, if_neg this, lk_er_ne this]
theorem put_lk_same (st : St) (d : Nat) (x : SV) : lk d (st.put (some d) x).fr = some x := by simp [St.put, lk]
theorem put_hp (st : St) (d : Option Nat) (x : SV) : (st.put d x).hp = st.hp := by cases d <;> rfl

theorem stF_other {l : List Oper} (xs : Nat → SV) (st : St) {t : Nat} (h : ∀ j : Nat, (l[j]?).bind (·.dst) ≠ some t) : ∀ i, lk t (stF l xs st i).fr = lk t st.fr
  | 0 => rfl
  | i + 1 => by
    rw [show stF l xs st (i + 1) = (stF l xs st i).put ((l[i]?).bind (·.dst)) (xs i) from rfl, put_lk_ne _ _ _ _ (h i)]
    exact stF_other xs st h i
theorem stF_dst {l : List Oper} (xs : Nat → SV) (st : St) {t j : Nat} (hj : (l[j]?).bind (·.dst) = some t) (h : ∀ i : Nat, i ≠ j → (l[i]?).bind (·.dst) ≠ some t) : ∀ i, j < i → lk t (stF l xs st i).fr = some (xs j)
  | 0, hi => absurd hi (by omega)
  | i + 1, hi => by
    rw [show stF l xs st (i + 1) = (stF l xs st i).put ((l[i]?).bind (·.dst)) (xs i) from rfl]
    by_cases he : i = j
    · subst he; rw [hj]; exact put_lk_same _ _ _
    · rw [put_lk_ne _ _ _ _ (h i he)]
      exact stF_dst xs st hj h i (by omega)

theorem mem_ready' {ops : Array Oper} {listed : Array Bool} {i : Nat} : i ∈ Region.ready .any ops listed ↔ i < ops.size ∧ listed.getD i true = false ∧ ∃ o, ops[i]? = some o ∧ ∀ e ∈ o.after, Region.binds .any e = true → listed.getD e.on false = true := by
  unfold Region.ready
  rw [List.mem_filter, List.mem_range, Bool.and_eq_true, Bool.not_eq_true']
  constructor
  · rintro ⟨h1, h2, h3⟩
    refine ⟨h1, h2, ?_⟩
    cases ho : ops[i]? with
    | none => rw [ho] at h3; cases h3
    | some o =>
      rw [ho] at h3
      simp only [Option.map_some, Option.getD_some] at h3
      rw [Array.all_eq_true_iff_forall_mem] at h3
      refine ⟨o, rfl, fun e he hb => ?_⟩
      have := h3 e he
      rw [hb] at this
      simpa using this
  · rintro ⟨h1, h2, o, ho, h3⟩
    refine ⟨h1, h2, ?_⟩
    rw [ho]
    simp only [Option.map_some, Option.getD_some]
    rw [Array.all_eq_true_iff_forall_mem]
    intro e he
    by_cases hb : Region.binds .any e = true
    · rw [h3 e he hb]; simp
    · simp [hb]

theorem hasEdge_listed {o : Oper} {listed : Array Bool} (h : ∀ e ∈ o.after, Region.binds .any e = true → listed.getD e.on false = true) {j : Nat} (hj : hasEdge o j = true) : listed.getD j false = true := by
  unfold hasEdge at hj
  rw [← Array.any_toList, List.any_eq_true] at hj
  obtain ⟨e, he, hh⟩ := hj
  have he : e ∈ o.after := by simpa using he
  rw [Bool.and_eq_true, beq_iff_eq] at hh
  rw [← hh.1]
  exact h e he hh.2

theorem getD_set (listed : Array Bool) (i j : Nat) (d : Bool) (hi : i < listed.size) : (listed.setIfInBounds i true).getD j d = if j = i then true else listed.getD j d := by
  rw [Array.getD_eq_getD_getElem?, Array.getD_eq_getD_getElem?, Array.getElem?_setIfInBounds]
  by_cases h : i = j
  · subst h; simp [hi]
  · rw [if_neg h, if_neg (fun e => h e.symm)]

section
variable {c : Cx} {N : Nat} {X0 : Nat → Prop} {M : Nat → BV → Prop} {w0 : World} {K : Exit → St → Prop}

/-- behind the first m: one after the other -/
theorem draw_tail (hAp : Ap c.P X0 M w0) {ops : Array Oper} {m : Nat} (hB : DrawOk ops m) : ∀ (fuel p : Nat) (listed : Array Bool) (st : St) (β : Nat → BV) (a : Act) (w : World), p + fuel = ops.size → m ≤ p → listed.size = ops.size →
    (∀ j, j < ops.size → listed.getD j false = decide (j < p)) → Sim N X0 M w0 st β a w → St.runR c.tys c.C N ops (ops.toList.drop p) st (K .normal) →
    wpAny c.P .any ops (fun e a' w' => Ok N X0 M w0 (K e) a' w') fuel listed a w
  | 0, p, listed, st, β, a, w, hp, hm, hsz, hl, hs, hr => by
    have hd : ops.toList.drop p = [] := List.drop_eq_nil_of_le (by simp; omega)
    rw [hd] at hr
    refine ⟨?_, st, β, hr, hs⟩
    rw [List.eq_nil_iff_forall_not_mem]
    intro i hi
    obtain ⟨h1, h2, _⟩ := mem_ready'.1 hi
    have h3 := hl i h1
    rw [Array.getD_eq_getD_getElem?] at h2 h3
    rw [Array.getElem?_eq_getElem (by omega)] at h2 h3
    simp only [Option.getD_some] at h2 h3
    rw [h2] at h3
    have : i < p := by omega
    simp [this] at h3
  | fuel + 1, p, listed, st, β, a, w, hp, hm, hsz, hl, hs, hr => by
    have hpl : p < ops.size := by omega
    have hgT : ∀ j, j < ops.size → listed.getD j true = decide (j < p) := fun j hj => by
      have := hl j hj
      rw [Array.getD_eq_getD_getElem?, Array.getElem?_eq_getElem (by omega)] at this ⊢
      exact this
    have ho : ops[p]? = some (ops[p]'hpl) := Array.getElem?_eq_getElem hpl
    have hrdy : p ∈ Region.ready .any ops listed := mem_ready'.2 ⟨hpl, by rw [hgT p hpl]; simp, _, ho, fun e he hb => by
      have := hB.back p _ ho e he hb
      rw [hl e.on (by omega)]; simpa using this⟩
    refine ⟨fun h => (by rw [h] at hrdy; cases hrdy), fun i hi => ?_⟩
    obtain ⟨h1, h2, o, hoi, h3⟩ := mem_ready'.1 hi
    have hip : i = p := by
      rw [hgT i h1] at h2
      have hge : p ≤ i := by simpa using h2
      rcases Nat.lt_or_ge p i with hlt | hle
      · have := hasEdge_listed h3 (hB.all i o (by omega) hoi p hlt)
        rw [hl p hpl] at this
        simp at this
      · omega
    subst hip
    have hdrop : ops.toList.drop i = o :: ops.toList.drop (i + 1) := by
      rw [List.drop_eq_getElem_cons (by simpa using hpl)]
      congr 1
      rw [ho] at hoi
      simpa using hoi
    rw [hdrop] at hr
    have hst := step_sound (Q := fun e a' w' => Ok N X0 M w0 (K e) a' w') hAp c.hty c.hC hs (ops := ops) hr
    have hnext : ∀ a' w', Ok N X0 M w0 (fun st' => St.runR c.tys c.C N ops (ops.toList.drop (i + 1)) st' (K .normal)) a' w' → wpAny c.P .any ops (fun e a' w' => Ok N X0 M w0 (K e) a' w') fuel (listed.setIfInBounds i true) a' w' := fun a' w' hk => by
      obtain ⟨st', β', h4, h5⟩ := hk
      refine draw_tail hAp hB fuel (i + 1) _ st' β' a' w' (by omega) (by omega) (by simpa using hsz) (fun j hj => ?_) h5 h4
      rw [getD_set _ _ _ _ (by omega)]
      by_cases hji : j = i
      · subst hji; simp
      · rw [if_neg hji, hl j hj]
        congr 1
        apply propext
        omega
    unfold wpOp
    rw [hoi]
    simp only
    split
    · rename_i hw; rw [if_pos hw] at hst; exact .inl (Oper.wp_mono hnext hst)
    · rename_i hw; rw [if_neg hw] at hst; exact hnext _ _ hst

theorem draw_head (hAp : Ap c.P X0 M w0) {ops : Array Oper} {m : Nat} (hB : DrawOk ops m) {st : St} {xs : Nat → SV} (hv : ∀ i o, i < m → ops[i]? = some o → (stF (ops.toList.take m) xs st i).val c.tys c.C N ops o (xs i))
    (hr : St.runR c.tys c.C N ops (ops.toList.drop m) (stF (ops.toList.take m) xs st m) (K .normal)) : ∀ (fuel : Nat) (listed : Array Bool) (st' : St) (β : Nat → BV) (a : Act) (w : World), listed.size = ops.size →
    (∀ j, m ≤ j → j < ops.size → listed.getD j false = false) → fuel = (List.range ops.size).countP (fun j => !listed.getD j false) → Sim N X0 M w0 st' β a w → st'.hp = st.hp →
    (∀ t, (∀ j, j < m → dstAt ops j ≠ some t) → lk t st'.fr = lk t st.fr) → (∀ i d, i < m → listed.getD i false = true → dstAt ops i = some d → lk d st'.fr = some (xs i)) →
    wpAny c.P .any ops (fun e a' w' => Ok N X0 M w0 (K e) a' w') fuel listed a w := by
  have hdt : ∀ j, ((ops.toList.take m)[j]?).bind (·.dst) = if j < m then dstAt ops j else none := fun j => by
    by_cases hj : j < m
    · rw [if_pos hj, List.getElem?_take_of_lt hj, Array.getElem?_toList]; rfl
    · rw [if_neg hj, List.getElem?_eq_none (by simp; omega)]; rfl
  have hap : ∀ {i j d}, i < m → j < m → dstAt ops i = some d → dstAt ops j = some d → i = j := fun {i j d} hi hj h1 h2 => by
    have hio : i < ops.size := by have := hB.le; omega
    have ho : ops[i]? = some (ops[i]'hio) := Array.getElem?_eq_getElem hio
    rcases Nat.decEq i j with hne | he
    · exfalso
      refine hB.apart i _ hi ho j hj hne ?_
      rw [h2, ← h1]
      unfold dstAt
      rw [ho]; rfl
    · exact he
  -- what stF has
  have hF2 : ∀ t, (∀ j, j < m → dstAt ops j ≠ some t) → ∀ i, lk t (stF (ops.toList.take m) xs st i).fr = lk t st.fr := fun t ht i => stF_other xs st (fun j => by
    rw [hdt j]; split
    · rename_i hj; exact ht j hj
    · simp) i
  have hF3 : ∀ {t j i}, j < m → dstAt ops j = some t → j < i → lk t (stF (ops.toList.take m) xs st i).fr = some (xs j) := fun {t j i} hj hd hi => stF_dst xs st (by rw [hdt j, if_pos hj]; exact hd) (fun k hk => by
    rw [hdt k]; split
    · rename_i hkm; exact fun e => hk (hap hkm hj e hd)
    · simp) i hi
  intro fuel
  induction fuel with
  | zero =>
    intro listed st' β a w hsz hsuf hf hs hhp hA hB'
    have hall : ∀ j, j < ops.size → listed.getD j false = true := fun j hj => by
      have : (List.range ops.size).countP (fun j => !listed.getD j false) = 0 := hf.symm
      rw [List.countP_eq_zero] at this
      have := this j (List.mem_range.2 hj)
      simpa using this
    have hm : m = ops.size := by
      rcases Nat.lt_or_ge m ops.size with h | h
      · have := hall m h; rw [hsuf m (Nat.le_refl _) h] at this; cases this
      · have := hB.le; omega
    refine draw_tail (c := c) hAp hB 0 m listed (stF (ops.toList.take m) xs st m) β a w (by omega) (Nat.le_refl _) hsz (fun j hj => by rw [hall j hj]; simp; omega) ?_ hr
    refine hs.less (fun t x hx => ?_) (fun t x hx => by rw [hhp, ← stF_hp (ops.toList.take m) xs st m]; exact hx)
    by_cases ht : ∃ j, j < m ∧ dstAt ops j = some t
    · obtain ⟨j, hj, hd⟩ := ht
      rw [hF3 hj hd hj] at hx
      rw [hB' j t hj (hall j (by omega)) hd]; exact hx
    · have ht' : ∀ j, j < m → dstAt ops j ≠ some t := fun j hj hd => ht ⟨j, hj, hd⟩
      rw [hF2 t ht'] at hx
      rw [hA t ht']; exact hx
  | succ fuel ih =>
    intro listed st' β a w hsz hsuf hf hs hhp hA hB'
    have hgT : ∀ j, j < ops.size → listed.getD j true = listed.getD j false := fun j hj => by
      rw [Array.getD_eq_getD_getElem?, Array.getD_eq_getD_getElem?, Array.getElem?_eq_getElem (by omega)]; rfl
    -- some operation has not come up; the least of them may
    have hex : ∃ p, p < ops.size ∧ listed.getD p false = false := by
      have h1 : 0 < (List.range ops.size).countP (fun j => !listed.getD j false) := by omega
      obtain ⟨p, hp, hq⟩ := List.countP_pos_iff.1 h1
      exact ⟨p, List.mem_range.1 hp, by simpa using hq⟩
    obtain ⟨p, ⟨hp, hpf⟩, hmin⟩ := least hex
    have hrdy : p ∈ Region.ready .any ops listed := mem_ready'.2 ⟨hp, by rw [hgT p hp]; exact hpf, _, Array.getElem?_eq_getElem hp, fun e he hb => by
      have hlt := hB.back p _ (Array.getElem?_eq_getElem hp) e he hb
      cases hh : listed.getD e.on false with
      | true => rfl
      | false => have := hmin e.on ⟨by omega, hh⟩; omega⟩
    refine ⟨fun h => (by rw [h] at hrdy; cases hrdy), fun i hi => ?_⟩
    obtain ⟨h1, h2, o, hoi, h3⟩ := mem_ready'.1 hi
    rw [hgT i h1] at h2
    rcases Nat.lt_or_ge i m with him | him
    · -- one of the first m
      have hval : st'.val c.tys c.C N ops o (xs i) := by
        refine val_congr (fun t ht => ?_) (by rw [hhp, stF_hp]) (hv i o him hoi)
        unfold St.get
        by_cases hd : ∃ j, j < m ∧ dstAt ops j = some t
        · obtain ⟨j, hj, hd⟩ := hd
          obtain ⟨hji, hed⟩ := hB.looks i o him hoi t ht j hj hd
          rw [hB' j t hj (hasEdge_listed h3 hed) hd, hF3 hj hd hji]
        · have hd' : ∀ j, j < m → dstAt ops j ≠ some t := fun j hj hd' => hd ⟨j, hj, hd'⟩
          rw [hA t hd', hF2 t hd']
      have hst := val_sound (Q := fun e a' w' => Ok N X0 M w0 (K e) a' w') hAp c.hty c.hC hs (ops := ops) hval
      obtain ⟨d, hd⟩ := hB.dst i o him hoi
      have hdi : dstAt ops i = some d := by unfold dstAt; rw [hoi]; exact hd
      have hnext : ∀ a' w', Ok N X0 M w0 (fun st2 => st2 = st'.put o.dst (xs i)) a' w' → wpAny c.P .any ops (fun e a' w' => Ok N X0 M w0 (K e) a' w') fuel (listed.setIfInBounds i true) a' w' := fun a' w' hk => by
        obtain ⟨st2, β', rfl, h5⟩ := hk
        refine ih _ _ β' a' w' (by simpa using hsz) (fun j hj hjn => ?_) ?_ h5 (by rw [put_hp]; exact hhp) (fun t ht => ?_) (fun j e hj hjl hje => ?_)
        · rw [getD_set _ _ _ _ (by omega), if_neg (by omega)]; exact hsuf j hj hjn
        · have key : ∀ l : List Nat, l.Nodup → i ∈ l → l.countP (fun j => !listed.getD j false) = l.countP (fun j => !(listed.setIfInBounds i true).getD j false) + 1 := by
            intro l hn hm
            induction l with
            | nil => cases hm
            | cons q l ihl =>
              rw [List.nodup_cons] at hn
              simp only [List.countP_cons]
              rw [getD_set _ _ _ _ (by omega)]
              by_cases hq : q = i
              · subst hq
                have hno : l.countP (fun j => !listed.getD j false) = l.countP (fun j => !(listed.setIfInBounds q true).getD j false) := by
                  apply List.countP_congr
                  intro j hj
                  rw [getD_set _ _ _ _ (by omega), if_neg (fun e => hn.1 (by rw [← e]; exact hj))]
                rw [h2, hno]; simp
              · have hm' : i ∈ l := by
                  rcases List.mem_cons.1 hm with e | e
                  · exact absurd e.symm hq
                  · exact e
                rw [if_neg hq, ihl hn.2 hm']; omega
          have := key (List.range ops.size) List.nodup_range (List.mem_range.2 h1)
          omega
        · rw [hd, put_lk_ne _ _ _ _ (fun e => ht i him (by rw [hdi, ← hd]; rw [hd]; exact e))]
          exact hA t ht
        · rw [getD_set _ _ _ _ (by omega)] at hjl
          by_cases hji : j = i
          · subst hji
            rw [hdi] at hje
            cases hje
            rw [hd]; exact put_lk_same _ _ _
          · rw [if_neg hji] at hjl
            rw [hd, put_lk_ne _ _ _ _ (fun e' => hji (hap hj him hje (by rw [hdi]; exact e')))]
            exact hB' j e hj hjl hje
      unfold wpOp
      rw [hoi]
      simp only
      split
      · rename_i hw; rw [if_pos hw] at hst; exact .inl (Oper.wp_mono hnext hst)
      · rename_i hw; rw [if_neg hw] at hst; exact hnext _ _ hst
    · -- all before it have come up: it is the m-th
      have hbefore : ∀ j, j < i → listed.getD j false = true := fun j hj => hasEdge_listed h3 (hB.all i o him hoi j hj)
      have himm : i = m := by
        rcases Nat.lt_or_ge m i with h | h
        · have := hbefore m h; rw [hsuf m (Nat.le_refl _) (by omega)] at this; cases this
        · omega
      have hl : ∀ j, j < ops.size → listed.getD j false = decide (j < m) := fun j hj => by
        rcases Nat.lt_or_ge j m with h | h
        · rw [hbefore j (by omega)]; simp [h]
        · rw [hsuf j h hj]; simp; omega
      have hcount : fuel + 1 = ops.size - m := by
        rw [hf]
        have : (List.range ops.size).countP (fun j => !listed.getD j false) = (List.range ops.size).countP (fun j => decide (m ≤ j)) := by
          apply List.countP_congr
          intro j hj
          rw [hl j (List.mem_range.1 hj)]
          simp
        rw [this]
        have key : ∀ n, (List.range n).countP (fun j => decide (m ≤ j)) = n - m := by
          intro n
          induction n with
          | zero => simp
          | succ n ihn =>
            rw [List.range_succ, List.countP_append, ihn]
            by_cases hh : m ≤ n
            · simp [hh]; omega
            · simp [hh]; omega
        exact key _
      have htail := draw_tail (c := c) hAp hB (fuel + 1) m listed (stF (ops.toList.take m) xs st m) β a w (by have := hB.le; omega) (Nat.le_refl _) hsz hl (hs.less (fun t x hx => by
          by_cases ht : ∃ j, j < m ∧ dstAt ops j = some t
          · obtain ⟨j, hj, hd⟩ := ht
            rw [hF3 hj hd hj] at hx
            rw [hB' j t hj (hbefore j (by omega)) hd]; exact hx
          · have ht' : ∀ j, j < m → dstAt ops j ≠ some t := fun j hj hd => ht ⟨j, hj, hd⟩
            rw [hF2 t ht'] at hx
            rw [hA t ht']; exact hx) (fun t x hx => by rw [hhp, ← stF_hp (ops.toList.take m) xs st m]; exact hx)) hr
      exact htail.2 i hi

/-- **A region whose order is open.** -/
theorem WP.draw {id : Nat} {l : List Oper} {st : St} (m : Nat) (hB : drawB l.toArray m = true) (hm : c.P.follows .mixedOrders = true)
    (h : St.runV c.tys c.C N l.toArray (l.take m) st fun st' => St.runR c.tys c.C N l.toArray (l.drop m) st' (K .normal)) : WP c N X0 M w0 (.region id l.toArray true) st K := by
  intro hA β a w hs
  have hD := drawB_ok hB
  obtain ⟨xs, h1, h2⟩ := runV_xs _ _ h
  have hlen : (l.take m).length = m := by
    have := hD.le
    simp at this ⊢
    omega
  rw [hlen] at h2
  refine wp_region_any hm (draw_head (c := c) (K := K) hA hD (st := st) (xs := xs) (fun i o hi ho => ?_) ?_ l.toArray.size (Array.replicate l.toArray.size false) st β a _ (by simp) (fun j _ hj => ?_) ?_ ?_ rfl (fun _ _ => rfl) (fun i d hi hl => ?_))
  · have : (l.take m)[i]? = some o := by rw [List.getElem?_take_of_lt hi]; simpa using ho
    exact h1 i o this
  · exact h2
  · rw [Array.getD_eq_getD_getElem?, Array.getElem?_replicate]; split <;> rfl
  · have : (List.range l.toArray.size).countP (fun j => !(Array.replicate l.toArray.size false).getD j false) = (List.range l.toArray.size).countP (fun _ => true) := by
      apply List.countP_congr
      intro j hj
      rw [Array.getD_eq_getD_getElem?, Array.getElem?_replicate]; split <;> simp
    rw [this]; simp
  · exact hs.grow ((Go.RowKit.Below.refl _ _).drew) (fun b _ hb => .inl hb) hs.x0
  · rw [Array.getD_eq_getD_getElem?, Array.getElem?_replicate] at hl
    split at hl <;> cases hl
end
end Go.Vc

/-
  DERIVED. A region whose order Go leaves open and whose operations make objects.
-/
namespace Go.Vc
set_option linter.unusedVariables false
set_option linter.unusedSimpArgs false

/-- what an operation leaves behind: its value, the objects that it makes, the objects that are no more -/
structure Dl where
  x : SV
  made : List (Nat × Ob) := []
  gone : List Nat := []
def Dl.ids (δ : Dl) : List Nat := δ.made.map (·.1) ++ δ.gone
def St.dapp (st : St) (d : Nat) (δ : Dl) : St := { fr := (d, δ.x) :: er d (st.killL δ.ids).fr, hp := δ.made ++ (st.killL δ.ids).hp }

def St.valK (tys : List (Nat × TyD)) (C : List (FuncId × Ctr)) (N : Nat) (ops : Array Oper) (o : Oper) (st : St) (K : SV → Prop) : Prop := ∃ x, st.val tys C N ops o x ∧ K x

/-- an operation of such a region -/
def St.dlt (tys : List (Nat × TyD)) (C : List (FuncId × Ctr)) (N : Nat) (ops : Array Oper) (o : Oper) (d : Nat) (st : St) (δ : Dl) : Prop :=
  o.dst = some d ∧
  ((st.val tys C N ops o δ.x ∧ δ.made = [] ∧ δ.gone = []) ∨
   (o.guard = none ∧ dstOk N o.dst = true ∧ match o.op with
    | .alloc T => match lk T tys with
      | some t => t.z.all Value.oneCell' = true ∧ δ = ⟨.ptr d 0 0 0, [(d, .box T (t.z.map .v))], []⟩
      | none => False
    | .box T x => (st.ev x).need ∧ (st.ev x).strip.cells.all SV.one = true ∧ (st.ev x).strip.cells.map (SV.kill d) = (st.ev x).strip.cells ∧ δ = ⟨.ptr d 0 0 0, [(d, .box T (st.ev x).strip.cells)], []⟩
    | .buildSlice T n parts => match lk T tys with
      | some t => match lk t.elem tys with
        | some e => t.kind = 1 ∧ 0 < e.size ∧ n * e.size ≤ 16777216 ∧ e.z.length = e.size ∧ e.z.all Value.oneCell' = true ∧ partsIn st n e.size parts.toList ∧
            δ = ⟨.own d, [(d, .sl t.elem e.size (rowsIn st (e.z.map .v) parts.toList (List.replicate n (e.z.map .v))))], []⟩
        | none => False
      | none => False
    | .makeSlice T l c => match lk T tys, (st.ev l).strip, (st.ev c).strip with
      | some t, .v (.int .i64 n), .v (.int .i64 m) => match lk t.elem tys with
        | some e => t.kind = 1 ∧ (st.ev l).need ∧ (st.ev c).need ∧ 0 ≤ n ∧ n ≤ m ∧ m * (e.bytes : Int) ≤ 281474976710656 ∧ 0 < e.bytes ∧ e.z.length = e.size ∧ e.z.all Value.oneCell' = true ∧
            δ = ⟨.own d, [(d, .sl t.elem e.size (List.replicate n.toNat (e.z.map .v)))], []⟩
        | none => False
      | _, _, _ => False
    | .call c => match c.callee with
      | .value x => match st.ev x with
        | .fn f caps => match lk f C with
          | some ctr => ctr.isL = false ∧ (match ctr.pure d ((st.argL c caps).map (SV.share st.hp)) with
            | (ob, res, robs) => ob ∧ (∀ y ∈ c.args.toList, (st.ev y).need) ∧ ((st.argL c caps).all fun y => (y.share st.hp).good) = true ∧ res.rok = true ∧ (res.owns2.all fun i => (robs.map (·.1)).contains i) = true ∧
              nodupN (robs.map (·.1)) = true ∧ ((robs.map (·.1)).all fun i => decide (i < 1000000)) = true ∧ (robs.all fun p => p.2.pl) = true ∧
              (((st.argL c caps).flatMap SV.owns) = [] ∨ (res.isV2 = true ∧ ∀ p ∈ robs, p.2.isV)) ∧ δ = ⟨res, robs, []⟩)
          | none => False
        | _ => False
      | .builtin .append => match c.args.toList, c.argTypes.toList with
        | [x, y], [T, T'] => match lk T tys, st.rowsOf (st.ev y).strip with
          | some t, some news => match lk t.elem tys with
            | some e => T = T' ∧ t.kind = 1 ∧ (st.ev x).need ∧ (st.ev y).need ∧ 0 < e.size ∧ 0 < e.bytes ∧ e.z.length = e.size ∧
              (match (st.ev x).strip with
              | .own j => match lk j st.hp with
                | some (.sl e' s' rows) => j < 1000000 ∧ j ≠ d ∧ e' = t.elem ∧ s' = e.size ∧ (rows.length + news.length) * e.bytes ≤ 140737488355328 ∧ (∀ row ∈ news, row.length = e.size) ∧ δ = ⟨.own d, [(d, .sl e' s' (rows ++ news))], [j]⟩
                | _ => False
              | .v (.slice none 0 0) => news.length * e.bytes ≤ 140737488355328 ∧ (∀ row ∈ news, row.length = e.size) ∧ δ = ⟨.own d, [(d, .sl t.elem e.size news)], []⟩
              | _ => False)
            | none => False
          | _, _ => False
        | _, _ => False
      | _ => False
    | _ => False) ∨
   (o.guard = none ∧ dstOk N o.dst = true ∧ ∃ p ob is, st.deepQ tys o = some (p, ob, is) ∧ p ∧ δ = ⟨.own d, [(d, ob)], is⟩))

section
variable {P : Program} {tys : List (Nat × TyD)} {C : List (FuncId × Ctr)} {N : Nat} {X0 : Nat → Prop} {M : Nat → BV → Prop} {w0 : World} {st : St} {β : Nat → BV} {a : Act} {w : World}


theorem kill1_re1 (j d : Nat) (x : SV) : ((x.kill1 j).kill1 d).re1 j d = (x.kill1 j).kill1 d := by
  cases x with
  | own k =>
    by_cases h1 : k = j
    · simp [SV.kill1, SV.re1, h1]
    · by_cases h2 : k = d
      · subst h2; simp [SV.kill1, SV.re1, h1]
      · simp [SV.kill1, SV.re1, h1, h2]
  | ptr k s a b =>
    by_cases h1 : k = j
    · simp [SV.kill1, SV.re1, h1]
    · by_cases h2 : k = d
      · subst h2; simp [SV.kill1, SV.re1, h1]
      · simp [SV.kill1, SV.re1, h1, h2]
  | _ => rfl
theorem up2_kr (j d : Nat) (x : SV) : (((x.up2 (SV.kill1 j)).up2 (SV.kill1 d)).up2 (SV.re1 j d)) = (x.up2 (SV.kill1 j)).up2 (SV.kill1 d) := by
  cases x with
  | agg cs =>
    simp only [SV.up2, List.map_map]
    congr 1
    exact List.map_congr_left fun y _ => kill1_re1 j d y
  | own k =>
    by_cases h1 : k = j
    · simp [SV.up2, SV.kill1, SV.re1, h1]
    · by_cases h2 : k = d
      · subst h2; simp [SV.up2, SV.kill1, SV.re1, h1]
      · simp [SV.up2, SV.kill1, SV.re1, h1, h2]
  | ptr k s a b =>
    by_cases h1 : k = j
    · simp [SV.up2, SV.kill1, SV.re1, h1]
    · by_cases h2 : k = d
      · subst h2; simp [SV.up2, SV.kill1, SV.re1, h1]
      · simp [SV.up2, SV.kill1, SV.re1, h1, h2]
  | _ => rfl
theorem kill_re (j d : Nat) (x : SV) : ((x.kill j).kill d).up (SV.re1 j d) = (x.kill j).kill d := by
  cases x with
  | agg cs =>
    simp only [SV.kill, SV.up, List.map_map]
    congr 1
    exact List.map_congr_left fun y _ => kill1_re1 j d y
  | tup cs =>
    simp only [SV.kill, SV.up, List.map_map]
    congr 1
    exact List.map_congr_left fun y _ => up2_kr j d y
  | fn f cs =>
    simp only [SV.kill, SV.up, List.map_map]
    congr 1
    exact List.map_congr_left fun y _ => kill1_re1 j d y
  | cond g x => simp only [SV.kill, SV.up, up2_kr j d x]
  | own k =>
    by_cases h1 : k = j
    · simp [SV.kill, SV.up, SV.kill1, SV.re1, h1]
    · by_cases h2 : k = d
      · subst h2; simp [SV.kill, SV.up, SV.kill1, SV.re1, h1]
      · simp [SV.kill, SV.up, SV.kill1, SV.re1, h1, h2]
  | ptr k s a b =>
    by_cases h1 : k = j
    · simp [SV.kill, SV.up, SV.kill1, SV.re1, h1]
    · by_cases h2 : k = d
      · subst h2; simp [SV.kill, SV.up, SV.kill1, SV.re1, h1]
      · simp [SV.kill, SV.up, SV.kill1, SV.re1, h1, h2]
  | _ => rfl
theorem Ob.kill_re (j d : Nat) (o : Ob) : ((o.kill j).kill d).up (SV.re1 j d) = (o.kill j).kill d := by
  cases o with
  | sl e s rows => rfl
  | mp e es => rfl
  | dp e s rows => rfl
  | dq e s rows i row =>
    simp only [Ob.kill, Ob.up, List.map_map]
    congr 1
    refine List.map_congr_left fun y _ => ?_
    have nk : ∀ (d : Nat) (c : SV), c.isSl = false → (c.kill d).isSl = false := fun d c hc => by
      cases c <;> first | (cases hc; done) | rfl | (simp only [SV.kill, SV.up, SV.kill1]; split <;> rfl)
    simp only [Function.comp]
    cases hy : y.isSl with
    | true => simp [SV.upq, hy]
    | false =>
      have e1 := nk j y hy
      have e2 := nk d _ e1
      simp [SV.upq, hy, e1, e2, Go.Vc.kill_re j d y]
  | box e cs =>
    simp only [Ob.kill, Ob.up, List.map_map]
    congr 1
    exact List.map_congr_left fun y _ => Go.Vc.kill_re j d y

/-- append, its result under a number of its own -/
theorem Sim.app2 {j d : Nat} {e s : Nat} {rows : List (List SV)} (hjd : j ≠ d) (hd : d < N) (h : Sim N X0 M w0 (st.app j d (.sl e s rows)) β a w) : ∃ β', Sim N X0 M w0 (st.dapp d ⟨.own d, [(d, .sl e s rows)], [j]⟩) β' a w := by
  obtain ⟨β', h'⟩ := h.mv (i := j) (j := d) (by have := h.few; omega) hjd
  refine ⟨β', h'.less (fun t x hx => ?_) (fun t x hx => ?_)⟩
  · have hlj : lk j (st.app j d (.sl e s rows)).hp = some (.sl e s rows) := by simp [St.app, lk]
    unfold St.mv
    rw [hlj]
    simp only [lk_map]
    simp only [St.dapp, lk] at hx
    by_cases ht : t = d
    · rw [if_pos ht] at hx
      cases hx
      subst ht
      simp [St.app, St.kill, lk, lk_map, SV.kill, SV.up, SV.kill1, SV.re1, hjd]
    · rw [if_neg ht, lk_er_ne ht] at hx
      have e1 : lk t ((st.app j d (.sl e s rows)).kill d).fr = lk t ((st.kill j).kill d).fr := by
        simp only [St.app, St.kill, lk_map]
        simp only [lk, if_neg ht]
        simp only [lk_map, lk_er_ne ht]
      rw [e1]
      have e2 : lk t ((st.kill j).kill d).fr = some x := hx
      rw [e2]
      have e3 : ∃ y : SV, x = (y.kill j).kill d := by
        simp only [St.kill, lk_map] at e2
        cases hq : lk t st.fr with
        | none => rw [hq] at e2; cases e2
        | some y => rw [hq] at e2; exact ⟨y, by simpa using e2.symm⟩
      obtain ⟨y, rfl⟩ := e3
      simp only [Option.map_some, Go.Vc.kill_re]
  · have hlj : lk j (st.app j d (.sl e s rows)).hp = some (.sl e s rows) := by simp [St.app, lk]
    unfold St.mv
    rw [hlj]
    simp only [St.dapp, List.cons_append, List.nil_append, lk] at hx ⊢
    by_cases ht : t = d
    · rw [if_pos ht] at hx ⊢
      cases hx
      rfl
    · rw [if_neg ht] at hx ⊢
      have e2 : lk t ((st.kill j).kill d).hp = some x := hx
      have htj : t ≠ j := fun e => by
        subst e
        rw [lk_kill_ne ht, lk_kill] at e2
        cases e2
      rw [lk_map, lk_er_ne htj, lk_kill_ne ht]
      have e1 : lk t (st.app j d (.sl e s rows)).hp = lk t (st.kill j).hp := by simp [St.app, lk, htj]
      rw [e1]
      rw [lk_kill_ne ht] at e2
      cases hq : lk t (st.kill j).hp with
      | none => rw [hq] at e2; cases e2
      | some y =>
        rw [hq] at e2
        have hy : ∃ z : Ob, y = z.kill j := by
          rw [lk_kill_ne htj] at hq
          cases hz : lk t st.hp with
          | none => rw [hz] at hq; cases hq
          | some z => rw [hz] at hq; exact ⟨z, by simpa using hq.symm⟩
        obtain ⟨z, rfl⟩ := hy
        have hx2 : x = (z.kill j).kill d := by simpa using e2.symm
        subst hx2
        simp only [Option.map_some, Ob.kill_re]
end
end Go.Vc

/-
  DERIVED. As VcN: an operation there is what the model's run does; any order.
-/
namespace Go.Vc
set_option linter.unusedVariables false
set_option linter.unusedSimpArgs false
section
variable {P : Program} {tys : List (Nat × TyD)} {C : List (FuncId × Ctr)} {N : Nat} {X0 : Nat → Prop} {M : Nat → BV → Prop} {w0 : World} {st : St} {β : Nat → BV} {a : Act} {w : World}

theorem map_kill_v (d : Nat) (l : List Value) : (l.map SV.v).map (SV.kill d) = l.map SV.v := by
  rw [List.map_map]; rfl

theorem dlt_sound (hA : Ap P X0 M w0) (hty : ∀ T d, lk T tys = some d → TyOk P T d) (hC : COk P C) (h : Sim N X0 M w0 st β a w) {ops : Array Oper} {o : Oper} {d : Nat} {δ : Dl} (hw : st.dlt tys C N ops o d δ) {Q : Exit → Act → World → Prop} :
    if Region.wanted o (yielded ops a.tmps) then o.wp P a w (Ok N X0 M w0 fun st' => st' = st.dapp d δ) Q else Ok N X0 M w0 (fun st' => st' = st.dapp d δ) (a.put o.dst undef) w := by
  obtain ⟨hod, hw⟩ := hw
  rcases hw with ⟨hv, hm, hg⟩ | ⟨hgd, hd, hw⟩ | ⟨hgd, hd, p, ob, is, hq, hp, rfl⟩
  rotate_right
  · have hwant : Region.wanted o (yielded ops a.tmps) = true := by simp [Region.wanted, hgd]
    rw [if_pos hwant]
    exact deepQ_sound (K := fun st' => st' = st.dapp d ⟨.own d, [(d, ob)], is⟩) hty h hq hp hod (by rw [hod] at hd; simpa [dstOk] using hd) rfl
  · have e : st.dapp d δ = st.put o.dst δ.x := by
      rw [hod]
      simp [St.dapp, Dl.ids, hm, hg, St.killL, St.put]
    rw [e]
    exact val_sound hA hty hC h hv
  · have hwant : Region.wanted o (yielded ops a.tmps) = true := by simp [Region.wanted, hgd]
    rw [if_pos hwant]
    have hdN : d < N := by rw [hod] at hd; simpa [dstOk] using hd
    have hN : ∀ e, o.dst = some e → e < N := dst_lt hd
    cases ho : o.op with
    | alloc T =>
      rw [ho] at hw
      simp only at hw
      split at hw
      case h_2 => exact hw.elim
      case h_1 _ t ht =>
        obtain ⟨h1, rfl⟩ := hw
        refine eff_alloc hty h ho hN ?_
        unfold St.eff
        rw [ho]
        simp only [hod, ht]
        refine ⟨h1, ?_⟩
        simp only [St.new, St.dapp, Dl.ids, List.map_cons, List.map_nil, List.append_nil, St.killL, Ob.kill, map_kill_v, List.cons_append, List.nil_append]
    | box T x =>
      rw [ho] at hw
      simp only at hw
      obtain ⟨h1, h2, h3, rfl⟩ := hw
      refine eff_box (tys := tys) h ho hN ?_
      unfold St.eff
      rw [ho]
      simp only [hod]
      refine ⟨h1, h2, ?_⟩
      simp only [St.new, St.dapp, Dl.ids, List.map_cons, List.map_nil, List.append_nil, St.killL, Ob.kill, h3, List.cons_append, List.nil_append]
    | buildSlice T n parts =>
      rw [ho] at hw
      simp only at hw
      split at hw
      case h_2 => exact hw.elim
      case h_1 _ t ht =>
        split at hw
        case h_2 => exact hw.elim
        case h_1 _ e he =>
          obtain ⟨h1, h2, h3, h4, h5, h6, rfl⟩ := hw
          refine eff_buildSlice hty h ho hN ?_
          unfold St.eff
          rw [ho]
          simp only [hod, ht, he]
          exact ⟨h1, h2, h3, h4, h5, h6, rfl⟩
    | makeSlice T l cc =>
      rw [ho] at hw
      simp only at hw
      split at hw
      case h_2 => exact hw.elim
      case h_1 _ _ _ t n m ht hl hc =>
        split at hw
        case h_2 => exact hw.elim
        case h_1 _ e he =>
          obtain ⟨h1, h2, h3, h4, h5, h6, h7, h8, h9, rfl⟩ := hw
          refine eff_makeSlice hty h ho hN ?_
          unfold St.eff
          rw [ho]
          simp only [hod, ht, hl, hc, he]
          exact ⟨h1, h2, h3, h4, h5, h6, h7, h8, h9, rfl⟩
    | call c =>
      rw [ho] at hw
      simp only at hw
      cases hc : c.callee with
      | value x =>
        rw [hc] at hw
        simp only at hw
        split at hw
        case h_2 => exact hw.elim
        case h_1 _ f caps hf =>
          split at hw
          case h_2 => exact hw.elim
          case h_1 _ ctr hctr =>
            obtain ⟨hL, hw⟩ := hw
            refine eff_call (dd := d) hC hA h hN ?_
            unfold St.callD
            rw [ho]
            simp only [hc, hf, hctr]
            generalize ctr.pure d ((st.argL c caps).map (SV.share st.hp)) = q at hw ⊢
            obtain ⟨q1, q2, q3⟩ := q
            obtain ⟨g1, g2, g3, g4, g5, g6, g7, g8, g9, rfl⟩ := hw
            refine ⟨g1, g2, g3, g4, g5, g6, g7, List.all_eq_true.2 fun p hp => Ob.pb_pl (List.all_eq_true.1 g8 p hp), g9, ?_⟩
            rw [hod]
            simp [St.res, St.put, St.dapp, Dl.ids]
      | invoke r q => rw [hc] at hw; exact hw.elim
      | builtin b =>
        rw [hc] at hw
        cases b <;> first | exact False.elim hw | skip
        simp only at hw ⊢
        split at hw
        case h_2 => exact hw.elim
        case h_1 _ _ x y T T' ha hAt =>
          split at hw
          case h_2 => exact hw.elim
          case h_1 _ _ t news ht hnr =>
            split at hw
            case h_2 => exact hw.elim
            case h_1 _ e he =>
              obtain ⟨h1, h2, h3, h4, h5, h6, h7, hw⟩ := hw
              split at hw
              case h_3 => exact hw.elim
              case h_1 _ j hj =>
                split at hw
                case h_2 => exact hw.elim
                case h_1 _ e' s' rows hl =>
                  obtain ⟨g1, g2, g3, g4, g5, g6, rfl⟩ := hw
                  refine Oper.wp_mono (fun a' w' hk => ?_) (eff_append (K := fun st' => st' = st.app j d (.sl e' s' (rows ++ news))) hty h ho hc hN ?_)
                  · obtain ⟨st', β', rfl, h'⟩ := hk
                    obtain ⟨β2, h2⟩ := Sim.app2 g2 hdN h'
                    exact ⟨_, β2, rfl, h2⟩
                  · unfold St.eff
                    rw [ho]
                    simp only [hc, hod, ha, hAt, ht, hnr, he, hj, hl]
                    exact ⟨h1, h2, h3, h4, h5, h6, h7, g1, g3, g4, g5, g6, trivial⟩
              case h_2 _ hj =>
                obtain ⟨g5, g6, rfl⟩ := hw
                refine eff_append hty h ho hc hN ?_
                unfold St.eff
                rw [ho]
                simp only [hc, hod, ha, hAt, ht, hnr, he, hj]
                exact ⟨h1, h2, h3, h4, h5, h6, h7, g5, g6, rfl⟩
    | _ => rw [ho] at hw; exact hw.elim

theorem parts_mono {st2 : St} {n s : Nat} : ∀ {l : List (Nat × Operand)}, (∀ p ∈ l, st2.ev p.2 = st.ev p.2) → partsIn st n s l → partsIn st2 n s l
  | [], _, h => h
  | (i, x) :: l, he, h => by
    obtain ⟨h1, h2, h3, h4, h5⟩ := h
    have e := he (i, x) List.mem_cons_self
    simp only at e
    exact ⟨by rw [e]; exact h1, h2, by rw [e]; exact h3, by rw [e]; exact h4, parts_mono (fun p hp => he p (List.mem_cons_of_mem _ hp)) h5⟩
theorem rowsIn_mono {st2 : St} {z : List SV} : ∀ {l : List (Nat × Operand)} {rows : List (List SV)}, (∀ p ∈ l, st2.ev p.2 = st.ev p.2) → rowsIn st2 z l rows = rowsIn st z l rows
  | [], _, _ => rfl
  | (i, x) :: l, rows, he => by
    have e := he (i, x) List.mem_cons_self
    simp only at e
    simp only [rowsIn, e]
    exact rowsIn_mono fun p hp => he p (List.mem_cons_of_mem _ hp)

theorem absC_mono {hp hp2 : List (Nat × Ob)} (hh : ∀ id ob, lk id hp = some ob → lk id hp2 = some ob) : ∀ {cs : List SV} {q : Prop × List SV × List Nat}, absC hp cs = some q → absC hp2 cs = some q
  | [], q, h => h
  | x0 :: l, q, h => by
    cases x0 with
    | v x =>
      simp only [absC] at h ⊢
      split at h
      · rename_i p' r' is' h2; rw [absC_mono hh h2]; exact h
      · cases h
    | own j =>
      simp only [absC] at h ⊢
      split at h
      · rename_i e s rows hl
        rw [hh _ _ hl]
        split at h
        · rename_i p' r' is' h2; simp only [absC_mono hh h2]; exact h
        · cases h
      · rename_i e s rows hl
        rw [hh _ _ hl]
        split at h
        · rename_i p' r' is' h2; simp only [absC_mono hh h2]; exact h
        · cases h
      · cases h
    | _ => cases h
theorem deepQ_mono {st2 : St} {o : Oper} (hev : ∀ y ∈ o.op.operands, st2.ev y = st.ev y) (hh : ∀ id ob, lk id st.hp = some ob → lk id st2.hp = some ob) {q : Prop × Ob × List Nat} (hq : st.deepQ tys o = some q) : st2.deepQ tys o = some q := by
  unfold St.deepQ at hq ⊢
  split at hq
  · rename_i T parts ho
    rw [ho] at hev
    split at hq
    · rename_i x t hpa ht
      have ex : st2.ev x = st.ev x := hev x (by
        simp only [Op.operands, List.mem_toArray, List.mem_map]
        exact ⟨(0, x), by rw [hpa]; simp, rfl⟩)
      simp only [ht, ex]
      split at hq
      · rename_i e p' row is he habs
        simp only [he, absC_mono hh habs]
        exact hq
      · cases hq
    · cases hq
  · rename_i c ho
    rw [ho] at hev
    have ha : ∀ y ∈ c.args.toList, st2.ev y = st.ev y := fun y hy => hev y (by simp only [Op.operands, Call.operands, Array.mem_append]; right; simpa using hy)
    split at hq
    · rename_i hc
      split at hq
      · rename_i x y T T' hxy hA
        rw [ha x (by rw [hxy]; simp), ha y (by rw [hxy]; simp)]
        split at hq
        · rename_i t j i ht hj hi
          split at hq
          · rename_i e e' s rows e2 s2 news he hlj hli
            simp only [he, hh _ _ hlj, hh _ _ hli]
            exact hq
          · cases hq
        · cases hq
      · cases hq
    · cases hq
  · cases hq

theorem dlt_mono {st2 : St} {ops : Array Oper} {o : Oper} {d : Nat} {δ : Dl} (h : ∀ t ∈ o.looksAt ops, st2.get t = st.get t) (hh : ∀ id ob, lk id st.hp = some ob → lk id st2.hp = some ob) (hw : st.dlt tys C N ops o d δ) : st2.dlt tys C N ops o d δ := by
  obtain ⟨hod, hw⟩ := hw
  refine ⟨hod, ?_⟩
  have hop : ∀ y ∈ o.op.operands, st2.ev y = st.ev y := fun y hy => by
    cases y with
    | tmp t => exact h t (List.mem_append_left _ (List.mem_filterMap.2 ⟨.tmp t, by simpa using hy, rfl⟩))
    | _ => rfl
  rcases hw with ⟨hv, hm, hg⟩ | ⟨hgd, hd, hw⟩ | ⟨hgd, hd, p, ob, is, hq, hp, rfl⟩
  · exact .inl ⟨val_mono h hh hv, hm, hg⟩
  rotate_left
  · exact .inr (.inr ⟨hgd, hd, p, ob, is, deepQ_mono hop hh hq, hp, rfl⟩)
  · refine .inr (.inl ⟨hgd, hd, ?_⟩)
    cases ho : o.op with
    | alloc T => rw [ho] at hw; exact hw
    | box T x =>
      rw [ho] at hw hop
      simp only [hop x (by simp [Op.operands])] at hw ⊢
      exact hw
    | buildSlice T n parts =>
      rw [ho] at hw hop
      have e : ∀ p ∈ parts.toList, st2.ev p.2 = st.ev p.2 := fun p hp => hop p.2 (by
        simp only [Op.operands, List.mem_toArray, List.mem_map]
        exact ⟨p, hp, rfl⟩)
      simp only at hw ⊢
      split at hw
      case h_2 => exact hw.elim
      case h_1 _ t ht =>
        split at hw
        case h_2 => exact hw.elim
        case h_1 _ e' he =>
          obtain ⟨h1, h2, h3, h4, h5, h6, rfl⟩ := hw
          exact ⟨h1, h2, h3, h4, h5, parts_mono e h6, by rw [rowsIn_mono e]⟩
    | makeSlice T l cc =>
      rw [ho] at hw hop
      simp only [hop l (by simp [Op.operands]), hop cc (by simp [Op.operands])] at hw ⊢
      exact hw
    | call c =>
      rw [ho] at hw hop
      have ha : ∀ y ∈ c.args.toList, st2.ev y = st.ev y := fun y hy => hop y (by simp only [Op.operands, Call.operands, Array.mem_append]; right; simpa using hy)
      simp only at hw ⊢
      cases hc : c.callee with
      | value x =>
        rw [hc] at hw
        have hx : st2.ev x = st.ev x := hop x (by simp [Op.operands, Call.operands, hc])
        simp only [hx] at hw ⊢
        split at hw
        case h_2 => exact hw.elim
        case h_1 _ f caps hf =>
          split at hw
          case h_2 => exact hw.elim
          case h_1 _ ctr hctr =>
            refine ⟨hw.1, ?_⟩
            have hw2 := hw.2
            have hg : ((st.argL c caps).all fun y => (y.share st.hp).good) = true := by
              generalize ctr.pure d ((st.argL c caps).map (SV.share st.hp)) = q at hw2
              obtain ⟨q1, q2, q3⟩ := q
              exact hw2.2.2.1
            obtain ⟨e1, e2⟩ := shareL_mono hh hg
            rw [argL_mono ha, e1]
            generalize ctr.pure d ((st.argL c caps).map (SV.share st.hp)) = q at hw2
            obtain ⟨q1, q2, q3⟩ := q
            obtain ⟨g1, g2, g3, g⟩ := hw2
            exact ⟨g1, fun y hy => by rw [ha y hy]; exact g2 y hy, e2, g⟩
      | invoke r q => rw [hc] at hw; exact hw.elim
      | builtin b =>
        rw [hc] at hw
        cases b <;> first | exact False.elim hw | skip
        simp only at hw ⊢
        split at hw
        case h_2 => exact hw.elim
        case h_1 _ _ x y T T' hxy hAt =>
          have ex := ha x (by rw [hxy]; simp)
          have ey := ha y (by rw [hxy]; simp)
          split at hw
          case h_2 => exact hw.elim
          case h_1 _ _ t news ht hnr =>
            split at hw
            case h_2 => exact hw.elim
            case h_1 _ e he =>
              obtain ⟨h1, h2, h3, h4, h5, h6, h7, hw⟩ := hw
              rw [← ey] at hnr h4
              rw [← ex] at h3 hw
              simp only [hxy, hAt, ht, rowsOf_mono hh hnr, he]
              refine ⟨h1, h2, h3, h4, h5, h6, h7, ?_⟩
              split at hw
              case h_3 => exact hw.elim
              case h_1 _ j hj =>
                split at hw
                case h_2 => exact hw.elim
                case h_1 _ e' s' rows hl =>
                  simp only [hh _ _ hl]
                  exact hw
              case h_2 => exact hw
    | _ => rw [ho] at hw; exact hw
end
end Go.Vc

