/-
  DERIVED. Several texts of ours in one: VcR, VgFrame, VgNode, VpOrd, VpFmt, VpSz, VtMark, VtStrS, VgTok, VcNs, VcFz, VcFr.
-/
import Derived.Test.YtdhkhapbldkkdaaDoorVq0
import Derived.Test.YtdhkhapbldkkdaaDoorVq1
import Derived.Test.YtdhkhapbldkkdaaDoorVq2
import Derived.Test.YtdhkhapbldkkdaaDoorVq3
import Derived.Test.YtdhkhapbldkkdaaDoorVq4
import Derived.ProofKit
import Derived.OpenShut
import Derived.Below
import Derived.ChangeSame
import Derived.Carry
import Derived.Deep.Slices
import Derived.Deep.Fields
import Derived.Laws.Strings
set_option linter.unusedSimpArgs false
set_option linter.unusedVariables false
/-
  DERIVED. From what a row says of its arguments to values that stand for lists, and from a contract to what a row says behind the call.
-/
namespace Go.Vc
open Go.RowKit Go.WideShapes Go.ChangeShapes Go.Deep
set_option linter.unusedVariables false

section
variable {H : Type} {enc : TypeId × Value → H} {P : Program} {w : World}

/-- a row of cells that is read -/
def Cells (w : World) (row : List SV) (cs : List Value) : Prop :=
  row.length = cs.length ∧ ∀ (k : Nat) (c : SV) (u : Value), row[k]? = some c → cs[k]? = some u → u.oneCell' = true ∧ Rp w (fun _ => False) c u

/-- what is read of type t stands for some a -/
def Dec (H : Type) (enc : TypeId × Value → H) (P : Program) (w : World) (t : TypeId) {α : Type} (e : α → List SV) (wf : α → Prop) : Prop :=
  ∀ (base : Nat) (sp : Nat → Bool) (held : Bool) (n : Nat) (cs : List Value) (y : DataW H × List MemPlace), DataW.trod enc P w base sp held n t cs = some y → ∃ a : α, wf a ∧ Cells w (e a) cs

theorem cells_one_v {v : Value} (h : v.oneCell' = true) : Cells w [.v v] [v] := ⟨rfl, fun k c u hc hu => by
  cases k with
  | zero => simp at hc hu; subst hc hu; exact ⟨h, .v _⟩
  | succ k => simp at hc⟩

theorem Dec.int {t : TypeId} {k : IntKind} (ht : P.underlying t = some (.int k)) : Dec H enc P w t (fun n : Int => [.v (.int k n)]) (fun n => k.min ≤ n ∧ n ≤ k.max) := by
  intro base sp held n cs y h
  obtain ⟨m, rfl, rfl, hw⟩ := DataW.trod_int ht h
  exact ⟨m, by simpa [Lit.wf] using hw, cells_one_v rfl⟩
theorem Dec.bool {t : TypeId} (ht : P.underlying t = some .bool) : Dec H enc P w t (fun b : Bool => [.v (.bool b)]) (fun _ => True) := by
  intro base sp held n cs y h
  obtain ⟨m, rfl, rfl⟩ := DataW.trod_bool ht h
  exact ⟨m, trivial, cells_one_v rfl⟩
theorem Dec.string {t : TypeId} (ht : P.underlying t = some .string) : Dec H enc P w t (fun s : ByteArray => [.v (.string s)]) (fun s => s.size ≤ maxLen) := by
  intro base sp held n cs y h
  obtain ⟨m, rfl, rfl, hw⟩ := DataW.trod_string ht h
  exact ⟨m, hw, cells_one_v rfl⟩

theorem choose_list {α : Type} {p : Nat → α → Prop} : ∀ n : Nat, (∀ i, i < n → ∃ a, p i a) → ∃ L : List α, L.length = n ∧ ∀ i a, L[i]? = some a → p i a
  | 0, _ => ⟨[], rfl, by simp⟩
  | n + 1, h => by
    obtain ⟨L, hl, hp⟩ := choose_list n (fun i hi => h i (by omega))
    obtain ⟨a, ha⟩ := h n (by omega)
    refine ⟨L ++ [a], by simp [hl], fun i b hi => ?_⟩
    rw [List.getElem?_append] at hi
    split at hi
    · exact hp i b hi
    · rename_i hge
      have : i = n := by
        have := (List.getElem?_eq_some_iff.1 hi).1
        simp at this; omega
      subst this
      rw [hl] at hi
      simp at hi
      subst hi
      exact ha

theorem spot_none {a : Addr} {u : Value} (h : w.cell? a = some u) : a.spot = none ∧ a.block < w.heap.size := by
  unfold World.cell? at h
  split at h
  · rename_i c _ _ hh
    refine ⟨?_, lt_of_heap hh⟩
    split at h
    · cases h
    · rename_i hs; simpa using hs
  · cases h
theorem addr_add {a : Addr} (h : a.spot = none) (n : Nat) : a.add n = ⟨a.block, a.off + n, none⟩ := by
  obtain ⟨b, o, s⟩ := a
  simp only at h
  subst h
  unfold Addr.add
  split
  · rename_i hn; subst hn; rfl
  · rfl

theorem Dec.slice {t e : TypeId} {s : Nat} {α : Type} {en : α → List SV} {wf : α → Prop} (ht : P.underlying t = some (.slice e)) (hs : P.cellsOf e = s) (hs0 : 0 < s) (hd : Dec H enc P w e en wf) (hen : ∀ a, (en a).length = s) :
    Dec H enc P w t (fun L : List α => [.sl s (L.map en)]) (fun L => L.length ≤ maxLen ∧ ∀ a ∈ L, wf a) := by
  intro base sp held n cs y h
  rcases open_slice ht h with ⟨rfl, _⟩ | ⟨a, len, cap, m, n', D, Pl, rfl, _, hlc, hcm, hm, _, hcell⟩
  · exact ⟨[], by simp, rfl, fun k c u hc hu => by
      cases k with
      | zero => simp at hc hu; subst hc hu; exact ⟨rfl, .nil s _ _⟩
      | succ k => simp at hc⟩
  have hlm : len ≤ m := by rw [hm]; split <;> omega
  have key : ∀ i, i < len → ∃ x : α, wf x ∧ ∃ cs', w.cells? base (a.add (i * s)) s = some cs' ∧ Cells w (en x) cs' := fun i hi => by
    obtain ⟨cs', h1, h2⟩ := hcell i (by omega)
    rw [hs] at h1
    obtain ⟨x, hx, hc⟩ := hd _ _ _ _ _ _ h2
    exact ⟨x, hx, cs', h1, hc⟩
  obtain ⟨L, hl, hL⟩ := choose_list len key
  refine ⟨L, ⟨by unfold maxLen at hcm ⊢; omega, fun x hx => ?_⟩, rfl, fun k c u hc hu => ?_⟩
  · obtain ⟨i, hi⟩ := List.mem_iff_getElem?.1 hx
    exact (hL i x hi).1
  cases k with
  | succ k => simp at hc
  | zero =>
    simp at hc hu
    subst hc hu
    refine ⟨rfl, ?_⟩
    rcases Nat.eq_zero_or_pos len with h0 | h0
    · have : L = [] := List.eq_nil_of_length_eq_zero (by omega)
      subst this
      subst h0
      exact .nil s _ _
    · have hspot : a.spot = none ∧ a.block < w.heap.size := by
        have hx : L[0]? = some (L[0]'(by omega)) := List.getElem?_eq_getElem (by omega)
        obtain ⟨_, cs', h1, _⟩ := hL 0 _ hx
        obtain ⟨_, hcl, hat⟩ := World.cells?_some h1
        have := hat 0 hs0
        have hv : cs'[0]? = some (cs'[0]'(by omega)) := List.getElem?_eq_getElem (by omega)
        rw [hv] at this
        simpa [Addr.add] using spot_none this
      have hav : a = ⟨a.block, a.off, none⟩ := by
        obtain ⟨b, o, sp⟩ := a
        simp only at hspot
        rw [hspot.1]
      have cell : ∀ (i k : Nat) (row : List SV) (c : SV), (L.map en)[i]? = some row → row[k]? = some c → ∃ u, w.cell? ⟨a.block, a.off + (i * s + k), none⟩ = some u ∧ u.oneCell' = true ∧ Rp w (fun _ => False) c u := fun i k row c hr hc => by
        rw [List.getElem?_map] at hr
        cases hx : L[i]? with
        | none => rw [hx] at hr; cases hr
        | some x =>
          rw [hx] at hr
          simp only [Option.map_some, Option.some.injEq] at hr
          subst hr
          obtain ⟨_, cs', h1, h2, h3⟩ := hL i x hx
          obtain ⟨_, hcl, hat⟩ := World.cells?_some h1
          have hk : k < s := by rw [← hen x]; exact (List.getElem?_eq_some_iff.1 hc).1
          have hv : cs'[k]? = some (cs'[k]'(by omega)) := List.getElem?_eq_getElem (by omega)
          have := hat k hk
          rw [hv, addr_add hspot.1, addr_add (by rfl)] at this
          simp only at this
          rw [Nat.add_assoc] at this
          obtain ⟨h4, h5⟩ := h3 k c _ hc hv
          exact ⟨_, this, h4, h5⟩
      have hll : (L.map en).length = len := by simp [hl]
      have := Rp.sl (w := w) (X := fun _ => False) (s := s) (rows := L.map en) a.block a.off cap (fun i k => (w.cell? ⟨a.block, a.off + (i * s + k), none⟩).getD undef) (fun h => h) hspot.2 (by omega) (fun i row hr => by
          rw [List.getElem?_map] at hr
          cases hx : L[i]? with
          | none => rw [hx] at hr; cases hr
          | some x => rw [hx] at hr; simp only [Option.map_some, Option.some.injEq] at hr; subst hr; exact hen x) (fun i k row c hr hc => by
          obtain ⟨u, h1, _⟩ := cell i k row c hr hc; rw [h1]; rfl) (fun i k row c hr hc => by
          obtain ⟨u, h1, h2, _⟩ := cell i k row c hr hc; rw [h1]; exact h2) (fun i k row c hr hc => by
          obtain ⟨u, h1, _, h2⟩ := cell i k row c hr hc; rw [h1]; exact h2)
      rw [← hav, hll] at this
      exact this

/-- a struct's fields, each one cell -/
theorem trod_fields {t : TypeId} {fs : Array Field} {base n : Nat} {sp : Nat → Bool} {held : Bool} {cs : List Value} {y : DataW H × List MemPlace} (ht : P.underlying t = some (.struct fs)) (hone : oneCellFields P fs = true) (hC : P.cellsOf t = fs.size)
    (h : DataW.trod enc P w base sp held n t cs = some y) : cs.length = fs.size ∧ ∀ (j : Nat) (f : Field), fs[j]? = some f → ∃ (v : Value) (n' : Nat) (z : DataW H × List MemPlace), cs[j]? = some v ∧ DataW.trod enc P w base sp held n' f.type [v] = some z := by
  obtain ⟨ys, n', _, _, hlen, hyl, hf⟩ := DataW.trod_struct ht h
  refine ⟨hlen.trans hC, fun j f hj => ?_⟩
  obtain ⟨ho, hk⟩ := hone_of hone j f hj
  have hjl : j < fs.size := (Array.getElem?_eq_some_iff.1 hj).1
  have hv : cs[j]? = some (cs[j]'(by omega)) := List.getElem?_eq_getElem (by omega)
  have h1 := hf j f hj
  rw [ho, hk] at h1
  have hone' : (cs.drop j).take 1 = [cs[j]'(by omega)] := by
    rw [List.drop_eq_getElem_cons (by omega)]
    rfl
  rw [hone'] at h1
  have hys : ys[j]? = some (ys[j]'(by omega)) := List.getElem?_eq_getElem (by omega)
  exact ⟨_, n', _, hv, h1.trans hys⟩
theorem cells_vs {row : List SV} {cs : List Value} (h : row = cs.map .v) (h1 : ∀ u ∈ cs, u.oneCell' = true) : Cells w row cs := by
  subst h
  refine ⟨by simp, fun k c u hc hu => ?_⟩
  rw [List.getElem?_map, hu] at hc
  simp only [Option.map_some, Option.some.injEq] at hc
  subst hc
  exact ⟨h1 u (List.mem_of_getElem? hu), .v _⟩
theorem list_of_get {cs vs : List Value} (hl : cs.length = vs.length) (h : ∀ (j : Nat) (v : Value), vs[j]? = some v → cs[j]? = some v) : cs = vs := by
  apply List.ext_getElem?
  intro j
  cases hv : vs[j]? with
  | some v => exact h j v hv
  | none =>
    rw [List.getElem?_eq_none_iff] at hv ⊢
    omega

/-- an argument that is one cell -/
theorem Dec.arg {t : TypeId} {α : Type} {sv : α → SV} {wf : α → Prop} (hd : Dec H enc P w t (fun a => [sv a]) wf) {v : Value} (hv : v.oneCell' = true) {base : Nat} {sp : Nat → Bool} {held : Bool} {d : DataW H} {p : List MemPlace} (h : DataW.Trod enc P w base sp held t v d p) :
    ∃ a, wf a ∧ R w (fun _ => False) (fun _ => nilB) (sv a) v := by
  obtain ⟨n, hn⟩ := h
  obtain ⟨a, ha, hl, hc⟩ := hd _ _ _ _ _ _ hn
  rw [cells_one hv] at hl hc
  exact ⟨a, ha, .p (hc 0 _ _ rfl rfl).2⟩
/-- .. that is a struct -/
theorem Dec.argS {t : TypeId} {α : Type} {e : α → List SV} {wf : α → Prop} (hd : Dec H enc P w t e wf) {us : Array Value} {base : Nat} {sp : Nat → Bool} {held : Bool} {d : DataW H} {p : List MemPlace} (h : DataW.Trod enc P w base sp held t (.agg us) d p) :
    ∃ a, wf a ∧ R w (fun _ => False) (fun _ => nilB) (.agg (e a)) (.agg us) := by
  obtain ⟨n, hn⟩ := h
  obtain ⟨a, ha, hl, hc⟩ := hd _ _ _ _ _ _ hn
  have e1 : us = us.toList.toArray := by simp
  refine ⟨a, ha, ?_⟩
  rw [e1]
  exact .p (.agg hl fun k c u h1 h2 => (hc k c u h1 h2).2)

theorem okWide_slice1 {base : Nat} {r : Reach} {t e : TypeId} {v : Value} (ht : P.underlying t = some (.slice e)) (h : Value.okWide P w r base t v) : v.oneCell' = true := by
  obtain ⟨a, l, c, rfl⟩ := okWide_slice ht h; rfl
theorem okWide_int1 {base : Nat} {r : Reach} {t : TypeId} {k : IntKind} {v : Value} (ht : P.underlying t = some (.int k)) (h : Value.okWide P w r base t v) : v.oneCell' = true := by
  obtain ⟨a, rfl⟩ := okWide_int ht h; rfl
theorem okWide_string1 {base : Nat} {r : Reach} {t : TypeId} {v : Value} (ht : P.underlying t = some .string) (h : Value.okWide P w r base t v) : v.oneCell' = true := by
  obtain ⟨a, rfl⟩ := okWide_string ht h; rfl
theorem okWide_bool1 {base : Nat} {r : Reach} {t : TypeId} {v : Value} (ht : P.underlying t = some .bool) (h : Value.okWide P w r base t v) : v.oneCell' = true := by
  obtain ⟨a, rfl⟩ := okWide_bool ht h; rfl

/-- what a contract gives of a call with a scalar result -/
theorem Holds.calls {f : FuncId} {args : List SV} {x : Value} (h : Holds P f args (.v x) []) (hG : Grd P w) {vs : List Value} (hl : vs.length = args.length) (ha : ∀ (i : Nat) (c : SV) (u : Value), args[i]? = some c → vs[i]? = some u → R w (fun _ => False) (fun _ => nilB) c u) :
    Calls P f vs.toArray w fun e w' => e = .returned x ∧ Below w.heap.size w w' :=
  (h w (fun _ => False) vs hG (fun _ hf => hf.elim) hl ha).mono fun e w' hp => by
    obtain ⟨v, β, rfl, hb, _, hR, _⟩ := hp
    have := hR.v_inv
    subst this
    exact ⟨rfl, hb⟩
end

section
variable {H : Type} {enc : TypeId × Value → H} {P : Program}
theorem post_of_below {f : Func} {s : ChangeSpec} {apart fresh handsOn again : Bool} {W W' : World} {args : Array Value} {v : Value} {ds gs : List (DataW H)} {before pa pv : List MemPlace}
    (hW : DataW.Whole enc P f.params.toList s.vars apart W args.toList ds gs before)
    (hres : ∀ (b : Nat) (sp : Nat → Bool) (hd : Bool), DataW.TrodAll enc P W' b sp hd f.resultTypes.toList (v.resultList f.resultTypes.size) (s.fn H (ds ++ gs)).results [])
    (hargs : ∀ sp : Nat → Bool, (∀ p ∈ before, sp p.block = true) → DataW.TrodAll enc P W' 0 sp true f.params.toList args.toList (s.fn H (ds ++ gs)).args pa)
    (hvars : ∀ sp : Nat → Bool, (∀ p ∈ before, sp p.block = true) → DataW.TrodVars enc P W' sp s.vars (s.fn H (ds ++ gs)).vars pv)
    (hps : before = pa ++ pv) (hb : Below W.heap.size W W')
    (hok : ∀ (j : Nat) (t : TypeId) (r : Value), f.resultTypes[j]? = some t → (v.resultList f.resultTypes.size)[j]? = some r → Value.okWide P W' .any 0 t r) :
    s.post enc P f apart fresh handsOn again W args v W' := by
  have hlt : ∀ p ∈ before, p.block < W.heap.size := fun p hp => hW.lt p hp
  have hold : ∀ p ∈ before, (fun b => decide (b < W.heap.size)) p.block = true := fun p hp => by simpa using hlt p hp
  refine ⟨ds, gs, before, [], pa, pv, hW, hres _ _ _, hargs _ hold, hvars _ hold, World.keptBut_mono (fun p hp => ⟨hp, ?_⟩) (hb.frame (· ∈ before)), fun _ => ?_⟩
  · rw [hps, List.mem_append] at hp
    exact Or.inr hp
  · obtain ⟨_, _, _, _, _, hz, hn⟩ := hW
    refine ⟨hok, _, _, ([] ++ pa) ++ pv, ⟨[] ++ pa, pv, trodAll_append (hargs _ (fun _ _ => rfl)) (hres _ _ _), hvars _ (fun _ _ => rfl), rfl, ?_, ?_⟩, ?_⟩
    · intro b off hp
      have hin : MemPlace.cell b off ∈ before := by rw [hps]; simpa using hp
      rw [hb.frozen (hlt _ hin)]
      exact hz b off hin
    · intro ha
      have := hn ha
      rw [hps] at this
      simpa using this
    · intro p hp _
      rw [hps]
      simpa using hp

/-- the arguments read behind the call as they did before -/
theorem below_args {W W' : World} (hl : laidOutB P = true) (hb : Below W.heap.size W W') (sp : Nat → Bool) : ∀ {ts : List TypeId} {vs : List Value} {ds : List (DataW H)} {ps : List MemPlace}, (ts.all fun t => P.readableRec t && decide (t < P.types.size)) = true →
    DataW.TrodAll enc P W 0 (fun _ => true) true ts vs ds ps → (∀ x ∈ ps, x.block < W.heap.size) → (∀ p ∈ ps, sp p.block = true) → DataW.TrodAll enc P W' 0 sp true ts vs ds ps
  | [], [], [], _, _, h, _, _ => h
  | [], [], _ :: _, _, _, h, _, _ => h.elim
  | [], _ :: _, _, _, _, h, _, _ => h.elim
  | _ :: _, [], _, _, _, h, _, _ => h.elim
  | _ :: _, _ :: _, [], _, _, h, _, _ => h.elim
  | t :: ts, v :: vs, d :: ds, ps, hr, h, hlt, hsp => by
    obtain ⟨p, q, h1, h2, rfl⟩ := h
    simp only [List.all_cons, Bool.and_eq_true, decide_eq_true_eq] at hr
    refine ⟨p, q, ?_, below_args hl hb sp hr.2 h2 (fun x hx => hlt x (by simp [hx])) (fun x hx => hsp x (by simp [hx])), rfl⟩
    exact WideElems.Trod_stays hl hr.1.1 hr.1.2 h1 (fun x hx => hb.same (hlt x (by simp [hx]))) (fun x hx => hsp x (by simp [hx]))

/-- **From a call that answers a bool and leaves what was there as it was, to what the row says.** -/
theorem law_post {tb : TypeId} {f : Func} {s : ChangeSpec} {apart fresh handsOn again : Bool} {W W' : World} {args : Array Value} {b : Bool} {ds gs : List (DataW H)} {before : List MemPlace} (hl : laidOutB P = true)
    (hW : DataW.Whole enc P f.params.toList s.vars apart W args.toList ds gs before) (hvs : s.vars = []) (hrt : f.resultTypes = #[tb]) (htb : P.underlying tb = some .bool) (hread : (f.params.toList.all fun t => P.readableRec t && decide (t < P.types.size)) = true)
    (hres : (s.fn H (ds ++ gs)).results = [.lit (.bool b)]) (hargs : (s.fn H (ds ++ gs)).args = ds) (hvars : (s.fn H (ds ++ gs)).vars = []) (hb : Below W.heap.size W W') :
    s.post enc P f apart fresh handsOn again W args (.bool b) W' := by
  have hW' := hW
  obtain ⟨p, q, hA, hV, rfl, hfz, hnd⟩ := hW
  rw [hvs] at hV
  obtain ⟨rfl, rfl⟩ := trodVars_none hV
  have hlt : ∀ x ∈ p, x.block < W.heap.size := fun x hx => hW'.lt x (by simp [hx])
  refine post_of_below (pa := p) (pv := []) hW' (fun bb sp hd => ?_) (fun sp hsp => ?_) (fun sp hsp => ?_) rfl hb (fun j t r h1 h2 => ?_)
  · rw [hres, hrt]
    exact trodAll_cons_mk (shut_bool htb _) trodAll_mk0
  · rw [hargs]
    exact below_args hl hb sp hread hA hlt (fun x hx => hsp x (by simp [hx]))
  · rw [hvars, hvs]; rfl
  · exact ok_one hrt rfl (okWide_bool_mk htb _) j t r h1 h2
end
end Go.Vc

namespace Go.Proofs.YtdhkhapbldkkdaaDoor
open Go.Vc
attribute [local go_sem] St.runR St.runW St.stepV offV St.step St.stepU St.stepG mkCond guardB St.prK St.pr St.prLen St.eff St.callE St.callD St.callF St.callL aI aB aS aR aC St.isM St.argL Ctr.pure Ctr.lend Ctr.move Ctr.isL Ctr.wri pur len lentBy St.lentV St.lent1 nthS argsR restOf obsR pairs swapL unObs backL St.resL erL SV.ren1 SV.up SV.up2 Ob.up St.fzL cellIds partIds St.intoRow SV.ownId St.fz SV.fz1 St.prep St.mvL St.mv SV.re1 rnOk St.prEq vals eqCells scEq Value.kd St.prStr St.prCut cutR St.bnd St.prMin St.bld isShift outL retL outJ oR oC oE oD SV.upq SV.isSl SV.shut St.deepK St.dpArg St.deepQ absC Ob.pl St.ev St.get St.put St.new St.kill SV.kill SV.kill1 Ob.kill St.app St.wrt St.rowsOf St.res St.killL lk er argsL SV.strip SV.need SV.share SV.share1 SV.owns SV.owns1 SV.owns2 SV.good SV.good1 SV.rok SV.rok1 SV.rok2 SV.isV SV.isV2 nodupN SV.cells SV.one SV.pur Ob.pb partsIn rowsIn splice cellsAt dstOk scal2 scal1 thenK blockK retK outK outs okC okL okA okT nilC nilL nilA nilT keepC keepL keepA keepT St.runG St.dltK St.least St.clean St.final St.hide offK badS badO SV.refs SV.leaf SV.leaf2 Ob.refs dlOk fpAt Go.Vc.cover tups SV.ofAgg St.out outC subL St.has rng wr Value.oneCell' Option.isSome_some Option.isSome_none List.nil_append Bool.false_eq_true List.map_cons List.map_nil List.all_cons List.all_nil List.length_cons List.length_nil List.drop_zero List.drop_succ_cons List.take_succ_cons List.take_zero List.drop_nil List.take_nil List.getElem?_cons_zero List.getElem?_cons_succ List.getElem?_nil List.cons_append List.nil_append List.append_nil List.append_assoc List.flatMap_cons List.flatMap_nil List.contains_cons List.contains_nil List.set_cons_zero List.set_cons_succ List.getElem?_toArray Option.getD_some Option.getD_none Option.map_some Option.map_none Option.bind_some Option.some.injEq Prod.mk.injEq if_true if_false true_and and_true and_self and_false false_and Bool.and_false Bool.false_and Bool.or_true Bool.true_or Bool.or_false Bool.false_or ne_eq not_true_eq_false not_false_eq_true decide_true decide_false List.mem_cons List.not_mem_nil List.filter_cons List.filter_nil List.any_cons List.any_nil List.isEmpty_nil List.isEmpty_cons Option.getD_none or_false false_or true_or or_true forall_eq_or_imp forall_eq reduceCtorEq exists_eq exists_eq' exists_eq_left' exists_eq_left exists_eq_right exists_eq_right' imp_self implies_true Bool.and_true Bool.true_and Bool.and_self beq_self_eq_true List.replicate_succ List.replicate_zero forall_const false_implies pickB_or pickB_and beqT beqF Int.toNat_natCast List.length_map List.length_replicate ge_iff_le gt_iff_lt decide_eq_true_eq decide_eq_false_iff_not Bool.and_eq_true Bool.or_eq_true Bool.not_eq_true' Bool.not_eq_false' condG List.toList_toArray Bool.or_eq_false_iff Bool.and_eq_false_iff Int.not_lt Int.not_le beq_iff_eq beq_eq_false_iff_ne bne_iff_ne bne_eq_false_iff_eq ne_eq Bool.not_true Bool.not_false exists_and_left
section
open Go.Vc
set_option linter.unusedSimpArgs false
set_option linter.unusedVariables false
set_option maxHeartbeats 1000000
attribute [local irreducible] Go.Vc.WP
attribute [local go_sem] cx0_t cx0_c

structure Frame where
  name : ByteArray
  line : Int
deriving DecidableEq
def encFrame (x : Frame) : List SV := [.v (.string x.name), .v (.int .i64 x.line)]
def oneFrame : List SV → Frame
  | [.v (.string name), .v (.int _ line)] => ⟨name, line⟩
  | _ => ⟨⟨#[]⟩, 0⟩
def decFrame (rows : List (List SV)) : List Frame := rows.map oneFrame
theorem oneFrame_enc (x : Frame) : oneFrame (encFrame x) = x := rfl
theorem decFrame_enc (L : List Frame) : decFrame (L.map encFrame) = L := by
  unfold decFrame
  rw [List.map_map]
  exact List.map_id'' oneFrame_enc L
theorem isV_Frame {e s : Nat} (L : List Frame) : (Ob.sl e s (L.map encFrame)).isV ↔ True := iff_true_intro (by
  intro row hr c hc
  obtain ⟨n, _, rfl⟩ := List.mem_map.1 hr
  simp only [encFrame, List.mem_cons, List.not_mem_nil, or_false] at hc
  rcases hc with rfl | rfl <;> exact ⟨_, rfl⟩)
def zerFrame : List SV := [.v (.string ⟨#[]⟩), .v (.int .i64 0)]

def ktoFrame : Ctr := pur (fun args => oneFrame (aC args 0)) (fun x => [.agg (encFrame x)]) (fun _ => True) (fun _ x => .agg (encFrame x)) (fun _ _ => [])
def keqFrame : Ctr := pur (fun args => (oneFrame (aC args 0), oneFrame (aC args 1))) (fun x => [.agg (encFrame x.1), .agg (encFrame x.2)]) (fun _ => True) (fun _ x => .v (.bool (decide (x.1 = x.2)))) (fun _ _ => [])
def kszFrame : Ctr := pur (fun args => (oneFrame (aC args 0), aI args 1)) (fun x => [.agg (encFrame x.1), .v (.int .i64 x.2)]) (fun x => x.1.name.size ≤ maxLen ∧ 0 ≤ x.2 ∧ x.2 ≤ 1048576)
  (fun _ x => .v (.int .i64 (if x.2 - x.1.name.size < 0 then -1 else x.2 - x.1.name.size))) (fun _ _ => [])
section
open Go.RowKit Go.WideShapes Go.ChangeShapes Go.Deep
end
end
section
open Go.Vc
set_option linter.unusedSimpArgs false
set_option linter.unusedVariables false
set_option maxHeartbeats 1000000
attribute [local irreducible] Go.Vc.WP
attribute [local go_sem] cx0_t cx0_c

structure Node where
  parent : Int
  name : ByteArray
  line : Int
deriving DecidableEq
def encNode (x : Node) : List SV := [.v (.int .i64 x.parent), .v (.string x.name), .v (.int .i64 x.line)]
def oneNode : List SV → Node
  | [.v (.int _ parent), .v (.string name), .v (.int _ line)] => ⟨parent, name, line⟩
  | _ => ⟨0, ⟨#[]⟩, 0⟩
def decNode (rows : List (List SV)) : List Node := rows.map oneNode
theorem oneNode_enc (x : Node) : oneNode (encNode x) = x := rfl
theorem decNode_enc (L : List Node) : decNode (L.map encNode) = L := by
  unfold decNode
  rw [List.map_map]
  exact List.map_id'' oneNode_enc L
theorem isV_Node {e s : Nat} (L : List Node) : (Ob.sl e s (L.map encNode)).isV ↔ True := iff_true_intro (by
  intro row hr c hc
  obtain ⟨n, _, rfl⟩ := List.mem_map.1 hr
  simp only [encNode, List.mem_cons, List.not_mem_nil, or_false] at hc
  rcases hc with rfl | rfl | rfl <;> exact ⟨_, rfl⟩)
def zerNode : List SV := [.v (.int .i64 0), .v (.string ⟨#[]⟩), .v (.int .i64 0)]

noncomputable def cxinNode : Cx := { P := Tryd.prog, tys := tys, C := [], hty := tysOk, hC := COk.nil _ }
theorem cxinNode_t : cxinNode.tys = tys := rfl
theorem cxinNode_c : cxinNode.C = [] := rfl
attribute [local go_sem] cxinNode_t cxinNode_c 
attribute [local go_sem] oneFrame encFrame

def ktoNode : Ctr := pur (fun args => oneNode (aC args 0)) (fun x => [.agg (encNode x)]) (fun _ => True) (fun _ x => .agg (encNode x)) (fun _ _ => [])
section
attribute [local go_sem] ktoNode oneNode
end

def keqNode : Ctr := pur (fun args => (oneNode (aC args 0), oneNode (aC args 1))) (fun x => [.agg (encNode x.1), .agg (encNode x.2)]) (fun _ => True) (fun _ x => .v (.bool (decide (x.1 = x.2)))) (fun _ _ => [])
def keqNodeS : Ctr := pur (fun args => (decNode (aR args 0), decNode (aR args 1))) (fun x => [.sl 3 (x.1.map encNode), .sl 3 (x.2.map encNode)]) (fun x => x.1.length ≤ 4398046511104) (fun _ x => .v (.bool (decide (x.1 = x.2)))) (fun _ _ => [])
section
attribute [local go_sem] keqNode oneNode
end

def kszNode : Ctr := pur (fun args => (oneNode (aC args 0), aI args 1)) (fun x => [.agg (encNode x.1), .v (.int .i64 x.2)]) (fun x => x.1.name.size ≤ maxLen ∧ 0 ≤ x.2 ∧ x.2 ≤ 1048576)
  (fun _ x => .v (.int .i64 (if x.2 - x.1.name.size < 0 then -1 else x.2 - x.1.name.size))) (fun _ _ => [])
def sizesNode (L : List Node) : List Nat := L.map fun x => x.name.size
def szvNode (L : List Node) (left : Int) : Int := if left - L.length < 0 then -1 else szGo (sizesNode L) (left - L.length)
def kszNodeS : Ctr := pur (fun args => (decNode (aR args 0), aI args 1)) (fun x => [.sl 3 (x.1.map encNode), .v (.int .i64 x.2)]) (fun x => x.1.length ≤ maxLen ∧ (∀ r ∈ x.1, r.name.size ≤ maxLen) ∧ 0 ≤ x.2 ∧ x.2 ≤ 1048576)
  (fun _ x => .v (.int .i64 (szvNode x.1 x.2))) (fun _ _ => [])
section
attribute [local go_sem] kszNode oneNode
end
theorem szvNode_ok {L : List Node} (h : ¬ szvNode L 1048576 < 0) : L.length ≤ 1048576 ∧ ∀ x ∈ L, x.name.size ≤ 1048576 := by
  unfold szvNode at h
  split at h
  · omega
  · rename_i h2
    refine ⟨by omega, fun x hx => ?_⟩
    have := szGo_ok (sizesNode L) _ (by omega) (Int.not_lt.1 h) x.name.size (List.mem_map.2 ⟨x, hx, rfl⟩)
    omega

theorem extNode {a b : Node} (h0 : a.parent = b.parent) (h1 : a.name = b.name) (h2 : a.line = b.line) : a = b := by cases a; cases b; simp_all
def mrkNode (v : Int) : Node := ⟨v, markT (v + 1), v + 1 + 1⟩
def marksNode (k : Int) (n : Nat) : List Node := (List.range n).map fun i : Nat => mrkNode (k + 3 * (i : Int))
theorem marksNode_len (k : Int) (n : Nat) : (marksNode k n).length = n := by simp [marksNode]
def halfNode (L : List Node) (k0 : Int) (k : Nat) : List Node := marksNode k0 k ++ L.drop k
theorem halfNode_len (L : List Node) (k0 : Int) (k : Nat) (h : k ≤ L.length) : (halfNode L k0 k).length = L.length := by simp [halfNode, marksNode_len]; omega
theorem halfNode_set (L : List Node) (k0 : Int) (k : Nat) (h : k < L.length) : ((halfNode L k0 k).map encNode).set k (encNode (mrkNode (k0 + 3 * (k : Int)))) = (halfNode L k0 (k + 1)).map encNode := by
  rw [← List.map_set]
  congr 1
  unfold halfNode
  rw [List.set_append, if_neg (by simp [marksNode_len]), marksNode_len, Nat.sub_self, List.drop_eq_getElem_cons h, List.set_cons_zero]
  simp [marksNode, List.range_succ]
noncomputable def cxMkNode : Cx := { P := Tryd.prog, tys := tys, C := [(19, kmarkT)], hty := tysOk, hC := COk.cons cmarkT (COk.nil _) }
theorem cxMkNode_t : cxMkNode.tys = tys := rfl
theorem cxMkNode_c : cxMkNode.C = [(19, kmarkT)] := rfl
attribute [local go_sem] cxMkNode_t cxMkNode_c kmarkT

def kheldNodeS : Ctr := pur (fun args => (decNode (aR args 0), aI args 1)) (fun x => [.sl 3 (x.1.map encNode), .v (.int .i64 x.2)]) (fun x => x.1.length ≤ 4398046511104 ∧ 0 ≤ x.2 ∧ x.2 ≤ 500000000000000)
  (fun _ x => .v (.int .i64 (if x.1 = marksNode x.2 x.1.length then x.2 + 3 * x.1.length else -1))) (fun _ _ => [])
end
end Go.Proofs.YtdhkhapbldkkdaaDoor
/-
  DERIVED. Plain lists: the order of byte strings; lists that are sorted by a key; insertion.
-/
namespace Go.Pl
set_option linter.unusedVariables false
open Go

theorem bl_irrefl : ∀ l : List UInt8, Op.bytesLess l l = false
  | [] => rfl
  | a :: l => by simp [Op.bytesLess, bl_irrefl l]
theorem bl_tri : ∀ {x y : List UInt8}, Op.bytesLess x y = false → Op.bytesLess y x = false → x = y
  | [], [], _, _ => rfl
  | [], _ :: _, h, _ => by simp [Op.bytesLess] at h
  | _ :: _, [], _, h => by simp [Op.bytesLess] at h
  | a :: x, b :: y, h1, h2 => by
    simp only [Op.bytesLess, Bool.or_eq_false_iff, decide_eq_false_iff_not, Bool.and_eq_false_iff, beq_eq_false_iff_ne] at h1 h2
    have hab : a = b := UInt8.le_antisymm (UInt8.not_lt.1 h2.1) (UInt8.not_lt.1 h1.1)
    subst hab
    have e1 : Op.bytesLess x y = false := h1.2.resolve_left fun h => h rfl
    have e2 : Op.bytesLess y x = false := h2.2.resolve_left fun h => h rfl
    rw [bl_tri e1 e2]
theorem bl_trans : ∀ {x y z : List UInt8}, Op.bytesLess x y = true → Op.bytesLess y z = true → Op.bytesLess x z = true
  | _, [], _, h, _ => by simp [Op.bytesLess] at h
  | _, _ :: _, [], _, h => by simp [Op.bytesLess] at h
  | [], _ :: _, _ :: _, _, _ => rfl
  | a :: x, b :: y, c :: z, h1, h2 => by
    simp only [Op.bytesLess, Bool.or_eq_true, decide_eq_true_eq, Bool.and_eq_true, beq_iff_eq] at h1 h2 ⊢
    rcases h1 with h1 | ⟨rfl, h1⟩
    · rcases h2 with h2 | ⟨rfl, h2⟩
      · exact .inl (UInt8.lt_trans h1 h2)
      · exact .inl h1
    · rcases h2 with h2 | ⟨rfl, h2⟩
      · exact .inl h2
      · exact .inr ⟨rfl, bl_trans h1 h2⟩

def ltS (a b : ByteArray) : Bool := Op.bytesLess a.toList b.toList
theorem ltS_def (a b : ByteArray) : Op.bytesLess a.toList b.toList = ltS a b := rfl
theorem ba_toList_inj {a b : ByteArray} (h : a.toList = b.toList) : a = b := by
  rw [ByteArray.toList_eq, ByteArray.toList_eq] at h
  exact ByteArray.ext (Array.toList_inj.1 h)
theorem ltS_irrefl (a : ByteArray) : ltS a a = false := bl_irrefl _
theorem ltS_trans {a b c : ByteArray} (h1 : ltS a b = true) (h2 : ltS b c = true) : ltS a c = true := bl_trans h1 h2
theorem ltS_tri {a b : ByteArray} (h1 : ltS a b = false) (h2 : ltS b a = false) : a = b := ba_toList_inj (bl_tri h1 h2)
theorem ltS_asymm {a b : ByteArray} (h : ltS a b = true) : ltS b a = false := by
  cases h2 : ltS b a with
  | false => rfl
  | true => have := ltS_trans h h2; rw [ltS_irrefl] at this; cases this
theorem ltS_ne {a b : ByteArray} (h : ltS a b = true) : a ≠ b := fun e => by subst e; rw [ltS_irrefl] at h; cases h
/-- not less and not the same: greater -/
theorem ltS_gt {a b : ByteArray} (h1 : ltS a b = false) (h2 : a ≠ b) : ltS b a = true := by
  cases h : ltS b a with
  | true => rfl
  | false => exact absurd (ltS_tri h1 h) h2
theorem ltS_ntrans {a b c : ByteArray} (h1 : ltS a b = false) (h2 : ltS b c = false) : ltS a c = false := by
  cases h : ltS a c with
  | false => rfl
  | true =>
    by_cases hab : a = b
    · subst hab; rw [h2] at h; cases h
    · have := ltS_trans (ltS_gt h1 hab) h; rw [h2] at this; cases this

/-! ## sorted lists -/
section
variable {α : Type} (lt : α → α → Bool)

/-- strictly ascending -/
def Asc (L : List α) : Prop := L.Pairwise fun a b => lt a b = true
structure Strict : Prop where
  irrefl : ∀ a, lt a a = false
  trans : ∀ a b c, lt a b = true → lt b c = true → lt a c = true
variable {lt}
theorem Strict.asymm (h : Strict lt) {a b : α} (hab : lt a b = true) : lt b a = false := by
  cases h2 : lt b a with
  | false => rfl
  | true => have := h.trans _ _ _ hab h2; rw [h.irrefl] at this; cases this

/-- one ascending list of the same elements -/
theorem Asc.unique (h : Strict lt) : ∀ {L M : List α}, Asc lt L → Asc lt M → L.Perm M → L = M
  | [], M, _, _, hp => (List.Perm.nil_eq hp)
  | a :: L, [], _, _, hp => (by have := hp.length_eq; simp at this)
  | a :: L, b :: M, hL, hM, hp => by
    have hL' := List.pairwise_cons.1 hL
    have hM' := List.pairwise_cons.1 hM
    have hab : a = b := by
      have h1 : a ∈ b :: M := hp.subset List.mem_cons_self
      have h2 : b ∈ a :: L := hp.symm.subset List.mem_cons_self
      rcases List.mem_cons.1 h1 with e | e
      · exact e
      · rcases List.mem_cons.1 h2 with e2 | e2
        · exact e2.symm
        · have := h.asymm (hM'.1 a e); rw [hL'.1 b e2] at this; cases this
    subst hab
    rw [Asc.unique h hL'.2 hM'.2 (List.Perm.cons_inv hp)]

/-- x behind all that are less -/
def ins (lt : α → α → Bool) (x : α) (L : List α) : List α := L.takeWhile (fun y => lt y x) ++ x :: L.dropWhile (fun y => lt y x)
theorem ins_perm (x : α) (L : List α) : (ins lt x L).Perm (x :: L) := by
  unfold ins
  refine List.perm_middle.trans ?_
  rw [List.takeWhile_append_dropWhile]
theorem ins_mem {x y : α} {L : List α} : y ∈ ins lt x L ↔ y = x ∨ y ∈ L := by
  rw [(ins_perm (lt := lt) x L).mem_iff]; simp
theorem ins_len (x : α) (L : List α) : (ins lt x L).length = L.length + 1 := by
  rw [(ins_perm (lt := lt) x L).length_eq]; rfl
theorem mem_takeWhile' {p : α → Bool} : ∀ {L : List α} {a : α}, a ∈ L.takeWhile p → p a = true ∧ a ∈ L
  | b :: L, a, h => by
    rw [List.takeWhile_cons] at h
    split at h
    · rename_i hb
      rcases List.mem_cons.1 h with rfl | h
      · exact ⟨hb, List.mem_cons_self⟩
      · exact ⟨(mem_takeWhile' h).1, List.mem_cons_of_mem _ (mem_takeWhile' h).2⟩
    · cases h
  | [], a, h => by cases h
theorem asc_drop (h : Strict lt) {x : α} : ∀ {L : List α}, Asc lt L → (∀ y ∈ L, lt y x = true ∨ lt x y = true) → ∀ y ∈ L.dropWhile (fun y => lt y x), lt x y = true
  | [], _, _, y, hy => by cases hy
  | a :: L, hL, hx, y, hy => by
    have hL' := List.pairwise_cons.1 hL
    rw [List.dropWhile_cons] at hy
    split at hy
    · exact asc_drop h hL'.2 (fun y hy => hx y (List.mem_cons_of_mem _ hy)) y hy
    · rename_i ha
      have hxa : lt x a = true := (hx a List.mem_cons_self).resolve_left ha
      rcases List.mem_cons.1 hy with rfl | hy
      · exact hxa
      · exact h.trans _ _ _ hxa (hL'.1 y hy)
theorem ins_asc (h : Strict lt) {x : α} {L : List α} (hL : Asc lt L) (hx : ∀ y ∈ L, lt y x = true ∨ lt x y = true) : Asc lt (ins lt x L) := by
  have hd := asc_drop h hL hx
  unfold ins Asc
  have hs : (L.takeWhile (fun y => lt y x) ++ L.dropWhile (fun y => lt y x)).Pairwise fun a b => lt a b = true := by rw [List.takeWhile_append_dropWhile]; exact hL
  rw [List.pairwise_append] at hs ⊢
  refine ⟨hs.1, List.pairwise_cons.2 ⟨hd, hs.2.1⟩, fun a ha b hb => ?_⟩
  rcases List.mem_cons.1 hb with rfl | hb
  · exact (mem_takeWhile' ha).1
  · exact hs.2.2 a ha b hb

/-- the elements put in one after the other -/
def insAll (lt : α → α → Bool) (L : List α) : List α := L.foldl (fun acc x => ins lt x acc) []
theorem insAll_snoc (L : List α) (x : α) : insAll lt (L ++ [x]) = ins lt x (insAll lt L) := by simp [insAll]
theorem foldl_ins_perm : ∀ (L acc : List α), (L.foldl (fun acc x => ins lt x acc) acc).Perm (L ++ acc)
  | [], acc => List.Perm.refl _
  | x :: L, acc => by
    refine (foldl_ins_perm L _).trans ?_
    refine ((ins_perm (lt := lt) x acc).append_left L).trans ?_
    exact List.perm_middle
theorem insAll_perm (L : List α) : (insAll lt L).Perm L := by have := foldl_ins_perm (lt := lt) L []; rwa [List.append_nil] at this
theorem insAll_len (L : List α) : (insAll lt L).length = L.length := (insAll_perm L).length_eq
theorem insAll_mem {L : List α} {y : α} : y ∈ insAll lt L ↔ y ∈ L := (insAll_perm L).mem_iff
theorem insAll_asc_aux (h : Strict lt) : ∀ (L acc : List α), Asc lt acc → (L ++ acc).Pairwise (fun a b => lt a b = true ∨ lt b a = true) → Asc lt (L.foldl (fun acc x => ins lt x acc) acc)
  | [], acc, ha, _ => ha
  | x :: L, acc, ha, hp => by
    have hp' := List.pairwise_cons.1 hp
    refine insAll_asc_aux h L _ (ins_asc h ha fun y hy => (hp'.1 y (List.mem_append_right _ hy)).symm) ?_
    have hp2 := List.pairwise_append.1 hp'.2
    refine List.pairwise_append.2 ⟨hp2.1, ?_, fun a hA b hb => ?_⟩
    · have : (x :: acc).Pairwise (fun a b => lt a b = true ∨ lt b a = true) := List.pairwise_cons.2 ⟨fun y hy => hp'.1 y (List.mem_append_right _ hy), hp2.2.1⟩
      exact ((ins_perm (lt := lt) x acc).pairwise_iff (fun h => h.symm)).2 this
    · rcases ins_mem.1 hb with rfl | hb
      · exact (hp'.1 a (List.mem_append_left _ hA)).symm
      · exact hp2.2.2 a hA b hb
theorem insAll_asc (h : Strict lt) {L : List α} (hp : L.Pairwise fun a b => lt a b = true ∨ lt b a = true) : Asc lt (insAll lt L) :=
  insAll_asc_aux h L [] List.Pairwise.nil (by rwa [List.append_nil])
/-- whatever is sorted of the same elements is this -/
theorem insAll_unique (h : Strict lt) {L M : List α} (hp : L.Pairwise fun a b => lt a b = true ∨ lt b a = true) (hM : M.Perm L) (hs : M.Pairwise fun a b => lt b a = false) : M = insAll lt L := by
  have hMp : M.Pairwise fun a b => lt a b = true ∨ lt b a = true := (hM.pairwise_iff (fun h => h.symm)).2 hp
  have hMA : Asc lt M := by
    unfold Asc
    refine (hs.and hMp).imp ?_
    rintro a b ⟨h1, h2⟩
    exact h2.resolve_right (by rw [h1]; simp)
  exact Asc.unique h hMA (insAll_asc h hp) (hM.trans (insAll_perm L).symm)
end
end Go.Pl

/-
  DERIVED. Plain lists: frames and their text.
-/
namespace Go.Proofs.YtdhkhapbldkkdaaDoor
set_option linter.unusedVariables false

/-! ## texts joined and cut at a sign -/
def joinL (c : UInt8) : List (List UInt8) → List UInt8
  | [] => []
  | [x] => x
  | x :: y :: l => x ++ c :: joinL c (y :: l)
def cutL (c : UInt8) : List UInt8 → List (List UInt8)
  | [] => [[]]
  | b :: l => if b = c then [] :: cutL c l else match cutL c l with
    | [] => [[b]]
    | x :: xs => (b :: x) :: xs
theorem cutL_ne (c : UInt8) : ∀ l, cutL c l ≠ []
  | [] => by simp [cutL]
  | b :: l => by
    unfold cutL
    split
    · simp
    · split <;> simp
theorem cutL_plain (c : UInt8) : ∀ {l : List UInt8}, c ∉ l → cutL c l = [l]
  | [], _ => rfl
  | b :: l, h => by
    simp only [List.mem_cons, not_or] at h
    unfold cutL
    rw [if_neg (fun e => h.1 e.symm), cutL_plain c h.2]
theorem cutL_app (c : UInt8) : ∀ {x : List UInt8} (l : List UInt8), c ∉ x → cutL c (x ++ c :: l) = x :: cutL c l
  | [], l, _ => by rw [List.nil_append, cutL, if_pos rfl]
  | b :: x, l, h => by
    simp only [List.mem_cons, not_or] at h
    rw [List.cons_append, cutL, if_neg (fun e => h.1 e.symm), cutL_app c l h.2]
theorem cutL_join (c : UInt8) : ∀ {L : List (List UInt8)}, L ≠ [] → (∀ x ∈ L, c ∉ x) → cutL c (joinL c L) = L
  | [x], _, h => by rw [joinL]; exact cutL_plain c (h x (by simp))
  | x :: y :: l, _, h => by
    rw [joinL, cutL_app c _ (h x (by simp)), cutL_join c (by simp) (fun z hz => h z (List.mem_cons_of_mem _ hz))]
theorem joinL_snoc (c : UInt8) : ∀ (L : List (List UInt8)) (x : List UInt8), joinL c (L ++ [x]) = if L = [] then x else joinL c L ++ c :: x
  | [], x => rfl
  | [y], x => by simp [joinL]
  | y :: z :: l, x => by
    have ih := joinL_snoc c (z :: l) x
    rw [if_neg (by simp)] at ih ⊢
    show joinL c (y :: z :: (l ++ [x])) = _
    rw [joinL, show z :: (l ++ [x]) = (z :: l) ++ [x] from rfl, ih, joinL]
    simp

/-! ## frames -/
def frOk (f : Frame) : Bool := nameOk f.name && decide (0 ≤ f.line) && decide (f.line ≤ 59)
theorem frOk_iff {f : Frame} : frOk f = true ↔ nameOk f.name = true ∧ 0 ≤ f.line ∧ f.line ≤ 59 := by simp [frOk, and_assoc]
def frTxt (f : Frame) : List UInt8 := f.name.data.toList ++ 58 :: fmtL f.line.toNat
def fmtF (L : List Frame) : ByteArray := if L.all frOk = true then bts (joinL 59 (L.map frTxt)) else ⟨#[]⟩
def partF (p : List UInt8) : Option Frame := match cutL 58 p with
  | [n, d] => Option.map (fun (v : Nat) => (⟨bts n, (v : Int)⟩ : Frame)) (parseU (bts d))
  | _ => none
def parseF (s : ByteArray) : Option (List Frame) := match (cutL 59 s.data.toList).mapM partF with
  | some L => if s.size ≠ 0 ∧ fmtF L = s then some L else none
  | none => none

theorem nameOk_letters {s : ByteArray} (h : nameOk s = true) : (∀ c ∈ s.data.toList, 97 ≤ c.toNat ∧ c.toNat ≤ 122) ∧ 1 ≤ s.size ∧ s.size ≤ 8 := by
  simp only [nameOk, Bool.and_eq_true, decide_eq_true_eq, List.all_eq_true] at h
  exact ⟨fun c hc => by have := h.1.1 c hc; simpa [letter] using this, h.1.2, h.2⟩
theorem decB_dig : ∀ (n k : Nat), k ≤ n → ∀ c ∈ decB k, 48 ≤ c.toNat ∧ c.toNat ≤ 57
  | 0, k, hk, c, hc => by
    have : k = 0 := by omega
    subst this; simp [decB] at hc
  | n + 1, k, hk, c, hc => by
    rcases Nat.eq_zero_or_pos k with h0 | h0
    · subst h0; simp [decB] at hc
    · rw [decB_pos k h0, List.mem_append] at hc
      rcases hc with hc | hc
      · exact decB_dig n (k / 10) (by omega) c hc
      · simp only [List.mem_cons, List.not_mem_nil, or_false] at hc
        subst hc
        have : (UInt8.ofNat (48 + k % 10)).toNat = 48 + k % 10 := by simp [UInt8.toNat_ofNat']; omega
        omega
theorem fmtL_dig (k : Nat) : ∀ c ∈ fmtL k, 48 ≤ c.toNat ∧ c.toNat ≤ 57 := by
  intro c hc
  unfold fmtL at hc
  split at hc
  · simp only [List.mem_cons, List.not_mem_nil, or_false] at hc; subst hc; decide
  · exact decB_dig k k (Nat.le_refl _) c hc
theorem fmtL_ne (k : Nat) : fmtL k ≠ [] := by
  unfold fmtL
  split
  · simp
  · rename_i h; rw [decB_pos k (by omega)]; simp
theorem decB_valL_id : ∀ (n k : Nat), k ≤ n → valL (decB k) = k
  | 0, k, hk => by
    have : k = 0 := by omega
    subst this; simp [decB, valL]
  | n + 1, k, hk => by
    rcases Nat.eq_zero_or_pos k with h0 | h0
    · subst h0; simp [decB, valL]
    · rw [decB_pos k h0, valL_snoc, decB_valL_id n (k / 10) (by omega)]
      have : (UInt8.ofNat (48 + k % 10)).toNat = 48 + k % 10 := by simp [UInt8.toNat_ofNat']; omega
      omega
theorem valL_fmtL (k : Nat) : valL (fmtL k) = k := by
  unfold fmtL
  split
  · rename_i h; subst h; simp [valL]
  · exact decB_valL_id k k (Nat.le_refl _)
theorem fmtL_len (n k : Nat) (h : k < 10 ^ n) (hn : 0 < n) : (fmtL k).length ≤ n := by
  unfold fmtL
  split
  · simp only [List.length_cons, List.length_nil]; omega
  · exact decB_len n k h
/-- a number's text is read as that number -/
theorem parseU_fmtL (k : Nat) (h : k ≤ 1000000000) : parseU (bts (fmtL k)) = some k := by
  have hd : (fmtL k).all dig = true := by
    rw [List.all_eq_true]
    intro c hc
    exact dig_iff.2 (fmtL_dig k c hc)
  have hl : (bts (fmtL k)).data.toList = fmtL k := by simp [bts]
  have hv : valN (bts (fmtL k)) (bts (fmtL k)).size = k := by rw [valN_all, hl, valL_fmtL]
  have hsz := bts_size (fmtL k)
  have hlen := fmtL_len 10 k (by omega) (by omega)
  have hne := fmtL_ne k
  have h1 := fmtL_valL (fmtL k) hd
  rw [valL_fmtL] at h1
  have h2 := h1.1 rfl
  unfold parseU
  rw [if_pos, hv]
  refine ⟨fun e => hne (List.eq_nil_of_length_eq_zero (by omega)), by omega, fun ⟨a, b⟩ => h2.2 ⟨by omega, ?_⟩, by rw [hl]; exact hd, by rw [hv]; exact h⟩
  have := head_get (bts (fmtL k)) (by omega)
  rw [hl, b] at this
  exact this
theorem frTxt_no59 {f : Frame} (h : frOk f = true) : (59 : UInt8) ∉ frTxt f := by
  intro hc
  obtain ⟨h1, _⟩ := frOk_iff.1 h
  unfold frTxt at hc
  rcases List.mem_append.1 hc with hc | hc
  · have := (nameOk_letters h1).1 _ hc
    have e : (59 : UInt8).toNat = 59 := rfl
    omega
  · rcases List.mem_cons.1 hc with hc | hc
    · exact absurd hc (by decide)
    · have := fmtL_dig _ _ hc
      have e : (59 : UInt8).toNat = 59 := rfl
      omega
theorem partF_txt {f : Frame} (h : frOk f = true) : partF (frTxt f) = some f := by
  obtain ⟨h1, h2, h3⟩ := frOk_iff.1 h
  have hn : (58 : UInt8) ∉ f.name.data.toList := fun hc => by
    have := (nameOk_letters h1).1 _ hc
    have e : (58 : UInt8).toNat = 58 := rfl
    omega
  have hd : (58 : UInt8) ∉ fmtL f.line.toNat := fun hc => by
    have := fmtL_dig _ _ hc
    have e : (58 : UInt8).toNat = 58 := rfl
    omega
  unfold partF frTxt
  rw [cutL_app 58 _ hn, cutL_plain 58 hd]
  simp only
  rw [parseU_fmtL _ (by omega), bts_list]
  obtain ⟨name, line⟩ := f
  simp only at h2 ⊢
  rw [Option.map_some]
  congr 2
  omega
theorem mapM_partF : ∀ {L : List Frame}, L.all frOk = true → (L.map frTxt).mapM partF = some L
  | [], _ => rfl
  | f :: L, h => by
    simp only [List.all_cons, Bool.and_eq_true] at h
    simp [partF_txt h.1, mapM_partF h.2]
theorem frTxt_len {f : Frame} (h : frOk f = true) : 3 ≤ (frTxt f).length ∧ (frTxt f).length ≤ 11 := by
  obtain ⟨h1, h2, h3⟩ := frOk_iff.1 h
  have hn := nameOk_letters h1
  have hl := fmtL_len 2 f.line.toNat (by omega) (by omega)
  have hp := List.length_pos_iff.2 (fmtL_ne f.line.toNat)
  unfold frTxt
  have : f.name.data.toList.length = f.name.size := by simp
  simp only [List.length_append, List.length_cons]
  omega
theorem joinL_len : ∀ (L : List (List UInt8)) (n : Nat), (∀ x ∈ L, x.length ≤ n) → (joinL 59 L).length ≤ (n + 1) * L.length
  | [], n, _ => by simp [joinL]
  | [x], n, h => by have := h x (by simp); simp only [joinL, List.length_cons, List.length_nil]; omega
  | x :: y :: l, n, h => by
    have ih := joinL_len (y :: l) n fun z hz => h z (List.mem_cons_of_mem _ hz)
    have := h x (by simp)
    simp only [joinL, List.length_append, List.length_cons] at ih ⊢
    have e : (n + 1) * (l.length + 1 + 1) = (n + 1) * (l.length + 1) + (n + 1) := by rw [Nat.mul_add]; omega
    omega
theorem fmtF_size (L : List Frame) : (fmtF L).size ≤ 12 * L.length := by
  unfold fmtF
  split
  · rename_i h
    rw [bts_size]
    have := joinL_len (L.map frTxt) 11 (fun x hx => by
      obtain ⟨f, hf, rfl⟩ := List.mem_map.1 hx
      exact (frTxt_len (List.all_eq_true.1 h f hf)).2)
    simpa using this
  · simp [ByteArray.size]
theorem fmtF_ne {L : List Frame} (h : L.all frOk = true) (hne : L ≠ []) : (fmtF L).size ≠ 0 := by
  unfold fmtF
  rw [if_pos h, bts_size]
  match L, hne with
  | [f], _ =>
    have := (frTxt_len (f := f) (by simpa using h)).1
    simp only [List.map_cons, List.map_nil, joinL]; omega
  | f :: g :: l, _ => simp [joinL]
/-- what is written is read -/
theorem parseF_fmtF {L : List Frame} (h : L.all frOk = true) (hne : L ≠ []) : parseF (fmtF L) = some L := by
  have e : fmtF L = bts (joinL 59 (L.map frTxt)) := by unfold fmtF; rw [if_pos h]
  have hl : (fmtF L).data.toList = joinL 59 (L.map frTxt) := by rw [e]; simp [bts]
  unfold parseF
  rw [hl, cutL_join 59 (by simpa using hne) (fun x hx => by
    obtain ⟨f, hf, rfl⟩ := List.mem_map.1 hx
    exact frTxt_no59 (List.all_eq_true.1 h f hf)), mapM_partF h]
  simp only
  rw [if_pos ⟨fmtF_ne h hne, by first | rfl | trivial⟩]
/-- what is read is frames' text -/
theorem parseF_some {s : ByteArray} {L : List Frame} (h : parseF s = some L) : fmtF L = s ∧ L ≠ [] ∧ L.all frOk = true := by
  unfold parseF at h
  split at h
  · rename_i M hM
    split at h
    · rename_i h2
      cases h
      refine ⟨h2.2, fun e => ?_, ?_⟩
      · subst e
        have := h2.2
        simp only [fmtF, List.all_nil, List.map_nil, joinL, if_true] at this
        exact h2.1 (by rw [← this]; rfl)
      · by_cases ha : L.all frOk = true
        · exact ha
        · have := h2.2
          unfold fmtF at this
          rw [if_neg ha] at this
          exact absurd (by rw [← this]; rfl) h2.1
    · cases h
  · cases h
theorem fmtF_inj {L M : List Frame} (hL : L.all frOk = true) (hM : M.all frOk = true) (hl : L ≠ []) (hm : M ≠ []) (h : fmtF L = fmtF M) : L = M := by
  have h1 := parseF_fmtF hL hl
  rw [h, parseF_fmtF hM hm] at h1
  exact (Option.some.inj h1).symm
end Go.Proofs.YtdhkhapbldkkdaaDoor

/-
  DERIVED. Sizes as plain functions: what is left is no more than it was, or -1.
-/
namespace Go.Proofs.YtdhkhapbldkkdaaDoor
def szA (n : Nat) (l : Int) : Int := if l - n < 0 then -1 else l - n
def szL : List (Int → Int) → Int → Int
  | [], l => l
  | f :: fs, l => if f l < 0 then -1 else szL fs (f l)
theorem szL_drop (F : List (Int → Int)) (k : Nat) (l : Int) (h : k < F.length) : szL (F.drop k) l = if F[k] l < 0 then -1 else szL (F.drop (k + 1)) (F[k] l) := by
  rw [List.drop_eq_getElem_cons h]; rfl
def szList (F : List (Int → Int)) (l : Int) : Int := if l - F.length < 0 then -1 else szL F (l - F.length)
/-- a size is taken off: what is left is no more than it was, or -1 -/
def Szf (f : Int → Int) : Prop := ∀ l, 0 ≤ l → -1 ≤ f l ∧ f l ≤ l
theorem szA_f (n : Nat) : Szf (szA n) := fun l h => by unfold szA; split <;> omega
theorem szL_f : ∀ (F : List (Int → Int)), (∀ f ∈ F, Szf f) → Szf (szL F)
  | [], _, l, h => by unfold szL; omega
  | f :: fs, hF, l, h => by
    have h1 := hF f List.mem_cons_self l h
    unfold szL
    split
    · omega
    · have := szL_f fs (fun g hg => hF g (List.mem_cons_of_mem _ hg)) (f l) (by omega)
      omega
theorem szList_f (F : List (Int → Int)) (hF : ∀ f ∈ F, Szf f) : Szf (szList F) := fun l h => by
  unfold szList
  split
  · omega
  · have := szL_f F hF (l - F.length) (by omega)
    omega
theorem szL_ok : ∀ (F : List (Int → Int)) (l : Int), (∀ f ∈ F, Szf f) → 0 ≤ l → 0 ≤ szL F l → ∀ f ∈ F, ∃ r, 0 ≤ r ∧ r ≤ l ∧ 0 ≤ f r
  | [], l, _, _, _ => by simp
  | g :: fs, l, hF, h0, h => by
    have h1 := hF g List.mem_cons_self l h0
    unfold szL at h
    split at h
    · omega
    · rename_i hg
      intro f hf
      rcases List.mem_cons.1 hf with rfl | hf
      · exact ⟨l, h0, by omega, by omega⟩
      · obtain ⟨r, a, b, c⟩ := szL_ok fs (g l) (fun g hg => hF g (List.mem_cons_of_mem _ hg)) (by omega) h f hf
        exact ⟨r, a, by omega, c⟩
theorem szList_ok {F : List (Int → Int)} {l : Int} (hF : ∀ f ∈ F, Szf f) (h : 0 ≤ szList F l) : F.length ≤ l ∧ ∀ f ∈ F, ∃ r, 0 ≤ r ∧ r ≤ l ∧ 0 ≤ f r := by
  unfold szList at h
  split at h
  · omega
  · refine ⟨by omega, fun f hf => ?_⟩
    obtain ⟨r, a, b, c⟩ := szL_ok F (l - F.length) hF (by omega) h f hf
    exact ⟨r, a, by omega, c⟩
theorem szf_neg {f : Int → Int} (hf : Szf f) {l : Int} (h0 : 0 ≤ l) (h : f l < 0) : f l = -1 := by have := hf l h0; omega
/-- one size, and then another of what it leaves -/
def szT (f g : Int → Int) (l : Int) : Int := if f l < 0 then -1 else g (f l)
theorem szT_f {f g : Int → Int} (hf : Szf f) (hg : Szf g) : Szf (szT f g) := fun l h => by
  have h1 := hf l h
  unfold szT
  split
  · omega
  · have := hg (f l) (by omega); omega
theorem szT_ok {f g : Int → Int} (hf : Szf f) {l : Int} (h0 : 0 ≤ l) (h : 0 ≤ szT f g l) : 0 ≤ f l ∧ f l ≤ l ∧ 0 ≤ g (f l) := by
  have h1 := hf l h0
  unfold szT at h
  split at h <;> omega
theorem szGo_f : ∀ (L : List Nat), Szf (szGo L)
  | [], l, h => by unfold szGo; omega
  | n :: L, l, h => by
    unfold szGo
    split
    · omega
    · have := szGo_f L (l - n) (by omega); omega
end Go.Proofs.YtdhkhapbldkkdaaDoor

namespace Go.Proofs.YtdhkhapbldkkdaaDoor
open Go.Vc
attribute [local go_sem] St.runR St.runW St.stepV offV St.step St.stepU St.stepG mkCond guardB St.prK St.pr St.prLen St.eff St.callE St.callD St.callF St.callL aI aB aS aR aC St.isM St.argL Ctr.pure Ctr.lend Ctr.move Ctr.isL Ctr.wri pur len lentBy St.lentV St.lent1 nthS argsR restOf obsR pairs swapL unObs backL St.resL erL SV.ren1 SV.up SV.up2 Ob.up St.fzL cellIds partIds St.intoRow SV.ownId St.fz SV.fz1 St.prep St.mvL St.mv SV.re1 rnOk St.prEq vals eqCells scEq Value.kd St.prStr St.prCut cutR St.bnd St.prMin St.bld isShift outL retL outJ oR oC oE oD SV.upq SV.isSl SV.shut St.deepK St.dpArg St.deepQ absC Ob.pl St.ev St.get St.put St.new St.kill SV.kill SV.kill1 Ob.kill St.app St.wrt St.rowsOf St.res St.killL lk er argsL SV.strip SV.need SV.share SV.share1 SV.owns SV.owns1 SV.owns2 SV.good SV.good1 SV.rok SV.rok1 SV.rok2 SV.isV SV.isV2 nodupN SV.cells SV.one SV.pur Ob.pb partsIn rowsIn splice cellsAt dstOk scal2 scal1 thenK blockK retK outK outs okC okL okA okT nilC nilL nilA nilT keepC keepL keepA keepT St.runG St.dltK St.least St.clean St.final St.hide offK badS badO SV.refs SV.leaf SV.leaf2 Ob.refs dlOk fpAt Go.Vc.cover tups SV.ofAgg St.out outC subL St.has rng wr Value.oneCell' Option.isSome_some Option.isSome_none List.nil_append Bool.false_eq_true List.map_cons List.map_nil List.all_cons List.all_nil List.length_cons List.length_nil List.drop_zero List.drop_succ_cons List.take_succ_cons List.take_zero List.drop_nil List.take_nil List.getElem?_cons_zero List.getElem?_cons_succ List.getElem?_nil List.cons_append List.nil_append List.append_nil List.append_assoc List.flatMap_cons List.flatMap_nil List.contains_cons List.contains_nil List.set_cons_zero List.set_cons_succ List.getElem?_toArray Option.getD_some Option.getD_none Option.map_some Option.map_none Option.bind_some Option.some.injEq Prod.mk.injEq if_true if_false true_and and_true and_self and_false false_and Bool.and_false Bool.false_and Bool.or_true Bool.true_or Bool.or_false Bool.false_or ne_eq not_true_eq_false not_false_eq_true decide_true decide_false List.mem_cons List.not_mem_nil List.filter_cons List.filter_nil List.any_cons List.any_nil List.isEmpty_nil List.isEmpty_cons Option.getD_none or_false false_or true_or or_true forall_eq_or_imp forall_eq reduceCtorEq exists_eq exists_eq' exists_eq_left' exists_eq_left exists_eq_right exists_eq_right' imp_self implies_true Bool.and_true Bool.true_and Bool.and_self beq_self_eq_true List.replicate_succ List.replicate_zero forall_const false_implies pickB_or pickB_and beqT beqF Int.toNat_natCast List.length_map List.length_replicate ge_iff_le gt_iff_lt decide_eq_true_eq decide_eq_false_iff_not Bool.and_eq_true Bool.or_eq_true Bool.not_eq_true' Bool.not_eq_false' condG List.toList_toArray Bool.or_eq_false_iff Bool.and_eq_false_iff Int.not_lt Int.not_le beq_iff_eq beq_eq_false_iff_ne bne_iff_ne bne_eq_false_iff_eq ne_eq Bool.not_true Bool.not_false exists_and_left
section
open Go.Vc
set_option linter.unusedSimpArgs false
set_option linter.unusedVariables false
set_option maxHeartbeats 1000000
set_option maxRecDepth 10000
attribute [local irreducible] Go.Vc.WP
attribute [local go_sem] cx0_t cx0_c
def keqS : Ctr := pur (fun args => (decS (aR args 0), decS (aR args 1))) (fun x => [.sl 1 (x.1.map encS), .sl 1 (x.2.map encS)]) (fun x => x.1.length ≤ 4398046511104) (fun _ x => .v (.bool (decide (x.1 = x.2)))) (fun _ _ => [])
theorem ceqS : Cn Tryd.prog 36 keqS := by
  refine Cn.pur Tryd.func36 (by kernel_rfl) rfl fun d x hx => ?_
  obtain ⟨L, M⟩ := x
  simp only at hx ⊢
  refine Holds.go (c := cx0) Tryd.func36 rfl Tryd.results36 Tryd.ntmps36 (by omega) (by simp) rfl ?_
  intro X0 w0
  (repeat' (first | refine WP.seq ?_ | refine WP.block ?_ | ((first | refine WP.region ?_ | refine WP.condW ?_ | refine WP.ret ?_ | refine WP.exit ?_ | refine WP.skip ?_); simp only [go_sem, tyAll, Nat.reduceAdd, Nat.reduceLT, Nat.reduceLeDiff, Nat.reduceEqDiff, Nat.reduceMul, Nat.reduceSub, Nat.reduceGT, reduceIte, Int.reduceNeg, Int.reduceToNat]) | ((first | refine WP.drawW 9 (by decide +kernel) (by kernel_rfl) ?_); simp only [go_sem, tyAll, Nat.reduceAdd, Nat.reduceLT, Nat.reduceLeDiff, Nat.reduceEqDiff, Nat.reduceMul, Nat.reduceSub, Nat.reduceGT, reduceIte, Int.reduceNeg, Int.reduceToNat]) |  refine And.intro ?_ ?_ | intro _))
  · simp; intro h; subst h; simp_all
  have hlen : L.length = M.length := by omega
  refine WP.loop (fun k : Nat => ⟨[(0, .sl 1 (L.map encS)), (1, .sl 1 (M.map encS)), (5, .v (.int .i64 k))], []⟩) (fun k => k ≤ L.length ∧ L.take k = M.take k) (fun k => L.length - k) 0 (by simp) ?_ ?_
  · (simp only [go_sem, tyAll, Nat.reduceAdd, Nat.reduceLT, Nat.reduceLeDiff, Nat.reduceEqDiff, Nat.reduceMul, Nat.reduceSub, Nat.reduceGT, reduceIte, Int.reduceNeg, Int.reduceToNat] <;> (first | rfl | exact ⟨rfl, rfl⟩ | exact ⟨rfl, rfl, rfl⟩ | exact ⟨rfl, rfl, rfl, rfl⟩ | exact ⟨rfl, rfl, rfl, rfl, rfl⟩ | exact ⟨⟨rfl, rfl⟩, rfl⟩ | simp))
  intro k ⟨hk, ht⟩
  by_cases hlt : k < L.length
  · have h1 := rowAt_map encS L k hlt
    have h2 := rowAt_map encS M k (by omega)
    (repeat' (first | refine WP.seq ?_ | refine WP.block ?_ | ((first | refine WP.region ?_ | refine WP.condW ?_ | refine WP.ret ?_ | refine WP.exit ?_ | refine WP.skip ?_); simp only [go_sem, h1, h2, encS, tyAll, Nat.reduceAdd, Nat.reduceLT, Nat.reduceLeDiff, Nat.reduceEqDiff, Nat.reduceMul, Nat.reduceSub, Nat.reduceGT, reduceIte, Int.reduceNeg, Int.reduceToNat]) | ((first | refine WP.drawW 9 (by decide +kernel) (by kernel_rfl) ?_); simp only [go_sem, h1, h2, encS, tyAll, Nat.reduceAdd, Nat.reduceLT, Nat.reduceLeDiff, Nat.reduceEqDiff, Nat.reduceMul, Nat.reduceSub, Nat.reduceGT, reduceIte, Int.reduceNeg, Int.reduceToNat]) |  refine And.intro ?_ ?_ | intro _))
    all_goals first | omega | skip
    · rename_i hne
      rw [show decide (L = M) = false from decide_eq_false fun e => by subst e; exact hne rfl]
    · rename_i he
      refine ⟨k + 1, ⟨by omega, ?_⟩, by omega, rfl⟩
      rw [List.take_succ_eq_append_getElem hlt, List.take_succ_eq_append_getElem (by omega : k < M.length), ht, he]
  · (repeat' (first | refine WP.seq ?_ | refine WP.block ?_ | ((first | refine WP.region ?_ | refine WP.condW ?_ | refine WP.ret ?_ | refine WP.exit ?_ | refine WP.skip ?_); simp only [go_sem, tyAll, Nat.reduceAdd, Nat.reduceLT, Nat.reduceLeDiff, Nat.reduceEqDiff, Nat.reduceMul, Nat.reduceSub, Nat.reduceGT, reduceIte, Int.reduceNeg, Int.reduceToNat]) | ((first | refine WP.drawW 9 (by decide +kernel) (by kernel_rfl) ?_); simp only [go_sem, tyAll, Nat.reduceAdd, Nat.reduceLT, Nat.reduceLeDiff, Nat.reduceEqDiff, Nat.reduceMul, Nat.reduceSub, Nat.reduceGT, reduceIte, Int.reduceNeg, Int.reduceToNat]) |  refine And.intro ?_ ?_ | intro _))
    all_goals first | omega | skip
    rw [show decide (L = M) = true from decide_eq_true ?_]
    rw [show k = L.length by omega, List.take_length, hlen, List.take_length] at ht
    exact ht

def marksS (k : Int) (n : Nat) : List ByteArray := (List.range n).map fun i : Nat => markT (k + (i : Int))
theorem marksS_len (k : Int) (n : Nat) : (marksS k n).length = n := by simp [marksS]
def halfS (L : List ByteArray) (k0 : Int) (k : Nat) : List ByteArray := marksS k0 k ++ L.drop k
theorem halfS_len (L : List ByteArray) (k0 : Int) (k : Nat) (h : k ≤ L.length) : (halfS L k0 k).length = L.length := by simp [halfS, marksS_len]; omega
theorem halfS_set (L : List ByteArray) (k0 : Int) (k : Nat) (h : k < L.length) : ((halfS L k0 k).map encS).set k (encS (markT (k0 + k))) = (halfS L k0 (k + 1)).map encS := by
  rw [← List.map_set]
  congr 1
  unfold halfS
  rw [List.set_append, if_neg (by simp [marksS_len]), marksS_len, Nat.sub_self, List.drop_eq_getElem_cons h, List.set_cons_zero]
  simp [marksS, List.range_succ]
def kmarkS : Ctr := len [0] [] (fun args obs => (decS (oR obs 1000000), aI args 1)) (fun x => [.own 1000000, .v (.int .i64 x.2)]) (fun x => [(1000000, .sl 9 1 (x.1.map encS))]) (fun x => x.1.length ≤ 4398046511104 ∧ 0 ≤ x.2 ∧ x.2 ≤ 500000000000000)
  (fun _ x => .v (.int .i64 (x.2 + x.1.length))) (fun _ _ => []) (fun x => [(1000000, .sl 9 1 ((marksS x.2 x.1.length).map encS))])
section
noncomputable def cxMs : Cx := { P := Tryd.prog, tys := tys, C := [(19, kmarkT)], hty := tysOk, hC := COk.cons cmarkT (COk.nil _) }
theorem cxMs_t : cxMs.tys = tys := rfl
theorem cxMs_c : cxMs.C = [(19, kmarkT)] := rfl
attribute [local go_sem] cxMs_t cxMs_c kmarkT
theorem cmarkS : Cn Tryd.prog 20 kmarkS := by
  refine Cn.len Tryd.func20 (by kernel_rfl) rfl fun d x hd hx => ?_
  obtain ⟨L, k0⟩ := x
  obtain ⟨hL, h0, h1⟩ := hx
  simp only at hL h0 h1 ⊢
  refine HoldsL.go (c := cxMs) Tryd.func20 rfl Tryd.results20 Tryd.ntmps20 (by omega) (by simp) rfl (by simp <;> omega) (by simp [SV.owns2, SV.owns, SV.owns1]) (by simp) rfl rfl (by simp) ?_
  intro X0 M w0
  (repeat' (first | refine WP.seq ?_ | refine WP.block ?_ | ((first | refine WP.region ?_ | refine WP.condW ?_ | refine WP.ret ?_ | refine WP.exit ?_ | refine WP.skip ?_); simp only [go_sem, tyAll, Nat.reduceAdd, Nat.reduceLT, Nat.reduceLeDiff, Nat.reduceEqDiff, Nat.reduceMul, Nat.reduceSub, Nat.reduceGT, reduceIte, Int.reduceNeg, Int.reduceToNat]) |  refine And.intro ?_ ?_ | intro _))
  refine WP.loop (fun k : Nat => ⟨[(0, .own 1000000), (1, .v (.int .i64 (k0 + k))), (5, .v (.int .i64 k))], [(1000000, .sl 9 1 ((halfS L k0 k).map encS))]⟩) (fun k => k ≤ L.length) (fun k => L.length - k) 0 (by omega) ?_ ?_
  · have e : halfS L k0 0 = L := by simp [halfS, marksS]
    rw [e]; (simp only [go_sem, tyAll, Nat.reduceAdd, Nat.reduceLT, Nat.reduceLeDiff, Nat.reduceEqDiff, Nat.reduceMul, Nat.reduceSub, Nat.reduceGT, reduceIte, Int.reduceNeg, Int.reduceToNat] <;> (first | rfl | exact ⟨rfl, rfl⟩ | exact ⟨rfl, rfl, rfl⟩ | exact ⟨rfl, rfl, rfl, rfl⟩ | exact ⟨rfl, rfl, rfl, rfl, rfl⟩ | exact ⟨⟨rfl, rfl⟩, rfl⟩ | simp))
  intro k hk
  have h2 := halfS_len L k0 k hk
  by_cases hlt : k < L.length
  · have h3 := halfS_set L k0 k hlt
    rw [encS] at h3
    have h4 := rowAt_map encS (halfS L k0 k) k (by omega)
    (repeat' (first | refine WP.seq ?_ | refine WP.block ?_ | ((first | refine WP.region ?_ | refine WP.condW ?_ | refine WP.ret ?_ | refine WP.exit ?_ | refine WP.skip ?_); simp only [go_sem, h2, h3, h4, encS, tyAll, Nat.reduceAdd, Nat.reduceLT, Nat.reduceLeDiff, Nat.reduceEqDiff, Nat.reduceMul, Nat.reduceSub, Nat.reduceGT, reduceIte, Int.reduceNeg, Int.reduceToNat]) |  refine And.intro ?_ ?_ | intro _))
    all_goals first | omega | skip
    refine ⟨k + 1, by omega, by omega, ⟨?_, rfl⟩, rfl⟩
    rw [show k0 + (k : Int) + 1 = k0 + ((k + 1 : Nat) : Int) by omega]
  · have h5 : halfS L k0 k = marksS k0 L.length := by rw [show k = L.length by omega]; simp [halfS]
    have h6 := marksS_len k0 L.length
    (repeat' (first | refine WP.seq ?_ | refine WP.block ?_ | ((first | refine WP.region ?_ | refine WP.condW ?_ | refine WP.ret ?_ | refine WP.exit ?_ | refine WP.skip ?_); simp only [go_sem, h2, h5, h6, tyAll, Nat.reduceAdd, Nat.reduceLT, Nat.reduceLeDiff, Nat.reduceEqDiff, Nat.reduceMul, Nat.reduceSub, Nat.reduceGT, reduceIte, Int.reduceNeg, Int.reduceToNat]) |  refine And.intro ?_ ?_ | intro _))
    all_goals first | omega | skip
    rw [show k = L.length by omega]
def kheldS : Ctr := pur (fun args => (decS (aR args 0), aI args 1)) (fun x => [.sl 1 (x.1.map encS), .v (.int .i64 x.2)]) (fun x => x.1.length ≤ 4398046511104 ∧ 0 ≤ x.2 ∧ x.2 ≤ 500000000000000)
  (fun _ x => .v (.int .i64 (if x.1 = marksS x.2 x.1.length then x.2 + x.1.length else -1))) (fun _ _ => [])
theorem cheldS : Cn Tryd.prog 22 kheldS := by
  refine Cn.pur Tryd.func22 (by kernel_rfl) rfl fun d x hx => ?_
  obtain ⟨L, k0⟩ := x
  obtain ⟨hL, h0, h1⟩ := hx
  simp only at hL h0 h1 ⊢
  refine Holds.go (c := cxMs) Tryd.func22 rfl Tryd.results22 Tryd.ntmps22 (by omega) (by simp) rfl ?_
  intro X0 w0
  (repeat' (first | refine WP.seq ?_ | refine WP.block ?_ | ((first | refine WP.region ?_ | refine WP.condW ?_ | refine WP.ret ?_ | refine WP.exit ?_ | refine WP.skip ?_); simp only [go_sem, tyAll, Nat.reduceAdd, Nat.reduceLT, Nat.reduceLeDiff, Nat.reduceEqDiff, Nat.reduceMul, Nat.reduceSub, Nat.reduceGT, reduceIte, Int.reduceNeg, Int.reduceToNat]) | ((first | refine WP.drawW 7 (by decide +kernel) (by kernel_rfl) ?_); simp only [go_sem, tyAll, Nat.reduceAdd, Nat.reduceLT, Nat.reduceLeDiff, Nat.reduceEqDiff, Nat.reduceMul, Nat.reduceSub, Nat.reduceGT, reduceIte, Int.reduceNeg, Int.reduceToNat]) |  refine And.intro ?_ ?_ | intro _))
  refine WP.loop (fun k : Nat => ⟨[(0, .sl 1 (L.map encS)), (1, .v (.int .i64 (k0 + k))), (5, .v (.int .i64 k))], []⟩) (fun k => k ≤ L.length ∧ L.take k = marksS k0 k) (fun k => L.length - k) 0 (by simp [marksS]) ?_ ?_
  · (simp only [go_sem, tyAll, Nat.reduceAdd, Nat.reduceLT, Nat.reduceLeDiff, Nat.reduceEqDiff, Nat.reduceMul, Nat.reduceSub, Nat.reduceGT, reduceIte, Int.reduceNeg, Int.reduceToNat] <;> (first | rfl | exact ⟨rfl, rfl⟩ | exact ⟨rfl, rfl, rfl⟩ | exact ⟨rfl, rfl, rfl, rfl⟩ | exact ⟨rfl, rfl, rfl, rfl, rfl⟩ | exact ⟨⟨rfl, rfl⟩, rfl⟩ | simp))
  intro k ⟨hk, ht⟩
  by_cases hlt : k < L.length
  · have h3 := rowAt_map encS L k hlt
    (repeat' (first | refine WP.seq ?_ | refine WP.block ?_ | ((first | refine WP.region ?_ | refine WP.condW ?_ | refine WP.ret ?_ | refine WP.exit ?_ | refine WP.skip ?_); simp only [go_sem, h3, encS, tyAll, Nat.reduceAdd, Nat.reduceLT, Nat.reduceLeDiff, Nat.reduceEqDiff, Nat.reduceMul, Nat.reduceSub, Nat.reduceGT, reduceIte, Int.reduceNeg, Int.reduceToNat]) | ((first | refine WP.drawW 7 (by decide +kernel) (by kernel_rfl) ?_); simp only [go_sem, h3, encS, tyAll, Nat.reduceAdd, Nat.reduceLT, Nat.reduceLeDiff, Nat.reduceEqDiff, Nat.reduceMul, Nat.reduceSub, Nat.reduceGT, reduceIte, Int.reduceNeg, Int.reduceToNat]) |  refine And.intro ?_ ?_ | intro _))
    all_goals first | omega | skip
    · rename_i hne
      rw [if_neg]
      intro e
      apply hne
      have e2 : L[k] = (marksS k0 L.length)[k]'(by rw [marksS_len]; exact hlt) := by congr 1
      rw [e2]; simp [marksS]
    · rename_i he
      refine ⟨k + 1, ⟨by omega, ?_⟩, by omega, ?_, rfl⟩
      · rw [List.take_succ_eq_append_getElem hlt, ht, he]; simp [marksS, List.range_succ]
      · rw [show k0 + (k : Int) + 1 = k0 + ((k + 1 : Nat) : Int) by omega]
  · (repeat' (first | refine WP.seq ?_ | refine WP.block ?_ | ((first | refine WP.region ?_ | refine WP.condW ?_ | refine WP.ret ?_ | refine WP.exit ?_ | refine WP.skip ?_); simp only [go_sem, tyAll, Nat.reduceAdd, Nat.reduceLT, Nat.reduceLeDiff, Nat.reduceEqDiff, Nat.reduceMul, Nat.reduceSub, Nat.reduceGT, reduceIte, Int.reduceNeg, Int.reduceToNat]) | ((first | refine WP.drawW 7 (by decide +kernel) (by kernel_rfl) ?_); simp only [go_sem, tyAll, Nat.reduceAdd, Nat.reduceLT, Nat.reduceLeDiff, Nat.reduceEqDiff, Nat.reduceMul, Nat.reduceSub, Nat.reduceGT, reduceIte, Int.reduceNeg, Int.reduceToNat]) |  refine And.intro ?_ ?_ | intro _))
    all_goals first | omega | skip
    rw [show k = L.length by omega, List.take_length] at ht
    rw [if_pos ht, show k = L.length by omega]
end
end
section
open Go.Vc
set_option linter.unusedSimpArgs false
set_option linter.unusedVariables false
set_option maxHeartbeats 1000000
set_option maxRecDepth 10000
attribute [local irreducible] Go.Vc.WP
attribute [local go_sem] cx0_t cx0_c
attribute [local go_sem] decS_enc
def szvStr (L : List ByteArray) : Int → Int := szList (L.map fun s => szA s.size)
def kszStr : Ctr := pur (fun args => (decS (aR args 0), aI args 1)) (fun x => [.sl 1 (x.1.map encS), .v (.int .i64 x.2)]) (fun x => x.1.length ≤ maxLen ∧ (∀ s ∈ x.1, s.size ≤ maxLen) ∧ 0 ≤ x.2 ∧ x.2 ≤ 1048576)
  (fun _ x => .v (.int .i64 (szvStr x.1 x.2))) (fun _ _ => [])
section
noncomputable def cxZs : Cx := { P := Tryd.prog, tys := tys, C := [], hty := tysOk, hC := COk.nil _ }
theorem cxZs_t : cxZs.tys = tys := rfl
theorem cxZs_c : cxZs.C = [] := rfl
attribute [local go_sem] cxZs_t cxZs_c 
end
def ktoSo : Ctr := pur (fun args => decS (aR args 0)) (fun L => [.sl 1 (L.map encS)]) (fun L => L.length ≤ 2097152) (fun d _ => .own d) (fun d L => [(d, .sl 9 1 (L.map encS))])
section
noncomputable def cxTso : Cx := { P := Tryd.prog, tys := tys, C := [], hty := tysOk, hC := COk.nil _ }
theorem cxTso_t : cxTso.tys = tys := rfl
theorem cxTso_c : cxTso.C = [] := rfl
attribute [local go_sem] cxTso_t cxTso_c 
end
def kmarkSE : Ctr := len [0] [] (fun args obs => (decS (oR obs 1000000), aI args 1, oE obs 1000000)) (fun x => [.own 1000000, .v (.int .i64 x.2.1)]) (fun x => [(1000000, .sl x.2.2 1 (x.1.map encS))]) (fun x => x.1.length ≤ 4398046511104 ∧ 0 ≤ x.2.1 ∧ x.2.1 ≤ 500000000000000)
  (fun _ x => .v (.int .i64 (x.2.1 + x.1.length))) (fun _ _ => []) (fun x => [(1000000, .sl x.2.2 1 ((marksS x.2.1 x.1.length).map encS))])
section
noncomputable def cxMse : Cx := { P := Tryd.prog, tys := tys, C := [(19, kmarkT)], hty := tysOk, hC := COk.cons cmarkT (COk.nil _) }
theorem cxMse_t : cxMse.tys = tys := rfl
theorem cxMse_c : cxMse.C = [(19, kmarkT)] := rfl
attribute [local go_sem] cxMse_t cxMse_c kmarkT
theorem cmarkSE : Cn Tryd.prog 20 kmarkSE := by
  refine Cn.len Tryd.func20 (by kernel_rfl) rfl fun d x hd hx => ?_
  obtain ⟨L, k0, ee⟩ := x
  obtain ⟨hL, h0, h1⟩ := hx
  simp only at hL h0 h1 ⊢
  refine HoldsL.go (c := cxMse) Tryd.func20 rfl Tryd.results20 Tryd.ntmps20 (by omega) (by simp) rfl (by simp <;> omega) (by simp [SV.owns2, SV.owns, SV.owns1]) (by simp) rfl rfl (by simp) ?_
  intro X0 M w0
  (repeat' (first | refine WP.seq ?_ | refine WP.block ?_ | ((first | refine WP.region ?_ | refine WP.condW ?_ | refine WP.ret ?_ | refine WP.exit ?_ | refine WP.skip ?_); simp only [go_sem, tyAll, Nat.reduceAdd, Nat.reduceLT, Nat.reduceLeDiff, Nat.reduceEqDiff, Nat.reduceMul, Nat.reduceSub, Nat.reduceGT, reduceIte, Int.reduceNeg, Int.reduceToNat]) |  refine And.intro ?_ ?_ | intro _))
  refine WP.loop (fun k : Nat => ⟨[(0, .own 1000000), (1, .v (.int .i64 (k0 + k))), (5, .v (.int .i64 k))], [(1000000, .sl ee 1 ((halfS L k0 k).map encS))]⟩) (fun k => k ≤ L.length) (fun k => L.length - k) 0 (by omega) ?_ ?_
  · have e : halfS L k0 0 = L := by simp [halfS, marksS]
    rw [e]; (simp only [go_sem, tyAll, Nat.reduceAdd, Nat.reduceLT, Nat.reduceLeDiff, Nat.reduceEqDiff, Nat.reduceMul, Nat.reduceSub, Nat.reduceGT, reduceIte, Int.reduceNeg, Int.reduceToNat] <;> (first | rfl | exact ⟨rfl, rfl⟩ | exact ⟨rfl, rfl, rfl⟩ | exact ⟨rfl, rfl, rfl, rfl⟩ | exact ⟨rfl, rfl, rfl, rfl, rfl⟩ | exact ⟨⟨rfl, rfl⟩, rfl⟩ | simp))
  intro k hk
  have h2 := halfS_len L k0 k hk
  by_cases hlt : k < L.length
  · have h3 := halfS_set L k0 k hlt
    rw [encS] at h3
    have h4 := rowAt_map encS (halfS L k0 k) k (by omega)
    (repeat' (first | refine WP.seq ?_ | refine WP.block ?_ | ((first | refine WP.region ?_ | refine WP.condW ?_ | refine WP.ret ?_ | refine WP.exit ?_ | refine WP.skip ?_); simp only [go_sem, h2, h3, h4, encS, tyAll, Nat.reduceAdd, Nat.reduceLT, Nat.reduceLeDiff, Nat.reduceEqDiff, Nat.reduceMul, Nat.reduceSub, Nat.reduceGT, reduceIte, Int.reduceNeg, Int.reduceToNat]) |  refine And.intro ?_ ?_ | intro _))
    all_goals first | omega | skip
    refine ⟨k + 1, by omega, by omega, ⟨?_, rfl⟩, rfl⟩
    rw [show k0 + (k : Int) + 1 = k0 + ((k + 1 : Nat) : Int) by omega]
  · have h5 : halfS L k0 k = marksS k0 L.length := by rw [show k = L.length by omega]; simp [halfS]
    have h6 := marksS_len k0 L.length
    (repeat' (first | refine WP.seq ?_ | refine WP.block ?_ | ((first | refine WP.region ?_ | refine WP.condW ?_ | refine WP.ret ?_ | refine WP.exit ?_ | refine WP.skip ?_); simp only [go_sem, h2, h5, h6, tyAll, Nat.reduceAdd, Nat.reduceLT, Nat.reduceLeDiff, Nat.reduceEqDiff, Nat.reduceMul, Nat.reduceSub, Nat.reduceGT, reduceIte, Int.reduceNeg, Int.reduceToNat]) |  refine And.intro ?_ ?_ | intro _))
    all_goals first | omega | skip
    rw [show k = L.length by omega]
end
end
section
open Go.Vc
set_option linter.unusedSimpArgs false
set_option linter.unusedVariables false
set_option maxHeartbeats 1000000
attribute [local irreducible] Go.Vc.WP
attribute [local go_sem] cx0_t cx0_c

structure Tok where
  kind : Int
  num : Int
  name : ByteArray
deriving DecidableEq
def encTok (x : Tok) : List SV := [.v (.int .i64 x.kind), .v (.int .i64 x.num), .v (.string x.name)]
def oneTok : List SV → Tok
  | [.v (.int _ kind), .v (.int _ num), .v (.string name)] => ⟨kind, num, name⟩
  | _ => ⟨0, 0, ⟨#[]⟩⟩
def decTok (rows : List (List SV)) : List Tok := rows.map oneTok
theorem oneTok_enc (x : Tok) : oneTok (encTok x) = x := rfl
theorem decTok_enc (L : List Tok) : decTok (L.map encTok) = L := by
  unfold decTok
  rw [List.map_map]
  exact List.map_id'' oneTok_enc L
theorem isV_Tok {e s : Nat} (L : List Tok) : (Ob.sl e s (L.map encTok)).isV ↔ True := iff_true_intro (by
  intro row hr c hc
  obtain ⟨n, _, rfl⟩ := List.mem_map.1 hr
  simp only [encTok, List.mem_cons, List.not_mem_nil, or_false] at hc
  rcases hc with rfl | rfl | rfl <;> exact ⟨_, rfl⟩)
def zerTok : List SV := [.v (.int .i64 0), .v (.int .i64 0), .v (.string ⟨#[]⟩)]

def ktoTok : Ctr := pur (fun args => oneTok (aC args 0)) (fun x => [.agg (encTok x)]) (fun _ => True) (fun _ x => .agg (encTok x)) (fun _ _ => [])
def ktoTokS : Ctr := pur (fun args => decTok (aR args 0)) (fun L => [.sl 3 (L.map encTok)]) (fun L => L.length ≤ 2097152) (fun d _ => .own d) (fun d L => [(d, .sl 63 3 (L.map encTok))])
section
attribute [local go_sem] ktoTok oneTok
end

def keqTok : Ctr := pur (fun args => (oneTok (aC args 0), oneTok (aC args 1))) (fun x => [.agg (encTok x.1), .agg (encTok x.2)]) (fun _ => True) (fun _ x => .v (.bool (decide (x.1 = x.2)))) (fun _ _ => [])
theorem ceqTok : Cn Tryd.prog 52 keqTok := by
  refine Cn.pur Tryd.func52 (by kernel_rfl) rfl fun d x _ => ?_
  obtain ⟨⟨a0, a1, a2⟩, ⟨b0, b1, b2⟩⟩ := x
  refine Holds.go (c := cx0) Tryd.func52 rfl Tryd.results52 Tryd.ntmps52 (by omega) (by simp) rfl ?_
  intro X0 w0
  simp only [encTok]
  (repeat' (first | refine WP.seq ?_ | refine WP.block ?_ | ((first | refine WP.region ?_ | refine WP.condW ?_ | refine WP.ret ?_ | refine WP.exit ?_ | refine WP.skip ?_); simp only [go_sem, tyAll, Nat.reduceAdd, Nat.reduceLT, Nat.reduceLeDiff, Nat.reduceEqDiff, Nat.reduceMul, Nat.reduceSub, Nat.reduceGT, reduceIte, Int.reduceNeg, Int.reduceToNat]) |  refine And.intro ?_ ?_ | intro _))
  all_goals simp_all

noncomputable def cxeqTok : Cx := { P := Tryd.prog, tys := tys, C := [(52, keqTok)], hty := tysOk, hC := COk.cons ceqTok (COk.nil _) }
theorem cxeqTok_t : cxeqTok.tys = tys := rfl
theorem cxeqTok_c : cxeqTok.C = [(52, keqTok)] := rfl
def keqTokS : Ctr := pur (fun args => (decTok (aR args 0), decTok (aR args 1))) (fun x => [.sl 3 (x.1.map encTok), .sl 3 (x.2.map encTok)]) (fun x => x.1.length ≤ 4398046511104) (fun _ x => .v (.bool (decide (x.1 = x.2)))) (fun _ _ => [])
section
attribute [local go_sem] cxeqTok_t cxeqTok_c keqTok oneTok
theorem ceqTokS : Cn Tryd.prog 37 keqTokS := by
  refine Cn.pur Tryd.func37 (by kernel_rfl) rfl fun d x hL => ?_
  obtain ⟨L, M⟩ := x
  simp only at hL ⊢
  refine Holds.go (c := cxeqTok) Tryd.func37 rfl Tryd.results37 Tryd.ntmps37 (by omega) (by simp) rfl ?_
  intro X0 w0
  (repeat' (first | refine WP.seq ?_ | refine WP.block ?_ | ((first | refine WP.region ?_ | refine WP.condW ?_ | refine WP.ret ?_ | refine WP.exit ?_ | refine WP.skip ?_); simp only [go_sem, tyAll, Nat.reduceAdd, Nat.reduceLT, Nat.reduceLeDiff, Nat.reduceEqDiff, Nat.reduceMul, Nat.reduceSub, Nat.reduceGT, reduceIte, Int.reduceNeg, Int.reduceToNat]) |  refine And.intro ?_ ?_ | intro _))
  · simp; intro h; subst h; simp_all
  have hlen : L.length = M.length := by omega
  refine WP.loop (fun k : Nat => ⟨[(0, .sl 3 (L.map encTok)), (1, .sl 3 (M.map encTok)), (5, .v (.int .i64 k))], []⟩) (fun k => k ≤ L.length ∧ L.take k = M.take k) (fun k => L.length - k) 0 (by simp) ?_ ?_
  · simp only [go_sem, tyAll, Nat.reduceAdd, Nat.reduceLT, Nat.reduceLeDiff, Nat.reduceEqDiff, Nat.reduceMul, Nat.reduceSub, Nat.reduceGT, reduceIte, Int.reduceNeg, Int.reduceToNat]; rfl
  intro k ⟨hk, ht⟩
  by_cases hlt : k < L.length
  · have h1 := rowAt_map encTok L k hlt
    have h2 := rowAt_map encTok M k (by omega)
    (repeat' (first | refine WP.seq ?_ | refine WP.block ?_ | ((first | refine WP.region ?_ | refine WP.condW ?_ | refine WP.ret ?_ | refine WP.exit ?_ | refine WP.skip ?_); simp only [go_sem, h1, h2, encTok, tyAll, Nat.reduceAdd, Nat.reduceLT, Nat.reduceLeDiff, Nat.reduceEqDiff, Nat.reduceMul, Nat.reduceSub, Nat.reduceGT, reduceIte, Int.reduceNeg, Int.reduceToNat]) | (refine WP.drawW 10 (by kernel_rfl) (by kernel_rfl) ?_; simp only [go_sem, h1, h2, encTok, tyAll, Nat.reduceAdd, Nat.reduceLT, Nat.reduceLeDiff, Nat.reduceEqDiff, Nat.reduceMul, Nat.reduceSub, Nat.reduceGT, reduceIte, Int.reduceNeg, Int.reduceToNat]) |  refine And.intro ?_ ?_ | intro _))
    all_goals first | omega | skip
    · rename_i hne
      rw [show decide (L = M) = false from decide_eq_false fun e => by subst e; exact hne rfl]
    · rename_i he
      refine ⟨k + 1, ⟨by omega, ?_⟩, by omega, rfl⟩
      have he' : L[k] = M[k] := he
      rw [List.take_succ_eq_append_getElem hlt, List.take_succ_eq_append_getElem (by omega : k < M.length), ht, he']
  · (repeat' (first | refine WP.seq ?_ | refine WP.block ?_ | ((first | refine WP.region ?_ | refine WP.condW ?_ | refine WP.ret ?_ | refine WP.exit ?_ | refine WP.skip ?_); simp only [go_sem, tyAll, Nat.reduceAdd, Nat.reduceLT, Nat.reduceLeDiff, Nat.reduceEqDiff, Nat.reduceMul, Nat.reduceSub, Nat.reduceGT, reduceIte, Int.reduceNeg, Int.reduceToNat]) |  refine And.intro ?_ ?_ | intro _))
    all_goals first | omega | skip
    rw [show decide (L = M) = true from decide_eq_true ?_]
    rw [show k = L.length by omega, List.take_length, hlen, List.take_length] at ht
    exact ht
end

def kszTok : Ctr := pur (fun args => (oneTok (aC args 0), aI args 1)) (fun x => [.agg (encTok x.1), .v (.int .i64 x.2)]) (fun x => x.1.name.size ≤ maxLen ∧ 0 ≤ x.2 ∧ x.2 ≤ 1048576)
  (fun _ x => .v (.int .i64 (if x.2 - x.1.name.size < 0 then -1 else x.2 - x.1.name.size))) (fun _ _ => [])
def sizesTok (L : List Tok) : List Nat := L.map fun x => x.name.size
def szvTok (L : List Tok) (left : Int) : Int := if left - L.length < 0 then -1 else szGo (sizesTok L) (left - L.length)
def kszTokS : Ctr := pur (fun args => (decTok (aR args 0), aI args 1)) (fun x => [.sl 3 (x.1.map encTok), .v (.int .i64 x.2)]) (fun x => x.1.length ≤ maxLen ∧ (∀ r ∈ x.1, r.name.size ≤ maxLen) ∧ 0 ≤ x.2 ∧ x.2 ≤ 1048576)
  (fun _ x => .v (.int .i64 (szvTok x.1 x.2))) (fun _ _ => [])
section
attribute [local go_sem] kszTok oneTok
end
theorem szvTok_ok {L : List Tok} (h : ¬ szvTok L 1048576 < 0) : L.length ≤ 1048576 ∧ ∀ x ∈ L, x.name.size ≤ 1048576 := by
  unfold szvTok at h
  split at h
  · omega
  · rename_i h2
    refine ⟨by omega, fun x hx => ?_⟩
    have := szGo_ok (sizesTok L) _ (by omega) (Int.not_lt.1 h) x.name.size (List.mem_map.2 ⟨x, hx, rfl⟩)
    omega

theorem extTok {a b : Tok} (h0 : a.kind = b.kind) (h1 : a.num = b.num) (h2 : a.name = b.name) : a = b := by cases a; cases b; simp_all
def mrkTok (v : Int) : Tok := ⟨v, v + 1, markT (v + 1 + 1)⟩
def marksTok (k : Int) (n : Nat) : List Tok := (List.range n).map fun i : Nat => mrkTok (k + 3 * (i : Int))
theorem marksTok_len (k : Int) (n : Nat) : (marksTok k n).length = n := by simp [marksTok]
def halfTok (L : List Tok) (k0 : Int) (k : Nat) : List Tok := marksTok k0 k ++ L.drop k
theorem halfTok_len (L : List Tok) (k0 : Int) (k : Nat) (h : k ≤ L.length) : (halfTok L k0 k).length = L.length := by simp [halfTok, marksTok_len]; omega
theorem halfTok_set (L : List Tok) (k0 : Int) (k : Nat) (h : k < L.length) : ((halfTok L k0 k).map encTok).set k (encTok (mrkTok (k0 + 3 * (k : Int)))) = (halfTok L k0 (k + 1)).map encTok := by
  rw [← List.map_set]
  congr 1
  unfold halfTok
  rw [List.set_append, if_neg (by simp [marksTok_len]), marksTok_len, Nat.sub_self, List.drop_eq_getElem_cons h, List.set_cons_zero]
  simp [marksTok, List.range_succ]
noncomputable def cxMkTok : Cx := { P := Tryd.prog, tys := tys, C := [(19, kmarkT)], hty := tysOk, hC := COk.cons cmarkT (COk.nil _) }
theorem cxMkTok_t : cxMkTok.tys = tys := rfl
theorem cxMkTok_c : cxMkTok.C = [(19, kmarkT)] := rfl
attribute [local go_sem] cxMkTok_t cxMkTok_c kmarkT

def kmarkTokE : Ctr := len [0] [] (fun args obs => (decTok (oR obs 1000000), aI args 1, oE obs 1000000)) (fun x => [.own 1000000, .v (.int .i64 x.2.1)]) (fun x => [(1000000, .sl x.2.2 3 (x.1.map encTok))]) (fun x => x.1.length ≤ 4398046511104 ∧ 0 ≤ x.2.1 ∧ x.2.1 ≤ 500000000000000)
  (fun _ x => .v (.int .i64 (x.2.1 + 3 * x.1.length))) (fun _ _ => []) (fun x => [(1000000, .sl x.2.2 3 ((marksTok x.2.1 x.1.length).map encTok))])
theorem cmarkTokE : Cn Tryd.prog 21 kmarkTokE := by
  refine Cn.len Tryd.func21 (by kernel_rfl) rfl fun d x hd hx => ?_
  obtain ⟨L, k0, ee⟩ := x
  obtain ⟨hL, h0, h1⟩ := hx
  simp only at hL h0 h1 ⊢
  refine HoldsL.go (c := cxMkTok) Tryd.func21 rfl Tryd.results21 Tryd.ntmps21 (by omega) (by simp) rfl (by simp <;> omega) (by simp [SV.owns2, SV.owns, SV.owns1]) (by simp) rfl rfl (by simp) ?_
  intro X0 M w0
  (repeat' (first | refine WP.seq ?_ | refine WP.block ?_ | ((first | refine WP.region ?_ | refine WP.condW ?_ | refine WP.ret ?_ | refine WP.exit ?_ | refine WP.skip ?_); simp only [go_sem, tyAll, Nat.reduceAdd, Nat.reduceLT, Nat.reduceLeDiff, Nat.reduceEqDiff, Nat.reduceMul, Nat.reduceSub, Nat.reduceGT, reduceIte, Int.reduceNeg, Int.reduceToNat]) |  refine And.intro ?_ ?_ | intro _))
  refine WP.loop (fun k : Nat => ⟨[(0, .own 1000000), (1, .v (.int .i64 (k0 + 3 * (k : Int)))), (5, .v (.int .i64 k))], [(1000000, .sl ee 3 ((halfTok L k0 k).map encTok))]⟩) (fun k => k ≤ L.length) (fun k => L.length - k) 0 (by omega) ?_ ?_
  · have e : halfTok L k0 0 = L := by simp [halfTok, marksTok]
    rw [e]; (simp only [go_sem, tyAll, Nat.reduceAdd, Nat.reduceLT, Nat.reduceLeDiff, Nat.reduceEqDiff, Nat.reduceMul, Nat.reduceSub, Nat.reduceGT, reduceIte, Int.reduceNeg, Int.reduceToNat] <;> (first | rfl | exact ⟨rfl, rfl⟩ | exact ⟨rfl, rfl, rfl⟩ | exact ⟨rfl, rfl, rfl, rfl⟩ | exact ⟨rfl, rfl, rfl, rfl, rfl⟩ | exact ⟨⟨rfl, rfl⟩, rfl⟩ | simp))
  intro k hk
  have h2 := halfTok_len L k0 k hk
  by_cases hlt : k < L.length
  · have h3 := halfTok_set L k0 k hlt
    rw [encTok, mrkTok] at h3
    simp only at h3
    have h4 := rowAt_map encTok (halfTok L k0 k) k (by omega)
    have h5 : ∀ r : List SV, Go.Vc.rowAt (((halfTok L k0 k).map encTok).set k r) k = r := fun r => rowAt_set _ _ _ (by rw [List.length_map]; omega)
    (repeat' (first | refine WP.seq ?_ | refine WP.block ?_ | ((first | refine WP.region ?_ | refine WP.condW ?_ | refine WP.ret ?_ | refine WP.exit ?_ | refine WP.skip ?_); simp only [go_sem, h2, h3, h4, h5, encTok, List.set_set, List.length_set, tyAll, Nat.reduceAdd, Nat.reduceLT, Nat.reduceLeDiff, Nat.reduceEqDiff, Nat.reduceMul, Nat.reduceSub, Nat.reduceGT, reduceIte, Int.reduceNeg, Int.reduceToNat]) |  refine And.intro ?_ ?_ | intro _))
    all_goals first | omega | skip
    refine ⟨k + 1, by omega, by omega, ⟨?_, rfl⟩, rfl⟩
    rw [show k0 + 3 * (k : Int) + 1 + 1 + 1 = k0 + 3 * ((k + 1 : Nat) : Int) by omega]
  · have h5 : halfTok L k0 k = marksTok k0 L.length := by rw [show k = L.length by omega]; simp [halfTok]
    have h6 := marksTok_len k0 L.length
    (repeat' (first | refine WP.seq ?_ | refine WP.block ?_ | ((first | refine WP.region ?_ | refine WP.condW ?_ | refine WP.ret ?_ | refine WP.exit ?_ | refine WP.skip ?_); simp only [go_sem, h2, h5, h6, tyAll, Nat.reduceAdd, Nat.reduceLT, Nat.reduceLeDiff, Nat.reduceEqDiff, Nat.reduceMul, Nat.reduceSub, Nat.reduceGT, reduceIte, Int.reduceNeg, Int.reduceToNat]) |  refine And.intro ?_ ?_ | intro _))
    all_goals first | omega | skip
    all_goals rw [show k = L.length by omega]

def kheldTokS : Ctr := pur (fun args => (decTok (aR args 0), aI args 1)) (fun x => [.sl 3 (x.1.map encTok), .v (.int .i64 x.2)]) (fun x => x.1.length ≤ 4398046511104 ∧ 0 ≤ x.2 ∧ x.2 ≤ 500000000000000)
  (fun _ x => .v (.int .i64 (if x.1 = marksTok x.2 x.1.length then x.2 + 3 * x.1.length else -1))) (fun _ _ => [])
theorem cheldTokS : Cn Tryd.prog 23 kheldTokS := by
  refine Cn.pur Tryd.func23 (by kernel_rfl) rfl fun d x hx => ?_
  obtain ⟨L, k0⟩ := x
  obtain ⟨hL, h0, h1⟩ := hx
  simp only at hL h0 h1 ⊢
  refine Holds.go (c := cxMkTok) Tryd.func23 rfl Tryd.results23 Tryd.ntmps23 (by omega) (by simp) rfl ?_
  intro X0 w0
  (repeat' (first | refine WP.seq ?_ | refine WP.block ?_ | ((first | refine WP.region ?_ | refine WP.condW ?_ | refine WP.ret ?_ | refine WP.exit ?_ | refine WP.skip ?_); simp only [go_sem, tyAll, Nat.reduceAdd, Nat.reduceLT, Nat.reduceLeDiff, Nat.reduceEqDiff, Nat.reduceMul, Nat.reduceSub, Nat.reduceGT, reduceIte, Int.reduceNeg, Int.reduceToNat]) | ((first | refine WP.drawW 8 (by decide +kernel) (by kernel_rfl) ?_); simp only [go_sem, tyAll, Nat.reduceAdd, Nat.reduceLT, Nat.reduceLeDiff, Nat.reduceEqDiff, Nat.reduceMul, Nat.reduceSub, Nat.reduceGT, reduceIte, Int.reduceNeg, Int.reduceToNat]) |  refine And.intro ?_ ?_ | intro _))
  refine WP.loop (fun k : Nat => ⟨[(0, .sl 3 (L.map encTok)), (1, .v (.int .i64 (k0 + 3 * (k : Int)))), (5, .v (.int .i64 k))], []⟩) (fun k => k ≤ L.length ∧ L.take k = marksTok k0 k) (fun k => L.length - k) 0 (by simp [marksTok]) ?_ ?_
  · (simp only [go_sem, tyAll, Nat.reduceAdd, Nat.reduceLT, Nat.reduceLeDiff, Nat.reduceEqDiff, Nat.reduceMul, Nat.reduceSub, Nat.reduceGT, reduceIte, Int.reduceNeg, Int.reduceToNat] <;> (first | rfl | exact ⟨rfl, rfl⟩ | exact ⟨rfl, rfl, rfl⟩ | exact ⟨rfl, rfl, rfl, rfl⟩ | exact ⟨rfl, rfl, rfl, rfl, rfl⟩ | exact ⟨⟨rfl, rfl⟩, rfl⟩ | simp))
  intro k ⟨hk, ht⟩
  by_cases hlt : k < L.length
  · have h3 := rowAt_map encTok L k hlt
    (repeat' (first | refine WP.seq ?_ | refine WP.block ?_ | ((first | refine WP.region ?_ | refine WP.condW ?_ | refine WP.ret ?_ | refine WP.exit ?_ | refine WP.skip ?_); simp only [go_sem, h3, encTok, tyAll, Nat.reduceAdd, Nat.reduceLT, Nat.reduceLeDiff, Nat.reduceEqDiff, Nat.reduceMul, Nat.reduceSub, Nat.reduceGT, reduceIte, Int.reduceNeg, Int.reduceToNat]) | ((first | refine WP.drawW 8 (by decide +kernel) (by kernel_rfl) ?_); simp only [go_sem, h3, encTok, tyAll, Nat.reduceAdd, Nat.reduceLT, Nat.reduceLeDiff, Nat.reduceEqDiff, Nat.reduceMul, Nat.reduceSub, Nat.reduceGT, reduceIte, Int.reduceNeg, Int.reduceToNat]) |  refine And.intro ?_ ?_ | intro _))
    all_goals first | omega | skip
    · rename_i hne
      rw [if_neg]
      intro e
      have e2 : L[k] = (marksTok k0 L.length)[k]'(by rw [marksTok_len]; exact hlt) := by congr 1
      exact hne (by rw [e2]; simp [marksTok, mrkTok])
    · rename_i hne
      rw [if_neg]
      intro e
      have e2 : L[k] = (marksTok k0 L.length)[k]'(by rw [marksTok_len]; exact hlt) := by congr 1
      exact hne (by rw [e2]; simp [marksTok, mrkTok])
    · rename_i hne
      rw [if_neg]
      intro e
      have e2 : L[k] = (marksTok k0 L.length)[k]'(by rw [marksTok_len]; exact hlt) := by congr 1
      exact hne (by rw [e2]; simp [marksTok, mrkTok])
    · rename_i g0 g1 g2
      refine ⟨k + 1, ⟨by omega, ?_⟩, by omega, ?_, rfl⟩
      · have he : L[k] = mrkTok (k0 + 3 * (k : Int)) := extTok g0 g1 g2
        rw [List.take_succ_eq_append_getElem hlt, ht, he]; simp [marksTok, List.range_succ]
      · rw [show k0 + 3 * (k : Int) + 1 + 1 + 1 = k0 + 3 * ((k + 1 : Nat) : Int) by omega]
  · (repeat' (first | refine WP.seq ?_ | refine WP.block ?_ | ((first | refine WP.region ?_ | refine WP.condW ?_ | refine WP.ret ?_ | refine WP.exit ?_ | refine WP.skip ?_); simp only [go_sem, tyAll, Nat.reduceAdd, Nat.reduceLT, Nat.reduceLeDiff, Nat.reduceEqDiff, Nat.reduceMul, Nat.reduceSub, Nat.reduceGT, reduceIte, Int.reduceNeg, Int.reduceToNat]) | ((first | refine WP.drawW 8 (by decide +kernel) (by kernel_rfl) ?_); simp only [go_sem, tyAll, Nat.reduceAdd, Nat.reduceLT, Nat.reduceLeDiff, Nat.reduceEqDiff, Nat.reduceMul, Nat.reduceSub, Nat.reduceGT, reduceIte, Int.reduceNeg, Int.reduceToNat]) |  refine And.intro ?_ ?_ | intro _))
    all_goals first | omega | skip
    rw [show k = L.length by omega, List.take_length] at ht
    rw [if_pos ht, show k = L.length by omega]

section
open Go.RowKit Go.WideShapes Go.ChangeShapes Go.Deep
end
end
end Go.Proofs.YtdhkhapbldkkdaaDoor
/-
  DERIVED. Lists that own the lists in their cells: a row opened and shut again, one of its lists taken out and put back.
-/
namespace Go.Vc
set_option linter.unusedVariables false
set_option linter.unusedSimpArgs false

/-- what is told anew of the objects, the world as it is -/
inductive Gh where
  /-- a list of cells that hold no memory owns what is in its cells -/
  | dp (id : Nat)
  /-- row i stands open -/
  | opn (id i : Nat)
  /-- cell k's list is an object of its own, j -/
  | bor (id k j : Nat)
  /-- .. whose cells hold no memory -/
  | borV (id k j : Nat)
  /-- cell k's object is a list of the row again -/
  | abs (id k : Nat)
  /-- the row is shut -/
  | fld (id : Nat)

def SV.flat (c : SV) : Bool := match c with
  | .v _ => true
  | .sl _ _ => true
  | _ => false
def St.gh (st : St) (K : St → Prop) : Gh → Prop
  | .dp id => match lk id st.hp with
    | some (.sl e s rows) => allVs rows ∧ K (st.wrt id (.dp e s rows))
    | some (.dp e s rows) => K st
    | _ => False
  | .opn id i => match lk id st.hp with
    | some (.dp e s rows) => i < rows.length ∧ K (st.wrt id (.dq e s rows i (rowAt rows i)))
    | _ => False
  | .bor id k j => match lk id st.hp with
    | some (.dq e s rows i row0) => match row0[k]? with
      | some (.sl s' rows') => j < 1000000 ∧ j ≠ id ∧ ∀ e', K { fr := (st.kill j).fr, hp := (j, .dp e' s' rows') :: (id, .dq e s rows i ((row0.map (SV.upq (SV.kill j))).set k (.own j))) :: er id (st.kill j).hp }
      | _ => False
    | _ => False
  | .borV id k j => match lk id st.hp with
    | some (.dq e s rows i row0) => match row0[k]? with
      | some (.sl s' rows') => j < 1000000 ∧ j ≠ id ∧ allVs rows' ∧ ∀ e', K { fr := (st.kill j).fr, hp := (j, .sl e' s' rows') :: (id, .dq e s rows i ((row0.map (SV.upq (SV.kill j))).set k (.own j))) :: er id (st.kill j).hp }
      | _ => False
    | _ => False
  | .abs id k => match lk id st.hp with
    | some (.dq e s rows i row0) => match row0[k]? with
      | some (.own j) => j ≠ id ∧ (match lk j st.hp with
        | some (.sl e' s' rows') => allVs rows' ∧ K { fr := (st.kill j).fr, hp := (id, .dq e s rows i ((row0.map (SV.upq (SV.kill j))).set k (.sl s' rows'))) :: er id (st.kill j).hp }
        | some (.dp e' s' rows') => K { fr := (st.kill j).fr, hp := (id, .dq e s rows i ((row0.map (SV.upq (SV.kill j))).set k (.sl s' rows'))) :: er id (st.kill j).hp }
        | _ => False)
      | _ => False
    | _ => False
  | .fld id => match lk id st.hp with
    | some (.dq e s rows i row0) => (row0.all SV.flat) = true ∧ K (st.wrt id (.dp e s (rows.set i row0)))
    | _ => False
def St.gho (st : St) (K : St → Prop) : List Gh → Prop
  | [] => K st
  | g :: l => st.gh (fun st' => st'.gho K l) g

section
variable {N : Nat} {X0 : Nat → Prop} {M : Nat → BV → Prop} {w0 : World} {st : St} {β : Nat → BV} {a : Act} {w : World}

theorem Sim.reob (h : Sim N X0 M w0 st β a w) {j : Nat} {ob ob' : Ob} (hj : lk j st.hp = some ob) (hob : ObR w (XX X0 β st.hp) β (β j) ob → ObR w (XX X0 β st.hp) β (β j) ob') : Sim N X0 M w0 (st.wrt j ob') β a w :=
  h.write hj rfl rfl rfl (Nat.le_refl _) (fun _ _ _ => rfl) (hob (h.objs j ob hj))

theorem XX_ghost {hp' : List (Nat × Ob)} {β' : Nat → BV} (hft : ∀ id ob b, lk id hp' = some ob → (β' id).ft b → ∃ i o, lk i st.hp = some o ∧ (β i).ft b) {b : Nat} (hb : XX X0 β' hp' b) : XX X0 β st.hp b := by
  rcases hb with hb | ⟨id, ob, hi, hb⟩
  · exact .inl hb
  · exact .inr (hft id ob b hi hb)
theorem Sim.ghost (h : Sim N X0 M w0 st β a w) {st' : St} {β' : Nat → BV} (hone : ∀ i, (β' i).val.oneCell' = true) (hpin : ∀ i, 1000000 ≤ i → (β' i).val = (β i).val)
    (hft : ∀ id ob b, lk id st'.hp = some ob → (β' id).ft b → ∃ i o, lk i st.hp = some o ∧ (β i).ft b)
    (hslots : ∀ t x', lk t st'.fr = some x' → ∃ x, lk t st.fr = some x ∧ ∀ v, R w (XX X0 β' st'.hp) β x v → R w (XX X0 β' st'.hp) β' x' v)
    (hobjs : ∀ id ob, lk id st'.hp = some ob → ObR w (XX X0 β' st'.hp) β' (β' id) ob)
    (hinj : ∀ i j oi oj b, lk i st'.hp = some oi → lk j st'.hp = some oj → (β' i).ft b → (β' j).ft b → i = j) : Sim N X0 M w0 st' β' a w := by
  have hS : Same (XX X0 β st.hp) w w := ⟨Nat.le_refl _, fun _ _ _ => rfl⟩
  exact { h with
    beta := hone
    slots := fun t x hx => by
      obtain ⟨y, h1, h2⟩ := hslots t x hx
      exact h2 _ ((h.slots t y h1).mono hS (fun b _ hb => XX_ghost hft hb))
    objs := hobjs
    inj := hinj
    mine := fun id ob b hi hb => by
      obtain ⟨i, o, h1, h2⟩ := hft id ob b hi hb
      exact h.mine i o b h1 h2
    pin := fun id u hm h1 => by rw [hpin id h1]; exact h.pin id u hm h1 }

theorem Dp.v_foot {x : Value} {v : Value} {F : Nat → Prop} (h : Dp w (.v x) v F) : v = x ∧ ∀ b, ¬ F b := by
  cases h with
  | v _ F hF => exact ⟨rfl, hF⟩
theorem Dp.v_of {c : SV} {v : Value} {F : Nat → Prop} (h : Dp w c v F) (hc : c.isSl = false) : c = .v v ∧ ∀ b, ¬ F b := by
  cases h with
  | v _ F hF => exact ⟨rfl, hF⟩
  | nil => cases hc
  | sl => cases hc
theorem isSl_eq {c : SV} (h : c.isSl = true) : ∃ s rows, c = .sl s rows := by
  cases c <;> first | exact ⟨_, _, rfl⟩ | cases h

/-- a list of cells that hold no memory, as one that owns what is in it .. -/
theorem ObR.sl_dp {X : Nat → Prop} {v : BV} {e s : Nat} {rows : List (List SV)} (h : ObR w X β v (.sl e s rows)) (hv : allVs rows) : ObR w X β v (.dp e s rows) := by
  cases h with
  | nil e s h => subst h; exact .dp (.nil s _ (fun b hb => by cases hb)) (fun b hb => by cases hb)
  | sl b cap cur us hv' hh h1 h2 h3 h4 h5 h6 h7 =>
    subst hv'
    refine .dp (.sl e b cap cur us (fun _ _ _ => False) _ hh h1 h2 h3 h4 (fun i k q1 q2 => ?_) (fun i k q1 q2 => ?_) (fun i k row c q1 q2 => ?_) (fun _ _ _ hf => hf.elim) (fun _ _ hf => hf) (fun _ _ _ _ _ hf => hf.elim) (fun b' => ?_)) (fun b' hb => ?_)
    · obtain ⟨row, c, r1, r2⟩ := row_cell h4 q1 q2
      exact h5 i k row c r1 r2
    · obtain ⟨row, c, r1, r2⟩ := row_cell h4 q1 q2
      exact h6 i k row c r1 r2
    · obtain ⟨x, rfl⟩ := hv row (List.mem_of_getElem? q1) c (List.mem_of_getElem? q2)
      have := h7 i k row _ q1 q2
      generalize us i k = u at this
      cases this
      exact .v x _ (fun _ hf => hf)
    · show blk (.slice (some ⟨b, 0, none⟩) rows.length cap) = some b' ↔ _
      simp [blk, eq_comm]
    · have hb' : some b = some b' := hb
      injection hb' with hb'
      subst hb'
      exact ⟨cur, hh⟩
/-- .. and back -/
theorem Dp.dp_sl {X : Nat → Prop} {s : Nat} {rows : List (List SV)} {v : Value} {F : Nat → Prop} (h : Dp w (.sl s rows) v F) (hv : allVs rows) : ∃ e, ObR w X β ⟨v, F⟩ (.sl e s rows) := by
  cases h with
  | nil s F hF => exact ⟨0, .nil 0 s (by
      unfold nilB plain
      congr 1
      funext b
      exact propext ⟨fun h => absurd h (hF b), fun h => by cases h⟩)⟩
  | sl e b cap cur us fs F hh h1 h2 h3 h4 h5 h6 h7 h8 h9 h10 hF =>
    have hempty : ∀ i k b', ¬ fs i k b' := fun i k b' hb => by
      obtain ⟨q1, q2⟩ := h8 i k b' hb
      obtain ⟨row, c, r1, r2⟩ := row_cell h4 q1 q2
      obtain ⟨x, rfl⟩ := hv row (List.mem_of_getElem? r1) c (List.mem_of_getElem? r2)
      exact (h7 i k row _ r1 r2).v_foot.2 b' hb
    refine ⟨e, .sl b cap cur us ?_ hh h1 h2 h3 h4 (fun i k row c r1 r2 => h5 i k (row_lt h4 r1 r2).1 (row_lt h4 r1 r2).2) (fun i k row c r1 r2 => h6 i k (row_lt h4 r1 r2).1 (row_lt h4 r1 r2).2) (fun i k row c r1 r2 => ?_)⟩
    · unfold plain
      congr 1
      funext b'
      refine propext ((hF b').trans ⟨fun h => ?_, fun h => .inl ?_⟩)
      · rcases h with rfl | ⟨i, k, h⟩
        · rfl
        · exact absurd h (hempty i k b')
      · have hb' : some b = some b' := h
        injection hb' with hb'
        exact hb'.symm
    · obtain ⟨x, rfl⟩ := hv row (List.mem_of_getElem? r1) c (List.mem_of_getElem? r2)
      have := (h7 i k row _ r1 r2).v_foot.1
      rw [this]
      exact .v x
theorem Dp.dp_ob {X : Nat → Prop} {s : Nat} {rows : List (List SV)} {v : Value} {F : Nat → Prop} (h : Dp w (.sl s rows) v F) : ∃ e, ObR w X β ⟨v, F⟩ (.dp e s rows) := by
  have h0 := h
  cases h with
  | nil s F hF => exact ⟨0, .dp h0 (fun b hb => by cases hb)⟩
  | sl e b cap cur us fs F hh => exact ⟨e, .dp h0 (fun b' hb => by
      have hb' : some b = some b' := hb
      injection hb' with hb'
      subst hb'
      exact ⟨cur, hh⟩)⟩

theorem ObR.dp_dq {X : Nat → Prop} {v : BV} {e s i : Nat} {rows : List (List SV)} (h : ObR w X β v (.dp e s rows)) (hi : i < rows.length) : ObR w X β v (.dq e s rows i (rowAt rows i)) := by
  cases h with
  | dp hd he =>
    obtain ⟨vv, F⟩ := v
    simp only at hd he
    have hrow : rows[i]? = some (rowAt rows i) := by unfold rowAt; rw [List.getElem?_eq_getElem hi]; rfl
    cases hd with
    | nil => simp at hi
    | sl e' b cap cur us fs F hh h1 h2 h3 h4 h5 h6 h7 h8 h9 h10 hF =>
      obtain ⟨cur', hcur'⟩ := he b rfl
      rw [hh] at hcur'
      cases hcur'
      refine .dq b cap cur us fs rfl hh h1 h2 h3 hi (h4 i _ hrow) h4 h5 h6 (fun i' k row c _ r1 r2 => h7 i' k row c r1 r2) (fun k c hc => ?_) h8 h9 h10 hF
      have hd := h7 i k _ c hrow hc
      cases hsl : c.isSl with
      | true => exact .inl ⟨hsl, hd⟩
      | false =>
        obtain ⟨e1, e2⟩ := hd.v_of hsl
        refine .inr ⟨hsl, ?_, e2⟩
        rw [e1]; exact .p (.v _)
theorem ObR.dq_dp {X : Nat → Prop} {v : BV} {e s i : Nat} {rows : List (List SV)} {row0 : List SV} (h : ObR w X β v (.dq e s rows i row0)) (hall : row0.all SV.flat = true) : ObR w X β v (.dp e s (rows.set i row0)) := by
  cases h with
  | dq b cap cur us fs hv hh h1 h2 h3 h4 h5 h6 h7 h8 h9 h10 h11 h12 h13 hF =>
    have hlen : ∀ (i' : Nat) (row : List SV), (rows.set i row0)[i']? = some row → row.length = s := fun i' row hr => by
      rw [List.getElem?_set] at hr
      split at hr
      · simp only [h4, if_true, Option.some.injEq] at hr
        rw [← hr]; exact h5
      · exact h6 i' row hr
    refine .dp ?_ (fun b' hb => ?_)
    · rw [hv]
      have := Dp.sl (w := w) (s := s) (rows := rows.set i row0) e b cap cur us fs v.ft hh (by rw [List.length_set]; exact h1) h2 h3 hlen (fun i' k q1 q2 => h7 i' k (by rwa [List.length_set] at q1) q2) (fun i' k q1 q2 => h8 i' k (by rwa [List.length_set] at q1) q2)
        (fun i' k row c r1 r2 => ?_) (fun i' k b' hb => by rw [List.length_set]; exact h11 i' k b' hb) h12 h13 hF
      · rw [List.length_set] at this; exact this
      · rw [List.getElem?_set] at r1
        split at r1
        · rename_i he
          subst he
          simp only [h4, if_true, Option.some.injEq] at r1
          subst r1
          have hfl := List.all_eq_true.1 hall c (List.mem_of_getElem? r2)
          rcases h10 k c r2 with ⟨_, hd⟩ | ⟨q1, q2, q3⟩
          · exact hd
          · cases c with
            | v x => have := q2.v_inv; rw [this]; exact .v x _ q3
            | sl _ _ => cases q1
            | _ => cases hfl
        · rename_i hne
          exact h9 i' k row c (fun e => hne e.symm) r1 r2
    · rw [hv] at hb
      have hb' : some b = some b' := hb
      injection hb' with hb'
      subst hb'
      exact ⟨cur, hh⟩

theorem upq_isSl {f : SV → SV} {c : SV} (h : c.isSl = true) : c.upq f = c := by unfold SV.upq; rw [if_pos h]

/-- cell k of the open row, taken out as object j -/
theorem Sim.bor (h : Sim N X0 M w0 st β a w) {id k j e s i s' : Nat} {rows rows' : List (List SV)} {row0 : List SV} (hl : lk id st.hp = some (.dq e s rows i row0)) (hk : row0[k]? = some (.sl s' rows')) (hj : j < 1000000) (hne : j ≠ id)
    {ob : Nat → Ob} (hob : ∀ (X : Nat → Prop) (β : Nat → BV) (v : Value) (F : Nat → Prop), Dp w (.sl s' rows') v F → ∃ e', ObR w X β ⟨v, F⟩ (ob e')) (hobe : ∀ e', (∀ X β β' v, ObR w X β v (ob e') → ObR w X β' v (ob e'))) :
    ∃ e' β', Sim N X0 M w0 { fr := (st.kill j).fr, hp := (j, ob e') :: (id, .dq e s rows i ((row0.map (SV.upq (SV.kill j))).set k (.own j))) :: er id (st.kill j).hp } β' a w := by
  have hO := h.objs id _ hl
  generalize hbv : β id = bv at hO
  cases hO with
  | dq b cap cur us fs hv hh h1 h2 h3 h4 h5 h6 h7 h8 h9 h10 h11 h12 h13 hF =>
    have hks : k < s := by rw [← h5]; exact (List.getElem?_eq_some_iff.1 hk).1
    have hD : Dp w (.sl s' rows') (us i k) (fs i k) := by
      rcases h10 k _ hk with ⟨_, hd⟩ | ⟨q, _⟩
      · exact hd
      · cases q
    obtain ⟨e', he'⟩ := hob (XX X0 β st.hp) β _ _ hD
    let fs' : Nat → Nat → Nat → Prop := fun i' k' b' => fs i' k' b' ∧ ¬ (i' = i ∧ k' = k)
    let vid : BV := ⟨bv.val, fun b' => b' = b ∨ ∃ i' k', fs' i' k' b'⟩
    let β' : Nat → BV := fun q => if q = j then ⟨us i k, fs i k⟩ else if q = id then vid else β q
    have hβj : β' j = ⟨us i k, fs i k⟩ := if_pos rfl
    have hβid : β' id = vid := by show (if id = j then _ else if id = id then vid else _) = _; rw [if_neg (fun e => hne e.symm), if_pos rfl]
    have hβo : ∀ q, q ≠ j → q ≠ id → β' q = β q := fun q h1 h2 => by show (if q = j then _ else if q = id then vid else _) = _; rw [if_neg h1, if_neg h2]
    have hβv : ∀ q, q ≠ j → (β' q).val = (β q).val := fun q hq => by
      by_cases hid : q = id
      · rw [hid, hβid, hbv]
      · rw [hβo q hq hid]
    have hlk : ∀ (t : Nat) (o : Ob), lk t ((j, ob e') :: (id, .dq e s rows i ((row0.map (SV.upq (SV.kill j))).set k (.own j))) :: er id (st.kill j).hp) = some o →
        (t = j ∧ o = ob e') ∨ (t = id ∧ o = .dq e s rows i ((row0.map (SV.upq (SV.kill j))).set k (.own j))) ∨ (t ≠ j ∧ t ≠ id ∧ ∃ o0, lk t st.hp = some o0 ∧ o = o0.kill j) := fun t o ht => by
      simp only [lk] at ht
      by_cases e1 : t = j
      · rw [if_pos e1] at ht; cases ht; exact .inl ⟨e1, rfl⟩
      · rw [if_neg e1] at ht
        by_cases e2 : t = id
        · rw [if_pos e2] at ht; cases ht; exact .inr (.inl ⟨e2, rfl⟩)
        · rw [if_neg e2, lk_er_ne e2, lk_kill_ne e1] at ht
          cases hq : lk t st.hp with
          | none => rw [hq] at ht; cases ht
          | some o0 => rw [hq] at ht; exact .inr (.inr ⟨e1, e2, o0, rfl, by simpa using ht.symm⟩)
    have hftid : ∀ b', vid.ft b' → bv.ft b' := fun b' hb => (hF b').2 (hb.imp _root_.id fun ⟨i', k', q, _⟩ => ⟨i', k', q⟩)
    have hftj : ∀ b', fs i k b' → bv.ft b' := fun b' hb => (hF b').2 (.inr ⟨i, k, hb⟩)
    have hft : ∀ t o b', lk t ((j, ob e') :: (id, .dq e s rows i ((row0.map (SV.upq (SV.kill j))).set k (.own j))) :: er id (st.kill j).hp) = some o → (β' t).ft b' → ∃ t0 o0, lk t0 st.hp = some o0 ∧ (β t0).ft b' ∧ (t = j ∨ t = id → t0 = id) ∧ (t ≠ j → t0 = t) := fun t o b' ht hb => by
      rcases hlk t o ht with ⟨rfl, _⟩ | ⟨rfl, _⟩ | ⟨n1, n2, o0, q, _⟩
      · rw [hβj] at hb; exact ⟨id, _, hl, by rw [hbv]; exact hftj b' hb, fun _ => rfl, fun q => absurd rfl q⟩
      · rw [hβid] at hb; exact ⟨t, _, hl, by rw [hbv]; exact hftid b' hb, fun _ => rfl, fun _ => rfl⟩
      · rw [hβo t n1 n2] at hb; exact ⟨t, o0, q, hb, fun q => by rcases q with q | q <;> contradiction, fun _ => rfl⟩
    have hft1 : ∀ t o b', lk t ((j, ob e') :: (id, .dq e s rows i ((row0.map (SV.upq (SV.kill j))).set k (.own j))) :: er id (st.kill j).hp) = some o → (β' t).ft b' → ∃ t0 o0, lk t0 st.hp = some o0 ∧ (β t0).ft b' := fun t o b' ht hb => by
      obtain ⟨t0, o0, q1, q2, _⟩ := hft t o b' ht hb
      exact ⟨t0, o0, q1, q2⟩
    have hS : Same (XX X0 β st.hp) w w := ⟨Nat.le_refl _, fun _ _ _ => rfl⟩
    refine ⟨e', β', h.ghost (fun q => ?_) (fun q hq => hβv q (by omega)) hft1 (fun t x' hx => ?_) (fun t o ht => ?_) (fun p q op oq b' hp hq hbp hbq => ?_)⟩
    · by_cases hq : q = j
      · rw [hq, hβj]; exact h8 i k h4 hks
      · rw [hβv q hq]; exact h.beta q
    · simp only [St.kill, lk_map] at hx
      cases hy : lk t st.fr with
      | none => rw [hy] at hx; cases hx
      | some y =>
        rw [hy] at hx
        have hx' : y.kill j = x' := by simpa using hx
        subst hx'
        exact ⟨y, rfl, fun v hR => hR.kill hβv⟩
    · rcases hlk t o ht with ⟨rfl, rfl⟩ | ⟨rfl, rfl⟩ | ⟨n1, n2, o0, q, rfl⟩
      · rw [hβj]
        exact hobe e' _ _ _ _ (he'.mono hS (fun b' _ hb => XX_ghost hft1 hb) (fun _ _ => rfl))
      · rw [hβid]
        refine .dq b cap cur us fs' hv hh h1 h2 h3 h4 (by simp [h5]) h6 h7 h8 (fun i' k' row c q0 r1 r2 => (h9 i' k' row c q0 r1 r2).ext fun b' => ⟨fun g => g.1, fun g => ⟨g, fun g2 => q0 g2.1⟩⟩) (fun k' c hc => ?_) (fun i' k' b' g => h11 i' k' b' g.1) (fun i' k' g => h12 i' k' g.1) (fun i1 k1 i2 k2 b' g1 g2 => h13 i1 k1 i2 k2 b' g1.1 g2.1) (fun b' => Iff.rfl)
        rw [List.getElem?_set] at hc
        split at hc
        · rename_i hkk
          subst hkk
          simp only [List.length_map, h5, hks, if_true, Option.some.injEq] at hc
          subst hc
          have hR := R.own (w := w) (X := XX X0 β' ((j, ob e') :: (t, .dq e s rows i ((row0.map (SV.upq (SV.kill j))).set k (.own j))) :: er t (st.kill j).hp)) (β := β') j
          rw [hβj] at hR
          exact .inr ⟨rfl, hR, fun b' g => g.2 ⟨rfl, rfl⟩⟩
        · rename_i hkk
          obtain ⟨c0, hc0, rfl⟩ := map_get hc
          have hex : ∀ b', fs' i k' b' ↔ fs i k' b' := fun b' => ⟨fun g => g.1, fun g => ⟨g, fun g2 => hkk g2.2.symm⟩⟩
          have h0 : DqC w (XX X0 β' ((j, ob e') :: (t, .dq e s rows i ((row0.map (SV.upq (SV.kill j))).set k (.own j))) :: er t (st.kill j).hp)) β' (c0.upq (SV.kill j)) (us i k') (fs i k') :=
            (h10 k' c0 hc0).upq fun hR => R.kill hβv (hR.mono (X' := XX X0 β' ((j, ob e') :: (t, .dq e s rows i ((row0.map (SV.upq (SV.kill j))).set k (.own j))) :: er t (st.kill j).hp)) hS (fun b' _ hb => XX_ghost hft1 hb))
          rcases h0 with ⟨g1, g2⟩ | ⟨g1, g2, g3⟩
          · exact .inl ⟨g1, g2.ext hex⟩
          · exact .inr ⟨g1, g2, fun b' g => g3 b' ((hex b').1 g)⟩
      · rw [hβo t n1 n2]
        exact ((h.objs t o0 q).mono hS (fun b' _ hb => XX_ghost hft1 hb) (fun _ _ => rfl)).kill hβv
    · obtain ⟨t1, o1, q1, q2, q3, q4⟩ := hft p op b' hp hbp
      obtain ⟨t2, o2, r1, r2, r3, r4⟩ := hft q oq b' hq hbq
      have := h.inj t1 t2 o1 o2 b' q1 r1 q2 r2
      subst this
      by_cases p1 : p = j <;> by_cases p2 : q = j
      · rw [p1, p2]
      · exfalso
        have := r4 p2
        have := q3 (.inl p1)
        have hqi : q = id := by omega
        rw [p1, hβj] at hbp
        rw [hqi, hβid] at hbq
        have hbp : fs i k b' := hbp
        rcases hbq with g | ⟨i', k', g, g2⟩
        · exact h12 i k (g ▸ hbp)
        · exact g2 (h13 i' k' i k b' g hbp)
      · exfalso
        have := q4 p1
        have := r3 (.inl p2)
        have hpi : p = id := by omega
        rw [p2, hβj] at hbq
        rw [hpi, hβid] at hbp
        have hbq : fs i k b' := hbq
        rcases hbp with g | ⟨i', k', g, g2⟩
        · exact h12 i k (g ▸ hbq)
        · exact g2 (h13 i' k' i k b' g hbq)
      · have := q4 p1
        have := r4 p2
        omega

/-- cell k's object, a list of the row again -/
theorem Sim.absb (h : Sim N X0 M w0 st β a w) {id k j e s i s' : Nat} {rows rows' : List (List SV)} {row0 : List SV} {oj : Ob} (hl : lk id st.hp = some (.dq e s rows i row0)) (hk : row0[k]? = some (.own j)) (hne : j ≠ id)
    (hoj : lk j st.hp = some oj) (hob : ObR w (XX X0 β st.hp) β (β j) oj → Dp w (.sl s' rows') (β j).val (β j).ft) :
    ∃ β', Sim N X0 M w0 { fr := (st.kill j).fr, hp := (id, .dq e s rows i ((row0.map (SV.upq (SV.kill j))).set k (.sl s' rows'))) :: er id (st.kill j).hp } β' a w := by
  have hO := h.objs id _ hl
  have hD := hob (h.objs j oj hoj)
  have hdisj : ∀ b', (β j).ft b' → ¬ (β id).ft b' := fun b' g1 g2 => hne (h.inj j id oj _ b' hoj hl g1 g2)
  generalize hbv : β id = bv at hO hdisj
  cases hO with
  | dq b cap cur us fs hv hh h1 h2 h3 h4 h5 h6 h7 h8 h9 h10 h11 h12 h13 hF =>
    have hks : k < s := by rw [← h5]; exact (List.getElem?_eq_some_iff.1 hk).1
    have hR0 : us i k = (β j).val ∧ ∀ b', ¬ fs i k b' := by
      rcases h10 k _ hk with ⟨q, _⟩ | ⟨_, hR, g⟩
      · cases q
      · exact ⟨hR.own_inv, g⟩
    let fs' : Nat → Nat → Nat → Prop := fun i' k' b' => if i' = i ∧ k' = k then (β j).ft b' else fs i' k' b'
    have hfs1 : ∀ b', fs' i k b' ↔ (β j).ft b' := fun b' => by show (if i = i ∧ k = k then _ else _) ↔ _; rw [if_pos ⟨rfl, rfl⟩]
    have hfs2 : ∀ i' k' b', ¬ (i' = i ∧ k' = k) → (fs' i' k' b' ↔ fs i' k' b') := fun i' k' b' hn => by show (if i' = i ∧ k' = k then _ else _) ↔ _; rw [if_neg hn]
    let vid : BV := ⟨bv.val, fun b' => b' = b ∨ ∃ i' k', fs' i' k' b'⟩
    let β' : Nat → BV := fun q => if q = id then vid else β q
    have hβid : β' id = vid := if_pos rfl
    have hβo : ∀ q, q ≠ id → β' q = β q := fun q h2 => if_neg h2
    have hβv : ∀ q, (β' q).val = (β q).val := fun q => by
      by_cases hid : q = id
      · rw [hid, hβid, hbv]
      · rw [hβo q hid]
    have hlk : ∀ (t : Nat) (o : Ob), lk t ((id, .dq e s rows i ((row0.map (SV.upq (SV.kill j))).set k (.sl s' rows'))) :: er id (st.kill j).hp) = some o →
        (t = id ∧ o = .dq e s rows i ((row0.map (SV.upq (SV.kill j))).set k (.sl s' rows'))) ∨ (t ≠ j ∧ t ≠ id ∧ ∃ o0, lk t st.hp = some o0 ∧ o = o0.kill j) := fun t o ht => by
      simp only [lk] at ht
      by_cases e2 : t = id
      · rw [if_pos e2] at ht; cases ht; exact .inl ⟨e2, rfl⟩
      · rw [if_neg e2, lk_er_ne e2] at ht
        by_cases e1 : t = j
        · subst e1; rw [lk_kill] at ht; cases ht
        · rw [lk_kill_ne e1] at ht
          cases hq : lk t st.hp with
          | none => rw [hq] at ht; cases ht
          | some o0 => rw [hq] at ht; exact .inr ⟨e1, e2, o0, rfl, by simpa using ht.symm⟩
    have hvid : ∀ b', vid.ft b' → bv.ft b' ∨ (β j).ft b' := fun b' hb => by
      rcases hb with g | ⟨i', k', g⟩
      · exact .inl ((hF b').2 (.inl g))
      · by_cases hik : i' = i ∧ k' = k
        · obtain ⟨rfl, rfl⟩ := hik; exact .inr ((hfs1 b').1 g)
        · exact .inl ((hF b').2 (.inr ⟨i', k', (hfs2 i' k' b' hik).1 g⟩))
    have hft : ∀ t o b', lk t ((id, .dq e s rows i ((row0.map (SV.upq (SV.kill j))).set k (.sl s' rows'))) :: er id (st.kill j).hp) = some o → (β' t).ft b' → ∃ t0 o0, lk t0 st.hp = some o0 ∧ (β t0).ft b' ∧ (t ≠ id → t0 = t) ∧ (t = id → t0 = id ∨ t0 = j) := fun t o b' ht hb => by
      rcases hlk t o ht with ⟨rfl, _⟩ | ⟨n1, n2, o0, q, _⟩
      · rw [hβid] at hb
        rcases hvid b' hb with g | g
        · exact ⟨t, _, hl, by rw [hbv]; exact g, fun q => absurd rfl q, fun _ => .inl rfl⟩
        · exact ⟨j, _, hoj, g, fun q => absurd rfl q, fun _ => .inr rfl⟩
      · rw [hβo t n2] at hb; exact ⟨t, o0, q, hb, fun _ => rfl, fun q => absurd q n2⟩
    have hft1 : ∀ t o b', lk t ((id, .dq e s rows i ((row0.map (SV.upq (SV.kill j))).set k (.sl s' rows'))) :: er id (st.kill j).hp) = some o → (β' t).ft b' → ∃ t0 o0, lk t0 st.hp = some o0 ∧ (β t0).ft b' := fun t o b' ht hb => by
      obtain ⟨t0, o0, q1, q2, _⟩ := hft t o b' ht hb
      exact ⟨t0, o0, q1, q2⟩
    have hS : Same (XX X0 β st.hp) w w := ⟨Nat.le_refl _, fun _ _ _ => rfl⟩
    refine ⟨β', h.ghost (fun q => by rw [hβv]; exact h.beta q) (fun q _ => hβv q) hft1 (fun t x' hx => ?_) (fun t o ht => ?_) (fun p q op oq b' hp hq hbp hbq => ?_)⟩
    · simp only [St.kill, lk_map] at hx
      cases hy : lk t st.fr with
      | none => rw [hy] at hx; cases hx
      | some y =>
        rw [hy] at hx
        have hx' : y.kill j = x' := by simpa using hx
        subst hx'
        exact ⟨y, rfl, fun v hR => hR.kill fun q _ => hβv q⟩
    · rcases hlk t o ht with ⟨rfl, rfl⟩ | ⟨n1, n2, o0, q, rfl⟩
      · rw [hβid]
        refine .dq b cap cur us fs' hv hh h1 h2 h3 h4 (by simp [h5]) h6 h7 h8 (fun i' k' row c q0 r1 r2 => (h9 i' k' row c q0 r1 r2).ext fun b' => hfs2 i' k' b' (fun g => q0 g.1)) (fun k' c hc => ?_) (fun i' k' b' g => ?_) (fun i' k' g => ?_) (fun i1 k1 i2 k2 b' g1 g2 => ?_) (fun b' => Iff.rfl)
        · rw [List.getElem?_set] at hc
          split at hc
          · rename_i hkk
            subst hkk
            simp only [List.length_map, h5, hks, if_true, Option.some.injEq] at hc
            subst hc
            refine .inl ⟨rfl, ?_⟩
            rw [hR0.1]
            exact hD.ext hfs1
          · rename_i hkk
            obtain ⟨c0, hc0, rfl⟩ := map_get hc
            have hex : ∀ b', fs' i k' b' ↔ fs i k' b' := fun b' => hfs2 i k' b' (fun g2 => hkk g2.2.symm)
            have h0 := (h10 k' c0 hc0).upq (f := SV.kill j) (X' := XX X0 β' ((t, .dq e s rows i ((row0.map (SV.upq (SV.kill j))).set k (.sl s' rows'))) :: er t (st.kill j).hp)) (β' := β') fun hR => R.kill (fun q _ => hβv q) (hR.mono (X' := XX X0 β' ((t, .dq e s rows i ((row0.map (SV.upq (SV.kill j))).set k (.sl s' rows'))) :: er t (st.kill j).hp)) hS (fun b' _ hb => XX_ghost hft1 hb))
            rcases h0 with ⟨g1, g2⟩ | ⟨g1, g2, g3⟩
            · exact .inl ⟨g1, g2.ext hex⟩
            · exact .inr ⟨g1, g2, fun b' g => g3 b' ((hex b').1 g)⟩
        · by_cases hik : i' = i ∧ k' = k
          · obtain ⟨rfl, rfl⟩ := hik; exact ⟨h4, hks⟩
          · exact h11 i' k' b' ((hfs2 i' k' b' hik).1 g)
        · by_cases hik : i' = i ∧ k' = k
          · obtain ⟨rfl, rfl⟩ := hik
            exact hdisj b ((hfs1 b).1 g) ((hF b).2 (.inl rfl))
          · exact h12 i' k' ((hfs2 i' k' b hik).1 g)
        · by_cases hik1 : i1 = i ∧ k1 = k <;> by_cases hik2 : i2 = i ∧ k2 = k
          · exact ⟨hik1.1.trans hik2.1.symm, hik1.2.trans hik2.2.symm⟩
          · obtain ⟨rfl, rfl⟩ := hik1
            exact absurd ((hF b').2 (.inr ⟨i2, k2, (hfs2 i2 k2 b' hik2).1 g2⟩)) (hdisj b' ((hfs1 b').1 g1))
          · obtain ⟨rfl, rfl⟩ := hik2
            exact absurd ((hF b').2 (.inr ⟨i1, k1, (hfs2 i1 k1 b' hik1).1 g1⟩)) (hdisj b' ((hfs1 b').1 g2))
          · exact h13 i1 k1 i2 k2 b' ((hfs2 i1 k1 b' hik1).1 g1) ((hfs2 i2 k2 b' hik2).1 g2)
      · rw [hβo t n2]
        exact ((h.objs t o0 q).mono hS (fun b' _ hb => XX_ghost hft1 hb) (fun _ _ => rfl)).kill fun q _ => hβv q
    · obtain ⟨t1, o1, q1, q2, q3, q4⟩ := hft p op b' hp hbp
      obtain ⟨t2, o2, r1, r2, r3, r4⟩ := hft q oq b' hq hbq
      have := h.inj t1 t2 o1 o2 b' q1 r1 q2 r2
      subst this
      have nj : ∀ {t o}, lk t ((id, .dq e s rows i ((row0.map (SV.upq (SV.kill j))).set k (.sl s' rows'))) :: er id (st.kill j).hp) = some o → t ≠ j := fun {t o} ht => by
        rcases hlk t o ht with ⟨rfl, _⟩ | ⟨n1, _⟩
        · exact fun e => hne e.symm
        · exact n1
      have n1 := nj hp
      have n2 := nj hq
      by_cases p1 : p = id <;> by_cases p2 : q = id
      · rw [p1, p2]
      · have := r3 p2
        rcases q4 p1 with g | g <;> omega
      · have := q3 p1
        rcases r4 p2 with g | g <;> omega
      · have := q3 p1
        have := r3 p2
        omega

theorem Sim.gh (h : Sim N X0 M w0 st β a w) {K : St → Prop} {g : Gh} (hK : st.gh K g) : ∃ st' β', K st' ∧ Sim N X0 M w0 st' β' a w := by
  cases g with
  | dp id =>
    simp only [St.gh] at hK
    split at hK
    · rename_i e s rows hl; exact ⟨_, β, hK.2, h.reob hl fun hO => hO.sl_dp hK.1⟩
    · exact ⟨st, β, hK, h⟩
    · exact hK.elim
  | opn id i =>
    simp only [St.gh] at hK
    split at hK
    · rename_i e s rows hl; exact ⟨_, β, hK.2, h.reob hl fun hO => hO.dp_dq hK.1⟩
    · exact hK.elim
  | bor id k j =>
    simp only [St.gh] at hK
    split at hK
    · rename_i e s rows i row0 hl
      split at hK
      · rename_i s' rows' hk
        obtain ⟨e', β', h'⟩ := h.bor hl hk hK.1 hK.2.1 (ob := fun e' => .dp e' s' rows') (fun X β v F hD => hD.dp_ob) (fun e' X β β' v hO => by cases hO with | dp hd he => exact .dp hd he)
        exact ⟨_, β', hK.2.2 e', h'⟩
      · exact hK.elim
    · exact hK.elim
  | borV id k j =>
    simp only [St.gh] at hK
    split at hK
    · rename_i e s rows i row0 hl
      split at hK
      · rename_i s' rows' hk
        obtain ⟨e', β', h'⟩ := h.bor hl hk hK.1 hK.2.1 (ob := fun e' => .sl e' s' rows') (fun X β v F hD => hD.dp_sl hK.2.2.1) (fun e' X β β' v hO => hO.sl_beta)
        exact ⟨_, β', hK.2.2.2 e', h'⟩
      · exact hK.elim
    · exact hK.elim
  | abs id k =>
    simp only [St.gh] at hK
    split at hK
    · rename_i e s rows i row0 hl
      split at hK
      · rename_i j hk
        obtain ⟨hne, hK⟩ := hK
        split at hK
        · rename_i e' s' rows' hj
          obtain ⟨β', h'⟩ := h.absb hl hk hne hj (s' := s') (rows' := rows') (fun hO => by
            have := hO.sl_dp hK.1
            cases this with
            | dp hd he => exact hd)
          exact ⟨_, β', hK.2, h'⟩
        · rename_i e' s' rows' hj
          obtain ⟨β', h'⟩ := h.absb hl hk hne hj (s' := s') (rows' := rows') (fun hO => by
            cases hO with
            | dp hd he => exact hd)
          exact ⟨_, β', hK, h'⟩
        · exact hK.elim
      · exact hK.elim
    · exact hK.elim
  | fld id =>
    simp only [St.gh] at hK
    split at hK
    · rename_i e s rows i row0 hl; exact ⟨_, β, hK.2, h.reob hl fun hO => hO.dq_dp hK.1⟩
    · exact hK.elim
theorem Sim.gho {a : Act} {w : World} {K : St → Prop} : ∀ {l : List Gh} {st : St} {β : Nat → BV}, Sim N X0 M w0 st β a w → st.gho K l → ∃ st' β', K st' ∧ Sim N X0 M w0 st' β' a w
  | [], st, β, h, hK => ⟨st, β, hK, h⟩
  | g :: l, st, β, h, hK => by
    obtain ⟨st1, β1, h1, h2⟩ := h.gh (g := g) hK
    exact Sim.gho h2 h1
end
section
variable {c : Cx} {N : Nat} {X0 : Nat → Prop} {M : Nat → BV → Prop} {w0 : World} {st : St} {K : Exit → St → Prop}
theorem WP.gho (l : List Gh) {code : Code} (h : st.gho (fun st' => WP c N X0 M w0 code st' K) l) : WP c N X0 M w0 code st K := fun hA β a w hs => by
  obtain ⟨st', β', h1, h2⟩ := hs.gho h
  exact h1 hA β' a w h2
/-- the same behind a piece of code -/
def ghoK (l : List Gh) (K : Exit → St → Prop) : Exit → St → Prop
  | .normal, st => st.gho (K .normal) l
  | e, st => K e st
theorem WP.post (l : List Gh) {code : Code} (h : WP c N X0 M w0 code st (ghoK l K)) : WP c N X0 M w0 code st K := fun hA β a w hs =>
  Code.wp_mono (fun e a' w' hq => by
    cases e with
    | normal =>
      obtain ⟨st', β', h1, h2⟩ := hq
      obtain ⟨st2, β2, h3, h4⟩ := h2.gho h1
      exact ⟨st2, β2, h3, h4⟩
    | _ => exact hq) (h hA β a w hs)
end

/-! ## a result that owns what is in it, as one that is read -/
theorem Holds.frozenD {P : Program} {f : FuncId} {args : List SV} {d e s : Nat} {rows : List (List SV)} (h : Holds P f args (.own d) [(d, .dp e s rows)]) : Holds P f args (.sl s rows) [] := by
  intro w X vs hG hX hl ha
  refine (h w X vs hG hX hl ha).mono fun en w' ⟨v, β, he, hb, hβ, hR, hO, hn⟩ => ?_
  refine ⟨v, β, he, hb, hβ, ?_, ⟨fun id ob hi => (by cases hi), fun i j oi oj b hi => (by cases hi)⟩, fun id ob b hi => (by cases hi)⟩
  have := hR.own_inv; subst this
  refine .p ((hO.1 d (.dp e s rows) (by simp [lk])).rd rfl (fun b hb' hx => ?_) (fun b hx => ?_))
  · have h1 := hn d (.dp e s rows) b (by simp [lk]) hb'
    rcases hx with hx | ⟨i, o, hi, _⟩
    · have := hX b hx; omega
    · cases hi
  · rcases hx with hx | ⟨i, o, hi, _⟩
    · exact .inl hx
    · cases hi
end Go.Vc

/-
  DERIVED. A list that a call hands back as its own, taken as one that may only be read.
-/
namespace Go.Vc
set_option linter.unusedVariables false
def allV (rows : List (List SV)) : Prop := ∀ row ∈ rows, ∀ c ∈ row, ∃ x, c = .v x
theorem ObR.toSl {w : World} {X X' : Nat → Prop} {β : Nat → BV} {v : BV} {e s : Nat} {rows : List (List SV)} (h : ObR w X' β v (.sl e s rows)) (hX : ∀ b, v.ft b → ¬ X b) (hv : allV rows) : Rp w X (.sl s rows) v.val := by
  cases h with
  | nil e s h => subst h; exact .nil s _ _
  | sl b cap cur us hv' hh h1 h2 h3 h4 h5 h6 h7 =>
    subst hv'
    refine .sl b 0 cap us (hX b rfl) (lt_of_heap hh) h1 h4 (fun i k row c hr hc => ?_) h6 (fun i k row c hr hc => ?_)
    · simp only [World.cell?, hh, Nat.zero_add]
      exact h5 i k row c hr hc
    · obtain ⟨x, rfl⟩ := hv row (List.mem_of_getElem? hr) c (List.mem_of_getElem? hc)
      have := h7 i k row _ hr hc
      cases this
      exact .v _
section
variable {P : Program} {f : FuncId} {args : List SV} {d e s : Nat} {rows : List (List SV)}
theorem Holds.frozen (h : Holds P f args (.own d) [(d, .sl e s rows)]) (hv : allV rows) : Holds P f args (.sl s rows) [] := by
  intro w X vs hG hX hl ha
  refine (h w X vs hG hX hl ha).mono fun en w' ⟨v, β, he, hb, hβ, hR, hO, hn⟩ => ?_
  refine ⟨v, β, he, hb, hβ, ?_, ⟨fun id ob hi => (by cases hi), fun i j oi oj b hi => (by cases hi)⟩, fun id ob b hi => (by cases hi)⟩
  have := hR.own_inv; subst this
  refine .p ((hO.1 d (.sl e s rows) (by simp [lk])).toSl (fun b hb' hx => ?_) hv)
  have h1 := hn d (.sl e s rows) b (by simp [lk]) hb'
  rcases hx with hx | ⟨i, o, hi, _⟩
  · have := hX b hx; omega
  · cases hi
theorem Holds.frozenT {y : Value} (h : Holds P f args (.tup [.own d, .v y]) [(d, .sl e s rows)]) (hv : allV rows) : Holds P f args (.tup [.sl s rows, .v y]) [] := by
  intro w X vs hG hX hl ha
  refine (h w X vs hG hX hl ha).mono fun en w' ⟨v, β, he, hb, hβ, hR, hO, hn⟩ => ?_
  refine ⟨v, β, he, hb, hβ, ?_, ⟨fun id ob hi => (by cases hi), fun i j oi oj b hi => (by cases hi)⟩, fun id ob b hi => (by cases hi)⟩
  obtain ⟨us, rfl, hul, hh⟩ := hR.tup_inv
  refine .tup hul fun k c u hc hu => ?_
  match k, hc with
  | 0, hc =>
    simp at hc; subst hc
    have := (hh 0 _ u rfl hu).own_inv
    subst this
    refine .p ((hO.1 d (.sl e s rows) (by simp [lk])).toSl (fun b hb' hx => ?_) hv)
    have h1 := hn d (.sl e s rows) b (by simp [lk]) hb'
    rcases hx with hx | ⟨i, o, hi, _⟩
    · have := hX b hx; omega
    · cases hi
  | 1, hc =>
    simp at hc; subst hc
    have := (hh 1 _ u rfl hu).v_inv
    subst this; exact .p (.v _)
  | k + 2, hc => simp at hc
end
/-- the same of a struct of two lists -/
theorem Holds.frozenA {P : Program} {f : FuncId} {args : List SV} {d1 d2 e1 s1 e2 s2 : Nat} {rows1 rows2 : List (List SV)} (hd : d1 ≠ d2) (h : Holds P f args (.agg [.own d1, .own d2]) [(d1, .sl e1 s1 rows1), (d2, .sl e2 s2 rows2)]) (hv1 : allV rows1) (hv2 : allV rows2) : Holds P f args (.agg [.sl s1 rows1, .sl s2 rows2]) [] := by
  intro w X vs hG hX hl ha
  refine (h w X vs hG hX hl ha).mono fun en w' ⟨v, β, he, hb, hβ, hR, hO, hn⟩ => ?_
  refine ⟨v, β, he, hb, hβ, ?_, ⟨fun id ob hi => (by cases hi), fun i j oi oj b hi => (by cases hi)⟩, fun id ob b hi => (by cases hi)⟩
  obtain ⟨us, rfl, hul, hh⟩ := hR.agg_inv
  have l1 : lk d1 [(d1, Ob.sl e1 s1 rows1), (d2, .sl e2 s2 rows2)] = some (.sl e1 s1 rows1) := by simp [lk]
  have l2 : lk d2 [(d1, Ob.sl e1 s1 rows1), (d2, .sl e2 s2 rows2)] = some (.sl e2 s2 rows2) := by simp [lk, Ne.symm hd]
  have key : ∀ {d e s : Nat} {rows : List (List SV)}, lk d [(d1, Ob.sl e1 s1 rows1), (d2, .sl e2 s2 rows2)] = some (.sl e s rows) → allV rows → R w' (XX X β []) β (.sl s rows) (β d).val := fun {d e s rows} hl hv => by
    refine .p ((hO.1 d _ hl).toSl (fun b hb' hx => ?_) hv)
    have h1 := hn d _ b hl hb'
    rcases hx with hx | ⟨i, o, hi, _⟩
    · have := hX b hx; omega
    · cases hi
  refine .agg hul fun k c u hc hu => ?_
  match k, hc with
  | 0, hc =>
    simp at hc; subst hc
    have := (hh 0 _ u rfl hu).own_inv
    subst this; exact key l1 hv1
  | 1, hc =>
    simp at hc; subst hc
    have := (hh 1 _ u rfl hu).own_inv
    subst this; exact key l2 hv2
  | k + 2, hc => simp at hc
theorem Cn.frozenA {P : Program} {f : FuncId} {X : Type} {dec : List SV → X} {A : X → List SV} {pre : X → Prop} {e1 s1 e2 s2 : Nat} {rows1 rows2 : X → List (List SV)} (hv1 : ∀ x, allV (rows1 x)) (hv2 : ∀ x, allV (rows2 x))
    (h : Cn P f (Go.Vc.pur dec A pre (fun d _ => .agg [.own d, .own (d + 1000)]) (fun d x => [(d, .sl e1 s1 (rows1 x)), (d + 1000, .sl e2 s2 (rows2 x))]))) : Cn P f (Go.Vc.pur dec A pre (fun _ x => .agg [.sl s1 (rows1 x), .sl s2 (rows2 x)]) (fun _ _ => [])) :=
  ⟨h.call, fun d args ha => (h.holds d args ha).frozenA (by omega) (hv1 _) (hv2 _), fun _ _ _ h => h.elim⟩
theorem Cn.frozen {P : Program} {f : FuncId} {X : Type} {dec : List SV → X} {A : X → List SV} {pre : X → Prop} {e s : Nat} {rows : X → List (List SV)} (hv : ∀ x, allV (rows x))
    (h : Cn P f (Go.Vc.pur dec A pre (fun d _ => .own d) (fun d x => [(d, .sl e s (rows x))]))) : Cn P f (Go.Vc.pur dec A pre (fun _ x => .sl s (rows x)) (fun _ _ => [])) :=
  ⟨h.call, fun d args ha => (h.holds d args ha).frozen (hv _), fun _ _ _ h => h.elim⟩
theorem Cn.frozenT {P : Program} {f : FuncId} {X : Type} {dec : List SV → X} {A : X → List SV} {pre : X → Prop} {e s : Nat} {rows : X → List (List SV)} {y : X → Value} (hv : ∀ x, allV (rows x))
    (h : Cn P f (Go.Vc.pur dec A pre (fun d x => .tup [.own d, .v (y x)]) (fun d x => [(d, .sl e s (rows x))]))) : Cn P f (Go.Vc.pur dec A pre (fun _ x => .tup [.sl s (rows x), .v (y x)]) (fun _ _ => [])) :=
  ⟨h.call, fun d args ha => (h.holds d args ha).frozenT (hv _), fun _ _ _ h => h.elim⟩
end Go.Vc

/-
  DERIVED. What a call hands back as its own, taken as what may only be read: whatever its shape.
-/
namespace Go.Vc
set_option linter.unusedVariables false
def fz1m (robs : List (Nat × Ob)) : SV → SV
  | .own id => match lk id robs with
    | some (.sl _ s rows) => .sl s rows
    | _ => .junk
  | .v x => .v x
  | .sl s rows => .sl s rows
  | _ => .junk
theorem Holds.frz {P : Program} {f : FuncId} {args : List SV} {res : SV} {robs : List (Nat × Ob)} (h : Holds P f args res robs) (hv : ∀ id e s rows, lk id robs = some (.sl e s rows) → allV rows) : Holds P f args (res.up (fz1m robs)) [] := by
  intro w X vs hG hX hl ha
  refine (h w X vs hG hX hl ha).mono fun en w' ⟨v, β, he, hb, hβ, hR, hO, hn⟩ => ?_
  refine ⟨v, β, he, hb, hβ, ?_, ⟨fun id ob hi => (by cases hi), fun i j oi oj b hi => (by cases hi)⟩, fun id ob b hi => (by cases hi)⟩
  have hS : Same (XX X β robs) w' w' := ⟨Nat.le_refl _, fun _ _ _ => rfl⟩
  refine hR.up fun x u hx => ?_
  cases x with
  | own id =>
    have := hx.own_inv; subst this
    simp only [fz1m]
    split
    · rename_i e s rows hlk
      refine .p ((hO.1 id _ hlk).toSl (fun b hb' hx => ?_) (hv id e s rows hlk))
      have h1 := hn id _ b hlk hb'
      rcases hx with hx | ⟨i, o, hi, _⟩
      · have := hX b hx; omega
      · cases hi
    · exact .junk _
  | v y => have := hx.v_inv; subst this; exact .p (.v _)
  | sl s rows => exact .p (hx.sl_inv.mono hS (fun b _ hx => by
      rcases hx with hx | ⟨i, o, hi, _⟩
      · exact .inl hx
      · cases hi))
  | _ => exact .junk _
theorem Cn.frz {P : Program} {f : FuncId} {X : Type} {dec : List SV → X} {A : X → List SV} {pre : X → Prop} {res : Nat → X → SV} {robs : Nat → X → List (Nat × Ob)} {res' : X → SV}
    (h : Cn P f (Go.Vc.pur dec A pre res robs)) (hv : ∀ d x id e s rows, lk id (robs d x) = some (.sl e s rows) → allV rows) (he : ∀ d x, (res d x).up (fz1m (robs d x)) = res' x) : Cn P f (Go.Vc.pur dec A pre (fun _ x => res' x) (fun _ _ => [])) :=
  ⟨h.call, fun d args ha => (by have := (h.holds d args ha).frz (hv d _); rw [show ((Go.Vc.pur dec A pre res robs).pure d args).2.1 = res d (dec args) from rfl, show ((Go.Vc.pur dec A pre res robs).pure d args).2.2 = robs d (dec args) from rfl, he] at this; exact this), fun _ _ _ h => h.elim⟩
end Go.Vc

