/-
  DERIVED. Several texts of ours in one: VcPo, VpPrg, VpPrg2, VpPrg3, VpRun, VpRun2, VpRun3, VtPg1I, VtHasS, VpPt, VsIdx, VtEx, VtPt, VtPtS, VtPe, VtLnOk.
-/
import Derived.Test.YtjjbcoigaejoaaaVd0
import Derived.Test.YtjjbcoigaejoaaaVd1
import Derived.Test.YtjjbcoigaejoaaaVd2
import Derived.Test.YtjjbcoigaejoaaaVd3
import Derived.Test.YtjjbcoigaejoaaaVd4
import Derived.Test.YtjjbcoigaejoaaaVd5
import Derived.Test.YtjjbcoigaejoaaaVd6
import Derived.Shelf.Strings.Search3
set_option linter.unusedSimpArgs false
set_option linter.unusedVariables false
set_option maxHeartbeats 1000000
set_option maxRecDepth 10000
namespace Go.Vc
def St.stepP (tys : List (Nat × TyD)) (C : List (FuncId × Ctr)) (C2 : List (FuncId × Ctx)) (N : Nat) (ops : Array Oper) (Kp : Value → St → Prop) (o : Oper) (st : St) (K : St → Prop) : Prop :=
 match st.isX C2 o with
 |true=>o.guard.isNone = true ∧ dstOk N o.dst = true ∧ st.callX (o.dst.getD 0) C2 o K Kp
 |false=>st.step tys C N ops o K
section
variable {c : Cx} {N : Nat} {X0 : Nat → Prop} {M : Nat → BV → Prop} {w0 : World} {st : St} {K : Exit → St → Prop}
theorem stepP_ok {C2 : List (FuncId × Ctx)} (hC2 : POk c.P C2) (hA : Ap c.P X0 M w0) {ops : Array Oper} {Kp : Value → St → Prop} {Q : Exit → Act → World → Prop} (hQ : ∀ x a w,Ok N X0 M w0 (Kp x) a w → Q (.panic (chainOf x)) a w) :
  StpOk c.P N X0 M w0 ops Q (St.stepP c.tys c.C C2 N ops Kp) := fun st β a w o K hs hw=>by
 unfold St.stepP at hw
 cases hx : st.isX C2 o with
 |false=>rw [hx] at hw; exact step_sound hA c.hty c.hC hs hw
 |true =>
  rw [hx] at hw
  obtain ⟨h1,h2,h3⟩ := hw
  have hwt : Region.wanted o (yielded ops a.tmps) = true := by
   unfold Region.wanted
   cases hg : o.guard with
   |none=>rfl
   |some g=>rw [hg] at h1; cases h1
  rw [if_pos hwt]
  exact callX_sound hC2 hA hs (dst_lt h2) h3 hQ
theorem runS_sound {P : Program} {ops : Array Oper} {K : St → Prop} {Q : Exit → Act → World → Prop} {stp : Oper → St → (St → Prop) → Prop} (hS : StpOk P N X0 M w0 ops Q stp) (hQ : ∀ a w,Ok N X0 M w0 K a w → Q .normal a w) :
  ∀ (l : List Oper) {st : St} {β : Nat → BV} {a : Act} {w : World},Sim N X0 M w0 st β a w → runS stp l st K → wpList P ops Q l a w
 | [],st,β,a,w,h,hw=>hQ a w ⟨st,β,hw,h⟩
 |o :: l,st,β,a,w,h,hw=>by
  have h1 := hS st β a w o _ h hw
  unfold wpList
  split
  ·rename_i hwt
   rw [if_pos hwt] at h1
   exact .inl (Oper.wp_mono (fun a' w' ⟨st',β',h2,h3⟩=>runS_sound hS hQ l h3 h2) h1)
  ·rename_i hwt
   rw [if_neg hwt] at h1
   obtain ⟨st',β',h2,h3⟩ := h1
   exact runS_sound hS hQ l h3 h2
theorem WP.regionP {id : Nat} {l : List Oper} {C2 : List (FuncId × Ctx)} (hC2 : POk c.P C2) (h : runS (St.stepP c.tys c.C C2 N l.toArray fun x=>K (.panic (chainOf x))) l st (K .normal)) : WP c N X0 M w0 (.region id l.toArray false) st K := fun hA β a w hs =>
 wp_region_lit (runS_sound (stepP_ok hC2 hA fun x a w hk=>hk) (fun a w hk=>hk) l hs h)
theorem WP.drawP {id : Nat} {l : List Oper} (m : Nat) {C2 : List (FuncId × Ctx)} (hC2 : POk c.P C2) (hB : drawB l.toArray m = true) (hm : c.P.follows .mixedOrders = true)
  (h : St.runW c.tys c.C N l.toArray (l.take m) st fun st'=>runS (St.stepP c.tys c.C C2 N l.toArray fun x=>K (.panic (chainOf x))) (l.drop m) st' (K .normal)) : WP c N X0 M w0 (.region id l.toArray true) st K :=
 WP.drawS m hB hm (fun hA=>stepP_ok hC2 hA fun x a w hk=>hk) (runV_of_runW _ h)
theorem WP.regionPanic {id T t1 t2 t3 d1 d2 : Nat} {p1 p2 p3 : String} {a1 a2 a3 : Array Edge} {x : Operand} (u : Value) (hc : c.P.concrete T = true)
  (h : St.runR c.tys c.C N #[⟨some d1,.build T #[(0,x)],t1,p1,a1,none⟩,⟨some d2,.makeInterface T (.tmp d1),t2,p2,a2,none⟩,⟨none,.panic (.tmp d2),t3,p3,a3,none⟩] [⟨some d1,.build T #[(0,x)],t1,p1,a1,none⟩] st
   fun st'=>st'.get d1 = .agg [.v u] ∧ d2 < N ∧ K (.panic (chainOf (.iface T (.agg #[u])))) (st'.put (some d2) .junk)) :
  WP c N X0 M w0 (.region id #[⟨some d1,.build T #[(0,x)],t1,p1,a1,none⟩,⟨some d2,.makeInterface T (.tmp d1),t2,p2,a2,none⟩,⟨none,.panic (.tmp d2),t3,p3,a3,none⟩] false) st K := fun hA β a w hs =>
 wp_region_lit (l := [⟨some d1,.build T #[(0,x)],t1,p1,a1,none⟩,⟨some d2,.makeInterface T (.tmp d1),t2,p2,a2,none⟩,⟨none,.panic (.tmp d2),t3,p3,a3,none⟩])
  (runR_then hA c.hty c.hC (l2 := [⟨some d2,.makeInterface T (.tmp d1),t2,p2,a2,none⟩,⟨none,.panic (.tmp d2),t3,p3,a3,none⟩]) (fun a w (hk : Ok N X0 M w0 (fun st'=>st'.get d1 = .agg [.v u] ∧ d2 < N ∧ K (.panic (chainOf (.iface T (.agg #[u])))) (st'.put (some d2) .junk)) a w)=>by
   obtain ⟨st',β',⟨h1,h2,h3⟩,hsim⟩ := hk
   have hR : R w (XX X0 β' st'.hp) β' (st'.get d1) (a.eval (.tmp d1)) := St.ev_ok hsim (.tmp d1)
   rw [h1] at hR
   obtain ⟨us,hv,hl,hu⟩ := hR.agg_inv
   have hv1 : a.eval (.tmp d1) = .agg #[u] := by
    match us,hl with
    | [u'],_ =>
     have := (hu 0 (.v u) u' rfl rfl).v_inv
     rw [hv,this]
   have hsz := hsim.size
   have hs2 := hsim.put h2 (x := .junk) (v := .iface T (.agg #[u])) (.junk _)
   have hev : (a.put (some d2) (.iface T (.agg #[u]))).eval (.tmp d2) = .iface T (.agg #[u]) := by
    simp [Act.eval,Act.put,hsz,h2]
   unfold wpList
   rw [if_pos (by rfl)]
   refine .inl ?_
   unfold Oper.wp
   have e1 : (execOp a.eval ⟨some d2,.makeInterface T (.tmp d1),t2,p2,a2,none⟩).run c.P w = .ok (.value (.iface T (.agg #[u]))) w := by
    generalize a.eval = ρ at hv1
    simp [execOp,hv1,run_makeInterface,hc]
   rw [e1,Oper.upon_value]
   unfold wpList
   rw [if_pos (by rfl)]
   refine .inl ?_
   unfold Oper.wp
   have e2 : (execOp (a.put (some d2) (.iface T (.agg #[u]))).eval ⟨none,.panic (.tmp d2),t3,p3,a3,none⟩).run c.P w = .halt (.panic (.iface T (.agg #[u]))) w := by
    generalize (a.put (some d2) (.iface T (.agg #[u]))).eval = ρ at hev
    simp [execOp,hev,run_panic_iface]
   rw [e2,Oper.upon_panic]
   exact ⟨_,β',h3,hs2⟩) [⟨some d1,.build T #[(0,x)],t1,p1,a1,none⟩] hs h)
def yen {X : Type} (lend : List Nat) (dec : List SV → List (Nat × Ob) → X) (A : X → List SV) (B : X → List (Nat × Ob)) (pre : X → Prop) (pan : X → Option Value) (res : X → SV) (robs kept : X → List (Nat × Ob)) : Ctx :=
 {ctr := { lend := lend,wri := fun _ args obs=>(args = A (dec args obs) ∧ obs = B (dec args obs) ∧ pre (dec args obs),res (dec args obs),robs (dec args obs),kept (dec args obs)) },pan := fun args obs=>pan (dec args obs) }
structure Cy (P : Program) (f : FuncId) (c : Ctx) : Prop where
 call : Callable P f
 holds : ∀ d args obs,(c.ctr.wri d args obs).1 → HoldsE (EX (c.pan args obs)) P f args obs (c.ctr.wri d args obs).2.1 (c.ctr.wri d args obs).2.2.1 (c.ctr.wri d args obs).2.2.2
theorem Cy.yen {P : Program} {f : FuncId} {X : Type} {lend : List Nat} {dec : List SV → List (Nat × Ob) → X} {A : X → List SV} {B : X → List (Nat × Ob)} {pre : X → Prop} {pan : X → Option Value} {res : X → SV} {robs kept : X → List (Nat × Ob)} {fn : Func} {code : Code}
  (hf : P.funcs[f]? = some fn) (hn : (fn.name == "runtime.NumGoroutine") = false) (hb : fn.body = some code) (h : ∀ x, pre x → HoldsE (EX (pan x)) P f (A x) (B x) (res x) (robs x) (kept x)) : Cy P f (Go.Vc.yen lend dec A B pre pan res robs kept) :=
 ⟨⟨fn,hf,hn,by rw [hb]; rfl⟩,fun d args obs ha=>by
  have := h (dec args obs) ha.2.2
  rw [← ha.1,← ha.2.1] at this
  exact this⟩
theorem POk.nil (P : Program) : POk P [] := ⟨fun f c h=>(by cases h),fun f c h=>(by cases h)⟩
theorem POk.cons {P : Program} {f : FuncId} {ctr : Ctx} {C : List (FuncId × Ctx)} (h : Cy P f ctr) (hC : POk P C) : POk P ((f,ctr) :: C) where
 call := fun g c hg=>by
  simp only [lk] at hg
  by_cases he : g = f
  ·subst he; exact h.call
  ·rw [if_neg he] at hg; exact hC.call g c hg
 holds := fun g c hg=>by
  simp only [lk] at hg
  by_cases he : g = f
  ·subst he; rw [if_pos rfl] at hg; cases hg; exact h.holds
  ·rw [if_neg he] at hg; exact hC.holds g c hg
def retY (tys : List (Nat × TyD)) (rs : List ResultVar) (pn : Option Value) (res : SV) (obs : List (Nat × Ob)) : Exit → St → Prop :=
 match pn with
 |none=>fun
  | .normal,st=>outK tys rs res [] st ∧ ∀ p ∈ obs,lk p.1 st.hp = some p.2
  | .ret,st=>outK tys rs res [] st ∧ ∀ p ∈ obs,lk p.1 st.hp = some p.2
  | _,_=>False
 |some x=>fun
  | .panic ch,st=>ch = chainOf x ∧ ∀ p ∈ obs,lk p.1 st.hp = some p.2
  | _,_=>False
theorem HoldsY.go {f : FuncId} {fn : Func} {code : Code} (hf : c.P.funcs[f]? = some fn) (hb : fn.body = some code) {rs : List ResultVar} (hrs : fn.results = rs.toArray) (hn : fn.ntmps = N) (hfew : N ≤ 900000) {args : List SV} (ha : args.length ≤ N)
  {obs : List (Nat × Ob)} {pn : Option Value} {res : SV} {robs kept : List (Nat × Ob)} (hres : res.owns2 = []) (hpn : pn.isSome = true → res = .junk)
  (h : ∀ (X0 : Nat → Prop) (M : Nat → BV → Prop) (w0 : World),WP c N X0 M w0 code ⟨argsL 0 args,obs⟩ (retY c.tys rs pn res (robs ++ kept))) : HoldsE (EX pn) c.P f args obs res robs kept := by
  intro w X β vs hG hβ hX hl hargs hobs hlent
  refine calls_of_wp hf hb ?_
  let M : Nat → BV → Prop := fun id v=>(∃ ob,lk id obs = some ob) ∧ v = β id
  have hMB : ∀ b,MB M b ↔ ∃ id ob,lk id obs = some ob ∧ (β id).ft b := fun b=>by
   constructor
   ·rintro ⟨id,v,⟨⟨ob,h1⟩,rfl⟩,h3⟩; exact ⟨id,ob,h1,h3⟩
   ·rintro ⟨id,ob,h1,h3⟩; exact ⟨id,β id,⟨⟨ob,h1⟩,rfl⟩,h3⟩
  have hA : Ap c.P X M w := ⟨fun b hb=>⟨hX b hb,fun hm=>by
   obtain ⟨id,ob,h1,h2⟩ := (hMB b).1 hm
   exact (hlent id ob b h1 h2).1 hb⟩,hG,fun b hm=>by
   obtain ⟨id,ob,h1,h2⟩ := (hMB b).1 hm
   exact (hlent id ob b h1 h2).2⟩
  have hsim : Sim N X M w ⟨argsL 0 args,obs⟩ β { tmps := vs.toArray ++ Array.replicate (fn.ntmps - vs.toArray.size) undef,defers := [] } w := {
   size:=by simp [hn]; omega
   defers := .nil fun v h=>by rw [h.2]; exact hβ 0
   beta := hβ
   slots := fun t x hx=>by
    obtain ⟨_,h1⟩ := argsL_lk args 0 t x hx
    simp only [Nat.sub_zero] at h1
    have ht : t < vs.length:=by rw [hl]; exact (List.getElem?_eq_some_iff.1 h1).1
    have hv : vs[t]? = some (vs[t]'ht) := List.getElem?_eq_getElem ht
    have : (vs.toArray ++ Array.replicate (fn.ntmps - vs.toArray.size) undef).getD t undef = vs[t]'ht := by
     rw [Array.getD_eq_getD_getElem?,Array.getElem?_append_left (by simpa using ht)]
     simp [ht]
    rw [this]
    exact hargs t x _ h1 hv
   objs := hobs.1
   inj := hobs.2
   x0 := hX
   mine := fun id ob b hi hb=>.inl ((hMB b).2 ⟨id,ob,hi,hb⟩)
   pin := fun id v hm _=>congrArg BV.val hm.2.symm
   few := hfew
   os := rfl
   tape := rfl
   output := rfl
   grew := Nat.le_refl _
   kept := fun _ _ _=>rfl }
  refine Code.wp_mono (fun e a w' hq=>?_) (h X M w hA _ _ _ hsim)
  obtain ⟨st',β',ho,hs⟩ := hq
  have fin : ∀ {en : Ending} {v : Value},EX pn en v → (∀ p ∈ robs ++ kept,lk p.1 st'.hp = some p.2) → R w' (XX X β' st'.hp) β' res v → ∃ v' β'',EX pn en v' ∧ w'.os = w.os ∧ w'.tape = w.tape ∧ w'.output = w.output ∧ w.heap.size ≤ w'.heap.size ∧
   (∀ b,b < w.heap.size → (¬ ∃ id ob,lk id obs = some ob ∧ (β id).ft b) → w'.heap[b]? = w.heap[b]?) ∧ (∀ i,(β'' i).val.oneCell' = true) ∧ (∀ i ob,1000000 ≤ i → lk i obs = some ob → (β'' i).val = (β i).val) ∧
   R w' (XX X β'' (robs ++ kept)) β'' res v' ∧ Obs w' X β'' (robs ++ kept) ∧
   ∀ id ob b,lk id (robs ++ kept) = some ob → (β'' id).ft b → w.heap.size ≤ b ∨ ∃ k o,lk k obs = some o ∧ (β k).ft b := fun {en v} hE hk hR=>by
   have hkl : ∀ {id ob},lk id (robs ++ kept) = some ob → lk id st'.hp = some ob := fun {id ob} hi=>hk (id,ob) (lk_mem hi)
   have hXs : ∀ b,XX X β' (robs ++ kept) b → XX X β' st'.hp b := fun b hb=>by
    rcases hb with hb|⟨id,ob,hi,hb⟩
    ·exact .inl hb
    ·exact .inr ⟨id,ob,hkl hi,hb⟩
   have hS : Same (XX X β' st'.hp) w' w' := ⟨Nat.le_refl _,fun _ _ _=>rfl⟩
   refine ⟨v,β',hE,hs.os,hs.tape,hs.output,hs.grew,fun b hb hn=>hs.kept b hb (fun hm=>hn ((hMB b).1 hm)),hs.beta,fun i ob h1 hi=>hs.pin i (β i) ⟨⟨ob,hi⟩,rfl⟩ h1,hR.mono hS fun b _ hb=>hXs b hb,⟨fun id ob hi=>?_,fun i j oi oj b hi hj hbi hbj=>?_⟩,fun id ob b hi hb=>?_⟩
   ·exact (hs.objs id ob (hkl hi)).mono hS (fun b _ hb=>hXs b hb) (fun _ _=>rfl)
   ·exact hs.inj i j oi oj b (hkl hi) (hkl hj) hbi hbj
   ·exact (hs.mine id ob b (hkl hi) hb).symm.imp _root_.id fun hm=>(hMB b).1 hm
  cases pn with
  |none =>
   have ret : outK c.tys rs res [] st' ∧ (∀ p ∈ robs ++ kept,lk p.1 st'.hp = some p.2) → a.defers = [] ∧ ∃ v,(Go.results fn a.tmps).run c.P w' = .ok v w' ∧ _ := fun ⟨h1,h2⟩=>by
    obtain ⟨v,β2,hr,hR,_⟩ := outK_ok (c := c) hs (by rw [hrs]) h1
    exact ⟨hs.defers.2 (fun v h=>by rw [h.2]; exact hβ 0),v,hr,fin (en := .returned v) rfl h2 (hR.beta h1.2.1 fun id hid=>by rw [hres] at hid; cases hid)⟩
   cases e with
   |normal=>exact ret ho
   |ret=>exact ret ho
   | _=>exact ho.elim
  |some x =>
   cases e with
   |panic ch =>
    obtain ⟨rfl,hk⟩ := ho
    obtain rfl := hpn rfl
    exact ⟨hs.defers.2 (fun v h=>by rw [h.2]; exact hβ 0),fin (en := .panicked (chainOf x)) (v := undef) rfl hk (.junk _)⟩
   | _=>exact ho.elim
end
end Go.Vc

namespace Go.Proofs.Ytjjbcoigaejoaaa
def kd (P : List Line) (i : Nat) : Int := match P[i]? with
 |some x=>x.kind
 |none=>-1
theorem kd_lt {P : List Line} {i : Nat} (h : i < P.length) : kd P i = P[i].kind:=by unfold kd; rw [List.getElem?_eq_getElem h]
theorem kd_ge {P : List Line} {i : Nat} (h : ¬ i < P.length) : kd P i = -1:=by unfold kd; rw [List.getElem?_eq_none (by omega)]
theorem kd_in {P : List Line} {i : Nat} (h : 0 ≤ kd P i) : i < P.length := by
 rcases Nat.lt_or_ge i P.length with h'|h'
 ·exact h'
 ·rw [kd_ge (by omega)] at h; omega
def delta (k : Int) : Int := if k = 0 ∨ k = 3 ∨ k = 5 then 1 else if k = 7 then -1 else 0
theorem delta_bound (k : Int) : -1 ≤ delta k ∧ delta k ≤ 1 := by
 unfold delta
 split
 ·omega
 ·split <;> omega
def opensK (k : Int) : Bool := decide (k = 0) || decide (k = 3) || decide (k = 5)
theorem opensK_iff {k : Int} : opensK k = true ↔ k = 0 ∨ k = 3 ∨ k = 5:=by simp [opensK,or_assoc]
theorem delta_open {k : Int} (h : opensK k = true) : delta k = 1 := if_pos (opensK_iff.1 h)
theorem delta_end : delta 7 = -1:=by decide
theorem delta_else {k : Int} (h : opensK k = false) (h7 : k ≠ 7) : delta k = 0 := by
 unfold delta; rw [if_neg (fun e=>by rw [opensK_iff.2 e] at h; cases h),if_neg h7]
def sumTo (P : List Line) : Nat → Int
 | 0=>0
 |i + 1=>sumTo P i + delta (kd P i)
theorem sumTo_step (P : List Line) (i : Nat) : sumTo P i - 1 ≤ sumTo P (i + 1) ∧ sumTo P (i + 1) ≤ sumTo P i + 1 := by
 have := delta_bound (kd P i)
 have e : sumTo P (i + 1) = sumTo P i + delta (kd P i) := rfl
 rw [e]; omega
theorem sumTo_bound (P : List Line) : ∀ i : Nat,-(i : Int) ≤ sumTo P i ∧ sumTo P i ≤ i
 | 0=>by simp [sumTo]
 |i + 1=>by have := sumTo_bound P i; have := sumTo_step P i; omega
theorem ivt {f : Nat → Int} (hs : ∀ i : Nat,f i - 1 ≤ f (i + 1)) {c : Int} : ∀ (n a : Nat),c ≤ f a → f (a + n) ≤ c → ∃ e : Nat,a ≤ e ∧ e ≤ a + n ∧ f e = c ∧ ∀ e' : Nat,a ≤ e' → e' < e → c < f e'
 | 0,a,h1,h2=>⟨a,by omega,by omega,by simp only [Nat.add_zero] at h2; omega,fun e' q1 q2=>by omega⟩
 |n + 1,a,h1,h2=>by
  by_cases h : f a = c
  ·exact ⟨a,by omega,by omega,h,fun e' q1 q2=>by omega⟩
  ·have := hs a
   obtain ⟨e,e1,e2,e3,e4⟩ := ivt hs (c := c) n (a + 1) (by omega) (by rw [show a + 1 + n = a + (n + 1) by omega]; exact h2)
   refine ⟨e,by omega,by omega,e3,fun e' q1 q2=>?_⟩
   rcases Nat.lt_or_ge a e' with q|q
   ·exact e4 e' (by omega) q2
   ·rw [show e' = a by omega]; omega
structure IsEnd (P : List Line) (k e : Nat) : Prop where
 le : k ≤ e
 lt : e < P.length
 sum : sumTo P (e + 1) = sumTo P k
 least : ∀ e' : Nat,k ≤ e' → e' < e → sumTo P (e' + 1) ≠ sumTo P k
def endFrom : List Line → Nat → Int → Int
 | [],_,_=>-1
 |x :: L,i,o=>if o + delta x.kind = 0 then (i : Int) else endFrom L (i + 1) (o + delta x.kind)
theorem drop_cons {α : Type} {P : List α} {i : Nat} (h : i < P.length) : P.drop i = P[i] :: P.drop (i + 1):=by rw [List.drop_eq_getElem_cons h]
theorem endFrom_succ {P : List Line} {i : Nat} (h : i < P.length) (o : Int) : endFrom (P.drop i) i o = if o + delta P[i].kind = 0 then (i : Int) else endFrom (P.drop (i + 1)) (i + 1) (o + delta P[i].kind) := by
 rw [drop_cons h,endFrom]
theorem endFrom_end {P : List Line} {i : Nat} (h : ¬ i < P.length) (o : Int) : endFrom (P.drop i) i o = -1 := by
 rw [List.drop_eq_nil_of_le (by omega),endFrom]
def endOf (P : List Line) (k : Int) : Int := if 0 ≤ k ∧ k < P.length ∧ opensK (kd P k.toNat) = true then endFrom (P.drop k.toNat) k.toNat 0 else -1
theorem endFrom_form (P : List Line) (c : Int) : ∀ (n i : Nat),P.length - i ≤ n →
  (endFrom (P.drop i) i (sumTo P i - c) = -1 ∧ ∀ e : Nat,i ≤ e → e < P.length → sumTo P (e + 1) ≠ c) ∨
  ∃ e : Nat,endFrom (P.drop i) i (sumTo P i - c) = (e : Int) ∧ i ≤ e ∧ e < P.length ∧ sumTo P (e + 1) = c ∧ ∀ e' : Nat,i ≤ e' → e' < e → sumTo P (e' + 1) ≠ c := by
 intro n
 induction n with
 |zero=>intro i h; exact .inl ⟨endFrom_end (by omega) _,fun e h1 h2=>by omega⟩
 |succ n ih =>
  intro i h
  by_cases hi : i < P.length
  ·have hs : sumTo P i - c + delta P[i].kind = sumTo P (i + 1) - c:=by rw [sumTo,kd_lt hi]; omega
   rw [endFrom_succ hi,hs]
   by_cases h0 : sumTo P (i + 1) - c = 0
   ·rw [if_pos h0]
    exact .inr ⟨i,rfl,by omega,hi,by omega,fun e' h1 h2=>by omega⟩
   ·rw [if_neg h0]
    rcases ih (i + 1) (by omega) with ⟨a,b⟩|⟨e,a,b,d,f,g⟩
    ·refine .inl ⟨a,fun e h1 h2=>?_⟩
     rcases Nat.lt_or_ge i e with q|q
     ·exact b e (by omega) h2
     ·rw [show e = i by omega]; omega
    ·refine .inr ⟨e,a,by omega,d,f,fun e' h1 h2=>?_⟩
     rcases Nat.lt_or_ge i e' with q|q
     ·exact g e' (by omega) h2
     ·rw [show e' = i by omega]; omega
  ·exact .inl ⟨endFrom_end hi _,fun e h1 h2=>by omega⟩
theorem endOf_form {P : List Line} {k : Nat} (ho : opensK (kd P k) = true) : (endOf P k = -1 ∧ ∀ e : Nat,¬ IsEnd P k e) ∨ ∃ e : Nat,endOf P k = (e : Int) ∧ IsEnd P k e ∧ k < e := by
 have hk : k < P.length := kd_in (by rcases opensK_iff.1 ho with e|e|e <;> omega)
 unfold endOf
 rw [if_pos ⟨by omega,by omega,ho⟩,Int.toNat_natCast]
 rcases endFrom_form P (sumTo P k) P.length k (by omega) with ⟨a,b⟩|⟨e,a,b,d,f,g⟩
 ·rw [show sumTo P k - sumTo P k = 0 by omega] at a
  exact .inl ⟨a,fun e h=>b e h.le h.lt h.sum⟩
 ·rw [show sumTo P k - sumTo P k = 0 by omega] at a
  have h1 : sumTo P (k + 1) = sumTo P k + 1:=by rw [sumTo,delta_open ho]
  refine .inr ⟨e,a,⟨b,d,f,g⟩,?_⟩
  rcases Nat.lt_or_ge k e with q|q
  ·exact q
  ·rw [show e = k by omega] at f; omega
theorem IsEnd.inj {P : List Line} {k e e' : Nat} (h : IsEnd P k e) (h' : IsEnd P k e') : e = e' := by
 rcases Nat.lt_trichotomy e e' with q|q|q
 ·exact absurd h.sum (h'.least e h.le q)
 ·exact q
 ·exact absurd h'.sum (h.least e' h'.le q)
theorem endOf_of {P : List Line} {k e : Nat} (ho : opensK (kd P k) = true) (h : IsEnd P k e) : endOf P k = e := by
 rcases endOf_form ho with ⟨_,b⟩|⟨e',a,b,_⟩
 ·exact absurd h (b e)
 ·rw [a,b.inj h]
theorem endOf_opens {P : List Line} {k : Int} (h : 0 ≤ endOf P k) : 0 ≤ k ∧ k < P.length ∧ opensK (kd P k.toNat) = true := by
 unfold endOf at h
 split at h
 ·assumption
 ·omega
theorem endOf_nn {P : List Line} {k : Nat} (h : 0 ≤ endOf P k) : ∃ e : Nat,endOf P k = (e : Int) ∧ IsEnd P k e ∧ k < e := by
 have ho := (endOf_opens h).2.2
 rw [Int.toNat_natCast] at ho
 rcases endOf_form ho with ⟨a,_⟩|q
 ·omega
 ·exact q
theorem endOf_bound (P : List Line) (k : Int) : endOf P k = -1 ∨ (k < endOf P k ∧ endOf P k < P.length) := by
 rcases Int.lt_or_le (endOf P k) 0 with h|h
 ·left
  unfold endOf at h ⊢
  split
  ·rename_i hh
   rw [if_pos hh] at h
   rcases endFrom_form P (sumTo P k.toNat) P.length k.toNat (by omega) with ⟨a,_⟩|⟨e,a,_⟩
   ·rw [show sumTo P k.toNat - sumTo P k.toNat = 0 by omega] at a; exact a
   ·rw [show sumTo P k.toNat - sumTo P k.toNat = 0 by omega] at a; rw [a] at h; omega
  ·rfl
 ·right
  have hk := (endOf_opens h).1
  obtain ⟨e,a,b,c⟩ := endOf_nn (P := P) (k := k.toNat) (by rw [Int.toNat_of_nonneg hk]; exact h)
  rw [Int.toNat_of_nonneg hk] at a
  have := b.lt
  omega
theorem IsEnd.inside {P : List Line} {k e i : Nat} (h : IsEnd P k e) (ho : opensK (kd P k) = true) (h1 : k < i) (h2 : i ≤ e) : sumTo P k < sumTo P i := by
 have hk1 : sumTo P (k + 1) = sumTo P k + 1:=by rw [sumTo,delta_open ho]
 rcases Int.lt_or_le (sumTo P k) (sumTo P i) with q|q
 ·exact q
 ·obtain ⟨e0,e1,e2,e3,e4⟩ := ivt (f := sumTo P) (fun i=>(sumTo_step P i).1) (c := sumTo P k) (i - (k + 1)) (k + 1) (by omega) (by rw [show k + 1 + (i - (k + 1)) = i by omega]; exact q)
  exfalso
  have := h.least (e0 - 1) (by omega) (by omega)
  rw [show e0 - 1 + 1 = e0 by omega] at this
  exact this e3
theorem IsEnd.kind {P : List Line} {k e : Nat} (h : IsEnd P k e) (ho : opensK (kd P k) = true) (hke : k < e) : kd P e = 7 := by
 have h1 := h.inside ho hke (by omega)
 have h2 := h.sum
 rw [sumTo] at h2
 have : delta (kd P e) < 0:=by omega
 unfold delta at this
 split at this
 ·omega
 ·split at this
  ·assumption
  ·omega
theorem IsEnd.nest {P : List Line} {k e i : Nat} (h : IsEnd P k e) (ho : opensK (kd P k) = true) (h1 : k < i) (h2 : i < e) (hi : opensK (kd P i) = true) : ∃ e' : Nat,endOf P i = (e' : Int) ∧ IsEnd P i e' ∧ i < e' ∧ e' < e := by
 have hin := h.inside ho h1 (by omega)
 have hi1 : sumTo P (i + 1) = sumTo P i + 1:=by rw [sumTo,delta_open hi]
 have hs := h.sum
 obtain ⟨e0,e1,e2,e3,e4⟩ := ivt (f := sumTo P) (fun i=>(sumTo_step P i).1) (c := sumTo P i) (e + 1 - (i + 1)) (i + 1) (by omega) (by rw [show i + 1 + (e + 1 - (i + 1)) = e + 1 by omega]; omega)
 have h0 : e0 ≠ i + 1 := fun q=>by rw [q] at e3; omega
 have h9 : e0 ≠ e + 1 := fun q=>by rw [q] at e3; omega
 have hE : IsEnd P i (e0 - 1) := ⟨by omega,by have := h.lt; omega,by rw [show e0 - 1 + 1 = e0 by omega]; exact e3,fun e' q1 q2=>by
  by_cases q : e' = i
  ·subst q; omega
  ·have := e4 (e' + 1) (by omega) (by omega); omega⟩
 exact ⟨e0 - 1,endOf_of hi hE,hE,by omega,by omega⟩
def elseGo (P : List Line) (e i : Nat) : Int :=
 if i < e then (if kd P i = 4 then (i : Int) else if (kd P i = 3 ∨ kd P i = 5) ∧ (i : Int) ≤ endOf P i then elseGo P e ((endOf P i).toNat + 1) else elseGo P e (i + 1)) else -1
termination_by e - i
decreasing_by all_goals omega
def elseOf (P : List Line) (k : Int) : Int := if endOf P k < 0 ∨ kd P k.toNat ≠ 3 then -1 else elseGo P (endOf P k).toNat (k.toNat + 1)
theorem elseGo_end {P : List Line} {e i : Nat} (h : ¬ i < e) : elseGo P e i = -1:=by rw [elseGo,if_neg h]
theorem elseGo_hit {P : List Line} {e i : Nat} (h : i < e) (hk : kd P i = 4) : elseGo P e i = i:=by rw [elseGo,if_pos h,if_pos hk]
theorem elseGo_skip {P : List Line} {e i : Nat} (h : i < e) (hk : kd P i = 3 ∨ kd P i = 5) (he : (i : Int) ≤ endOf P i) : elseGo P e i = elseGo P e ((endOf P i).toNat + 1) := by
 rw [elseGo,if_pos h,if_neg (by omega),if_pos ⟨hk,he⟩]
theorem elseGo_next {P : List Line} {e i : Nat} (h : i < e) (h4 : kd P i ≠ 4) (hk : ¬ ((kd P i = 3 ∨ kd P i = 5) ∧ (i : Int) ≤ endOf P i)) : elseGo P e i = elseGo P e (i + 1) := by
 rw [elseGo,if_pos h,if_neg h4,if_neg hk]
theorem elseGo_form (P : List Line) (e : Nat) : ∀ (n i : Nat),e - i ≤ n → elseGo P e i = -1 ∨ ∃ j : Nat,elseGo P e i = (j : Int) ∧ i ≤ j ∧ j < e ∧ kd P j = 4 := by
 intro n
 induction n with
 |zero=>intro i h; exact .inl (elseGo_end (by omega))
 |succ n ih =>
  intro i h
  by_cases hi : i < e
  ·by_cases h4 : kd P i = 4
   ·exact .inr ⟨i,elseGo_hit hi h4,by omega,hi,h4⟩
   ·by_cases hk : (kd P i = 3 ∨ kd P i = 5) ∧ (i : Int) ≤ endOf P i
    ·rw [elseGo_skip hi hk.1 hk.2]
     rcases ih ((endOf P i).toNat + 1) (by omega) with q|⟨j,a,b,c,d⟩
     ·exact .inl q
     ·exact .inr ⟨j,a,by omega,c,d⟩
    ·rw [elseGo_next hi h4 hk]
     rcases ih (i + 1) (by omega) with q|⟨j,a,b,c,d⟩
     ·exact .inl q
     ·exact .inr ⟨j,a,by omega,c,d⟩
  ·exact .inl (elseGo_end hi)
theorem elseOf_form (P : List Line) (k : Nat) : elseOf P k = -1 ∨ ∃ j e : Nat,elseOf P k = (j : Int) ∧ k < j ∧ j < e ∧ kd P j = 4 ∧ kd P k = 3 ∧ IsEnd P k e := by
 unfold elseOf
 split
 ·exact .inl rfl
 ·rename_i h
  rw [Int.toNat_natCast] at h ⊢
  obtain ⟨e,a,b,c⟩ := endOf_nn (P := P) (k := k) (by omega)
  rw [a,Int.toNat_natCast]
  rcases elseGo_form P e e (k + 1) (by omega) with q|⟨j,q1,q2,q3,q4⟩
  ·exact .inl q
  ·exact .inr ⟨j,e,q1,by omega,q3,q4,by omega,b⟩
def funs (P : List Line) (n : Nat) : List Int := ((List.range n).filter fun i=>decide (kd P i = 0)).map fun i : Nat=>(i : Int)
theorem funs_succ (P : List Line) (n : Nat) : funs P (n + 1) = funs P n ++ if kd P n = 0 then [(n : Int)] else [] := by
 unfold funs
 rw [List.range_succ,List.filter_append,List.map_append]
 congr 1
 by_cases h : kd P n = 0
 ·simp [h]
 ·simp [h]
theorem funs_len (P : List Line) : ∀ n,(funs P n).length ≤ n
 | 0=>by simp [funs]
 |n + 1=>by
  rw [funs_succ,List.length_append]
  have := funs_len P n
  split <;> simp <;> omega
def isFn (s : ByteArray) (x : Line) : Bool := decide (x.kind = 0) && decide (x.name = s)
def findFn (P : List Line) (s : ByteArray) : Int := firstIdx (isFn s) P
def argsAt (P : List Line) (i : Nat) : List ByteArray := match P[i]? with
 |some x=>x.args
 |none=>[]
def exprAt (P : List Line) (i : Nat) : List Tok := match P[i]? with
 |some x=>x.expr
 |none=>[]
def nameAt (P : List Line) (i : Nat) : ByteArray := match P[i]? with
 |some x=>x.name
 |none=>⟨#[]⟩
theorem argsAt_lt {P : List Line} {i : Nat} (h : i < P.length) : argsAt P i = P[i].args:=by unfold argsAt; rw [List.getElem?_eq_getElem h]
theorem exprAt_lt {P : List Line} {i : Nat} (h : i < P.length) : exprAt P i = P[i].expr:=by unfold exprAt; rw [List.getElem?_eq_getElem h]
theorem nameAt_lt {P : List Line} {i : Nat} (h : i < P.length) : nameAt P i = P[i].name:=by unfold nameAt; rw [List.getElem?_eq_getElem h]
def locGo (P : List Line) : Nat → Nat → List ByteArray → List ByteArray
 | 0,_,A=>A
 |n + 1,i,A=>locGo P n (i + 1) (if kd P i = 1 ∧ nameAt P i ∉ A then A ++ [nameAt P i] else A)
def localsOf (P : List Line) (k : Int) : List ByteArray := if endOf P k < 0 ∨ kd P k.toNat ≠ 0 then [] else locGo P ((endOf P k).toNat - k.toNat) k.toNat (argsAt P k.toNat)
def knownT (P : List Line) (A : List ByteArray) (t : Tok) : Bool :=
 (if t.kind = 1 then decide (t.name ∈ A) else true) && (if t.kind = 7 then decide (0 ≤ findFn P t.name) && decide (((argsAt P (findFn P t.name).toNat).length : Int) = t.num) else true)
def knownE (P : List Line) (A : List ByteArray) (E : List Tok) : Bool := E.all (knownT P A)
def bodyS (P : List Line) (k e : Nat) : Prop := (localsOf P k).length ≤ 8 ∧ ∀ i : Nat,k < i → i < e →
 kd P i ≠ 0 ∧ (kd P i = 4 → ∃ j : Nat,k ≤ j ∧ j < i ∧ elseOf P j = (i : Int)) ∧ sumTo P (i + 1) - sumTo P (k + 1) ≤ 4 ∧ knownE P (localsOf P k) (exprAt P i) = true
def bodyI (P : List Line) (k e : Nat) : Prop := (localsOf P k).length ≤ 8 ∧ ∀ i : Nat,k < i → i ≤ e →
 kd P i ≠ 0 ∧ sumTo P i - sumTo P (k + 1) + (if kd P i = 3 ∨ kd P i = 5 then 1 else 0) ≤ 4 ∧ knownE P (localsOf P k) (exprAt P i) = true
inductive Tiles (B : Nat → Nat → Prop) (P : List Line) : Nat → Prop
 |done : Tiles B P P.length
 |step {k e : Nat} (hk : kd P k = 0) (he : IsEnd P k e) (hb : B k e) (h : Tiles B P (e + 1)) : Tiles B P k
structure ProgS (P : List Line) : Prop where
 some : P ≠ []
 few : P.length ≤ 60
 main : kd P 0 = 0 ∧ nameAt P 0 = bts [109,97,105,110] ∧ argsAt P 0 = []
 funs : (funs P P.length).length ≤ 6
 lines : ∀ x ∈ P,LineP x
 first : ∀ i : Nat,i < P.length → kd P i = 0 → findFn P (nameAt P i) = (i : Int)
 tiles : Tiles (bodyS P) P 0
structure ProgI (P : List Line) : Prop where
 few : P.length ≤ 60
 funs : 1 ≤ (funs P P.length).length ∧ (funs P P.length).length ≤ 6
 lines : ∀ x ∈ P,LineP x
 main : kd P 0 = 0 ∧ nameAt P 0 = bts [109,97,105,110] ∧ argsAt P 0 = []
 first : ∀ i : Nat,i < P.length → kd P i = 0 → findFn P (nameAt P i) = (i : Int)
 tiles : Tiles (bodyI P) P 0
 elses : ∀ i : Nat,i < P.length → kd P i = 4 → ∃ j : Nat,j < P.length ∧ elseOf P j = (i : Int)
theorem opens_of {P : List Line} {k : Nat} (h : kd P k = 0 ∨ kd P k = 3 ∨ kd P k = 5) : opensK (kd P k) = true := opensK_iff.2 h
theorem IsEnd.lt' {P : List Line} {k e : Nat} (h : IsEnd P k e) (hk : kd P k = 0) : k < e := by
 have h1 : sumTo P (k + 1) = sumTo P k + 1:=by rw [sumTo,hk]; rfl
 have h2 := h.le
 rcases Nat.lt_or_ge k e with q|q
 ·exact q
 ·have := h.sum; rw [show e = k by omega] at this; omega
theorem Tiles.mono {B B' : Nat → Nat → Prop} {P : List Line} (hB : ∀ k e,kd P k = 0 → IsEnd P k e → B k e → B' k e) {k : Nat} (h : Tiles B P k) : Tiles B' P k := by
 induction h with
 |done=>exact .done
 |step hk he hb _ ih=>exact .step hk he (hB _ _ hk he hb) ih
theorem Tiles.sums {B : Nat → Nat → Prop} {P : List Line} {k : Nat} (h : Tiles B P k) : sumTo P k = 0 → ∀ i : Nat,k ≤ i → i ≤ P.length → 0 ≤ sumTo P i := by
 induction h with
 |done=>intro h0 i h1 h2; rw [show i = P.length by omega,h0]; omega
 | @step k e hk he hb h ih =>
  intro h0 i h1 h2
  by_cases hi : i ≤ e
  ·by_cases hik : i = k
   ·rw [hik,h0]; omega
   ·have := he.inside (opens_of (.inl hk)) (show k < i by omega) hi
    omega
  ·exact ih (by rw [he.sum,h0]) i (by omega) h2
theorem body_si {P : List Line} {k e : Nat} (hx : ∀ x ∈ P,LineP x) (hk : kd P k = 0) (he : IsEnd P k e) (h : bodyS P k e) : bodyI P k e := by
 refine ⟨h.1,fun i h1 h2=>?_⟩
 have hke := he.lt' hk
 have hs1 : sumTo P (k + 1) = sumTo P k + 1:=by rw [sumTo,hk]; rfl
 by_cases hie : i = e
 ·subst hie
  have h7 := he.kind (opens_of (.inl hk)) hke
  have hs := he.sum
  rw [sumTo,h7,delta_end] at hs
  have hx7 := hx _ (List.getElem_mem he.lt)
  rw [kd_lt he.lt] at h7
  refine ⟨by rw [kd_lt he.lt]; omega,by rw [kd_lt he.lt,if_neg (by omega)]; omega,?_⟩
  rw [exprAt_lt he.lt,hx7.noExpr (by rw [h7]; rfl)]; rfl
 ·obtain ⟨a,b,c,d⟩ := h.2 i h1 (by omega)
  refine ⟨a,?_,d⟩
  by_cases ho : kd P i = 3 ∨ kd P i = 5
  ·rw [if_pos ho]
   have : delta (kd P i) = 1 := if_pos (.inr ho)
   rw [sumTo,this] at c; omega
  ·rw [if_neg ho]
   rcases Nat.lt_or_ge (k + 1) i with q|q
   ·have := (h.2 (i - 1) (by omega) (by omega)).2.2.1
    rw [show i - 1 + 1 = i by omega] at this; omega
   ·rw [show i = k + 1 by omega]; omega
theorem body_is {P : List Line} {k e : Nat} (hk : kd P k = 0) (he : IsEnd P k e) (h : bodyI P k e) (hel : ∀ i : Nat,k < i → i < e → kd P i = 4 → ∃ j : Nat,k ≤ j ∧ j < i ∧ elseOf P j = (i : Int)) : bodyS P k e := by
 refine ⟨h.1,fun i h1 h2=>?_⟩
 obtain ⟨a,b,c⟩ := h.2 i h1 (by omega)
 refine ⟨a,hel i h1 h2,?_,c⟩
 rw [sumTo]
 have hd := delta_bound (kd P i)
 by_cases ho : kd P i = 3 ∨ kd P i = 5
 ·rw [if_pos ho] at b; omega
 ·rw [if_neg ho] at b
  have : delta (kd P i) ≤ 0 := by
   unfold delta
   rw [if_neg (by omega)]
   split <;> omega
  omega
theorem else_near {P : List Line} (hS : ∀ i : Nat,i ≤ P.length → 0 ≤ sumTo P i) {j i k : Nat} (h : elseOf P j = (i : Int)) (hki : k < i) (hk0 : sumTo P k = 0) : k ≤ j ∧ j < i := by
 rcases elseOf_form P j with q|⟨i',e,a,b,c,d,f,g⟩
 ·omega
 ·obtain rfl : i' = i:=by omega
  refine ⟨?_,b⟩
  rcases Nat.lt_or_ge j k with q|q
  ·have := g.inside (opens_of (.inr (.inl f))) q (by omega)
   have := hS j (by have := g.lt; omega)
   omega
  ·exact q
theorem Tiles.elses {B : Nat → Nat → Prop} {P : List Line} (hS : ∀ i : Nat,i ≤ P.length → 0 ≤ sumTo P i) (hB : ∀ k e,kd P k = 0 → IsEnd P k e → B k e → bodyI P k e)
  (hel : ∀ i : Nat,i < P.length → kd P i = 4 → ∃ j : Nat,j < P.length ∧ elseOf P j = (i : Int)) {k : Nat} (h : Tiles B P k) : sumTo P k = 0 → Tiles (bodyS P) P k := by
 induction h with
 |done=>intro _; exact .done
 | @step k e hk he hb h ih =>
  intro h0
  refine .step hk he (body_is hk he (hB k e hk he hb) fun i h1 h2 h4=>?_) (ih (by rw [he.sum,h0]))
  obtain ⟨j,_,hj⟩ := hel i (by have := he.lt; omega) h4
  have := else_near hS hj h1 h0
  exact ⟨j,this.1,this.2,hj⟩
theorem Tiles.elseIn {P : List Line} {k : Nat} (h : Tiles (bodyS P) P k) : ∀ i : Nat,k ≤ i → i < P.length → kd P i = 4 → ∃ j : Nat,j < P.length ∧ elseOf P j = (i : Int) := by
 induction h with
 |done=>intro i h1 h2; omega
 | @step k e hk he hb h ih =>
  intro i h1 h2 h4
  by_cases hie : i ≤ e
  ·have hne : i ≠ k := fun q=>by rw [q] at h4; omega
   have hne2 : i ≠ e := fun q=>by rw [q,he.kind (opens_of (.inl hk)) (he.lt' hk)] at h4; omega
   obtain ⟨j,a,b,c⟩ := (hb.2 i (by omega) (by omega)).2.1 h4
   exact ⟨j,by omega,c⟩
  ·exact ih i (by omega) h2 h4
theorem prog_si {P : List Line} (h : ProgS P) : ProgI P := by
 refine ⟨h.few,⟨?_,h.funs⟩,h.lines,h.main,h.first,h.tiles.mono fun k e hk he hb=>body_si h.lines hk he hb,fun i hi h4=>h.tiles.elseIn i (by omega) hi h4⟩
 have h0 : 0 < P.length := List.length_pos_iff.2 h.some
 have : (0 : Int) ∈ Go.Proofs.Ytjjbcoigaejoaaa.funs P P.length := by
  unfold Go.Proofs.Ytjjbcoigaejoaaa.funs
  refine List.mem_map.2 ⟨0,List.mem_filter.2 ⟨List.mem_range.2 h0,by simp [h.main.1]⟩,rfl⟩
 have := List.length_pos_of_mem this
 omega
theorem prog_is {P : List Line} (h : ProgI P) : ProgS P := by
 have hS : ∀ i : Nat,i ≤ P.length → 0 ≤ sumTo P i := fun i hi=>h.tiles.sums rfl i (by omega) hi
 exact ⟨fun e=>by have := h.funs.1; rw [e] at this; exact absurd this (by decide),h.few,h.main,h.funs.2,h.lines,h.first,h.tiles.elses hS (fun k e _ _ hb=>hb) h.elses rfl⟩
noncomputable def progOk (P : List Line) : Bool := @decide (ProgS P) (Classical.propDecidable _)
theorem progOk_iff {P : List Line} : progOk P = true ↔ ProgS P := by
 unfold progOk
 exact @decide_eq_true_iff (ProgS P) (Classical.propDecidable _)
theorem progOk_iff' {P : List Line} : progOk P = true ↔ ProgI P := progOk_iff.trans ⟨prog_si,prog_is⟩
def runF (P : List Line) : List Int → Int → Prop
 | [],next=>next = P.length
 |k :: F,next=>k = next ∧ findFn P (nameAt P k.toNat) = k ∧ ∃ e : Nat,IsEnd P k.toNat e ∧ bodyI P k.toNat e ∧ runF P F ((e : Int) + 1)
end Go.Proofs.Ytjjbcoigaejoaaa

namespace Go.Proofs.Ytjjbcoigaejoaaa
def popR (i : Int) : List Int → List Int
 | []=>[]
 |x :: R=>if x < i then popR i R else x :: R
def popL (i : Int) (L : List Int) : List Int := (popR i L.reverse).reverse
theorem popL_lt {i x : Int} (L : List Int) (h : x < i) : popL i (L ++ [x]) = popL i L := by
 unfold popL
 rw [List.reverse_append,List.reverse_singleton,List.singleton_append,popR,if_pos h]
theorem popL_ge {i x : Int} (L : List Int) (h : ¬ x < i) : popL i (L ++ [x]) = L ++ [x] := by
 unfold popL
 rw [List.reverse_append,List.reverse_singleton,List.singleton_append,popR,if_neg h,List.reverse_cons,List.reverse_reverse]
inductive Stk (P : List Line) (b : Int) : Nat → List Int → Prop
 |nil {i : Nat} (h : sumTo P i = b) : Stk P b i []
 |snoc {i j x : Nat} {L : List Int} (hL : Stk P b j L) (ho : opensK (kd P j) = true) (hE : IsEnd P j x) (hji : j < i) (hix : i ≤ x) (hs : sumTo P i = sumTo P j + 1) : Stk P b i (L ++ [(x : Int)])
theorem Stk.len {P : List Line} {b : Int} {i : Nat} {L : List Int} (h : Stk P b i L) : (L.length : Int) = sumTo P i - b := by
 induction h with
 |nil h=>simp only [List.length_nil]; omega
 |snoc hL ho hE hji hix hs ih=>simp only [List.length_append,List.length_cons,List.length_nil]; omega
theorem Stk.pop {P : List Line} {b : Int} {i : Nat} {L : List Int} (h : Stk P b i L) : popL i L = L := by
 cases h with
 |nil h=>rfl
 |snoc hL ho hE hji hix hs=>exact popL_ge _ (by omega)
theorem Stk.next {P : List Line} {k e i : Nat} {L : List Int} (hk : kd P k = 0) (he : IsEnd P k e) (h1 : k < i) (h2 : i < e) (hki : kd P i ≠ 0) (h : Stk P (sumTo P (k + 1)) i L) :
  Stk P (sumTo P (k + 1)) (i + 1) (popL ((i + 1 : Nat) : Int) (if kd P i = 3 ∨ kd P i = 5 then L ++ [endOf P i] else L)) := by
 have hs1 : sumTo P (k + 1) = sumTo P k + 1:=by rw [sumTo,hk]; rfl
 by_cases ho : kd P i = 3 ∨ kd P i = 5
 ·rw [if_pos ho]
  have hop : opensK (kd P i) = true := opensK_iff.2 (.inr ho)
  obtain ⟨e',a,b,c,d⟩ := he.nest (opens_of (.inl hk)) h1 h2 hop
  rw [a,popL_ge _ (by omega)]
  exact .snoc h hop b (by omega) (by omega) (by rw [sumTo,delta_open hop])
 ·rw [if_neg ho]
  have hnop : opensK (kd P i) = false := by
   cases hb : opensK (kd P i) with
   |false=>rfl
   |true =>
        rcases opensK_iff.1 hb with q|q|q
        ·exact absurd q hki
        ·exact absurd (.inl q) ho
        ·exact absurd (.inr q) ho
  by_cases h7 : kd P i = 7
  ·have hs : sumTo P (i + 1) = sumTo P i - 1:=by rw [sumTo,h7,delta_end]; omega
   cases h with
   |nil h=>exact absurd (show sumTo P (i + 1) = sumTo P k by omega) (he.least i (by omega) h2)
   | @snoc _ j x L0 hL hoj hE hji hix hsj =>
    have hxi : x = i := by
     rcases Nat.lt_or_ge i x with q|q
     ·exact absurd (show sumTo P (i + 1) = sumTo P j by omega) (hE.least i (by omega) q)
     ·omega
    subst hxi
    rw [popL_lt _ (by omega)]
    have hn : Stk P (sumTo P (k + 1)) (x + 1) L0 := by
     cases hL with
     |nil h=>exact .nil (by omega)
     | @snoc _ j' y L1 hL1 hoj' hE' hj' hjy hsj' =>
      refine .snoc hL1 hoj' hE' (by omega) ?_ (by omega)
      rcases Nat.lt_or_ge x y with q|q
      ·omega
      ·exfalso
       have hsy := hE'.sum
       rcases Nat.lt_or_ge y x with q2|q2
       ·have := hE.inside hoj (show j < y + 1 by omega) (by omega)
        omega
       ·rw [show y = x by omega] at hsy; omega
    rw [hn.pop]; exact hn
  ·have hs : sumTo P (i + 1) = sumTo P i:=by rw [sumTo,delta_else hnop h7]; omega
   have hn : Stk P (sumTo P (k + 1)) (i + 1) L := by
    cases h with
    |nil h=>exact .nil (by omega)
    | @snoc _ j x L0 hL hoj hE hji hix hsj =>
     have hx7 := hE.kind hoj (by omega)
     refine .snoc hL hoj hE (by omega) ?_ (by omega)
     rcases Nat.lt_or_ge i x with q|q
     ·omega
     ·rw [show x = i by omega] at hx7; exact absurd hx7 h7
   rw [hn.pop]; exact hn
noncomputable def bodyIB (P : List Line) (k e : Nat) : Bool := @decide (bodyI P k e) (Classical.propDecidable _)
theorem bodyIB_yes {P : List Line} {k e : Nat} (h : bodyI P k e) : bodyIB P k e = true:=by unfold bodyIB; exact @decide_eq_true _ (Classical.propDecidable _) h
theorem bodyIB_no {P : List Line} {k e : Nat} (h : ¬ bodyI P k e) : bodyIB P k e = false:=by unfold bodyIB; exact @decide_eq_false _ (Classical.propDecidable _) h
theorem bodyIB_of {P : List Line} {k e : Nat} (h : bodyIB P k e = true) : bodyI P k e:=by unfold bodyIB at h; exact @of_decide_eq_true _ (Classical.propDecidable _) h
noncomputable def bodySB (P : List Line) (k e : Nat) : Bool := @decide (bodyS P k e) (Classical.propDecidable _)
theorem bodySB_yes {P : List Line} {k e : Nat} (h : bodyS P k e) : bodySB P k e = true:=by unfold bodySB; exact @decide_eq_true _ (Classical.propDecidable _) h
theorem bodySB_no {P : List Line} {k e : Nat} (h : ¬ bodyS P k e) : bodySB P k e = false:=by unfold bodySB; exact @decide_eq_false _ (Classical.propDecidable _) h
theorem bodySB_of {P : List Line} {k e : Nat} (h : bodySB P k e = true) : bodyS P k e:=by unfold bodySB at h; exact @of_decide_eq_true _ (Classical.propDecidable _) h
def condI (P : List Line) (k i : Nat) : Prop := kd P i ≠ 0 ∧ sumTo P i - sumTo P (k + 1) + (if kd P i = 3 ∨ kd P i = 5 then 1 else 0) ≤ 4 ∧ knownE P (localsOf P k) (exprAt P i) = true
def condS (P : List Line) (k i : Nat) : Prop := kd P i ≠ 0 ∧ (kd P i = 4 → ∃ j : Nat,k ≤ j ∧ j < i ∧ elseOf P j = (i : Int)) ∧ sumTo P (i + 1) - sumTo P (k + 1) ≤ 4 ∧ knownE P (localsOf P k) (exprAt P i) = true
theorem condI.kn {P : List Line} {k i : Nat} (h : condI P k i) : kd P i ≠ 0 := h.1
theorem condS.kn {P : List Line} {k i : Nat} (h : condS P k i) : kd P i ≠ 0 := h.1
theorem condS.el {P : List Line} {k i : Nat} (h : condS P k i) : kd P i = 4 → ∃ j : Nat,k ≤ j ∧ j < i ∧ elseOf P j = (i : Int) := h.2.1
theorem condS.dp {P : List Line} {k i : Nat} (h : condS P k i) : sumTo P (i + 1) - sumTo P (k + 1) ≤ 4 := h.2.2.1
theorem condS.kw {P : List Line} {k i : Nat} (h : condS P k i) : knownE P (localsOf P k) (exprAt P i) = true := h.2.2.2
theorem condI_no {P : List Line} {k e i : Nat} (h1 : k < i) (h2 : i ≤ e) (h : ¬ condI P k i) : bodyIB P k e = false := bodyIB_no fun q=>h (q.2 i h1 h2)
theorem condS_no {P : List Line} {k e i : Nat} (h1 : k < i) (h2 : i < e) (h : ¬ condS P k i) : bodySB P k e = false := bodySB_no fun q=>h (q.2 i h1 h2)
end Go.Proofs.Ytjjbcoigaejoaaa

namespace Go.Proofs.Ytjjbcoigaejoaaa
theorem funs_mem {P : List Line} {n : Nat} {x : Int} : x ∈ funs P n ↔ ∃ t : Nat,t < n ∧ kd P t = 0 ∧ x = (t : Int) := by
 unfold funs
 rw [List.mem_map]
 constructor
 ·rintro ⟨t,ht,rfl⟩
  obtain ⟨a,b⟩ := List.mem_filter.1 ht
  exact ⟨t,List.mem_range.1 a,of_decide_eq_true b,rfl⟩
 ·rintro ⟨t,a,b,rfl⟩
  exact ⟨t,List.mem_filter.2 ⟨List.mem_range.2 a,decide_eq_true b⟩,rfl⟩
theorem funs_sorted (P : List Line) : ∀ n : Nat,(funs P n).Pairwise (· < ·)
 | 0=>by simp [funs]
 |n + 1=>by
  rw [funs_succ]
  split
  ·rw [List.pairwise_append]
   refine ⟨funs_sorted P n,by simp,fun a ha b hb=>?_⟩
   obtain ⟨t,h1,_,rfl⟩ := funs_mem.1 ha
   simp only [List.mem_cons,List.not_mem_nil,or_false] at hb
   subst hb; omega
  ·rw [List.append_nil]; exact funs_sorted P n
theorem funs_le {P : List Line} {n i j : Nat} (hi : i < (funs P n).length) (hj : j < (funs P n).length) (h : i ≤ j) : (funs P n)[i] ≤ (funs P n)[j] := by
 rcases Nat.lt_or_ge i j with q|q
 ·exact Int.le_of_lt (List.pairwise_iff_getElem.1 (funs_sorted P n) i j hi hj q)
 ·have : i = j:=by omega
  subst this; exact Int.le_refl _
theorem funs_lt {P : List Line} {n i j : Nat} (hi : i < (funs P n).length) (hj : j < (funs P n).length) (h : i < j) : (funs P n)[i] < (funs P n)[j] := List.pairwise_iff_getElem.1 (funs_sorted P n) i j hi hj h
theorem funs_get {P : List Line} {n i : Nat} (hi : i < (funs P n).length) : ∃ t : Nat,t < n ∧ kd P t = 0 ∧ (funs P n)[i] = (t : Int) := funs_mem.1 (List.getElem_mem hi)
structure FnI (P : List Line) (idx next : Nat) : Prop where
 nle : next ≤ P.length
 up : Tiles (bodyI P) P next → Tiles (bodyI P) P 0
 dn : Tiles (bodyI P) P 0 → Tiles (bodyI P) P next
 first : ∀ t : Nat,t < next → kd P t = 0 → findFn P (nameAt P t) = (t : Int)
 lt : ∀ (j : Nat) (hj : j < (funs P P.length).length),idx ≤ j → (next : Int) ≤ (funs P P.length)[j]
 rest : ∀ t : Nat,t < P.length → kd P t = 0 → next ≤ t → ∃ (j : Nat) (hj : j < (funs P P.length).length),idx ≤ j ∧ (funs P P.length)[j] = (t : Int)
theorem FnI.zero (P : List Line) : FnI P 0 0 := by
 refine ⟨by omega,id,id,fun t h=>by omega,fun j hj _=>?_,fun t h1 h2 _=>?_⟩
 ·obtain ⟨t,_,_,h⟩ := funs_get hj; omega
 ·obtain ⟨j,hj,h⟩ := List.mem_iff_getElem.1 (funs_mem.2 ⟨t,h1,h2,rfl⟩ : (t : Int) ∈ funs P P.length)
  exact ⟨j,hj,by omega,h⟩
theorem FnI.head {P : List Line} {idx next k : Nat} (h : FnI P idx next) (hi : idx < (funs P P.length).length) (hk : (funs P P.length)[idx] = (k : Int)) (hT : Tiles (bodyI P) P 0) : k = next := by
 obtain ⟨t,t1,t2,t3⟩ := funs_get hi
 have h1 := h.lt idx hi (Nat.le_refl _)
 cases h.dn hT with
 |done=>omega
 |step hk0 he hb hr =>
  have hlt : next < P.length := kd_in (by omega)
  obtain ⟨j,hj,a,b⟩ := h.rest next hlt hk0 (Nat.le_refl _)
  have := funs_le hi hj a
  omega
theorem FnI.ends {P : List Line} {idx next k : Nat} (h : FnI P idx next) (hi : idx < (funs P P.length).length) (hk : (funs P P.length)[idx] = (k : Int)) (hT : Tiles (bodyI P) P 0) : ∃ e : Nat,endOf P k = (e : Int) ∧ IsEnd P k e ∧ bodyI P k e := by
 have hkn := h.head hi hk hT
 subst hkn
 obtain ⟨t,t1,t2,t3⟩ := funs_get hi
 have hT' := h.dn hT
 cases hT' with
 |done=>omega
 |step hk0 he hb hr=>exact ⟨_,endOf_of (opens_of (.inl hk0)) he,he,hb⟩
theorem FnI.next {P : List Line} {idx k e : Nat} (h : FnI P idx k) (hi : idx < (funs P P.length).length) (hk : (funs P P.length)[idx] = (k : Int)) (he : IsEnd P k e) (hb : bodyI P k e) (hf : findFn P (nameAt P k) = (k : Int)) : FnI P (idx + 1) (e + 1) := by
 obtain ⟨t,t1,t2,t3⟩ := funs_get hi
 have hkt : t = k:=by omega
 subst hkt
 have hel := he.lt
 have hle := he.le
 refine ⟨by omega,fun hT=>h.up (.step t2 he hb hT),fun hT=>?_,fun s hs hs0=>?_,fun j hj hij=>?_,fun s hs hs0 hn=>?_⟩
 ·have hT' := h.dn hT
  cases hT' with
  |done=>omega
  |step hk0 he' hb' hr=>rw [he.inj he']; exact hr
 ·rcases Nat.lt_or_ge s t with q|q
  ·exact h.first s q hs0
  ·rcases Nat.lt_or_ge t s with q2|q2
   ·exact absurd hs0 (hb.2 s q2 (by omega)).1
   ·rw [show s = t by omega]; exact hf
 ·have h1 := funs_lt hi hj (by omega)
  obtain ⟨u,u1,u2,u3⟩ := funs_get hj
  rcases Nat.lt_or_ge e u with q|q
  ·omega
  ·exact absurd u2 (hb.2 u (by omega) q).1
 ·obtain ⟨j,hj,a,b⟩ := h.rest s hs hs0 (by omega)
  refine ⟨j,hj,?_,b⟩
  rcases Nat.lt_or_ge idx j with q|q
  ·exact q
  ·have : j = idx:=by omega
   subst this; omega
theorem FnI.fin {P : List Line} {next : Nat} (h : FnI P (funs P P.length).length next) : Tiles (bodyI P) P 0 ↔ next = P.length := by
 constructor
 ·intro hT
  have hT' := h.dn hT
  cases hT' with
  |done=>rfl
  |step hk0 he hb hr =>
   obtain ⟨j,hj,a,_⟩ := h.rest next (kd_in (by omega)) hk0 (Nat.le_refl _)
   omega
 ·intro hn
  exact h.up (by rw [hn]; exact .done)
theorem progOk_no {P : List Line} (h : ProgI P → False) : progOk P = false := by
 cases hb : progOk P with
 |false=>rfl
 |true=>exact (h (progOk_iff'.1 hb)).elim
theorem progOk_noS {P : List Line} (h : ProgS P → False) : progOk P = false := by
 cases hb : progOk P with
 |false=>rfl
 |true=>exact (h (progOk_iff.1 hb)).elim
end Go.Proofs.Ytjjbcoigaejoaaa

namespace Go.Proofs.Ytjjbcoigaejoaaa
theorem IsEnd.own {P : List Line} {a b e : Nat} (ha : IsEnd P a e) (hb : IsEnd P b e) (oa : opensK (kd P a) = true) (ob : opensK (kd P b) = true) (la : a < e) (lb : b < e) : a = b := by
 rcases Nat.lt_trichotomy a b with q|q|q
 ·obtain ⟨e',_,h,_,l⟩ := ha.nest oa q lb ob
  have := h.inj hb; omega
 ·exact q
 ·obtain ⟨e',_,h,_,l⟩ := hb.nest ob q la oa
  have := h.inj ha; omega
theorem elseGo_in {P : List Line} {k e : Nat} (hE : IsEnd P k e) (ho : opensK (kd P k) = true) : ∀ (n i : Nat),e - i ≤ n → k < i → ∀ j : Nat,elseGo P e i = (j : Int) → ∀ w,i ≤ w → w < j → kd P w = 3 ∨ kd P w = 5 → ∃ x,IsEnd P w x ∧ w < x ∧ x < j
 | 0,i,hn,hk,j,h,w,h1,h2,hw=>by rw [elseGo_end (by omega)] at h; omega
 |n + 1,i,hn,hk,j,h,w,h1,h2,hw=>by
  by_cases hi : i < e
  ·by_cases h4 : kd P i = 4
   ·rw [elseGo_hit hi h4] at h; omega
   ·by_cases hs : (kd P i = 3 ∨ kd P i = 5) ∧ (i : Int) ≤ endOf P i
    ·rw [elseGo_skip hi hs.1 hs.2] at h
     obtain ⟨x,x1,x2,x3⟩ := endOf_nn (P := P) (k := i) (by omega)
     rw [x1,Int.toNat_natCast] at h
     have hj : x + 1 ≤ j := by
      rcases elseGo_form P e e (x + 1) (by omega) with q|⟨j',q1,q2,_⟩
      ·omega
      ·omega
     by_cases hwi : w = i
     ·subst hwi; exact ⟨x,x2,x3,by omega⟩
     by_cases hwx : w < x
     ·obtain ⟨y,_,y2,y3,y4⟩ := x2.nest (opens_of (.inr hs.1)) (show i < w by omega) hwx (opens_of (.inr hw))
      exact ⟨y,y2,y3,by omega⟩
     by_cases hwe : w = x
     ·have := x2.kind (opens_of (.inr hs.1)) x3
      rw [hwe] at hw; omega
     ·exact elseGo_in hE ho n (x + 1) (by omega) (by omega) j h w (by omega) h2 hw
    ·rw [elseGo_next hi h4 hs] at h
     by_cases hwi : w = i
     ·subst hwi
      exfalso
      obtain ⟨y,y1,y2,y3,y4⟩ := hE.nest ho hk hi (opens_of (.inr hw))
      exact hs ⟨hw,by omega⟩
     ·exact elseGo_in hE ho n (i + 1) (by omega) (by omega) j h w (by omega) h2 hw
  ·rw [elseGo_end hi] at h; omega
theorem elseOf_in {P : List Line} {k j : Nat} (h : elseOf P k = (j : Int)) : ∃ e,IsEnd P k e ∧ k < j ∧ j < e ∧ kd P j = 4 ∧ kd P k = 3 ∧ endOf P k = (e : Int) ∧ ∀ w,k < w → w < j → kd P w = 3 ∨ kd P w = 5 → ∃ x,IsEnd P w x ∧ w < x ∧ x < j := by
 rcases elseOf_form P k with q|⟨j',e,a,b,c,d,f,g⟩
 ·omega
 ·obtain rfl : j' = j:=by omega
  have ho := opens_of (.inr (.inl f))
  have he := endOf_of ho g
  refine ⟨e,g,b,c,d,f,he,fun w h1 h2 hw=>?_⟩
  have h' : elseGo P e (k + 1) = (j' : Int) := by
   unfold elseOf at h
   rw [if_neg (by rw [he,Int.toNat_natCast]; omega),he,Int.toNat_natCast,Int.toNat_natCast] at h
   exact h
  exact elseGo_in g ho (e - (k + 1)) (k + 1) (Nat.le_refl _) (by omega) j' h' w (by omega) h2 hw
theorem elseOf_own {P : List Line} {a b j : Nat} (ha : elseOf P a = (j : Int)) (hb : elseOf P b = (j : Int)) : a = b := by
 obtain ⟨e1,p1,p2,p3,p4,p5,p6,p7⟩ := elseOf_in ha
 obtain ⟨e2,q1,q2,q3,q4,q5,q6,q7⟩ := elseOf_in hb
 rcases Nat.lt_trichotomy a b with h|h|h
 ·obtain ⟨x,x1,x2,x3⟩ := p7 b h q2 (.inl q5)
  have := x1.inj q1; omega
 ·exact h
 ·obtain ⟨x,x1,x2,x3⟩ := q7 a h p2 (.inl p5)
  have := x1.inj p1; omega
def own1 (P : List Line) (L : List Int) (k : Nat) : List Int := if 0 ≤ endOf P k then L.set (endOf P k).toNat k else L
def own2 (P : List Line) (L : List Int) (k : Nat) : List Int := if 0 ≤ elseOf P k then L.set (elseOf P k).toNat k else L
def ownGo (P : List Line) : Nat → List Int
 | 0=>List.replicate P.length 0
 |k + 1=>own2 P (own1 P (ownGo P k) k) k
theorem own_len (P : List Line) : ∀ k,(ownGo P k).length = P.length
 | 0=>by simp [ownGo]
 |k + 1=>by
  have := own_len P k
  unfold ownGo own2 own1
  split <;> split <;> simp [this]
theorem own_end {P : List Line} {k e : Nat} (hE : IsEnd P k e) (ho : opensK (kd P k) = true) (hke : k < e) : ∀ n,k < n → (ownGo P n)[e]? = some (k : Int)
 |n + 1,hn=>by
  have he := endOf_of ho hE
  have h7 := hE.kind ho hke
  have hel : ∀ m : Nat,∀ j : Nat,elseOf P m = (j : Int) → j ≠ e := fun m j hm hj=>by
   obtain ⟨_,_,_,_,q,_⟩ := elseOf_in hm
   rw [hj] at q; omega
  have l2 : ∀ L : List Int,(own2 P L n)[e]? = L[e]? := fun L=>by
   unfold own2
   split
   ·rename_i h
    rw [List.getElem?_set_ne]
    have := hel n (elseOf P n).toNat (by omega)
    omega
   ·rfl
  rw [ownGo,l2]
  by_cases hkn : k = n
  ·subst hkn
   unfold own1
   rw [if_pos (by omega),he,Int.toNat_natCast,List.getElem?_set_self (by rw [own_len]; exact hE.lt)]
  ·have ih := own_end hE ho hke n (by omega)
   unfold own1
   split
   ·rename_i h
    obtain ⟨x,x1,x2,x3⟩ := endOf_nn (P := P) (k := n) h
    rw [List.getElem?_set_ne,ih]
    intro hx
    have hx : x = e:=by omega
    subst hx
    have on := (endOf_opens (P := P) (k := n) h).2.2
    rw [Int.toNat_natCast] at on
    exact hkn (hE.own x2 ho on hke x3)
   ·exact ih
theorem own_else {P : List Line} {k j : Nat} (h : elseOf P k = (j : Int)) (hl : j < P.length) : ∀ n,k < n → (ownGo P n)[j]? = some (k : Int)
 |n + 1,hn=>by
  obtain ⟨e,p1,p2,p3,p4,p5,p6,p7⟩ := elseOf_in h
  have l1 : ∀ L : List Int,(own1 P L n)[j]? = L[j]? := fun L=>by
   unfold own1
   split
   ·rename_i hh
    obtain ⟨x,x1,x2,x3⟩ := endOf_nn (P := P) (k := n) hh
    have on := (endOf_opens (P := P) (k := n) hh).2.2
    rw [Int.toNat_natCast] at on
    have := x2.kind on x3
    rw [List.getElem?_set_ne]
    intro hx
    rw [show x = j by omega] at this; omega
   ·rfl
  rw [ownGo]
  by_cases hkn : k = n
  ·subst hkn
   unfold own2
   rw [if_pos (by omega),h,Int.toNat_natCast,List.getElem?_set_self]
   unfold own1
   split <;> simp [own_len,hl]
  ·have ih := own_else h hl n (by omega)
   unfold own2
   split
   ·rename_i hh
    rw [List.getElem?_set_ne,l1,ih]
    intro hx
    exact hkn (elseOf_own h (b := n) (by omega))
   ·rw [l1,ih]
def ownL (P : List Line) : List Int := ownGo P P.length
def inW (P : List Line) (f i w : Nat) : Bool := decide (f < w) && decide (kd P w = 5) && decide ((i : Int) ≤ endOf P w)
def encN (P : List Line) (f i : Nat) : List Nat := (List.range i).filter (inW P f i)
def encW (P : List Line) (f i : Nat) : List Int := (encN P f i).map fun w : Nat=>(w : Int)
theorem filt_ext {p q : Nat → Bool} {a b : Nat} (hab : a ≤ b) (h1 : ∀ w,w < a → q w = p w) (h2 : ∀ w,a ≤ w → w < b → q w = false) : (List.range b).filter q = (List.range a).filter p := by
 obtain ⟨d,rfl⟩ : ∃ d,b = a + d := ⟨b - a,by omega⟩
 induction d with
 |zero =>
  rw [Nat.add_zero]
  exact List.filter_congr fun w hw=>h1 w (List.mem_range.1 hw)
 |succ d ih =>
  rw [← Nat.add_assoc,List.range_succ,List.filter_append,ih (by omega) fun w q1 q2=>h2 w q1 (by omega)]
  simp [h2 (a + d) (by omega) (by omega)]
theorem inW_iff {P : List Line} {f i w : Nat} : inW P f i w = true ↔ f < w ∧ kd P w = 5 ∧ (i : Int) ≤ endOf P w:=by simp [inW,and_assoc]
theorem inW_eq {P : List Line} {f i i' w : Nat} (h : f < w → kd P w = 5 → ((i : Int) ≤ endOf P w ↔ (i' : Int) ≤ endOf P w)) : inW P f i w = inW P f i' w := by
 have : inW P f i w = true ↔ inW P f i' w = true := by
  rw [inW_iff,inW_iff]
  exact ⟨fun ⟨a,b,c⟩=>⟨a,b,(h a b).1 c⟩,fun ⟨a,b,c⟩=>⟨a,b,(h a b).2 c⟩⟩
 cases h1 : inW P f i w <;> cases h2 : inW P f i' w <;> simp_all
theorem inW_no {P : List Line} {f i w : Nat} (h : f < w → kd P w = 5 → ¬ (i : Int) ≤ endOf P w) : inW P f i w = false := by
 cases h1 : inW P f i w with
 |false=>rfl
 |true=>obtain ⟨a,b,c⟩ := inW_iff.1 h1; exact absurd c (h a b)
structure InF (P : List Line) (f E i : Nat) : Prop where
 hf : kd P f = 0
 hE : IsEnd P f E
 nf : ∀ w,f < w → w < E → kd P w ≠ 0
 lo : f < i
 hi : i < E
theorem InF.ends {P : List Line} {f E i w : Nat} (h : InF P f E i) (h1 : f < w) (h2 : w < E) (hw : kd P w = 3 ∨ kd P w = 5) : ∃ x : Nat,endOf P w = (x : Int) ∧ IsEnd P w x ∧ w < x ∧ x < E := h.hE.nest (opens_of (.inl h.hf)) h1 h2 (opens_of (.inr hw))
theorem InF.at' {P : List Line} {f E i : Nat} (h : InF P f E i) {j : Nat} (h1 : f < j) (h2 : j < E) : InF P f E j := ⟨h.hf,h.hE,h.nf,h1,h2⟩
theorem InF.noend {P : List Line} {f E i : Nat} (h : InF P f E i) {k : Nat} (hk : kd P k ≠ 7) {w : Nat} (h1 : f < w) (h2 : w < E) (h5 : kd P w = 5) : endOf P w ≠ (k : Int) := fun he=>by
 obtain ⟨x,x1,x2,x3,x4⟩ := h.ends h1 h2 (.inr h5)
 have := x2.kind (opens_of (.inr (.inr h5))) x3
 rw [show x = k by omega] at this
 exact hk this
theorem enc_next {P : List Line} {f E i : Nat} (h : InF P f E i) (h5 : kd P i ≠ 5) (h7 : kd P i ≠ 7) : encW P f (i + 1) = encW P f i := by
 unfold encW encN
 rw [filt_ext (a := i) (b := i + 1) (p := inW P f i) (by omega) (fun w hw=>inW_eq fun hf hk=>?_) fun w q1 q2=>inW_no fun _ hk=>?_]
 ·have := h.noend h7 hf (by have := h.hi; omega) hk
  omega
 ·exact absurd hk (by rw [show w = i by omega]; exact h5)
theorem enc_while {P : List Line} {f E i : Nat} (h : InF P f E i) (h5 : kd P i = 5) : encW P f (i + 1) = encW P f i ++ [(i : Int)] := by
 unfold encW encN
 obtain ⟨x,x1,x2,x3,x4⟩ := h.ends h.lo h.hi (.inr h5)
 rw [List.range_succ,List.filter_append,List.map_append]
 have e1 : (List.range i).filter (inW P f (i + 1)) = (List.range i).filter (inW P f i) := List.filter_congr fun w hw=>inW_eq fun hf hk=>by
  have := h.noend (k := i) (by omega) hf (by have := h.hi; have := List.mem_range.1 hw; omega) hk
  omega
 have e2 : inW P f (i + 1) i = true := inW_iff.2 ⟨h.lo,h5,by omega⟩
 rw [e1]; simp [e2]
theorem enc_endif {P : List Line} {f E i k : Nat} (h : InF P f E i) (h7 : kd P i = 7) (hk3 : kd P k = 3) (hk : IsEnd P k i) (hki : k < i) : encW P f (i + 1) = encW P f i := by
 unfold encW encN
 rw [filt_ext (a := i) (b := i + 1) (p := inW P f i) (by omega) (fun w hw=>inW_eq fun hf h5=>?_) fun w q1 q2=>inW_no fun _ hk=>?_]
 ·obtain ⟨x,x1,x2,x3,x4⟩ := h.ends hf (by have := h.hi; omega) (.inr h5)
  have : x ≠ i := fun e=>by
   subst e
   have := x2.own hk (opens_of (.inr (.inr h5))) (opens_of (.inr (.inl hk3))) x3 hki
   rw [this] at h5; omega
  omega
 ·exact absurd hk (by rw [show w = i by omega,h7]; omega)
theorem enc_endwhile {P : List Line} {f E i k : Nat} (h : InF P f E i) (hk5 : kd P k = 5) (hk : IsEnd P k i) (hki : k < i) (hfk : f < k) : encW P f i = encW P f k ++ [(k : Int)] := by
 unfold encW encN
 have ho := opens_of (P := P) (k := k) (.inr (.inr hk5))
 have he := endOf_of ho hk
 have e1 : (List.range i).filter (inW P f i) = (List.range (k + 1)).filter (inW P f i) := filt_ext (by omega) (fun w _=>rfl) fun w q1 q2=>inW_no fun hf h5=>by
  obtain ⟨x,x1,x2,x3,x4⟩ := hk.nest ho (show k < w by omega) q2 (opens_of (.inr (.inr h5)))
  omega
 rw [e1,List.range_succ,List.filter_append,List.map_append]
 have e2 : (List.range k).filter (inW P f i) = (List.range k).filter (inW P f k) := List.filter_congr fun w hw=>inW_eq fun hf h5=>by
  have hwk := List.mem_range.1 hw
  obtain ⟨x,x1,x2,x3,x4⟩ := h.ends hf (by have := h.hi; omega) (.inr h5)
  constructor
  ·omega
  ·intro hq
   have := h.noend (k := k) (by omega) hf (by have := h.hi; omega) h5
   obtain ⟨y,y1,y2,y3,y4⟩ := x2.nest (opens_of (.inr (.inr h5))) hwk (show k < x by omega) ho
   omega
 have e3 : inW P f i k = true := inW_iff.2 ⟨hfk,hk5,by omega⟩
 rw [e2]; simp [e3]
theorem enc_skip {P : List Line} {f E k e : Nat} (h : InF P f E k) (hk : kd P k = 3 ∨ kd P k = 5) (he : IsEnd P k e) (hke : k < e) : encW P f (e + 1) = encW P f k := by
 have ho := opens_of (P := P) (k := k) (.inr hk)
 have hee := endOf_of ho he
 unfold encW encN
 rw [filt_ext (a := k) (b := e + 1) (p := inW P f k) (by omega) (fun w hw=>inW_eq fun hf h5=>?_) fun w q1 q2=>inW_no fun hf h5=>?_]
 ·obtain ⟨x,x1,x2,x3,x4⟩ := h.ends hf (by have := h.hi; omega) (.inr h5)
  constructor
  ·omega
  ·intro hq
   have := h.noend (k := k) (by omega) hf (by have := h.hi; omega) h5
   obtain ⟨y,y1,y2,y3,y4⟩ := x2.nest (opens_of (.inr (.inr h5))) hw (show k < x by omega) ho
   omega
 ·by_cases q : w = k
  ·rw [q]; omega
  by_cases q' : w < e
  ·obtain ⟨x,x1,x2,x3,x4⟩ := he.nest ho (show k < w by omega) q' (opens_of (.inr (.inr h5)))
   omega
  ·have := he.kind ho hke
   rw [show w = e by omega] at h5; omega
theorem enc_else {P : List Line} {f E k j : Nat} (h : InF P f E k) (hj : elseOf P k = (j : Int)) : encW P f (j + 1) = encW P f k := by
 obtain ⟨e,p1,p2,p3,p4,p5,p6,p7⟩ := elseOf_in hj
 have ho := opens_of (P := P) (k := k) (.inr (.inl p5))
 unfold encW encN
 rw [filt_ext (a := k) (b := j + 1) (p := inW P f k) (by omega) (fun w hw=>inW_eq fun hf h5=>?_) fun w q1 q2=>inW_no fun hf h5=>?_]
 ·obtain ⟨x,x1,x2,x3,x4⟩ := h.ends hf (by have := h.hi; omega) (.inr h5)
  constructor
  ·omega
  ·intro hq
   have := h.noend (k := k) (by omega) hf (by have := h.hi; omega) h5
   obtain ⟨y,y1,y2,y3,y4⟩ := x2.nest (opens_of (.inr (.inr h5))) hw (show k < x by omega) ho
   have := y2.inj p1
   omega
 ·by_cases q : w = k
  ·rw [q] at h5; omega
  by_cases q' : w < j
  ·obtain ⟨x,x1,x2,x3⟩ := p7 w (by omega) q' (.inr h5)
   have := endOf_of (opens_of (.inr (.inr h5))) x1
   omega
  ·rw [show w = j by omega] at h5; omega
end Go.Proofs.Ytjjbcoigaejoaaa

namespace Go.Proofs.Ytjjbcoigaejoaaa
structure RS where
 out : List Int
 vis : List (List Int)
 calls : List Int
inductive Rz where
 |ok (v : Int) (s : RS)
 |stop (c : Int) (s : RS) (a : Nat)
inductive Ra where
 |ok (l : List Int) (s : RS)
 |stop (c : Int) (s : RS) (a : Nat)
def envA : List ByteArray → List Int → ByteArray → Int
 |a :: A,v :: V,y=>if a = y then v else envA A V y
 | _,_,_=>0
def upd (env : ByteArray → Int) (x : ByteArray) (v : Int) : ByteArray → Int := fun y=>if y = x then v else env y
def nxt (T : List Tok) (a : Nat) : Nat := if (a : Int) < exprEnd T a then (exprEnd T a).toNat else a + 1
def ends (T : List Tok) : Nat → Nat → Nat
 | 0,a=>a
 |m + 1,a=>ends T m (nxt T a)
theorem nxt_gt (T : List Tok) (a : Nat) : a < nxt T a:=by unfold nxt; split <;> omega
def ownE (P : List Line) (i : Nat) : Nat := ((ownL P).getD i 0).toNat
def skipOf (P : List Line) (i : Nat) : Nat := if 0 ≤ elseOf P i then (elseOf P i).toNat else (endOf P i).toNat
def pushC (s : RS) (k : Nat) : RS := ⟨s.out,s.vis,s.calls ++ [(k : Int)]⟩
def popC (s : RS) : RS := ⟨s.out,s.vis,s.calls.dropLast⟩
def visit1 (s : RS) (i : Nat) : RS := ⟨s.out,s.vis ++ [s.calls ++ [(i : Int)]],s.calls⟩
def out1 (s : RS) (v : Int) : RS := ⟨s.out ++ [v],s.vis,s.calls⟩
section
variable (ap : Int → Int → Int → Int) (P : List Line) (lim : Nat)
mutual
def evalG : Nat → Nat → (ByteArray → Int) → Nat → RS → Option Rz
 | 0,_,_,_,_=>none
 |n + 1,k,env,a,s=>match (exprAt P k)[a]? with
  |none=>some (.ok 0 s)
  |some t=>match opsG n k env (arN t) (a + 1) [] s with
   |none=>none
   |some (.stop c s' q)=>some (.stop c s' q)
   |some (.ok A s') =>
    if t.kind = 0 then some (.ok t.num s')
    else if t.kind = 1 then some (.ok (env t.name) s')
    else if t.kind = 7 then
     if 6 ≤ s'.calls.length then some (.stop 2 s' (ends (exprAt P k) (arN t) (a + 1)))
     else match bodyG' n (findFn P t.name).toNat (envA (argsAt P (findFn P t.name).toNat) A) ((findFn P t.name).toNat + 1) (pushC s' k) with
      |none=>none
      |some (.stop c s2 _)=>some (.stop c s2 (ends (exprAt P k) (arN t) (a + 1)))
      |some (.ok v s2)=>some (.ok v (popC s2))
    else some (.ok (ap t.kind (A.getD 0 0) (A.getD 1 0)) s')
def opsG : Nat → Nat → (ByteArray → Int) → Nat → Nat → List Int → RS → Option Ra
 | 0,_,_,_,_,_,_=>none
 |n + 1,k,env,0,a,A,s=>some (.ok A s)
 |n + 1,k,env,m + 1,a,A,s=>match evalG n k env a s with
  |none=>none
  |some (.stop c s' q)=>some (.stop c s' q)
  |some (.ok v s')=>opsG n k env m (nxt (exprAt P k) a) (A ++ [v]) s'
def bodyG' : Nat → Nat → (ByteArray → Int) → Nat → RS → Option Rz
 | 0,_,_,_,_=>none
 |n + 1,f,env,i,s =>
  if kd P i = 4 then bodyG' n f env ((endOf P (ownE P i : Nat)).toNat + 1) s
  else if kd P i = 7 then
   if kd P (ownE P i) = 0 then some (.ok 0 s)
   else if kd P (ownE P i) = 5 then bodyG' n f env (ownE P i) s
   else bodyG' n f env (i + 1) s
  else if lim ≤ s.vis.length then some (.stop 1 s 0)
  else match evalG n i env 0 (visit1 s i) with
   |none=>none
   |some (.stop c s' _)=>some (.stop c s' 0)
   |some (.ok v s') =>
    if kd P i = 1 then bodyG' n f (upd env (nameAt P i) v) (i + 1) s'
    else if kd P i = 2 then bodyG' n f env (i + 1) (out1 s' v)
    else if kd P i = 6 then some (.ok v s')
    else if v = 0 then bodyG' n f env (skipOf P i + 1) s'
    else bodyG' n f env (i + 1) s'
end
end
section
variable {ap : Int → Int → Int → Int} {P : List Line} {lim : Nat}
theorem fuel_up : ∀ n : Nat,(∀ k env a s z,evalG ap P lim n k env a s = some z → evalG ap P lim (n + 1) k env a s = some z) ∧
  (∀ k env m a A s z,opsG ap P lim n k env m a A s = some z → opsG ap P lim (n + 1) k env m a A s = some z) ∧
  (∀ f env i s z,bodyG' ap P lim n f env i s = some z → bodyG' ap P lim (n + 1) f env i s = some z)
 | 0=>⟨fun k env a s z h=>by simp [evalG] at h,fun k env m a A s z h=>by simp [opsG] at h,fun f env i s z h=>by simp [bodyG'] at h⟩
 |n + 1=>by
  obtain ⟨ih1,ih2,ih3⟩ := fuel_up n
  refine ⟨fun k env a s z h=>?_,fun k env m a A s z h=>?_,fun f env i s z h=>?_⟩
  ·rw [evalG] at h ⊢
   cases ht : (exprAt P k)[a]? with
   |none=>rw [ht] at h; exact h
   |some t =>
    rw [ht] at h
    simp only at h ⊢
    cases hA : opsG ap P lim n k env (arN t) (a + 1) [] s with
    |none=>rw [hA] at h; cases h
    |some q =>
     rw [hA] at h
     rw [ih2 _ _ _ _ _ _ _ hA]
     cases q with
     |stop c s' q=>exact h
     |ok A s' =>
      simp only at h ⊢
      split
      ·rename_i q; rw [if_pos q] at h; exact h
      ·rename_i q; rw [if_neg q] at h
       split
       ·rename_i q; rw [if_pos q] at h; exact h
       ·rename_i q; rw [if_neg q] at h
        split
        ·rename_i q; rw [if_pos q] at h
         split
         ·rename_i q; rw [if_pos q] at h; exact h
         ·rename_i q; rw [if_neg q] at h
          cases hB : bodyG' ap P lim n (findFn P t.name).toNat (envA (argsAt P (findFn P t.name).toNat) A) ((findFn P t.name).toNat + 1) (pushC s' k) with
          |none=>rw [hB] at h; cases h
          |some q=>rw [hB] at h; rw [ih3 _ _ _ _ _ hB]; exact h
        ·rename_i q; rw [if_neg q] at h; exact h
  ·cases m with
   |zero=>rw [opsG] at h ⊢; exact h
   |succ m =>
    rw [opsG] at h ⊢
    cases hE : evalG ap P lim n k env a s with
    |none=>rw [hE] at h; cases h
    |some q =>
     rw [hE] at h
     rw [ih1 _ _ _ _ _ hE]
     cases q with
     |stop c s' q=>exact h
     |ok v s'=>exact ih2 _ _ _ _ _ _ _ h
  ·rw [bodyG'] at h ⊢
   split
   ·rename_i q; rw [if_pos q] at h; exact ih3 _ _ _ _ _ h
   ·rename_i q; rw [if_neg q] at h
    split
    ·rename_i q; rw [if_pos q] at h
     split
     ·rename_i q; rw [if_pos q] at h; exact h
     ·rename_i q; rw [if_neg q] at h
      split
      ·rename_i q; rw [if_pos q] at h; exact ih3 _ _ _ _ _ h
      ·rename_i q; rw [if_neg q] at h; exact ih3 _ _ _ _ _ h
    ·rename_i q; rw [if_neg q] at h
     split
     ·rename_i q; rw [if_pos q] at h; exact h
     ·rename_i q; rw [if_neg q] at h
      cases hE : evalG ap P lim n i env 0 (visit1 s i) with
      |none=>rw [hE] at h; cases h
      |some q =>
       rw [hE] at h
       rw [ih1 _ _ _ _ _ hE]
       cases q with
       |stop c s' q=>exact h
       |ok v s' =>
        simp only at h ⊢
        split
        ·rename_i q; rw [if_pos q] at h; exact ih3 _ _ _ _ _ h
        ·rename_i q; rw [if_neg q] at h
         split
         ·rename_i q; rw [if_pos q] at h; exact ih3 _ _ _ _ _ h
         ·rename_i q; rw [if_neg q] at h
          split
          ·rename_i q; rw [if_pos q] at h; exact h
          ·rename_i q; rw [if_neg q] at h
           split
           ·rename_i q; rw [if_pos q] at h; exact ih3 _ _ _ _ _ h
           ·rename_i q; rw [if_neg q] at h; exact ih3 _ _ _ _ _ h
theorem evalG_up {n m : Nat} (hm : n ≤ m) {k : Nat} {env : ByteArray → Int} {a : Nat} {s : RS} {z : Rz} (h : evalG ap P lim n k env a s = some z) : evalG ap P lim m k env a s = some z := by
 induction hm with
 |refl=>exact h
 |step _ ih=>exact (fuel_up _).1 _ _ _ _ _ ih
theorem opsG_up {n m : Nat} (hm : n ≤ m) {k : Nat} {env : ByteArray → Int} {j a : Nat} {A : List Int} {s : RS} {z : Ra} (h : opsG ap P lim n k env j a A s = some z) : opsG ap P lim m k env j a A s = some z := by
 induction hm with
 |refl=>exact h
 |step _ ih=>exact (fuel_up _).2.1 _ _ _ _ _ _ _ ih
theorem bodyG_up {n m : Nat} (hm : n ≤ m) {f : Nat} {env : ByteArray → Int} {i : Nat} {s : RS} {z : Rz} (h : bodyG' ap P lim n f env i s = some z) : bodyG' ap P lim m f env i s = some z := by
 induction hm with
 |refl=>exact h
 |step _ ih=>exact (fuel_up _).2.2 _ _ _ _ _ ih
def le1 (s s' : RS) : Prop := s.vis.length ≤ s'.vis.length ∧ s'.calls = s.calls
theorem le1.refl (s : RS) : le1 s s := ⟨Nat.le_refl _,rfl⟩
theorem le1.trans {a b c : RS} (h : le1 a b) (g : le1 b c) : le1 a c := ⟨Nat.le_trans h.1 g.1,g.2.trans h.2⟩
theorem le1.visit {s s' : RS} {i : Nat} (h : le1 (visit1 s i) s') : le1 s s' := ⟨by have := h.1; simp [visit1] at this; omega,h.2⟩
theorem le1.out {s s' : RS} {v : Int} (h : le1 s s') : le1 s (out1 s' v) := h
theorem le1.call {s s' : RS} {k : Nat} (h : le1 (pushC s k) s') : le1 s (popC s') := ⟨h.1,by show s'.calls.dropLast = s.calls; rw [h.2]; simp [pushC]⟩
theorem grows : ∀ n : Nat,(∀ k env a s v s',evalG ap P lim n k env a s = some (.ok v s') → le1 s s') ∧
  (∀ k env m a A s A' s',opsG ap P lim n k env m a A s = some (.ok A' s') → le1 s s' ∧ A'.length = A.length + m) ∧
  (∀ f env i s v s',bodyG' ap P lim n f env i s = some (.ok v s') → le1 s s')
 | 0=>⟨fun k env a s v s' h=>by simp [evalG] at h,fun k env m a A s A' s' h=>by simp [opsG] at h,fun f env i s v s' h=>by simp [bodyG'] at h⟩
 |n + 1=>by
  obtain ⟨ih1,ih2,ih3⟩ := grows n
  refine ⟨fun k env a s v s' h=>?_,fun k env m a A s A' s' h=>?_,fun f env i s v s' h=>?_⟩
  ·rw [evalG] at h
   cases ht : (exprAt P k)[a]? with
   |none=>rw [ht] at h; cases h; exact .refl s
   |some t =>
    rw [ht] at h
    simp only at h
    cases hA : opsG ap P lim n k env (arN t) (a + 1) [] s with
    |none=>rw [hA] at h; cases h
    |some q =>
     rw [hA] at h
     cases q with
     |stop c s1 q=>cases h
     |ok A s1 =>
      have g1 := (ih2 _ _ _ _ _ _ _ _ hA).1
      simp only at h
      split at h
      ·cases h; exact g1
      ·split at h
       ·cases h; exact g1
       ·split at h
        ·split at h
         ·cases h
         ·cases hB : bodyG' ap P lim n (findFn P t.name).toNat (envA (argsAt P (findFn P t.name).toNat) A) ((findFn P t.name).toNat + 1) (pushC s1 k) with
          |none=>rw [hB] at h; cases h
          |some q =>
           rw [hB] at h
           cases q with
           |stop c s2 q=>cases h
           |ok v2 s2=>cases h; exact g1.trans (ih3 _ _ _ _ _ _ hB).call
        ·cases h; exact g1
  ·cases m with
   |zero=>rw [opsG] at h; cases h; exact ⟨.refl s,rfl⟩
   |succ m =>
    rw [opsG] at h
    cases hE : evalG ap P lim n k env a s with
    |none=>rw [hE] at h; cases h
    |some q =>
     rw [hE] at h
     cases q with
     |stop c s1 q=>cases h
     |ok v s1 =>
      obtain ⟨g1,g2⟩ := ih2 _ _ _ _ _ _ _ _ h
      exact ⟨(ih1 _ _ _ _ _ _ hE).trans g1,by rw [g2]; simp; omega⟩
  ·rw [bodyG'] at h
   split at h
   ·exact ih3 _ _ _ _ _ _ h
   ·split at h
    ·split at h
     ·cases h; exact .refl s
     ·split at h
      ·exact ih3 _ _ _ _ _ _ h
      ·exact ih3 _ _ _ _ _ _ h
    ·split at h
     ·cases h
     ·cases hE : evalG ap P lim n i env 0 (visit1 s i) with
      |none=>rw [hE] at h; cases h
      |some q =>
       rw [hE] at h
       cases q with
       |stop c s1 q=>cases h
       |ok v1 s1 =>
        have g1 := (ih1 _ _ _ _ _ _ hE).visit
        simp only at h
        split at h
        ·exact g1.trans (ih3 _ _ _ _ _ _ h)
        ·split at h
         ·exact (le1.out (v := v1) g1).trans (ih3 _ _ _ _ _ _ h)
         ·split at h
          ·cases h; exact g1
          ·split at h
           ·exact g1.trans (ih3 _ _ _ _ _ _ h)
           ·exact g1.trans (ih3 _ _ _ _ _ _ h)
end
end Go.Proofs.Ytjjbcoigaejoaaa

namespace Go.Proofs.Ytjjbcoigaejoaaa
theorem endGo_split : ∀ (L : List Tok) (n m a : Nat),0 ≤ endGo L (n + m) a → ∃ k,k ≤ L.length ∧ endGo L n a = ((a + k : Nat) : Int) ∧ endGo (L.drop k) m (a + k) = endGo L (n + m) a
 |L,0,m,a,h=>⟨0,by simp,endGo_zero L a,by simp⟩
 | [],n + 1,m,a,h=>by rw [endGo_nil a (by omega)] at h; omega
 |t :: L,n + 1,m,a,h=>by
  cases ht : tokOk t with
  |false=>rw [endGo_bad (by omega) ht] at h; omega
  |true =>
   have e0 : endGo (t :: L) (n + 1 + m) a = endGo L ((n + arN t) + m) (a + 1):=by rw [endGo_ok (by omega) ht,show n + 1 + m - 1 + arN t = (n + arN t) + m by omega]
   rw [e0] at h ⊢
   obtain ⟨k,h1,h2,h3⟩ := endGo_split L (n + arN t) m (a + 1) h
   refine ⟨k + 1,by simp; omega,?_,?_⟩
   ·rw [endGo_ok (by omega) ht,show n + 1 - 1 + arN t = n + arN t by omega,h2]; congr 1; omega
   ·rw [List.drop_succ_cons,show a + (k + 1) = a + 1 + k by omega]; exact h3
def Vld (T : List Tok) (m p e : Nat) : Prop := endGo (T.drop p) m p = ((e : Nat) : Int)
theorem exprEnd_nat (T : List Tok) (a : Nat) : exprEnd T a = endGo (T.drop a) 1 a := by
 unfold exprEnd; rw [if_pos (by omega),Int.toNat_natCast]
theorem exprEnd_nxt {T : List Tok} {a : Nat} (h : 0 ≤ exprEnd T a) : exprEnd T a = (nxt T a : Nat) := by
 have h1 := endGo_form (T.drop a) 1 a
 rw [← exprEnd_nat] at h1
 rcases h1 with e|⟨k,_,e,_,hk⟩
 ·omega
 ·have := hk (by omega)
  unfold nxt
  rw [if_pos (by omega)]; omega
theorem Vld.step {T : List Tok} {m p e : Nat} (h : Vld T (m + 1) p e) : p < T.length ∧ 0 ≤ exprEnd T p ∧ Vld T m (nxt T p) e := by
 unfold Vld at h
 rw [Nat.add_comm] at h
 obtain ⟨k,h1,h2,h3⟩ := endGo_split (T.drop p) 1 m p (by rw [h]; omega)
 rw [← exprEnd_nat] at h2
 have h0 : 0 ≤ exprEnd T p:=by omega
 have h4 := exprEnd_nxt h0
 refine ⟨?_,h0,?_⟩
 ·rcases Nat.lt_or_ge p T.length with q|q
  ·exact q
  ·rw [List.drop_eq_nil_of_le q,endGo_nil _ (by omega)] at h; omega
 ·unfold Vld
  rw [show nxt T p = p + k by omega,← h,← h3,List.drop_drop]
theorem Vld.zero {T : List Tok} {p e : Nat} (h : Vld T 0 p e) : p = e := by
 unfold Vld at h; rw [endGo_zero] at h; omega
theorem vld_args {T : List Tok} {a : Nat} (h : 0 ≤ exprEnd T a) : ∃ t,T[a]? = some t ∧ a < T.length ∧ tokOk t = true ∧ Vld T (arN t) (a + 1) (nxt T a) := by
 have h1 := exprEnd_nxt h
 rw [exprEnd_nat] at h h1
 rcases Nat.lt_or_ge a T.length with q|q
 ·refine ⟨T[a],List.getElem?_eq_getElem q,q,?_⟩
  rw [List.drop_eq_getElem_cons q] at h h1
  cases ht : tokOk T[a] with
  |false=>rw [endGo_bad (by omega) ht] at h; omega
  |true =>
   refine ⟨rfl,?_⟩
   rw [endGo_ok (by omega) ht,show 1 - 1 + arN T[a] = arN T[a] by omega] at h1
   exact h1
 ·rw [List.drop_eq_nil_of_le q,endGo_nil _ (by omega)] at h; omega
theorem ends_succ (T : List Tok) : ∀ (m p : Nat),ends T (m + 1) p = nxt T (ends T m p)
 | 0,p=>rfl
 |m + 1,p=>ends_succ T m (nxt T p)
theorem Vld.ends {T : List Tok} {e : Nat} : ∀ {m p : Nat},Vld T m p e → Go.Proofs.Ytjjbcoigaejoaaa.ends T m p = e
 | 0,p,h=>h.zero
 |m + 1,p,h=>h.step.2.2.ends
theorem envA_mem {y : ByteArray} : ∀ {L : List ByteArray} {V : List Int},y ∈ L → L.length ≤ V.length → ∃ i : Nat,firstIdx (fun s=>decide (s = y)) L = (i : Int) ∧ i < L.length ∧ ∀ h : i < V.length,envA L V y = V[i]
 | [],V,h,_=>by cases h
 |a :: L,[],h,hl=>by simp at hl
 |a :: L,v :: V,h,hl=>by
  by_cases ha : a = y
  ·refine ⟨0,?_,by simp,fun _=>?_⟩
   ·unfold firstIdx; rw [List.findIdx?_cons]; simp [ha]
   ·unfold envA; rw [if_pos ha]; rfl
  ·have hy : y ∈ L := by
    rcases List.mem_cons.1 h with e|e
    ·exact absurd e.symm ha
    ·exact e
   obtain ⟨i,h1,h2,h3⟩ := envA_mem (V := V) hy (by simpa using hl)
   refine ⟨i + 1,?_,by simp; omega,fun hi=>?_⟩
   ·unfold firstIdx at h1 ⊢
    rw [List.findIdx?_cons]
    simp only [ha,decide_false,Bool.false_eq_true,if_false]
    cases hf : L.findIdx? (fun s=>decide (s = y)) with
    |none=>rw [hf] at h1; simp only at h1; omega
    |some q=>rw [hf] at h1; simp only [Option.map_some] at h1 ⊢; omega
   ·unfold envA; rw [if_neg ha,h3 (by simpa using hi)]; rfl
theorem envA_set {y : ByteArray} {v : Int} : ∀ {L : List ByteArray} {V : List Int} {i : Nat},firstIdx (fun s=>decide (s = y)) L = (i : Int) → i < V.length → envA L (V.set i v) = upd (envA L V) y v
 | [],V,i,h,_=>by unfold firstIdx at h; simp at h
 |a :: L,[],i,h,hl=>by simp at hl
 |a :: L,w :: V,i,h,hl=>by
  funext z
  unfold firstIdx at h
  rw [List.findIdx?_cons] at h
  by_cases ha : a = y
  ·simp only [ha,decide_true,if_true] at h
   obtain rfl : i = 0:=by omega
   subst ha
   rw [List.set_cons_zero]
   show (if a = z then v else envA L V z) = if z = a then v else (if a = z then w else envA L V z)
   by_cases hz : a = z
   ·rw [if_pos hz,if_pos hz.symm]
   ·rw [if_neg hz,if_neg (Ne.symm hz),if_neg hz]
  ·simp only [ha,decide_false,Bool.false_eq_true,if_false] at h
   cases hf : L.findIdx? (fun s=>decide (s = y)) with
   |none=>rw [hf] at h; simp at h
   |some q =>
    rw [hf] at h
    simp only [Option.map_some] at h
    obtain rfl : i = q + 1:=by omega
    have ih := envA_set (L := L) (V := V) (i := q) (y := y) (v := v) (by unfold firstIdx; rw [hf]) (by simpa using hl)
    rw [List.set_cons_succ]
    show (if a = z then w else envA L (V.set q v) z) = if z = y then v else (if a = z then w else envA L V z)
    rw [ih]
    by_cases hz : a = z
    ·subst hz; rw [if_pos rfl,if_neg ha,if_pos rfl]
    ·rw [if_neg hz,if_neg hz]; rfl
theorem envA_zeros {A : List ByteArray} {V : List Int} (hl : A.length = V.length) (B : List ByteArray) (n : Nat) : envA (A ++ B) (V ++ List.replicate n 0) = envA A V := by
 funext z
 induction A generalizing V with
 |nil =>
  obtain rfl : V = []:=by cases V with
   |nil=>rfl
   |cons v V=>simp at hl
  simp only [List.nil_append,envA]
  clear hl
  induction B generalizing n with
  |nil=>simp [envA]
  |cons b B ih =>
   cases n with
   |zero=>simp [envA]
   |succ n =>
    rw [List.replicate_succ,envA]
    split
    ·rfl
    ·exact ih n
 |cons a A ih =>
  cases V with
  |nil=>simp at hl
  |cons v V =>
   simp only [List.cons_append,envA]
   rw [ih (by simpa using hl)]
structure RsD (lim d : Nat) (s : RS) : Prop where
 l : lim ≤ 1000
 v : s.vis.length ≤ lim
 o : s.out.length + d ≤ s.vis.length
 c : s.calls.length ≤ 6
abbrev RsOk (lim : Nat) (s : RS) : Prop := RsD lim 0 s
theorem RsD.visit {lim d : Nat} {s : RS} {i : Nat} (h : RsD lim d s) (hl : ¬ lim ≤ s.vis.length) : RsD lim (d + 1) (visit1 s i) :=
 ⟨h.l,by simp [visit1]; omega,by have := h.o; simp [visit1]; omega,h.c⟩
theorem RsD.less {lim d : Nat} {s : RS} (h : RsD lim (d + 1) s) : RsD lim d s := ⟨h.l,h.v,by have := h.o; omega,h.c⟩
theorem RsD.out {lim d : Nat} {s : RS} {v : Int} (h : RsD lim (d + 1) s) : RsD lim d (out1 s v) := ⟨h.l,h.v,by have := h.o; simp [out1]; omega,h.c⟩
def RzD (lim d : Nat) : Rz → Prop
 | .ok _ s=>RsD lim d s
 | .stop c s _=>RsD lim d s ∧ (c = 1 ∨ c = 2)
def RaD (lim d : Nat) : Ra → Prop
 | .ok _ s=>RsD lim d s
 | .stop c s _=>RsD lim d s ∧ (c = 1 ∨ c = 2)
theorem RsD.push {lim d : Nat} {s : RS} {k : Nat} (h : RsD lim d s) (hl : ¬ 6 ≤ s.calls.length) : RsD lim d (pushC s k) :=
 ⟨h.l,h.v,h.o,by simp [pushC]; omega⟩
theorem RsD.pop {lim d : Nat} {s : RS} (h : RsD lim d s) : RsD lim d (popC s) := ⟨h.l,h.v,h.o,by have := h.c; simp [popC]; omega⟩
section
variable {ap : Int → Int → Int → Int} {P : List Line} {lim : Nat}
theorem small : ∀ n : Nat,(∀ d k env a s z,RsD lim d s → evalG ap P lim n k env a s = some z → RzD lim d z) ∧
  (∀ d k env m a A s z,RsD lim d s → opsG ap P lim n k env m a A s = some z → RaD lim d z) ∧
  (∀ d f env i s z,RsD lim d s → bodyG' ap P lim n f env i s = some z → RzD lim d z)
 | 0=>⟨fun d k env a s z _ h=>by simp [evalG] at h,fun d k env m a A s z _ h=>by simp [opsG] at h,fun d f env i s z _ h=>by simp [bodyG'] at h⟩
 |n + 1=>by
  obtain ⟨ih1,ih2,ih3⟩ := small n
  refine ⟨fun d k env a s z hs h=>?_,fun d k env m a A s z hs h=>?_,fun d f env i s z hs h=>?_⟩
  ·rw [evalG] at h
   cases ht : (exprAt P k)[a]? with
   |none=>rw [ht] at h; cases h; exact hs
   |some t =>
    rw [ht] at h
    simp only at h
    cases hA : opsG ap P lim n k env (arN t) (a + 1) [] s with
    |none=>rw [hA] at h; cases h
    |some q =>
     have g1 := ih2 _ _ _ _ _ _ _ _ hs hA
     rw [hA] at h
     cases q with
     |stop c s1 q=>cases h; exact g1
     |ok A s1 =>
      have g1 : RsD lim d s1 := g1
      simp only at h
      split at h
      ·cases h; exact g1
      ·split at h
       ·cases h; exact g1
       ·split at h
        ·split at h
         ·cases h; exact ⟨g1,.inr rfl⟩
         ·rename_i hc
          cases hB : bodyG' ap P lim n (findFn P t.name).toNat (envA (argsAt P (findFn P t.name).toNat) A) ((findFn P t.name).toNat + 1) (pushC s1 k) with
          |none=>rw [hB] at h; cases h
          |some q =>
           have g2 := ih3 _ _ _ _ _ _ (g1.push hc) hB
           rw [hB] at h
           cases q with
           |stop c s2 q=>cases h; exact g2
           |ok v2 s2=>cases h; exact RsD.pop g2
        ·cases h; exact g1
  ·cases m with
   |zero=>rw [opsG] at h; cases h; exact hs
   |succ m =>
    rw [opsG] at h
    cases hE : evalG ap P lim n k env a s with
    |none=>rw [hE] at h; cases h
    |some q =>
     have g1 := ih1 _ _ _ _ _ _ hs hE
     rw [hE] at h
     cases q with
     |stop c s1 q=>cases h; exact g1
     |ok v s1=>exact ih2 _ _ _ _ _ _ _ _ g1 h
  ·rw [bodyG'] at h
   split at h
   ·exact ih3 _ _ _ _ _ _ hs h
   ·split at h
    ·split at h
     ·cases h; exact hs
     ·split at h
      ·exact ih3 _ _ _ _ _ _ hs h
      ·exact ih3 _ _ _ _ _ _ hs h
    ·split at h
     ·cases h; exact ⟨hs,.inl rfl⟩
     ·rename_i hl
      have hv := hs.visit (i := i) hl
      cases hE : evalG ap P lim n i env 0 (visit1 s i) with
      |none=>rw [hE] at h; cases h
      |some q =>
       have g1 := ih1 _ _ _ _ _ _ hv hE
       rw [hE] at h
       cases q with
       |stop c s1 q=>cases h; exact ⟨g1.1.less,g1.2⟩
       |ok v1 s1 =>
        have g2 : RsD lim (d + 1) s1 := g1
        have g1 := g2.less
        simp only at h
        split at h
        ·exact ih3 _ _ _ _ _ _ g1 h
        ·split at h
         ·exact ih3 _ _ _ _ _ _ g2.out h
         ·split at h
          ·cases h; exact g1
          ·split at h
           ·exact ih3 _ _ _ _ _ _ g1 h
           ·exact ih3 _ _ _ _ _ _ g1 h
end
end Go.Proofs.Ytjjbcoigaejoaaa

namespace Go.Proofs.Ytjjbcoigaejoaaa
open Go.Vc
attribute [local irreducible] Go.Vc.WP
attribute [local go_sem] cx0_t cx0_c
attribute [local go_sem] decS_enc decTok_enc decLine_enc oneLine_f line_eta St.fzS addL behind St.runO St.stepO
def kOpens : Ctr := pur (fun args=>aI args 0) (fun k=>[.v (.int .i64 k)]) (fun _=>True) (fun _ k=>.v (.bool (opensK k))) (fun _ _=>[])
def aPk (args : List SV) : List Line × Int := (decLine (aR args 0),aI args 1)
attribute [local go_sem] aPk
def kBlk : Ctr := pur aPk (fun x=>[.sl 4 (x.1.map encLine),.v (.int .i64 x.2)]) (fun x=>x.1.length ≤ 1048576) (fun _ x=>.v (.int .i64 (endOf x.1 x.2))) (fun _ _=>[])
def kElse : Ctr := pur aPk (fun x=>[.sl 4 (x.1.map encLine),.v (.int .i64 x.2)]) (fun x=>x.1.length ≤ 1048576) (fun _ x=>.v (.int .i64 (elseOf x.1 x.2))) (fun _ _=>[])
def kFuns : Ctr := pur (fun args=>decLine (aR args 0)) (fun P=>[.sl 4 (P.map encLine)]) (fun P=>P.length ≤ 1048576) (fun d _=>.own d) (fun d P=>[(d,.sl 3 1 ((funs P P.length).map encI))])
def kFind : Ctr := pur (fun args=>(decLine (aR args 0),aS args 1)) (fun x=>[.sl 4 (x.1.map encLine),.v (.string x.2)]) (fun x=>x.1.length ≤ 1048576) (fun _ x=>.v (.int .i64 (findFn x.1 x.2))) (fun _ _=>[])
theorem opensK_f {k : Int} (h0 : ¬ k = 0) (h3 : ¬ k = 3) (h5 : ¬ k = 5) : opensK k = false:=by simp [opensK,h0,h3,h5]
theorem endOf_out {P : List Line} {k : Int} (h : ¬ (0 ≤ k ∧ k < P.length)) : endOf P k = -1 := if_neg fun q=>h ⟨q.1,q.2.1⟩
theorem endOf_in {P : List Line} {n : Nat} (h : n < P.length) : endOf P n = if opensK P[n].kind = true then endFrom (P.drop n) n 0 else -1 := by
 unfold endOf
 rw [Int.toNat_natCast,kd_lt h]
 by_cases ho : opensK P[n].kind = true
 ·rw [if_pos ⟨by omega,by omega,ho⟩,if_pos ho]
 ·rw [if_neg (fun q=>ho q.2.2),if_neg ho]
theorem elseOf_neg {P : List Line} {k : Int} (h : endOf P k < 0) : elseOf P k = -1 := if_pos (.inl h)
theorem elseOf_kd {P : List Line} {n : Nat} (h : n < P.length) (h3 : ¬ P[n].kind = 3) : elseOf P n = -1 := if_pos (.inr (by rw [Int.toNat_natCast,kd_lt h]; exact h3))
theorem elseOf_go {P : List Line} {n e : Nat} (h : n < P.length) (h3 : P[n].kind = 3) (he : endOf P n = (e : Int)) : elseOf P n = elseGo P e (n + 1) := by
 unfold elseOf
 rw [Int.toNat_natCast,kd_lt h,he,Int.toNat_natCast,if_neg (by omega)]
section
noncomputable def cxOpnI := mkX [] (COk.nil _)
theorem cxOpnI_t : cxOpnI.tys = tys := rfl
theorem cxOpnI_c : cxOpnI.C = [] := rfl
attribute [local go_sem] cxOpnI_t cxOpnI_c
theorem cOpensI : Cn Try.prog 108 kOpens := by
 refine Cn.pur Try.func108 (by kernel_rfl) rfl fun d x hx=>?_
 rename Int=>k
 refine Holds.go (c := cxOpnI) Try.func108 rfl Try.results108 Try.ntmps108 (by omega) (by simp) rfl ?_
 intro X0 w0
 by_cases h0 : k = 0
 ·have ho : opensK k = true:=by rw [h0]; rfl
  rw [ho]
  (repeat' (first|apply zS|apply zB|((first|apply zR|apply zC|apply zT|apply zE|apply zK);simp only [go_sem,h0])|apply And.intro|intro _))
  all_goals first|omega|rfl|skip
 by_cases h3 : k = 3
 ·have ho : opensK k = true:=by rw [h3]; rfl
  rw [ho]
  (repeat' (first|apply zS|apply zB|((first|apply zR|apply zC|apply zT|apply zE|apply zK);simp only [go_sem,h3])|apply And.intro|intro _))
  all_goals first|omega|rfl|skip
 by_cases h5 : k = 5
 ·have ho : opensK k = true:=by rw [h5]; rfl
  rw [ho]
  (repeat' (first|apply zS|apply zB|((first|apply zR|apply zC|apply zT|apply zE|apply zK);simp only [go_sem,h5])|apply And.intro|intro _))
  all_goals first|omega|rfl|skip
 rw [opensK_f h0 h3 h5]
 (repeat' (first|apply zS|apply zB|((first|apply zR|apply zC|apply zT|apply zE|apply zK);simp only [go_sem,h0,h3,h5])|apply And.intro|intro _))
 all_goals first|omega|rfl|(simp [h0,h3,h5]; done)|skip
end
section
noncomputable def cxBlkI := mkX [(35,k60),(108,kOpens)] (COk.cons c60 (COk.cons cOpensI (COk.nil _)))
theorem cxBlkI_t : cxBlkI.tys = tys := rfl
theorem cxBlkI_c : cxBlkI.C = [(35,k60),(108,kOpens)] := rfl
attribute [local go_sem] cxBlkI_t cxBlkI_c k60 kOpens
set_option maxHeartbeats 4000000
theorem cBlkI : Cn Try.prog 82 kBlk := by
 refine Cn.pur Try.func82 (by kernel_rfl) rfl fun d x hx=>?_
 obtain ⟨P,k⟩ := x
 simp only at hx ⊢
 refine Holds.go (c := cxBlkI) Try.func82 rfl Try.results82 Try.ntmps82 (by omega) (by simp) rfl ?_
 intro X0 w0
 have lk0 : lk 0 tys = none := rfl
 by_cases hk0 : 0 ≤ k
 rotate_left
 ·rw [endOf_out (P := P) fun q=>hk0 q.1]
  have hk : k < 0:=by omega
  (repeat' (first|apply zS|apply zB|((first|refine WP.regionO (id := 1) ?_); simp only [go_sem,hk0])|((first|apply zR|apply zC|apply zT|apply zE|apply zK);simp only [go_sem,hk0])|apply And.intro|intro _))
  all_goals first|omega|rfl|skip
 by_cases hk1 : k < P.length
 rotate_left
 ·rw [endOf_out (P := P) fun q=>hk1 q.2]
  have hk : ¬ k ≤ (P.length : Int) - 1:=by omega
  have hkm : ¬ k < 0:=by omega
  have hr0 : Go.Vc.rowAt (P.map encLine) k.toNat = [] := by
   unfold Go.Vc.rowAt
   rw [List.getElem?_eq_none (by rw [List.length_map]; omega)]; rfl
  (repeat' (first|apply zS|apply zB|((first|refine WP.regionO (id := 1) ?_); simp only [go_sem,hk0,hk,hkm,hr0])|((first|apply zR|apply zC|apply zT|apply zE|apply zK);simp only [go_sem,hk0,hk,hkm,hr0])|apply And.intro|intro _))
  all_goals first|omega|rfl|skip
 obtain ⟨n,rfl⟩ := Int.eq_ofNat_of_zero_le hk0
 have hn : n < P.length:=by omega
 have h1 := rowAt_map encLine P n hn
 have b1 : (n : Int) ≤ (P.length : Int) - 1:=by omega
 have b0 : (0 : Int) ≤ (n : Int):=by omega
 rw [endOf_in hn]
 cases ho : opensK P[n].kind with
 |false =>
  rw [if_neg (by simp)]
  (repeat' (first|apply zS|apply zB|((first|apply zR|apply zC|apply zT|apply zE|apply zK);simp only [go_sem,h1,encLine,ho,b0,b1])|apply And.intro|intro _))
  all_goals first|omega|rfl|skip
 |true =>
  rw [if_pos rfl]
  (repeat' (first|apply zS|apply zB|((first|apply zR|apply zC|apply zT|apply zE|apply zK);simp only [go_sem,h1,encLine,ho,b0,b1])|apply And.intro|intro _))
  all_goals first|omega|skip
  generalize hE : endFrom (P.drop n) n 0 = E
  refine zL (fun q : Nat × Int=>⟨[(0,.sl 4 (P.map encLine)),(5,.v (.int .i64 q.2)),(6,.v (.int .i64 q.1))],[]⟩)
   (fun q=>q.1 ≤ P.length ∧ -(q.1 : Int) ≤ q.2 ∧ q.2 ≤ q.1 ∧ endFrom (P.drop q.1) q.1 q.2 = E) (fun q=>P.length - q.1) (n,0) ⟨by omega,by simp only; omega,by simp only; omega,hE⟩ ?_ ?_
  ·(simp only [go_sem] <;> (first|(and_intros <;> rfl)|simp))
  rintro ⟨i,o⟩ ⟨hi,ho1,ho2,hF⟩
  simp only at hi ho1 ho2 hF ⊢
  by_cases hlt : i < P.length
  ·have hli : (i : Int) < P.length:=by omega
   have h2 := rowAt_map encLine P i hlt
   rw [endFrom_succ hlt] at hF
   rw [encLine] at h2
   generalize P[i].kind = kk at h2 hF
   cases hop : opensK kk with
   |true =>
    have h7 : ¬ kk = 7 := fun e=>by rw [e] at hop; cases hop
    rw [delta_open hop] at hF
    by_cases hz : o + 1 = 0
    ·rw [if_pos hz] at hF
     subst hF
     (repeat' (first|apply zS|apply zB|((first|apply zR|apply zC|apply zT|apply zE|apply zK);simp only [go_sem,hli,h2,hop,h7,hz])|apply And.intro|intro _))
     all_goals first|omega|rfl|skip
    ·rw [if_neg hz] at hF
     (repeat' (first|apply zS|apply zB|((first|apply zR|apply zC|apply zT|apply zE|apply zK);simp only [go_sem,hli,h2,hop,h7,hz])|apply And.intro|intro _))
     all_goals first|omega|exact ⟨(i + 1,o + 1),⟨by simp only; omega,by simp only; omega,by simp only; omega,hF⟩,by simp only; omega,by (first|(and_intros <;> rfl)|simp)⟩|skip
   |false =>
    by_cases h7 : kk = 7
    ·subst h7
     rw [delta_end] at hF
     by_cases hz : o - 1 = 0
     ·rw [if_pos (by omega)] at hF
      subst hF
      (repeat' (first|apply zS|apply zB|((first|apply zR|apply zC|apply zT|apply zE|apply zK);simp only [go_sem,hli,h2,hop,hz])|apply And.intro|intro _))
      all_goals first|omega|rfl|skip
     ·rw [if_neg (by omega)] at hF
      (repeat' (first|apply zS|apply zB|((first|apply zR|apply zC|apply zT|apply zE|apply zK);simp only [go_sem,hli,h2,hop,hz])|apply And.intro|intro _))
      all_goals first|omega|exact ⟨(i + 1,o - 1),⟨by simp only; omega,by simp only; omega,by simp only; omega,hF⟩,by simp only; omega,by (first|(and_intros <;> rfl)|simp)⟩|skip
    ·rw [delta_else hop h7,Int.add_zero] at hF
     by_cases hz : o = 0
     ·rw [if_pos hz] at hF
      subst hF
      (repeat' (first|apply zS|apply zB|((first|apply zR|apply zC|apply zT|apply zE|apply zK);simp only [go_sem,hli,h2,hop,h7,hz])|apply And.intro|intro _))
      all_goals first|omega|rfl|skip
     ·rw [if_neg hz] at hF
      (repeat' (first|apply zS|apply zB|((first|apply zR|apply zC|apply zT|apply zE|apply zK);simp only [go_sem,hli,h2,hop,h7,hz])|apply And.intro|intro _))
      all_goals first|omega|exact ⟨(i + 1,o),⟨by simp only; omega,by simp only; omega,by simp only; omega,hF⟩,by simp only; omega,by (first|(and_intros <;> rfl)|simp)⟩|skip
  ·have hge : ¬ (i : Int) < P.length:=by omega
   rw [endFrom_end hlt] at hF
   subst hF
   (repeat' (first|apply zS|apply zB|((first|apply zR|apply zC|apply zT|apply zE|apply zK);simp only [go_sem,hge])|apply And.intro|intro _))
   all_goals first|omega|rfl|skip
end
section
noncomputable def cxElsBI := mkX [(82,kBlk)] (COk.cons cBlkI (COk.nil _))
theorem cxElsBI_t : cxElsBI.tys = tys := rfl
theorem cxElsBI_c : cxElsBI.C = [(82,kBlk)] := rfl
attribute [local go_sem] cxElsBI_t cxElsBI_c kBlk
set_option maxHeartbeats 4000000
theorem cElseI : Cn Try.prog 85 kElse := by
 refine Cn.pur Try.func85 (by kernel_rfl) rfl fun d x hx=>?_
 obtain ⟨P,k⟩ := x
 simp only at hx ⊢
 refine Holds.go (c := cxElsBI) Try.func85 rfl Try.results85 Try.ntmps85 (by omega) (by simp) rfl ?_
 intro X0 w0
 have lk0 : lk 0 tys = none := rfl
 by_cases hneg : endOf P k < 0
 ·rw [elseOf_neg hneg]
  (repeat' (first|apply zS|apply zB|((first|refine WP.regionO (id := 2) ?_); simp only [go_sem,hneg])|((first|apply zR|apply zC|apply zT|apply zE|apply zK);simp only [go_sem,hneg])|apply And.intro|intro _))
  all_goals first|omega|rfl|skip
 have hin := endOf_opens (P := P) (k := k) (by omega)
 obtain ⟨n,rfl⟩ := Int.eq_ofNat_of_zero_le hin.1
 have hn : n < P.length:=by omega
 obtain ⟨e,he,hE,hne⟩ := endOf_nn (P := P) (k := n) (by omega)
 have hoK := hin.2.2
 rw [Int.toNat_natCast] at hoK
 have hel := hE.lt
 have h1 := rowAt_map encLine P n hn
 have he0 : ¬ (e : Int) < 0:=by omega
 by_cases h3 : P[n].kind = 3
 rotate_left
 ·rw [elseOf_kd hn h3]
  (repeat' (first|apply zS|apply zB|((first|apply zR|apply zC|apply zT|apply zE|apply zK);simp only [go_sem,h1,encLine,h3,he,he0])|apply And.intro|intro _))
  all_goals first|omega|rfl|skip
 rw [elseOf_go hn h3 he]
 (repeat' (first|apply zS|apply zB|((first|apply zR|apply zC|apply zT|apply zE|apply zK);simp only [go_sem,h1,encLine,h3,he,he0])|apply And.intro|intro _))
 all_goals first|omega|skip
 generalize hG : elseGo P e (n + 1) = G
 refine zL (fun i : Nat=>⟨[(0,.sl 4 (P.map encLine)),(5,.v (.int .i64 e)),(6,.v (.int .i64 i))],[]⟩)
  (fun i=>n < i ∧ i ≤ P.length ∧ elseGo P e i = G) (fun i=>P.length + 1 - i) (n + 1) ⟨by omega,by omega,hG⟩ ?_ ?_
 ·(simp only [go_sem] <;> (first|(and_intros <;> rfl)|simp))
 rintro i ⟨hi0,hi1,hF⟩
 by_cases hlt : i < e
 ·have hli : (i : Int) < (e : Int):=by omega
  have hiP : i < P.length:=by omega
  have h2 := rowAt_map encLine P i hiP
  rw [encLine] at h2
  have hkd := kd_lt hiP
  generalize P[i].kind = kk at h2 hkd
  by_cases h4 : kk = 4
  ·subst h4
   rw [elseGo_hit hlt hkd] at hF
   subst hF
   (repeat' (first|apply zS|apply zB|((first|apply zR|apply zC|apply zT|apply zE|apply zK);simp only [go_sem,hli,h2])|apply And.intro|intro _))
   all_goals first|omega|rfl|skip
  ·by_cases h35 : kk = 3 ∨ kk = 5
   ·have hopi : opensK (kd P i) = true := opensK_iff.2 (by rw [hkd]; omega)
    obtain ⟨e2,g1,g2,g3,g4⟩ := hE.nest hoK hi0 hlt hopi
    rw [elseGo_skip hlt (by rw [hkd]; exact h35) (by rw [g1]; omega),g1,Int.toNat_natCast] at hF
    have g5 : (0 : Int) ≤ (e2 : Int):=by omega
    rcases h35 with h35|h35
    ·subst h35
     (repeat' (first|apply zS|apply zB|((first|apply zR|apply zC|apply zT|apply zE|apply zK);simp only [go_sem,hli,h2,g1,g5])|apply And.intro|intro _))
     all_goals first|omega|exact ⟨e2 + 1,⟨by omega,by omega,hF⟩,by omega,by (first|(and_intros <;> rfl)|simp)⟩|skip
    ·subst h35
     (repeat' (first|apply zS|apply zB|((first|apply zR|apply zC|apply zT|apply zE|apply zK);simp only [go_sem,hli,h2,g1,g5])|apply And.intro|intro _))
     all_goals first|omega|exact ⟨e2 + 1,⟨by omega,by omega,hF⟩,by omega,by (first|(and_intros <;> rfl)|simp)⟩|skip
   ·rw [elseGo_next hlt (by rw [hkd]; exact h4) (fun q=>h35 (by rw [← hkd]; exact q.1))] at hF
    have n3 : ¬ kk = 3 := fun e=>h35 (.inl e)
    have n5 : ¬ kk = 5 := fun e=>h35 (.inr e)
    (repeat' (first|apply zS|apply zB|((first|apply zR|apply zC|apply zT|apply zE|apply zK);simp only [go_sem,hli,h2,h4,n3,n5])|apply And.intro|intro _))
    all_goals first|omega|exact ⟨i + 1,⟨by omega,by omega,hF⟩,by omega,by (first|(and_intros <;> rfl)|simp)⟩|skip
 ·have hge : ¬ (i : Int) < (e : Int):=by omega
  rw [elseGo_end hlt] at hF
  subst hF
  (repeat' (first|apply zS|apply zB|((first|apply zR|apply zC|apply zT|apply zE|apply zK);simp only [go_sem,hge])|apply And.intro|intro _))
  all_goals first|omega|rfl|skip
end
section
noncomputable def cxFunsI := mkX [] (COk.nil _)
theorem cxFunsI_t : cxFunsI.tys = tys := rfl
theorem cxFunsI_c : cxFunsI.C = [] := rfl
attribute [local go_sem] cxFunsI_t cxFunsI_c
theorem cFunsI : Cn Try.prog 80 kFuns := by
 refine Cn.pur Try.func80 (by kernel_rfl) rfl fun d x hx=>?_
 rename List Line=>P
 refine Holds.go (c := cxFunsI) Try.func80 rfl Try.results80 Try.ntmps80 (by omega) (by simp) rfl ?_
 intro X0 w0
 (repeat' (first|apply zS|apply zB|((first|apply zR|apply zC|apply zT|apply zE|apply zK);simp only [go_sem])|apply And.intro|intro _))
 all_goals first|omega|skip
 refine zL (fun i : Nat=>⟨[(3,.own 6),(7,.sl 4 (P.map encLine)),(8,.v (.int .i64 P.length)),(9,.v (.int .i64 i))],[(6,.sl 3 1 ((funs P i).map encI))]⟩) (fun i=>i ≤ P.length) (fun i=>P.length - i) 0 (by simp) ?_ ?_
 ·(simp only [go_sem] <;> (first|(and_intros <;> rfl)|simp))
 intro i hi
 have hfl := funs_len P i
 have hfs := funs_succ P i
 by_cases hlt : i < P.length
 ·have hli : (i : Int) < P.length:=by omega
  have h2 := rowAt_map encLine P i hlt
  rw [encLine] at h2
  rw [kd_lt hlt] at hfs
  generalize P[i].kind = kk at h2 hfs
  by_cases h0 : kk = 0
  ·rw [if_pos h0] at hfs
   (repeat' (first|apply zS|apply zB|((first|apply zR|apply zC|apply zT|apply zE|apply zK);simp only [go_sem,hli,h2,h0])|apply And.intro|intro _))
   all_goals first|omega|exact ⟨i + 1,by omega,by omega,by rw [hfs,List.map_append]; (first|(and_intros <;> rfl)|simp)⟩|skip
  ·rw [if_neg h0,List.append_nil] at hfs
   (repeat' (first|apply zS|apply zB|((first|apply zR|apply zC|apply zT|apply zE|apply zK);simp only [go_sem,hli,h2,h0])|apply And.intro|intro _))
   all_goals first|omega|exact ⟨i + 1,by omega,by omega,by rw [hfs]; (first|(and_intros <;> rfl)|simp)⟩|skip
 ·have hge : ¬ (i : Int) < P.length:=by omega
  obtain rfl : i = P.length:=by omega
  (repeat' (first|apply zS|apply zB|((first|apply zR|apply zC|apply zT|apply zE|apply zK);simp only [go_sem,hge])|apply And.intro|intro _))
  all_goals first|omega|rfl|skip
theorem cFindI : Cn Try.prog 83 kFind := by
 refine Cn.pur Try.func83 (by kernel_rfl) rfl fun d x hx=>?_
 obtain ⟨P,s⟩ := x
 simp only at hx ⊢
 refine Holds.go (c := cxFunsI) Try.func83 rfl Try.results83 Try.ntmps83 (by omega) (by simp) rfl ?_
 intro X0 w0
 (repeat' (first|apply zS|apply zB|((first|apply zR|apply zC|apply zT|apply zE|apply zK);simp only [go_sem])|apply And.intro|intro _))
 all_goals first|omega|skip
 refine zL (fun i : Nat=>⟨[(1,.v (.string s)),(7,.sl 4 (P.map encLine)),(8,.v (.int .i64 P.length)),(9,.v (.int .i64 i))],[]⟩) (fun k=>k ≤ P.length ∧ ∀ i (hi : i < P.length),i < k → isFn s P[i] = false) (fun i=>P.length - i) 0 (by simp) ?_ ?_
 ·(simp only [go_sem] <;> (first|(and_intros <;> rfl)|simp))
 rintro k ⟨hk,hf⟩
 by_cases hlt : k < P.length
 ·have hli : (k : Int) < P.length:=by omega
  have h2 := rowAt_map encLine P k hlt
  rw [encLine] at h2
  have hit : P[k].kind = 0 → P[k].name = s → findFn P s = k := fun a b=>firstIdx_hit hlt hf (by simp [isFn,a,b])
  have hno : ¬ (P[k].kind = 0 ∧ P[k].name = s) → ∀ i (hi : i < P.length),i < k + 1 → isFn s P[i] = false := fun q i hi hik=>by
   rcases Nat.lt_or_ge i k with h|h
   ·exact hf i hi h
   ·have : i = k:=by omega
    subst this
    cases hb : isFn s P[i] with
    |false=>rfl
    |true=>exact absurd (by simpa [isFn] using hb) q
  generalize P[k].kind = kk at h2 hit hno
  generalize P[k].name = nn at h2 hit hno
  by_cases h0 : kk = 0
  ·by_cases hs : nn = s
   ·rw [hit h0 hs]
    (repeat' (first|apply zS|apply zB|((first|apply zR|apply zC|apply zT|apply zE|apply zK);simp only [go_sem,hli,h2,h0,hs])|apply And.intro|intro _))
    all_goals first|omega|rfl|skip
   ·have hnx := hno fun q=>hs q.2
    (repeat' (first|apply zS|apply zB|((first|apply zR|apply zC|apply zT|apply zE|apply zK);simp only [go_sem,hli,h2,h0,hs])|apply And.intro|intro _))
    all_goals first|omega|exact ⟨k + 1,⟨by omega,hnx⟩,by omega,by (first|(and_intros <;> rfl)|simp)⟩|skip
  ·have hnx := hno fun q=>h0 q.1
   (repeat' (first|apply zS|apply zB|((first|apply zR|apply zC|apply zT|apply zE|apply zK);simp only [go_sem,hli,h2,h0])|apply And.intro|intro _))
   all_goals first|omega|exact ⟨k + 1,⟨by omega,hnx⟩,by omega,by (first|(and_intros <;> rfl)|simp)⟩|skip
 ·have hge : ¬ (k : Int) < P.length:=by omega
  rw [show findFn P s = -1 from firstIdx_none fun i hi=>hf i hi (by omega)]
  (repeat' (first|apply zS|apply zB|((first|apply zR|apply zC|apply zT|apply zE|apply zK);simp only [go_sem,hge])|apply And.intro|intro _))
  all_goals first|omega|rfl|skip
end
end Go.Proofs.Ytjjbcoigaejoaaa

namespace Go.Proofs.Ytjjbcoigaejoaaa
open Go.Vc
attribute [local irreducible] Go.Vc.WP
attribute [local go_sem] cx0_t cx0_c
attribute [local go_sem] decS_enc
def strIs (s : ByteArray) (x : ByteArray) : Bool := decide (x = s)
def kIdxS : Ctr := pur (fun args=>(decS (aR args 0),aS args 1)) (fun x=>[.sl 1 (x.1.map encS),.v (.string x.2)]) (fun x=>x.1.length ≤ 4398046511104) (fun _ x=>.v (.int .i64 (firstIdx (strIs x.2) x.1))) (fun _ _=>[])
section
noncomputable def cxIsS := mkX [] (COk.nil _)
theorem cxIsS_t : cxIsS.tys = tys := rfl
theorem cxIsS_c : cxIsS.C = [] := rfl
attribute [local go_sem] cxIsS_t cxIsS_c
theorem cIdxSI : Cn Try.prog 122 kIdxS := by
 refine Cn.pur Try.func122 (by kernel_rfl) rfl fun d x hx=>?_
 obtain ⟨L,s⟩ := x
 simp only at hx ⊢
 refine Holds.go (c := cxIsS) Try.func122 rfl Try.results122 Try.ntmps122 (by omega) (by simp) rfl ?_
 intro X0 w0
 (repeat' (first|apply zS|apply zB|((first|apply zR|apply zC|apply zT|apply zE|apply zK);simp only [go_sem])|apply And.intro|intro _))
 all_goals first|omega|skip
 refine zL (fun k : Nat=>⟨[(0,.sl 1 (L.map encS)),(1,.v (.string s)),(7,.v (.int .i64 L.length)),(8,.v (.int .i64 k))],[]⟩) (fun k=>k ≤ L.length ∧ ∀ i (hi : i < L.length),i < k → strIs s L[i] = false) (fun k=>L.length - k) 0 (by simp) ?_ ?_
 ·(simp only [go_sem] <;> (first|(and_intros <;> rfl)|simp))
 intro k ⟨hk,hf⟩
 by_cases hlt : k < L.length
 ·have hli : (k : Int) < L.length:=by omega
  have h1 := rowAt_map encS L k hlt
  (repeat' (first|apply zS|apply zB|((first|apply zR|apply zC|apply zT|apply zE|apply zK);simp only [go_sem,hli,h1,encS])|apply And.intro|intro _))
  all_goals first|omega|skip
  ·rename_i he
   rw [show firstIdx (strIs s) L = k from firstIdx_hit hlt hf (by simp [strIs,he])]
  ·rename_i hne
   refine ⟨k + 1,⟨by omega,fun i hi hik=>?_⟩,by omega,by (first|(and_intros <;> rfl)|simp)⟩
   rcases Nat.lt_or_ge i k with h|h
   ·exact hf i hi h
   ·have : i = k:=by omega
    subst this
    first|(simp [strIs,hne]; done)|(simp only [strIs,decide_eq_false_iff_not]; exact fun e=>hne e.symm)
 ·have hge : ¬ (k : Int) < L.length:=by omega
  (repeat' (first|apply zS|apply zB|((first|apply zR|apply zC|apply zT|apply zE|apply zK);simp only [go_sem,hge])|apply And.intro|intro _))
  all_goals first|omega|skip
  rw [show firstIdx (strIs s) L = -1 from firstIdx_none fun i hi=>hf i hi (by omega)]
theorem cIdxSS : Cn Try.prog 70 kIdxS := by
 refine Cn.pur Try.func70 (by kernel_rfl) rfl fun d x hx=>?_
 obtain ⟨L,s⟩ := x
 simp only at hx ⊢
 refine Holds.go (c := cxIsS) Try.func70 rfl Try.results70 Try.ntmps70 (by omega) (by simp) rfl ?_
 intro X0 w0
 (repeat' (first|apply zS|apply zB|((first|apply zR|apply zC|apply zT|apply zE|apply zK);simp only [go_sem])|apply And.intro|intro _))
 all_goals first|omega|skip
 refine zL (fun k : Nat=>⟨[(0,.sl 1 (L.map encS)),(1,.v (.string s)),(5,.v (.int .i64 k))],[]⟩) (fun k=>k ≤ L.length ∧ ∀ i (hi : i < L.length),i < k → strIs s L[i] = false) (fun k=>L.length - k) 0 (by simp) ?_ ?_
 ·(simp only [go_sem] <;> (first|(and_intros <;> rfl)|simp))
 intro k ⟨hk,hf⟩
 by_cases hlt : k < L.length
 ·have hli : (k : Int) < L.length:=by omega
  have h1 := rowAt_map encS L k hlt
  (repeat' (first|apply zS|apply zB|((first|apply zR|apply zC|apply zT|apply zE|apply zK);simp only [go_sem,hli,h1,encS])|apply And.intro|intro _))
  all_goals first|omega|skip
  ·rename_i he
   rw [show firstIdx (strIs s) L = k from firstIdx_hit hlt hf (by simp [strIs,he])]
  ·rename_i hne
   refine ⟨k + 1,⟨by omega,fun i hi hik=>?_⟩,by omega,by (first|(and_intros <;> rfl)|simp)⟩
   rcases Nat.lt_or_ge i k with h|h
   ·exact hf i hi h
   ·have : i = k:=by omega
    subst this
    first|(simp [strIs,hne]; done)|(simp only [strIs,decide_eq_false_iff_not]; exact fun e=>hne e.symm)
 ·have hge : ¬ (k : Int) < L.length:=by omega
  (repeat' (first|apply zS|apply zB|((first|apply zR|apply zC|apply zT|apply zE|apply zK);simp only [go_sem,hge])|apply And.intro|intro _))
  all_goals first|omega|skip
  rw [show firstIdx (strIs s) L = -1 from firstIdx_none fun i hi=>hf i hi (by omega)]
end
theorem firstIdx_mem {L : List ByteArray} {s : ByteArray} : (0 ≤ firstIdx (strIs s) L) = (s ∈ L) := propext ⟨fun h=>by
 obtain ⟨k,hk,_,h2⟩ := firstIdx_pos (p := strIs s) (L := L) (by omega)
 have : L[k] = s:=by simpa [strIs] using h2
 rw [← this]; exact List.getElem_mem hk,fun h=>by
 rcases Int.lt_or_le (firstIdx (strIs s) L) 0 with hn|hn
 ·have := firstIdx_neg hn s h
  simp [strIs] at this
 ·exact hn⟩
def kHasS : Ctr := pur (fun args=>(decS (aR args 0),aS args 1)) (fun x=>[.sl 1 (x.1.map encS),.v (.string x.2)]) (fun x=>x.1.length ≤ 4398046511104) (fun _ x=>.v (.bool (decide (x.2 ∈ x.1)))) (fun _ _=>[])
section
noncomputable def cxHasS := mkX [(122,kIdxS)] (COk.cons cIdxSI (COk.nil _))
theorem cxHasS_t : cxHasS.tys = tys := rfl
theorem cxHasS_c : cxHasS.C = [(122,kIdxS)] := rfl
attribute [local go_sem] cxHasS_t cxHasS_c kIdxS
theorem cHasS : Cn Try.prog 118 kHasS := by
 refine Cn.pur Try.func118 (by kernel_rfl) rfl fun d x hx=>?_
 obtain ⟨L,s⟩ := x
 simp only at hx ⊢
 have hm := firstIdx_mem (L := L) (s := s)
 refine Holds.go (c := cxHasS) Try.func118 rfl Try.results118 Try.ntmps118 (by omega) (by simp) rfl ?_
 intro X0 w0
 (repeat' (first|apply zS|apply zB|((first|apply zR|apply zC|apply zT|apply zE|apply zK);simp only [go_sem,hm])|apply And.intro|intro _))
 all_goals first|omega|skip
end
end Go.Proofs.Ytjjbcoigaejoaaa

namespace Go.Proofs.Ytjjbcoigaejoaaa
def slashed (s : ByteArray) : Prop := 2 < s.size ∧ s[s.size - 2]! = 47
instance (s : ByteArray) : Decidable (slashed s):=by unfold slashed; infer_instance
end Go.Proofs.Ytjjbcoigaejoaaa

namespace Go.Proofs.Ytjjbcoigaejoaaa
open Go.Vc
attribute [local irreducible] Go.Vc.WP
attribute [local go_sem] cx0_t cx0_c
open Go.RowKit (Below)
end Go.Proofs.Ytjjbcoigaejoaaa

namespace Go.Proofs.Ytjjbcoigaejoaaa
open Go.Vc
attribute [local irreducible] Go.Vc.WP
attribute [local go_sem] cx0_t cx0_c
attribute [local go_sem] decTok_enc oneTok_f decS_enc St.fzS addL behind St.runO St.stepO
theorem exprEnd_out {L : List Tok} {a : Int} (h : a < 0 ∨ (L.length : Int) ≤ a) : exprEnd L a = -1 := by
 unfold exprEnd
 split
 ·rw [List.drop_eq_nil_of_le (by omega),endGo_nil _ (by omega)]
 ·rfl
theorem exprEnd_in {L : List Tok} {a : Int} (h : 0 ≤ a) : exprEnd L a = endGo (L.drop a.toNat) 1 a.toNat := if_pos h
theorem endGo_row {L : List Tok} {j n : Nat} (hj : j < L.length) (hn : 0 < n) : endGo (L.drop j) n j = if tokOk L[j] = true then endGo (L.drop (j + 1)) (n - 1 + arN L[j]) (j + 1) else -1 := by
 rw [List.drop_eq_getElem_cons hj]
 split
 ·rename_i h; exact endGo_ok hn h
 ·rename_i h; exact endGo_bad hn (by simpa using h)
section
noncomputable def cxEnI := mkX [(35,k60),(123,kTokOk),(120,kArity)] (COk.cons c60 (COk.cons cTokOkI (COk.cons cArityI (COk.nil _))))
theorem cxEnI_t : cxEnI.tys = tys := rfl
theorem cxEnI_c : cxEnI.C = [(35,k60),(123,kTokOk),(120,kArity)] := rfl
attribute [local go_sem] cxEnI_t cxEnI_c k60 kTokOk kArity
theorem cEndI : Cn Try.prog 119 kEnd := by
 refine Cn.pur Try.func119 (by kernel_rfl) rfl fun d x hx=>?_
 obtain ⟨L,a⟩ := x
 obtain ⟨hL,hs⟩ := hx
 simp only at hL hs ⊢
 refine Holds.go (c := cxEnI) Try.func119 rfl Try.results119 Try.ntmps119 (by omega) (by simp) rfl ?_
 intro X0 w0
 by_cases ha : 0 ≤ a ∧ a ≤ (L.length : Int) - 1
 ·have ha0 := ha.1
  have ha1 := ha.2
  rw [exprEnd_in ha0]
  (repeat' (first|apply zS|apply zB|((first|apply zR|apply zC|apply zT|apply zE|apply zK);simp only [go_sem,ha0,ha1])|apply And.intro|intro _))
  all_goals first|omega|skip
  refine zL (fun p : Nat × Nat=>⟨[(0,.sl 3 (L.map encTok)),(1,.v (.int .i64 p.1)),(5,.v (.int .i64 p.2))],[]⟩) (fun p=>p.1 ≤ L.length ∧ p.2 ≤ 4 * p.1 + 1 ∧ endGo (L.drop a.toNat) 1 a.toNat = endGo (L.drop p.1) p.2 p.1) (fun p=>L.length - p.1) (a.toNat,1) ⟨by simp only; omega,by simp only; omega,rfl⟩ ?_ ?_
  ·have e : ((a.toNat : Nat) : Int) = a:=by omega
   have e1 : ((1 : Nat) : Int) = 1 := rfl
   (simp only [go_sem,e,e1] <;> (first|(and_intros <;> rfl)|simp))
  rintro ⟨j,n⟩ ⟨hj,hn,he⟩
  simp only at hj hn he ⊢
  rw [he]
  by_cases hn0 : 0 < n
  ·have hn0i : (0 : Int) < n:=by omega
   by_cases hlt : j < L.length
   ·have hlti : (j : Int) < L.length:=by omega
    have h1 := rowAt_map encTok L j hlt
    have h2 := endGo_row hlt hn0
    have h3 := hs _ (List.getElem_mem hlt)
    rw [h2]
    generalize L[j] = y at h1 h2 h3
    obtain ⟨yk,yn,ys⟩ := y
    rw [encTok] at h1
    simp only at h1
    cases hk : tokOk ⟨yk,yn,ys⟩ with
    |false =>
     rw [if_neg (by simp)]
     (repeat' (first|apply zS|apply zB|((first|apply zR|apply zC|apply zT|apply zE|apply zK);simp only [go_sem,h1,hk,hn0i,hlti])|apply And.intro|intro _))
     all_goals first|omega|exact h3|skip
    |true =>
     have har : arity ⟨yk,yn,ys⟩ = (arN ⟨yk,yn,ys⟩ : Int):=by unfold arity; rw [hk]; rfl
     have hle := arN_le hk
     rw [if_pos rfl]
     (repeat' (first|apply zS|apply zB|((first|apply zR|apply zC|apply zT|apply zE|apply zK);simp only [go_sem,h1,hk,hn0i,hlti,har])|apply And.intro|intro _))
     all_goals first|omega|exact h3|skip
     refine ⟨(j + 1,n - 1 + arN ⟨yk,yn,ys⟩),⟨by simp only; omega,by simp only; omega,by first|rfl|rw [he,h2,if_pos hk]⟩,by simp only; omega,?_⟩
     rw [show ((n : Int) + ((arN ⟨yk,yn,ys⟩ : Int) - 1)) = ((n - 1 + arN ⟨yk,yn,ys⟩ : Nat) : Int) by omega,show ((j : Int) + 1) = ((j + 1 : Nat) : Int) by omega]
     (first|(and_intros <;> rfl)|simp)
   ·have hge : ¬ (j : Int) < L.length:=by omega
    have e : endGo (L.drop j) n j = -1:=by rw [List.drop_eq_nil_of_le (by omega),endGo_nil _ hn0]
    rw [e]
    have h0 : lk 0 tys = none := rfl
    have hro : Go.Vc.rowAt (L.map encTok) j = []:=by unfold Go.Vc.rowAt; rw [List.getElem?_eq_none (by rw [List.length_map]; omega)]; rfl
    have hle : (L.length : Int) ≤ j:=by omega
    (repeat' (first|apply zS|apply zB|((first|refine WP.regionO (id := 6) ?_); simp only [go_sem,hn0i,hle,h0,hro])|((first|apply zR|apply zC|apply zT|apply zE|apply zK);simp only [go_sem,hn0i,hle,h0,hro])|apply And.intro|intro _))
    all_goals first|omega|skip
  ·have hn1 : n = 0:=by omega
   subst hn1
   rw [endGo_zero]
   (repeat' (first|apply zS|apply zB|((first|apply zR|apply zC|apply zT|apply zE|apply zK);simp only [go_sem])|apply And.intro|intro _))
   all_goals first|omega|skip
 ·rw [exprEnd_out (by omega)]
  have hb : (decide (0 ≤ a) && decide (a ≤ (L.length : Int) - 1)) = false:=by simp; omega
  (repeat' (first|apply zS|apply zB|((first|apply zR|apply zC|apply zT|apply zE|apply zK);simp only [go_sem,hb])|apply And.intro|intro _))
  all_goals first|omega|skip
end
section
noncomputable def cxEnS := mkX [(116,kTokOk),(98,kArity)] (COk.cons cTokOkS (COk.cons cArityS (COk.nil _)))
theorem cxEnS_t : cxEnS.tys = tys := rfl
theorem cxEnS_c : cxEnS.C = [(116,kTokOk),(98,kArity)] := rfl
attribute [local go_sem] cxEnS_t cxEnS_c kTokOk kArity
theorem cEndS : Cn Try.prog 115 kEnd := by
 refine Cn.pur Try.func115 (by kernel_rfl) rfl fun d x hx=>?_
 obtain ⟨L,a⟩ := x
 obtain ⟨hL,hs⟩ := hx
 simp only at hL hs ⊢
 refine Holds.go (c := cxEnS) Try.func115 rfl Try.results115 Try.ntmps115 (by omega) (by simp) rfl ?_
 intro X0 w0
 by_cases ha0 : 0 ≤ a
 ·have hna : ¬ a < 0:=by omega
  rw [exprEnd_in ha0]
  (repeat' (first|apply zS|apply zB|((first|apply zR|apply zC|apply zT|apply zE|apply zK);simp only [go_sem,hna])|apply And.intro|intro _))
  all_goals first|omega|skip
  refine zL (fun p : Nat × Nat=>⟨[(0,.sl 3 (L.map encTok)),(1,.v (.int .i64 p.1)),(5,.v (.int .i64 p.2))],[]⟩) (fun p=>(p.2 = 1 ∨ p.1 ≤ L.length) ∧ p.2 ≤ 4 * p.1 + 1 ∧ endGo (L.drop a.toNat) 1 a.toNat = endGo (L.drop p.1) p.2 p.1) (fun p=>L.length - p.1) (a.toNat,1) ⟨.inl rfl,by simp only; omega,rfl⟩ ?_ ?_
  ·have e : ((a.toNat : Nat) : Int) = a:=by omega
   have e1 : ((1 : Nat) : Int) = 1 := rfl
   (simp only [go_sem,e,e1] <;> (first|(and_intros <;> rfl)|simp))
  rintro ⟨j,n⟩ ⟨hj,hn,he⟩
  simp only at hj hn he ⊢
  rw [he]
  by_cases hn0 : 0 < n
  ·have hn0i : (0 : Int) < n:=by omega
   by_cases hlt : j < L.length
   ·have hlti : (j : Int) < L.length:=by omega
    have h1 := rowAt_map encTok L j hlt
    have h2 := endGo_row hlt hn0
    have h3 := hs _ (List.getElem_mem hlt)
    rw [h2]
    generalize L[j] = y at h1 h2 h3
    obtain ⟨yk,yn,ys⟩ := y
    rw [encTok] at h1
    simp only at h1
    cases hk : tokOk ⟨yk,yn,ys⟩ with
    |false =>
     rw [if_neg (by simp)]
     (repeat' (first|apply zS|apply zB|((first|apply zR|apply zC|apply zT|apply zE|apply zK);simp only [go_sem,h1,hk,hn0i,hlti])|apply And.intro|intro _))
     all_goals first|omega|exact h3|skip
    |true =>
     have har : arity ⟨yk,yn,ys⟩ = (arN ⟨yk,yn,ys⟩ : Int):=by unfold arity; rw [hk]; rfl
     have hle := arN_le hk
     rw [if_pos rfl]
     (repeat' (first|apply zS|apply zB|((first|apply zR|apply zC|apply zT|apply zE|apply zK);simp only [go_sem,h1,hk,hn0i,hlti,har])|apply And.intro|intro _))
     all_goals first|omega|exact h3|skip
     refine ⟨(j + 1,n - 1 + arN ⟨yk,yn,ys⟩),⟨.inr (by simp only; omega),by simp only; omega,by first|rfl|rw [he,h2,if_pos hk]⟩,by simp only; omega,?_⟩
     rw [show ((n : Int) - 1 + (arN ⟨yk,yn,ys⟩ : Int)) = ((n - 1 + arN ⟨yk,yn,ys⟩ : Nat) : Int) by omega,show ((j : Int) + 1) = ((j + 1 : Nat) : Int) by omega]
     (first|(and_intros <;> rfl)|simp)
   ·have hge : ¬ (j : Int) < L.length:=by omega
    have e : endGo (L.drop j) n j = -1:=by rw [List.drop_eq_nil_of_le (by omega),endGo_nil _ hn0]
    rw [e]
    have h0 : lk 0 tys = none := rfl
    have hro : Go.Vc.rowAt (L.map encTok) j = []:=by unfold Go.Vc.rowAt; rw [List.getElem?_eq_none (by rw [List.length_map]; omega)]; rfl
    have hle : (L.length : Int) ≤ j:=by omega
    (repeat' (first|apply zS|apply zB|((first|refine WP.regionO (id := 6) ?_); simp only [go_sem,hn0i,hle,h0,hro])|((first|apply zR|apply zC|apply zT|apply zE|apply zK);simp only [go_sem,hn0i,hle,h0,hro])|apply And.intro|intro _))
    all_goals first|omega|skip
  ·have hn1 : n = 0:=by omega
   subst hn1
   rw [endGo_zero]
   (repeat' (first|apply zS|apply zB|((first|apply zR|apply zC|apply zT|apply zE|apply zK);simp only [go_sem])|apply And.intro|intro _))
   all_goals first|omega|skip
 ·rw [exprEnd_out (by omega)]
  have hna : a < 0:=by omega
  (repeat' (first|apply zS|apply zB|((first|apply zR|apply zC|apply zT|apply zE|apply zK);simp only [go_sem,hna])|apply And.intro|intro _))
  all_goals first|omega|skip
end
theorem exprOk_eq (L : List Tok) : exprOk L = (decide ((L.length : Int) ≤ 20) && decide ((0 : Int) < L.length) && (exprEnd L 0 == (L.length : Int))) := by
 rw [Bool.eq_iff_iff,exprOk_iff]
 simp only [Bool.and_eq_true,decide_eq_true_eq,beq_iff_eq,← List.length_pos_iff]
 omega
section
noncomputable def cxEoI := mkX [(119,kEnd)] (COk.cons cEndI (COk.nil _))
theorem cxEoI_t : cxEoI.tys = tys := rfl
theorem cxEoI_c : cxEoI.C = [(119,kEnd)] := rfl
attribute [local go_sem] cxEoI_t cxEoI_c kEnd
theorem cExOkI : Cn Try.prog 107 kExOk := by
 refine Cn.pur Try.func107 (by kernel_rfl) rfl fun d x hx=>?_
 rename List Tok=>L
 have hL := hx.1
 refine Holds.go (c := cxEoI) Try.func107 rfl Try.results107 Try.ntmps107 (by omega) (by simp) rfl ?_
 intro X0 w0
 rw [exprOk_eq]
 (repeat' (first|apply zS|apply zB|((first|apply zR|apply zC|apply zT|apply zE|apply zK);simp only [go_sem])|apply And.intro|intro _))
 all_goals first|omega|exact hx|exact hx.2 _ ‹_›|skip
end
section
noncomputable def cxEoS := mkX [(115,kEnd)] (COk.cons cEndS (COk.nil _))
theorem cxEoS_t : cxEoS.tys = tys := rfl
theorem cxEoS_c : cxEoS.C = [(115,kEnd)] := rfl
attribute [local go_sem] cxEoS_t cxEoS_c kEnd
theorem cExOkS : Cn Try.prog 96 kExOk := by
 refine Cn.pur Try.func96 (by kernel_rfl) rfl fun d x hx=>?_
 rename List Tok=>L
 have hL := hx.1
 refine Holds.go (c := cxEoS) Try.func96 rfl Try.results96 Try.ntmps96 (by omega) (by simp) rfl ?_
 intro X0 w0
 rw [exprOk_eq,Bool.and_comm (decide ((L.length : Int) ≤ 20))]
 (repeat' (first|apply zS|apply zB|((first|apply zR|apply zC|apply zT|apply zE|apply zK);simp only [go_sem])|apply And.intro|intro _))
 all_goals first|omega|exact hx|exact hx.2 _ ‹_›|skip
end
section
attribute [local go_sem] kExOk
end
section
attribute [local go_sem] kExOk
end
end Go.Proofs.Ytjjbcoigaejoaaa

namespace Go.Proofs.Ytjjbcoigaejoaaa
open Go.Vc
attribute [local irreducible] Go.Vc.WP
attribute [local go_sem] cx0_t cx0_c
attribute [local go_sem] decTok_enc oneTok_f decS_enc St.fzS addL behind St.runO St.stepO
section
end
end Go.Proofs.Ytjjbcoigaejoaaa

namespace Go.Proofs.Ytjjbcoigaejoaaa
open Go.Vc
attribute [local irreducible] Go.Vc.WP
attribute [local go_sem] cx0_t cx0_c
attribute [local go_sem] decTok_enc oneTok_f decS_enc St.fzS addL behind St.runO St.stepO
section
set_option maxHeartbeats 8000000
attribute [local go_sem] kTokOk
end
end Go.Proofs.Ytjjbcoigaejoaaa

namespace Go.Proofs.Ytjjbcoigaejoaaa
open Go.Vc
attribute [local irreducible] Go.Vc.WP
attribute [local go_sem] cx0_t cx0_c
attribute [local go_sem] decTok_enc oneTok_f decS_enc St.fzS addL behind St.runO St.stepO
def wfW (W : List ByteArray) : Prop := W.length ≤ 1048576 ∧ ∀ w ∈ W,w.size ≤ 1048576
section
attribute [local go_sem] kExOk
end
section
attribute [local go_sem] kExOk
end
end Go.Proofs.Ytjjbcoigaejoaaa

namespace Go.Proofs.Ytjjbcoigaejoaaa
open Go.Vc
attribute [local irreducible] Go.Vc.WP
attribute [local go_sem] cx0_t cx0_c
attribute [local go_sem] decTok_enc oneTok_f decS_enc oneLine_f line_eta St.fzS addL behind St.runO St.stepO
def hasEx3 (k : Int) : Bool := decide (k ≠ 0) && decide (k ≠ 4) && decide (k ≠ 7)
theorem hasEx3_eq {k : Int} (h : 0 ≤ k) (h' : k ≤ 7) : hasEx3 k = hasEx k := by
 rcases kw_case h h' with e|e|e|e|e|e|e|e <;> rw [e] <;> decide
def kHasEx : Ctr := pur (fun args=>aI args 0) (fun k=>[.v (.int .i64 k)]) (fun _=>True) (fun _ k=>.v (.bool (hasEx k))) (fun _ _=>[])
def kHasEx3 : Ctr := pur (fun args=>aI args 0) (fun k=>[.v (.int .i64 k)]) (fun _=>True) (fun _ k=>.v (.bool (hasEx3 k))) (fun _ _=>[])
theorem cHasExI : Cn Try.prog 87 kHasEx := by
 refine Cn.pur Try.func87 (by kernel_rfl) rfl fun d x hx=>?_
 rename Int=>k
 refine Holds.go (c := cx0) Try.func87 rfl Try.results87 Try.ntmps87 (by omega) (by simp) rfl ?_
 intro X0 w0
 have e : hasEx k = ((k == 1) || (k == 2) || (k == 3) || (k == 5) || (k == 6)) := rfl
 rw [e]
 (repeat' (first|apply zS|apply zB|((first|apply zR|apply zC|apply zT|apply zE|apply zK);simp only [go_sem])|apply And.intro|intro _))
 all_goals first|omega|skip
theorem cHasExS : Cn Try.prog 95 kHasEx3 := by
 refine Cn.pur Try.func95 (by kernel_rfl) rfl fun d x hx=>?_
 rename Int=>k
 refine Holds.go (c := cx0) Try.func95 rfl Try.results95 Try.ntmps95 (by omega) (by simp) rfl ?_
 intro X0 w0
 have e : hasEx3 k = ((k != 0) && (k != 4) && (k != 7)) := by
  unfold hasEx3
  rw [show (k != 0) = decide (k ≠ 0) by simp [bne]; rfl,show (k != 4) = decide (k ≠ 4) by simp [bne]; rfl,show (k != 7) = decide (k ≠ 7) by simp [bne]; rfl]
 rw [e]
 (repeat' (first|apply zS|apply zB|((first|apply zR|apply zC|apply zT|apply zE|apply zK);simp only [go_sem])|apply And.intro|intro _))
 all_goals first|omega|skip
def ArgsP (L : List ByteArray) : Prop := (∀ s ∈ L,nameOk s = true) ∧ L.Nodup ∧ L.length ≤ 4
instance (L : List ByteArray) : Decidable (ArgsP L):=by unfold ArgsP; infer_instance
theorem nodup_take {L : List ByteArray} {k : Nat} (hk : k < L.length) (h : (L.take k).Nodup) (hn : L[k] ∉ L.take k) : (L.take (k + 1)).Nodup := by
 rw [List.take_succ_eq_append_getElem hk,List.nodup_append]
 refine ⟨h,by simp,fun a ha b hb=>?_⟩
 simp only [List.mem_cons,List.not_mem_nil,or_false] at hb
 subst hb
 exact fun e=>hn (e ▸ ha)
theorem nodup_no {L : List ByteArray} {k : Nat} (hk : k < L.length) (hn : L[k] ∈ L.take k) : ¬ L.Nodup := fun h=>by
 have h2 : (L.take (k + 1)).Nodup := h.sublist (List.take_sublist _ _)
 rw [List.take_succ_eq_append_getElem hk,List.nodup_append] at h2
 exact h2.2.2 _ hn _ (by simp) rfl
def kArArgs : Ctr := pur (fun args=>decS (aR args 0)) (fun L=>[.sl 1 (L.map encS)]) wfW (fun _ L=>.v (.bool (decide (ArgsP L)))) (fun _ _=>[])
section
noncomputable def cxAr := mkX [(105,kNameOk),(118,kHasS)] (COk.cons cNameOkI (COk.cons cHasS (COk.nil _)))
theorem cxAr_t : cxAr.tys = tys := rfl
theorem cxAr_c : cxAr.C = [(105,kNameOk),(118,kHasS)] := rfl
attribute [local go_sem] cxAr_t cxAr_c kNameOk kHasS
theorem cArArgs : Cn Try.prog 106 kArArgs := by
 refine Cn.pur Try.func106 (by kernel_rfl) rfl fun d x hx=>?_
 rename List ByteArray=>L
 have hL := hx.1
 refine Holds.go (c := cxAr) Try.func106 rfl Try.results106 Try.ntmps106 (by omega) (by simp) rfl ?_
 intro X0 w0
 (repeat' (first|apply zS|apply zB|((first|apply zR|apply zC|apply zT|apply zE|apply zK);simp only [go_sem])|apply And.intro|intro _))
 all_goals first|omega|skip
 refine zL (fun k : Nat=>⟨[(0,.sl 1 (L.map encS)),(5,.sl 1 (L.map encS)),(6,.v (.int .i64 L.length)),(7,.v (.int .i64 k))],[]⟩) (fun k=>k ≤ L.length ∧ (∀ i (hi : i < L.length),i < k → nameOk L[i] = true) ∧ (L.take k).Nodup) (fun k=>L.length - k) 0 (by simp) ?_ ?_
 ·(simp only [go_sem] <;> (first|(and_intros <;> rfl)|simp))
 rintro k ⟨hk,hf,hd⟩
 by_cases hlt : k < L.length
 ·have hli : (k : Int) < L.length:=by omega
  have h1 := rowAt_map encS L k hlt
  have h2 := hx.2 _ (List.getElem_mem hlt)
  have hcut : (L.map encS).take k = (L.take k).map encS := (List.map_take ..).symm
  have hcl : (L.take k).length = k:=by rw [List.length_take]; omega
  cases hn : nameOk L[k] with
  |false =>
   have hno : decide (ArgsP L) = false := decide_eq_false fun q=>by rw [q.1 _ (List.getElem_mem hlt)] at hn; cases hn
   rw [hno]
   (repeat' (first|apply zS|apply zB|((first|refine WP.regionO (id := 4) ?_); simp only [go_sem,hli,h1,encS,hn,hcut,hcl])|((first|apply zR|apply zC|apply zT|apply zE|apply zK);simp only [go_sem,hli,h1,encS,hn,hcut,hcl])|apply And.intro|intro _))
   all_goals first|omega|skip
  |true =>
   by_cases hm : L[k] ∈ L.take k
   ·have hno : decide (ArgsP L) = false := decide_eq_false fun q=>nodup_no hlt hm q.2.1
    rw [hno]
    (repeat' (first|apply zS|apply zB|((first|apply zR|apply zC|apply zT|apply zE|apply zK);simp only [go_sem,hli,h1,encS,hn,hcut,hcl,hm])|apply And.intro|intro _))
    all_goals first|omega|skip
   ·have hnx : ∀ i (hi : i < L.length),i < k + 1 → nameOk L[i] = true := fun i hi hik=>by
     rcases Nat.lt_or_ge i k with q|q
     ·exact hf i hi q
     ·have : i = k:=by omega
      subst this; exact hn
    (repeat' (first|apply zS|apply zB|((first|apply zR|apply zC|apply zT|apply zE|apply zK);simp only [go_sem,hli,h1,encS,hn,hcut,hcl,hm])|apply And.intro|intro _))
    all_goals first|omega|exact ⟨k + 1,⟨by omega,hnx,nodup_take hlt hd hm⟩,by omega,by (first|(and_intros <;> rfl)|simp)⟩|skip
 ·have hge : ¬ (k : Int) < L.length:=by omega
  have e : decide (ArgsP L) = decide ((L.length : Int) ≤ 4) := decide_eq_decide.2 ⟨fun q=>by have := q.2.2; omega,fun q=>⟨fun s hs=>by
   obtain ⟨i,hi,rfl⟩ := List.mem_iff_getElem.1 hs
   exact hf i hi (by omega),by rwa [List.take_of_length_le (by omega)] at hd,by omega⟩⟩
  rw [e]
  (repeat' (first|apply zS|apply zB|((first|apply zR|apply zC|apply zT|apply zE|apply zK);simp only [go_sem,hge])|apply And.intro|intro _))
  all_goals first|omega|skip
end
def smLine (x : Line) : Prop := x.name.size ≤ 1048576 ∧ wfW x.args ∧ smToks x.expr
def kLnOk : Ctr := pur (fun args=>oneLine (aC args 0)) (fun x=>[.agg [.v (.int .i64 x.kind),.v (.string x.name),.sl 1 (x.args.map encS),.sl 3 (x.expr.map encTok)]]) smLine (fun _ x=>.v (.bool (decide (LineP x)))) (fun _ _=>[])
def lastP (x : Line) : Prop := (hasEx x.kind = true → exprOk x.expr = true) ∧ (hasEx x.kind = false → x.expr = [])
theorem decide_bool {p : Prop} [Decidable p] {b : Bool} (h : p ↔ b = true) : decide p = b := by
 cases b with
 |false=>exact decide_eq_false fun e=>by simpa using h.1 e
 |true=>exact decide_eq_true (h.2 rfl)
theorem len0_eq (E : List Tok) : ((E.length : Int) == 0) = decide (E = []) := by
 cases E with
 |nil=>rfl
 |cons a l=>simp; omega
section
noncomputable def LcxLoI : CL := [(35,k60),(105,kNameOk),(106,kArArgs),(87,kHasEx),(107,kExOk)]
noncomputable def cxLoI := mkX LcxLoI (COk.cons c60 (COk.cons cNameOkI (COk.cons cArArgs (COk.cons cHasExI (COk.cons cExOkI (COk.nil _))))))
theorem cxLoI_t : cxLoI.tys = tys := rfl
theorem cxLoI_c : cxLoI.C = LcxLoI := rfl
attribute [local go_sem] cxLoI_t cxLoI_c LcxLoI k60 kNameOk kArArgs kHasEx kExOk
theorem cLnOkI : Cn Try.prog 81 kLnOk := by
 refine Cn.pur Try.func81 (by kernel_rfl) rfl fun d x hx=>?_
 obtain ⟨k,n,A,E⟩ := x
 obtain ⟨hn,hA,hE⟩ := hx
 have hAl := hA.1
 have hEl := hE.1
 simp only at hn hAl hEl hA hE ⊢
 refine Holds.go (c := cxLoI) Try.func81 rfl Try.results81 Try.ntmps81 (by omega) (by simp) rfl ?_
 intro X0 w0
 by_cases hk : 0 ≤ k ∧ k ≤ 7
 ·have hk0 := hk.1
  have hk7 := hk.2
  by_cases h01 : k = 0 ∨ k = 1
  ·cases hnm : nameOk n with
   |false =>
    have hno : decide (LineP ⟨k,n,A,E⟩) = false := decide_eq_false fun q=>by rw [q.name h01] at hnm; cases hnm
    rw [hno]
    (repeat' (first|apply zS|apply zB|((first|apply zR|apply zC|apply zT|apply zE|apply zK);simp only [go_sem,hk0,hk7,h01,hnm])|apply And.intro|intro _))
    all_goals first|omega|exact hA|exact hE|exact hA.2 _ ‹_›|exact hE.2 _ ‹_›|skip
   |true =>
    by_cases h0 : k = 0
    ·subst h0
     by_cases hap : ArgsP A
     ·have he : decide (LineP ⟨0,n,A,E⟩) = decide (E = []) := decide_eq_decide.2 ⟨fun q=>q.noExpr rfl,fun q=>⟨hk,hap.2.2,hap.1,hap.2.1,fun h=>absurd rfl h,fun _=>hnm,fun h=>absurd (.inl rfl) h,fun h=>absurd (show hasEx 0 = true from h) (by decide),fun _=>q⟩⟩
      have hx0 : hasEx 0 = false := rfl
      have hl0 := len0_eq E
      rw [he]
      (repeat' (first|apply zS|apply zB|((first|apply zR|apply zC|apply zT|apply zE|apply zK);simp only [go_sem,hnm,hap,hx0,hl0])|apply And.intro|intro _))
      all_goals first|omega|exact hA|exact hE|exact hA.2 _ ‹_›|exact hE.2 _ ‹_›|skip
     ·have hno : decide (LineP ⟨0,n,A,E⟩) = false := decide_eq_false fun q=>hap ⟨q.names,q.apart,q.few⟩
      rw [hno]
      (repeat' (first|apply zS|apply zB|((first|apply zR|apply zC|apply zT|apply zE|apply zK);simp only [go_sem,hnm,hap])|apply And.intro|intro _))
      all_goals first|omega|exact hA|exact hE|exact hA.2 _ ‹_›|exact hE.2 _ ‹_›|skip
    ·have h1 : k = 1:=by omega
     subst h1
     by_cases hA0 : A = []
     ·have he : decide (LineP ⟨1,n,A,E⟩) = exprOk E := by
       exact decide_bool ⟨fun q=>q.expr rfl,fun q=>⟨hk,by rw [hA0]; show (0 : Nat) ≤ 4; decide,by rw [hA0]; simp,by rw [hA0]; simp,fun _=>hA0,fun _=>hnm,fun h=>absurd (.inr rfl) h,fun _=>q,fun h=>absurd (show hasEx 1 = false from h) (by decide)⟩⟩
      have hx0 : hasEx 1 = true := rfl
      have hl0 : (A.length : Int) = 0:=by rw [hA0]; rfl
      rw [he]
      (repeat' (first|apply zS|apply zB|((first|apply zR|apply zC|apply zT|apply zE|apply zK);simp only [go_sem,hnm,hx0,hl0])|apply And.intro|intro _))
      all_goals first|omega|exact hA|exact hE|exact hA.2 _ ‹_›|exact hE.2 _ ‹_›|skip
     ·have hno : decide (LineP ⟨1,n,A,E⟩) = false := decide_eq_false fun q=>hA0 (q.noArgs (show (1 : Int) ≠ 0 by decide))
      have hl0 : (0 : Int) < A.length:=by have := List.length_pos_iff.2 hA0; omega
      rw [hno]
      (repeat' (first|apply zS|apply zB|((first|apply zR|apply zC|apply zT|apply zE|apply zK);simp only [go_sem,hnm,hl0])|apply And.intro|intro _))
      all_goals first|omega|exact hA|exact hE|exact hA.2 _ ‹_›|exact hE.2 _ ‹_›|skip
  ·have h0 : ¬ k = 0 := fun e=>h01 (.inl e)
   have h1 : ¬ k = 1 := fun e=>h01 (.inr e)
   by_cases hne : n = ⟨#[]⟩
   ·by_cases hA0 : A = []
    ·have hl0 : (A.length : Int) = 0:=by rw [hA0]; rfl
     have hneT : (n = ⟨#[]⟩) = True := eq_true hne
     have hneF : (n ≠ ⟨#[]⟩) = False := eq_false fun h=>h hne
     have hz : LineP ⟨k,n,A,E⟩ ↔ lastP ⟨k,n,A,E⟩ := ⟨fun q=>⟨q.expr,q.noExpr⟩,fun q=>⟨hk,by rw [hA0]; show (0 : Nat) ≤ 4; decide,by rw [hA0]; simp,by rw [hA0]; simp,fun _=>hA0,fun h=>absurd h h01,fun _=>hne,q.1,q.2⟩⟩
     cases hex : hasEx k with
     |true =>
      have he : decide (LineP ⟨k,n,A,E⟩) = exprOk E := by
       exact decide_bool (hz.trans ⟨fun q=>q.1 hex,fun q=>⟨fun _=>q,fun h=>by rw [hex] at h; cases h⟩⟩)
      rw [he]
      (repeat' (first|apply zS|apply zB|((first|apply zR|apply zC|apply zT|apply zE|apply zK);simp only [go_sem,hk0,hk7,h0,h1,hneT,hl0,hex])|apply And.intro|intro _))
      all_goals first|omega|exact hA|exact hE|exact hA.2 _ ‹_›|exact hE.2 _ ‹_›|skip
     |false =>
      have he : decide (LineP ⟨k,n,A,E⟩) = decide (E = []) := decide_eq_decide.2 (hz.trans ⟨fun q=>q.2 hex,fun q=>⟨fun h=>(by rw [hex] at h; cases h),fun _=>q⟩⟩)
      have hle := len0_eq E
      rw [he]
      (repeat' (first|apply zS|apply zB|((first|apply zR|apply zC|apply zT|apply zE|apply zK);simp only [go_sem,hk0,hk7,h0,h1,hneT,hl0,hex,hle])|apply And.intro|intro _))
      all_goals first|omega|exact hA|exact hE|exact hA.2 _ ‹_›|exact hE.2 _ ‹_›|skip
    ·have hno : decide (LineP ⟨k,n,A,E⟩) = false := decide_eq_false fun q=>hA0 (q.noArgs h0)
     have hl0 : (0 : Int) < A.length:=by have := List.length_pos_iff.2 hA0; omega
     have hneT : (n = ⟨#[]⟩) = True := eq_true hne
     rw [hno]
     (repeat' (first|apply zS|apply zB|((first|apply zR|apply zC|apply zT|apply zE|apply zK);simp only [go_sem,hk0,hk7,h0,h1,hneT,hl0])|apply And.intro|intro _))
     all_goals first|omega|exact hA|exact hE|exact hA.2 _ ‹_›|exact hE.2 _ ‹_›|skip
   ·have hno : decide (LineP ⟨k,n,A,E⟩) = false := decide_eq_false fun q=>hne (q.noName h01)
    rw [hno]
    (repeat' (first|apply zS|apply zB|((first|apply zR|apply zC|apply zT|apply zE|apply zK);simp only [go_sem,hk0,hk7,h0,h1,hne])|apply And.intro|intro _))
    all_goals first|omega|exact hA|exact hE|exact hA.2 _ ‹_›|exact hE.2 _ ‹_›|skip
 ·have hno : decide (LineP ⟨k,n,A,E⟩) = false := decide_eq_false fun q=>hk q.kind
  have hb : (decide (0 ≤ k) && decide (k ≤ 7)) = false:=by simp; omega
  rw [hno]
  (repeat' (first|apply zS|apply zB|((first|apply zR|apply zC|apply zT|apply zE|apply zK);simp only [go_sem,hb])|apply And.intro|intro _))
  all_goals first|omega|exact hA|exact hE|exact hA.2 _ ‹_›|exact hE.2 _ ‹_›|skip
end
end Go.Proofs.Ytjjbcoigaejoaaa

