/-
  DERIVED. Several texts of ours in one: VcRf.
-/
import Derived.Test.YtoomncljmgcidaaGreatVa2
import Derived.Test.YtoomncljmgcidaaGreatVa5
set_option linter.unusedSimpArgs false
set_option linter.unusedVariables false
set_option maxHeartbeats 1000000
set_option maxRecDepth 10000
namespace Go.Vc
def St.fzAt (fz : List (Nat × List Nat)) (i : Nat) (st : St) : St := match lk i fz with
 |some ids=>st.prep ids []
 |none=>st
def St.runFz (tys : List (Nat × TyD)) (C : List (FuncId × Ctr)) (N : Nat) (ops : Array Oper) (fz : List (Nat × List Nat)) : Nat → List Oper → St → (St → Prop) → Prop
 | _,[],st,K=>K st
 |i,o :: l,st,K=>(st.fzAt fz i).stepO tys C N ops o fun st'=>St.runFz tys C N ops fz (i + 1) l st' K
section
variable {P : Program} {tys : List (Nat × TyD)} {C : List (FuncId × Ctr)} {N : Nat} {X0 : Nat → Prop} {M : Nat → BV → Prop} {w0 : World} {st : St} {β : Nat → BV} {a : Act} {w : World}
theorem Sim.fzAt (hA : Ap P X0 M w0) (h : Sim N X0 M w0 st β a w) (fz : List (Nat × List Nat)) (i : Nat) : ∃ β',Sim N X0 M w0 (st.fzAt fz i) β' a w := by
 unfold St.fzAt
 split
 ·exact h.prep hA rfl
 ·exact ⟨β,h⟩
theorem runFz_sound (hA : Ap P X0 M w0) (hty : ∀ T d,lk T tys = some d → TyOk P T d) (hC : COk P C) {ops : Array Oper} {fz : List (Nat × List Nat)} {K : St → Prop} {Q : Exit → Act → World → Prop} (hQ : ∀ a w,Ok N X0 M w0 K a w → Q .normal a w) :
  ∀ (l : List Oper) {i : Nat} {st : St} {β : Nat → BV} {a : Act} {w : World},Sim N X0 M w0 st β a w → St.runFz tys C N ops fz i l st K → wpList P ops Q l a w
 | [],i,st,β,a,w,h,hw=>hQ a w ⟨st,β,hw,h⟩
 |o :: l,i,st,β,a,w,h,hw=>by
  obtain ⟨β1,h0⟩ := h.fzAt hA fz i
  have h1 := stepO_sound (Q := Q) hA hty hC h0 hw
  unfold wpList
  split
  ·rename_i hwt
   rw [if_pos hwt] at h1
   exact .inl (Oper.wp_mono (fun a' w' ⟨st',β',h2,h3⟩=>runFz_sound hA hty hC hQ l h3 h2) h1)
  ·rename_i hwt
   rw [if_neg hwt] at h1
   obtain ⟨st',β',h2,h3⟩ := h1
   exact runFz_sound hA hty hC hQ l h3 h2
end
section
variable {c : Cx} {N : Nat} {X0 : Nat → Prop} {M : Nat → BV → Prop} {w0 : World} {st : St} {K : Exit → St → Prop}
theorem WP.regionF {id : Nat} (fz : List (Nat × List Nat)) {l : List Oper} (h : St.runFz c.tys c.C N l.toArray fz 0 l st (K .normal)) : WP c N X0 M w0 (.region id l.toArray false) st K := fun hA β a w hs =>
 wp_region_lit (runFz_sound hA c.hty c.hC (fun a w hk=>hk) l hs h)
end
end Go.Vc

