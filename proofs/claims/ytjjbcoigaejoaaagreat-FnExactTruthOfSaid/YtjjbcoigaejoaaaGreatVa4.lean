/-
  DERIVED. Several texts of ours in one: VcS, VcT, VcEv, VtA, VtI, VtX, VtMk, VtNumP, VtPU, VtName, VcR, VgFrame, VgNode, VpOrd, VpFmt, VpSz, VtMark, VtStrS.
-/
import Derived.Test.YtjjbcoigaejoaaaGreatVa0
import Derived.Test.YtjjbcoigaejoaaaGreatVa1
import Derived.Test.YtjjbcoigaejoaaaGreatVa2
import Derived.Test.YtjjbcoigaejoaaaGreatVa3
import Derived.Test.YtjjbcoigaejoaaaGreatProg
import Derived.KernelRfl
import Derived.ProofKit
import Derived.OpenShut
import Derived.Below
import Derived.ChangeSame
import Derived.Carry
import Derived.Deep.Slices
import Derived.Deep.Fields
import Derived.Laws.Strings
set_option linter.unusedSimpArgs false
set_option linter.unusedVariables false
set_option maxHeartbeats 1000000
set_option maxRecDepth 10000
namespace Go.Vc
theorem killL_keep {st : St} {t : Nat} {x : SV} : ∀ {ids : List Nat},(∀ d ∈ ids,x.kill d = x) → lk t st.fr = some x → lk t (st.killL ids).fr = some x
 | [],_,h=>h
 |d :: l,hk,h=>by
  have ih := killL_keep (fun e he=>hk e (List.mem_cons_of_mem _ he)) h
  simp only [St.killL,St.kill,lk_map,ih,Option.map_some,hk d List.mem_cons_self]
theorem killL_keepO {st : St} {t : Nat} {x : Ob} : ∀ {ids : List Nat},(∀ d ∈ ids,d ≠ t ∧ x.kill d = x) → lk t st.hp = some x → lk t (st.killL ids).hp = some x
 | [],_,h=>h
 |d :: l,hk,h=>by
  have ih := killL_keepO (fun e he=>hk e (List.mem_cons_of_mem _ he)) h
  have h1 := hk d List.mem_cons_self
  rw [show St.killL st (d :: l) = (st.killL l).kill d from rfl,lk_kill_ne (Ne.symm h1.1),ih]
  simp only [Option.map_some,h1.2]
theorem lk_flatMap {α β : Type} {t : Nat} {x : β} {g : α → List (Nat × β)} : ∀ {l : List α},lk t (l.flatMap g) = some x → ∃ e ∈ l,lk t (g e) = some x
 |e :: l,h=>by
  rw [List.flatMap_cons,lk_append] at h
  cases hq : lk t (g e) with
  |some y=>rw [hq] at h; cases h; exact ⟨e,List.mem_cons_self,hq⟩
  |none =>
   rw [hq] at h
   obtain ⟨e',h1,h2⟩ := lk_flatMap (l := l) h
   exact ⟨e',List.mem_cons_of_mem _ h1,h2⟩
theorem lk_app {α : Type} {t : Nat} {x : α} {l l2 : List (Nat × α)} (h : lk t (l ++ l2) = some x) : lk t l = some x ∨ lk t l2 = some x := by
 rw [lk_append] at h
 cases hq : lk t l with
 |some y=>rw [hq] at h; cases h; exact .inl rfl
 |none=>rw [hq] at h; exact .inr h
section
variable {c : Cx} {N : Nat} {X0 : Nat → Prop} {M : Nat → BV → Prop} {w0 : World} {K : Exit → St → Prop}
theorem flow_tail (hAp : Ap c.P X0 M w0) {ops : Array Oper} {m : Nat} {fl : List Fp} (hB : FlowOk ops m fl) : ∀ (fuel p : Nat) (listed : Array Bool) (st : St) (β : Nat → BV) (a : Act) (w : World),p + fuel = ops.size → m ≤ p → listed.size = ops.size → Closed fl ops.size listed →
  (∀ j,j < ops.size → listed.getD j false = decide (j < p)) → Sim N X0 M w0 st β a w → St.runR c.tys c.C N ops (ops.toList.drop p) st (K .normal) →
  wpAny c.P .any ops (fun e a' w'=>Ok N X0 M w0 (K e) a' w') fuel listed a w
 | 0,p,listed,st,β,a,w,hp,hm,hsz,hcl,hl,hs,hr=>by
  have hd : ops.toList.drop p = [] := List.drop_eq_nil_of_le (by simp; omega)
  rw [hd] at hr
  refine ⟨?_,st,β,hr,hs⟩
  rw [List.eq_nil_iff_forall_not_mem]
  intro i hi
  obtain ⟨h1,h2,_⟩ := mem_ready'.1 hi
  have h3 := hl i h1
  rw [Array.getD_eq_getD_getElem?] at h2 h3
  rw [Array.getElem?_eq_getElem (by omega)] at h2 h3
  simp only [Option.getD_some] at h2 h3
  rw [h2] at h3
  have : i < p:=by omega
  simp [this] at h3
 |fuel + 1,p,listed,st,β,a,w,hp,hm,hsz,hcl,hl,hs,hr=>by
  have hpl : p < ops.size:=by omega
  have hgT : ∀ j,j < ops.size → listed.getD j true = decide (j < p) := fun j hj=>by
   have := hl j hj
   rw [Array.getD_eq_getD_getElem?,Array.getElem?_eq_getElem (by omega)] at this ⊢
   exact this
  have ho : ops[p]? = some (ops[p]'hpl) := Array.getElem?_eq_getElem hpl
  have hrdy : p ∈ Region.ready .any ops listed := mem_ready'.2 ⟨hpl,by rw [hgT p hpl]; simp,_,ho,deps_ready (i := p) (ops := ops) fun e he=>by
   have := hB.back p _ ho e he
   rw [hl e (by omega)]; simpa using this⟩
  refine ⟨fun h=>(by rw [h] at hrdy; cases hrdy),fun i hi=>?_⟩
  obtain ⟨h1,h2,o,hoi,h3⟩ := mem_ready'.1 hi
  have hip : i = p := by
   rw [hgT i h1] at h2
   have hge : p ≤ i:=by simpa using h2
   rcases Nat.lt_or_ge p i with hlt|hle
   ·have := hcl.anc hB hoi h3 p (hB.tail i o (by omega) hoi p hlt)
    rw [hl p hpl] at this
    simp at this
   ·omega
  subst hip
  have hdrop : ops.toList.drop i = o :: ops.toList.drop (i + 1) := by
   rw [List.drop_eq_getElem_cons (by simpa using hpl)]
   congr 1
   rw [ho] at hoi
   simpa using hoi
  rw [hdrop] at hr
  have hst := step_sound (Q := fun e a' w'=>Ok N X0 M w0 (K e) a' w') hAp c.hty c.hC hs (ops := ops) hr
  have hnext : ∀ a' w',Ok N X0 M w0 (fun st'=>St.runR c.tys c.C N ops (ops.toList.drop (i + 1)) st' (K .normal)) a' w' → wpAny c.P .any ops (fun e a' w'=>Ok N X0 M w0 (K e) a' w') fuel (listed.setIfInBounds i true) a' w' := fun a' w' hk=>by
   obtain ⟨st',β',h4,h5⟩ := hk
   refine flow_tail hAp hB fuel (i + 1) _ st' β' a' w' (by omega) (by omega) (by simpa using hsz) (hcl.step hB hsz hoi h3) (fun j hj=>?_) h5 h4
   rw [getD_set _ _ _ _ (by omega)]
   by_cases hji : j = i
   ·subst hji; simp
   ·rw [if_neg hji,hl j hj]
    congr 1
    apply propext
    omega
  unfold wpOp
  rw [hoi]
  simp only
  split
  ·rename_i hw; rw [if_pos hw] at hst; exact .inl (Oper.wp_mono hnext hst)
  ·rename_i hw; rw [if_neg hw] at hst; exact hnext _ _ hst
theorem count_set {listed : Array Bool} {n i : Nat} (hsz : listed.size = n) (hi : i < n) (h2 : listed.getD i false = false) :
  (List.range n).countP (fun j=>!listed.getD j false) = (List.range n).countP (fun j=>!(listed.setIfInBounds i true).getD j false) + 1 := by
 have key : ∀ l : List Nat,l.Nodup → i ∈ l → l.countP (fun j=>!listed.getD j false) = l.countP (fun j=>!(listed.setIfInBounds i true).getD j false) + 1 := by
  intro l hn hm
  induction l with
  |nil=>cases hm
  |cons q l ihl =>
   rw [List.nodup_cons] at hn
   simp only [List.countP_cons]
   rw [getD_set _ _ _ _ (by omega)]
   by_cases hq : q = i
   ·subst hq
    have hno : l.countP (fun j=>!listed.getD j false) = l.countP (fun j=>!(listed.setIfInBounds q true).getD j false) := by
     apply List.countP_congr
     intro j hj
     rw [getD_set _ _ _ _ (by omega),if_neg (fun e=>hn.1 (by rw [← e]; exact hj))]
    rw [h2,hno]; simp
   ·have hm' : i ∈ l := by
     rcases List.mem_cons.1 hm with e|e
     ·exact absurd e.symm hq
     ·exact e
    rw [if_neg hq,ihl hn.2 hm']; omega
 exact key (List.range n) List.nodup_range (List.mem_range.2 hi)
theorem flow_head (hAp : Ap c.P X0 M w0) {ops : Array Oper} {m : Nat} {fl : List Fp} (hB : FlowOk ops m fl) {base : St} {F : Nat → Nat × Dl} {gs : List Nat}
  (hF : ∀ k o,k < m → ops[k]? = some o → (base.least ((List.range k).map fun q=>(q,F q)) (fpAt fl k)).dlt c.tys c.C N ops o (F k).1 (F k).2 ∧ ((fpAt fl k).lks.all fun t=>(lk t (base.least ((List.range k).map fun q=>(q,F q)) (fpAt fl k)).fr).isSome) = true ∧ dlOk (fpAt fl k) (F k).2)
  (hb1 : ∀ t x,lk t base.fr = some x → (∀ k,k < m → dstAt ops k ≠ some t) ∧ ∀ k,k < m → ∀ d ∈ (fpAt fl k).mks,x.kill d = x)
  (hb2 : ∀ id ob,lk id base.hp = some ob → ∀ k,k < m → ∀ d ∈ (fpAt fl k).mks,d ≠ id ∧ ob.kill d = ob) (hgs : ∀ k,k < m → ∀ d ∈ (fpAt fl k).gn,d ∈ gs)
  (hr : St.runR c.tys c.C N ops (ops.toList.drop m) (base.final ((List.range m).map fun q=>(q,F q)) gs) (K .normal)) : ∀ (fuel : Nat) (listed : Array Bool) (st' : St) (β : Nat → BV) (a : Act) (w : World),listed.size = ops.size →
  (∀ j,m ≤ j → j < ops.size → listed.getD j false = false) → fuel = (List.range ops.size).countP (fun j=>!listed.getD j false) → Closed fl ops.size listed → Sim N X0 M w0 st' β a w →
  (∀ t x,lk t base.fr = some x → (∀ d,(∃ j,j < m ∧ listed.getD j false = true ∧ d ∈ (fpAt fl j).gn) → x.kill d = x) → lk t st'.fr = some x) →
  (∀ k,k < m → listed.getD k false = true → (∀ d,(∃ j,j < m ∧ listed.getD j false = true ∧ d ∈ (fpAt fl j).gn) → (F k).2.x.kill d = (F k).2.x) → lk (F k).1 st'.fr = some (F k).2.x) →
  (∀ id ob,lk id base.hp = some ob → (∀ d,(∃ j,j < m ∧ listed.getD j false = true ∧ d ∈ (fpAt fl j).gn) → d ≠ id ∧ ob.kill d = ob) → lk id st'.hp = some ob) →
  (∀ k,k < m → listed.getD k false = true → ∀ id ob,lk id (F k).2.made = some ob → (∀ d,(∃ j,j < m ∧ listed.getD j false = true ∧ d ∈ (fpAt fl j).gn) → d ≠ id ∧ ob.kill d = ob) → lk id st'.hp = some ob) →
  wpAny c.P .any ops (fun e a' w'=>Ok N X0 M w0 (K e) a' w') fuel listed a w := by
 have hdst : ∀ k,k < m → dstAt ops k = some (F k).1 := fun k hk=>by
  have hks : k < ops.size:=by have := hB.le; omega
  have ho : ops[k]? = some (ops[k]'hks) := Array.getElem?_eq_getElem hks
  have := (hF k _ hk ho).1.1
  unfold dstAt
  rw [ho]; exact this
 have hlast : ∀ (fuel : Nat) (listed : Array Bool) (st' : St) (β : Nat → BV) (a : Act) (w : World),m + fuel = ops.size → listed.size = ops.size → Closed fl ops.size listed → (∀ j,j < ops.size → listed.getD j false = decide (j < m)) → Sim N X0 M w0 st' β a w →
   (∀ t x,lk t base.fr = some x → (∀ d,(∃ j,j < m ∧ listed.getD j false = true ∧ d ∈ (fpAt fl j).gn) → x.kill d = x) → lk t st'.fr = some x) →
   (∀ k,k < m → listed.getD k false = true → (∀ d,(∃ j,j < m ∧ listed.getD j false = true ∧ d ∈ (fpAt fl j).gn) → (F k).2.x.kill d = (F k).2.x) → lk (F k).1 st'.fr = some (F k).2.x) →
   (∀ id ob,lk id base.hp = some ob → (∀ d,(∃ j,j < m ∧ listed.getD j false = true ∧ d ∈ (fpAt fl j).gn) → d ≠ id ∧ ob.kill d = ob) → lk id st'.hp = some ob) →
   (∀ k,k < m → listed.getD k false = true → ∀ id ob,lk id (F k).2.made = some ob → (∀ d,(∃ j,j < m ∧ listed.getD j false = true ∧ d ∈ (fpAt fl j).gn) → d ≠ id ∧ ob.kill d = ob) → lk id st'.hp = some ob) →
   wpAny c.P .any ops (fun e a' w'=>Ok N X0 M w0 (K e) a' w') fuel listed a w := by
  intro fuel listed st' β a w hfu hsz hcl hl hs I1 I2 I3 I4
  refine flow_tail (c := c) hAp hB fuel m listed _ β a w hfu (Nat.le_refl _) hsz hcl hl (hs.less (st' := base.final ((List.range m).map fun q=>(q,F q)) gs) (fun t x hx=>?_) (fun id ob hx=>?_)) hr
  ·obtain ⟨h1,h2⟩ := hide_fr hx
   have hG : ∀ d,(∃ j,j < m ∧ listed.getD j false = true ∧ d ∈ (fpAt fl j).gn) → x.kill d = x := fun d ⟨j,hj,_,hd⟩=>h2 d (hgs j hj d hd)
   rcases lk_app h1 with h1|h1
   ·have hm := lk_mem h1
    simp only [List.map_map,List.mem_map,List.mem_range,Function.comp_apply] at hm
    obtain ⟨k,hk,e⟩ := hm
    injection e with e1 e2
    subst e1 e2
    exact I2 k hk (by rw [hl k (by have := hB.le; omega)]; simpa using hk) hG
   ·exact I1 t x h1 hG
  ·obtain ⟨h1,h2⟩ := hide_hp hx
   have hG : ∀ d,(∃ j,j < m ∧ listed.getD j false = true ∧ d ∈ (fpAt fl j).gn) → d ≠ id ∧ ob.kill d = ob := fun d ⟨j,hj,_,hd⟩=>h2 d (hgs j hj d hd)
   rcases lk_app h1 with h1|h1
   ·obtain ⟨e,he,h3⟩ := lk_flatMap h1
    obtain ⟨k,hk,rfl⟩ := List.mem_map.1 he
    have hk := List.mem_range.1 hk
    exact I4 k hk (by rw [hl k (by have := hB.le; omega)]; simpa using hk) id ob h3 hG
   ·exact I3 id ob h1 hG
 intro fuel
 induction fuel with
 |zero =>
  intro listed st' β a w hsz hsuf hf hcl hs I1 I2 I3 I4
  have hall : ∀ j,j < ops.size → listed.getD j false = true := fun j hj=>by
   have : (List.range ops.size).countP (fun j=>!listed.getD j false) = 0 := hf.symm
   rw [List.countP_eq_zero] at this
   have := this j (List.mem_range.2 hj)
   simpa using this
  have hm : m = ops.size := by
   rcases Nat.lt_or_ge m ops.size with h|h
   ·have := hall m h; rw [hsuf m (Nat.le_refl _) h] at this; cases this
   ·have := hB.le; omega
  exact hlast 0 listed st' β a w (by omega) hsz hcl (fun j hj=>by rw [hall j hj]; simp; omega) hs I1 I2 I3 I4
 |succ fuel ih =>
  intro listed st' β a w hsz hsuf hf hcl hs I1 I2 I3 I4
  have hgT : ∀ j,j < ops.size → listed.getD j true = listed.getD j false := fun j hj=>by
   rw [Array.getD_eq_getD_getElem?,Array.getD_eq_getD_getElem?,Array.getElem?_eq_getElem (by omega)]; rfl
  have hex : ∃ p,p < ops.size ∧ listed.getD p false = false := by
   have h1 : 0 < (List.range ops.size).countP (fun j=>!listed.getD j false):=by omega
   obtain ⟨p,hp,hq⟩ := List.countP_pos_iff.1 h1
   exact ⟨p,List.mem_range.1 hp,by simpa using hq⟩
  obtain ⟨p,⟨hp,hpf⟩,hmin⟩ := least hex
  have hrdy : p ∈ Region.ready .any ops listed := mem_ready'.2 ⟨hp,by rw [hgT p hp]; exact hpf,_,Array.getElem?_eq_getElem hp,deps_ready (i := p) (ops := ops) fun e he=>by
   have hlt := hB.back p _ (Array.getElem?_eq_getElem hp) e he
   cases hh : listed.getD e false with
   |true=>rfl
   |false=>have := hmin e ⟨by omega,hh⟩; omega⟩
  have hwhole : (∀ j,j < m → listed.getD j false = true) → wpAny c.P .any ops (fun e a' w'=>Ok N X0 M w0 (K e) a' w') (fuel + 1) listed a w := fun hbefore=>by
   have hl : ∀ j,j < ops.size → listed.getD j false = decide (j < m) := fun j hj=>by
    rcases Nat.lt_or_ge j m with h|h
    ·rw [hbefore j h]; simp [h]
    ·rw [hsuf j h hj]; simp; omega
   have hcount : fuel + 1 = ops.size - m := by
    rw [hf]
    have : (List.range ops.size).countP (fun j=>!listed.getD j false) = (List.range ops.size).countP (fun j=>decide (m ≤ j)) := by
     apply List.countP_congr
     intro j hj
     rw [hl j (List.mem_range.1 hj)]
     simp
    rw [this]
    have key : ∀ n,(List.range n).countP (fun j=>decide (m ≤ j)) = n - m := by
     intro n
     induction n with
     |zero=>simp
     |succ n ihn =>
      rw [List.range_succ,List.countP_append,ihn]
      by_cases hh : m ≤ n
      ·simp [hh]; omega
      ·simp [hh]; omega
    exact key _
   exact hlast (fuel + 1) listed st' β a w (by have := hB.le; omega) hsz hcl hl hs I1 I2 I3 I4
  refine ⟨fun h=>(by rw [h] at hrdy; cases hrdy),fun i hi=>?_⟩
  obtain ⟨h1,h2,o,hoi,h3⟩ := mem_ready'.1 hi
  rw [hgT i h1] at h2
  rcases Nat.lt_or_ge i m with him|him
  ·-- one of the first m
   obtain ⟨hd,hlks,hok⟩ := hF i o him hoi
   have hanc := hcl.anc hB hoi h3
   have hGx : ∀ d,(∃ j,j < m ∧ listed.getD j false = true ∧ d ∈ (fpAt fl j).gn) → d ∈ (fpAt fl i).gx := fun d ⟨j,hj,hlj,hd⟩ =>
    hB.gx i j him hj (fun e=>by subst e; rw [h2] at hlj; cases hlj) (fun ha=>by have := hcl j (by have := hB.le; omega) hlj i ha; rw [h2] at this; cases this) d hd
   have hWf : ∀ t x,lk t (base.least ((List.range i).map fun q=>(q,F q)) (fpAt fl i)).fr = some x → lk t st'.fr = some x := fun t x hx=>by
    obtain ⟨e1,e2⟩ := hide_fr hx
    have hG : ∀ d,(∃ j,j < m ∧ listed.getD j false = true ∧ d ∈ (fpAt fl j).gn) → x.kill d = x := fun d hd=>e2 d (hGx d hd)
    rcases lk_app e1 with e1|e1
    ·have hm := lk_mem e1
     obtain ⟨e,he,e3⟩ := List.mem_map.1 hm
     obtain ⟨he1,he2⟩ := List.mem_filter.1 he
     obtain ⟨k,hk,rfl⟩ := List.mem_map.1 he1
     injection e3 with e4 e5
     subst e4 e5
     exact I2 k (by have := List.mem_range.1 hk; omega) (hanc k (List.contains_iff_mem.1 he2)) hG
    ·exact I1 t x e1 hG
   have hWh : ∀ id ob,lk id (base.least ((List.range i).map fun q=>(q,F q)) (fpAt fl i)).hp = some ob → lk id st'.hp = some ob := fun id ob hx=>by
    obtain ⟨e1,e2⟩ := hide_hp hx
    have hG : ∀ d,(∃ j,j < m ∧ listed.getD j false = true ∧ d ∈ (fpAt fl j).gn) → d ≠ id ∧ ob.kill d = ob := fun d hd=>e2 d (hGx d hd)
    rcases lk_app e1 with e1|e1
    ·obtain ⟨e,he,e3⟩ := lk_flatMap e1
     obtain ⟨he1,he2⟩ := List.mem_filter.1 he
     obtain ⟨k,hk,rfl⟩ := List.mem_map.1 he1
     exact I4 k (by have := List.mem_range.1 hk; omega) (hanc k (List.contains_iff_mem.1 he2)) id ob e3 hG
    ·exact I3 id ob e1 hG
   have hd' : st'.dlt c.tys c.C N ops o (F i).1 (F i).2 := dlt_mono (fun t ht=>by
    have := List.all_eq_true.1 hlks t (hB.looks i o him hoi t ht)
    obtain ⟨x,hx⟩ := Option.isSome_iff_exists.1 this
    unfold St.get
    rw [hx,hWf t x hx]) hWh hd
   have hst := dlt_sound (Q := fun e a' w'=>Ok N X0 M w0 (K e) a' w') hAp c.hty c.hC hs (ops := ops) hd'
   obtain ⟨k1,k2,k3,k4⟩ := hok
   have hids : (F i).2.ids = (fpAt fl i).mks ++ (fpAt fl i).gn:=by unfold Dl.ids; rw [k1,k2]
   have hmade : ∀ id,id ∉ (fpAt fl i).mks → lk id (F i).2.made = none := fun id hid=>lk_none (by rw [k2]; exact hid)
   have havk : ∀ k,k < m → k ≠ i → listed.getD k false = true → ∀ d ∈ (fpAt fl i).mks,d ∈ (fpAt fl k).av := fun k hk hne hlk d hd =>
    hB.av k i hk him (Ne.symm hne) (fun ha=>by have := hcl k (by have := hB.le; omega) hlk i ha; rw [h2] at this; cases this) d hd
   have hG' : ∀ {Q : Nat → Prop},(∀ d,(∃ j,j < m ∧ (listed.setIfInBounds i true).getD j false = true ∧ d ∈ (fpAt fl j).gn) → Q d) → (∀ d,(∃ j,j < m ∧ listed.getD j false = true ∧ d ∈ (fpAt fl j).gn) → Q d) ∧ ∀ d ∈ (fpAt fl i).gn,Q d := fun {Q} hq =>
    ⟨fun d ⟨j,hj,hlj,hd⟩=>hq d ⟨j,hj,by rw [getD_set _ _ _ _ (by omega)]; split <;> first|rfl|exact hlj,hd⟩,fun d hd=>hq d ⟨i,him,by rw [getD_set _ _ _ _ (by omega),if_pos rfl],hd⟩⟩
   have hnext : ∀ a' w',Ok N X0 M w0 (fun st2=>st2 = st'.dapp (F i).1 (F i).2) a' w' → wpAny c.P .any ops (fun e a' w'=>Ok N X0 M w0 (K e) a' w') fuel (listed.setIfInBounds i true) a' w' := fun a' w' hk=>by
    obtain ⟨st2,β',rfl,h5⟩ := hk
    refine ih _ _ β' a' w' (by simpa using hsz) (fun j hj hjn=>?_) ?_ (hcl.step hB hsz hoi h3) h5 (fun t x hx hG=>?_) (fun k hk hlk hG=>?_) (fun id ob hx hG=>?_) (fun k hk hlk id ob hx hG=>?_)
    ·rw [getD_set _ _ _ _ (by omega),if_neg (by omega)]; exact hsuf j hj hjn
    ·have := count_set hsz h1 h2; omega
    ·obtain ⟨g1,g2⟩ := hG' hG
     obtain ⟨q1,q2⟩ := hb1 t x hx
     have hne : t ≠ (F i).1 := fun e=>q1 i him (by rw [hdst i him,e])
     simp only [St.dapp,lk,if_neg hne,lk_er_ne hne]
     refine killL_keep (fun d hd=>?_) (I1 t x hx g1)
     rw [hids] at hd
     rcases List.mem_append.1 hd with h|h
     ·exact q2 i him d h
     ·exact g2 d h
    ·obtain ⟨g1,g2⟩ := hG' hG
     by_cases hki : k = i
     ·subst hki; simp [St.dapp,lk]
     ·rw [getD_set _ _ _ _ (by omega),if_neg hki] at hlk
      have hne : (F k).1 ≠ (F i).1 := fun e=>hB.apart i k him hk (Ne.symm hki) (by rw [hdst i him,hdst k hk,e])
      simp only [St.dapp,lk,if_neg hne,lk_er_ne hne]
      refine killL_keep (fun d hd=>?_) (I2 k hk hlk g1)
      rw [hids] at hd
      rcases List.mem_append.1 hd with h|h
      ·have hks : k < ops.size:=by have := hB.le; omega
       exact refs_kill (havk k hk hki hlk d h) (hF k _ hk (Array.getElem?_eq_getElem hks)).2.2.2.2.1
      ·exact g2 d h
    ·obtain ⟨g1,g2⟩ := hG' hG
     have q := hb2 id ob hx i him
     have hnm : id ∉ (fpAt fl i).mks := fun hin=>(q id hin).1 rfl
     show lk id ((F i).2.made ++ _) = _
     rw [lk_append,hmade id hnm]
     refine killL_keepO (fun d hd=>?_) (I3 id ob hx g1)
     rw [hids] at hd
     rcases List.mem_append.1 hd with h|h
     ·exact q d h
     ·exact g2 d h
    ·obtain ⟨g1,g2⟩ := hG' hG
     show lk id ((F i).2.made ++ _) = _
     by_cases hki : k = i
     ·subst hki; rw [lk_append,hx]; rfl
     ·rw [getD_set _ _ _ _ (by omega),if_neg hki] at hlk
      have hks : k < ops.size:=by have := hB.le; omega
      have hokk := (hF k _ hk (Array.getElem?_eq_getElem hks)).2.2
      have hidk : id ∈ (fpAt fl k).mks:=by rw [← hokk.2.1]; exact List.mem_map.2 ⟨(id,ob),lk_mem hx,rfl⟩
      have hnm : id ∉ (fpAt fl i).mks := hB.mks i k him hk hki id hidk
      rw [lk_append,hmade id hnm]
      refine killL_keepO (fun d hd=>?_) (I4 k hk hlk id ob hx g1)
      rw [hids] at hd
      rcases List.mem_append.1 hd with h|h
      ·refine ⟨fun e=>hnm (e ▸ h),Ob.refs_kill (havk k hk hki hlk d h) ?_⟩
       have := List.all_eq_true.1 hokk.2.2.2 (id,ob) (lk_mem hx)
       simpa using this
      ·exact g2 d h
   unfold wpOp
   rw [hoi]
   simp only
   split
   ·rename_i hw; rw [if_pos hw] at hst; exact .inl (Oper.wp_mono hnext hst)
   ·rename_i hw; rw [if_neg hw] at hst; exact hnext _ _ hst
  ·-- all of the first m have come up
   exact (hwhole fun j hj=>hcl.anc hB hoi h3 j (hB.tail i o him hoi j (by omega))).2 i hi
theorem WP.flow {id : Nat} {l : List Oper} {st : St} (m : Nat) (fl : List Fp) (ds mks gs : List Nat) (hB : flowB l.toArray m fl = true)
  (hD : ((List.range m).all fun k=>match dstAt l.toArray k with|some d=>ds.contains d|none=>false) = true)
  (hM : ((List.range m).all fun k=>((fpAt fl k).mks.all fun d=>mks.contains d) && ((fpAt fl k).gn.all fun d=>gs.contains d)) = true) (hm : c.P.follows .mixedOrders = true)
  (h : St.runF c.tys c.C N l.toArray fl (st.clean ds mks) (l.take m) 0 [] fun acc=>St.runR c.tys c.C N l.toArray (l.drop m) ((st.clean ds mks).final acc gs) (K .normal)) : WP c N X0 M w0 (.region id l.toArray true) st K := by
 intro hA β a w hs
 have hD0 := flowB_ok hB
 obtain ⟨F,h1,h2⟩ := runF_acc _ _ _ h
 have hlen : (l.take m).length = m := by
  have := hD0.le
  simp at this ⊢
  omega
 rw [hlen] at h1
 simp only [List.nil_append,Nat.zero_add] at h1 h2
 have hcl0 : ∀ t x,lk t (st.clean ds mks).fr = some x → lk t st.fr = some x ∧ t ∉ ds ∧ ∀ d ∈ mks,x.kill d = x := fun t x hx=>by
  obtain ⟨e1,e2⟩ := hide_fr hx
  obtain ⟨e3,e4⟩ := offK_lk e1
  exact ⟨e3,e4,e2⟩
 have hMk : ∀ k,k < m → (∀ d ∈ (fpAt fl k).mks,d ∈ mks) ∧ ∀ d ∈ (fpAt fl k).gn,d ∈ gs := fun k hk=>by
  have := List.all_eq_true.1 hM k (List.mem_range.2 hk)
  simp only [Bool.and_eq_true,List.all_eq_true] at this
  exact ⟨fun d hd=>List.contains_iff_mem.1 (this.1 d hd),fun d hd=>List.contains_iff_mem.1 (this.2 d hd)⟩
 refine wp_region_any hm (flow_head (c := c) (K := K) hA hD0 (base := st.clean ds mks) (F := F) (gs := gs) (fun k o hk ho=>?_) (fun t x hx=>⟨fun k hk e=>?_,fun k hk d hd=>(hcl0 t x hx).2.2 d ((hMk k hk).1 d hd)⟩) (fun t ob hx k hk d hd=>(hide_hp hx).2 d ((hMk k hk).1 d hd)) (fun k hk=>(hMk k hk).2) ?_
  l.toArray.size (Array.replicate l.toArray.size false) (st.clean ds mks) β a _ (by simp) (fun j _ hj=>?_) ?_ (fun b hb hl=>?_) ?_ (fun t x hx _=>hx) (fun k hk hl=>?_) (fun t ob hx _=>hx) (fun k hk hl=>?_))
 ·have : (l.take m)[k]? = some o:=by rw [List.getElem?_take_of_lt hk]; simpa using ho
  exact h2 k o this
 ·have := List.all_eq_true.1 hD k (List.mem_range.2 hk)
  rw [e] at this
  exact (hcl0 t x hx).2.1 (List.contains_iff_mem.1 this)
 ·exact h1
 ·rw [Array.getD_eq_getD_getElem?,Array.getElem?_replicate]; split <;> rfl
 ·have : (List.range l.toArray.size).countP (fun j=>!(Array.replicate l.toArray.size false).getD j false) = (List.range l.toArray.size).countP (fun _=>true) := by
   apply List.countP_congr
   intro j hj
   rw [Array.getD_eq_getD_getElem?,Array.getElem?_replicate]; split <;> simp
  rw [this]; simp
 ·rw [Array.getD_eq_getD_getElem?,Array.getElem?_replicate] at hl
  split at hl <;> cases hl
 ·exact (hs.grow ((Go.RowKit.Below.refl _ _).drew) (fun b _ hb=>.inl hb) hs.x0).less (fun t x hx=>(hcl0 t x hx).1) (fun t ob hx=>(hide_hp hx).1)
 ·rw [Array.getD_eq_getD_getElem?,Array.getElem?_replicate] at hl
  split at hl <;> cases hl
 ·rw [Array.getD_eq_getD_getElem?,Array.getElem?_replicate] at hl
  split at hl <;> cases hl
end
end Go.Vc

namespace Go.Vc
def St.dltK (tys : List (Nat × TyD)) (C : List (FuncId × Ctr)) (N : Nat) (ops : Array Oper) (o : Oper) (st : St) (K : Nat → Dl → Prop) : Prop :=
 match o.dst with
 |none=>False
 |some d=>match o.guard with
  |some _=>st.stepV tys C N ops o fun x=>K d ⟨x,[],[]⟩
  |none=>match o.op with
   | .alloc T=>match lk T tys with
    |some t=>dstOk N o.dst = true ∧ t.z.all Value.oneCell' = true ∧ K d ⟨.ptr d 0 0 0,[(d,.box T (t.z.map .v))],[]⟩
    |none=>False
   | .box T x=>dstOk N o.dst = true ∧ (st.ev x).need ∧ (st.ev x).strip.cells.all SV.one = true ∧ (st.ev x).strip.cells.map (SV.kill d) = (st.ev x).strip.cells ∧ K d ⟨.ptr d 0 0 0,[(d,.box T (st.ev x).strip.cells)],[]⟩
   | .buildSlice T n parts=>match partIds st parts.toList with
    | _ :: _=>dstOk N o.dst = true ∧ (match st.deepQ tys o with
    |some (p,ob,is)=>p ∧ K d ⟨.own d,[(d,ob)],is⟩
    |none=>False)
    | []=>match lk T tys with
    |some t=>match lk t.elem tys with
     |some e=>dstOk N o.dst = true ∧ t.kind = 1 ∧ 0 < e.size ∧ n * e.size ≤ 16777216 ∧ e.z.length = e.size ∧ e.z.all Value.oneCell' = true ∧ partsIn st n e.size parts.toList ∧
       K d ⟨.own d,[(d,.sl t.elem e.size (rowsIn st (e.z.map .v) parts.toList (List.replicate n (e.z.map .v))))],[]⟩
     |none=>False
    |none=>False
   | .slice T x lo hi mx=>match (st.ev x).strip.ownId with
    | _ :: _=>dstOk N o.dst = true ∧ (match st.cutQ tys o with
     |some (p,ob,is)=>p ∧ K d ⟨.own d,[(d,ob)],is⟩
     |none=>False)
    | []=>st.stepV tys C N ops o fun x=>K d ⟨x,[],[]⟩
   | .makeSlice T l c=>match lk T tys,(st.ev l).strip,(st.ev c).strip with
    |some t,.v (.int .i64 n),.v (.int .i64 m)=>match lk t.elem tys with
     |some e=>dstOk N o.dst = true ∧ t.kind = 1 ∧ (st.ev l).need ∧ (st.ev c).need ∧ 0 ≤ n ∧ n ≤ m ∧ m * (e.bytes : Int) ≤ 281474976710656 ∧ 0 < e.bytes ∧ e.z.length = e.size ∧ e.z.all Value.oneCell' = true ∧
       K d ⟨.own d,[(d,.sl t.elem e.size (List.replicate n.toNat (e.z.map .v)))],[]⟩
     |none=>False
    | _,_,_=>False
   | .call c=>match c.callee with
    | .value x=>match st.ev x with
     | .fn f caps=>match lk f C with
      |some ctr=>dstOk N o.dst = true ∧ ctr.isL = false ∧ (match ctr.pure d ((st.argL c caps).map (SV.share st.hp)) with
       | (ob,res,robs)=>ob ∧ (∀ y ∈ c.args.toList,(st.ev y).need) ∧ ((st.argL c caps).all fun y=>(y.share st.hp).good) = true ∧ res.rok = true ∧ (res.owns2.all fun i=>(robs.map (·.1)).contains i) = true ∧
        nodupN (robs.map (·.1)) = true ∧ ((robs.map (·.1)).all fun i=>decide (i < 1000000)) = true ∧ (robs.all fun p=>p.2.pl) = true ∧
        (((st.argL c caps).flatMap SV.owns) = [] ∨ (res.isV2 = true ∧ ∀ p ∈ robs,p.2.isV)) ∧ K d ⟨res,robs,[]⟩)
      |none=>False
     | _=>False
    | .builtin .append=>match st.dpArg c with
     |true=>dstOk N o.dst = true ∧ (match st.deepQ tys o with
     |some (p,ob,is)=>p ∧ K d ⟨.own d,[(d,ob)],is⟩
     |none=>False)
     |false=>match c.args.toList,c.argTypes.toList with
     | [x,y],[T,T']=>match lk T tys,st.rowsOf (st.ev y).strip with
      |some t,some news=>match lk t.elem tys with
       |some e=>dstOk N o.dst = true ∧ T = T' ∧ t.kind = 1 ∧ (st.ev x).need ∧ (st.ev y).need ∧ 0 < e.size ∧ 0 < e.bytes ∧ e.z.length = e.size ∧
        (match (st.ev x).strip with
        | .own j=>match lk j st.hp with
         |some (.sl e' s' rows)=>j < 1000000 ∧ j ≠ d ∧ e' = t.elem ∧ s' = e.size ∧ (rows.length + news.length) * e.bytes ≤ 140737488355328 ∧ (∀ row ∈ news,row.length = e.size) ∧ K d ⟨.own d,[(d,.sl e' s' (rows ++ news))],[j]⟩
         | _=>False
        | .v (.slice none 0 0)=>news.length * e.bytes ≤ 140737488355328 ∧ (∀ row ∈ news,row.length = e.size) ∧ K d ⟨.own d,[(d,.sl t.elem e.size news)],[]⟩
        | _=>False)
       |none=>False
      | _,_=>False
     | _,_=>False
    | _=>st.stepV tys C N ops o fun x=>K d ⟨x,[],[]⟩
   | _=>st.stepV tys C N ops o fun x=>K d ⟨x,[],[]⟩
theorem dltK_ex {tys : List (Nat × TyD)} {C : List (FuncId × Ctr)} {N : Nat} {ops : Array Oper} {o : Oper} {st : St} {K : Nat → Dl → Prop} (h : st.dltK tys C N ops o K) : ∃ d δ,st.dlt tys C N ops o d δ ∧ K d δ := by
 unfold St.dltK at h
 cases hod : o.dst with
 |none=>rw [hod] at h; exact h.elim
 |some d =>
  rw [hod] at h
  simp only at h
  have val : (st.stepV tys C N ops o fun x=>K d ⟨x,[],[]⟩) → ∃ d δ,st.dlt tys C N ops o d δ ∧ K d δ := fun hv=>by
   obtain ⟨x,h1,h2⟩ := stepV_val hv
   exact ⟨d,_,⟨hod,.inl ⟨h1,rfl,rfl⟩⟩,h2⟩
  cases hg : o.guard with
  |some g=>rw [hg] at h; exact val h
  |none =>
   rw [hg] at h
   simp only at h
   cases ho : o.op with
   |alloc T =>
    rw [ho] at h
    simp only at h
    split at h
    case h_2=>exact h.elim
    case h_1 _ t ht =>
     refine ⟨d,_,⟨hod,.inr (.inl ⟨hg,by rw [hod]; exact h.1,?_⟩)⟩,h.2.2⟩
     rw [ho]
     simp only [ht]
     exact ⟨h.2.1,trivial⟩
   |slice T x lo hi mx =>
    rw [ho] at h
    simp only at h
    split at h
    ·obtain ⟨h0,h⟩ := h
     split at h
     ·rename_i p ob is hq
      exact ⟨d,_,⟨hod,.inr (.inr ⟨hg,by rw [hod]; exact h0,p,ob,is,by unfold St.deepC; rw [ho]; exact hq,h.1,rfl⟩)⟩,h.2⟩
     ·exact h.elim
    ·exact val h
   |box T x =>
    rw [ho] at h
    simp only at h
    refine ⟨d,_,⟨hod,.inr (.inl ⟨hg,by rw [hod]; exact h.1,?_⟩)⟩,h.2.2.2.2⟩
    rw [ho]
    exact ⟨h.2.1,h.2.2.1,h.2.2.2.1,rfl⟩
   |buildSlice T n parts =>
    rw [ho] at h
    simp only at h
    split at h
    ·obtain ⟨h0,h⟩ := h
     split at h
     ·rename_i p ob is hq
      exact ⟨d,_,⟨hod,.inr (.inr ⟨hg,by rw [hod]; exact h0,p,ob,is,deepC_of hq,h.1,rfl⟩)⟩,h.2⟩
     ·exact h.elim
    split at h
    case h_2=>exact h.elim
    case h_1 _ t ht =>
     split at h
     case h_2=>exact h.elim
     case h_1 _ e he =>
      obtain ⟨h0,h1,h2,h3,h4,h5,h6,h7⟩ := h
      refine ⟨d,_,⟨hod,.inr (.inl ⟨hg,by rw [hod]; exact h0,?_⟩)⟩,h7⟩
      rw [ho]
      simp only [ht,he]
      exact ⟨h1,h2,h3,h4,h5,h6,trivial⟩
   |makeSlice T l cc =>
    rw [ho] at h
    simp only at h
    split at h
    case h_2=>exact h.elim
    case h_1 _ _ _ t n m ht hl hc =>
     split at h
     case h_2=>exact h.elim
     case h_1 _ e he =>
      obtain ⟨h0,h1,h2,h3,h4,h5,h6,h7,h8,h9,h10⟩ := h
      refine ⟨d,_,⟨hod,.inr (.inl ⟨hg,by rw [hod]; exact h0,?_⟩)⟩,h10⟩
      rw [ho]
      simp only [ht,hl,hc,he]
      exact ⟨h1,h2,h3,h4,h5,h6,h7,h8,h9,trivial⟩
   |call c =>
    rw [ho] at h
    simp only at h
    cases hc : c.callee with
    |value x =>
     rw [hc] at h
     simp only at h
     split at h
     case h_2=>exact h.elim
     case h_1 _ f caps hf =>
      split at h
      case h_2=>exact h.elim
      case h_1 _ ctr hctr =>
       obtain ⟨h0,h1,h⟩ := h
       have hdl : ∀ {δ : Dl},(match ctr.pure d ((st.argL c caps).map (SV.share st.hp)) with
         | (ob,res,robs)=>ob ∧ (∀ y ∈ c.args.toList,(st.ev y).need) ∧ ((st.argL c caps).all fun y=>(y.share st.hp).good) = true ∧ res.rok = true ∧ (res.owns2.all fun i=>(robs.map (·.1)).contains i) = true ∧
          nodupN (robs.map (·.1)) = true ∧ ((robs.map (·.1)).all fun i=>decide (i < 1000000)) = true ∧ (robs.all fun p=>p.2.pl) = true ∧
          (((st.argL c caps).flatMap SV.owns) = [] ∨ (res.isV2 = true ∧ ∀ p ∈ robs,p.2.isV)) ∧ δ = ⟨res,robs,[]⟩) → st.dlt tys C N ops o d δ := fun {δ} hq=>by
        refine ⟨hod,.inr (.inl ⟨hg,by rw [hod]; exact h0,?_⟩)⟩
        rw [ho]
        simp only [hc,hf,hctr]
        exact ⟨h1,hq⟩
       obtain ⟨g1,g2,g3,g4,g5,g6,g7,g8,g9,g10⟩ := h
       have hq := hdl (δ := ⟨(ctr.pure d ((st.argL c caps).map (SV.share st.hp))).2.1,(ctr.pure d ((st.argL c caps).map (SV.share st.hp))).2.2,[]⟩) ⟨g1,g2,g3,g4,g5,g6,g7,g8,g9,rfl⟩
       exact ⟨d,_,hq,g10⟩
    |invoke r q=>rw [hc] at h; exact val h
    |builtin b =>
     rw [hc] at h
     cases b <;> first|exact val h|skip
     simp only at h
     split at h
     ·obtain ⟨h0,h⟩ := h
      split at h
      ·rename_i p ob is hq
       exact ⟨d,_,⟨hod,.inr (.inr ⟨hg,by rw [hod]; exact h0,p,ob,is,deepC_of hq,h.1,rfl⟩)⟩,h.2⟩
      ·exact h.elim
     split at h
     case h_2=>exact h.elim
     case h_1 _ _ x y T T' ha hAt =>
      split at h
      case h_2=>exact h.elim
      case h_1 _ _ t news ht hnr =>
       split at h
       case h_2=>exact h.elim
       case h_1 _ e he =>
        obtain ⟨h0,h1,h2,h3,h4,h5,h6,h7,h⟩ := h
        split at h
        case h_3=>exact h.elim
        case h_1 _ j hj =>
         split at h
         case h_2=>exact h.elim
         case h_1 _ e' s' rows hl =>
          obtain ⟨g1,g2,g3,g4,g5,g6,g7⟩ := h
          refine ⟨d,_,⟨hod,.inr (.inl ⟨hg,by rw [hod]; exact h0,?_⟩)⟩,g7⟩
          rw [ho]
          simp only [hc,ha,hAt,ht,hnr,he,hj,hl]
          exact ⟨h1,h2,h3,h4,h5,h6,h7,g1,g2,g3,g4,g5,g6,trivial⟩
        case h_2 _ hj =>
         obtain ⟨g5,g6,g7⟩ := h
         refine ⟨d,_,⟨hod,.inr (.inl ⟨hg,by rw [hod]; exact h0,?_⟩)⟩,g7⟩
         rw [ho]
         simp only [hc,ha,hAt,ht,hnr,he,hj]
         exact ⟨h1,h2,h3,h4,h5,h6,h7,g5,g6,trivial⟩
   | _=>rw [ho] at h; exact val h
def St.runG (tys : List (Nat × TyD)) (C : List (FuncId × Ctr)) (N : Nat) (ops : Array Oper) (fl : List Fp) (base : St) : List Oper → Nat → Acc → (Acc → Prop) → Prop
 | [],_,acc,K=>K acc
 |o :: l,i,acc,K=>(base.least acc (fpAt fl i)).dltK tys C N ops o fun d δ=>((fpAt fl i).lks.all fun t=>(lk t (base.least acc (fpAt fl i)).fr).isSome) = true ∧ dlOk (fpAt fl i) δ ∧ St.runG tys C N ops fl base l (i + 1) (acc ++ [(i,d,δ)]) K
theorem runF_of_runG {tys : List (Nat × TyD)} {C : List (FuncId × Ctr)} {N : Nat} {ops : Array Oper} {fl : List Fp} {base : St} {K : Acc → Prop} : ∀ (l : List Oper) (i : Nat) (acc : Acc),St.runG tys C N ops fl base l i acc K → St.runF tys C N ops fl base l i acc K
 | [],_,_,h=>h
 |o :: l,i,acc,h=>by
  obtain ⟨d,δ,h1,h2,h3,h4⟩ := dltK_ex h
  exact ⟨d,δ,h1,h2,h3,runF_of_runG l (i + 1) _ h4⟩
theorem zF {c : Cx} {N : Nat} {X0 : Nat → Prop} {M : Nat → BV → Prop} {w0 : World} {K : Exit → St → Prop} {id : Nat} {l : List Oper} {st : St} (m : Nat) (fl : List Fp) (ds mks gs : List Nat) (hB : flowB l.toArray m fl = true)
  (hD : ((List.range m).all fun k=>match dstAt l.toArray k with|some d=>ds.contains d|none=>false) = true)
  (hM : ((List.range m).all fun k=>((fpAt fl k).mks.all fun d=>mks.contains d) && ((fpAt fl k).gn.all fun d=>gs.contains d)) = true) (hm : c.P.follows .mixedOrders = true)
  (h : St.runG c.tys c.C N l.toArray fl (st.clean ds mks) (l.take m) 0 [] fun acc=>St.runR c.tys c.C N l.toArray (l.drop m) ((st.clean ds mks).final acc gs) (K .normal)) : WP c N X0 M w0 (.region id l.toArray true) st K :=
 WP.flow m fl ds mks gs hB hD hM hm (runF_of_runG _ _ _ h)
end Go.Vc

namespace Go.Vc
attribute [go_sem] St.runR St.runW St.stepV offV St.step St.stepU St.stepG mkCond guardB St.prK St.pr St.prLen St.eff St.callE St.callD St.callF St.callL aI aS aR aC St.isM St.argL Ctr.pure Ctr.lend Ctr.move Ctr.isL Ctr.wri pur len lentBy St.lentV St.lent1 nthS argsR restOf obsR pairs swapL unObs backL St.resL erL SV.ren1 SV.up SV.up2 Ob.up St.fzL cellIds partIds St.intoRow SV.ownId St.fz SV.fz1 St.prep St.mvL St.mv SV.re1 rnOk St.prEq vals eqCells scEq Value.kd St.prStr St.prCut cutR St.bnd St.prMin St.bld isShift outL retL outJ oR oC oE oD SV.upq SV.isSl SV.shut St.deepK St.dpArg St.deepQ absC Ob.pl St.ev St.get St.put St.new St.kill SV.kill SV.kill1 Ob.kill St.app St.wrt St.rowsOf St.res St.killL lk er argsL SV.strip SV.need SV.share SV.share1 SV.owns SV.owns1 SV.owns2 SV.good SV.good1 SV.rok SV.rok1 SV.rok2 SV.isV SV.isV2 nodupN SV.cells SV.one SV.pur Ob.pb partsIn rowsIn splice cellsAt dstOk scal2 scal1 thenK blockK retK outK outs okC okL okA okT nilC nilL nilA nilT keepC keepL keepA keepT St.runG St.dltK St.least St.clean St.final St.hide offK badS badO SV.refs SV.leaf SV.leaf2 Ob.refs dlOk fpAt Go.Vc.cover tups SV.ofAgg St.out outC subL St.has rng wr Value.oneCell' Option.isSome_some Option.isSome_none List.nil_append Bool.false_eq_true List.map_cons List.map_nil List.all_cons List.all_nil List.length_cons List.length_nil List.drop_zero List.drop_succ_cons List.take_succ_cons List.take_zero List.drop_nil List.take_nil List.getElem?_cons_zero List.getElem?_cons_succ List.getElem?_nil List.cons_append List.nil_append List.append_nil List.append_assoc List.flatMap_cons List.flatMap_nil List.contains_cons List.contains_nil List.set_cons_zero List.set_cons_succ List.getElem?_toArray Option.getD_some Option.getD_none Option.map_some Option.map_none Option.bind_some Option.some.injEq Prod.mk.injEq if_true if_false true_and and_true and_self and_false false_and Bool.and_false Bool.false_and Bool.or_true Bool.true_or Bool.or_false Bool.false_or ne_eq not_true_eq_false not_false_eq_true decide_true decide_false List.mem_cons List.not_mem_nil List.filter_cons List.filter_nil List.any_cons List.any_nil List.isEmpty_nil List.isEmpty_cons Option.getD_none or_false false_or true_or or_true forall_eq_or_imp forall_eq reduceCtorEq exists_eq exists_eq' exists_eq_left' exists_eq_left exists_eq_right exists_eq_right' imp_self implies_true Bool.and_true Bool.true_and Bool.and_self beq_self_eq_true List.replicate_succ List.replicate_zero forall_const false_implies pickB_or pickB_and beqT beqF Int.toNat_natCast List.length_map List.length_replicate ge_iff_le gt_iff_lt decide_eq_true_eq decide_eq_false_iff_not Bool.and_eq_true Bool.or_eq_true Bool.not_eq_true' Bool.not_eq_false' condG List.toList_toArray Bool.or_eq_false_iff Bool.and_eq_false_iff Int.not_lt Int.not_le beq_iff_eq beq_eq_false_iff_ne bne_iff_ne bne_eq_false_iff_eq ne_eq Bool.not_true Bool.not_false exists_and_left
attribute [go_sem] Nat.reduceAdd Nat.reduceLT Nat.reduceLeDiff Nat.reduceEqDiff Nat.reduceMul Nat.reduceSub Nat.reduceGT reduceIte Int.reduceNeg Int.reduceToNat
end Go.Vc

namespace Go.Proofs.YtjjbcoigaejoaaaGreat
open Go.Vc
def td2 : TyD := { kind := 4,size := 1,bytes := 8,z := [.int .i64 0],ik := some .i64 } -- int64
def td3 : TyD := { kind := 4,size := 1,bytes := 8,z := [.int .i64 0],ik := some .i64 } -- int
def td4 : TyD := { kind := 5,size := 1,bytes := 1,z := [.bool false] } -- bool
def td5 : TyD := { kind := 4,size := 1,bytes := 1,z := [.int .u8 0],ik := some .u8 } -- uint8
def td9 : TyD := { kind := 2,size := 1,bytes := 16,z := [.string ⟨#[]⟩] } -- string
def td12 : TyD := { kind := 4,size := 1,bytes := 8,z := [.int .u64 0],ik := some .u64 } -- uintptr
def td21 : TyD := { kind := 4,size := 1,bytes := 4,z := [.int .i32 0],ik := some .i32 } -- int32
def td22 : TyD := { kind := 1,size := 1,bytes := 24,z := [.slice none 0 0],elem := 43 } -- []laws.Line
def td24 : TyD := { kind := 1,size := 1,bytes := 24,z := [.slice none 0 0],elem := 96 } -- []impl.Node
def td26 : TyD := { kind := 3,size := 1,bytes := 24,z := [.slice none 0 0],offs := [(0,1)] } -- impl.Stacks
def td27 : TyD := { kind := 1,size := 1,bytes := 24,z := [.slice none 0 0],elem := 3 } -- []int
def td29 : TyD := { kind := 3,size := 2,bytes := 48,z := [.slice none 0 0,.slice none 0 0],offs := [(0,1),(1,1)] } -- impl.Profile
def td32 : TyD := { kind := 1,size := 1,bytes := 24,z := [.slice none 0 0],elem := 52 } -- []impl.Line
def td40 : TyD := { kind := 1,size := 1,bytes := 24,z := [.slice none 0 0],elem := 9 } -- []string
def td41 : TyD := { kind := 1,size := 1,bytes := 24,z := [.slice none 0 0],elem := 82 } -- []laws.Tok
def td43 : TyD := { kind := 3,size := 4,bytes := 72,z := [.int .i64 0,.string ⟨#[]⟩,.slice none 0 0,.slice none 0 0],offs := [(0,1),(1,1),(2,1),(3,1)] } -- laws.Line
def td44 : TyD := { kind := 1,size := 1,bytes := 24,z := [.slice none 0 0],elem := 49 } -- [][]impl.Frame
def td49 : TyD := { kind := 1,size := 1,bytes := 24,z := [.slice none 0 0],elem := 90 } -- []impl.Frame
def td50 : TyD := { kind := 1,size := 1,bytes := 24,z := [.slice none 0 0],elem := 79 } -- []impl.Tok
def td52 : TyD := { kind := 3,size := 4,bytes := 72,z := [.int .i64 0,.string ⟨#[]⟩,.slice none 0 0,.slice none 0 0],offs := [(0,1),(1,1),(2,1),(3,1)] } -- impl.Line
def td63 : TyD := { kind := 1,size := 1,bytes := 24,z := [.slice none 0 0],elem := 27 } -- [][]int
def td65 : TyD := { kind := 3,size := 4,bytes := 64,z := [.slice none 0 0,.slice none 0 0,.int .i64 0,.int .i64 0],offs := [(0,1),(1,1),(2,1),(3,1)] } -- impl.Run
def td77 : TyD := { kind := 1,size := 1,bytes := 24,z := [.slice none 0 0],elem := 5 } -- []uint8
def td79 : TyD := { kind := 3,size := 3,bytes := 32,z := [.int .i64 0,.int .i64 0,.string ⟨#[]⟩],offs := [(0,1),(1,1),(2,1)],eqs := [4,4,2] } -- impl.Tok
def td82 : TyD := { kind := 3,size := 3,bytes := 32,z := [.int .i64 0,.int .i64 0,.string ⟨#[]⟩],offs := [(0,1),(1,1),(2,1)],eqs := [4,4,2] } -- laws.Tok
def td86 : TyD := { kind := 3,size := 7,bytes := 120,z := [.slice none 0 0,.int .i64 0,.slice none 0 0,.slice none 0 0,.int .i64 0,.int .i64 0,.slice none 0 0],offs := [(0,1),(1,1),(2,4),(6,1)] } -- spec.l05Run
def td90 : TyD := { kind := 3,size := 2,bytes := 24,z := [.string ⟨#[]⟩,.int .i64 0],offs := [(0,1),(1,1)],eqs := [2,4] } -- impl.Frame
def td96 : TyD := { kind := 3,size := 3,bytes := 32,z := [.int .i64 0,.string ⟨#[]⟩,.int .i64 0],offs := [(0,1),(1,2)],eqs := [4,2,4] } -- impl.Node
def td101 : TyD := { kind := 3,size := 8,bytes := 144,z := [.slice none 0 0,.int .i64 0,.slice none 0 0,.slice none 0 0,.slice none 0 0,.int .i64 0,.int .i64 0,.slice none 0 0],offs := [(0,1),(1,1),(2,1),(3,4),(7,1)] } -- impl.runner
def td103 : TyD := { kind := 3,size := 1,bytes := 8,z := [.int .i64 0],offs := [(0,1)],eqs := [4] } -- impl.stop
def td130 : TyD := { kind := 4,size := 1,bytes := 4,z := [.int .u32 0],ik := some .u32 } -- uint32
def tys : List (Nat × TyD) := [(2,td2),(3,td3),(4,td4),(5,td5),(9,td9),(12,td12),(21,td21),(22,td22),(24,td24),(26,td26),(27,td27),(29,td29),(32,td32),(40,td40),(41,td41),(43,td43),(44,td44),(49,td49),(50,td50),(52,td52),(63,td63),(65,td65),(77,td77),(79,td79),(82,td82),(86,td86),(90,td90),(96,td96),(101,td101),(103,td103),(130,td130)]
theorem ty2 : lk 2 tys = some { kind := 4,size := 1,bytes := 8,z := [.int .i64 0],ik := some .i64 } := rfl
theorem tok2 : TyOk Tryz.prog 2 td2 := ⟨by kernel_rfl,by show _ = _; kernel_rfl,by decide,.inl rfl⟩
theorem tok3 : TyOk Tryz.prog 3 td3 := ⟨by kernel_rfl,by show _ = _; kernel_rfl,by decide,.inl rfl⟩
theorem tok4 : TyOk Tryz.prog 4 td4 := ⟨by kernel_rfl,by show _ = _; kernel_rfl,by decide,.inl rfl⟩
theorem tok5 : TyOk Tryz.prog 5 td5 := ⟨by kernel_rfl,by show _ = _; kernel_rfl,by decide,.inl rfl⟩
theorem tok9 : TyOk Tryz.prog 9 td9 := ⟨by kernel_rfl,by show _ = _; kernel_rfl,by decide,.inl rfl⟩
theorem tok12 : TyOk Tryz.prog 12 td12 := ⟨by kernel_rfl,by show _ = _; kernel_rfl,by decide,.inl rfl⟩
theorem tok21 : TyOk Tryz.prog 21 td21 := ⟨by kernel_rfl,by show _ = _; kernel_rfl,by decide,.inl rfl⟩
theorem tok22 : TyOk Tryz.prog 22 td22 := ⟨by kernel_rfl,by show _ = _; kernel_rfl,by decide,.inl rfl⟩
theorem tok24 : TyOk Tryz.prog 24 td24 := ⟨by kernel_rfl,by show _ = _; kernel_rfl,by decide,.inl rfl⟩
theorem tok26 : TyOk Tryz.prog 26 td26 := ⟨by kernel_rfl,by show _ = _; kernel_rfl,by decide,.inl rfl⟩
theorem tok27 : TyOk Tryz.prog 27 td27 := ⟨by kernel_rfl,by show _ = _; kernel_rfl,by decide,.inl rfl⟩
theorem tok29 : TyOk Tryz.prog 29 td29 := ⟨by kernel_rfl,by show _ = _; kernel_rfl,by decide,.inl rfl⟩
theorem tok32 : TyOk Tryz.prog 32 td32 := ⟨by kernel_rfl,by show _ = _; kernel_rfl,by decide,.inl rfl⟩
theorem tok40 : TyOk Tryz.prog 40 td40 := ⟨by kernel_rfl,by show _ = _; kernel_rfl,by decide,.inl rfl⟩
theorem tok41 : TyOk Tryz.prog 41 td41 := ⟨by kernel_rfl,by show _ = _; kernel_rfl,by decide,.inl rfl⟩
theorem tok43 : TyOk Tryz.prog 43 td43 := ⟨by kernel_rfl,by show _ = _; kernel_rfl,by decide,.inl rfl⟩
theorem tok44 : TyOk Tryz.prog 44 td44 := ⟨by kernel_rfl,by show _ = _; kernel_rfl,by decide,.inl rfl⟩
theorem tok49 : TyOk Tryz.prog 49 td49 := ⟨by kernel_rfl,by show _ = _; kernel_rfl,by decide,.inl rfl⟩
theorem tok50 : TyOk Tryz.prog 50 td50 := ⟨by kernel_rfl,by show _ = _; kernel_rfl,by decide,.inl rfl⟩
theorem tok52 : TyOk Tryz.prog 52 td52 := ⟨by kernel_rfl,by show _ = _; kernel_rfl,by decide,.inl rfl⟩
theorem tok63 : TyOk Tryz.prog 63 td63 := ⟨by kernel_rfl,by show _ = _; kernel_rfl,by decide,.inl rfl⟩
theorem tok65 : TyOk Tryz.prog 65 td65 := ⟨by kernel_rfl,by show _ = _; kernel_rfl,by decide,.inl rfl⟩
theorem tok77 : TyOk Tryz.prog 77 td77 := ⟨by kernel_rfl,by show _ = _; kernel_rfl,by decide,.inl rfl⟩
theorem tok79 : TyOk Tryz.prog 79 td79 := ⟨by kernel_rfl,by show _ = _; kernel_rfl,by decide,.inr ⟨by kernel_rfl,by kernel_rfl,rfl⟩⟩
theorem tok82 : TyOk Tryz.prog 82 td82 := ⟨by kernel_rfl,by show _ = _; kernel_rfl,by decide,.inr ⟨by kernel_rfl,by kernel_rfl,rfl⟩⟩
theorem tok86 : TyOk Tryz.prog 86 td86 := ⟨by kernel_rfl,by show _ = _; kernel_rfl,by decide,.inl rfl⟩
theorem tok90 : TyOk Tryz.prog 90 td90 := ⟨by kernel_rfl,by show _ = _; kernel_rfl,by decide,.inr ⟨by kernel_rfl,by kernel_rfl,rfl⟩⟩
theorem tok96 : TyOk Tryz.prog 96 td96 := ⟨by kernel_rfl,by show _ = _; kernel_rfl,by decide,.inr ⟨by kernel_rfl,by kernel_rfl,rfl⟩⟩
theorem tok101 : TyOk Tryz.prog 101 td101 := ⟨by kernel_rfl,by show _ = _; kernel_rfl,by decide,.inl rfl⟩
theorem tok103 : TyOk Tryz.prog 103 td103 := ⟨by kernel_rfl,by show _ = _; kernel_rfl,by decide,.inr ⟨by kernel_rfl,by kernel_rfl,rfl⟩⟩
theorem tok130 : TyOk Tryz.prog 130 td130 := ⟨by kernel_rfl,by show _ = _; kernel_rfl,by decide,.inl rfl⟩
theorem tysOk : ∀ T d,lk T tys = some d → TyOk Tryz.prog T d := fun T d h=>by
 have hm := lk_mem h
 simp only [tys,List.mem_cons,Prod.mk.injEq,List.not_mem_nil,or_false] at hm
 rcases hm with ⟨rfl,rfl⟩|⟨rfl,rfl⟩|⟨rfl,rfl⟩|⟨rfl,rfl⟩|⟨rfl,rfl⟩|⟨rfl,rfl⟩|⟨rfl,rfl⟩|⟨rfl,rfl⟩|⟨rfl,rfl⟩|⟨rfl,rfl⟩|⟨rfl,rfl⟩|⟨rfl,rfl⟩|⟨rfl,rfl⟩|⟨rfl,rfl⟩|⟨rfl,rfl⟩|⟨rfl,rfl⟩|⟨rfl,rfl⟩|⟨rfl,rfl⟩|⟨rfl,rfl⟩|⟨rfl,rfl⟩|⟨rfl,rfl⟩|⟨rfl,rfl⟩|⟨rfl,rfl⟩|⟨rfl,rfl⟩|⟨rfl,rfl⟩|⟨rfl,rfl⟩|⟨rfl,rfl⟩|⟨rfl,rfl⟩|⟨rfl,rfl⟩|⟨rfl,rfl⟩|⟨rfl,rfl⟩
 ·exact tok2
 ·exact tok3
 ·exact tok4
 ·exact tok5
 ·exact tok9
 ·exact tok12
 ·exact tok21
 ·exact tok22
 ·exact tok24
 ·exact tok26
 ·exact tok27
 ·exact tok29
 ·exact tok32
 ·exact tok40
 ·exact tok41
 ·exact tok43
 ·exact tok44
 ·exact tok49
 ·exact tok50
 ·exact tok52
 ·exact tok63
 ·exact tok65
 ·exact tok77
 ·exact tok79
 ·exact tok82
 ·exact tok86
 ·exact tok90
 ·exact tok96
 ·exact tok101
 ·exact tok103
 ·exact tok130
theorem tyAll : lk 2 tys = some { kind := 4,size := 1,bytes := 8,z := [.int .i64 0],ik := some .i64 } ∧ lk 3 tys = some { kind := 4,size := 1,bytes := 8,z := [.int .i64 0],ik := some .i64 } ∧ lk 4 tys = some { kind := 5,size := 1,bytes := 1,z := [.bool false] } ∧ lk 5 tys = some { kind := 4,size := 1,bytes := 1,z := [.int .u8 0],ik := some .u8 } ∧ lk 9 tys = some { kind := 2,size := 1,bytes := 16,z := [.string ⟨#[]⟩] } ∧ lk 12 tys = some { kind := 4,size := 1,bytes := 8,z := [.int .u64 0],ik := some .u64 } ∧ lk 21 tys = some { kind := 4,size := 1,bytes := 4,z := [.int .i32 0],ik := some .i32 } ∧ lk 22 tys = some { kind := 1,size := 1,bytes := 24,z := [.slice none 0 0],elem := 43 } ∧ lk 24 tys = some { kind := 1,size := 1,bytes := 24,z := [.slice none 0 0],elem := 96 } ∧ lk 26 tys = some { kind := 3,size := 1,bytes := 24,z := [.slice none 0 0],offs := [(0,1)] } ∧ lk 27 tys = some { kind := 1,size := 1,bytes := 24,z := [.slice none 0 0],elem := 3 } ∧ lk 29 tys = some { kind := 3,size := 2,bytes := 48,z := [.slice none 0 0,.slice none 0 0],offs := [(0,1),(1,1)] } ∧ lk 32 tys = some { kind := 1,size := 1,bytes := 24,z := [.slice none 0 0],elem := 52 } ∧ lk 40 tys = some { kind := 1,size := 1,bytes := 24,z := [.slice none 0 0],elem := 9 } ∧ lk 41 tys = some { kind := 1,size := 1,bytes := 24,z := [.slice none 0 0],elem := 82 } ∧ lk 43 tys = some { kind := 3,size := 4,bytes := 72,z := [.int .i64 0,.string ⟨#[]⟩,.slice none 0 0,.slice none 0 0],offs := [(0,1),(1,1),(2,1),(3,1)] } ∧ lk 44 tys = some { kind := 1,size := 1,bytes := 24,z := [.slice none 0 0],elem := 49 } ∧ lk 49 tys = some { kind := 1,size := 1,bytes := 24,z := [.slice none 0 0],elem := 90 } ∧ lk 50 tys = some { kind := 1,size := 1,bytes := 24,z := [.slice none 0 0],elem := 79 } ∧ lk 52 tys = some { kind := 3,size := 4,bytes := 72,z := [.int .i64 0,.string ⟨#[]⟩,.slice none 0 0,.slice none 0 0],offs := [(0,1),(1,1),(2,1),(3,1)] } ∧ lk 63 tys = some { kind := 1,size := 1,bytes := 24,z := [.slice none 0 0],elem := 27 } ∧ lk 65 tys = some { kind := 3,size := 4,bytes := 64,z := [.slice none 0 0,.slice none 0 0,.int .i64 0,.int .i64 0],offs := [(0,1),(1,1),(2,1),(3,1)] } ∧ lk 77 tys = some { kind := 1,size := 1,bytes := 24,z := [.slice none 0 0],elem := 5 } ∧ lk 79 tys = some { kind := 3,size := 3,bytes := 32,z := [.int .i64 0,.int .i64 0,.string ⟨#[]⟩],offs := [(0,1),(1,1),(2,1)],eqs := [4,4,2] } ∧ lk 82 tys = some { kind := 3,size := 3,bytes := 32,z := [.int .i64 0,.int .i64 0,.string ⟨#[]⟩],offs := [(0,1),(1,1),(2,1)],eqs := [4,4,2] } ∧ lk 86 tys = some { kind := 3,size := 7,bytes := 120,z := [.slice none 0 0,.int .i64 0,.slice none 0 0,.slice none 0 0,.int .i64 0,.int .i64 0,.slice none 0 0],offs := [(0,1),(1,1),(2,4),(6,1)] } ∧ lk 90 tys = some { kind := 3,size := 2,bytes := 24,z := [.string ⟨#[]⟩,.int .i64 0],offs := [(0,1),(1,1)],eqs := [2,4] } ∧ lk 96 tys = some { kind := 3,size := 3,bytes := 32,z := [.int .i64 0,.string ⟨#[]⟩,.int .i64 0],offs := [(0,1),(1,2)],eqs := [4,2,4] } ∧ lk 101 tys = some { kind := 3,size := 8,bytes := 144,z := [.slice none 0 0,.int .i64 0,.slice none 0 0,.slice none 0 0,.slice none 0 0,.int .i64 0,.int .i64 0,.slice none 0 0],offs := [(0,1),(1,1),(2,1),(3,4),(7,1)] } ∧ lk 103 tys = some { kind := 3,size := 1,bytes := 8,z := [.int .i64 0],offs := [(0,1)],eqs := [4] } ∧ lk 130 tys = some { kind := 4,size := 1,bytes := 4,z := [.int .u32 0],ik := some .u32 } := ⟨rfl,rfl,rfl,rfl,rfl,rfl,rfl,rfl,rfl,rfl,rfl,rfl,rfl,rfl,rfl,rfl,rfl,rfl,rfl,rfl,rfl,rfl,rfl,rfl,rfl,rfl,rfl,rfl,rfl,rfl,rfl⟩
attribute [go_sem] tyAll
end Go.Proofs.YtjjbcoigaejoaaaGreat

namespace Go.Proofs.YtjjbcoigaejoaaaGreat
open Go.Vc
attribute [local go_sem] St.runR St.runW St.stepV offV St.step St.stepU St.stepG mkCond guardB St.prK St.pr St.prLen St.eff St.callE St.callD St.callF St.callL aI aS aR aC St.isM St.argL Ctr.pure Ctr.lend Ctr.move Ctr.isL Ctr.wri pur len lentBy St.lentV St.lent1 nthS argsR restOf obsR pairs swapL unObs backL St.resL erL SV.ren1 SV.up SV.up2 Ob.up St.fzL cellIds partIds St.intoRow SV.ownId St.fz SV.fz1 St.prep St.mvL St.mv SV.re1 rnOk St.prEq vals eqCells scEq Value.kd St.prStr St.prCut cutR St.bnd St.prMin St.bld isShift outL retL outJ oR oC oE oD SV.upq SV.isSl SV.shut St.deepK St.dpArg St.deepQ absC Ob.pl St.ev St.get St.put St.new St.kill SV.kill SV.kill1 Ob.kill St.app St.wrt St.rowsOf St.res St.killL lk er argsL SV.strip SV.need SV.share SV.share1 SV.owns SV.owns1 SV.owns2 SV.good SV.good1 SV.rok SV.rok1 SV.rok2 SV.isV SV.isV2 nodupN SV.cells SV.one SV.pur Ob.pb partsIn rowsIn splice cellsAt dstOk scal2 scal1 thenK blockK retK outK outs okC okL okA okT nilC nilL nilA nilT keepC keepL keepA keepT St.runG St.dltK St.least St.clean St.final St.hide offK badS badO SV.refs SV.leaf SV.leaf2 Ob.refs dlOk fpAt Go.Vc.cover tups SV.ofAgg St.out outC subL St.has rng wr Value.oneCell' Option.isSome_some Option.isSome_none List.nil_append Bool.false_eq_true List.map_cons List.map_nil List.all_cons List.all_nil List.length_cons List.length_nil List.drop_zero List.drop_succ_cons List.take_succ_cons List.take_zero List.drop_nil List.take_nil List.getElem?_cons_zero List.getElem?_cons_succ List.getElem?_nil List.cons_append List.nil_append List.append_nil List.append_assoc List.flatMap_cons List.flatMap_nil List.contains_cons List.contains_nil List.set_cons_zero List.set_cons_succ List.getElem?_toArray Option.getD_some Option.getD_none Option.map_some Option.map_none Option.bind_some Option.some.injEq Prod.mk.injEq if_true if_false true_and and_true and_self and_false false_and Bool.and_false Bool.false_and Bool.or_true Bool.true_or Bool.or_false Bool.false_or ne_eq not_true_eq_false not_false_eq_true decide_true decide_false List.mem_cons List.not_mem_nil List.filter_cons List.filter_nil List.any_cons List.any_nil List.isEmpty_nil List.isEmpty_cons Option.getD_none or_false false_or true_or or_true forall_eq_or_imp forall_eq reduceCtorEq exists_eq exists_eq' exists_eq_left' exists_eq_left exists_eq_right exists_eq_right' imp_self implies_true Bool.and_true Bool.true_and Bool.and_self beq_self_eq_true List.replicate_succ List.replicate_zero forall_const false_implies pickB_or pickB_and beqT beqF Int.toNat_natCast List.length_map List.length_replicate ge_iff_le gt_iff_lt decide_eq_true_eq decide_eq_false_iff_not Bool.and_eq_true Bool.or_eq_true Bool.not_eq_true' Bool.not_eq_false' condG List.toList_toArray Bool.or_eq_false_iff Bool.and_eq_false_iff Int.not_lt Int.not_le beq_iff_eq beq_eq_false_iff_ne bne_iff_ne bne_eq_false_iff_eq ne_eq Bool.not_true Bool.not_false exists_and_left
section
open Go.Vc
attribute [local irreducible] Go.Vc.WP
abbrev CL := List (FuncId × Ctr)
noncomputable def mkX (C : CL) (h : COk Tryz.prog C) : Cx := ⟨Tryz.prog,tys,C,tysOk,h⟩
noncomputable def cx0 : Cx := { P := Tryz.prog,tys := tys,C := [],hty := tysOk,hC := COk.nil _ }
theorem cx0_t : cx0.tys = tys := rfl
theorem cx0_c : cx0.C = [] := rfl
attribute [local go_sem] cx0_t cx0_c
def encI (x : Int) : List SV := [.v (.int .i64 x)]
theorem encI_inj {L M : List Int} : L.map encI = M.map encI ↔ L = M := by
 exact List.map_inj_right (fun a b h=>by simpa [encI] using h)
def decI (rows : List (List SV)) : List Int := rows.map fun r=>match r with
 | [.v (.int _ n)]=>n
 | _=>0
theorem decI_enc (L : List Int) : decI (L.map encI) = L := by
 unfold decI
 rw [List.map_map]
 exact List.map_id'' (fun _=>rfl) L
theorem isV_I {e s : Nat} (L : List Int) : (Ob.sl e s (L.map encI)).isV := by
 intro row hr c hc
 obtain ⟨n,_,rfl⟩ := List.mem_map.1 hr
 simp [encI] at hc
 exact ⟨_,hc⟩
theorem isV_It {e s : Nat} (L : List Int) : (Ob.sl e s (L.map encI)).isV ↔ True := iff_true_intro (isV_I L)
def k60 : Ctr := pur (fun args=>(aI args 0,aI args 1,aI args 2)) (fun x=>[.v (.int .i64 x.1),.v (.int .i64 x.2.1),.v (.int .i64 x.2.2)]) (fun _=>True)
 (fun _ x=>.v (.bool (decide (x.2.1 ≤ x.1) && decide (x.1 ≤ x.2.2)))) (fun _ _=>[])
theorem c60 : Cn Tryz.prog 19 k60 := by
 refine Cn.pur Tryz.func19 (by kernel_rfl) rfl fun d x _=>?_
 obtain ⟨n,lo,hi⟩ := x
 refine Holds.go (c := cx0) Tryz.func19 rfl Tryz.results19 Tryz.ntmps19 (by omega) (by simp) rfl ?_
 intro X0 w0
 (repeat' (first|apply zS|apply zB|((first|apply zR|apply zC|apply zT|apply zE|apply zK);simp only [go_sem])|apply And.intro|intro _))
theorem c58 : Cn Tryz.prog 15 k60 := by
 refine Cn.pur Tryz.func15 (by kernel_rfl) rfl fun d x _=>?_
 obtain ⟨n,lo,hi⟩ := x
 refine Holds.go (c := cx0) Tryz.func15 rfl Tryz.results15 Tryz.ntmps15 (by omega) (by simp) rfl ?_
 intro X0 w0
 (repeat' (first|apply zS|apply zB|((first|apply zR|apply zC|apply zT|apply zE|apply zK);simp only [go_sem])|apply And.intro|intro _))
def k17 : Ctr := pur (fun args=>(decI (aR args 0),decI (aR args 1))) (fun x=>[.sl 1 (x.1.map encI),.sl 1 (x.2.map encI)]) (fun x=>x.1.length ≤ 4398046511104) (fun _ x=>.v (.bool (decide (x.1 = x.2)))) (fun _ _=>[])
theorem c17 : Cn Tryz.prog 22 k17 := by
 refine Cn.pur Tryz.func22 (by kernel_rfl) rfl fun d x hL=>?_
 obtain ⟨L,M⟩ := x
 simp only at hL ⊢
 refine Holds.go (c := cx0) Tryz.func22 rfl Tryz.results22 Tryz.ntmps22 (by omega) (by simp) rfl ?_
 intro X0 w0
 (repeat' (first|apply zS|apply zB|((first|apply zR|apply zC|apply zT|apply zE|apply zK);simp only [go_sem])|apply And.intro|intro _))
 ·simp; intro h; subst h; simp_all
 have hlen : L.length = M.length:=by omega
 refine zL (fun k : Nat=>⟨[(0,.sl 1 (L.map encI)),(1,.sl 1 (M.map encI)),(5,.v (.int .i64 k))],[]⟩) (fun k=>k ≤ L.length ∧ L.take k = M.take k) (fun k=>L.length - k) 0 (by simp) ?_ ?_
 ·simp only [go_sem]; rfl
 intro k ⟨hk,ht⟩
 by_cases hlt : k < L.length
 ·have h1 := rowAt_map encI L k hlt
  have h2 := rowAt_map encI M k (by omega)
  (repeat' (first|apply zS|apply zB|((first|apply zR|apply zC|apply zT|apply zE|apply zK| refine zD 9 (by kernel_rfl) (by kernel_rfl) ?_); simp only [go_sem,h1,h2,encI])|apply And.intro|intro _))
  all_goals first|omega|skip
  ·rename_i hne
   rw [show decide (L = M) = false from decide_eq_false fun e=>by subst e; exact hne rfl]
  ·rename_i he
   refine ⟨k + 1,⟨by omega,?_⟩,by omega,rfl⟩
   rw [List.take_succ_eq_append_getElem hlt,List.take_succ_eq_append_getElem (by omega : k < M.length),ht,he]
 ·(repeat' (first|apply zS|apply zB|((first|apply zR|apply zC|apply zT|apply zE|apply zK);simp only [go_sem])|apply And.intro|intro _))
  all_goals first|omega|skip
  rw [show decide (L = M) = true from decide_eq_true ?_]
  rw [show k = L.length by omega,List.take_length,hlen,List.take_length] at ht
  exact ht
def marksI (k : Int) (n : Nat) : List Int := (List.range n).map fun i : Nat=>k + (i : Int)
theorem marksI_len (k : Int) (n : Nat) : (marksI k n).length = n:=by simp [marksI]
theorem marksI_get (k : Int) (n i : Nat) (h : i < (marksI k n).length) : (marksI k n)[i] = k + i:=by simp [marksI]
def halfI (L : List Int) (k0 : Int) (k : Nat) : List Int := marksI k0 k ++ L.drop k
theorem halfI_len (L : List Int) (k0 : Int) (k : Nat) (h : k ≤ L.length) : (halfI L k0 k).length = L.length:=by simp [halfI,marksI_len]; omega
theorem halfI_set (L : List Int) (k0 : Int) (k : Nat) (h : k < L.length) : ((halfI L k0 k).map encI).set k (encI (k0 + k)) = (halfI L k0 (k + 1)).map encI := by
 rw [← List.map_set]
 congr 1
 unfold halfI
 rw [List.set_append,if_neg (by simp [marksI_len]),marksI_len,Nat.sub_self,List.drop_eq_getElem_cons h,List.set_cons_zero]
 simp [marksI,List.range_succ]
def k18 : Ctr := len [0] [] (fun args obs=>(decI (oR obs 1000000),aI args 1)) (fun x=>[.own 1000000,.v (.int .i64 x.2)]) (fun x=>[(1000000,.sl 3 1 (x.1.map encI))]) (fun x=>x.1.length ≤ 4398046511104 ∧ 0 ≤ x.2 ∧ x.2 ≤ 500000000000000)
 (fun _ x=>.v (.int .i64 (x.2 + x.1.length))) (fun _ _=>[]) (fun x=>[(1000000,.sl 3 1 ((marksI x.2 x.1.length).map encI))])
theorem c18 : Cn Tryz.prog 28 k18 := by
 refine Cn.len Tryz.func28 (by kernel_rfl) rfl fun d x hd h=>?_
 obtain ⟨L,k0⟩ := x
 obtain ⟨hL,h0,h1⟩ := h
 simp only at hL h0 h1 ⊢
 refine HoldsL.go (c := cx0) Tryz.func28 rfl Tryz.results28 Tryz.ntmps28 (by omega) (by simp) rfl (by simp) (by simp [SV.owns2,SV.owns,SV.owns1]) (by simp) rfl rfl (by simp) ?_
 intro X0 M w0
 (repeat' (first|apply zS|apply zB|((first|apply zR|apply zC|apply zT|apply zE|apply zK);simp only [go_sem])|apply And.intro|intro _))
 refine zL (fun k : Nat=>⟨[(0,.own 1000000),(1,.v (.int .i64 (k0 + k))),(5,.v (.int .i64 k))],[(1000000,.sl 3 1 ((halfI L k0 k).map encI))]⟩) (fun k=>k ≤ L.length) (fun k=>L.length - k) 0 (by omega) ?_ ?_
 ·have e : halfI L k0 0 = L:=by simp [halfI,marksI]
  rw [e]; simp only [go_sem]; simp
 intro k hk
 have h2 := halfI_len L k0 k hk
 by_cases hlt : k < L.length
 ·have h3 := halfI_set L k0 k hlt
  rw [encI] at h3
  have h4 := rowAt_map encI (halfI L k0 k) k (by omega)
  (repeat' (first|apply zS|apply zB|((first|apply zR|apply zC|apply zT|apply zE|apply zK);simp only [go_sem,h2,h3,h4,encI])|apply And.intro|intro _))
  all_goals first|omega|skip
  refine ⟨k + 1,by omega,by omega,⟨?_,rfl⟩,rfl⟩
  rw [show k0 + (k : Int) + 1 = k0 + ((k + 1 : Nat) : Int) by omega]
 ·have h5 : halfI L k0 k = marksI k0 L.length:=by rw [show k = L.length by omega]; simp [halfI]
  have h6 := marksI_len k0 L.length
  (repeat' (first|apply zS|apply zB|((first|apply zR|apply zC|apply zT|apply zE|apply zK);simp only [go_sem,h2,h5,h6])|apply And.intro|intro _))
  all_goals first|omega|skip
  rw [show k = L.length by omega]
def k19 : Ctr := pur (fun args=>(decI (aR args 0),aI args 1)) (fun x=>[.sl 1 (x.1.map encI),.v (.int .i64 x.2)]) (fun x=>x.1.length ≤ 4398046511104 ∧ 0 ≤ x.2 ∧ x.2 ≤ 500000000000000)
 (fun _ x=>.v (.int .i64 (if x.1 = marksI x.2 x.1.length then x.2 + x.1.length else -1))) (fun _ _=>[])
theorem c19 : Cn Tryz.prog 30 k19 := by
 refine Cn.pur Tryz.func30 (by kernel_rfl) rfl fun d x h=>?_
 obtain ⟨L,k0⟩ := x
 obtain ⟨hL,h0,h1⟩ := h
 simp only at hL h0 h1 ⊢
 refine Holds.go (c := cx0) Tryz.func30 rfl Tryz.results30 Tryz.ntmps30 (by omega) (by simp) rfl ?_
 intro X0 w0
 (repeat' (first|apply zS|apply zB|((first|apply zR|apply zC|apply zT|apply zE|apply zK);simp only [go_sem])|apply And.intro|intro _))
 refine zL (fun k : Nat=>⟨[(0,.sl 1 (L.map encI)),(1,.v (.int .i64 (k0 + k))),(5,.v (.int .i64 k))],[]⟩) (fun k=>k ≤ L.length ∧ L.take k = marksI k0 k) (fun k=>L.length - k) 0 (by simp [marksI]) ?_ ?_
 ·simp only [go_sem]; simp
 intro k ⟨hk,ht⟩
 by_cases hlt : k < L.length
 ·have h3 := rowAt_map encI L k hlt
  (repeat' (first|apply zS|apply zB|((first|apply zR|apply zC|apply zT|apply zE|apply zK);simp only [go_sem,h3,encI])|apply And.intro|intro _))
  all_goals first|omega|skip
  ·rename_i hne
   rw [if_neg]
   intro e
   apply hne
   have : L[k] = (marksI k0 L.length)[k]'(by rw [marksI_len]; exact hlt):=by congr 1
   rw [this,marksI_get]
  ·rename_i he
   refine ⟨k + 1,⟨by omega,?_⟩,by omega,?_,rfl⟩
   ·rw [List.take_succ_eq_append_getElem hlt,ht,he]; simp [marksI,List.range_succ]
   ·rw [show k0 + (k : Int) + 1 = k0 + ((k + 1 : Nat) : Int) by omega]
 ·(repeat' (first|apply zS|apply zB|((first|apply zR|apply zC|apply zT|apply zE|apply zK);simp only [go_sem])|apply And.intro|intro _))
  all_goals first|omega|skip
  rw [show k = L.length by omega,List.take_length] at ht
  rw [if_pos ht,show k = L.length by omega]
end
end Go.Proofs.YtjjbcoigaejoaaaGreat
namespace Go.Proofs.YtjjbcoigaejoaaaGreat
def firstIdx {α : Type} (p : α → Bool) (L : List α) : Int := match L.findIdx? p with
 |some i=>(i : Int)
 |none=>-1
theorem firstIdx_hit {α : Type} {p : α → Bool} {L : List α} {k : Nat} (hk : k < L.length) (h : ∀ i (hi : i < L.length),i < k → p L[i] = false) (hp : p L[k] = true) : firstIdx p L = k := by
 unfold firstIdx
 have : L.findIdx? p = some k := by
  rw [List.findIdx?_eq_some_iff_getElem]
  exact ⟨hk,hp,fun j hj=>by simp [h j (by omega) hj]⟩
 rw [this]
theorem firstIdx_none {α : Type} {p : α → Bool} {L : List α} (h : ∀ i (hi : i < L.length),p L[i] = false) : firstIdx p L = -1 := by
 unfold firstIdx
 have : L.findIdx? p = none := by
  rw [List.findIdx?_eq_none_iff]
  intro x hx
  obtain ⟨i,hi,rfl⟩ := List.mem_iff_getElem.1 hx
  exact h i hi
 rw [this]
def szGo : List Nat → Int → Int
 | [],r=>r
 |n :: l,r=>if r - n < 0 then -1 else szGo l (r - n)
theorem szGo_drop (L : List Nat) (k : Nat) (r : Int) (h : k < L.length) : szGo (L.drop k) r = if r - (L[k] : Int) < 0 then -1 else szGo (L.drop (k + 1)) (r - (L[k] : Int)) := by
 rw [List.drop_eq_getElem_cons h]; rfl
theorem szGo_ok : ∀ (L : List Nat) (r : Int),0 ≤ r → 0 ≤ szGo L r → ∀ n ∈ L,(n : Int) ≤ r
 | [],_,_,_,n,hn=>by cases hn
 |m :: l,r,h0,h,n,hn=>by
  unfold szGo at h
  split at h
  ·omega
  ·rename_i h2
   rcases List.mem_cons.1 hn with rfl|hn
   ·omega
   ·have := szGo_ok l (r - m) (by omega) h n hn
    omega
end Go.Proofs.YtjjbcoigaejoaaaGreat

namespace Go.Proofs.YtjjbcoigaejoaaaGreat
open Go.Vc
attribute [local irreducible] Go.Vc.WP
attribute [local go_sem] cx0_t cx0_c
theorem rowAt_set (rows : List (List SV)) (i : Nat) (r : List SV) (h : i < rows.length) : Go.Vc.rowAt (rows.set i r) i = r := by
 unfold Go.Vc.rowAt
 rw [List.getElem?_set_self h]; rfl
def decB : Nat → List UInt8
 | 0=>[]
 |k + 1=>decB ((k + 1) / 10) ++ [UInt8.ofNat (48 + (k + 1) % 10)]
decreasing_by omega
theorem decB_pos (k : Nat) (h : 0 < k) : decB k = decB (k / 10) ++ [UInt8.ofNat (48 + k % 10)] := by
 cases k with
 |zero=>omega
 |succ k=>rw [decB]
theorem decB_len : ∀ (n k : Nat),k < 10 ^ n → (decB k).length ≤ n
 | 0,k,h=>by
         have : k = 0:=by simpa using h
         subst this; simp [decB]
 |n + 1,k,h=>by
  rcases Nat.eq_zero_or_pos k with h0|h0
  ·subst h0; simp [decB]
  ·rw [decB_pos k h0,List.length_append]
   have := decB_len n (k / 10) (by rw [Nat.pow_succ] at h; omega)
   simp only [List.length_cons,List.length_nil]; omega
def bts (l : List UInt8) : ByteArray := ⟨l.toArray⟩
def markT (k : Int) : ByteArray := if k ≤ 0 then ⟨#[109,48]⟩ else ⟨#[109]⟩ ++ bts (decB k.toNat)
theorem bts_append (a b : List UInt8) : bts a ++ bts b = bts (a ++ b) := by
 unfold bts
 apply ByteArray.ext
 simp
theorem bts_size (a : List UInt8) : (bts a).size = a.length:=by simp [bts,ByteArray.size]
theorem strOf_one (n : Int) (h0 : 0 ≤ n) (h1 : n ≤ 9) : strOf [[.v (.int .u8 (48 + n))]] = bts [UInt8.ofNat (48 + n.toNat)] := by
 have e : (48 + n).toNat = 48 + n.toNat:=by omega
 have e2 : Go.Vc.byteOf [.v (.int .u8 (48 + n))] = UInt8.ofNat (48 + n.toNat):=by show UInt8.ofNat (48 + n).toNat = _; rw [e]
 unfold strOf bts
 rw [List.map_cons,List.map_nil,e2]
def kmarkT : Ctr := pur (fun args=>aI args 0) (fun k=>[.v (.int .i64 k)]) (fun k=>k ≤ 1000000000000000) (fun _ k=>.v (.string (markT k))) (fun _ _=>[])
theorem cmarkT : Cn Tryz.prog 24 kmarkT := by
 refine Cn.pur Tryz.func24 (by kernel_rfl) rfl fun d x hx=>?_
 refine Holds.go (c := cx0) Tryz.func24 rfl Tryz.results24 Tryz.ntmps24 (by omega) (by simp) rfl ?_
 intro X0 w0
 (repeat' (first|apply zS|apply zB|((first|apply zR|apply zC|apply zT|apply zE|apply zK);simp only [go_sem])|apply And.intro|intro _))
 all_goals first|omega|skip
 ·rename_i h; simp [markT,h]
 rename_i h
 refine zL (fun s : Nat × List UInt8=>⟨[(0,.v (.int .i64 (s.1 : Int))),(3,.v (.string (bts s.2)))],[]⟩) (fun s=>decB s.1 ++ s.2 = decB x.toNat ∧ s.2.length ≤ 20 ∧ s.1 < 10000000000000000) (fun s=>s.1) (x.toNat,[]) ⟨by simp,by simp,by simp only; omega⟩ ?_ ?_
 ·have : (x.toNat : Int) = x:=by omega
  simp only [go_sem,this]; (first|(and_intros <;> rfl)|simp)
 rintro ⟨k,out⟩ ⟨hk,hl,hb⟩
 simp only at hk hl hb ⊢
 have hlx : (decB x.toNat).length ≤ 16 := decB_len 16 _ (by omega)
 have hlk : out.length ≤ 16:=by rw [← hk,List.length_append] at hlx; omega
 by_cases hpos : 0 < k
 ·have hm : (k : Int).tmod 10 = ((k % 10 : Nat) : Int):=by rw [Int.tmod_eq_emod_of_nonneg (by omega)]; omega
  have hd : (k : Int).tdiv 10 = ((k / 10 : Nat) : Int):=by rw [Int.tdiv_eq_ediv_of_nonneg (by omega)]; omega
  have hw : IntKind.u8.wrap (48 + ((k % 10 : Nat) : Int)) = 48 + ((k % 10 : Nat) : Int) := by
   have : k % 10 < 10 := Nat.mod_lt _ (by omega)
   simp only [IntKind.wrap,IntKind.bits,IntKind.signed,Bool.false_and,Bool.false_eq_true,if_false]
   omega
  have hs := strOf_one ((k % 10 : Nat) : Int) (by omega) (by omega)
  have hc := bts_append [UInt8.ofNat (48 + k % 10)] out
  have hz := bts_size [UInt8.ofNat (48 + k % 10)]
  have hz2 := bts_size out
  rw [Int.toNat_natCast] at hs
  (repeat' (first|apply zS|apply zB|((first|apply zR|apply zC|apply zT|apply zE|apply zK);simp only [go_sem,hm,hd,hw,hs,hc,hz,hz2])|apply And.intro|intro _))
  all_goals first|omega|skip
  ·exact ⟨_,rfl⟩
  ·refine ⟨(k / 10,UInt8.ofNat (48 + k % 10) :: out),⟨?_,by simp only [List.length_cons]; omega,by simp only; omega⟩,by simp only; omega,rfl,rfl⟩
   simp only
   rw [← hk,decB_pos k hpos,List.append_assoc]; rfl
 ·have hk0 : k = 0:=by omega
  subst hk0
  have hout : out = decB x.toNat:=by rw [← hk]; simp [decB]
  have hz2 := bts_size out
  have hz3 : ByteArray.size ⟨#[109]⟩ = 1 := rfl
  (repeat' (first|apply zS|apply zB|((first|apply zR|apply zC|apply zT|apply zE|apply zK);simp only [go_sem,hz2,hz3])|apply And.intro|intro _))
  all_goals first|omega|skip
  rw [markT,if_neg (by omega),hout]
def encS (x : ByteArray) : List SV := [.v (.string x)]
def oneS : List SV → ByteArray
 | [.v (.string n)]=>n
 | _=>⟨#[]⟩
def decS (rows : List (List SV)) : List ByteArray := rows.map oneS
theorem oneS_enc (x : ByteArray) : oneS (encS x) = x := rfl
theorem decS_enc (L : List ByteArray) : decS (L.map encS) = L := by
 unfold decS
 rw [List.map_map]
 exact List.map_id'' oneS_enc L
end Go.Proofs.YtjjbcoigaejoaaaGreat

namespace Go.Proofs.YtjjbcoigaejoaaaGreat
end Go.Proofs.YtjjbcoigaejoaaaGreat

namespace Go.Proofs.YtjjbcoigaejoaaaGreat
open Go.Vc
attribute [local irreducible] Go.Vc.WP
attribute [local go_sem] cx0_t cx0_c
section
end
section
end
end Go.Proofs.YtjjbcoigaejoaaaGreat

namespace Go.Proofs.YtjjbcoigaejoaaaGreat
open Go.Vc
attribute [local go_sem] St.runR St.runW St.stepV offV St.step St.stepU St.stepG mkCond guardB St.prK St.pr St.prLen St.eff St.callE St.callD St.callF St.callL aI aS aR aC St.isM St.argL Ctr.pure Ctr.lend Ctr.move Ctr.isL Ctr.wri pur len lentBy St.lentV St.lent1 nthS argsR restOf obsR pairs swapL unObs backL St.resL erL SV.ren1 SV.up SV.up2 Ob.up St.fzL cellIds partIds St.intoRow SV.ownId St.fz SV.fz1 St.prep St.mvL St.mv SV.re1 rnOk St.prEq vals eqCells scEq Value.kd St.prStr St.prCut cutR St.bnd St.prMin St.bld isShift outL retL outJ oR oC oE oD SV.upq SV.isSl SV.shut St.deepK St.dpArg St.deepQ absC Ob.pl St.ev St.get St.put St.new St.kill SV.kill SV.kill1 Ob.kill St.app St.wrt St.rowsOf St.res St.killL lk er argsL SV.strip SV.need SV.share SV.share1 SV.owns SV.owns1 SV.owns2 SV.good SV.good1 SV.rok SV.rok1 SV.rok2 SV.isV SV.isV2 nodupN SV.cells SV.one SV.pur Ob.pb partsIn rowsIn splice cellsAt dstOk scal2 scal1 thenK blockK retK outK outs okC okL okA okT nilC nilL nilA nilT keepC keepL keepA keepT St.runG St.dltK St.least St.clean St.final St.hide offK badS badO SV.refs SV.leaf SV.leaf2 Ob.refs dlOk fpAt Go.Vc.cover tups SV.ofAgg St.out outC subL St.has rng wr Value.oneCell' Option.isSome_some Option.isSome_none List.nil_append Bool.false_eq_true List.map_cons List.map_nil List.all_cons List.all_nil List.length_cons List.length_nil List.drop_zero List.drop_succ_cons List.take_succ_cons List.take_zero List.drop_nil List.take_nil List.getElem?_cons_zero List.getElem?_cons_succ List.getElem?_nil List.cons_append List.nil_append List.append_nil List.append_assoc List.flatMap_cons List.flatMap_nil List.contains_cons List.contains_nil List.set_cons_zero List.set_cons_succ List.getElem?_toArray Option.getD_some Option.getD_none Option.map_some Option.map_none Option.bind_some Option.some.injEq Prod.mk.injEq if_true if_false true_and and_true and_self and_false false_and Bool.and_false Bool.false_and Bool.or_true Bool.true_or Bool.or_false Bool.false_or ne_eq not_true_eq_false not_false_eq_true decide_true decide_false List.mem_cons List.not_mem_nil List.filter_cons List.filter_nil List.any_cons List.any_nil List.isEmpty_nil List.isEmpty_cons Option.getD_none or_false false_or true_or or_true forall_eq_or_imp forall_eq reduceCtorEq exists_eq exists_eq' exists_eq_left' exists_eq_left exists_eq_right exists_eq_right' imp_self implies_true Bool.and_true Bool.true_and Bool.and_self beq_self_eq_true List.replicate_succ List.replicate_zero forall_const false_implies pickB_or pickB_and beqT beqF Int.toNat_natCast List.length_map List.length_replicate ge_iff_le gt_iff_lt decide_eq_true_eq decide_eq_false_iff_not Bool.and_eq_true Bool.or_eq_true Bool.not_eq_true' Bool.not_eq_false' condG List.toList_toArray Bool.or_eq_false_iff Bool.and_eq_false_iff Int.not_lt Int.not_le beq_iff_eq beq_eq_false_iff_ne bne_iff_ne bne_eq_false_iff_eq ne_eq Bool.not_true Bool.not_false exists_and_left
section
open Go.Vc
attribute [local irreducible] Go.Vc.WP
attribute [local go_sem] cx0_t cx0_c k60
noncomputable def cxBt2 := mkX [(19,k60),(15,k60)] (COk.cons c60 (COk.cons c58 (COk.nil _)))
theorem cxBt2_t : cxBt2.tys = tys := rfl
theorem cxBt2_c : cxBt2.C = [(19,k60),(15,k60)] := rfl
attribute [local go_sem] cxBt2_t cxBt2_c
def letter (c : UInt8) : Bool := decide (97 ≤ c.toNat) && decide (c.toNat ≤ 122)
def nameOk (s : ByteArray) : Bool := (s.data.toList.all letter) && decide (1 ≤ s.size) && decide (s.size ≤ 8)
theorem nameOk_bad {s : ByteArray} {k : Nat} (h : k < s.size) (hb : letter s[k]! = false) : nameOk s = false := by
 unfold nameOk
 have : s.data.toList.all letter = false := by
  rw [Bool.eq_false_iff]
  intro hall
  have h1 := List.all_eq_true.1 hall s[k]! (by
   rw [getElem!_pos s k h]
   exact Array.getElem_mem_toList (by exact h))
  rw [h1] at hb; cases hb
 simp [this]
theorem nameOk_all {s : ByteArray} (h : ∀ i,i < s.size → letter s[i]! = true) : nameOk s = (decide ((1 : Int) ≤ s.size) && decide ((s.size : Int) ≤ 8)) := by
 unfold nameOk
 have : s.data.toList.all letter = true := by
  rw [List.all_eq_true]
  intro c hc
  obtain ⟨i,hi,rfl⟩ := List.mem_iff_getElem.1 hc
  have hi' : i < s.size:=by simpa using hi
  have := h i hi'
  rw [getElem!_pos s i hi'] at this
  exact this
 rw [this,Bool.true_and]
 congr 1 <;> · apply decide_eq_decide.2; omega
def kNameOk : Ctr := pur (fun args=>aS args 0) (fun s=>[.v (.string s)]) (fun s=>s.size ≤ 1099511627776) (fun _ s=>.v (.bool (nameOk s))) (fun _ _=>[])
theorem cNameOkS : Cn Tryz.prog 80 kNameOk := by
 refine Cn.pur Tryz.func80 (by kernel_rfl) rfl fun d s hL=>?_
 refine Holds.go (c := cxBt2) Tryz.func80 rfl Tryz.results80 Tryz.ntmps80 (by omega) (by simp) rfl ?_
 intro X0 w0
 (repeat' (first|apply zS|apply zB|((first|apply zR|apply zC|apply zT|apply zE|apply zK);simp only [go_sem])|apply And.intro|intro _))
 refine zL (fun k : Nat=>⟨[(0,.v (.string s)),(3,.v (.int .i64 k))],[]⟩) (fun k=>k ≤ s.size ∧ ∀ i,i < k → letter s[i]! = true) (fun k=>s.size - k) 0 (by simp) ?_ ?_
 ·simp only [go_sem]; first|exact ⟨rfl,rfl⟩|rfl
 intro k ⟨hk,hf⟩
 by_cases hlt : k < s.size
 ·(repeat' (first|apply zS|apply zB|((first|apply zR|apply zC|apply zT|apply zE|apply zK);simp only [go_sem])|apply And.intro|intro _))
  all_goals first|omega|skip
  ·rename_i hh
   rw [nameOk_bad hlt (by rw [Bool.eq_false_iff]; intro hc; simp [letter] at hc; omega)]
  ·rename_i hh
   refine ⟨k + 1,⟨by omega,fun i hik=>?_⟩,by omega,rfl⟩
   rcases Nat.lt_or_ge i k with h|h
   ·exact hf i h
   ·have : i = k:=by omega
    subst this
    simp [letter]; omega
 ·(repeat' (first|apply zS|apply zB|((first|apply zR|apply zC|apply zT|apply zE|apply zK);simp only [go_sem])|apply And.intro|intro _))
  all_goals first|omega|skip
  rw [nameOk_all fun i hi=>hf i (by omega)]
theorem cNameOkI : Cn Tryz.prog 92 kNameOk := by
 refine Cn.pur Tryz.func92 (by kernel_rfl) rfl fun d s hL=>?_
 refine Holds.go (c := cxBt2) Tryz.func92 rfl Tryz.results92 Tryz.ntmps92 (by omega) (by simp) rfl ?_
 intro X0 w0
 (repeat' (first|apply zS|apply zB|((first|apply zR|apply zC|apply zT|apply zE|apply zK);simp only [go_sem])|apply And.intro|intro _))
 refine zL (fun k : Nat=>⟨[(0,.v (.string s)),(3,.v (.int .i64 k))],[]⟩) (fun k=>k ≤ s.size ∧ ∀ i,i < k → letter s[i]! = true) (fun k=>s.size - k) 0 (by simp) ?_ ?_
 ·simp only [go_sem]; first|exact ⟨rfl,rfl⟩|rfl
 intro k ⟨hk,hf⟩
 by_cases hlt : k < s.size
 ·(repeat' (first|apply zS|apply zB|((first|apply zR|apply zC|apply zT|apply zE|apply zK);simp only [go_sem])|apply And.intro|intro _))
  all_goals first|omega|skip
  ·rename_i hh
   rw [nameOk_bad hlt (by rw [Bool.eq_false_iff]; intro hc; simp [letter] at hc; omega)]
  ·rename_i hh
   refine ⟨k + 1,⟨by omega,fun i hik=>?_⟩,by omega,rfl⟩
   rcases Nat.lt_or_ge i k with h|h
   ·exact hf i h
   ·have : i = k:=by omega
    subst this
    simp [letter]; omega
 ·(repeat' (first|apply zS|apply zB|((first|apply zR|apply zC|apply zT|apply zE|apply zK);simp only [go_sem])|apply And.intro|intro _))
  all_goals first|omega|skip
  rw [nameOk_all fun i hi=>hf i (by omega)]
end
end Go.Proofs.YtjjbcoigaejoaaaGreat
namespace Go.Vc
open Go.RowKit Go.WideShapes Go.ChangeShapes Go.Deep
section
variable {H : Type} {enc : TypeId × Value → H} {P : Program} {w : World}
def Cells (w : World) (row : List SV) (cs : List Value) : Prop :=
 row.length = cs.length ∧ ∀ (k : Nat) (c : SV) (u : Value),row[k]? = some c → cs[k]? = some u → u.oneCell' = true ∧ Rp w (fun _=>False) c u
def Dec (H : Type) (enc : TypeId × Value → H) (P : Program) (w : World) (t : TypeId) {α : Type} (e : α → List SV) (wf : α → Prop) : Prop :=
 ∀ (base : Nat) (sp : Nat → Bool) (held : Bool) (n : Nat) (cs : List Value) (y : DataW H × List MemPlace),DataW.trod enc P w base sp held n t cs = some y → ∃ a : α,wf a ∧ Cells w (e a) cs
theorem cells_one_v {v : Value} (h : v.oneCell' = true) : Cells w [.v v] [v] := ⟨rfl,fun k c u hc hu=>by
 cases k with
 |zero=>simp at hc hu; subst hc hu; exact ⟨h,.v _⟩
 |succ k=>simp at hc⟩
theorem Dec.int {t : TypeId} {k : IntKind} (ht : P.underlying t = some (.int k)) : Dec H enc P w t (fun n : Int=>[.v (.int k n)]) (fun n=>k.min ≤ n ∧ n ≤ k.max) := by
 intro base sp held n cs y h
 obtain ⟨m,rfl,rfl,hw⟩ := DataW.trod_int ht h
 exact ⟨m,by simpa [Lit.wf] using hw,cells_one_v rfl⟩
theorem Dec.bool {t : TypeId} (ht : P.underlying t = some .bool) : Dec H enc P w t (fun b : Bool=>[.v (.bool b)]) (fun _=>True) := by
 intro base sp held n cs y h
 obtain ⟨m,rfl,rfl⟩ := DataW.trod_bool ht h
 exact ⟨m,trivial,cells_one_v rfl⟩
theorem Dec.string {t : TypeId} (ht : P.underlying t = some .string) : Dec H enc P w t (fun s : ByteArray=>[.v (.string s)]) (fun s=>s.size ≤ maxLen) := by
 intro base sp held n cs y h
 obtain ⟨m,rfl,rfl,hw⟩ := DataW.trod_string ht h
 exact ⟨m,hw,cells_one_v rfl⟩
theorem choose_list {α : Type} {p : Nat → α → Prop} : ∀ n : Nat,(∀ i,i < n → ∃ a,p i a) → ∃ L : List α,L.length = n ∧ ∀ i a,L[i]? = some a → p i a
 | 0,_=>⟨[],rfl,by simp⟩
 |n + 1,h=>by
  obtain ⟨L,hl,hp⟩ := choose_list n (fun i hi=>h i (by omega))
  obtain ⟨a,ha⟩ := h n (by omega)
  refine ⟨L ++ [a],by simp [hl],fun i b hi=>?_⟩
  rw [List.getElem?_append] at hi
  split at hi
  ·exact hp i b hi
  ·rename_i hge
   have : i = n := by
    have := (List.getElem?_eq_some_iff.1 hi).1
    simp at this; omega
   subst this
   rw [hl] at hi
   simp at hi
   subst hi
   exact ha
theorem spot_none {a : Addr} {u : Value} (h : w.cell? a = some u) : a.spot = none ∧ a.block < w.heap.size := by
 unfold World.cell? at h
 split at h
 ·rename_i c _ _ hh
  refine ⟨?_,lt_of_heap hh⟩
  split at h
  ·cases h
  ·rename_i hs; simpa using hs
 ·cases h
theorem addr_add {a : Addr} (h : a.spot = none) (n : Nat) : a.add n = ⟨a.block,a.off + n,none⟩ := by
 obtain ⟨b,o,s⟩ := a
 simp only at h
 subst h
 unfold Addr.add
 split
 ·rename_i hn; subst hn; rfl
 ·rfl
theorem Dec.slice {t e : TypeId} {s : Nat} {α : Type} {en : α → List SV} {wf : α → Prop} (ht : P.underlying t = some (.slice e)) (hs : P.cellsOf e = s) (hs0 : 0 < s) (hd : Dec H enc P w e en wf) (hen : ∀ a,(en a).length = s) :
  Dec H enc P w t (fun L : List α=>[.sl s (L.map en)]) (fun L=>L.length ≤ maxLen ∧ ∀ a ∈ L,wf a) := by
 intro base sp held n cs y h
 rcases open_slice ht h with ⟨rfl,_⟩|⟨a,len,cap,m,n',D,Pl,rfl,_,hlc,hcm,hm,_,hcell⟩
 ·exact ⟨[],by simp,rfl,fun k c u hc hu=>by
   cases k with
   |zero=>simp at hc hu; subst hc hu; exact ⟨rfl,.nil s _ _⟩
   |succ k=>simp at hc⟩
 have hlm : len ≤ m:=by rw [hm]; split <;> omega
 have key : ∀ i,i < len → ∃ x : α,wf x ∧ ∃ cs',w.cells? base (a.add (i * s)) s = some cs' ∧ Cells w (en x) cs' := fun i hi=>by
  obtain ⟨cs',h1,h2⟩ := hcell i (by omega)
  rw [hs] at h1
  obtain ⟨x,hx,hc⟩ := hd _ _ _ _ _ _ h2
  exact ⟨x,hx,cs',h1,hc⟩
 obtain ⟨L,hl,hL⟩ := choose_list len key
 refine ⟨L,⟨by unfold maxLen at hcm ⊢; omega,fun x hx=>?_⟩,rfl,fun k c u hc hu=>?_⟩
 ·obtain ⟨i,hi⟩ := List.mem_iff_getElem?.1 hx
  exact (hL i x hi).1
 cases k with
 |succ k=>simp at hc
 |zero =>
  simp at hc hu
  subst hc hu
  refine ⟨rfl,?_⟩
  rcases Nat.eq_zero_or_pos len with h0|h0
  ·have : L = [] := List.eq_nil_of_length_eq_zero (by omega)
   subst this
   subst h0
   exact .nil s _ _
  ·have hspot : a.spot = none ∧ a.block < w.heap.size := by
    have hx : L[0]? = some (L[0]'(by omega)) := List.getElem?_eq_getElem (by omega)
    obtain ⟨_,cs',h1,_⟩ := hL 0 _ hx
    obtain ⟨_,hcl,hat⟩ := World.cells?_some h1
    have := hat 0 hs0
    have hv : cs'[0]? = some (cs'[0]'(by omega)) := List.getElem?_eq_getElem (by omega)
    rw [hv] at this
    simpa [Addr.add] using spot_none this
   have hav : a = ⟨a.block,a.off,none⟩ := by
    obtain ⟨b,o,sp⟩ := a
    simp only at hspot
    rw [hspot.1]
   have cell : ∀ (i k : Nat) (row : List SV) (c : SV),(L.map en)[i]? = some row → row[k]? = some c → ∃ u,w.cell? ⟨a.block,a.off + (i * s + k),none⟩ = some u ∧ u.oneCell' = true ∧ Rp w (fun _=>False) c u := fun i k row c hr hc=>by
    rw [List.getElem?_map] at hr
    cases hx : L[i]? with
    |none=>rw [hx] at hr; cases hr
    |some x =>
     rw [hx] at hr
     simp only [Option.map_some,Option.some.injEq] at hr
     subst hr
     obtain ⟨_,cs',h1,h2,h3⟩ := hL i x hx
     obtain ⟨_,hcl,hat⟩ := World.cells?_some h1
     have hk : k < s:=by rw [← hen x]; exact (List.getElem?_eq_some_iff.1 hc).1
     have hv : cs'[k]? = some (cs'[k]'(by omega)) := List.getElem?_eq_getElem (by omega)
     have := hat k hk
     rw [hv,addr_add hspot.1,addr_add (by rfl)] at this
     simp only at this
     rw [Nat.add_assoc] at this
     obtain ⟨h4,h5⟩ := h3 k c _ hc hv
     exact ⟨_,this,h4,h5⟩
   have hll : (L.map en).length = len:=by simp [hl]
   have := Rp.sl (w := w) (X := fun _=>False) (s := s) (rows := L.map en) a.block a.off cap (fun i k=>(w.cell? ⟨a.block,a.off + (i * s + k),none⟩).getD undef) (fun h=>h) hspot.2 (by omega) (fun i row hr=>by
     rw [List.getElem?_map] at hr
     cases hx : L[i]? with
     |none=>rw [hx] at hr; cases hr
     |some x=>rw [hx] at hr; simp only [Option.map_some,Option.some.injEq] at hr; subst hr; exact hen x) (fun i k row c hr hc=>by
     obtain ⟨u,h1,_⟩ := cell i k row c hr hc; rw [h1]; rfl) (fun i k row c hr hc=>by
     obtain ⟨u,h1,h2,_⟩ := cell i k row c hr hc; rw [h1]; exact h2) (fun i k row c hr hc=>by
     obtain ⟨u,h1,_,h2⟩ := cell i k row c hr hc; rw [h1]; exact h2)
   rw [← hav,hll] at this
   exact this
theorem trod_fields {t : TypeId} {fs : Array Field} {base n : Nat} {sp : Nat → Bool} {held : Bool} {cs : List Value} {y : DataW H × List MemPlace} (ht : P.underlying t = some (.struct fs)) (hone : oneCellFields P fs = true) (hC : P.cellsOf t = fs.size)
  (h : DataW.trod enc P w base sp held n t cs = some y) : cs.length = fs.size ∧ ∀ (j : Nat) (f : Field),fs[j]? = some f → ∃ (v : Value) (n' : Nat) (z : DataW H × List MemPlace),cs[j]? = some v ∧ DataW.trod enc P w base sp held n' f.type [v] = some z := by
 obtain ⟨ys,n',_,_,hlen,hyl,hf⟩ := DataW.trod_struct ht h
 refine ⟨hlen.trans hC,fun j f hj=>?_⟩
 obtain ⟨ho,hk⟩ := hone_of hone j f hj
 have hjl : j < fs.size := (Array.getElem?_eq_some_iff.1 hj).1
 have hv : cs[j]? = some (cs[j]'(by omega)) := List.getElem?_eq_getElem (by omega)
 have h1 := hf j f hj
 rw [ho,hk] at h1
 have hone' : (cs.drop j).take 1 = [cs[j]'(by omega)] := by
  rw [List.drop_eq_getElem_cons (by omega)]
  rfl
 rw [hone'] at h1
 have hys : ys[j]? = some (ys[j]'(by omega)) := List.getElem?_eq_getElem (by omega)
 exact ⟨_,n',_,hv,h1.trans hys⟩
theorem cells_vs {row : List SV} {cs : List Value} (h : row = cs.map .v) (h1 : ∀ u ∈ cs,u.oneCell' = true) : Cells w row cs := by
 subst h
 refine ⟨by simp,fun k c u hc hu=>?_⟩
 rw [List.getElem?_map,hu] at hc
 simp only [Option.map_some,Option.some.injEq] at hc
 subst hc
 exact ⟨h1 u (List.mem_of_getElem? hu),.v _⟩
theorem list_of_get {cs vs : List Value} (hl : cs.length = vs.length) (h : ∀ (j : Nat) (v : Value),vs[j]? = some v → cs[j]? = some v) : cs = vs := by
 apply List.ext_getElem?
 intro j
 cases hv : vs[j]? with
 |some v=>exact h j v hv
 |none =>
  rw [List.getElem?_eq_none_iff] at hv ⊢
  omega
theorem Dec.arg {t : TypeId} {α : Type} {sv : α → SV} {wf : α → Prop} (hd : Dec H enc P w t (fun a=>[sv a]) wf) {v : Value} (hv : v.oneCell' = true) {base : Nat} {sp : Nat → Bool} {held : Bool} {d : DataW H} {p : List MemPlace} (h : DataW.Trod enc P w base sp held t v d p) :
  ∃ a,wf a ∧ R w (fun _=>False) (fun _=>nilB) (sv a) v := by
 obtain ⟨n,hn⟩ := h
 obtain ⟨a,ha,hl,hc⟩ := hd _ _ _ _ _ _ hn
 rw [cells_one hv] at hl hc
 exact ⟨a,ha,.p (hc 0 _ _ rfl rfl).2⟩
theorem okWide_slice1 {base : Nat} {r : Reach} {t e : TypeId} {v : Value} (ht : P.underlying t = some (.slice e)) (h : Value.okWide P w r base t v) : v.oneCell' = true := by
 obtain ⟨a,l,c,rfl⟩ := okWide_slice ht h; rfl
theorem okWide_int1 {base : Nat} {r : Reach} {t : TypeId} {k : IntKind} {v : Value} (ht : P.underlying t = some (.int k)) (h : Value.okWide P w r base t v) : v.oneCell' = true := by
 obtain ⟨a,rfl⟩ := okWide_int ht h; rfl
theorem Holds.calls {f : FuncId} {args : List SV} {x : Value} (h : Holds P f args (.v x) []) (hG : Grd P w) {vs : List Value} (hl : vs.length = args.length) (ha : ∀ (i : Nat) (c : SV) (u : Value),args[i]? = some c → vs[i]? = some u → R w (fun _=>False) (fun _=>nilB) c u) :
  Calls P f vs.toArray w fun e w'=>e = .returned x ∧ Below w.heap.size w w' :=
 (h w (fun _=>False) vs hG (fun _ hf=>hf.elim) hl ha).mono fun e w' hp=>by
  obtain ⟨v,β,rfl,hb,_,hR,_⟩ := hp
  have := hR.v_inv
  subst this
  exact ⟨rfl,hb⟩
end
section
variable {H : Type} {enc : TypeId × Value → H} {P : Program}
theorem post_of_below {f : Func} {s : ChangeSpec} {apart fresh handsOn again : Bool} {W W' : World} {args : Array Value} {v : Value} {ds gs : List (DataW H)} {before pa pv : List MemPlace}
  (hW : DataW.Whole enc P f.params.toList s.vars apart W args.toList ds gs before)
  (hres : ∀ (b : Nat) (sp : Nat → Bool) (hd : Bool),DataW.TrodAll enc P W' b sp hd f.resultTypes.toList (v.resultList f.resultTypes.size) (s.fn H (ds ++ gs)).results [])
  (hargs : ∀ sp : Nat → Bool,(∀ p ∈ before,sp p.block = true) → DataW.TrodAll enc P W' 0 sp true f.params.toList args.toList (s.fn H (ds ++ gs)).args pa)
  (hvars : ∀ sp : Nat → Bool,(∀ p ∈ before,sp p.block = true) → DataW.TrodVars enc P W' sp s.vars (s.fn H (ds ++ gs)).vars pv)
  (hps : before = pa ++ pv) (hb : Below W.heap.size W W')
  (hok : ∀ (j : Nat) (t : TypeId) (r : Value),f.resultTypes[j]? = some t → (v.resultList f.resultTypes.size)[j]? = some r → Value.okWide P W' .any 0 t r) :
  s.post enc P f apart fresh handsOn again W args v W' := by
 have hlt : ∀ p ∈ before,p.block < W.heap.size := fun p hp=>hW.lt p hp
 have hold : ∀ p ∈ before,(fun b=>decide (b < W.heap.size)) p.block = true := fun p hp=>by simpa using hlt p hp
 refine ⟨ds,gs,before,[],pa,pv,hW,hres _ _ _,hargs _ hold,hvars _ hold,World.keptBut_mono (fun p hp=>⟨hp,?_⟩) (hb.frame (· ∈ before)),fun _=>?_⟩
 ·rw [hps,List.mem_append] at hp
  exact Or.inr hp
 ·obtain ⟨_,_,_,_,_,hz,hn⟩ := hW
  refine ⟨hok,_,_,([] ++ pa) ++ pv,⟨[] ++ pa,pv,trodAll_append (hargs _ (fun _ _=>rfl)) (hres _ _ _),hvars _ (fun _ _=>rfl),rfl,?_,?_⟩,?_⟩
  ·intro b off hp
   have hin : MemPlace.cell b off ∈ before:=by rw [hps]; simpa using hp
   rw [hb.frozen (hlt _ hin)]
   exact hz b off hin
  ·intro ha
   have := hn ha
   rw [hps] at this
   simpa using this
  ·intro p hp _
   rw [hps]
   simpa using hp
theorem below_args {W W' : World} (hl : laidOutB P = true) (hb : Below W.heap.size W W') (sp : Nat → Bool) : ∀ {ts : List TypeId} {vs : List Value} {ds : List (DataW H)} {ps : List MemPlace},(ts.all fun t=>P.readableRec t && decide (t < P.types.size)) = true →
  DataW.TrodAll enc P W 0 (fun _=>true) true ts vs ds ps → (∀ x ∈ ps,x.block < W.heap.size) → (∀ p ∈ ps,sp p.block = true) → DataW.TrodAll enc P W' 0 sp true ts vs ds ps
 | [],[],[],_,_,h,_,_=>h
 | [],[],_ :: _,_,_,h,_,_=>h.elim
 | [],_ :: _,_,_,_,h,_,_=>h.elim
 | _ :: _,[],_,_,_,h,_,_=>h.elim
 | _ :: _,_ :: _,[],_,_,h,_,_=>h.elim
 |t :: ts,v :: vs,d :: ds,ps,hr,h,hlt,hsp=>by
  obtain ⟨p,q,h1,h2,rfl⟩ := h
  simp only [List.all_cons,Bool.and_eq_true,decide_eq_true_eq] at hr
  refine ⟨p,q,?_,below_args hl hb sp hr.2 h2 (fun x hx=>hlt x (by simp [hx])) (fun x hx=>hsp x (by simp [hx])),rfl⟩
  exact WideElems.Trod_stays hl hr.1.1 hr.1.2 h1 (fun x hx=>hb.same (hlt x (by simp [hx]))) (fun x hx=>hsp x (by simp [hx]))
theorem law_post {tb : TypeId} {f : Func} {s : ChangeSpec} {apart fresh handsOn again : Bool} {W W' : World} {args : Array Value} {b : Bool} {ds gs : List (DataW H)} {before : List MemPlace} (hl : laidOutB P = true)
  (hW : DataW.Whole enc P f.params.toList s.vars apart W args.toList ds gs before) (hvs : s.vars = []) (hrt : f.resultTypes = #[tb]) (htb : P.underlying tb = some .bool) (hread : (f.params.toList.all fun t=>P.readableRec t && decide (t < P.types.size)) = true)
  (hres : (s.fn H (ds ++ gs)).results = [.lit (.bool b)]) (hargs : (s.fn H (ds ++ gs)).args = ds) (hvars : (s.fn H (ds ++ gs)).vars = []) (hb : Below W.heap.size W W') :
  s.post enc P f apart fresh handsOn again W args (.bool b) W' := by
 have hW' := hW
 obtain ⟨p,q,hA,hV,rfl,hfz,hnd⟩ := hW
 rw [hvs] at hV
 obtain ⟨rfl,rfl⟩ := trodVars_none hV
 have hlt : ∀ x ∈ p,x.block < W.heap.size := fun x hx=>hW'.lt x (by simp [hx])
 refine post_of_below (pa := p) (pv := []) hW' (fun bb sp hd=>?_) (fun sp hsp=>?_) (fun sp hsp=>?_) rfl hb (fun j t r h1 h2=>?_)
 ·rw [hres,hrt]
  exact trodAll_cons_mk (shut_bool htb _) trodAll_mk0
 ·rw [hargs]
  exact below_args hl hb sp hread hA hlt (fun x hx=>hsp x (by simp [hx]))
 ·rw [hvars,hvs]; rfl
 ·exact ok_one hrt rfl (okWide_bool_mk htb _) j t r h1 h2
end
end Go.Vc

namespace Go.Proofs.YtjjbcoigaejoaaaGreat
open Go.Vc
attribute [local go_sem] St.runR St.runW St.stepV offV St.step St.stepU St.stepG mkCond guardB St.prK St.pr St.prLen St.eff St.callE St.callD St.callF St.callL aI aS aR aC St.isM St.argL Ctr.pure Ctr.lend Ctr.move Ctr.isL Ctr.wri pur len lentBy St.lentV St.lent1 nthS argsR restOf obsR pairs swapL unObs backL St.resL erL SV.ren1 SV.up SV.up2 Ob.up St.fzL cellIds partIds St.intoRow SV.ownId St.fz SV.fz1 St.prep St.mvL St.mv SV.re1 rnOk St.prEq vals eqCells scEq Value.kd St.prStr St.prCut cutR St.bnd St.prMin St.bld isShift outL retL outJ oR oC oE oD SV.upq SV.isSl SV.shut St.deepK St.dpArg St.deepQ absC Ob.pl St.ev St.get St.put St.new St.kill SV.kill SV.kill1 Ob.kill St.app St.wrt St.rowsOf St.res St.killL lk er argsL SV.strip SV.need SV.share SV.share1 SV.owns SV.owns1 SV.owns2 SV.good SV.good1 SV.rok SV.rok1 SV.rok2 SV.isV SV.isV2 nodupN SV.cells SV.one SV.pur Ob.pb partsIn rowsIn splice cellsAt dstOk scal2 scal1 thenK blockK retK outK outs okC okL okA okT nilC nilL nilA nilT keepC keepL keepA keepT St.runG St.dltK St.least St.clean St.final St.hide offK badS badO SV.refs SV.leaf SV.leaf2 Ob.refs dlOk fpAt Go.Vc.cover tups SV.ofAgg St.out outC subL St.has rng wr Value.oneCell' Option.isSome_some Option.isSome_none List.nil_append Bool.false_eq_true List.map_cons List.map_nil List.all_cons List.all_nil List.length_cons List.length_nil List.drop_zero List.drop_succ_cons List.take_succ_cons List.take_zero List.drop_nil List.take_nil List.getElem?_cons_zero List.getElem?_cons_succ List.getElem?_nil List.cons_append List.nil_append List.append_nil List.append_assoc List.flatMap_cons List.flatMap_nil List.contains_cons List.contains_nil List.set_cons_zero List.set_cons_succ List.getElem?_toArray Option.getD_some Option.getD_none Option.map_some Option.map_none Option.bind_some Option.some.injEq Prod.mk.injEq if_true if_false true_and and_true and_self and_false false_and Bool.and_false Bool.false_and Bool.or_true Bool.true_or Bool.or_false Bool.false_or ne_eq not_true_eq_false not_false_eq_true decide_true decide_false List.mem_cons List.not_mem_nil List.filter_cons List.filter_nil List.any_cons List.any_nil List.isEmpty_nil List.isEmpty_cons Option.getD_none or_false false_or true_or or_true forall_eq_or_imp forall_eq reduceCtorEq exists_eq exists_eq' exists_eq_left' exists_eq_left exists_eq_right exists_eq_right' imp_self implies_true Bool.and_true Bool.true_and Bool.and_self beq_self_eq_true List.replicate_succ List.replicate_zero forall_const false_implies pickB_or pickB_and beqT beqF Int.toNat_natCast List.length_map List.length_replicate ge_iff_le gt_iff_lt decide_eq_true_eq decide_eq_false_iff_not Bool.and_eq_true Bool.or_eq_true Bool.not_eq_true' Bool.not_eq_false' condG List.toList_toArray Bool.or_eq_false_iff Bool.and_eq_false_iff Int.not_lt Int.not_le beq_iff_eq beq_eq_false_iff_ne bne_iff_ne bne_eq_false_iff_eq ne_eq Bool.not_true Bool.not_false exists_and_left
section
open Go.Vc
attribute [local irreducible] Go.Vc.WP
attribute [local go_sem] cx0_t cx0_c
structure Frame where
 name : ByteArray
 line : Int
deriving DecidableEq
def encFrame (x : Frame) : List SV := [.v (.string x.name),.v (.int .i64 x.line)]
def oneFrame : List SV → Frame
 | [.v (.string name),.v (.int _ line)]=>⟨name,line⟩
 | _=>⟨⟨#[]⟩,0⟩
def decFrame (rows : List (List SV)) : List Frame := rows.map oneFrame
theorem oneFrame_enc (x : Frame) : oneFrame (encFrame x) = x := rfl
theorem decFrame_enc (L : List Frame) : decFrame (L.map encFrame) = L := by
 unfold decFrame
 rw [List.map_map]
 exact List.map_id'' oneFrame_enc L
theorem isV_Frame {e s : Nat} (L : List Frame) : (Ob.sl e s (L.map encFrame)).isV ↔ True := iff_true_intro (by
 intro row hr c hc
 obtain ⟨n,_,rfl⟩ := List.mem_map.1 hr
 simp only [encFrame,List.mem_cons,List.not_mem_nil,or_false] at hc
 rcases hc with rfl|rfl <;> exact ⟨_,rfl⟩)
def keqFrame : Ctr := pur (fun args=>(oneFrame (aC args 0),oneFrame (aC args 1))) (fun x=>[.agg (encFrame x.1),.agg (encFrame x.2)]) (fun _=>True) (fun _ x=>.v (.bool (decide (x.1 = x.2)))) (fun _ _=>[])
theorem ceqFrame : Cn Tryz.prog 93 keqFrame := by
 refine Cn.pur Tryz.func93 (by kernel_rfl) rfl fun d x _=>?_
 obtain ⟨⟨a0,a1⟩,⟨b0,b1⟩⟩ := x
 refine Holds.go (c := cx0) Tryz.func93 rfl Tryz.results93 Tryz.ntmps93 (by omega) (by simp) rfl ?_
 intro X0 w0
 simp only [encFrame]
 (repeat' (first|apply zS|apply zB|((first|apply zR|apply zC|apply zT|apply zE|apply zK);simp only [go_sem])|apply And.intro|intro _))
 all_goals simp_all
section
open Go.RowKit Go.WideShapes Go.ChangeShapes Go.Deep
end
end
section
open Go.Vc
attribute [local irreducible] Go.Vc.WP
attribute [local go_sem] cx0_t cx0_c
structure Node where
 parent : Int
 name : ByteArray
 line : Int
deriving DecidableEq
def encNode (x : Node) : List SV := [.v (.int .i64 x.parent),.v (.string x.name),.v (.int .i64 x.line)]
def oneNode : List SV → Node
 | [.v (.int _ parent),.v (.string name),.v (.int _ line)]=>⟨parent,name,line⟩
 | _=>⟨0,⟨#[]⟩,0⟩
def decNode (rows : List (List SV)) : List Node := rows.map oneNode
theorem oneNode_enc (x : Node) : oneNode (encNode x) = x := rfl
theorem decNode_enc (L : List Node) : decNode (L.map encNode) = L := by
 unfold decNode
 rw [List.map_map]
 exact List.map_id'' oneNode_enc L
theorem isV_Node {e s : Nat} (L : List Node) : (Ob.sl e s (L.map encNode)).isV ↔ True := iff_true_intro (by
 intro row hr c hc
 obtain ⟨n,_,rfl⟩ := List.mem_map.1 hr
 simp only [encNode,List.mem_cons,List.not_mem_nil,or_false] at hc
 rcases hc with rfl|rfl|rfl <;> exact ⟨_,rfl⟩)
noncomputable def cxinNode := mkX [(93,keqFrame)] (COk.cons ceqFrame (COk.nil _))
theorem cxinNode_t : cxinNode.tys = tys := rfl
theorem cxinNode_c : cxinNode.C = [(93,keqFrame)] := rfl
attribute [local go_sem] cxinNode_t cxinNode_c keqFrame
attribute [local go_sem] oneFrame encFrame
section
attribute [local go_sem] oneNode
end
def keqNode : Ctr := pur (fun args=>(oneNode (aC args 0),oneNode (aC args 1))) (fun x=>[.agg (encNode x.1),.agg (encNode x.2)]) (fun _=>True) (fun _ x=>.v (.bool (decide (x.1 = x.2)))) (fun _ _=>[])
theorem ceqNode : Cn Tryz.prog 68 keqNode := by
 refine Cn.pur Tryz.func68 (by kernel_rfl) rfl fun d x _=>?_
 obtain ⟨⟨a0,a1,a2⟩,⟨b0,b1,b2⟩⟩ := x
 refine Holds.go (c := cxinNode) Tryz.func68 rfl Tryz.results68 Tryz.ntmps68 (by omega) (by simp) rfl ?_
 intro X0 w0
 simp only [encNode]
 (repeat' (first|apply zS|apply zB|((first|apply zR|apply zC|apply zT|apply zE|apply zK);simp only [go_sem])|apply And.intro|intro _))
 all_goals simp_all
noncomputable def cxeqNode : Cx := { P := Tryz.prog,tys := tys,C := [(68,keqNode)],hty := tysOk,hC := COk.cons ceqNode (COk.nil _) }
theorem cxeqNode_t : cxeqNode.tys = tys := rfl
theorem cxeqNode_c : cxeqNode.C = [(68,keqNode)] := rfl
def keqNodeS : Ctr := pur (fun args=>(decNode (aR args 0),decNode (aR args 1))) (fun x=>[.sl 3 (x.1.map encNode),.sl 3 (x.2.map encNode)]) (fun x=>x.1.length ≤ 4398046511104) (fun _ x=>.v (.bool (decide (x.1 = x.2)))) (fun _ _=>[])
section
attribute [local go_sem] cxeqNode_t cxeqNode_c keqNode oneNode
theorem ceqNodeS : Cn Tryz.prog 45 keqNodeS := by
 refine Cn.pur Tryz.func45 (by kernel_rfl) rfl fun d x hL=>?_
 obtain ⟨L,M⟩ := x
 simp only at hL ⊢
 refine Holds.go (c := cxeqNode) Tryz.func45 rfl Tryz.results45 Tryz.ntmps45 (by omega) (by simp) rfl ?_
 intro X0 w0
 (repeat' (first|apply zS|apply zB|((first|apply zR|apply zC|apply zT|apply zE|apply zK);simp only [go_sem])|apply And.intro|intro _))
 ·simp; intro h; subst h; simp_all
 have hlen : L.length = M.length:=by omega
 refine zL (fun k : Nat=>⟨[(0,.sl 3 (L.map encNode)),(1,.sl 3 (M.map encNode)),(5,.v (.int .i64 k))],[]⟩) (fun k=>k ≤ L.length ∧ L.take k = M.take k) (fun k=>L.length - k) 0 (by simp) ?_ ?_
 ·simp only [go_sem]; rfl
 intro k ⟨hk,ht⟩
 by_cases hlt : k < L.length
 ·have h1 := rowAt_map encNode L k hlt
  have h2 := rowAt_map encNode M k (by omega)
  (repeat' (first|apply zS|apply zB|((first|apply zR|apply zC|apply zT|apply zE|apply zK| refine zD 10 (by kernel_rfl) (by kernel_rfl) ?_); simp only [go_sem,h1,h2,encNode])|apply And.intro|intro _))
  all_goals first|omega|skip
  ·rename_i hne
   rw [show decide (L = M) = false from decide_eq_false fun e=>by subst e; exact hne rfl]
  ·rename_i he
   refine ⟨k + 1,⟨by omega,?_⟩,by omega,rfl⟩
   have he' : L[k] = M[k] := he
   rw [List.take_succ_eq_append_getElem hlt,List.take_succ_eq_append_getElem (by omega : k < M.length),ht,he']
 ·(repeat' (first|apply zS|apply zB|((first|apply zR|apply zC|apply zT|apply zE|apply zK);simp only [go_sem])|apply And.intro|intro _))
  all_goals first|omega|skip
  rw [show decide (L = M) = true from decide_eq_true ?_]
  rw [show k = L.length by omega,List.take_length,hlen,List.take_length] at ht
  exact ht
end
section
attribute [local go_sem] oneNode
end
theorem extNode {a b : Node} (h0 : a.parent = b.parent) (h1 : a.name = b.name) (h2 : a.line = b.line) : a = b:=by cases a; cases b; simp_all
def mrkNode (v : Int) : Node := ⟨v,markT (v + 1),v + 1 + 1⟩
def marksNode (k : Int) (n : Nat) : List Node := (List.range n).map fun i : Nat=>mrkNode (k + 3 * (i : Int))
theorem marksNode_len (k : Int) (n : Nat) : (marksNode k n).length = n:=by simp [marksNode]
def halfNode (L : List Node) (k0 : Int) (k : Nat) : List Node := marksNode k0 k ++ L.drop k
theorem halfNode_len (L : List Node) (k0 : Int) (k : Nat) (h : k ≤ L.length) : (halfNode L k0 k).length = L.length:=by simp [halfNode,marksNode_len]; omega
theorem halfNode_set (L : List Node) (k0 : Int) (k : Nat) (h : k < L.length) : ((halfNode L k0 k).map encNode).set k (encNode (mrkNode (k0 + 3 * (k : Int)))) = (halfNode L k0 (k + 1)).map encNode := by
 rw [← List.map_set]
 congr 1
 unfold halfNode
 rw [List.set_append,if_neg (by simp [marksNode_len]),marksNode_len,Nat.sub_self,List.drop_eq_getElem_cons h,List.set_cons_zero]
 simp [marksNode,List.range_succ]
noncomputable def cxMkNode := mkX [(24,kmarkT)] (COk.cons cmarkT (COk.nil _))
theorem cxMkNode_t : cxMkNode.tys = tys := rfl
theorem cxMkNode_c : cxMkNode.C = [(24,kmarkT)] := rfl
attribute [local go_sem] cxMkNode_t cxMkNode_c kmarkT
def kmarkNodeS : Ctr := len [0] [] (fun args obs=>(decNode (oR obs 1000000),aI args 1)) (fun x=>[.own 1000000,.v (.int .i64 x.2)]) (fun x=>[(1000000,.sl 96 3 (x.1.map encNode))]) (fun x=>x.1.length ≤ 4398046511104 ∧ 0 ≤ x.2 ∧ x.2 ≤ 500000000000000)
 (fun _ x=>.v (.int .i64 (x.2 + 3 * x.1.length))) (fun _ _=>[]) (fun x=>[(1000000,.sl 96 3 ((marksNode x.2 x.1.length).map encNode))])
theorem cmarkNodeS : Cn Tryz.prog 48 kmarkNodeS := by
 refine Cn.len Tryz.func48 (by kernel_rfl) rfl fun d x hd hx=>?_
 obtain ⟨L,k0⟩ := x
 obtain ⟨hL,h0,h1⟩ := hx
 simp only at hL h0 h1 ⊢
 refine HoldsL.go (c := cxMkNode) Tryz.func48 rfl Tryz.results48 Tryz.ntmps48 (by omega) (by simp) rfl (by simp <;> omega) (by simp [SV.owns2,SV.owns,SV.owns1]) (by simp) rfl rfl (by simp) ?_
 intro X0 M w0
 (repeat' (first|apply zS|apply zB|((first|apply zR|apply zC|apply zT|apply zE|apply zK);simp only [go_sem])|apply And.intro|intro _))
 refine zL (fun k : Nat=>⟨[(0,.own 1000000),(1,.v (.int .i64 (k0 + 3 * (k : Int)))),(5,.v (.int .i64 k))],[(1000000,.sl 96 3 ((halfNode L k0 k).map encNode))]⟩) (fun k=>k ≤ L.length) (fun k=>L.length - k) 0 (by omega) ?_ ?_
 ·have e : halfNode L k0 0 = L:=by simp [halfNode,marksNode]
  rw [e]; (simp only [go_sem] <;> (first|(and_intros <;> rfl)|simp))
 intro k hk
 have h2 := halfNode_len L k0 k hk
 by_cases hlt : k < L.length
 ·have h3 := halfNode_set L k0 k hlt
  rw [encNode,mrkNode] at h3
  simp only at h3
  have h4 := rowAt_map encNode (halfNode L k0 k) k (by omega)
  have h5 : ∀ r : List SV,Go.Vc.rowAt (((halfNode L k0 k).map encNode).set k r) k = r := fun r=>rowAt_set _ _ _ (by rw [List.length_map]; omega)
  (repeat' (first|apply zS|apply zB|((first|apply zR|apply zC|apply zT|apply zE|apply zK);simp only [go_sem,h2,h3,h4,h5,encNode,List.set_set,List.length_set])|apply And.intro|intro _))
  all_goals first|omega|skip
  refine ⟨k + 1,by omega,by omega,⟨?_,rfl⟩,rfl⟩
  rw [show k0 + 3 * (k : Int) + 1 + 1 + 1 = k0 + 3 * ((k + 1 : Nat) : Int) by omega]
 ·have h5 : halfNode L k0 k = marksNode k0 L.length:=by rw [show k = L.length by omega]; simp [halfNode]
  have h6 := marksNode_len k0 L.length
  (repeat' (first|apply zS|apply zB|((first|apply zR|apply zC|apply zT|apply zE|apply zK);simp only [go_sem,h2,h5,h6])|apply And.intro|intro _))
  all_goals first|omega|skip
  all_goals rw [show k = L.length by omega]
def kheldNodeS : Ctr := pur (fun args=>(decNode (aR args 0),aI args 1)) (fun x=>[.sl 3 (x.1.map encNode),.v (.int .i64 x.2)]) (fun x=>x.1.length ≤ 4398046511104 ∧ 0 ≤ x.2 ∧ x.2 ≤ 500000000000000)
 (fun _ x=>.v (.int .i64 (if x.1 = marksNode x.2 x.1.length then x.2 + 3 * x.1.length else -1))) (fun _ _=>[])
theorem cheldNodeS : Cn Tryz.prog 49 kheldNodeS := by
 refine Cn.pur Tryz.func49 (by kernel_rfl) rfl fun d x hx=>?_
 obtain ⟨L,k0⟩ := x
 obtain ⟨hL,h0,h1⟩ := hx
 simp only at hL h0 h1 ⊢
 refine Holds.go (c := cxMkNode) Tryz.func49 rfl Tryz.results49 Tryz.ntmps49 (by omega) (by simp) rfl ?_
 intro X0 w0
 (repeat' (first|apply zS|apply zB|((first|apply zR|apply zC|apply zT|apply zE|apply zK| refine zD 9 (by decide +kernel) (by kernel_rfl) ?_); simp only [go_sem])|apply And.intro|intro _))
 refine zL (fun k : Nat=>⟨[(0,.sl 3 (L.map encNode)),(1,.v (.int .i64 (k0 + 3 * (k : Int)))),(5,.v (.int .i64 k))],[]⟩) (fun k=>k ≤ L.length ∧ L.take k = marksNode k0 k) (fun k=>L.length - k) 0 (by simp [marksNode]) ?_ ?_
 ·(simp only [go_sem] <;> (first|(and_intros <;> rfl)|simp))
 intro k ⟨hk,ht⟩
 by_cases hlt : k < L.length
 ·have h3 := rowAt_map encNode L k hlt
  (repeat' (first|apply zS|apply zB|((first|apply zR|apply zC|apply zT|apply zE|apply zK| refine zD 9 (by decide +kernel) (by kernel_rfl) ?_); simp only [go_sem,h3,encNode])|apply And.intro|intro _))
  all_goals first|omega|skip
  ·rename_i hne
   rw [if_neg]
   intro e
   have e2 : L[k] = (marksNode k0 L.length)[k]'(by rw [marksNode_len]; exact hlt):=by congr 1
   exact hne (by rw [e2]; simp [marksNode,mrkNode])
  ·rename_i hne
   rw [if_neg]
   intro e
   have e2 : L[k] = (marksNode k0 L.length)[k]'(by rw [marksNode_len]; exact hlt):=by congr 1
   exact hne (by rw [e2]; simp [marksNode,mrkNode])
  ·rename_i hne
   rw [if_neg]
   intro e
   have e2 : L[k] = (marksNode k0 L.length)[k]'(by rw [marksNode_len]; exact hlt):=by congr 1
   exact hne (by rw [e2]; simp [marksNode,mrkNode])
  ·rename_i g0 g1 g2
   refine ⟨k + 1,⟨by omega,?_⟩,by omega,?_,rfl⟩
   ·have he : L[k] = mrkNode (k0 + 3 * (k : Int)) := extNode g0 g1 g2
    rw [List.take_succ_eq_append_getElem hlt,ht,he]; simp [marksNode,List.range_succ]
   ·rw [show k0 + 3 * (k : Int) + 1 + 1 + 1 = k0 + 3 * ((k + 1 : Nat) : Int) by omega]
 ·(repeat' (first|apply zS|apply zB|((first|apply zR|apply zC|apply zT|apply zE|apply zK| refine zD 9 (by decide +kernel) (by kernel_rfl) ?_); simp only [go_sem])|apply And.intro|intro _))
  all_goals first|omega|skip
  rw [show k = L.length by omega,List.take_length] at ht
  rw [if_pos ht,show k = L.length by omega]
end
end Go.Proofs.YtjjbcoigaejoaaaGreat
namespace Go.Pl
open Go
section
variable {α : Type} (lt : α → α → Bool)
variable {lt}
end
end Go.Pl

namespace Go.Proofs.YtjjbcoigaejoaaaGreat
def frOk (f : Frame) : Bool := nameOk f.name && decide (0 ≤ f.line) && decide (f.line ≤ 59)
theorem frOk_iff {f : Frame} : frOk f = true ↔ nameOk f.name = true ∧ 0 ≤ f.line ∧ f.line ≤ 59:=by simp [frOk,and_assoc]
theorem nameOk_letters {s : ByteArray} (h : nameOk s = true) : (∀ c ∈ s.data.toList,97 ≤ c.toNat ∧ c.toNat ≤ 122) ∧ 1 ≤ s.size ∧ s.size ≤ 8 := by
 simp only [nameOk,Bool.and_eq_true,decide_eq_true_eq,List.all_eq_true] at h
 exact ⟨fun c hc=>by have := h.1.1 c hc; simpa [letter] using this,h.1.2,h.2⟩
end Go.Proofs.YtjjbcoigaejoaaaGreat

namespace Go.Proofs.YtjjbcoigaejoaaaGreat
def szA (n : Nat) (l : Int) : Int := if l - n < 0 then -1 else l - n
def szL : List (Int → Int) → Int → Int
 | [],l=>l
 |f :: fs,l=>if f l < 0 then -1 else szL fs (f l)
theorem szL_drop (F : List (Int → Int)) (k : Nat) (l : Int) (h : k < F.length) : szL (F.drop k) l = if F[k] l < 0 then -1 else szL (F.drop (k + 1)) (F[k] l) := by
 rw [List.drop_eq_getElem_cons h]; rfl
def szList (F : List (Int → Int)) (l : Int) : Int := if l - F.length < 0 then -1 else szL F (l - F.length)
def Szf (f : Int → Int) : Prop := ∀ l,0 ≤ l → -1 ≤ f l ∧ f l ≤ l
theorem szA_f (n : Nat) : Szf (szA n) := fun l h=>by unfold szA; split <;> omega
theorem szL_f : ∀ (F : List (Int → Int)),(∀ f ∈ F,Szf f) → Szf (szL F)
 | [],_,l,h=>by unfold szL; omega
 |f :: fs,hF,l,h=>by
  have h1 := hF f List.mem_cons_self l h
  unfold szL
  split
  ·omega
  ·have := szL_f fs (fun g hg=>hF g (List.mem_cons_of_mem _ hg)) (f l) (by omega)
   omega
theorem szList_f (F : List (Int → Int)) (hF : ∀ f ∈ F,Szf f) : Szf (szList F) := fun l h=>by
 unfold szList
 split
 ·omega
 ·have := szL_f F hF (l - F.length) (by omega)
  omega
theorem szL_ok : ∀ (F : List (Int → Int)) (l : Int),(∀ f ∈ F,Szf f) → 0 ≤ l → 0 ≤ szL F l → ∀ f ∈ F,∃ r,0 ≤ r ∧ r ≤ l ∧ 0 ≤ f r
 | [],l,_,_,_=>by simp
 |g :: fs,l,hF,h0,h=>by
  have h1 := hF g List.mem_cons_self l h0
  unfold szL at h
  split at h
  ·omega
  ·rename_i hg
   intro f hf
   rcases List.mem_cons.1 hf with rfl|hf
   ·exact ⟨l,h0,by omega,by omega⟩
   ·obtain ⟨r,a,b,c⟩ := szL_ok fs (g l) (fun g hg=>hF g (List.mem_cons_of_mem _ hg)) (by omega) h f hf
    exact ⟨r,a,by omega,c⟩
theorem szList_ok {F : List (Int → Int)} {l : Int} (hF : ∀ f ∈ F,Szf f) (h : 0 ≤ szList F l) : F.length ≤ l ∧ ∀ f ∈ F,∃ r,0 ≤ r ∧ r ≤ l ∧ 0 ≤ f r := by
 unfold szList at h
 split at h
 ·omega
 ·refine ⟨by omega,fun f hf=>?_⟩
  obtain ⟨r,a,b,c⟩ := szL_ok F (l - F.length) hF (by omega) h f hf
  exact ⟨r,a,by omega,c⟩
def szT (f g : Int → Int) (l : Int) : Int := if f l < 0 then -1 else g (f l)
theorem szT_f {f g : Int → Int} (hf : Szf f) (hg : Szf g) : Szf (szT f g) := fun l h=>by
 have h1 := hf l h
 unfold szT
 split
 ·omega
 ·have := hg (f l) (by omega); omega
theorem szT_ok {f g : Int → Int} (hf : Szf f) {l : Int} (h0 : 0 ≤ l) (h : 0 ≤ szT f g l) : 0 ≤ f l ∧ f l ≤ l ∧ 0 ≤ g (f l) := by
 have h1 := hf l h0
 unfold szT at h
 split at h <;> omega
theorem szGo_f : ∀ (L : List Nat),Szf (szGo L)
 | [],l,h=>by unfold szGo; omega
 |n :: L,l,h=>by
  unfold szGo
  split
  ·omega
  ·have := szGo_f L (l - n) (by omega); omega
end Go.Proofs.YtjjbcoigaejoaaaGreat

namespace Go.Proofs.YtjjbcoigaejoaaaGreat
open Go.Vc
attribute [local irreducible] Go.Vc.WP
attribute [local go_sem] cx0_t cx0_c
def keqS : Ctr := pur (fun args=>(decS (aR args 0),decS (aR args 1))) (fun x=>[.sl 1 (x.1.map encS),.sl 1 (x.2.map encS)]) (fun x=>x.1.length ≤ 4398046511104) (fun _ x=>.v (.bool (decide (x.1 = x.2)))) (fun _ _=>[])
theorem ceqS : Cn Tryz.prog 46 keqS := by
 refine Cn.pur Tryz.func46 (by kernel_rfl) rfl fun d x hx=>?_
 obtain ⟨L,M⟩ := x
 simp only at hx ⊢
 refine Holds.go (c := cx0) Tryz.func46 rfl Tryz.results46 Tryz.ntmps46 (by omega) (by simp) rfl ?_
 intro X0 w0
 (repeat' (first|apply zS|apply zB|((first|apply zR|apply zC|apply zT|apply zE|apply zK| refine zD 9 (by decide +kernel) (by kernel_rfl) ?_); simp only [go_sem])|apply And.intro|intro _))
 ·simp; intro h; subst h; simp_all
 have hlen : L.length = M.length:=by omega
 refine zL (fun k : Nat=>⟨[(0,.sl 1 (L.map encS)),(1,.sl 1 (M.map encS)),(5,.v (.int .i64 k))],[]⟩) (fun k=>k ≤ L.length ∧ L.take k = M.take k) (fun k=>L.length - k) 0 (by simp) ?_ ?_
 ·(simp only [go_sem] <;> (first|(and_intros <;> rfl)|simp))
 intro k ⟨hk,ht⟩
 by_cases hlt : k < L.length
 ·have h1 := rowAt_map encS L k hlt
  have h2 := rowAt_map encS M k (by omega)
  (repeat' (first|apply zS|apply zB|((first|apply zR|apply zC|apply zT|apply zE|apply zK| refine zD 9 (by decide +kernel) (by kernel_rfl) ?_); simp only [go_sem,h1,h2,encS])|apply And.intro|intro _))
  all_goals first|omega|skip
  ·rename_i hne
   rw [show decide (L = M) = false from decide_eq_false fun e=>by subst e; exact hne rfl]
  ·rename_i he
   refine ⟨k + 1,⟨by omega,?_⟩,by omega,rfl⟩
   rw [List.take_succ_eq_append_getElem hlt,List.take_succ_eq_append_getElem (by omega : k < M.length),ht,he]
 ·(repeat' (first|apply zS|apply zB|((first|apply zR|apply zC|apply zT|apply zE|apply zK| refine zD 9 (by decide +kernel) (by kernel_rfl) ?_); simp only [go_sem])|apply And.intro|intro _))
  all_goals first|omega|skip
  rw [show decide (L = M) = true from decide_eq_true ?_]
  rw [show k = L.length by omega,List.take_length,hlen,List.take_length] at ht
  exact ht
def marksS (k : Int) (n : Nat) : List ByteArray := (List.range n).map fun i : Nat=>markT (k + (i : Int))
theorem marksS_len (k : Int) (n : Nat) : (marksS k n).length = n:=by simp [marksS]
def halfS (L : List ByteArray) (k0 : Int) (k : Nat) : List ByteArray := marksS k0 k ++ L.drop k
theorem halfS_len (L : List ByteArray) (k0 : Int) (k : Nat) (h : k ≤ L.length) : (halfS L k0 k).length = L.length:=by simp [halfS,marksS_len]; omega
theorem halfS_set (L : List ByteArray) (k0 : Int) (k : Nat) (h : k < L.length) : ((halfS L k0 k).map encS).set k (encS (markT (k0 + k))) = (halfS L k0 (k + 1)).map encS := by
 rw [← List.map_set]
 congr 1
 unfold halfS
 rw [List.set_append,if_neg (by simp [marksS_len]),marksS_len,Nat.sub_self,List.drop_eq_getElem_cons h,List.set_cons_zero]
 simp [marksS,List.range_succ]
section
attribute [local go_sem] kmarkT
end
end Go.Proofs.YtjjbcoigaejoaaaGreat

namespace Go.Proofs.YtjjbcoigaejoaaaGreat
open Go.Vc
attribute [local irreducible] Go.Vc.WP
attribute [local go_sem] cx0_t cx0_c
attribute [local go_sem] decS_enc
def szvStr (L : List ByteArray) : Int → Int := szList (L.map fun s=>szA s.size)
def kszStr : Ctr := pur (fun args=>(decS (aR args 0),aI args 1)) (fun x=>[.sl 1 (x.1.map encS),.v (.int .i64 x.2)]) (fun x=>x.1.length ≤ maxLen ∧ (∀ s ∈ x.1,s.size ≤ maxLen) ∧ 0 ≤ x.2 ∧ x.2 ≤ 1048576)
 (fun _ x=>.v (.int .i64 (szvStr x.1 x.2))) (fun _ _=>[])
section
noncomputable def cxZs := mkX [] (COk.nil _)
theorem cxZs_t : cxZs.tys = tys := rfl
theorem cxZs_c : cxZs.C = [] := rfl
attribute [local go_sem] cxZs_t cxZs_c
theorem cszStr : Cn Tryz.prog 31 kszStr := by
 refine Cn.pur Tryz.func31 (by kernel_rfl) rfl fun d x hx=>?_
 obtain ⟨L,left⟩ := x
 obtain ⟨hL,hs,h0,h1⟩ := hx
 simp only at hL hs h0 h1 ⊢
 have hm : maxLen = 9223372036854775807 := rfl
 generalize hF : (L.map fun s=>szA s.size) = F
 have hlen : F.length = L.length:=by rw [← hF,List.length_map]
 have hsz : szvStr L left = szList F left:=by rw [← hF]; rfl
 rw [hsz]
 refine Holds.go (c := cxZs) Tryz.func31 rfl Tryz.results31 Tryz.ntmps31 (by omega) (by simp) rfl ?_
 intro X0 w0
 (repeat' (first|apply zS|apply zB|((first|apply zR|apply zC|apply zT|apply zE|apply zK);simp only [go_sem])|apply And.intro|intro _))
 all_goals first|omega|skip
 ·rename_i h; rw [szList,hlen,if_pos h]
 rename_i hge
 refine zL (fun s : Nat × Int=>⟨[(0,.sl 1 (L.map encS)),(1,.v (.int .i64 s.2)),(5,.v (.int .i64 s.1))],[]⟩)
  (fun s=>s.1 ≤ L.length ∧ 0 ≤ s.2 ∧ s.2 ≤ 1048576 ∧ szList F left = szL (F.drop s.1) s.2) (fun s=>L.length - s.1) (0,left - L.length)
  ⟨by simp,by simpa using hge,by simp only; omega,by rw [szList,hlen,if_neg (by omega)]; rfl⟩ ?_ ?_
 ·simp only [go_sem]; first|exact ⟨rfl,rfl⟩|rfl
 rintro ⟨k,r⟩ ⟨hk,hr0,hr1,he⟩
 simp only at hk hr0 hr1 he ⊢
 by_cases hlt : k < L.length
 ·have h2 := rowAt_map encS L k hlt
  have h3 := hs _ (List.getElem_mem hlt)
  have hFk : F[k]'(by omega) = szA L[k].size:=by subst hF; simp
  have h4 := szL_drop F k r (by omega)
  rw [hFk] at h4
  have hu : szA L[k].size r = if r - (L[k].size : Int) < 0 then -1 else r - (L[k].size : Int) := rfl
  by_cases h5 : r - (L[k].size : Int) < 0
  ·rw [if_pos h5] at hu
   rw [he,h4,hu,if_pos (by omega)]
   (repeat' (first|apply zS|apply zB|((first|apply zR|apply zC|apply zT|apply zE|apply zK);simp only [go_sem,h2,encS,h5])|apply And.intro|intro _))
   all_goals first|omega|skip
  ·rw [if_neg h5] at hu
   rw [hu,if_neg h5] at h4
   (repeat' (first|apply zS|apply zB|((first|apply zR|apply zC|apply zT|apply zE|apply zK);simp only [go_sem,h2,encS,h5])|apply And.intro|intro _))
   all_goals first|omega|exact ⟨(k + 1,r - L[k].size),⟨by simp only; omega,by simp only; omega,by simp only; omega,by rw [he,h4]⟩,by simp only; omega,rfl,rfl⟩|skip
 ·(repeat' (first|apply zS|apply zB|((first|apply zR|apply zC|apply zT|apply zE|apply zK);simp only [go_sem])|apply And.intro|intro _))
  all_goals first|omega|skip
  rw [he,List.drop_of_length_le (by omega)]
  rfl
end
def ktoSo : Ctr := pur (fun args=>decS (aR args 0)) (fun L=>[.sl 1 (L.map encS)]) (fun L=>L.length ≤ 2097152) (fun d _=>.own d) (fun d L=>[(d,.sl 9 1 (L.map encS))])
section
noncomputable def cxTso := mkX [] (COk.nil _)
theorem cxTso_t : cxTso.tys = tys := rfl
theorem cxTso_c : cxTso.C = [] := rfl
attribute [local go_sem] cxTso_t cxTso_c
theorem ctoSo : Cn Tryz.prog 38 ktoSo := by
 refine Cn.pur Tryz.func38 (by kernel_rfl) rfl fun d x hx=>?_
 rename List ByteArray=>L
 refine Holds.go (c := cxTso) Tryz.func38 rfl Tryz.results38 Tryz.ntmps38 (by omega) (by simp) rfl ?_
 intro X0 w0
 (repeat' (first|apply zS|apply zB|((first|apply zR|apply zC|apply zT|apply zE|apply zK);simp only [go_sem])|apply And.intro|intro _))
 all_goals first|omega|skip
 refine zL (fun k : Nat=>⟨[(0,.sl 1 (L.map encS)),(3,.own 7),(4,.v (.int .i64 k))],[(7,.sl 9 1 (filled encS [.v (.string ⟨#[]⟩)] L k))]⟩) (fun k=>k ≤ L.length) (fun k=>L.length - k) 0 (by omega) ?_ ?_
 ·rw [filled_zero]; simp only [go_sem]; rfl
 intro k hk
 by_cases hlt : k < L.length
 ·have h1 := rowAt_map encS L k hlt
  have h2 := filled_len encS [.v (.string ⟨#[]⟩)] L k hk
  have h3 := filled_row encS [.v (.string ⟨#[]⟩)] L k hlt
  have h4 := filled_set encS [.v (.string ⟨#[]⟩)] L k hlt
  rw [encS] at h4
  (repeat' (first|apply zS|apply zB|((first|apply zR|apply zC|apply zT|apply zE|apply zK);simp only [go_sem,h1,h2,h3,h4,encS])|apply And.intro|intro _))
  all_goals first|omega|skip
  exact ⟨k + 1,by omega,by omega,rfl,rfl⟩
 ·have h2 := filled_len encS [.v (.string ⟨#[]⟩)] L k hk
  have h5 : filled encS [.v (.string ⟨#[]⟩)] L k = L.map encS:=by rw [show k = L.length by omega]; exact filled_all _ _ _
  (repeat' (first|apply zS|apply zB|((first|apply zR|apply zC|apply zT|apply zE|apply zK);simp only [go_sem,h2,h5])|apply And.intro|intro _))
  all_goals first|omega|skip
end
def kmarkSE : Ctr := len [0] [] (fun args obs=>(decS (oR obs 1000000),aI args 1,oE obs 1000000)) (fun x=>[.own 1000000,.v (.int .i64 x.2.1)]) (fun x=>[(1000000,.sl x.2.2 1 (x.1.map encS))]) (fun x=>x.1.length ≤ 4398046511104 ∧ 0 ≤ x.2.1 ∧ x.2.1 ≤ 500000000000000)
 (fun _ x=>.v (.int .i64 (x.2.1 + x.1.length))) (fun _ _=>[]) (fun x=>[(1000000,.sl x.2.2 1 ((marksS x.2.1 x.1.length).map encS))])
section
noncomputable def cxMse := mkX [(24,kmarkT)] (COk.cons cmarkT (COk.nil _))
theorem cxMse_t : cxMse.tys = tys := rfl
theorem cxMse_c : cxMse.C = [(24,kmarkT)] := rfl
attribute [local go_sem] cxMse_t cxMse_c kmarkT
theorem cmarkSE : Cn Tryz.prog 25 kmarkSE := by
 refine Cn.len Tryz.func25 (by kernel_rfl) rfl fun d x hd hx=>?_
 obtain ⟨L,k0,ee⟩ := x
 obtain ⟨hL,h0,h1⟩ := hx
 simp only at hL h0 h1 ⊢
 refine HoldsL.go (c := cxMse) Tryz.func25 rfl Tryz.results25 Tryz.ntmps25 (by omega) (by simp) rfl (by simp <;> omega) (by simp [SV.owns2,SV.owns,SV.owns1]) (by simp) rfl rfl (by simp) ?_
 intro X0 M w0
 (repeat' (first|apply zS|apply zB|((first|apply zR|apply zC|apply zT|apply zE|apply zK);simp only [go_sem])|apply And.intro|intro _))
 refine zL (fun k : Nat=>⟨[(0,.own 1000000),(1,.v (.int .i64 (k0 + k))),(5,.v (.int .i64 k))],[(1000000,.sl ee 1 ((halfS L k0 k).map encS))]⟩) (fun k=>k ≤ L.length) (fun k=>L.length - k) 0 (by omega) ?_ ?_
 ·have e : halfS L k0 0 = L:=by simp [halfS,marksS]
  rw [e]; (simp only [go_sem] <;> (first|(and_intros <;> rfl)|simp))
 intro k hk
 have h2 := halfS_len L k0 k hk
 by_cases hlt : k < L.length
 ·have h3 := halfS_set L k0 k hlt
  rw [encS] at h3
  have h4 := rowAt_map encS (halfS L k0 k) k (by omega)
  (repeat' (first|apply zS|apply zB|((first|apply zR|apply zC|apply zT|apply zE|apply zK);simp only [go_sem,h2,h3,h4,encS])|apply And.intro|intro _))
  all_goals first|omega|skip
  refine ⟨k + 1,by omega,by omega,⟨?_,rfl⟩,rfl⟩
  rw [show k0 + (k : Int) + 1 = k0 + ((k + 1 : Nat) : Int) by omega]
 ·have h5 : halfS L k0 k = marksS k0 L.length:=by rw [show k = L.length by omega]; simp [halfS]
  have h6 := marksS_len k0 L.length
  (repeat' (first|apply zS|apply zB|((first|apply zR|apply zC|apply zT|apply zE|apply zK);simp only [go_sem,h2,h5,h6])|apply And.intro|intro _))
  all_goals first|omega|skip
  rw [show k = L.length by omega]
end
end Go.Proofs.YtjjbcoigaejoaaaGreat

