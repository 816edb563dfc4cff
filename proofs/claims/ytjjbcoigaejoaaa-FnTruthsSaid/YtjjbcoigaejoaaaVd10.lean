/-
  DERIVED. Several texts of ours in one: VcMp, VpMap, VpBind, VtRunG, VtRunF, VtRunH, VtRunK, VcDf, VcDg, VcDh, VtCatI, VtOwnI, VcOt, VtIntI, VgFrameM, VtFSS, VtVst, VtStk3, VtPrf2.
-/
import Derived.Test.YtjjbcoigaejoaaaVd0
import Derived.Test.YtjjbcoigaejoaaaVd1
import Derived.Test.YtjjbcoigaejoaaaVd2
import Derived.Test.YtjjbcoigaejoaaaVd3
import Derived.Test.YtjjbcoigaejoaaaVd4
import Derived.Test.YtjjbcoigaejoaaaVd5
import Derived.Test.YtjjbcoigaejoaaaVd6
import Derived.Test.YtjjbcoigaejoaaaVd7
import Derived.Test.YtjjbcoigaejoaaaVd8
import Derived.Test.YtjjbcoigaejoaaaVd9
import Derived.MapKept
import Derived.WideMake
import Derived.Recover
import Derived.WalkKit
set_option linter.unusedSimpArgs false
set_option linter.unusedVariables false
set_option maxHeartbeats 1000000
set_option maxRecDepth 10000
namespace Go.Vc
open Go.MapKept
structure MapTy where
 key : Nat
 elem : Nat
 d : TypeDesc
 z : Value
structure MapOk (P : Program) (T : Nat) (m : MapTy) : Prop where
 map : P.underlying T = some (.map m.key m.elem)
 key : P.underlying m.key = some m.d
 zero : ∀ w,(zeroValue m.elem).run P w = .ok m.z w
theorem zero_run {P : Program} {T : Nat} {z : Value} (h : (P.info? T).map (·.zero) = some (some z)) (w : World) : (zeroValue T).run P w = .ok z w := by
 cases hi : P.info? T with
 |none=>rw [hi] at h; cases h
 |some i =>
  rw [hi] at h
  simp only [Option.map_some,Option.some.injEq] at h
  simp [zeroValue,Go.typeInfo,hi,h]
def keyB : TypeDesc → Value → Bool
 | .bool,.bool _=>true
 | .int k,.int k' _=>decide (k' = k)
 | .string,.string _=>true
 | _,_=>false
theorem keyB_ok {d : TypeDesc} {v : Value} (h : keyB d v = true) : IsKey d v := by
 cases d <;> cases v <;> simp_all [keyB,IsKey]
def sameB : Value → Value → Bool
 | .int k x,.int k' y=>decide (k = k') && decide (x = y)
 | .string x,.string y=>decide (x = y)
 | .bool x,.bool y=>x == y
 | _,_=>false
theorem sameB_iff {d : TypeDesc} {a b : Value} (ha : IsKey d a) (hb : IsKey d b) : sameB a b = true ↔ a = b := by
 cases d <;> cases a <;> cases b <;> simp_all [IsKey,sameB]
def findI (k : Value) : List (Value × Value) → Nat → Option (Nat × Value)
 | [],_=>none
 |e :: es,i=>if sameB k e.1 = true then some (i,e.2) else findI k es (i + 1)
def mget (k : Value) (es : List (Value × Value)) (z : Value) : Value := ((findI k es 0).map (·.2)).getD z
def mset (k v : Value) (es : List (Value × Value)) : List (Value × Value) := match findI k es 0 with
 |some (i,_)=>es.set i (k,v)
 |none=>es ++ [(k,v)]
def kv (e : MapEntry) : Value × Value := (e.key,e.val)
theorem findNow_eq {d : TypeDesc} {k : Value} (hk : IsKey d k) : ∀ (l : List MapEntry) (i : Nat),(∀ x ∈ l,IsKey d x.key) → Instr.findNow d k l i = some (findI k (l.map kv) i)
 | [],i,_=>rfl
 |e :: es,i,h=>by
  have he := h e List.mem_cons_self
  obtain ⟨r,hr,hiff⟩ := sameNow_of_keys hk he
  have hs := sameB_iff hk he
  have ih := findNow_eq hk es (i + 1) fun x hx=>h x (List.mem_cons_of_mem _ hx)
  simp only [List.map_cons,findI,kv]
  unfold Instr.findNow
  rw [hr]
  cases r with
  |true =>
   have := hiff.1 rfl
   rw [if_pos (hs.2 this)]
  |false =>
   have : ¬ sameB k e.key = true := fun h2=>by have := hiff.2 (hs.1 h2); cases this
   rw [if_neg this]
   exact ih
theorem findI_at {k : Value} : ∀ (es : List (Value × Value)) (i j : Nat) (v : Value),findI k es i = some (j,v) → ∃ q,j = i + q ∧ ∃ e,es[q]? = some e ∧ sameB k e.1 = true ∧ e.2 = v
 | [],i,j,v,h=>by cases h
 |e :: es,i,j,v,h=>by
  rw [findI] at h
  split at h
  ·rename_i hs
   simp only [Option.some.injEq,Prod.mk.injEq] at h
   exact ⟨0,by omega,e,rfl,hs,h.2⟩
  ·obtain ⟨q,h1,x,h2,h3,h4⟩ := findI_at es (i + 1) j v h
   exact ⟨q + 1,by omega,x,by simpa using h2,h3,h4⟩
section
variable {P : Program} {w : World} {T b clock : Nat} {ents : Array MapEntry} {m : MapTy} {k v : Value}
theorem lookup_run (hm : MapOk P T m) (hb : w.heap[b]? = some (.map ents clock)) (hk : keyB m.d k = true) (hks : ((ents.toList.map kv).all fun e=>keyB m.d e.1) = true) : (Instr.lookup T (.map (some b)) k false).run P w = .ok (mget k (ents.toList.map kv) m.z) w := by
 have hk' := keyB_ok hk
 have hf := findNow_eq hk' ents.toList 0 fun x hx=>keyB_ok (List.all_eq_true.1 hks (kv x) (List.mem_map.2 ⟨x,hx,rfl⟩))
 have hc := Go.MapKept.run_checkKey (P := P) (w := w) hm.key hk' ents.isEmpty 9999
 have hr := Go.MapKept.run_findKey (P := P) (w := w) hm.key hf
 unfold mget
 cases hfi : findI k (ents.toList.map kv) 0 with
 |none =>
  rw [hfi] at hr
  simp [Instr.lookup,run_underlying hm.map,Go.MapKept.run_getObj_map hb,hc,hr,hm.zero,Result.andThen]
 |some x =>
  rw [hfi] at hr
  simp [Instr.lookup,run_underlying hm.map,Go.MapKept.run_getObj_map hb,hc,hr,Result.andThen]
theorem update_run (hm : MapOk P T m) (hb : w.heap[b]? = some (.map ents clock)) (hk : keyB m.d k = true) (hks : ((ents.toList.map kv).all fun e=>keyB m.d e.1) = true) :
  ∃ ents' clock',(Instr.mapUpdate T (.map (some b)) k v).run P w = .ok () { w with heap := w.heap.setIfInBounds b (.map ents' clock') } ∧ ents'.toList.map kv = mset k v (ents.toList.map kv) := by
 have hk' := keyB_ok hk
 have hf := findNow_eq hk' ents.toList 0 fun x hx=>keyB_ok (List.all_eq_true.1 hks (kv x) (List.mem_map.2 ⟨x,hx,rfl⟩))
 have hc := Go.MapKept.run_checkKey (P := P) (w := w) hm.key hk' false 9999
 have hr := Go.MapKept.run_findKey (P := P) (w := w) hm.key hf
 cases hfi : findI k (ents.toList.map kv) 0 with
 |none =>
  rw [hfi] at hr
  refine ⟨ents.push { key := k,val := v,born := clock },clock + 1,?_,?_⟩
  ·simp [Instr.mapUpdate,run_underlying hm.map,Go.MapKept.run_getObj_map hb,hc,hr,Go.MapKept.run_setObj_map _ hb,Result.andThen]
  ·unfold mset; rw [hfi]; simp [kv]
 |some x =>
  obtain ⟨i,u⟩ := x
  rw [hfi] at hr
  obtain ⟨q,hq,e,he,hs,_⟩ := findI_at _ _ _ _ hfi
  have hqi : q = i:=by omega
  subst hqi
  rw [List.getElem?_map] at he
  cases hx : ents.toList[q]? with
  |none=>rw [hx] at he; cases he
  |some x0 =>
   rw [hx] at he
   simp only [Option.map_some,Option.some.injEq] at he
   subst he
   have hx' : ents[q]? = some x0:=by simpa using hx
   have hk0 : IsKey m.d x0.key := keyB_ok (List.all_eq_true.1 hks (kv x0) (List.mem_map.2 ⟨x0,List.mem_of_getElem? hx,rfl⟩))
   have hke : x0.key = k := ((sameB_iff hk' hk0).1 hs).symm
   refine ⟨ents.modify q fun e=>{ e with key := k,val := v },clock,?_,?_⟩
   ·simp [Instr.mapUpdate,run_underlying hm.map,Go.MapKept.run_getObj_map hb,hc,hr,hx',hke,Go.MapKept.run_keyThatStays hk',Go.MapKept.run_setObj_map _ hb,Result.andThen]
   ·unfold mset; rw [hfi]
    apply List.ext_getElem?
    intro j
    simp only [List.getElem?_map,Array.getElem?_toList,Array.getElem?_modify,List.getElem?_set]
    by_cases hj : q = j
    ·subst hj
     have hlt : q < ents.size := (Array.getElem?_eq_some_iff.1 hx').1
     simp [hx',kv,hlt]
    ·simp [hj]
end
def St.stepM (mt : List (Nat × MapTy)) (tys : List (Nat × TyD)) (C : List (FuncId × Ctr)) (N : Nat) (ops : Array Oper) (o : Oper) (st : St) (K : St → Prop) : Prop :=
 match o.op with
 | .makeMap T none=>match o.dst with
  |some d=>o.guard.isNone = true ∧ d < N ∧ K (st.new d (.mp T []) (.own d))
  |none=>False
 | .lookup T x y false=>match lk T mt,st.ev x,st.ev y with
  |some m,.own id,.v k=>(match lk id st.hp with
   |some (.mp _ es)=>o.guard.isNone = true ∧ dstOk N o.dst = true ∧ keyB m.d k = true ∧ (es.all fun e=>keyB m.d e.1) = true ∧ K (st.put o.dst (.v (mget k es m.z)))
   | _=>False)
  | _,_,_=>False
 | .mapUpdate T x y z=>match lk T mt,st.ev x,st.ev y,st.ev z with
  |some m,.own id,.v k,.v u=>(match lk id st.hp with
   |some (.mp e es)=>o.guard.isNone = true ∧ o.dst.isNone = true ∧ keyB m.d k = true ∧ (es.all fun e=>keyB m.d e.1) = true ∧ K (st.wrt id (.mp e (mset k u es)))
   | _=>False)
  | _,_,_,_=>False
 | _=>st.step tys C N ops o K
def St.runM (mt : List (Nat × MapTy)) (tys : List (Nat × TyD)) (C : List (FuncId × Ctr)) (N : Nat) (ops : Array Oper) : List Oper → St → (St → Prop) → Prop
 | [],st,K=>K st
 |o :: l,st,K=>st.stepM mt tys C N ops o fun st'=>St.runM mt tys C N ops l st' K
theorem ObR.mp_form {w : World} {X : Nat → Prop} {β : Nat → BV} {v : BV} {e : Nat} {es : List (Value × Value)} (h : ObR w X β v (.mp e es)) : ∃ b clock ents,v = plain (.map (some b)) ∧ w.heap[b]? = some (.map ents clock) ∧ ents.toList.map kv = es := by
 cases h with
 |mp b clock ents hv hh he=>exact ⟨b,clock,ents,hv,hh,he⟩
section
variable {P : Program} {tys : List (Nat × TyD)} {C : List (FuncId × Ctr)} {N : Nat} {X0 : Nat → Prop} {M : Nat → BV → Prop} {w0 : World} {st : St} {β : Nat → BV} {a : Act} {w : World} {mt : List (Nat × MapTy)}
theorem stepM_sound (hmt : ∀ T m,lk T mt = some m → MapOk P T m) (hA : Ap P X0 M w0) (hty : ∀ T d,lk T tys = some d → TyOk P T d) (hC : COk P C) (h : Sim N X0 M w0 st β a w) {ops : Array Oper} {o : Oper} {K : St → Prop} (hw : st.stepM mt tys C N ops o K) {Q : Exit → Act → World → Prop} :
  if Region.wanted o (yielded ops a.tmps) then o.wp P a w (Ok N X0 M w0 K) Q else Ok N X0 M w0 K (a.put o.dst undef) w := by
 have wt : o.guard.isNone = true → Region.wanted o (yielded ops a.tmps) = true := fun hg=>by
  have : o.guard = none:=by simpa using hg
  simp [Region.wanted,this]
 unfold St.stepM at hw
 split at hw
 case h_1 _ T ho =>
  split at hw
  case h_2=>exact hw.elim
  case h_1 _ d hd =>
   obtain ⟨hg,hdN,hK⟩ := hw
   rw [if_pos (wt hg)]
   refine fresh_wp h hd hdN (w' := w.alloc (.map #[] 0)) (v := .map (some w.heap.size)) ?_ (alloc_below w _) rfl (fun b hb=>?_) (fun X' hX=>.mp w.heap.size 0 #[] rfl (heap_alloc_new w _) rfl) (.inl rfl) hK
   ·simp [execOp,ho,run_makeMap_plain]
   ·cases hb; exact ⟨Nat.le_refl _,by simp⟩
 case h_2 _ T x y ho =>
  split at hw
  case h_2=>exact hw.elim
  case h_1 _ _ _ m id k hm hx hy =>
   split at hw
   case h_2=>exact hw.elim
   case h_1 _ e es hl =>
    obtain ⟨hg,hd,h1,h2,hK⟩ := hw
    rw [if_pos (wt hg)]
    have e1 : a.eval x = (β id).val := (hx ▸ St.ev_ok h x : R w _ β (.own id) (a.eval x)).own_inv
    have e2 : a.eval y = k := (hy ▸ St.ev_ok h y : R w _ β (.v k) (a.eval y)).v_inv
    obtain ⟨b,clock,ents,hv,hb,he⟩ := (h.objs id _ hl).mp_form
    subst he
    have hr := lookup_run (hmt T m hm) hb h1 h2
    refine wp_of_Yl h hd ⟨mget k (ents.toList.map kv) m.z,?_,.p (.v _)⟩ hK
    simp only [execOp,ho,e1,e2,hv,plain_val,Sem.run_bind,hr,Result.andThen_ok,Sem.run_pure]
 case h_3 _ T x y z ho =>
  split at hw
  case h_2=>exact hw.elim
  case h_1 _ _ _ _ m id k u hm hx hy hz =>
   split at hw
   case h_2=>exact hw.elim
   case h_1 _ e es hl =>
    obtain ⟨hg,hd,h1,h2,hK⟩ := hw
    rw [if_pos (wt hg)]
    have e1 : a.eval x = (β id).val := (hx ▸ St.ev_ok h x : R w _ β (.own id) (a.eval x)).own_inv
    have e2 : a.eval y = k := (hy ▸ St.ev_ok h y : R w _ β (.v k) (a.eval y)).v_inv
    have e3 : a.eval z = u := (hz ▸ St.ev_ok h z : R w _ β (.v u) (a.eval z)).v_inv
    obtain ⟨b,clock,ents,hv,hb,he⟩ := (h.objs id _ hl).mp_form
    subst he
    obtain ⟨ents',clock',hr,he'⟩ := update_run (v := u) (hmt T m hm) hb h1 h2
    have hbb : (β id).ft b:=by rw [hv]; rfl
    have hd0 : o.dst = none:=by simpa using hd
    unfold Oper.wp
    have hrun : (execOp a.eval o).run P w = .ok .skip { w with heap := w.heap.setIfInBounds b (.map ents' clock') } := by
     simp only [execOp,ho,e1,e2,e3,hv,plain_val,Sem.run_bind,hr,Result.andThen_ok,Sem.run_pure]
    rw [hrun,Oper.upon_skip,hd0]
    refine ⟨_,β,hK,?_⟩
    obtain ⟨q1,q2⟩ := Go.MapKept.heap_set (o' := .map ents' clock') hb
    refine h.write hl rfl rfl rfl (by simp) (fun b' _ hne=>q2 b' fun e=>hne (by rw [e]; exact hbb)) ?_
    rw [hv]
    exact .mp b clock' ents' rfl q1 he'
 case h_4=>exact step_sound hA hty hC h hw
theorem runM_sound (hmt : ∀ T m,lk T mt = some m → MapOk P T m) (hA : Ap P X0 M w0) (hty : ∀ T d,lk T tys = some d → TyOk P T d) (hC : COk P C) {ops : Array Oper} {K : St → Prop} {Q : Exit → Act → World → Prop} (hQ : ∀ a w,Ok N X0 M w0 K a w → Q .normal a w) :
  ∀ (l : List Oper) {st : St} {β : Nat → BV} {a : Act} {w : World},Sim N X0 M w0 st β a w → St.runM mt tys C N ops l st K → wpList P ops Q l a w
 | [],st,β,a,w,h,hw=>hQ a w ⟨st,β,hw,h⟩
 |o :: l,st,β,a,w,h,hw=>by
  have h1 := stepM_sound (Q := Q) hmt hA hty hC h hw
  unfold wpList
  split
  ·rename_i hwt
   rw [if_pos hwt] at h1
   exact .inl (Oper.wp_mono (fun a' w' ⟨st',β',h2,h3⟩=>runM_sound hmt hA hty hC hQ l h3 h2) h1)
  ·rename_i hwt
   rw [if_neg hwt] at h1
   obtain ⟨st',β',h2,h3⟩ := h1
   exact runM_sound hmt hA hty hC hQ l h3 h2
end
section
variable {c : Cx} {N : Nat} {X0 : Nat → Prop} {M : Nat → BV → Prop} {w0 : World} {st : St} {K : Exit → St → Prop}
theorem WP.regionM {id : Nat} {l : List Oper} (mt : List (Nat × MapTy)) (hmt : ∀ T m,lk T mt = some m → MapOk c.P T m) (h : St.runM mt c.tys c.C N l.toArray l st (K .normal)) : WP c N X0 M w0 (.region id l.toArray false) st K := fun hA β a w hs =>
 wp_region_lit (runM_sound hmt hA c.hty c.hC (fun a w hk=>hk) l hs h)
end
end Go.Vc

namespace Go.Proofs.Ytjjbcoigaejoaaa
open Go Go.Vc
abbrev NM := List (ByteArray × Int)
def envM : NM → ByteArray → Int
 | [],_=>0
 |e :: E,y=>if y = e.1 then e.2 else envM E y
def setM (k : ByteArray) (v : Int) : NM → NM
 | []=>[(k,v)]
 |e :: E=>if k = e.1 then (k,v) :: E else e :: setM k v E
def encE1 (e : ByteArray × Int) : Value × Value := (.string e.1,.int .i64 e.2)
theorem envM_set (k : ByteArray) (v : Int) : ∀ E : NM,envM (setM k v E) = upd (envM E) k v
 | []=>by funext y; simp only [setM,envM,upd]
 |e :: E=>by
  have ih := envM_set k v E
  funext y
  unfold setM
  by_cases h : k = e.1
  ·rw [if_pos h]
   simp only [envM,upd]
   by_cases q : y = k
   ·rw [if_pos q,if_pos q]
   ·rw [if_neg q,if_neg q,if_neg (by rw [← h]; exact q)]
  ·rw [if_neg h]
   simp only [envM,upd,ih]
   by_cases q : y = e.1
   ·rw [if_pos q,if_pos q,if_neg (fun x=>h (x.symm.trans q))]
   ·rw [if_neg q,if_neg q]
theorem findI_env (y : ByteArray) : ∀ (E : NM) (i : Nat),((findI (.string y) (E.map encE1) i).map (·.2)).getD (.int .i64 0) = .int .i64 (envM E y)
 | [],i=>rfl
 |e :: E,i=>by
  have ih := findI_env y E (i + 1)
  simp only [List.map_cons,findI,encE1,sameB,decide_eq_true_eq,envM]
  by_cases h : y = e.1
  ·rw [if_pos h,if_pos h]; rfl
  ·rw [if_neg h,if_neg h]; exact ih
theorem mget_env (y : ByteArray) (E : NM) : mget (.string y) (E.map encE1) (.int .i64 0) = .int .i64 (envM E y) := findI_env y E 0
theorem findI_setM (k : ByteArray) (v : Int) : ∀ (E : NM) (i : Nat),(match findI (.string k) (E.map encE1) i with
  |some (j,_)=>i ≤ j ∧ (E.map encE1).set (j - i) (encE1 (k,v)) = (setM k v E).map encE1
  |none=>E.map encE1 ++ [encE1 (k,v)] = (setM k v E).map encE1)
 | [],i=>rfl
 |e :: E,i=>by
  have ih := findI_setM k v E (i + 1)
  by_cases h : k = e.1
  ·have hf : findI (.string k) ((e :: E).map encE1) i = some (i,.int .i64 e.2) := by
    simp only [List.map_cons,findI,encE1,sameB,decide_eq_true_eq]; rw [if_pos h]
   rw [hf]
   simp only [Nat.le_refl,Nat.sub_self,true_and,setM,if_pos h,List.map_cons,List.set_cons_zero]
  ·have hf : findI (.string k) ((e :: E).map encE1) i = findI (.string k) (E.map encE1) (i + 1) := by
    simp only [List.map_cons,findI,encE1,sameB,decide_eq_true_eq]; rw [if_neg h]
   rw [hf]
   cases hq : findI (.string k) (E.map encE1) (i + 1) with
   |none =>
    rw [hq] at ih
    simp only [setM,if_neg h,List.map_cons,List.cons_append] at ih ⊢
    rw [ih]
   |some q =>
    obtain ⟨j,u⟩ := q
    rw [hq] at ih
    simp only [setM,if_neg h,List.map_cons] at ih ⊢
    obtain ⟨h1,h2⟩ := ih
    refine ⟨by omega,?_⟩
    rw [show j - i = (j - (i + 1)) + 1 by omega,List.set_cons_succ,h2]
theorem mset_env (k : ByteArray) (v : Int) (E : NM) : mset (.string k) (.int .i64 v) (E.map encE1) = (setM k v E).map encE1 := by
 have h := findI_setM k v E 0
 unfold mset
 split
 ·rename_i i u hq
  rw [hq] at h
  exact h.2
 ·rename_i hq
  rw [hq] at h
  exact h
theorem keyB_env (E : NM) : ((E.map encE1).all fun e=>keyB .string e.1) = true := by
 rw [List.all_eq_true]
 intro e he
 obtain ⟨l,_,rfl⟩ := List.mem_map.1 he
 rfl
def oneE1 : Value × Value → ByteArray × Int
 | (.string k,.int _ v)=>(k,v)
 | _=>(⟨#[]⟩,0)
theorem decE1_enc (E : NM) : (E.map encE1).map oneE1 = E := by
 rw [List.map_map]
 have : (oneE1 ∘ encE1) = id := funext fun e=>rfl
 rw [this]; simp
def oMp (obs : List (Nat × Ob)) (id : Nat) : NM := match lk id obs with
 |some (.mp _ es)=>es.map oneE1
 | _=>[]
end Go.Proofs.Ytjjbcoigaejoaaa

namespace Go.Proofs.Ytjjbcoigaejoaaa
open Go Go.Vc
def bindM (A : List ByteArray) (V : List Int) : Nat → NM
 | 0=>[]
 |j + 1=>setM (A.getD j ⟨#[]⟩) (V.getD j 0) (bindM A V j)
theorem envA_snoc {a : ByteArray} {v : Int} : ∀ {A : List ByteArray} {V : List Int},V.length = A.length → a ∉ A → envA (A ++ [a]) (V ++ [v]) = upd (envA A V) a v
 | [],[],_,_=>by
  funext y
  show (if a = y then v else 0) = if y = a then v else 0
  by_cases h : a = y
  ·rw [if_pos h,if_pos h.symm]
  ·rw [if_neg h,if_neg (Ne.symm h)]
 |b :: A,w :: V,hl,hn=>by
  have ih := envA_snoc (a := a) (v := v) (A := A) (V := V) (by simpa using hl) (fun h=>hn (List.mem_cons_of_mem _ h))
  funext y
  show (if b = y then w else envA (A ++ [a]) (V ++ [v]) y) = if y = a then v else (if b = y then w else envA A V y)
  rw [ih]
  by_cases h : b = y
  ·rw [if_pos h,if_pos h,if_neg (fun e=>hn (by rw [← e,← h]; exact List.mem_cons_self))]
  ·rw [if_neg h,if_neg h]; rfl
theorem envM_bind {A : List ByteArray} {V : List Int} (hl : V.length = A.length) (hn : A.Nodup) : ∀ j,j ≤ A.length → envM (bindM A V j) = envA (A.take j) (V.take j)
 | 0,_=>by funext y; rfl
 |j + 1,h=>by
  have hA : A.getD j ⟨#[]⟩ = A[j]:=by rw [List.getD_eq_getElem?_getD,List.getElem?_eq_getElem (by omega)]; rfl
  have hV : V.getD j 0 = V[j]:=by rw [List.getD_eq_getElem?_getD,List.getElem?_eq_getElem (by omega)]; rfl
  rw [bindM,envM_set,envM_bind hl hn j (by omega),hA,hV,List.take_succ_eq_append_getElem (by omega),List.take_succ_eq_append_getElem (by omega),envA_snoc]
  ·rw [List.length_take,List.length_take]; omega
  ·intro hm
   obtain ⟨i,hi,he⟩ := List.getElem_of_mem hm
   rw [List.length_take] at hi
   rw [List.getElem_take] at he
   have := (List.getElem_inj hn).1 he
   omega
theorem envM_all {A : List ByteArray} {V : List Int} (hl : V.length = A.length) (hn : A.Nodup) : envM (bindM A V A.length) = envA A V := by
 rw [envM_bind hl hn A.length (Nat.le_refl _),List.take_length,← hl,List.take_length]
end Go.Proofs.Ytjjbcoigaejoaaa

namespace Go.Proofs.Ytjjbcoigaejoaaa
open Go.Vc
attribute [local irreducible] Go.Vc.WP
attribute [local go_sem] cx0_t cx0_c
def pnZ : Option Rz → Option Value
 |some (.stop c _ _)=>some (stopV c)
 | _=>none
def rZ : Option Rz → SV
 |some (.ok v _)=>.v (.int .i64 v)
 | _=>.junk
def sZ (s0 : RS) : Option Rz → RS
 |some (.ok _ s')=>s'
 |some (.stop _ s' _)=>s'
 |none=>s0
def mapTys : List (Nat × MapTy) := [(125,⟨9,3,.string,.int .i64 0⟩)]
theorem mapTysOk : ∀ T m,lk T mapTys = some m → MapOk Try.prog T m := fun T m h=>by
 have hm := lk_mem h
 simp only [mapTys,List.mem_cons,Prod.mk.injEq,List.not_mem_nil,or_false] at hm
 obtain ⟨rfl,rfl⟩ := hm
 exact ⟨by kernel_rfl,by kernel_rfl,fun w=>zero_run (by kernel_rfl) w⟩
theorem keyB_st (l : ByteArray) : keyB .string (.string l) = true := rfl
theorem findFn_kdI {P : List Line} {y : ByteArray} {f : Nat} (hl : f < P.length) (hf : findFn P y = (f : Int)) : kd P f = 0 := by
 obtain ⟨k,hk,h1,h2⟩ := firstIdx_pos (p := isFn y) (L := P) (by unfold findFn at hf; omega)
 obtain rfl : f = k:=by unfold findFn at hf; omega
 unfold isFn at h2
 simp only [Bool.and_eq_true,decide_eq_true_eq] at h2
 rw [kd_lt hl]; exact h2.1
abbrev FvX := RX × Nat × NM × Nat
def zEvI (n : Nat) (x : FvX) : Option Rz := evalG appl x.1.1 x.1.2.1 n x.2.1 (envM x.2.2.1) x.2.2.2 x.1.2.2
structure EvIOk (n : Nat) (x : FvX) : Prop where
 prog : ProgS x.1.1
 sm : ∀ y ∈ x.1.1,smLine y
 k : x.2.1 < x.1.1.length
 vld : 0 ≤ exprEnd (exprAt x.1.1 x.2.1) x.2.2.2
 known : ∃ A,knownE x.1.1 A (exprAt x.1.1 x.2.1) = true
 rs : RsOk x.1.2.1 x.1.2.2
 z : (zEvI n x).isSome = true
def obM (P : List Line) (lim : Nat) (s : RS) (m : Ob) : List (Nat × Ob) := [(1000000,.box 90 [.sl 4 (P.map encLine),.v (.int .i64 (lim : Nat)),.own 900000,.own 900001,.own 900002,.v (.int .i64 0),.v (.int .i64 0),.sl 1 ((ownL P).map encI)]),(1000001,m),(900000,.sl 3 1 (s.calls.map encI)),(900001,.sl 3 1 (s.out.map encI)),(900002,.dp 36 1 (s.vis.map encVl))]
attribute [local go_sem] obI obM rbS kpI decI0 yen
def kEvI (n : Nat) : Ctx := yen [0,2] (fun args obs=>(decI0 obs,(aI args 1).toNat,oMp obs 1000001,(aI args 4).toNat))
 (fun x=>[.ptr 1000000 0 0 0,.v (.int .i64 (x.2.1 : Nat)),.own 1000001,.sl 3 ((exprAt x.1.1 x.2.1).map encTok),.v (.int .i64 (x.2.2.2 : Nat))])
 (fun x=>obM x.1.1 x.1.2.1 x.1.2.2 (.mp 125 (x.2.2.1.map encE1))) (EvIOk n) (fun x=>pnZ (zEvI n x))
 (fun x=>rZ (zEvI n x)) (fun x=>rbS (sZ x.1.2.2 (zEvI n x))) (fun x=>kpI x.1.1 x.1.2.1 ++ [(1000001,.mp 125 (x.2.2.1.map encE1))])
abbrev FnX := RX × Nat × List Int
def zFnI (n : Nat) (x : FnX) : Option Rz := bodyG' appl x.1.1 x.1.2.1 n x.2.1 (envA (argsAt x.1.1 x.2.1) x.2.2) (x.2.1 + 1) x.1.2.2
structure FnIOk (n : Nat) (x : FnX) : Prop where
 prog : ProgS x.1.1
 sm : ∀ y ∈ x.1.1,smLine y
 f : x.2.1 < x.1.1.length
 fn : kd x.1.1 x.2.1 = 0
 len : x.2.2.length = (argsAt x.1.1 x.2.1).length
 rs : RsOk x.1.2.1 x.1.2.2
 z : (zFnI n x).isSome = true
def kFnI (n : Nat) : Ctx := yen [0] (fun args obs=>(decI0 obs,(aI args 1).toNat,decI (aR args 2)))
 (fun x=>[.ptr 1000000 0 0 0,.v (.int .i64 (x.2.1 : Nat)),.sl 1 (x.2.2.map encI)]) (fun x=>obI x.1.1 x.1.2.1 x.1.2.2) (FnIOk n) (fun x=>pnZ (zFnI n x))
 (fun x=>rZ (zFnI n x)) (fun x=>rbS (sZ x.1.2.2 (zFnI n x))) (fun x=>kpI x.1.1 x.1.2.1)
end Go.Proofs.Ytjjbcoigaejoaaa

namespace Go.Proofs.Ytjjbcoigaejoaaa
open Go.Vc
attribute [local irreducible] Go.Vc.WP
attribute [local go_sem] cx0_t cx0_c
def flf15ce755cb : List Go.Vc.Fp := [⟨[0],[],[],[],[],[]⟩,⟨[0],[],[],[],[],[]⟩,⟨[82],[1],[],[],[],[]⟩,⟨[83],[1,2],[],[],[],[]⟩,⟨[84],[1,2,3],[],[],[],[]⟩,⟨[0],[],[],[],[],[]⟩,⟨[86],[5],[],[],[],[]⟩,⟨[87],[5,6],[],[],[],[]⟩,⟨[88],[5,6,7],[],[],[],[]⟩,⟨[89],[5,6,7,8],[],[],[],[]⟩,⟨[90],[5,6,7,8,9],[],[],[],[]⟩,⟨[85,91],[1,2,3,4,5,6,7,8,9,10],[],[],[],[]⟩,⟨[],[0,1,2,3,4,5,6,7,8,9,10,11],[],[],[],[]⟩,⟨[],[0,1,2,3,4,5,6,7,8,9,10,11,12],[],[],[],[]⟩,⟨[],[0,1,2,3,4,5,6,7,8,9,10,11,12,13],[],[],[],[]⟩]
def fld0e955a395 : List Go.Vc.Fp := [⟨[0],[],[800003],[92],[],[]⟩,⟨[0],[],[],[92],[],[]⟩,⟨[82],[1],[],[92],[],[]⟩,⟨[83],[1,2],[],[92],[],[]⟩,⟨[84],[1,2,3],[],[92],[],[]⟩,⟨[0],[],[],[92],[],[]⟩,⟨[86],[5],[],[92],[],[]⟩,⟨[87],[5,6],[],[92],[],[]⟩,⟨[88],[5,6,7],[],[92],[],[]⟩,⟨[89],[5,6,7,8],[],[92],[],[]⟩,⟨[90],[5,6,7,8,9],[],[92],[],[]⟩,⟨[85,91],[1,2,3,4,5,6,7,8,9,10],[],[],[800003],[92]⟩,⟨[],[0,1,2,3,4,5,6,7,8,9,10,11],[],[],[],[]⟩,⟨[],[0,1,2,3,4,5,6,7,8,9,10,11,12],[],[],[],[]⟩,⟨[],[0,1,2,3,4,5,6,7,8,9,10,11,12,13],[],[],[],[]⟩]
attribute [local go_sem] flf15ce755cb fld0e955a395
attribute [local go_sem] decLine_enc decI_enc decS_enc decTok_enc oneTok_f decVl_enc decE1_enc oMp rs_eta headsBy innersBy llX lmX St.callX St.panOf St.callLG ctrs St.isX St.stepP runS retY St.fzS addL behind ghoK St.gho St.gh SV.flat St.hasO St.setO Ob.jk SV.jk Ob.bx St.cutQ
attribute [local go_sem] obI obM rbS kpI decI0 yen pnZ rZ sZ zEvI zFnI
theorem rZ_no (z : Option Rz) : (rZ z).owns2 = [] := by
 cases z with
 |none=>rfl
 |some z=>cases z <;> rfl
theorem rZ_pan (z : Option Rz) (h : (pnZ z).isSome = true) : rZ z = .junk := by
 cases z with
 |none=>rfl
 |some z=>cases z with
  |ok v s=>cases h
  |stop c s q=>rfl
section
noncomputable def cxEvI := mkX [(112,kOpd),(83,kFind),(113,kAppl)] (COk.cons cOpdI (COk.cons cFindI (COk.cons cApplI (COk.nil _))))
theorem cxEvI_t : cxEvI.tys = tys := rfl
theorem cxEvI_c : cxEvI.C = [(112,kOpd),(83,kFind),(113,kAppl)] := rfl
attribute [local go_sem] cxEvI_t cxEvI_c kOpd kFind kAppl
def c2I (n : Nat) : List (FuncId × Ctx) := [(89,kEvI n),(54,kFnI n)]
attribute [local go_sem] c2I kEvI kFnI
set_option maxHeartbeats 4000000 in
theorem evStepI (n : Nat) (hC2 : POk Try.prog (c2I n)) : Cy Try.prog 89 (kEvI (n + 1)) := by
 refine Cy.yen Try.func89 (by kernel_rfl) rfl fun x hx=>?_
 obtain ⟨⟨P,lim,s⟩,k,E,a⟩ := x
 obtain ⟨hprog,hsmP,hk,hvld,⟨A0,hknown⟩,hrs,hz⟩ := hx
 simp only at hprog hsmP hk hvld hknown hrs hz ⊢
 obtain ⟨t,ht,hat,htok,hva⟩ := vld_args hvld
 have hT := exprAt_lt hk
 have hsm := hsmP _ (List.getElem_mem hk)
 have h2 := rowAt_map encTok (exprAt P k) a hat
 have hta : (exprAt P k)[a] = t:=by rw [List.getElem?_eq_getElem hat] at ht; exact Option.some.inj ht
 rw [hta] at h2
 have hsmT : smToks (exprAt P k):=by rw [hT]; exact hsm.2.2
 have har : arity t = (arN t : Nat) := if_pos htok
 have hop : opsAt (exprAt P k) a = opsN (exprAt P k) (arN t) (a + 1):=by unfold opsAt; rw [ht]
 unfold zEvI at hz ⊢
 simp only at hz ⊢
 rw [evalG,ht] at hz ⊢
 simp only at hz ⊢
 have hai : (a : Int) < (exprAt P k).length:=by omega
 refine HoldsY.go (c := cxEvI) Try.func89 rfl Try.results89 Try.ntmps89 (by omega) (by simp) ?_ ?_ ?_
 rotate_right
 intro X0 M w0
 ·refine zP [] [(900000,800003),(900001,800001),(900002,800002)] rfl ?_
  simp only [go_sem]
  obtain ⟨tk,tn,tm⟩ := t
  rw [encTok] at h2
  simp only at h2 har
  have hm4 := arN_le htok
  generalize hm : arN ⟨tk,tn,tm⟩ = m at *
  generalize hTT : exprAt P k = T at *
  (repeat' (first|apply zS|apply zB|((first|apply zR|apply zC|apply zT|apply zE|apply zK| refine zF 12 flf15ce755cb [81,82,83,84,85,86,87,88,89,90,91,92] [] [] (by decide +kernel) (by kernel_rfl) (by kernel_rfl) (by kernel_rfl) ?_|refine zD 10 (by decide +kernel) (by kernel_rfl) ?_|refine zD 9 (by decide +kernel) (by kernel_rfl) ?_); simp only [go_sem,hai,h2,hop])|apply And.intro|intro _))
  all_goals first|omega|rfl|exact hsmT|exact hsmT.1|exact hsmT.2 _ ‹_›|exact hvld|skip
  refine zP [23] [] rfl ?_
  simp only [go_sem]
  cases hA : opsG appl P lim n k (envM E) m (a + 1) [] s with
  |none=>rw [hA] at hz; cases hz
  |some q =>
  rw [hA] at hz
  simp only at hz ⊢
  have hol := opsN_len T m (a + 1)
  refine zL (fun S : Nat × List Int × RS × Nat=>⟨[(0,.ptr 1000000 0 0 0),(1,.v (.int .i64 (k : Nat))),(2,.own 1000001),(3,.sl 3 (T.map encTok)),(11,.ptr 11 0 0 0),(12,.own 20),(23,.sl 1 ((opsN T m (a + 1)).map encI)),(24,.v (.int .i64 (m : Nat))),(25,.v (.int .i64 (S.1 : Nat)))],
   [(1000000,.box 90 [.sl 4 (P.map encLine),.v (.int .i64 (lim : Nat)),.own 800003,.own 800001,.own 800002,.v (.int .i64 0),.v (.int .i64 0),.sl 1 ((ownL P).map encI)]),(1000001,.mp 125 (E.map encE1)),(11,.box 120 [.v (.int .i64 tk),.v (.int .i64 tn),.v (.string tm)]),(20,.sl 3 1 (S.2.1.map encI)),
    (800001,.sl 3 1 (S.2.2.1.out.map encI)),(800002,.dp 36 1 (S.2.2.1.vis.map encVl)),(800003,.sl 3 1 (S.2.2.1.calls.map encI))]⟩)
   (fun S=>S.1 ≤ m ∧ S.2.1.length = S.1 ∧ RsOk lim S.2.2.1 ∧ S.2.2.1.calls = s.calls ∧ S.2.2.2 ≤ n ∧ opsG appl P lim S.2.2.2 k (envM E) (m - S.1) (ends T S.1 (a + 1)) S.2.1 S.2.2.1 = some q ∧ Vld T (m - S.1) (ends T S.1 (a + 1)) (nxt T a)) (fun S=>m - S.1) (0,[],s,n) ?_ ?_ ?_
  ·exact ⟨by simp,rfl,hrs,rfl,Nat.le_refl _,hA,hva⟩
  ·(simp only [go_sem,hol] <;> (first|(and_intros <;> rfl)|simp))
  rintro ⟨j,A,⟨jo,jv,jc⟩,nj⟩ ⟨hj,hAl,hsj,hcj,hnj,hG,hV⟩
  simp only at hj hAl hsj hcj hnj hG hV ⊢
  subst hcj
  by_cases hjm : j < m
  ·have hji : (j : Int) < (m : Nat):=by omega
   obtain ⟨m',hm'⟩ : ∃ m',m - j = m' + 1 := ⟨m - j - 1,by omega⟩
   rw [hm'] at hG hV
   obtain ⟨hpl,hpv,hV2⟩ := hV.step
   cases nj with
   |zero=>simp [opsG] at hG
   |succ nj =>
   rw [opsG,hTT] at hG
   have hes := ends_succ T j (a + 1)
   have hrow := rowAt_map encI (opsN T m (a + 1)) j (by rw [hol]; exact hjm)
   have hget : (opsN T m (a + 1))[j]'(by rw [hol]; exact hjm) = ((ends T j (a + 1) : Nat) : Int):=by unfold opsN; simp
   rw [encI,hget] at hrow
   generalize hp : ends T j (a + 1) = p at *
   cases hE : evalG appl P lim nj k (envM E) p ⟨jo,jv,s.calls⟩ with
   |none=>rw [hE] at hG; cases hG
   |some z1 =>
   rw [hE] at hG
   have hEn := evalG_up (show nj ≤ n by omega) hE
   have hz1 := (small nj).1 0 _ _ _ _ _ hsj hE
   have hEv : EvIOk n ((P,lim,⟨jo,jv,s.calls⟩),k,E,p) := ⟨hprog,hsmP,hk,by simp only [hTT]; exact hpv,⟨A0,by simp only [hTT]; exact hknown⟩,hsj,by unfold zEvI; simp only [hEn]; rfl⟩
   have hol' : (j : Int) < ((opsN T m (a + 1)).length : Nat):=by rw [hol]; exact hji
   cases z1 with
   |stop c s1 q1 =>
    simp only at hG
    obtain rfl : q = .stop c s1 q1 := (Option.some.inj hG).symm
    simp only
    (repeat' (first|apply zS|apply zB|((first|refine WP.regionP (id := 6) hC2 ?_); simp only [go_sem,hji,hTT,hEn,hrow,hol'])|((first|apply zR|apply zC|apply zT|apply zE|apply zK| refine zF 12 flf15ce755cb [81,82,83,84,85,86,87,88,89,90,91,92] [] [] (by decide +kernel) (by kernel_rfl) (by kernel_rfl) (by kernel_rfl) ?_|refine zD 10 (by decide +kernel) (by kernel_rfl) ?_|refine zD 9 (by decide +kernel) (by kernel_rfl) ?_); simp only [go_sem,hji,hTT,hEn,hrow,hol'])|apply And.intro|intro _))
    all_goals first|omega|rfl|exact hEv|skip
   |ok v s1 =>
    simp only at hG
    have hg1 := (grows nj).1 _ _ _ _ _ _ hE
    obtain ⟨o1,v1,c1⟩ := s1
    obtain rfl : c1 = s.calls := hg1.2
    (repeat' (first|apply zS|apply zB|((first|refine WP.regionP (id := 6) hC2 ?_); simp only [go_sem,hji,hTT,hEn,hrow,hol'])|((first|apply zR|apply zC|apply zT|apply zE|apply zK| refine zF 12 flf15ce755cb [81,82,83,84,85,86,87,88,89,90,91,92] [] [] (by decide +kernel) (by kernel_rfl) (by kernel_rfl) (by kernel_rfl) ?_|refine zD 10 (by decide +kernel) (by kernel_rfl) ?_|refine zD 9 (by decide +kernel) (by kernel_rfl) ?_); simp only [go_sem,hji,hTT,hEn,hrow,hol'])|apply And.intro|intro _))
    all_goals first|omega|rfl|exact hEv|skip
    all_goals first|exact ⟨(j + 1,A ++ [v],⟨o1,v1,s.calls⟩,nj),⟨by simp only; omega,by simp only [List.length_append,List.length_cons,List.length_nil]; omega,hz1,rfl,by simp only; omega,by simp only; rw [show m - (j + 1) = m' by omega,hes]; exact hG,by simp only; rw [show m - (j + 1) = m' by omega,hes]; exact hV2⟩,by simp only; omega,by simp only [Int.natCast_add,Int.cast_ofNat_Int,List.map_append,List.map_cons,List.map_nil,encI]; (first|(and_intros <;> rfl)|simp)⟩|trace_state
  ·have hge : ¬ (j : Int) < (m : Nat):=by omega
   obtain rfl : j = m:=by omega
   rw [Nat.sub_self] at hG hV
   cases nj with
   |zero=>simp [opsG] at hG
   |succ nj =>
   rw [opsG] at hG
   obtain rfl : q = .ok A ⟨jo,jv,s.calls⟩ := (Option.some.inj hG).symm
   simp only at hz ⊢
   by_cases k0 : tk = 0
   ·rw [if_pos k0]
    (repeat' (first|apply zS|apply zB|((first|apply zR|apply zC|apply zT|apply zE|apply zK| refine zF 12 flf15ce755cb [81,82,83,84,85,86,87,88,89,90,91,92] [] [] (by decide +kernel) (by kernel_rfl) (by kernel_rfl) (by kernel_rfl) ?_|refine zD 10 (by decide +kernel) (by kernel_rfl) ?_|refine zD 9 (by decide +kernel) (by kernel_rfl) ?_); simp only [go_sem,hge,k0])|apply And.intro|intro _))
    all_goals first|omega|rfl|skip
   rw [if_neg k0] at hz ⊢
   by_cases k1 : tk = 1
   ·rw [if_pos k1]
    (repeat' (first|apply zS|apply zB|((first|refine WP.regionM (id := 12) mapTys mapTysOk ?_); simp only [go_sem,hge,k0,k1,St.runM,St.stepM,mapTys,Option.isNone_none,dstOk,keyB_st,keyB_env,mget_env])|((first|apply zR|apply zC|apply zT|apply zE|apply zK| refine zF 12 flf15ce755cb [81,82,83,84,85,86,87,88,89,90,91,92] [] [] (by decide +kernel) (by kernel_rfl) (by kernel_rfl) (by kernel_rfl) ?_|refine zD 10 (by decide +kernel) (by kernel_rfl) ?_|refine zD 9 (by decide +kernel) (by kernel_rfl) ?_); simp only [go_sem,hge,k0,k1,St.runM,St.stepM,mapTys,Option.isNone_none,dstOk,keyB_st,keyB_env,mget_env])|apply And.intro|intro _))
    all_goals first|omega|rfl|skip
   rw [if_neg k1] at hz ⊢
   by_cases k7 : tk = 7
   ·rw [if_pos k7] at hz ⊢
    have hkn := List.all_eq_true.1 hknown ⟨tk,tn,tm⟩ (hta ▸ List.getElem_mem hat)
    have hkf : 0 ≤ findFn P tm ∧ ((argsAt P (findFn P tm).toNat).length : Int) = tn := by
     unfold knownT at hkn
     simp only [k7,if_true,Bool.and_eq_true,decide_eq_true_eq] at hkn
     exact hkn.2
    obtain hf|⟨f,hfl,hf⟩ := findFn_form P tm
    ·omega
    have hf0 : kd P f = 0 := findFn_kdI hfl hf
    rw [hf] at hz hkf ⊢
    simp only [Int.toNat_natCast] at hz hkf ⊢
    have hmt : (j : Int) = tn := by
     unfold arN at hm; rw [if_pos k7] at hm; simp only at hm; omega
    have h6l : s.calls.length ≤ 6 := hsj.c
    by_cases h6 : 6 ≤ s.calls.length
    ·have h6e : (6 : Int) ≤ (s.calls.length : Nat):=by omega
     rw [if_pos h6]
     (repeat' (first|apply zS|apply zB|((first|refine WP.regionPanic (id := 15) (.int .i64 2) (by kernel_rfl) ?_); simp only [go_sem,hge,k0,k1,k7,h6e])|((first|apply zR|apply zC|apply zT|apply zE|apply zK| refine zF 12 flf15ce755cb [81,82,83,84,85,86,87,88,89,90,91,92] [] [] (by decide +kernel) (by kernel_rfl) (by kernel_rfl) (by kernel_rfl) ?_|refine zD 10 (by decide +kernel) (by kernel_rfl) ?_|refine zD 9 (by decide +kernel) (by kernel_rfl) ?_); simp only [go_sem,hge,k0,k1,k7,h6e])|apply And.intro|intro _))
     all_goals first|omega|rfl|skip
    have h6e : ¬ (6 : Int) ≤ (s.calls.length : Nat):=by omega
    rw [if_neg h6] at hz ⊢
    cases hB : bodyG' appl P lim n f (envA (argsAt P f) A) (f + 1) (pushC ⟨jo,jv,s.calls⟩ k) with
    |none=>rw [hB] at hz; cases hz
    |some z1 =>
    have hPf : FnIOk n ((P,lim,pushC ⟨jo,jv,s.calls⟩ k),f,A) := ⟨hprog,hsmP,hfl,hf0,by simp only; omega,hsj.push h6,by unfold zFnI; simp only [hB]; rfl⟩
    have hlc : ((s.calls ++ [(k : Int)]).length : Int) - 1 = s.calls.length:=by rw [List.length_append]; simp
    have hpc : List.map encI s.calls ++ [[SV.v (.int .i64 (k : Int))]] = (s.calls ++ [(k : Int)]).map encI:=by rw [List.map_append]; rfl
    have hpt : List.take s.calls.length (List.map encI (s.calls ++ [(k : Int)])) = s.calls.map encI:=by rw [List.map_append,List.take_left' (by rw [List.length_map])]
    have hPL : P.length ≤ 1048576:=by have := hprog.few; omega
    refine zP [20] [] rfl ?_
    simp only [go_sem]
    cases z1 with
    |stop c s1 q1 =>
     simp only
     (repeat' ((fail_if_success refine WP.atReg (b := 17) ?_); first|apply zS|apply zB|((first|apply zR|apply zC|apply zT|apply zE|apply zK| refine zF 12 flf15ce755cb [81,82,83,84,85,86,87,88,89,90,91,92] [] [] (by decide +kernel) (by kernel_rfl) (by kernel_rfl) (by kernel_rfl) ?_|refine zD 10 (by decide +kernel) (by kernel_rfl) ?_|refine zD 9 (by decide +kernel) (by kernel_rfl) ?_); simp only [go_sem,hge,k0,k1,k7,h6e])|apply And.intro|intro _))
     all_goals first|omega|rfl|skip
     rw [hpc]
     simp only [pushC] at hB
     (repeat' ((fail_if_success refine WP.atReg (b := 19) ?_); first|apply zS|apply zB|((first|refine WP.drawP (id := 17) 9 hC2 (by decide +kernel) (by kernel_rfl) ?_|refine WP.flowB 1000000 12 [⟨[0],[],[800003],[92],[],[]⟩,⟨[0],[],[],[92],[],[]⟩,⟨[82],[1],[],[92],[],[]⟩,⟨[83],[1,2],[],[92],[],[]⟩,⟨[84],[1,2,3],[],[92],[],[]⟩,⟨[0],[],[],[92],[],[]⟩,⟨[86],[5],[],[92],[],[]⟩,⟨[87],[5,6],[],[92],[],[]⟩,⟨[88],[5,6,7],[],[92],[],[]⟩,⟨[89],[5,6,7,8],[],[92],[],[]⟩,⟨[90],[5,6,7,8,9],[],[92],[],[]⟩,⟨[85,91],[1,2,3,4,5,6,7,8,9,10],[],[],[800003],[92]⟩,⟨[],[0,1,2,3,4,5,6,7,8,9,10,11],[],[],[],[]⟩,⟨[],[0,1,2,3,4,5,6,7,8,9,10,11,12],[],[],[],[]⟩,⟨[],[0,1,2,3,4,5,6,7,8,9,10,11,12,13],[],[],[],[]⟩] [81,82,83,84,85,86,87,88,89,90,91,92] [92] [800003] (by decide +kernel) (by kernel_rfl) (by kernel_rfl) (by kernel_rfl) (by decide) ?_); simp only [go_sem,hf,hB,pushC,hlc])|((first|apply zR|apply zC|apply zT|apply zE|apply zK| refine zF 12 fld0e955a395 [81,82,83,84,85,86,87,88,89,90,91,92] [92] [800003] (by decide +kernel) (by kernel_rfl) (by kernel_rfl) (by kernel_rfl) ?_|refine zD 10 (by decide +kernel) (by kernel_rfl) ?_|refine zD 9 (by decide +kernel) (by kernel_rfl) ?_); simp only [go_sem,hf,hB,pushC,hlc])|apply And.intro|intro _))
     all_goals first|omega|rfl|exact hPL|exact hPf|skip
    |ok v s1 =>
     have hg1 := (grows n).2.2 _ _ _ _ _ _ hB
     obtain ⟨o1,v1,c1⟩ := s1
     obtain rfl : c1 = s.calls ++ [(k : Int)] := hg1.2
     simp only [popC,List.dropLast_concat]
     (repeat' ((fail_if_success refine WP.atReg (b := 17) ?_); first|apply zS|apply zB|((first|apply zR|apply zC|apply zT|apply zE|apply zK| refine zF 12 flf15ce755cb [81,82,83,84,85,86,87,88,89,90,91,92] [] [] (by decide +kernel) (by kernel_rfl) (by kernel_rfl) (by kernel_rfl) ?_|refine zD 10 (by decide +kernel) (by kernel_rfl) ?_|refine zD 9 (by decide +kernel) (by kernel_rfl) ?_); simp only [go_sem,hge,k0,k1,k7,h6e])|apply And.intro|intro _))
     all_goals first|omega|rfl|skip
     rw [hpc]
     simp only [pushC] at hB
     (repeat' ((fail_if_success refine WP.atReg (b := 19) ?_); first|apply zS|apply zB|((first|refine WP.drawP (id := 17) 9 hC2 (by decide +kernel) (by kernel_rfl) ?_|refine WP.flowB 1000000 12 [⟨[0],[],[800003],[92],[],[]⟩,⟨[0],[],[],[92],[],[]⟩,⟨[82],[1],[],[92],[],[]⟩,⟨[83],[1,2],[],[92],[],[]⟩,⟨[84],[1,2,3],[],[92],[],[]⟩,⟨[0],[],[],[92],[],[]⟩,⟨[86],[5],[],[92],[],[]⟩,⟨[87],[5,6],[],[92],[],[]⟩,⟨[88],[5,6,7],[],[92],[],[]⟩,⟨[89],[5,6,7,8],[],[92],[],[]⟩,⟨[90],[5,6,7,8,9],[],[92],[],[]⟩,⟨[85,91],[1,2,3,4,5,6,7,8,9,10],[],[],[800003],[92]⟩,⟨[],[0,1,2,3,4,5,6,7,8,9,10,11],[],[],[],[]⟩,⟨[],[0,1,2,3,4,5,6,7,8,9,10,11,12],[],[],[],[]⟩,⟨[],[0,1,2,3,4,5,6,7,8,9,10,11,12,13],[],[],[],[]⟩] [81,82,83,84,85,86,87,88,89,90,91,92] [92] [800003] (by decide +kernel) (by kernel_rfl) (by kernel_rfl) (by kernel_rfl) (by decide) ?_); simp only [go_sem,hf,hB,pushC,hlc])|((first|apply zR|apply zC|apply zT|apply zE|apply zK| refine zF 12 fld0e955a395 [81,82,83,84,85,86,87,88,89,90,91,92] [92] [800003] (by decide +kernel) (by kernel_rfl) (by kernel_rfl) (by kernel_rfl) ?_|refine zD 10 (by decide +kernel) (by kernel_rfl) ?_|refine zD 9 (by decide +kernel) (by kernel_rfl) ?_); simp only [go_sem,hf,hB,pushC,hlc])|apply And.intro|intro _))
     all_goals first|omega|rfl|exact hPL|exact hPf|skip
     rw [hpt]
     refine zP [] [(92,800003)] rfl ?_
     (repeat' (first|apply zS|apply zB|((first|apply zR|apply zC|apply zT|apply zE|apply zK| refine zF 12 flf15ce755cb [81,82,83,84,85,86,87,88,89,90,91,92] [] [] (by decide +kernel) (by kernel_rfl) (by kernel_rfl) (by kernel_rfl) ?_|refine zD 10 (by decide +kernel) (by kernel_rfl) ?_|refine zD 9 (by decide +kernel) (by kernel_rfl) ?_); simp only [go_sem])|apply And.intro|intro _))
     all_goals first|omega|rfl|skip
   ·rw [if_neg k7]
    obtain rfl : j = 2 := by
     unfold arN at hm; simp only at hm
     rw [if_neg k7,if_neg (by omega)] at hm; exact hm.symm
    obtain ⟨x,y,rfl⟩ : ∃ x y,A = [x,y] := by
     match A,hAl with
     | [x,y],_=>exact ⟨x,y,rfl⟩
    simp only [List.getD_cons_zero,List.getD_cons_succ]
    (repeat' (first|apply zS|apply zB|((first|apply zR|apply zC|apply zT|apply zE|apply zK| refine zF 12 flf15ce755cb [81,82,83,84,85,86,87,88,89,90,91,92] [] [] (by decide +kernel) (by kernel_rfl) (by kernel_rfl) (by kernel_rfl) ?_|refine zD 10 (by decide +kernel) (by kernel_rfl) ?_|refine zD 9 (by decide +kernel) (by kernel_rfl) ?_); simp only [go_sem,hge,k0,k1,k7])|apply And.intro|intro _))
    all_goals first|omega|rfl|trivial|skip
 ·exact rZ_no _
 ·exact rZ_pan _
end
end Go.Proofs.Ytjjbcoigaejoaaa

namespace Go.Proofs.Ytjjbcoigaejoaaa
open Go.Vc
attribute [local irreducible] Go.Vc.WP
attribute [local go_sem] cx0_t cx0_c
attribute [local go_sem] decLine_enc decI_enc decS_enc decTok_enc oneTok_f decVl_enc decE1_enc oMp rs_eta headsBy innersBy llX lmX St.callX St.panOf St.callLG ctrs St.isX St.stepP runS retY St.fzS addL behind ghoK St.gho St.gh SV.flat St.hasO St.setO Ob.jk SV.jk Ob.bx St.cutQ
attribute [local go_sem] obI obM rbS kpI decI0 yen aPk pnZ rZ sZ zEvI zFnI
theorem rZ_no' (z : Option Rz) : (rZ z).owns2 = [] := by
 cases z with
 |none=>rfl
 |some z=>cases z <;> rfl
theorem rZ_pan' (z : Option Rz) (h : (pnZ z).isSome = true) : rZ z = .junk := by
 cases z with
 |none=>rfl
 |some z=>cases z with
  |ok v s=>cases h
  |stop c s q=>rfl
theorem skipZ_of {P : List Line} {i : Nat} (h : 0 ≤ endOf P (i : Nat)) : skipZ P i = (skipOf P i : Nat) := by
 unfold skipZ skipOf
 split
 ·omega
 ·omega
theorem ownRow {P : List Line} {i : Nat} (h : i < P.length) : Go.Vc.rowAt ((ownL P).map encI) i = [.v (.int .i64 ((ownL P).getD i 0))] := by
 have hl : (ownL P).length = P.length := own_len P _
 have := rowAt_map encI (ownL P) i (by omega)
 rw [this,encI,List.getD_eq_getElem?_getD,List.getElem?_eq_getElem (by omega)]
 rfl
section
noncomputable def cxFnI := mkX [(87,kHasEx),(82,kBlk)] (COk.cons cHasExI (COk.cons cBlkI (COk.nil _)))
theorem cxFnI_t : cxFnI.tys = tys := rfl
theorem cxFnI_c : cxFnI.C = [(87,kHasEx),(82,kBlk)] := rfl
attribute [local go_sem] cxFnI_t cxFnI_c kHasEx kBlk
def c1I (n : Nat) : List (FuncId × Ctx) := [(88,kVisI),(89,kEvI n),(90,kSkpI)]
attribute [local go_sem] c1I kVisI kEvI kSkpI kFnI
set_option maxHeartbeats 4000000 in
theorem fnStepI (n : Nat) (hC1 : POk Try.prog (c1I n)) : Cy Try.prog 54 (kFnI (n + 1)) := by
 refine Cy.yen Try.func54 (by kernel_rfl) rfl fun x hx=>?_
 obtain ⟨⟨P,lim,s⟩,f,V⟩ := x
 obtain ⟨hprog,hsmP,hfl,hfn,hlen,hrs,hz⟩ := hx
 simp only at hprog hsmP hfl hfn hlen hrs hz ⊢
 obtain ⟨E,hF⟩ := hprog.fn hfl hfn
 have hPL : P.length ≤ 1048576:=by have := hprog.few; omega
 have hEl := hF.hE.lt
 have hfE := hF.lt
 have heo := hF.eo
 have hoL : (ownL P).length = P.length := own_len P _
 have hfli : (f : Int) < P.length:=by omega
 have hap : (argsAt P f).Nodup:=by rw [argsAt_lt hfl]; exact (hprog.lines _ (List.getElem_mem hfl)).apart
 have hafew : (argsAt P f).length ≤ 4:=by rw [argsAt_lt hfl]; exact (hprog.lines _ (List.getElem_mem hfl)).few
 have hx7 : hasEx 7 = false := rfl
 have hx4 : hasEx 4 = false := rfl
 have h0 := rowAt_map encLine P f hfl
 rw [encLine,← argsAt_lt hfl] at h0
 unfold zFnI at hz ⊢
 simp only at hz ⊢
 obtain ⟨z,hz⟩ := Option.isSome_iff_exists.1 hz
 rw [hz]
 refine HoldsY.go (c := cxFnI) Try.func54 rfl Try.results54 Try.ntmps54 (by omega) (by simp) ?_ ?_ ?_
 rotate_right
 intro X0 M w0
 ·refine zP [] [(900000,800003),(900001,800001),(900002,800002)] rfl ?_
  simp only [go_sem]
  (repeat' (first|apply zS|apply zB|((first|refine WP.regionM (id := 1) mapTys mapTysOk ?_); simp only [go_sem,hfli,h0,St.runM,St.stepM,mapTys,Option.isNone_none,dstOk])|((first|apply zR|apply zC|apply zT|apply zE|apply zK| refine zD 12 (by decide +kernel) (by kernel_rfl) ?_|refine zD 14 (by decide +kernel) (by kernel_rfl) ?_); simp only [go_sem,hfli,h0,St.runM,St.stepM,mapTys,Option.isNone_none,dstOk])|apply And.intro|intro _))
  all_goals first|omega|rfl|skip
  generalize hA : argsAt P f = A at *
  refine zL (fun j : Nat=>⟨[(0,.ptr 1000000 0 0 0),(1,.v (.int .i64 (f : Nat))),(2,.sl 1 (V.map encI)),(7,.own 13),(21,.sl 1 (A.map encS)),(22,.v (.int .i64 (A.length : Nat))),(23,.v (.int .i64 (j : Nat)))],
   [(1000000,.box 90 [.sl 4 (P.map encLine),.v (.int .i64 (lim : Nat)),.own 800003,.own 800001,.own 800002,.v (.int .i64 0),.v (.int .i64 0),.sl 1 ((ownL P).map encI)]),(13,.mp 125 ((bindM A V j).map encE1)),
    (800001,.sl 3 1 (s.out.map encI)),(800002,.dp 36 1 (s.vis.map encVl)),(800003,.sl 3 1 (s.calls.map encI))]⟩)
   (fun j=>j ≤ A.length) (fun j=>A.length - j) 0 ?_ ?_ ?_
  ·omega
  ·(simp only [go_sem,bindM,List.map_nil] <;> (first|(and_intros <;> rfl)|simp))
  intro j hj
  by_cases hjm : j < A.length
  ·have hji : (j : Int) < (A.length : Nat):=by omega
   have hjV : (j : Int) < (V.length : Nat):=by omega
   have hrA := rowAt_map encS A j hjm
   have hrV := rowAt_map encI V j (by omega)
   have hgA : A[j] = A.getD j ⟨#[]⟩:=by rw [List.getD_eq_getElem?_getD,List.getElem?_eq_getElem hjm]; rfl
   have hgV : V[j]'(by omega) = V.getD j 0:=by rw [List.getD_eq_getElem?_getD,List.getElem?_eq_getElem (by omega)]; rfl
   rw [encS,hgA] at hrA
   rw [encI,hgV] at hrV
   (repeat' (first|apply zS|apply zB|((first|refine WP.regionM (id := 5) mapTys mapTysOk ?_); simp only [go_sem,hji,hjV,hrA,hrV,St.runM,St.stepM,mapTys,Option.isNone_none,dstOk,keyB_st,keyB_env,mset_env])|((first|apply zR|apply zC|apply zT|apply zE|apply zK| refine zD 12 (by decide +kernel) (by kernel_rfl) ?_|refine zD 14 (by decide +kernel) (by kernel_rfl) ?_); simp only [go_sem,hji,hjV,hrA,hrV,St.runM,St.stepM,mapTys,Option.isNone_none,dstOk,keyB_st,keyB_env,mset_env])|apply And.intro|intro _))
   all_goals first|omega|rfl|skip
   all_goals first|exact ⟨j + 1,by omega,by omega,by simp only [bindM,Int.natCast_add,Int.cast_ofNat_Int]; (first|(and_intros <;> rfl)|simp)⟩|trace_state
  have hge : ¬ (j : Int) < (A.length : Nat):=by omega
  obtain rfl : j = A.length:=by omega
  rw [← envM_all (by omega) hap] at hz
  generalize bindM A V A.length = M0 at *
  clear hj hjm
  (repeat' (first|apply zS|apply zB|((first|apply zR|apply zC|apply zT|apply zE|apply zK| refine zD 12 (by decide +kernel) (by kernel_rfl) ?_|refine zD 14 (by decide +kernel) (by kernel_rfl) ?_); simp only [go_sem,hge])|apply And.intro|intro _))
  all_goals first|omega|rfl|skip
  clear hge hap h0
  refine zL (fun S : Nat × NM × RS × Nat=>⟨[(0,.ptr 1000000 0 0 0),(7,.own 13),(10,.v (.int .i64 (S.1 : Nat)))],
   [(1000000,.box 90 [.sl 4 (P.map encLine),.v (.int .i64 (lim : Nat)),.own 800003,.own 800001,.own 800002,.v (.int .i64 0),.v (.int .i64 0),.sl 1 ((ownL P).map encI)]),(13,.mp 125 (S.2.1.map encE1)),
    (800001,.sl 3 1 (S.2.2.1.out.map encI)),(800002,.dp 36 1 (S.2.2.1.vis.map encVl)),(800003,.sl 3 1 (S.2.2.1.calls.map encI))]⟩)
   (fun S=>f < S.1 ∧ S.1 ≤ E ∧ RsOk lim S.2.2.1 ∧ S.2.2.1.calls = s.calls ∧ S.2.2.2 ≤ n + 1 ∧ bodyG' appl P lim S.2.2.2 f (envM S.2.1) S.1 S.2.2.1 = some z) (fun S=>S.2.2.2) (f + 1,M0,s,n + 1) ?_ ?_ ?_
  ·exact ⟨by simp,by simp only; omega,by assumption,rfl,Nat.le_refl _,hz⟩
  ·(simp only [go_sem] <;> (first|(and_intros <;> rfl)|simp))
  clear hz
  rintro ⟨i,W,⟨jo,jv,jc⟩,nj⟩ ⟨hfi,hiE,hsj,hcj,hnj,hG⟩
  simp only at hfi hiE hsj hcj hnj hG ⊢
  subst hcj
  obtain ⟨nj,rfl⟩ : ∃ m,nj = m + 1 := by
   cases nj with
   |zero=>simp [bodyG'] at hG
   |succ m=>exact ⟨m,rfl⟩
  rw [bodyG'] at hG
  have hil : i < P.length:=by omega
  have hili : (i : Int) < P.length:=by omega
  have hiow : (i : Int) < ((ownL P).length : Nat):=by omega
  have h1 := rowAt_map encLine P i hil
  rw [encLine,← kd_lt hil,← nameAt_lt hil,← exprAt_lt hil] at h1
  have hrow := ownRow hil
  by_cases hE' : i = E
  ·subst hE'
   have hown := ownE_end hF.hE (opens_of (.inl hF.hf)) hF.lt
   rw [if_neg (by rw [hF.endk]; omega),if_pos hF.endk,hown,if_pos hF.hf] at hG
   obtain rfl : z = .ok 0 ⟨jo,jv,s.calls⟩ := (Option.some.inj hG).symm
   have h7 := hF.endk
   have hx0 : hasEx (kd P i) = false:=by rw [h7]; rfl
   have hrE := rowAt_map encLine P f hfl
   rw [encLine,← kd_lt hfl,← nameAt_lt hfl,hfn] at hrE
   have hof := own_end hF.hE (opens_of (.inl hF.hf)) hF.lt P.length hfl
   rw [show (ownL P).getD i 0 = (f : Int) by rw [List.getD_eq_getElem?_getD]; unfold ownL; rw [hof]; rfl] at hrow
   (repeat' (first|apply zS|apply zB|((first|apply zR|apply zC|apply zT|apply zE|apply zK| refine zD 12 (by decide +kernel) (by kernel_rfl) ?_|refine zD 14 (by decide +kernel) (by kernel_rfl) ?_); simp only [go_sem,hili,hiow,h1,h7,hx7,hrow,hfli,hrE])|apply And.intro|intro _))
   all_goals first|omega|rfl|skip
   trace_state
  have hiEi : (i : Int) < (E : Nat):=by omega
  have hI := hF.inF i hfi (by omega)
  by_cases k4 : kd P i = 4
  ·obtain ⟨k,e,p1,p2,p3,p4,p5,p6,p7,p8⟩ := hF.els i hfi (by omega) k4
   have hof := own_else p3 hil P.length (by omega)
   rw [show (ownL P).getD i 0 = (k : Int) by rw [List.getD_eq_getElem?_getD]; unfold ownL; rw [hof]; rfl] at hrow
   rw [if_pos k4,ownE_else p3,p6,Int.toNat_natCast] at hG
   (repeat' (first|apply zS|apply zB|((first|apply zR|apply zC|apply zT|apply zE|apply zK| refine zD 12 (by decide +kernel) (by kernel_rfl) ?_|refine zD 14 (by decide +kernel) (by kernel_rfl) ?_); simp only [go_sem,hili,hiow,h1,k4,hx4,hrow,p6])|apply And.intro|intro _))
   all_goals first|omega|rfl|exact hPL|skip
   all_goals first|exact ⟨(e + 1,W,⟨jo,jv,s.calls⟩,nj),⟨by simp only; omega,by simp only; omega,hsj,rfl,by simp only; omega,hG⟩,by simp only; omega,by simp only [Int.natCast_add,Int.cast_ofNat_Int]; (first|(and_intros <;> rfl)|simp)⟩|trace_state
  by_cases k7 : kd P i = 7
  ·obtain ⟨k,p1,p2,p3,p4⟩ := hI.owner k7
   have hok := opens_of (P := P) (k := k) (.inr p4)
   have hof := own_end p3 hok p2 P.length (by omega)
   rw [show (ownL P).getD i 0 = (k : Int) by rw [List.getD_eq_getElem?_getD]; unfold ownL; rw [hof]; rfl] at hrow
   rw [if_neg k4,if_pos k7,ownE_end p3 hok p2,if_neg (by omega)] at hG
   have hkl : k < P.length:=by omega
   have hkli : (k : Int) < P.length:=by omega
   have hrk := rowAt_map encLine P k hkl
   rw [encLine,← kd_lt hkl] at hrk
   by_cases k5 : kd P k = 5
   ·rw [if_pos k5] at hG
    have hkk : (k : Int) - 1 + 1 = (k : Nat):=by omega
    (repeat' (first|apply zS|apply zB|((first|apply zR|apply zC|apply zT|apply zE|apply zK| refine zD 12 (by decide +kernel) (by kernel_rfl) ?_|refine zD 14 (by decide +kernel) (by kernel_rfl) ?_); simp only [go_sem,hili,hiow,h1,k7,hx7,hrow,hkli,hrk,k5,hkk])|apply And.intro|intro _))
    all_goals first|omega|rfl|exact hPL|skip
    all_goals first|exact ⟨(k,W,⟨jo,jv,s.calls⟩,nj),⟨by simp only; omega,by simp only; omega,hsj,rfl,by simp only; omega,hG⟩,by simp only; omega,by (first|(and_intros <;> rfl)|simp)⟩|trace_state
   ·rw [if_neg k5] at hG
    have k3 : kd P k = 3:=by omega
    (repeat' (first|apply zS|apply zB|((first|apply zR|apply zC|apply zT|apply zE|apply zK| refine zD 12 (by decide +kernel) (by kernel_rfl) ?_|refine zD 14 (by decide +kernel) (by kernel_rfl) ?_); simp only [go_sem,hili,hiow,h1,k7,hx7,hrow,hkli,hrk,k3])|apply And.intro|intro _))
    all_goals first|omega|rfl|exact hPL|skip
    all_goals first|exact ⟨(i + 1,W,⟨jo,jv,s.calls⟩,nj),⟨by simp only; omega,by simp only; omega,hsj,rfl,by simp only; omega,hG⟩,by simp only; omega,by simp only [Int.natCast_add,Int.cast_ofNat_Int]; (first|(and_intros <;> rfl)|simp)⟩|trace_state
  rw [if_neg k4,if_neg k7] at hG
  have hkk := hF.kinds i hfi (by omega)
  have hx1 : hasEx (kd P i) = true := by
   rw [hasEx_iff]; omega
  clear hrow hiow
  by_cases hl : lim ≤ jv.length
  ·rw [if_pos hl] at hG
   obtain rfl : z = .stop 1 ⟨jo,jv,s.calls⟩ 0 := (Option.some.inj hG).symm
   (repeat' (first|apply zS|apply zB|((first|refine WP.regionP (id := 12) hC1 ?_); simp only [go_sem,hili,h1,hx1,hl])|((first|apply zR|apply zC|apply zT|apply zE|apply zK| refine zD 12 (by decide +kernel) (by kernel_rfl) ?_|refine zD 14 (by decide +kernel) (by kernel_rfl) ?_); simp only [go_sem,hili,h1,hx1,hl])|apply And.intro|intro _))
   all_goals first|omega|rfl|exact hPL|exact hsj|skip
   trace_state
  rw [if_neg hl] at hG
  have hsv := hsj.visit (i := i) hl
  cases hE1 : evalG appl P lim nj i (envM W) 0 (visit1 ⟨jo,jv,s.calls⟩ i) with
  |none=>rw [hE1] at hG; cases hG
  |some z1 =>
  rw [hE1] at hG
  have hEn := evalG_up (show nj ≤ n by omega) hE1
  have hz1 := (small nj).1 1 _ _ _ _ _ hsv hE1
  have hEv : EvIOk n ((P,lim,visit1 ⟨jo,jv,s.calls⟩ i),i,W,0) := ⟨hprog,hsmP,hil,hF.vld i hfi (by omega) k4 k7,⟨_,hF.known i hfi (by omega)⟩,hsv.less,by unfold zEvI; simp only [hEn]; rfl⟩
  cases z1 with
  |stop c s1 q1 =>
   simp only at hG
   obtain rfl : z = .stop c s1 0 := (Option.some.inj hG).symm
   (repeat' (first|apply zS|apply zB|((first|refine WP.regionP (id := 12) hC1 ?_|refine WP.regionP (id := 13) hC1 ?_); simp only [go_sem,hili,h1,hx1,hl,hEn])|((first|apply zR|apply zC|apply zT|apply zE|apply zK| refine zD 12 (by decide +kernel) (by kernel_rfl) ?_|refine zD 14 (by decide +kernel) (by kernel_rfl) ?_); simp only [go_sem,hili,h1,hx1,hl,hEn])|apply And.intro|intro _))
   all_goals first|omega|rfl|exact hPL|exact hsj|exact hEv|skip
   trace_state
  |ok v s1 =>
  simp only at hG
  have hg1 := (grows nj).1 _ _ _ _ _ _ hE1
  obtain ⟨o1,v1,c1⟩ := s1
  obtain rfl : c1 = s.calls := hg1.2
  have hsz : RsOk lim ⟨o1,v1,s.calls⟩ := RsD.less hz1
  have hob : o1.length ≤ 1000 := by
   have q1 := hz1.o
   have q2 := hz1.v
   have q3 := hz1.l
   simp only at q1 q2; omega
  (repeat' ((fail_if_success refine WP.atReg (b := 14) ?_); first|apply zS|apply zB|((first|refine WP.regionP (id := 12) hC1 ?_|refine WP.regionP (id := 13) hC1 ?_); simp only [go_sem,hili,h1,hx1,hl,hEn])|((first|apply zR|apply zC|apply zT|apply zE|apply zK| refine zD 12 (by decide +kernel) (by kernel_rfl) ?_|refine zD 14 (by decide +kernel) (by kernel_rfl) ?_); simp only [go_sem,hili,h1,hx1,hl,hEn])|apply And.intro|intro _))
  all_goals first|omega|rfl|exact hPL|exact hsj|exact hEv|skip
  by_cases k1 : kd P i = 1
  ·rw [if_pos k1,← envM_set] at hG
   (repeat' (first|apply zS|apply zB|((first|refine WP.regionM (id := 16) mapTys mapTysOk ?_); simp only [go_sem,hili,k1,St.runM,St.stepM,mapTys,Option.isNone_none,dstOk,keyB_st,keyB_env,mset_env])|((first|apply zR|apply zC|apply zT|apply zE|apply zK| refine zD 12 (by decide +kernel) (by kernel_rfl) ?_|refine zD 14 (by decide +kernel) (by kernel_rfl) ?_); simp only [go_sem,hili,k1,St.runM,St.stepM,mapTys,Option.isNone_none,dstOk,keyB_st,keyB_env,mset_env])|apply And.intro|intro _))
   all_goals first|omega|rfl|exact hPL|skip
   all_goals first|exact ⟨(i + 1,setM (nameAt P i) v W,⟨o1,v1,s.calls⟩,nj),⟨by simp only; omega,by simp only; omega,hsz,rfl,by simp only; omega,hG⟩,by simp only; omega,by simp only [Int.natCast_add,Int.cast_ofNat_Int]; (first|(and_intros <;> rfl)|simp)⟩|trace_state
  rw [if_neg k1] at hG
  by_cases k2 : kd P i = 2
  ·rw [if_pos k2] at hG
   have hso : RsOk lim (out1 ⟨o1,v1,s.calls⟩ v) := RsD.out hz1
   (repeat' (first|apply zS|apply zB|((first|apply zR|apply zC|apply zT|apply zE|apply zK| refine zD 12 (by decide +kernel) (by kernel_rfl) ?_|refine zD 14 (by decide +kernel) (by kernel_rfl) ?_); simp only [go_sem,hili,k1,k2])|apply And.intro|intro _))
   all_goals first|omega|rfl|exact hPL|skip
   all_goals first|exact ⟨(i + 1,W,out1 ⟨o1,v1,s.calls⟩ v,nj),⟨by simp only; omega,by simp only; omega,hso,rfl,by simp only; omega,hG⟩,by simp only; omega,by simp only [out1,Int.natCast_add,Int.cast_ofNat_Int,List.map_append,List.map_cons,List.map_nil,encI]; (first|(and_intros <;> rfl)|simp)⟩|trace_state
  rw [if_neg k2] at hG
  by_cases k6 : kd P i = 6
  ·rw [if_pos k6] at hG
   obtain rfl : z = .ok v ⟨o1,v1,s.calls⟩ := (Option.some.inj hG).symm
   (repeat' (first|apply zS|apply zB|((first|apply zR|apply zC|apply zT|apply zE|apply zK| refine zD 12 (by decide +kernel) (by kernel_rfl) ?_|refine zD 14 (by decide +kernel) (by kernel_rfl) ?_); simp only [go_sem,hili,k1,k2,k6])|apply And.intro|intro _))
   all_goals first|omega|rfl|exact hPL|skip
   trace_state
  rw [if_neg k6] at hG
  obtain ⟨e,e1,e2,e3,e4⟩ := hI.ends hfi (by omega) (show kd P i = 3 ∨ kd P i = 5 by omega)
  have hsk : skipZ P i = (skipOf P i : Nat) := skipZ_of (by omega)
  have hsE : skipOf P i < E := by
   unfold skipOf
   split
   ·rename_i hel
    obtain ⟨j,hj⟩ := Int.eq_ofNat_of_zero_le hel
    obtain ⟨ee,q1,q2,q3,q4,q5,q6,q7⟩ := elseOf_in hj
    obtain rfl : ee = e := q1.inj e2
    omega
   ·omega
  have hsi : i ≤ skipOf P i := by
   unfold skipOf
   split
   ·rename_i hel
    obtain ⟨j,hj⟩ := Int.eq_ofNat_of_zero_le hel
    obtain ⟨ee,q1,q2,q3,q4,q5,q6,q7⟩ := elseOf_in hj
    omega
   ·omega
  generalize skipOf P i = sk at hG hsk hsE hsi
  by_cases k5 : kd P i = 5
  ·by_cases v0 : v = 0
   ·rw [if_pos v0] at hG
    (repeat' (first|apply zS|apply zB|((first|refine WP.regionP (id := 24) hC1 ?_); simp only [go_sem,hili,k1,k2,k6,k5,v0,hsk])|((first|apply zR|apply zC|apply zT|apply zE|apply zK| refine zD 12 (by decide +kernel) (by kernel_rfl) ?_|refine zD 14 (by decide +kernel) (by kernel_rfl) ?_); simp only [go_sem,hili,k1,k2,k6,k5,v0,hsk])|apply And.intro|intro _))
    all_goals first|omega|rfl|exact hPL|skip
    all_goals first|exact ⟨(sk + 1,W,⟨o1,v1,s.calls⟩,nj),⟨by simp only; omega,by simp only; omega,hsz,rfl,by simp only; omega,hG⟩,by simp only; omega,by simp only [Int.natCast_add,Int.cast_ofNat_Int]; (first|(and_intros <;> rfl)|simp)⟩|trace_state
   ·rw [if_neg v0] at hG
    (repeat' (first|apply zS|apply zB|((first|refine WP.regionP (id := 24) hC1 ?_); simp only [go_sem,hili,k1,k2,k6,k5,v0])|((first|apply zR|apply zC|apply zT|apply zE|apply zK| refine zD 12 (by decide +kernel) (by kernel_rfl) ?_|refine zD 14 (by decide +kernel) (by kernel_rfl) ?_); simp only [go_sem,hili,k1,k2,k6,k5,v0])|apply And.intro|intro _))
    all_goals first|omega|rfl|exact hPL|skip
    all_goals first|exact ⟨(i + 1,W,⟨o1,v1,s.calls⟩,nj),⟨by simp only; omega,by simp only; omega,hsz,rfl,by simp only; omega,hG⟩,by simp only; omega,by simp only [Int.natCast_add,Int.cast_ofNat_Int]; (first|(and_intros <;> rfl)|simp)⟩|trace_state
  have k3 : kd P i = 3:=by omega
  by_cases v0 : v = 0
  ·rw [if_pos v0] at hG
   (repeat' (first|apply zS|apply zB|((first|refine WP.regionP (id := 24) hC1 ?_); simp only [go_sem,hili,k1,k2,k6,k3,v0,hsk])|((first|apply zR|apply zC|apply zT|apply zE|apply zK| refine zD 12 (by decide +kernel) (by kernel_rfl) ?_|refine zD 14 (by decide +kernel) (by kernel_rfl) ?_); simp only [go_sem,hili,k1,k2,k6,k3,v0,hsk])|apply And.intro|intro _))
   all_goals first|omega|rfl|exact hPL|skip
   all_goals first|exact ⟨(sk + 1,W,⟨o1,v1,s.calls⟩,nj),⟨by simp only; omega,by simp only; omega,hsz,rfl,by simp only; omega,hG⟩,by simp only; omega,by simp only [Int.natCast_add,Int.cast_ofNat_Int]; (first|(and_intros <;> rfl)|simp)⟩|trace_state
  ·rw [if_neg v0] at hG
   (repeat' (first|apply zS|apply zB|((first|refine WP.regionP (id := 24) hC1 ?_); simp only [go_sem,hili,k1,k2,k6,k3,v0])|((first|apply zR|apply zC|apply zT|apply zE|apply zK| refine zD 12 (by decide +kernel) (by kernel_rfl) ?_|refine zD 14 (by decide +kernel) (by kernel_rfl) ?_); simp only [go_sem,hili,k1,k2,k6,k3,v0])|apply And.intro|intro _))
   all_goals first|omega|rfl|exact hPL|skip
   all_goals first|exact ⟨(i + 1,W,⟨o1,v1,s.calls⟩,nj),⟨by simp only; omega,by simp only; omega,hsz,rfl,by simp only; omega,hG⟩,by simp only; omega,by simp only [Int.natCast_add,Int.cast_ofNat_Int]; (first|(and_intros <;> rfl)|simp)⟩|trace_state
 ·exact rZ_no' _
 ·exact rZ_pan' _
end
end Go.Proofs.Ytjjbcoigaejoaaa

namespace Go.Proofs.Ytjjbcoigaejoaaa
open Go.Vc
attribute [local irreducible] Go.Vc.WP
attribute [local go_sem] cx0_t cx0_c
theorem bothI : ∀ n : Nat,Cy Try.prog 89 (kEvI n) ∧ Cy Try.prog 54 (kFnI n)
 | 0=>by
  refine ⟨Cy.yen Try.func89 (by kernel_rfl) rfl fun x hx=>?_,Cy.yen Try.func54 (by kernel_rfl) rfl fun x hx=>?_⟩
  ·have := hx.z
   unfold zEvI at this
   simp [evalG] at this
  ·have := hx.z
   unfold zFnI at this
   simp [bodyG'] at this
 |n + 1=>by
  obtain ⟨h1,h2⟩ := bothI n
  refine ⟨evStepI n ?_,fnStepI n ?_⟩
  ·exact POk.cons h1 (POk.cons h2 (POk.nil _))
  ·exact POk.cons cVisI (POk.cons h1 (POk.cons cSkpI (POk.nil _)))
def kFn0 (n : Nat) : Ctx := yen [0] (fun _ obs=>decI0 obs) (fun _=>[.ptr 1000000 0 0 0,.v (.int .i64 0),.v (.slice none 0 0)]) (fun x=>obI x.1 x.2.1 x.2.2) (fun x=>FnIOk n (x,0,[])) (fun x=>pnZ (zFnI n (x,0,[])))
 (fun x=>rZ (zFnI n (x,0,[]))) (fun x=>rbS (sZ x.2.2 (zFnI n (x,0,[])))) (fun x=>kpI x.1 x.2.1)
theorem HoldsE.argImp' {E : Ending → Value → Prop} {P : Program} {f : FuncId} {args args' : List SV} {obs : List (Nat × Ob)} {res : SV} {robs kept : List (Nat × Ob)} (h : HoldsE E P f args' obs res robs kept) (hl : args'.length = args.length)
  (hi : ∀ (w : World) (X : Nat → Prop) (β : Nat → BV) (i : Nat) (c' : SV) (u : Value),args'[i]? = some c' → (∃ c,args[i]? = some c ∧ R w X β c u) → R w X β c' u) : HoldsE E P f args obs res robs kept := by
 intro w X β vs hG hβ hX hvl ha hobs hlent
 refine h w X β vs hG hβ hX (hvl.trans hl.symm) (fun i c' u hc' hu=>hi w (XX X β obs) β i c' u hc' ?_) hobs hlent
 have hlt : i < args.length:=by rw [← hl]; exact (List.getElem?_eq_some_iff.1 hc').1
 have hc : args[i]? = some (args[i]'hlt) := List.getElem?_eq_getElem hlt
 exact ⟨_,hc,ha i _ u hc hu⟩
theorem cFn0 (n : Nat) : Cy Try.prog 54 (kFn0 n) := ⟨(bothI n).2.call,fun d args obs ha=>by
 obtain ⟨he,ho,hpre⟩ := ha
 have hh := (bothI n).2.holds d [.ptr 1000000 0 0 0,.v (.int .i64 0),.sl 1 []] obs ⟨rfl,ho,hpre⟩
 refine HoldsE.argImp' hh (by rw [he]; rfl) fun w X β i c' u hc' ⟨c,hc,hR⟩=>?_
 rw [he] at hc
 match i,hc',hc with
 | 0,hc',hc=>cases hc'; cases hc; exact hR
 | 1,hc',hc=>cases hc'; cases hc; exact hR
 | 2,hc',hc =>
  cases hc'; cases hc
  have := hR.v_inv
  subst this
  exact .p (.nil 1 _ _)
 |i + 3,hc',hc=>simp at hc'⟩
end Go.Proofs.Ytjjbcoigaejoaaa

namespace Go.Vc
section
variable {N : Nat} {X0 : Nat → Prop} {M : Nat → BV → Prop} {w0 : World} {st : St} {β : Nat → BV} {a : Act} {w : World}
theorem Sim.killF (h : Sim N X0 M w0 st β a w) (d : Nat) (hdl : ∀ v,¬ M d v) {β' : Nat → BV} (hβ : ∀ i,i ≠ d → β' i = β i) (hβd : (β' d).val.oneCell' = true) {w' : World} (hos : w'.os = w.os) (htape : w'.tape = w.tape) (hout : w'.output = w.output)
  (hsz : w.heap.size ≤ w'.heap.size) (hb : ∀ b,b < w.heap.size → (lk d st.hp ≠ none → ¬ (β d).ft b) → w'.heap[b]? = w.heap[b]?)
  {X1 : Nat → Prop} (h1 : ∀ b,b < w.heap.size → X1 b → XX X0 β st.hp b) (h2 : ∀ b,X1 b → b < w'.heap.size) :
  Sim N X1 M w0 (st.kill d) β' a w' := by
 have hl : ∀ (t : Nat) (x : Ob),lk t (st.kill d).hp = some x → t ≠ d ∧ ∃ y,lk t st.hp = some y ∧ x = y.kill d := fun t x hx=>by
  simp only [St.kill,lk_map] at hx
  by_cases ht : t = d
  ·subst ht; rw [lk_er_self] at hx; cases hx
  ·rw [lk_er_ne ht] at hx
   cases hy : lk t st.hp with
   |none=>rw [hy] at hx; cases hx
   |some y=>rw [hy] at hx; exact ⟨ht,y,rfl,by simpa using hx.symm⟩
 have hX : ∀ b,b < w.heap.size → XX X1 β' (st.kill d).hp b → XX X0 β st.hp b := fun b hlt hb=>by
  rcases hb with hb|⟨id,ob,hi,hb⟩
  ·exact h1 b hlt hb
  ·obtain ⟨hne,y,hy,_⟩ := hl id ob hi
   exact .inr ⟨id,y,hy,by rw [← hβ id hne]; exact hb⟩
 have hS : Same (XX X0 β st.hp) w w' := ⟨hsz,fun b hlt hn=>hb b hlt (fun hd he=>hn (.inr ⟨d,(lk d st.hp).get (Option.isSome_iff_ne_none.2 hd),by simp,he⟩))⟩
 exact {
  size := h.size
  defers := h.defers
  beta := fun i=>by
   by_cases hi : i = d
   ·rw [hi]; exact hβd
   ·rw [hβ i hi]; exact h.beta i
  slots := fun t x hx=>by
   simp only [St.kill,lk_map] at hx
   cases hy : lk t st.fr with
   |none=>rw [hy] at hx; cases hx
   |some y =>
    rw [hy] at hx
    have hx' : y.kill d = x:=by simpa using hx
    subst hx'
    exact ((h.slots t y hy).mono hS hX).kill fun i hi=>congrArg BV.val (hβ i hi)
  objs := fun id ob hi=>by
   obtain ⟨hne,y,hy,rfl⟩ := hl id ob hi
   rw [hβ id hne]
   refine ObR.kill (fun i hi=>congrArg BV.val (hβ i hi)) ((h.objs id y hy).mono hS hX fun b hbb=>hb b ((h.objs id y hy).lt hbb) fun hd he=>?_)
   exact hne (h.inj id d y ((lk d st.hp).get (Option.isSome_iff_ne_none.2 hd)) b hy (by simp) hbb he)
  inj := fun i j oi oj b hi hj hbi hbj=>by
   obtain ⟨hni,yi,hyi,_⟩ := hl i oi hi
   obtain ⟨hnj,yj,hyj,_⟩ := hl j oj hj
   rw [hβ i hni] at hbi
   rw [hβ j hnj] at hbj
   exact h.inj i j yi yj b hyi hyj hbi hbj
  x0 := h2
  mine := fun id ob b hi hbb=>by
   obtain ⟨hne,y,hy,_⟩ := hl id ob hi
   rw [hβ id hne] at hbb
   exact h.mine id y b hy hbb
  pin := fun id v hm h1=>by rw [hβ id (fun e=>hdl v (e ▸ hm))]; exact h.pin id v hm h1
  few := h.few
  os := hos.trans h.os
  tape := htape.trans h.tape
  output := hout.trans h.output
  grew := Nat.le_trans h.grew hsz
  kept := fun b hb0 hM=>by
   rw [hb b (Nat.lt_of_lt_of_le hb0 h.grew) (fun hd he=>?_)]
   ·exact h.kept b hb0 hM
   ·rcases h.mine d ((lk d st.hp).get (Option.isSome_iff_ne_none.2 hd)) b (by simp) he with hm|hm
    ·exact hM hm
    ·omega }
theorem Sim.mvF (h : Sim N X0 M w0 st β a w) {i j : Nat} (hj : ∀ v,¬ M j v) (hij : i ≠ j) : ∃ β',Sim N X0 M w0 (st.mv i j) β' a w := by
 unfold St.mv
 cases hi : lk i st.hp with
 |none=>exact ⟨β,h⟩
 |some ob =>
  simp only
  have hβ : ∀ k,k ≠ j → (fun k=>if k = j then β i else β k) k = β k := fun k hk=>by simp [hk]
  have h1 := h.killF j hj (β' := fun k=>if k = j then β i else β k) hβ (by simp [h.beta]) (w' := w) rfl rfl rfl (Nat.le_refl _) (fun _ _ _=>rfl) (X1 := X0) (fun b _ hb=>.inl hb) h.x0
  refine ⟨fun k=>if k = j then β i else β k,?_⟩
  generalize hB : (fun k=>if k = j then β i else β k) = B at h1 hβ
  have hBij : B j = B i:=by rw [← hB]; simp
  have hik : lk i (st.kill j).hp = some (ob.kill j):=by rw [lk_kill_ne hij,hi]; rfl
  generalize hs : st.kill j = s1 at h1 hik
  generalize hob : ob.kill j = ob1 at hik
  have hjn : lk j s1.hp = none:=by rw [← hs]; exact lk_kill st j
  have hl : ∀ (t : Nat) (o : Ob),lk t ((j,ob1.up (SV.re1 i j)) :: (er i s1.hp).map fun p=>(p.1,p.2.up (SV.re1 i j))) = some o → ∃ t0 o0,lk t0 s1.hp = some o0 ∧ o = o0.up (SV.re1 i j) ∧ B t = B t0 ∧ (t = j → t0 = i) ∧ (t ≠ j → t0 = t ∧ t ≠ i) := by
   intro t o ht
   simp only [lk] at ht
   by_cases htj : t = j
   ·rw [if_pos htj] at ht; cases ht
    exact ⟨i,ob1,hik,rfl,by rw [htj]; exact hBij,fun _=>rfl,fun hn=>absurd htj hn⟩
   ·rw [if_neg htj,lk_map] at ht
    by_cases hti : t = i
    ·subst hti; rw [lk_er_self] at ht; cases ht
    ·rw [lk_er_ne hti] at ht
     cases hq : lk t s1.hp with
     |none=>rw [hq] at ht; cases ht
     |some o0=>rw [hq] at ht; exact ⟨t,o0,hq,by simpa using ht.symm,rfl,fun e=>absurd e htj,fun _=>⟨rfl,hti⟩⟩
  have hX : ∀ b,XX X0 B ((j,ob1.up (SV.re1 i j)) :: (er i s1.hp).map fun p=>(p.1,p.2.up (SV.re1 i j))) b → XX X0 B s1.hp b := fun b hb=>by
   rcases hb with hb|⟨t,o,ht,hb⟩
   ·exact .inl hb
   ·obtain ⟨t0,o0,h2,_,h3,_⟩ := hl t o ht
    exact .inr ⟨t0,o0,h2,by rw [← h3]; exact hb⟩
  have hS : Same (XX X0 B s1.hp) w w := ⟨Nat.le_refl _,fun _ _ _=>rfl⟩
  exact { h1 with
   slots := fun t x hx=>by
    rw [lk_map] at hx
    cases hy : lk t s1.fr with
    |none=>rw [hy] at hx; cases hx
    |some y =>
     rw [hy] at hx
     have hx' : y.up (SV.re1 i j) = x:=by simpa using hx
     subst hx'
     exact ((h1.slots t y hy).mono hS (fun b _=>hX b)).up fun x v hh=>hh.re1 hBij
   objs := fun id o hi'=>by
    obtain ⟨t0,o0,h2,rfl,h3,_⟩ := hl id o hi'
    rw [h3]
    exact ((h1.objs t0 o0 h2).mono hS (fun b _=>hX b) (fun _ _=>rfl)).up (fun x v hh=>hh.re1 hBij) (fun _ _ hh=>hh)
   inj := fun p q op oq b hp hq hbp hbq=>by
    obtain ⟨p0,o1,e1,_,e2,e3,e4⟩ := hl p op hp
    obtain ⟨q0,o2,f1,_,f2,f3,f4⟩ := hl q oq hq
    have := h1.inj p0 q0 o1 o2 b e1 f1 (by rw [← e2]; exact hbp) (by rw [← f2]; exact hbq)
    by_cases hpj : p = j <;> by_cases hqj : q = j
    ·rw [hpj,hqj]
    ·have := e3 hpj; have := f4 hqj; omega
    ·have := e4 hpj; have := f3 hqj; omega
    ·have := e4 hpj; have := f4 hqj; omega
   mine := fun id o b hi' hb=>by
    obtain ⟨t0,o0,h2,_,h3,_⟩ := hl id o hi'
    exact h1.mine t0 o0 b h2 (by rw [← h3]; exact hb) }
end
abbrev NoM : Nat → BV → Prop := fun _ _=>False
theorem Sim.mvsF {N : Nat} {X0 : Nat → Prop} {w0 : World} {a : Act} {w : World} : ∀ {rn : List (Nat × Nat)} {s1 : St} {β : Nat → BV},(rn.all fun p=>p.1 != p.2) = true → Sim N X0 NoM w0 s1 β a w → ∃ β',Sim N X0 NoM w0 (s1.mvL rn) β' a w
 | [],s1,β,_,h=>⟨β,h⟩
 | (i,j) :: rn,s1,β,hr,h=>by
  rw [List.all_cons,Bool.and_eq_true] at hr
  obtain ⟨β1,h1⟩ := h.mvF (fun _ q=>q) (by simpa using hr.1)
  exact Sim.mvsF (rn := rn) (s1 := s1.mv i j) hr.2 h1
def WQ (c : Cx) (N : Nat) (X0 : Nat → Prop) (M : Nat → BV → Prop) (w0 : World) (code : Code) (st : St) (Q : Exit → Act → World → Prop) : Prop :=
 Ap c.P X0 M w0 → ∀ β a w,Sim N X0 M w0 st β a w → code.wp c.P Q a w
def normK (K : St → Prop) : Exit → St → Prop
 | .normal,st=>K st
 | _,_=>False
def pinM (F ix iy : Nat) (p q : Value) : Nat → BV → Prop := fun id v=>(id = 0 ∧ v = ⟨.tuple #[.func (.func F) #[] #[p,q]],fun _=>False⟩) ∨ (id = ix ∧ v = ⟨p,fun _=>False⟩) ∨ (id = iy ∧ v = ⟨q,fun _=>False⟩)
theorem pinM_MB {F ix iy : Nat} {p q : Value} {b : Nat} : ¬ MB (pinM F ix iy p q) b := fun ⟨id,v,h,hb⟩=>by
 rcases h with ⟨_,rfl⟩|⟨_,rfl⟩|⟨_,rfl⟩ <;> exact hb
theorem NoM_MB {b : Nat} : ¬ MB NoM b := fun ⟨_,_,h,_⟩=>h
section
variable {c : Cx} {N : Nat} {X0 : Nat → Prop} {M : Nat → BV → Prop} {w0 : World} {st : St}
theorem WQ.seq {x y : Code} {Q : Exit → Act → World → Prop} (h : WP c N X0 M w0 x st (normK fun st'=>WQ c N X0 M w0 y st' Q)) : WQ c N X0 M w0 (.seq x y) st Q := fun hA β a w hs =>
 wp_seq (Code.wp_mono (fun e a w hq=>by
  obtain ⟨st',β',h1,h2⟩ := hq
  cases e with
  |normal=>exact h1 hA β' a w h2
  | _=>exact h1.elim) (h hA β a w hs))
theorem WQ.moves (rn : List (Nat × Nat)) (hr : (rn.all fun p=>p.1 != p.2) = true) {code : Code} {Q : Exit → Act → World → Prop} (h : WQ c N X0 NoM w0 code (st.mvL rn) Q) : WQ c N X0 NoM w0 code st Q := fun hA β a w hs=>by
 obtain ⟨β',h'⟩ := hs.mvsF hr
 exact h hA β' a w h'
theorem run_makeFunc {P : Program} {w : World} {fn : Fn} {first cap : Array Value} : (Instr.makeFunc fn first cap).run P w = .ok (.func fn first cap) w := rfl
theorem ptr_one {w : World} {X : Nat → Prop} {β : Nat → BV} {id : Nat} {v : Value} (hb : ∃ b,(β id).val = .pointer (some ⟨b,0,none⟩)) (h : R w X β (.ptr id 0 0 0) v) : v = (β id).val := by
 obtain ⟨b,hb⟩ := hb
 obtain ⟨b',h1,rfl⟩ := h.ptr_inv
 rw [hb] at h1 ⊢
 cases h1; rfl
theorem box_val {w : World} {X : Nat → Prop} {β : Nat → BV} {v : BV} {e : Nat} {cs : List SV} (h : ObR w X β v (.box e cs)) : ∃ b,v.val = .pointer (some ⟨b,0,none⟩) := by
 cases h with
 |box b cur hv hh hl hc=>exact ⟨b,by rw [hv]; rfl⟩
theorem WQ.deferC {id t F x y ix iy e1 e2 : Nat} {cx cy : List SV} {ty1 ty2 : Nat} {p1 p2 : String} {a1 a2 : Array Edge} {rest : Code} {Q : Exit → Act → World → Prop} {K : Exit → St → Prop}
  (hx : lk x st.fr = some (.ptr ix 0 0 0)) (hy : lk y st.fr = some (.ptr iy 0 0 0)) (ox : lk ix st.hp = some (.box e1 cx)) (oy : lk iy st.hp = some (.box e2 cy)) (hix : ix ≠ 0) (hiy : iy ≠ 0) (ht : t < N)
  (hK : Ap c.P X0 NoM w0 → ∀ p q e a w,Ok N X0 (pinM F ix iy p q) w0 (K e) a w → Q e a w)
  (h : ∀ p q,WP c N X0 (pinM F ix iy p q) w0 rest (st.put (some t) .junk) K) :
  WQ c N X0 NoM w0 (.seq (.region id #[⟨some t,.makeFunc (.func F) #[] #[.tmp x,.tmp y],ty1,p1,a1,none⟩,⟨none,.defer { callee := .value (.tmp t),args := #[],argTypes := #[] },ty2,p2,a2,none⟩] false) rest) st Q := fun hA β a w hs=>by
 have ex : a.eval (.tmp x) = (β ix).val := ptr_one (box_val (hs.objs ix _ ox)) (hs.slots x _ hx)
 have ey : a.eval (.tmp y) = (β iy).val := ptr_one (box_val (hs.objs iy _ oy)) (hs.slots y _ hy)
 have hA' : Ap c.P X0 (pinM F ix iy (β ix).val (β iy).val) w0 := ⟨fun b hb=>⟨(hA.old b hb).1,pinM_MB⟩,hA.grd,fun b hb=>(pinM_MB hb).elim⟩
 have hs2 := hs.put ht (x := .junk) (v := .func (.func F) #[] #[(β ix).val,(β iy).val]) (.junk _)
 have hev : (a.put (some t) (.func (.func F) #[] #[(β ix).val,(β iy).val])).eval (.tmp t) = .func (.func F) #[] #[(β ix).val,(β iy).val] := by
  have := hs.size
  simp [Act.eval,Act.put,this,ht]
 have hd0 : a.defers = [] := hs.defers.2 fun _ h=>h.elim
 refine wp_seq (wp_region_lit (l := [⟨some t,.makeFunc (.func F) #[] #[.tmp x,.tmp y],ty1,p1,a1,none⟩,⟨none,.defer { callee := .value (.tmp t),args := #[],argTypes := #[] },ty2,p2,a2,none⟩]) ?_)
 unfold wpList
 rw [if_pos (by rfl)]
 refine .inl ?_
 unfold Oper.wp
 have e1 : (execOp a.eval ⟨some t,.makeFunc (.func F) #[] #[.tmp x,.tmp y],ty1,p1,a1,none⟩).run c.P w = .ok (.value (.func (.func F) #[] #[(β ix).val,(β iy).val])) w := by
  generalize a.eval = ρ at ex ey
  simp [execOp,ex,ey,run_makeFunc]
 rw [e1,Oper.upon_value]
 unfold wpList
 rw [if_pos (by rfl)]
 refine .inl ?_
 unfold Oper.wp
 have e2 : (execOp (a.put (some t) (.func (.func F) #[] #[(β ix).val,(β iy).val])).eval ⟨none,.defer { callee := .value (.tmp t),args := #[],argTypes := #[] },ty2,p2,a2,none⟩).run c.P w = .ok (.defer { target := .fn (.func F) #[(β ix).val,(β iy).val],args := #[] }) w := by
  generalize (a.put (some t) (.func (.func F) #[] #[(β ix).val,(β iy).val])).eval = ρ at hev
  simp [execOp,hev,go_sem]
 rw [e2]
 simp only [Oper.upon]
 unfold wpList
 refine Code.wp_mono (fun e a' w' hq=>hK hA _ _ e a' w' hq) (h (β ix).val (β iy).val hA' β _ w ?_)
 exact { hs2 with
  defers := ⟨fun v hv _=>by
   rcases hv with ⟨_,rfl⟩|⟨h0,_⟩|⟨h0,_⟩
   ·show { target := _,args := #[] } :: a.defers = _
    rw [hd0]; rfl
   ·exact absurd h0.symm hix
   ·exact absurd h0.symm hiy,fun h=>by
   have := h _ (.inl ⟨rfl,rfl⟩)
   cases this⟩
  mine := fun id ob b hi hb=>(hs2.mine id ob b hi hb).imp (fun hm=>(NoM_MB hm).elim) _root_.id
  pin := fun id v hv h1=>by
   rcases hv with ⟨rfl,_⟩|⟨rfl,rfl⟩|⟨rfl,rfl⟩
   ·omega
   ·rfl
   ·rfl
  kept := fun b hb _=>hs2.kept b hb NoM_MB }
end
end Go.Vc

namespace Go.Vc
section
variable {c : Cx} {N : Nat} {X0 : Nat → Prop} {M : Nat → BV → Prop} {w0 : World} {st : St}
theorem Sim.frame {β : Nat → BV} {a : Act} {w : World} (h : Sim N X0 M w0 st β a w) {N' : Nat} {M' : Nat → BV → Prop} {fr' : List (Nat × SV)} {a' : Act} (hn : a'.tmps.size = N') (hf : N' ≤ 900000) (hd : DfOk M' a'.defers) (hm : ∀ b,MB M b ↔ MB M' b)
  (hp : ∀ id v,M' id v → 1000000 ≤ id → (β id).val = v.val) (hs : ∀ t x,lk t fr' = some x → R w (XX X0 β st.hp) β x (a'.tmps.getD t undef)) : Sim N' X0 M' w0 ⟨fr',st.hp⟩ β a' w :=
 {h with
  size := hn
  few := hf
  defers := hd
  slots := hs
  mine := fun id ob b hi hb=>(h.mine id ob b hi hb).imp (hm b).1 _root_.id
  pin := hp
  kept := fun b hb hM=>h.kept b hb fun q=>hM ((hm b).1 q) }
def RetD (c : Cx) (N : Nat) (X0 : Nat → Prop) (w0 : World) (rs : List ResultVar) (res : SV) (robs : List (Nat × Ob)) (fn : Func) : Ending → World → Prop := fun e w' =>
 ∃ st β a v,Sim N X0 NoM w0 st β a w' ∧ outK c.tys rs res robs st ∧ (Go.results fn a.tmps).run c.P w' = .ok v w' ∧ e = .returned v
theorem Holds.of_D {f : FuncId} {fn : Func} {code : Code} (hf : c.P.funcs[f]? = some fn) (hb : fn.body = some code) {rs : List ResultVar} (hrs : fn.results = rs.toArray) (hn : fn.ntmps = N) (hfew : N ≤ 900000) {args : List SV} (ha : args.length ≤ N) {res : SV} {robs : List (Nat × Ob)}
  (hrb0 : (robs.all fun p=>p.2.pb) = true)
  (h : ∀ (X0 : Nat → Prop) (w0 : World),WQ c N X0 NoM w0 code ⟨argsL 0 args,[]⟩ (bodyPostD c.P fn (RetD c N X0 w0 rs res robs fn))) : Holds c.P f args res robs := by
 have hrb : ∀ {id ob},lk id robs = some ob → ob.pb = true := fun {id ob} hi=>List.all_eq_true.1 hrb0 _ (lk_mem hi)
 intro w X vs hG hX hl hargs
 refine (calls_of_wp_defers hf hb (R := RetD c N X w rs res robs fn) ?_).mono ?_
 ·have hsim : Sim N X (fun _ _=>False) w ⟨argsL 0 args,[]⟩ (fun _=>nilB) { tmps := vs.toArray ++ Array.replicate (fn.ntmps - vs.toArray.size) undef,defers := [] } w := {
   size:=by simp [hn]; omega
   defers := .nil fun _ h=>h.elim
   beta := fun _=>rfl
   slots := fun t x hx=>by
    obtain ⟨_,h1⟩ := argsL_lk args 0 t x hx
    simp only [Nat.sub_zero] at h1
    have ht : t < vs.length:=by rw [hl]; exact (List.getElem?_eq_some_iff.1 h1).1
    have hv : vs[t]? = some (vs[t]'ht) := List.getElem?_eq_getElem ht
    have : (vs.toArray ++ Array.replicate (fn.ntmps - vs.toArray.size) undef).getD t undef = vs[t]'ht := by
     rw [Array.getD_eq_getD_getElem?,Array.getElem?_append_left (by simpa using ht)]
     simp [ht]
    rw [this]
    refine ((hargs t x _ h1 hv).mono ⟨Nat.le_refl _,fun _ _ _=>rfl⟩ fun b _ hb=>?_)
    rcases hb with hb|⟨id,ob,hi,_⟩
    ·exact hb
    ·cases hi
   objs := fun id ob hi=>by cases hi
   inj := fun i j oi oj b hi=>by cases hi
   x0 := hX
   mine := fun id ob b hi=>by cases hi
   pin := fun id v h=>h.elim
   few := hfew
   os := rfl
   tape := rfl
   output := rfl
   grew := Nat.le_refl _
   kept := fun _ _ _=>rfl }
  exact h X w ⟨fun b hb=>⟨hX b hb,fun ⟨_,_,hf,_⟩=>hf⟩,hG,fun b ⟨_,_,hf,_⟩=>hf.elim⟩ _ _ _ hsim
 rintro e w' ⟨st',β',a,v0,hs,ho,hv,rfl⟩
 obtain ⟨v,β2,hr,hR,hβ2,rel,hrel,_,hcov⟩ := outK_ok (c := c) hs (show fn.results.toList = rs by rw [hrs]) ho
 have hS : Same (XX X β' st'.hp) w' w' := ⟨Nat.le_refl _,fun _ _ _=>rfl⟩
 have kept : ∀ {id ob b},lk id robs = some ob → (β2 id).ft b → ∃ j,rel id j ∧ β2 id = β' j ∧ lk j st'.hp = some ob := fun {id ob b} hi hb=>by
  rcases hcov id ob hi with ⟨h1,_⟩|h1
  ·rw [h1] at hb; cases hb
  ·exact h1
 have hXs : ∀ b,b < w'.heap.size → XX X β2 robs b → XX X β' st'.hp b := fun b _ hb=>by
  rcases hb with hb|⟨id,ob,hi,hb⟩
  ·exact .inl hb
  ·obtain ⟨j,_,h1,h2⟩ := kept hi hb
   exact .inr ⟨j,ob,h2,by rw [← h1]; exact hb⟩
 rw [hr] at hv
 cases hv
 refine ⟨_,β2,rfl,⟨hs.os,hs.tape,hs.output,hs.grew,fun b hb=>hs.kept b hb (fun ⟨_,_,hf,_⟩=>hf)⟩,hβ2,hR.mono hS hXs,⟨fun id ob hi=>?_,fun i j oi oj b hi hj hbi hbj=>?_⟩,fun id ob b hi hb=>?_⟩
 ·rcases hcov id ob hi with ⟨h1,e,s,rfl⟩|⟨j,_,h1,h2⟩
  ·exact .nil e s h1
  ·rw [h1]
   have hO := hs.objs j ob h2
   cases ob with
   |sl e s rows=>exact (hO.mono hS hXs (fun _ _=>rfl)).sl_beta
   |box e cs=>exact (hO.mono hS hXs (fun _ _=>rfl)).pb_beta (hrb hi)
   |mp e es=>exact (hO.mono hS hXs (fun _ _=>rfl)).pb_beta (hrb hi)
   |dp e s rows=>exact (hO.mono hS hXs (fun _ _=>rfl)).pb_beta (hrb hi)
   |dq e s rows i0 row0=>exact (hO.mono hS hXs (fun _ _=>rfl)).pb_beta (hrb hi)
 ·obtain ⟨k1,r1,h1,h2⟩ := kept hi hbi
  obtain ⟨k2,r2,h3,h4⟩ := kept hj hbj
  have := hs.inj k1 k2 oi oj b h2 h4 (by rw [← h1]; exact hbi) (by rw [← h3]; exact hbj)
  subst this
  exact hrel i j k1 r1 r2
 ·obtain ⟨j,_,h1,h2⟩ := kept hi hb
  rcases hs.mine j ob b h2 (by rw [← h1]; exact hb) with hf|hge
  ·obtain ⟨_,_,hf,_⟩ := hf; exact hf.elim
  ·exact hge
structure DfAt (c : Cx) (F : FuncId) (fn : Func) (N ix iy : Nat) (rs : List ResultVar) (y : Nat) : Prop where
 hrs : fn.results = rs.toArray
 ix : 1000000 ≤ ix
 iy : 1000000 ≤ iy
 few : N ≤ 900000
 call : ∀ (p q : Value) (w : World),(invoke (.fn (.func F) #[p,q]) #[]).run c.P w = .ok (.enter F #[p,q]) w
theorem DfOk.pinned {F ix iy : Nat} {p q : Value} {ds : List Deferred} (h : DfOk (pinM F ix iy p q) ds) : ds = [{ target := .fn (.func F) #[p,q],args := #[] }] := h.1 _ (.inl ⟨rfl,rfl⟩) rfl
theorem leaves_idle {F : FuncId} {fn : Func} {ix iy y : Nat} {rs : List ResultVar} {res : SV} {robs : List (Nat × Ob)} (hD : DfAt c F fn N ix iy rs y)
  (hidle : ∀ (p q : Value) (w : World),CallsD c.P F #[p,q] .returning w fun e u' w'=>(∃ v,e = .returned v) ∧ u' = .returning ∧ Go.RowKit.Below w.heap.size w w')
  {p q : Value} {β : Nat → BV} {a : Act} {w : World} (hs : Sim N X0 (pinM F ix iy p q) w0 st β a w) (ho : outK c.tys rs res robs st) : Leaves c.P fn a.tmps (RetD c N X0 w0 rs res robs fn) a.defers .returning w := by
 rw [hs.defers.pinned]
 refine leaves_cons (by simp) (hD.call p q w) ((hidle p q w).mono ?_)
 rintro e u' w' ⟨⟨v,rfl⟩,rfl,hb⟩
 have hs1 := hs.grow hb (X1 := X0) (fun b _ hb=>.inl hb) (fun b hx=>Nat.lt_of_lt_of_le (hs.x0 b hx) hb.size)
 have hs2 : Sim N X0 NoM w0 ⟨st.fr,st.hp⟩ β { tmps := a.tmps,defers := [] } w' := hs1.frame hs.size hD.few (.nil fun _ h=>h.elim) (fun b=>⟨fun q=>(pinM_MB q).elim,fun q=>(NoM_MB q).elim⟩) (fun _ _ h=>h.elim) hs1.slots
 obtain ⟨v2,β2,hr,_⟩ := outK_ok (c := c) hs2 (by rw [hD.hrs]) ho
 exact ⟨v2,hr,_,β,_,v2,hs2,ho,hr,rfl⟩
def pinP (ix iy : Nat) (p q : Value) : Nat → BV → Prop := fun id v=>(id = ix ∧ v = ⟨p,fun _=>False⟩) ∨ (id = iy ∧ v = ⟨q,fun _=>False⟩)
theorem pinP_MB {ix iy : Nat} {p q : Value} {b : Nat} : ¬ MB (pinP ix iy p q) b := fun ⟨id,v,h,hb⟩=>by
 rcases h with ⟨_,rfl⟩|⟨_,rfl⟩ <;> exact hb
def CatchD (c : Cx) (F : FuncId) (X0 : Nat → Prop) (w0 : World) (NF ix iy : Nat) (x : Value) (p q : Value) (K : List (Nat × Ob) → Prop) (w : World) : Prop :=
 CallsD c.P F #[p,q] (.panicking (chainOf x)) w fun e u' w'=>(∃ v,e = .returned v) ∧ u' = .panicking [{ v := x,recovered := true }] ∧ ∃ st' β' a',K st'.hp ∧ Sim NF X0 (pinP ix iy p q) w0 st' β' a' w'
theorem leaves_stop {F : FuncId} {fn : Func} {ix iy y NF : Nat} {rs : List ResultVar} {res : SV} {robs : List (Nat × Ob)} (hD : DfAt c F fn N ix iy rs y) {x p q : Value} {β : Nat → BV} {a : Act} {w : World}
  (hs : Sim N X0 (pinM F ix iy p q) w0 st β a w) (hy : lk y st.fr = some (.ptr iy 0 0 0)) (hc : CatchD c F X0 w0 NF ix iy x p q (fun hp=>outK c.tys rs res robs ⟨[(y,.ptr iy 0 0 0)],hp⟩) w) :
  Leaves c.P fn a.tmps (RetD c N X0 w0 rs res robs fn) a.defers (.panicking (chainOf x)) w := by
 rw [hs.defers.pinned]
 refine leaves_cons (by simp) (hD.call p q w) (CallsD.mono hc ?_)
 rintro e u' w' ⟨⟨v,rfl⟩,rfl,st',β',a',hK,hs'⟩
 have hq : (β iy).val = q := hs.pin iy _ (.inr (.inr ⟨rfl,rfl⟩)) hD.iy
 have hq' : (β' iy).val = q := hs'.pin iy _ (.inr ⟨rfl,rfl⟩) hD.iy
 have hs2 : Sim N X0 NoM w0 ⟨[(y,.ptr iy 0 0 0)],st'.hp⟩ β' { tmps := a.tmps,defers := [] } w' := hs'.frame hs.size hD.few (.nil fun _ h=>h.elim) (fun b=>⟨fun q=>(pinP_MB q).elim,fun q=>(NoM_MB q).elim⟩) (fun _ _ h=>h.elim) (fun t x hx=>by
  simp only [lk] at hx
  by_cases ht : t = y
  ·rw [if_pos ht] at hx; cases hx
   subst ht
   obtain ⟨b,h1,h2⟩ := (hs.slots _ _ hy).ptr_inv
   show R w' _ β' _ (a.tmps.getD t undef)
   rw [h2]
   exact .ptr _ _ _ _ b (by rw [hq',← hq]; exact h1)
  ·rw [if_neg ht] at hx; cases hx)
 obtain ⟨v2,β2,hr,_⟩ := outK_ok (c := c) hs2 (by rw [hD.hrs]) hK
 exact ⟨v2,hr,_,β',_,v2,hs2,hK,hr,rfl⟩
end
end Go.Vc

namespace Go.Vc
section
variable {P : Program} {ops : Array Oper} {Q : Exit → Act → List Frame → World → Prop} {i : Nat} {rest : List Nat} {a : Act} {cs : List Frame} {w w' : World} {o : Oper} {v : Value}
theorem opsS_val (ho : ops[i]? = some o) (hg : o.guard = none) (h : (execOp a.eval o).run P w = .ok (.value v) w') (k : wpOpsS P ops Q rest (a.put o.dst v) cs w') : wpOpsS P ops Q (i :: rest) a cs w := by
 have hw : Region.wanted o (yielded ops a.tmps) = true:=by simp [Region.wanted,hg]
 simp only [wpOpsS,ho,hw,if_true,h,Oper.upon]
 exact k
theorem opsS_skip (ho : ops[i]? = some o) (hg : o.guard = none) (h : (execOp a.eval o).run P w = .ok .skip w') (k : wpOpsS P ops Q rest (a.put o.dst undef) cs w') : wpOpsS P ops Q (i :: rest) a cs w := by
 have hw : Region.wanted o (yielded ops a.tmps) = true:=by simp [Region.wanted,hg]
 simp only [wpOpsS,ho,hw,if_true,h,Oper.upon]
 exact k
theorem opsS_none (ho : ops[i]? = some o) (hg : o.guard = none) (h : (execOp a.eval o).run P w = .ok .recover w) (hc : recoverD cs = none) (k : wpOpsS P ops Q rest (a.put o.dst .nilIface) cs w) : wpOpsS P ops Q (i :: rest) a cs w := by
 have hw : Region.wanted o (yielded ops a.tmps) = true:=by simp [Region.wanted,hg]
 simp only [wpOpsS,ho,hw,if_true,h,hc]
 exact k
theorem opsS_some {cs' : List Frame} (ho : ops[i]? = some o) (hg : o.guard = none) (h : (execOp a.eval o).run P w = .ok .recover w) (hc : recoverD cs = some (v,cs')) (k : wpOpsS P ops Q rest (a.put o.dst v) cs' w) : wpOpsS P ops Q (i :: rest) a cs w := by
 have hw : Region.wanted o (yielded ops a.tmps) = true:=by simp [Region.wanted,hg]
 simp only [wpOpsS,ho,hw,if_true,h,hc]
 exact k
theorem eval_put {d : Nat} (h : d < a.tmps.size) : (a.put (some d) v).eval (.tmp d) = v:=by simp [Act.eval,Act.put,h]
theorem eval_put_ne {d t : Nat} (h : t ≠ d) : (a.put (some d) v).eval (.tmp t) = a.eval (.tmp t) := by
 simp [Act.eval,Act.put,Array.getElem?_setIfInBounds_ne (Ne.symm h)]
theorem size_put {d : Nat} : (a.put (some d) v).tmps.size = a.tmps.size:=by simp [Act.put]
end
theorem WP.runs {c : Cx} {N : Nat} {X0 : Nat → Prop} {M : Nat → BV → Prop} {w0 : World} {code : Code} {st : St} {K : Exit → St → Prop} (h : WP c N X0 M w0 code st K) (hA : Ap c.P X0 M w0) {β : Nat → BV} {a : Act} {w : World} (hs : Sim N X0 M w0 st β a w) :
  code.wp c.P (fun e a' w'=>Ok N X0 M w0 (K e) a' w') a w := h hA β a w hs
end Go.Vc

namespace Go.Proofs.Ytjjbcoigaejoaaa
open Go.Vc
attribute [local irreducible] Go.Vc.WP
attribute [local go_sem] cx0_t cx0_c
open Go.RowKit
theorem tas_nil (w : World) : (Instr.typeAssert .nilIface 20 92 true).run Try.prog w = .ok (.tuple #[.agg #[.int .i64 0],.bool false]) w:=by kernel_rfl
theorem tas_some (n : Int) (w : World) : (Instr.typeAssert (.iface 92 (.agg #[.int .i64 n])) 20 92 true).run Try.prog w = .ok (.tuple #[.agg #[.int .i64 n],.bool true]) w:=by kernel_rfl
theorem al_stop (w : World) (ρ : Operand → Value) {o : Oper} (ho : o.op = .alloc 92) : (execOp ρ o).run Try.prog w = .ok (.value (.pointer (some ⟨w.heap.size,0,none⟩))) (w.alloc (.cells #[.int .i64 0] 92)) := by
 simp [execOp,ho,go_sem]
theorem st_stop (w : World) (n : Int) (ρ : Operand → Value) {o : Oper} (ho : o.op = .store 92 (.tmp 2) (.tmp 7)) (h2 : ρ (.tmp 2) = .pointer (some ⟨w.heap.size,0,none⟩)) (h7 : ρ (.tmp 7) = .agg #[.int .i64 n]) :
  (execOp ρ o).run Try.prog (w.alloc (.cells #[.int .i64 0] 92)) = .ok .skip (w.alloc (.cells #[.int .i64 n] 92)) := by
 simp [execOp,ho,h2,h7,go_sem]
structure OpIs (ops : Array Oper) (i : Nat) (d : Option Nat) (p : Op) : Prop where
 ex : ∃ o,ops[i]? = some o ∧ o.op = p ∧ o.dst = d ∧ o.guard = none
theorem tail0 {ops : Array Oper} {Q : Exit → Act → List Go.Frame → World → Prop} {a : Act} {cs : List Go.Frame} {w : World} {n : Int} {b : Bool}
  (h2 : OpIs ops 2 (some 4) (.move (.tmp 6))) (h3 : OpIs ops 3 (some 7) (.extract (.tmp 4) 0)) (h4 : OpIs ops 4 (some 8) (.extract (.tmp 4) 1)) (h5 : OpIs ops 5 (some 2) (.alloc 92))
  (h6 : OpIs ops 6 none (.store 92 (.tmp 2) (.tmp 7))) (h7 : OpIs ops 7 (some 3) (.assign (.tmp 8))) (hs : a.tmps.size = 23) (e6 : a.eval (.tmp 6) = .tuple #[.agg #[.int .i64 n],.bool b])
  (k : ∀ a' : Act,a'.tmps.size = 23 → a'.defers = a.defers → a'.eval (.tmp 0) = a.eval (.tmp 0) → a'.eval (.tmp 1) = a.eval (.tmp 1) → a'.eval (.tmp 2) = .pointer (some ⟨w.heap.size,0,none⟩) → a'.eval (.tmp 3) = .bool b →
   Q .normal a' cs (w.alloc (.cells #[.int .i64 n] 92))) : wpOpsS Try.prog ops Q [2,3,4,5,6,7] a cs w := by
 obtain ⟨o2,i2,p2,d2,g2⟩ := h2
 obtain ⟨o3,i3,p3,d3,g3⟩ := h3
 obtain ⟨o4,i4,p4,d4,g4⟩ := h4
 obtain ⟨o5,i5,p5,d5,g5⟩ := h5
 obtain ⟨o6,i6,p6,d6,g6⟩ := h6
 obtain ⟨o7,i7,p7,d7,g7⟩ := h7
 refine opsS_val (w' := w) (v := .tuple #[.agg #[.int .i64 n],.bool b]) i2 g2 (by generalize a.eval = ρ at e6; simp [execOp,p2,e6]) ?_
 rw [d2]
 have s1 : (a.put (some 4) (.tuple #[.agg #[.int .i64 n],.bool b])).tmps.size = 23:=by rw [size_put,hs]
 have e4 : (a.put (some 4) (.tuple #[.agg #[.int .i64 n],.bool b])).eval (.tmp 4) = .tuple #[.agg #[.int .i64 n],.bool b] := eval_put (by omega)
 have q0 : (a.put (some 4) (.tuple #[.agg #[.int .i64 n],.bool b])).eval (.tmp 0) = a.eval (.tmp 0) := eval_put_ne (by decide)
 have q1 : (a.put (some 4) (.tuple #[.agg #[.int .i64 n],.bool b])).eval (.tmp 1) = a.eval (.tmp 1) := eval_put_ne (by decide)
 have f1 : (a.put (some 4) (.tuple #[.agg #[.int .i64 n],.bool b])).defers = a.defers := rfl
 generalize a.put (some 4) (.tuple #[.agg #[.int .i64 n],.bool b]) = a1 at *
 refine opsS_val (w' := w) (v := .agg #[.int .i64 n]) i3 g3 (by generalize a1.eval = ρ at e4; simp [execOp,p3,e4,Instr.extract]) ?_
 rw [d3]
 refine opsS_val (w' := w) (v := .bool b) i4 g4 (by have := (eval_put_ne (a := a1) (v := .agg #[.int .i64 n]) (show 4 ≠ 7 by decide)).trans e4; generalize (a1.put (some 7) (.agg #[.int .i64 n])).eval = ρ at this; simp [execOp,p4,this,Instr.extract]) ?_
 rw [d4]
 refine opsS_val i5 g5 (al_stop w _ p5) ?_
 rw [d5]
 have t1 : (a1.put (some 7) (.agg #[.int .i64 n])).tmps.size = 23:=by rw [size_put,s1]
 have t2 : ((a1.put (some 7) (.agg #[.int .i64 n])).put (some 8) (.bool b)).tmps.size = 23:=by rw [size_put,t1]
 refine opsS_skip i6 g6 (st_stop w n _ p6 (eval_put (by omega)) ?_) ?_
 ·rw [eval_put_ne (by decide),eval_put_ne (by decide),eval_put (by omega)]
 rw [d6]
 refine opsS_val (w' := w.alloc (.cells #[.int .i64 n] 92)) (v := .bool b) i7 g7 ?_ ?_
 ·have : (((((a1.put (some 7) (.agg #[.int .i64 n])).put (some 8) (.bool b)).put (some 2) (.pointer (some ⟨w.heap.size,0,none⟩))).put none undef).eval (.tmp 8)) = .bool b := by
   show ((((a1.put (some 7) (.agg #[.int .i64 n])).put (some 8) (.bool b)).put (some 2) (.pointer (some ⟨w.heap.size,0,none⟩))).eval (.tmp 8)) = .bool b
   rw [eval_put_ne (by decide),eval_put (by omega)]
  generalize ((((a1.put (some 7) (.agg #[.int .i64 n])).put (some 8) (.bool b)).put (some 2) (.pointer (some ⟨w.heap.size,0,none⟩))).put none undef).eval = ρ at this
  simp [execOp,p7,this]
 rw [d7]
 have t3 : (((a1.put (some 7) (.agg #[.int .i64 n])).put (some 8) (.bool b)).put (some 2) (.pointer (some ⟨w.heap.size,0,none⟩))).tmps.size = 23:=by rw [size_put,t2]
 refine k (((((a1.put (some 7) (.agg #[.int .i64 n])).put (some 8) (.bool b)).put (some 2) (.pointer (some ⟨w.heap.size,0,none⟩)))).put (some 3) (.bool b)) (by rw [size_put,t3]) f1 ?_ ?_ ?_ (eval_put (by omega))
 ·rw [eval_put_ne (by decide),eval_put_ne (by decide),eval_put_ne (by decide),eval_put_ne (by decide),q0]
 ·rw [eval_put_ne (by decide),eval_put_ne (by decide),eval_put_ne (by decide),eval_put_ne (by decide),q1]
 ·rw [eval_put_ne (by decide),eval_put (by omega)]
theorem catchIdle (p q : Value) (w : World) :
  CallsD Try.prog 53 #[p,q] .returning w fun e u' w'=>(∃ v,e = .returned v) ∧ u' = .returning ∧ Below w.heap.size w w' := by
 refine callsD_of_wpS Try.func53 rfl fun c₀ cs hu=>?_
 have hsz : ({ tmps := #[p,q] ++ Array.replicate (Try.f53.ntmps - #[p,q].size) undef,defers := [] } : Act).tmps.size = 23:=by simp [Try.ntmps53]
 have hd0 : ({ tmps := #[p,q] ++ Array.replicate (Try.f53.ntmps - #[p,q].size) undef,defers := [] } : Act).defers = [] := rfl
 generalize ({ tmps := #[p,q] ++ Array.replicate (Try.f53.ntmps - #[p,q].size) undef,defers := [] } : Act) = A0 at *
 apply wpS_seq
 apply wpS_region
 refine opsS_none rfl rfl (by simp [execOp,go_sem]) (by simp [recoverD,hu]) ?_
 refine opsS_val (w' := w) (v := .tuple #[.agg #[.int .i64 0],.bool false]) rfl rfl ?_ ?_
 ·have : (A0.put (some 5) .nilIface).eval (.tmp 5) = .nilIface := eval_put (by omega)
  have hta := tas_nil w
  show (execOp (A0.put (some 5) .nilIface).eval _).run _ _ = _
  generalize (A0.put (some 5) .nilIface).eval = ρ at this
  simp [execOp,this,hta]
 refine tail0 ⟨_,rfl,rfl,rfl,rfl⟩ ⟨_,rfl,rfl,rfl,rfl⟩ ⟨_,rfl,rfl,rfl,rfl⟩ ⟨_,rfl,rfl,rfl,rfl⟩ ⟨_,rfl,rfl,rfl,rfl⟩ ⟨_,rfl,rfl,rfl,rfl⟩ ?_ (eval_put ?_) fun a' h1 h2 h3 h4 h5 h6=>?_
 ·simp [size_put,hsz]
 ·simp [size_put,hsz]
 have h6 : a'.eval (.tmp 3) = .bool false := h6
 apply wpS_seq
 apply wpS_region
 refine opsS_val (w' := w.alloc (.cells #[.int .i64 0] 92)) (v := .bool false) rfl rfl (by generalize a'.eval = ρ at h6; simp [execOp,h6]) ?_
 refine wpS_cond (t := false) (eval_put (by omega)) ?_
 refine wpS_of_wp (wp_skip ?_)
 refine ⟨h2.trans hd0,.returning,?_,.tuple #[],?_,⟨_,rfl⟩,rfl,alloc_below _ _⟩
 ·rw [← hu]
 ·simp [results,Try.results53]
noncomputable def catchR : Option Code := match Try.f53.body with
 |some (.seq _ (.seq _ (.cond _ r _)))=>some r
 | _=>none
theorem catchStop {c : Cx} (hcP : c.P = Try.prog) {r : Code} (hr : catchR = some r) {X0 : Nat → Prop} {w0 : World} {st : St} {β : Nat → BV} {a : Act} {w : World} {p q : Value} {ix iy e1 e2 : Nat} {c1 c2 : List SV} {n : Int} (hix : 1000000 ≤ ix) (hiy : 1000000 ≤ iy)
  (hA : Ap c.P X0 (pinM 53 ix iy p q) w0) (hs : Sim 32 X0 (pinM 53 ix iy p q) w0 st β a w) (ox : lk ix st.hp = some (.box e1 c1)) (oy : lk iy st.hp = some (.box e2 c2)) {K : List (Nat × Ob) → Prop}
  (h : WP c 23 X0 (pinP ix iy p q) w0 r ⟨[(0,.ptr ix 0 0 0),(1,.ptr iy 0 0 0),(2,.ptr 2 0 0 0)],(st.new 2 (.box 92 [.v (.int .i64 n)]) (.ptr 2 0 0 0)).hp⟩ (normK fun st'=>K st'.hp)) :
  CatchD c 53 X0 w0 23 ix iy (stopV n) p q K w := by
 obtain rfl := Option.some.inj hr
 unfold CatchD
 rw [hcP]
 refine callsD_of_wpS Try.func53 rfl fun c₀ cs hu=>?_
 have hsz : ({ tmps := #[p,q] ++ Array.replicate (Try.f53.ntmps - #[p,q].size) undef,defers := [] } : Act).tmps.size = 23:=by simp [Try.ntmps53]
 have hd0 : ({ tmps := #[p,q] ++ Array.replicate (Try.f53.ntmps - #[p,q].size) undef,defers := [] } : Act).defers = [] := rfl
 have ha0 : ({ tmps := #[p,q] ++ Array.replicate (Try.f53.ntmps - #[p,q].size) undef,defers := [] } : Act).eval (.tmp 0) = p:=by simp [Act.eval,Try.ntmps53]
 have ha1 : ({ tmps := #[p,q] ++ Array.replicate (Try.f53.ntmps - #[p,q].size) undef,defers := [] } : Act).eval (.tmp 1) = q:=by simp [Act.eval,Try.ntmps53]
 generalize ({ tmps := #[p,q] ++ Array.replicate (Try.f53.ntmps - #[p,q].size) undef,defers := [] } : Act) = A0 at *
 apply wpS_seq
 apply wpS_region
 refine opsS_some (v := stopV n) (cs' := { c₀ with mode := .panicking [{ v := stopV n,recovered := true }] } :: cs) rfl rfl (by simp [execOp,go_sem]) (by simp [recoverD,hu,chainOf]) ?_
 refine opsS_val (w' := w) (v := .tuple #[.agg #[.int .i64 n],.bool true]) rfl rfl ?_ ?_
 ·have : (A0.put (some 5) (stopV n)).eval (.tmp 5) = .iface 92 (.agg #[.int .i64 n]) := eval_put (by omega)
  have hta := tas_some n w
  show (execOp (A0.put (some 5) (stopV n)).eval _).run _ _ = _
  generalize (A0.put (some 5) (stopV n)).eval = ρ at this
  simp [execOp,this,hta]
 refine tail0 ⟨_,rfl,rfl,rfl,rfl⟩ ⟨_,rfl,rfl,rfl,rfl⟩ ⟨_,rfl,rfl,rfl,rfl⟩ ⟨_,rfl,rfl,rfl,rfl⟩ ⟨_,rfl,rfl,rfl,rfl⟩ ⟨_,rfl,rfl,rfl,rfl⟩ ?_ (eval_put ?_) fun a' h1 h2 h3 h4 h5 h6=>?_
 ·simp [size_put,hsz]
 ·simp [size_put,hsz]
 have h6 : a'.eval (.tmp 3) = .bool true := h6
 have h3 : a'.eval (.tmp 0) = p := h3.trans ((eval_put_ne (d := 6) (by decide)).trans ((eval_put_ne (a := A0) (d := 5) (by decide)).trans ha0))
 have h4 : a'.eval (.tmp 1) = q := h4.trans ((eval_put_ne (d := 6) (by decide)).trans ((eval_put_ne (a := A0) (d := 5) (by decide)).trans ha1))
 apply wpS_seq
 apply wpS_region
 refine opsS_val (w' := w.alloc (.cells #[.int .i64 n] 92)) (v := .bool true) rfl rfl (by generalize a'.eval = ρ at h6; simp [execOp,h6]) ?_
 refine wpS_cond (t := true) (eval_put (by omega)) ?_
 refine wpS_of_wp ?_
 have hp : (β ix).val = p := hs.pin ix _ (.inr (.inl ⟨rfl,rfl⟩)) hix
 have hq : (β iy).val = q := hs.pin iy _ (.inr (.inr ⟨rfl,rfl⟩)) hiy
 obtain ⟨bx,hbx⟩ := box_val (hs.objs ix _ ox)
 obtain ⟨by_,hby⟩ := box_val (hs.objs iy _ oy)
 obtain ⟨β',h'⟩ := hs.fresh (d := 2) (by decide) (alloc_below w (.cells #[.int .i64 n] 92)) (v := plain (.pointer (some ⟨w.heap.size,0,none⟩))) (ob := .box 92 [.v (.int .i64 n)]) rfl (fun b hb=>by cases hb; exact ⟨Nat.le_refl _,by simp⟩)
  (fun X' hX=>box_obj rfl (fun u hu=>by simp only [List.mem_cons,List.not_mem_nil,or_false] at hu; subst hu; rfl) (fun k cc u hk hu=>by
   match k,hk,hu with
   | 0,hk,hu=>cases hk; cases hu; exact .p (.v _)
   |k + 1,hk,hu=>simp at hk) hX) (x := .ptr 2 0 0 0) (.inr ⟨rfl,_,rfl⟩)
 have hp' : (β' ix).val = p := h'.pin ix _ (.inr (.inl ⟨rfl,rfl⟩)) hix
 have hq' : (β' iy).val = q := h'.pin iy _ (.inr (.inr ⟨rfl,rfl⟩)) hiy
 have hsl : R (w.alloc (.cells #[.int .i64 n] 92)) (XX X0 β' (st.new 2 (.box 92 [.v (.int .i64 n)]) (.ptr 2 0 0 0)).hp) β' (.ptr 2 0 0 0) ((a.put (some 2) (.pointer (some ⟨w.heap.size,0,none⟩))).tmps.getD 2 undef) := h'.slots 2 _ (by simp [St.new,St.put,lk])
 rw [getD_put_same (by rw [hs.size]; decide)] at hsl
 have hsim : Sim 23 X0 (pinP ix iy p q) w0 ⟨[(0,.ptr ix 0 0 0),(1,.ptr iy 0 0 0),(2,.ptr 2 0 0 0)],(st.new 2 (.box 92 [.v (.int .i64 n)]) (.ptr 2 0 0 0)).hp⟩ β' (a'.put (some 9) (.bool true)) (w.alloc (.cells #[.int .i64 n] 92)) := by
  refine h'.frame (by rw [size_put,h1]) (by decide) ?_ (fun b=>⟨fun q=>(pinM_MB q).elim,fun q=>(pinP_MB q).elim⟩) (fun id v hv hid=>?_) (fun t x hx=>?_)
  ·show DfOk _ a'.defers
   rw [h2]
   show DfOk _ A0.defers
   rw [hd0]
   exact .nil fun v hv=>by rcases hv with ⟨hv,_⟩|⟨hv,_⟩ <;> omega
  ·rcases hv with ⟨rfl,rfl⟩|⟨rfl,rfl⟩
   ·exact hp'
   ·exact hq'
  ·simp only [lk] at hx
   by_cases t0 : t = 0
   ·rw [if_pos t0] at hx; cases hx; subst t0
    have : (a'.put (some 9) (.bool true)).tmps.getD 0 undef = p := (eval_put_ne (a := a') (v := .bool true) (show 0 ≠ 9 by decide)).trans h3
    rw [this,← hp,hbx]
    exact .ptr _ _ _ _ bx (by rw [hp',← hp,hbx]; rfl)
   rw [if_neg t0] at hx
   by_cases t1 : t = 1
   ·rw [if_pos t1] at hx; cases hx; subst t1
    have : (a'.put (some 9) (.bool true)).tmps.getD 1 undef = q := (eval_put_ne (a := a') (v := .bool true) (show 1 ≠ 9 by decide)).trans h4
    rw [this,← hq,hby]
    exact .ptr _ _ _ _ by_ (by rw [hq',← hq,hby]; rfl)
   rw [if_neg t1] at hx
   by_cases t2 : t = 2
   ·rw [if_pos t2] at hx; cases hx; subst t2
    have : (a'.put (some 9) (.bool true)).tmps.getD 2 undef = .pointer (some ⟨w.heap.size,0,none⟩) := (eval_put_ne (a := a') (v := .bool true) (show 2 ≠ 9 by decide)).trans h5
    rw [this]; exact hsl
   ·rw [if_neg t2] at hx; cases hx
 have hA' : Ap c.P X0 (pinP ix iy p q) w0 := ⟨fun b hb=>⟨(hA.old b hb).1,pinP_MB⟩,hA.grd,fun b hb=>(pinP_MB hb).elim⟩
 have hw := h.runs hA' hsim
 rw [hcP] at hw
 refine Code.wp_mono (fun e a2 w2 hk=>?_) hw
 obtain ⟨st2,β2,hk,hs2⟩ := hk
 cases e with
 |normal =>
  have hk : K st2.hp := hk
  exact ⟨hs2.defers.2 (fun v hv=>by rcases hv with ⟨hv,_⟩|⟨hv,_⟩ <;> omega),_,rfl,.tuple #[],by simp [results,Try.results53],⟨_,rfl⟩,rfl,st2,β2,a2,hk,hs2⟩
 | _=>exact hk.elim
def afterD (c : Cx) (X0 : Nat → Prop) (w0 : World) (r : Code) (rs : List ResultVar) (res : SV) (robs : List (Nat × Ob)) : Exit → St → Prop
 | .ret,st=>outK c.tys rs res robs st
 | .panic ch,st=>∃ n : Int,ch = chainOf (stopV n) ∧ lk 4 st.fr = some (.ptr 1000004 0 0 0) ∧ (∃ e1 c1,lk 1000005 st.hp = some (.box e1 c1)) ∧ (∃ e2 c2,lk 1000004 st.hp = some (.box e2 c2)) ∧
  ∀ p q,WP c 23 X0 (pinP 1000005 1000004 p q) w0 r ⟨[(0,.ptr 1000005 0 0 0),(1,.ptr 1000004 0 0 0),(2,.ptr 2 0 0 0)],(st.new 2 (.box 92 [.v (.int .i64 n)]) (.ptr 2 0 0 0)).hp⟩ (normK fun st'=>outK c.tys rs res robs ⟨[(4,.ptr 1000004 0 0 0)],st'.hp⟩)
 | _,_=>False
theorem afterD_ok {c : Cx} (hcP : c.P = Try.prog) {r : Code} (hr : catchR = some r) {X0 : Nat → Prop} {w0 : World} {fn : Func} {rs : List ResultVar} (hrs : fn.results = rs.toArray) {res : SV} {robs : List (Nat × Ob)} (hA : Ap c.P X0 NoM w0) (p q : Value) (e : Exit) (a : Act) (w : World)
  (h : Ok 32 X0 (pinM 53 1000005 1000004 p q) w0 (afterD c X0 w0 r rs res robs e) a w) : bodyPostD c.P fn (RetD c 32 X0 w0 rs res robs fn) e a w := by
 obtain ⟨st,β,hk,hs⟩ := h
 have hD : DfAt c 53 fn 32 1000005 1000004 rs 4 := ⟨hrs,by decide,by decide,by decide,fun p q w=>by rw [hcP]; simp [go_sem]⟩
 have hA' : Ap c.P X0 (pinM 53 1000005 1000004 p q) w0 := ⟨fun b hb=>⟨(hA.old b hb).1,pinM_MB⟩,hA.grd,fun b hb=>(pinM_MB hb).elim⟩
 cases e with
 |ret=>exact leaves_idle hD (fun p q w=>by rw [hcP]; exact catchIdle p q w) hs hk
 |panic ch =>
  obtain ⟨n,rfl,hy,⟨e1,c1,ox⟩,⟨e2,c2,oy⟩,hw⟩ := hk
  exact leaves_stop hD hs hy (catchStop hcP hr (by decide) (by decide) hA' hs ox oy (K := fun hp=>outK c.tys rs res robs ⟨[(4,.ptr 1000004 0 0 0)],hp⟩) (hw p q))
 | _=>exact hk.elim
end Go.Proofs.Ytjjbcoigaejoaaa

namespace Go.Proofs.Ytjjbcoigaejoaaa
open Go.Vc
attribute [local irreducible] Go.Vc.WP
attribute [local go_sem] cx0_t cx0_c
attribute [local go_sem] decLine_enc
def kOwn : Ctr := pur (fun args=>decLine (aR args 0)) (fun P=>[.sl 4 (P.map encLine)]) (fun P=>P.length ≤ 1048576) (fun d _=>.own d) (fun d P=>[(d,.sl 3 1 ((ownL P).map encI))])
section
noncomputable def cxOwnI := mkX [(82,kBlk),(85,kElse)] (COk.cons cBlkI (COk.cons cElseI (COk.nil _)))
theorem cxOwnI_t : cxOwnI.tys = tys := rfl
theorem cxOwnI_c : cxOwnI.C = [(82,kBlk),(85,kElse)] := rfl
attribute [local go_sem] cxOwnI_t cxOwnI_c kBlk kElse
attribute [local go_sem] aPk
theorem cOwnI : Cn Try.prog 52 kOwn := by
 refine Cn.pur Try.func52 (by kernel_rfl) rfl fun d x hx=>?_
 rename List Line=>P
 refine Holds.go (c := cxOwnI) Try.func52 rfl Try.results52 Try.ntmps52 (by omega) (by simp) rfl ?_
 intro X0 w0
 (repeat' (first|apply zS|apply zB|((first|apply zR|apply zC|apply zT|apply zE|apply zK);simp only [go_sem])|apply And.intro|intro _))
 all_goals first|omega|skip
 refine zL (fun k : Nat=>⟨[(0,.sl 4 (P.map encLine)),(3,.own 9),(11,.v (.int .i64 (P.length : Nat))),(12,.v (.int .i64 (k : Nat)))],[(9,.sl 3 1 ((ownGo P k).map encI))]⟩)
  (fun k=>k ≤ P.length) (fun k=>P.length - k) 0 (by simp) ?_ ?_
 ·have h0 : (ownGo P 0).map encI = List.replicate P.length [.v (.int .i64 0)]:=by unfold ownGo; rw [List.map_replicate]; rfl
  (simp only [go_sem,h0] <;> (first|(and_intros <;> rfl)|simp))
 intro k hk
 have hln := own_len P k
 have hnx : ownGo P (k + 1) = own2 P (own1 P (ownGo P k) k) k := rfl
 have hLd : k = P.length → ownL P = ownGo P k := fun h=>by rw [h]; rfl
 generalize ownGo P k = L at *
 have hms : ∀ (M : List Int) (x : Nat),(M.map encI).set x [SV.v (.int .i64 (k : Int))] = (M.set x (k : Int)).map encI := fun M x=>by rw [List.map_set]; rfl
 by_cases hlt : k < P.length
 ·have hkP : (k : Int) < P.length:=by omega
  have hrow : ∀ (M : List Int) (x : Nat),M.length = P.length → x < P.length → ∃ v,Go.Vc.rowAt (M.map encI) x = [.v (.int .i64 v)] := fun M x h1 h2=>⟨M[x],by rw [rowAt_map encI M x (by omega)]; rfl⟩
  have hE : (endOf P (k : Nat) = -1 ∧ own1 P L k = L) ∨ ∃ x : Nat,x < P.length ∧ endOf P (k : Nat) = (x : Int) ∧ own1 P L k = L.set x (k : Int) := by
   unfold own1
   rcases endOf_bound P (k : Nat) with q|⟨q1,q2⟩
   ·exact .inl ⟨q,by rw [q]; rfl⟩
   ·exact .inr ⟨(endOf P (k : Nat)).toNat,by omega,by omega,by rw [if_pos (by omega)]⟩
  have hS : ∀ M : List Int,(elseOf P (k : Nat) = -1 ∧ own2 P M k = M) ∨ ∃ x : Nat,x < P.length ∧ elseOf P (k : Nat) = (x : Int) ∧ own2 P M k = M.set x (k : Int) := fun M=>by
   unfold own2
   rcases elseOf_form P k with q|⟨j,e,a,b,c,d,f,g⟩
   ·exact .inl ⟨q,by rw [q]; rfl⟩
   ·have := g.lt
    exact .inr ⟨j,by omega,a,by rw [a,if_pos (by omega),Int.toNat_natCast]⟩
  rcases hE with ⟨e1,e2⟩|⟨x,e0,e1,e2⟩
  ·rw [e2] at hnx
   rcases hS L with ⟨s1,s2⟩|⟨y,s0,s1,s2⟩
   ·rw [s2] at hnx
    (repeat' (first|apply zS|apply zB|((first|apply zR|apply zC|apply zT|apply zE|apply zK);simp only [go_sem,hkP,e1,s1])|apply And.intro|intro _))
    all_goals first|omega|exact hx|skip
    all_goals first|exact ⟨k + 1,by omega,by omega,by rw [hnx]; (first|(and_intros <;> rfl)|simp)⟩|trace_state
   ·rw [s2] at hnx
    obtain ⟨v,hv⟩ := hrow L y hln s0
    have hyL : (y : Int) < L.length:=by omega
    have hy0 : (0 : Int) ≤ (y : Nat):=by omega
    (repeat' (first|apply zS|apply zB|((first|apply zR|apply zC|apply zT|apply zE|apply zK);simp only [go_sem,hkP,e1,s1,hy0,hv,hyL])|apply And.intro|intro _))
    all_goals first|omega|exact hx|skip
    all_goals first|exact ⟨k + 1,by omega,by omega,by rw [hnx,← hms]; (first|(and_intros <;> rfl)|simp)⟩|trace_state
  ·have hx0 : (0 : Int) ≤ (x : Nat):=by omega
   rw [e2] at hnx
   obtain ⟨v,hv⟩ := hrow L x hln e0
   have hxL : (x : Int) < L.length:=by omega
   rcases hS (L.set x (k : Int)) with ⟨s1,s2⟩|⟨y,s0,s1,s2⟩
   ·rw [s2] at hnx
    (repeat' (first|apply zS|apply zB|((first|apply zR|apply zC|apply zT|apply zE|apply zK);simp only [go_sem,hkP,e1,s1,hx0,hv,hxL])|apply And.intro|intro _))
    all_goals first|omega|exact hx|skip
    all_goals first|exact ⟨k + 1,by omega,by omega,by rw [hnx,← hms]; (first|(and_intros <;> rfl)|simp)⟩|trace_state
   ·rw [s2] at hnx
    obtain ⟨u,hu⟩ := hrow (L.set x (k : Int)) y (by rw [List.length_set]; exact hln) s0
    have hyL : (y : Int) < (L.set x (k : Int)).length:=by rw [List.length_set]; omega
    have hy0 : (0 : Int) ≤ (y : Nat):=by omega
    have hmx := hms L x
    have hfin : ((L.map encI).set x [SV.v (.int .i64 (k : Int))]).set y [SV.v (.int .i64 (k : Int))] = ((L.set x (k : Int)).set y (k : Int)).map encI:=by rw [hms,hms]
    (repeat' (first|apply zS|apply zB|((first|apply zR|apply zC|apply zT|apply zE|apply zK);simp only [go_sem,hkP,e1,s1,hx0,hv,hxL,hmx,hu,hyL,hy0])|apply And.intro|intro _))
    all_goals first|omega|exact hx|skip
    all_goals first|exact ⟨k + 1,by omega,by omega,by rw [hnx,← hfin]; (first|(and_intros <;> rfl)|simp); rfl⟩|trace_state
 ·have hge : ¬ (k : Int) < P.length:=by omega
  obtain rfl : k = P.length:=by omega
  rw [hLd rfl]
  (repeat' (first|apply zS|apply zB|((first|apply zR|apply zC|apply zT|apply zE|apply zK);simp only [go_sem,hge])|apply And.intro|intro _))
  all_goals first|omega|rfl|skip
end
end Go.Proofs.Ytjjbcoigaejoaaa

namespace Go.Vc
inductive OT where
 |done
 |op (i : Nat) (t : OT)
 |alt (t u : OT)
def OT.find (i : Nat) : OT → Option OT
 | .done=>none
 | .op j t=>if i = j then some t else none
 | .alt t u=>match OT.find i t with
  |some x=>some x
  |none=>OT.find i u
def OT.isDone : OT → Bool
 | .done=>true
 | _=>false
def otOk (ops : Array Oper) : Nat → Array Bool → OT → Bool
 | 0,listed,t=>(Region.ready .any ops listed).isEmpty && t.isDone
 |f + 1,listed,t=>if (Region.ready .any ops listed).isEmpty then t.isDone else
  (Region.ready .any ops listed).all fun i=>match t.find i with
   |some t'=>otOk ops f (listed.setIfInBounds i true) t'
   |none=>false
def runT (stp : Oper → St → (St → Prop) → Prop) (l : List Oper) : OT → St → (St → Prop) → Prop
 | .done,st,K=>K st
 | .op i t,st,K=>match l[i]? with
  |some o=>stp o st fun st'=>runT stp l t st' K
  |none=>False
 | .alt t u,st,K=>runT stp l t st K ∧ runT stp l u st K
theorem runT_find {stp : Oper → St → (St → Prop) → Prop} {l : List Oper} {i : Nat} {st : St} {K : St → Prop} : ∀ {t t' : OT},t.find i = some t' → runT stp l t st K → runT stp l (.op i t') st K
 | .done,_,h,_=>by cases h
 | .op j t,t',h,hr=>by
  unfold OT.find at h
  split at h
  ·rename_i e; subst e; cases h; exact hr
  ·cases h
 | .alt t u,t',h,hr=>by
  unfold OT.find at h
  cases hf : t.find i with
  |some x=>rw [hf] at h; cases h; exact runT_find hf hr.1
  |none=>rw [hf] at h; exact runT_find h hr.2
section
variable {c : Cx} {N : Nat} {X0 : Nat → Prop} {M : Nat → BV → Prop} {w0 : World} {st : St} {K : Exit → St → Prop}
theorem wpAny_T {l : List Oper} {stp : Oper → St → (St → Prop) → Prop} (hS : StpOk c.P N X0 M w0 l.toArray (fun e a' w'=>Ok N X0 M w0 (K e) a' w') stp) :
  ∀ (f : Nat) (listed : Array Bool) (t : OT) (st : St) (β : Nat → BV) (a : Act) (w : World),otOk l.toArray f listed t = true → Sim N X0 M w0 st β a w → runT stp l t st (K .normal) → wpAny c.P .any l.toArray (fun e a' w'=>Ok N X0 M w0 (K e) a' w') f listed a w
 | 0,listed,t,st,β,a,w,hk,hs,hr=>by
  unfold otOk at hk
  rw [Bool.and_eq_true,List.isEmpty_iff] at hk
  cases t with
  |done=>exact ⟨hk.1,st,β,hr,hs⟩
  | _=>cases hk.2
 |f + 1,listed,t,st,β,a,w,hk,hs,hr=>by
  unfold otOk at hk
  refine ⟨fun he=>?_,fun i hi=>?_⟩
  ·rw [if_pos (by rw [he]; rfl)] at hk
   cases t with
   |done=>exact ⟨st,β,hr,hs⟩
   | _=>cases hk
  ·rw [if_neg (by intro he; rw [List.isEmpty_iff.1 he] at hi; cases hi)] at hk
   have hi' := List.all_eq_true.1 hk i hi
   cases hf : t.find i with
   |none=>rw [hf] at hi'; cases hi'
   |some t' =>
    rw [hf] at hi'
    have hr' := runT_find hf hr
    unfold runT at hr'
    cases ho : l[i]? with
    |none=>rw [ho] at hr'; exact hr'.elim
    |some o =>
     rw [ho] at hr'
     have hs1 := hS st β a w o _ hs hr'
     have hn : ∀ a w,Ok N X0 M w0 (fun st'=>runT stp l t' st' (K .normal)) a w → wpAny c.P .any l.toArray (fun e a' w'=>Ok N X0 M w0 (K e) a' w') f (listed.setIfInBounds i true) a w := fun a w ⟨st',β',h1,h2⟩ =>
      wpAny_T hS f _ t' st' β' a w hi' h2 h1
     unfold wpOp
     have ho' : l.toArray[i]? = some o:=by simpa using ho
     simp only [ho']
     split
     ·rename_i hw; rw [if_pos hw] at hs1; exact .inl (Oper.wp_mono hn hs1)
     ·rename_i hw; rw [if_neg hw] at hs1; exact hn _ _ hs1
theorem WP.anyS {id : Nat} {l : List Oper} (t : OT) {stp : Oper → St → (St → Prop) → Prop} (hB : otOk l.toArray l.toArray.size (Array.replicate l.toArray.size false) t = true) (hm : c.P.follows .mixedOrders = true)
  (hS : Ap c.P X0 M w0 → StpOk c.P N X0 M w0 l.toArray (fun e a' w'=>Ok N X0 M w0 (K e) a' w') stp) (h : runT stp l t st (K .normal)) : WP c N X0 M w0 (.region id l.toArray true) st K := fun hA β a w hs =>
 wp_region_any hm (wpAny_T (hS hA) _ _ t st β a _ hB (hs.grow ((Go.RowKit.Below.refl _ _).drew) (fun b _ hb=>.inl hb) hs.x0) h)
theorem WP.anyP {id : Nat} {l : List Oper} (t : OT) {C2 : List (FuncId × Ctx)} (hC2 : POk c.P C2) (hB : otOk l.toArray l.toArray.size (Array.replicate l.toArray.size false) t = true) (hm : c.P.follows .mixedOrders = true)
  (h : runT (St.stepP c.tys c.C C2 N l.toArray fun x=>K (.panic (chainOf x))) l t st (K .normal)) : WP c N X0 M w0 (.region id l.toArray true) st K :=
 WP.anyS t hB hm (fun hA=>stepP_ok hC2 hA fun x a w hk=>hk) h
end
end Go.Vc

namespace Go.Proofs.Ytjjbcoigaejoaaa
open Go.Vc
attribute [local irreducible] Go.Vc.WP
attribute [local go_sem] cx0_t cx0_c
attribute [local irreducible] Go.Vc.WQ
attribute [local go_sem] decLine_enc decI_enc decS_enc decTok_enc oneTok_f decVl_enc rs_eta headsBy innersBy llX lmX St.callX St.panOf St.callLG ctrs St.isX St.stepP runS retY St.fzS addL behind ghoK St.gho St.gh SV.flat St.hasO St.setO Ob.jk SV.jk Ob.bx
attribute [local go_sem] St.ado St.adoptB St.adoptS rp isNil normK afterD
attribute [local go_sem] obI rbS kpI decI0 yen pnZ rZ sZ
theorem allVs_nilI : allVs ([] : List (List SV)) := fun _ h=>by cases h
section
def tdRun : TyD := { kind := 0,size := 1,bytes := 8,z := [.pointer none] }
def tysI : List (Nat × TyD) := (87,tdRun) :: tys
theorem lkI (T : Nat) : lk T tysI = if T = 87 then some { kind := 0,size := 1,bytes := 8,z := [.pointer none] } else lk T tys := rfl
theorem tysIOk : ∀ T d,lk T tysI = some d → TyOk Try.prog T d := fun T d h=>by
 rw [lkI] at h
 split at h
 ·rename_i hT
  subst hT
  cases h
  exact ⟨by kernel_rfl,by show _ = _; kernel_rfl,by decide,.inl rfl⟩
 ·exact tysOk T d h
noncomputable def cxIntI : Cx := { P := Try.prog,tys := tysI,C := [(51,kPrgOk),(35,k60),(52,kOwn)],hty := tysIOk,hC := COk.cons cPrgOkI (COk.cons c60 (COk.cons cOwnI (COk.nil _))) }
theorem cxIntI_t : cxIntI.tys = tysI := rfl
theorem cxIntI_c : cxIntI.C = [(51,kPrgOk),(35,k60),(52,kOwn)] := rfl
attribute [local go_sem] cxIntI_t cxIntI_c kPrgOk k60 kOwn lkI
def cTopI (n : Nat) : List (FuncId × Ctx) := [(54,kFn0 n)]
attribute [local go_sem] cTopI kFn0
attribute [local irreducible] smLine
set_option maxHeartbeats 4000000
theorem cIntI : Cn Try.prog 28 kInt := by
 refine Cn.pur Try.func28 (by kernel_rfl) rfl fun d x hx=>?_
 obtain ⟨P,l⟩ := x
 obtain ⟨hPL,hsm⟩ := hx
 simp only at hPL hsm ⊢
 by_cases hg : progOk P = true ∧ 0 ≤ l ∧ l ≤ 1000
 ·obtain ⟨hp,hl⟩ := hg
  obtain ⟨n,z,hz⟩ := runs hp l.toNat
  have hi : interp P l = ofZ z := by
   unfold interp; rw [if_pos ⟨hp,hl⟩,runZ_of hz]
  have hC : POk Try.prog (cTopI n) := POk.cons (cFn0 n) (POk.nil _)
  simp only [hi]
  clear hi
  obtain ⟨lim,rfl⟩ := Int.eq_ofNat_of_zero_le hl.1
  rw [Int.toNat_natCast] at hz
  have hl2 : ((0 : Int) ≤ (lim : Nat) ∧ ((lim : Nat) : Int) ≤ 1000) = True := eq_true hl
  have hFn : FnIOk n ((P,lim,⟨[],[],[]⟩),0,[]) := ⟨progOk_iff.1 hp,hsm,List.length_pos_iff.2 (progOk_iff.1 hp).some,(progOk_iff.1 hp).main.1,by simp only [(progOk_iff.1 hp).main.2.2]; rfl,⟨by simp only; omega,Nat.zero_le _,Nat.le_refl _,Nat.zero_le _⟩,by unfold zFnI; unfold zTop at hz; simp only [hz]; rfl⟩
  have hd0 : decI [] = [] := rfl
  have hd1 : decVl [] = [] := rfl
  have hzP : zFnI n ((P,lim,⟨[],[],[]⟩),0,[]) = some z := hz
  refine Holds.of_D (c := cxIntI) Try.func28 rfl Try.results28 Try.ntmps28 (by omega) (by simp) rfl fun X0 w0=>?_
  refine WQ.seq ?_
  (repeat' (first|apply zS|apply zB|((first|apply zR|apply zC|apply zT|apply zE|apply zK);simp only [go_sem])|apply And.intro|intro _))
  refine WQ.seq ?_
  (repeat' (first|apply zS|apply zB|((first|apply zR|apply zC|apply zT|apply zE|apply zK);simp only [go_sem,hp,hl2])|apply And.intro|intro _))
  all_goals first|omega|rfl|exact hPL|exact hsm _ ‹_›|skip
  refine WQ.seq ?_
  (repeat' (first|apply zS|apply zB|((first|apply zR|apply zC|apply zT|apply zE|apply zK);simp only [go_sem])|apply And.intro|intro _))
  all_goals first|omega|rfl|exact hPL|exact hsm _ ‹_›|skip
  refine WQ.moves [(5,1000005),(4,1000004)] rfl ?_
  simp only [go_sem]
  refine WQ.deferC (e1 := 87) (e2 := 39) rfl rfl rfl rfl (by decide) (by decide) (by decide) (fun hA=>afterD_ok rfl rfl Try.results28 hA) fun p q=>?_
  simp only [go_sem]
  refine zP [18] [] rfl ?_
  simp only [go_sem]
  refine zA [.b 20 2 803 3 1,.b 20 3 801 3 1,.b 20 4 802 36 1] ?_
  refine zG [.dp 802] ?_
  simp only [go_sem]
  refine ⟨allVs_nilI,?_⟩
  let T3 : OT := .op 3 (.op 4 (.op 5 (.op 6 .done)))
  cases z with
  |stop c s q =>
   (repeat' ((fail_if_success refine WP.atReg (b := 5) ?_); first|apply zS|apply zB|((first|apply zR|apply zC|apply zT|apply zE|apply zK);simp only [go_sem])|apply And.intro|intro _))
   refine WP.anyP (.alt (.op 0 (.op 1 (.op 2 T3))) (.op 1 (.alt (.op 0 (.op 2 T3)) (.op 2 (.op 0 T3))))) hC (by decide +kernel) (by kernel_rfl) ?_
   simp only [T3,Go.Vc.runT,List.getElem?_cons_zero,List.getElem?_cons_succ]
   simp only [go_sem,hd0,hd1,hzP,ofZ]
   refine ⟨rfl,hFn,c,rfl,⟨_,_,rfl⟩,⟨_,_,rfl⟩,fun p q=>?_⟩
   (repeat' (first|apply zS|apply zB|((first|apply zR|apply zC|apply zT|apply zE|apply zK| refine zD 13 (by kernel_rfl) (by kernel_rfl) ?_); simp only [go_sem])|apply And.intro|intro _))
   all_goals first|omega|rfl|exact ⟨_,_,rfl,_,_,rfl,rfl⟩|exact if_neg (by omega)|skip
  |ok v s =>
   (repeat' ((fail_if_success refine WP.atReg (b := 5) ?_); first|apply zS|apply zB|((first|apply zR|apply zC|apply zT|apply zE|apply zK);simp only [go_sem])|apply And.intro|intro _))
   refine WP.anyP (.alt (.op 0 (.op 1 (.op 2 T3))) (.op 1 (.alt (.op 0 (.op 2 T3)) (.op 2 (.op 0 T3))))) hC (by decide +kernel) (by kernel_rfl) ?_
   simp only [T3,Go.Vc.runT,List.getElem?_cons_zero,List.getElem?_cons_succ]
   simp only [go_sem,hd0,hd1,hzP,ofZ]
   (repeat' (refine And.intro ?_ ?_))
   all_goals first|rfl|exact hFn|skip
   all_goals ((repeat' (first|apply zS|apply zB|((first|apply zR|apply zC|apply zT|apply zE|apply zK);simp only [go_sem])|apply And.intro|intro _)))
   all_goals first|omega|rfl|exact ⟨_,_,rfl,_,_,rfl,rfl⟩|exact if_neg (by omega)|skip
 ·have hi : interp P l = ([],[],0,3) := by
   unfold interp; rw [if_neg hg]
  rw [hi]
  refine Holds.go (c := cxIntI) Try.func28 rfl Try.results28 Try.ntmps28 (by omega) (by simp) rfl fun X0 w0=>?_
  by_cases hp : progOk P = true
  ·have hl2 : (0 ≤ l ∧ l ≤ 1000) = False := eq_false fun q=>hg ⟨hp,q⟩
   (repeat' ((fail_if_success refine WP.atReg (b := 2) ?_); first|apply zS|apply zB|((first|apply zR|apply zC|apply zT|apply zE|apply zK);simp only [go_sem,hp,hl2])|apply And.intro|intro _))
   all_goals first|omega|rfl|exact hPL|exact hsm _ ‹_›|skip
   apply zR
   simp only [go_sem]
   refine zA [.b 4 0 801 3 1,.b 4 1 802 36 1] ?_
   refine zG [.dp 802] ?_
   simp only [go_sem]
   refine ⟨allVs_nilI,?_⟩
   (repeat' (first|apply zS|apply zB|((first|apply zR|apply zC|apply zT|apply zE|apply zK);simp only [go_sem])|apply And.intro|intro _))
   all_goals first|omega|rfl|exact ⟨_,_,rfl,_,_,rfl,rfl⟩|exact if_neg (by omega)|skip
  ·(repeat' ((fail_if_success refine WP.atReg (b := 2) ?_); first|apply zS|apply zB|((first|apply zR|apply zC|apply zT|apply zE|apply zK);simp only [go_sem,hp])|apply And.intro|intro _))
   all_goals first|omega|rfl|exact hPL|exact hsm _ ‹_›|skip
   apply zR
   simp only [go_sem]
   refine zA [.b 4 0 801 3 1,.b 4 1 802 36 1] ?_
   refine zG [.dp 802] ?_
   simp only [go_sem]
   refine ⟨allVs_nilI,?_⟩
   (repeat' (first|apply zS|apply zB|((first|apply zR|apply zC|apply zT|apply zE|apply zK);simp only [go_sem])|apply And.intro|intro _))
   all_goals first|omega|rfl|exact ⟨_,_,rfl,_,_,rfl,rfl⟩|exact if_neg (by omega)|skip
end
end Go.Proofs.Ytjjbcoigaejoaaa

namespace Go.Proofs.Ytjjbcoigaejoaaa
open Go.Vc
attribute [local go_sem] St.runR St.runW St.stepV offV St.step St.stepU St.stepG mkCond guardB St.prK St.pr St.prLen St.eff St.callE St.callD St.callF St.callL aI aS aR aC St.isM St.argL Ctr.pure Ctr.lend Ctr.move Ctr.isL Ctr.wri pur len lentBy St.lentV St.lent1 nthS argsR restOf obsR pairs swapL unObs backL St.resL erL SV.ren1 SV.up SV.up2 Ob.up St.fzL cellIds partIds St.intoRow SV.ownId St.fz SV.fz1 St.prep St.mvL St.mv SV.re1 rnOk St.prEq vals eqCells scEq Value.kd St.prStr St.prCut cutR St.bnd St.prMin St.bld isShift outL retL outJ oR oC oD SV.upq SV.isSl SV.shut St.deepK St.dpArg St.deepQ absC Ob.pl St.ev St.get St.put St.new St.kill SV.kill SV.kill1 Ob.kill St.app St.wrt St.rowsOf St.res St.killL lk er argsL SV.strip SV.need SV.share SV.share1 SV.owns SV.owns1 SV.owns2 SV.good SV.good1 SV.rok SV.rok1 SV.rok2 SV.isV SV.isV2 nodupN SV.cells SV.one SV.pur Ob.pb partsIn rowsIn splice cellsAt dstOk scal2 scal1 thenK blockK retK outK outs okC okL okA okT nilC nilL nilA nilT keepC keepL keepA keepT St.runG St.dltK St.least St.clean St.final St.hide offK badS badO SV.refs SV.leaf SV.leaf2 Ob.refs dlOk fpAt Go.Vc.cover tups SV.ofAgg St.out outC subL St.has rng wr Value.oneCell' Option.isSome_some Option.isSome_none List.nil_append Bool.false_eq_true List.map_cons List.map_nil List.all_cons List.all_nil List.length_cons List.length_nil List.drop_zero List.drop_succ_cons List.take_succ_cons List.take_zero List.drop_nil List.take_nil List.getElem?_cons_zero List.getElem?_cons_succ List.getElem?_nil List.cons_append List.nil_append List.append_nil List.append_assoc List.flatMap_cons List.flatMap_nil List.contains_cons List.contains_nil List.set_cons_zero List.set_cons_succ List.getElem?_toArray Option.getD_some Option.getD_none Option.map_some Option.map_none Option.bind_some Option.some.injEq Prod.mk.injEq if_true if_false true_and and_true and_self and_false false_and Bool.and_false Bool.false_and Bool.or_true Bool.true_or Bool.or_false Bool.false_or ne_eq not_true_eq_false not_false_eq_true decide_true decide_false List.mem_cons List.not_mem_nil List.filter_cons List.filter_nil List.any_cons List.any_nil List.isEmpty_nil List.isEmpty_cons Option.getD_none or_false false_or true_or or_true forall_eq_or_imp forall_eq reduceCtorEq exists_eq exists_eq' exists_eq_left' exists_eq_left exists_eq_right exists_eq_right' imp_self implies_true Bool.and_true Bool.true_and Bool.and_self beq_self_eq_true List.replicate_succ List.replicate_zero forall_const false_implies pickB_or pickB_and beqT beqF Int.toNat_natCast List.length_map List.length_replicate ge_iff_le gt_iff_lt decide_eq_true_eq decide_eq_false_iff_not Bool.and_eq_true Bool.or_eq_true Bool.not_eq_true' Bool.not_eq_false' condG List.toList_toArray Bool.or_eq_false_iff Bool.and_eq_false_iff Int.not_lt Int.not_le beq_iff_eq beq_eq_false_iff_ne bne_iff_ne bne_eq_false_iff_eq ne_eq Bool.not_true Bool.not_false exists_and_left
section
open Go.Vc
attribute [local irreducible] Go.Vc.WP
attribute [local go_sem] cx0_t cx0_c
section
attribute [local go_sem] oneFrame
end
section
attribute [local go_sem] oneFrame
end
section
attribute [local go_sem] oneFrame
end
end
end Go.Proofs.Ytjjbcoigaejoaaa
namespace Go.Proofs.Ytjjbcoigaejoaaa
open Go.Vc
attribute [local irreducible] Go.Vc.WP
attribute [local go_sem] cx0_t cx0_c
def encFS (F : List Frame) : List SV := [.sl 2 (F.map encFrame)]
attribute [local go_sem] decFrame_enc oneFrame_enc isV_Frame St.fzS addL behind ghoK St.gho St.gh SV.flat
theorem allVs_Frame (L : List Frame) : allVs (L.map encFrame) ↔ True := allVs_map (fun x c hc=>by simp only [encFrame,List.mem_cons,List.not_mem_nil,or_false] at hc; rcases hc with rfl|rfl <;> exact ⟨_,rfl⟩) L
attribute [local go_sem] allVs_Frame
section
end
section
end
section
end
end Go.Proofs.Ytjjbcoigaejoaaa

namespace Go.Proofs.Ytjjbcoigaejoaaa
open Go.Vc
attribute [local irreducible] Go.Vc.WP
attribute [local go_sem] cx0_t cx0_c
attribute [local go_sem] decLine_enc decI_enc decVl_enc decFrame_enc St.fzS addL behind ghoK St.gho St.gh SV.flat St.mkd
noncomputable def kVst : Ctr := pur (fun args=>(decLine (aR args 0),aI args 1)) (fun x=>[.sl 4 (x.1.map encLine),.v (.int .i64 x.2)]) (fun x=>x.1.length ≤ 1048576 ∧ ∀ y ∈ x.1,smLine y)
 (fun d x=>.tup [.own d,.v (.bool (decide ((interp x.1 x.2).2.2.2 = 0)))]) (fun d x=>[(d,.dp 48 1 ((vstk x.1 x.2).map encFS))])
theorem vst_take {P : List Line} {V : List (List Int)} {k : Nat} (h : k < V.length) : ((V.take (k + 1)).map (vfr P)).map encFS = ((V.take k).map (vfr P)).map encFS ++ [[.sl 2 ((vfr P V[k]).map encFrame)]] := by
 rw [List.take_succ_eq_append_getElem h,List.map_append,List.map_append]; rfl
section
noncomputable def cxVstI := mkX [(28,kInt),(18,kVF)] (COk.cons cIntI (COk.cons cVFI (COk.nil _)))
theorem cxVstI_t : cxVstI.tys = tys := rfl
theorem cxVstI_c : cxVstI.C = [(28,kInt),(18,kVF)] := rfl
attribute [local go_sem] cxVstI_t cxVstI_c kInt kVF
attribute [local irreducible] smLine
theorem cVstI : Cn Try.prog 14 kVst := by
 refine Cn.pur Try.func14 (by kernel_rfl) rfl fun d x hx=>?_
 obtain ⟨P,l⟩ := x
 obtain ⟨hPL,hsm⟩ := hx
 simp only at hPL hsm ⊢
 obtain ⟨hgv,hvl⟩ := interp_vis P l
 unfold vstk
 refine Holds.go (c := cxVstI) Try.func14 rfl Try.results14 Try.ntmps14 (by omega) (by simp) rfl ?_
 intro X0 w0
 (repeat' (first|apply zS|apply zB|((first|apply zR|apply zC|apply zT|apply zE|apply zK| refine zD 5 (by decide +kernel) (by kernel_rfl) ?_); simp only [go_sem])|apply And.intro|intro _))
 all_goals first|omega|rfl|exact hPL|exact hsm _ ‹_›|skip
 refine zP [1012] [] rfl ?_
 simp only [go_sem]
 refine zG [.dp 13] ?_
 simp only [go_sem]
 refine ⟨(fun r hr=>by cases hr),?_⟩
 refine WP.mark ?_
 generalize hV : (interp P l).2.1 = V at *
 generalize (interp P l).2.2.1 = vv at *
 generalize (interp P l).2.2.2 = cc at *
 generalize (interp P l).1 = oo at *
 refine WP.loopP [] [(26,13)] rfl (fun k : Nat=>⟨[(0,.sl 4 (P.map encLine)),(6,.ptr 6 0 0 0),(7,.own 13),(15,.sl 1 (V.map encVl)),(16,.v (.int .i64 (V.length : Nat))),(17,.v (.int .i64 (k : Nat))),(999999,.junk)],
  [(6,.box 39 [.own 12,.sl 1 (V.map encVl),.v (.int .i64 vv),.v (.int .i64 cc)]),(12,.sl 3 1 (oo.map encI)),(13,.dp 48 1 (((V.take k).map (vfr P)).map encFS))]⟩) (fun k=>k ≤ V.length) (fun k=>V.length - k) 0 (Nat.zero_le _) ?_ ?_
 ·(simp only [go_sem,St.mkd,List.take_zero,List.map_nil] <;> (first|(and_intros <;> rfl)|simp))
 intro k hk
 by_cases hlt : k < V.length
 ·have hli : (k : Int) < (V.length : Nat):=by omega
  have h1 := rowAt_map encVl V k hlt
  have hv7 := (hgv _ (List.getElem_mem hlt)).len
  have hst := vst_take (P := P) hlt
  have hfl := vfr_len P V[k]
  have hlk : (V.take k).length = k:=by rw [List.length_take]; omega
  generalize V[k] = v at h1 hv7 hst hfl
  rw [encVl] at h1
  (repeat' (first|apply zS|apply zB|((first|apply zR|apply zC|apply zT|apply zE|apply zK| refine zD 5 (by decide +kernel) (by kernel_rfl) ?_); simp only [go_sem,hli,h1,hlk])|apply And.intro|intro _))
  all_goals first|omega|rfl|exact hPL|exact (allVs_Frame _).2 trivial _ (by assumption) _ (by assumption)|skip
  all_goals first|exact ⟨k + 1,by omega,by omega,by rw [hst]; (first|(and_intros <;> rfl)|simp)⟩|trace_state
 ·have hge : ¬ (k : Int) < (V.length : Nat):=by omega
  obtain rfl : k = V.length:=by omega
  rw [List.take_length]
  (repeat' (first|apply zS|apply zB|((first|apply zR|apply zC|apply zT|apply zE|apply zK| refine zD 5 (by decide +kernel) (by kernel_rfl) ?_); simp only [go_sem,hge])|apply And.intro|intro _))
  all_goals first|omega|rfl|exact hPL|exact ⟨_,_,_,rfl⟩|exact ⟨_,_,rfl⟩|skip
attribute [local go_sem] kInt kVF
end
end Go.Proofs.Ytjjbcoigaejoaaa

namespace Go.Proofs.Ytjjbcoigaejoaaa
open Go.Vc
attribute [local irreducible] Go.Vc.WP
attribute [local go_sem] cx0_t cx0_c
attribute [local go_sem] decNode_enc decFrame_enc oneFrame_enc stkA oneFrame_ab oneNode_abc
theorem intGo_step {L : List Frame} {k : Nat} (hk : k < L.length) (s : List Node × Int) : intGo (L.drop k) s = intGo (L.drop (k + 1)) (if child s.1 s.2 L[k] < 0 then (s.1 ++ [mkNode s.2 L[k]],(s.1.length : Int)) else (s.1,child s.1 s.2 L[k])) := by
 rw [List.drop_eq_getElem_cons hk,intGo]
theorem intern_no {N : List Node} {L : List Frame} (h : stacksOk N = false ∨ L.length = 0) : intern N L = (N,-1) := by
 unfold intern
 rw [if_neg]
 rintro ⟨h1,h2,_⟩
 rcases h with h|h
 ·rw [h1] at h; cases h
 ·exact h2 (List.eq_nil_of_length_eq_zero h)
theorem intern_bad {N : List Node} {L : List Frame} {k : Nat} (hk : k < L.length) (h : frOk L[k] = false) : intern N L = (N,-1) := by
 unfold intern
 rw [if_neg]
 rintro ⟨_,_,h3⟩
 rw [List.all_eq_true] at h3
 rw [h3 _ (List.getElem_mem hk)] at h; cases h
def kIntern : Ctr := pur (fun args=>(stkA args 0,decFrame (aR args 1))) (fun x=>[.agg [.sl 3 (x.1.map encNode)],.sl 2 (x.2.map encFrame)]) (fun x=>(x.1.length + x.2.length ≤ 4398046511104 ∧ ∀ n ∈ x.1,n.name.size ≤ 1099511627776) ∧ ∀ f ∈ x.2,f.name.size ≤ 1099511627776)
 (fun d x=>.tup [.agg [.own d],.v (.int .i64 (intern x.1 x.2).2)]) (fun d x=>[(d,.sl 139 3 ((intern x.1 x.2).1.map encNode))])
section
attribute [local go_sem] kStOk kFrOk kChild
end
section
noncomputable def LcxInI : CL := [(100,kStOk),(101,kCopyStk),(102,kFrOk),(103,kChild)]
noncomputable def cxInI := mkX LcxInI (COk.cons cStOkI (COk.cons cCopyStkI (COk.cons cFrOkI (COk.cons cChildI (COk.nil _)))))
theorem cxInI_t : cxInI.tys = tys := rfl
theorem cxInI_c : cxInI.C = LcxInI := rfl
attribute [local go_sem] cxInI_t cxInI_c LcxInI kStOk kCopyStk kFrOk kChild
theorem cInternI : Cn Try.prog 73 kIntern := by
 refine Cn.pur Try.func73 (by kernel_rfl) rfl fun d x hx=>?_
 obtain ⟨N,L⟩ := x
 obtain ⟨⟨hN,hs⟩,hL⟩ := hx
 simp only at hN hs hL ⊢
 refine Holds.go (c := cxInI) Try.func73 rfl Try.results73 Try.ntmps73 (by omega) (by simp) rfl ?_
 intro X0 w0
 (repeat' (first|apply zS|apply zB|((first|apply zR|apply zC|apply zT|apply zE|apply zK);simp only [go_sem])|apply And.intro|intro _))
 all_goals first|omega|exact hs _ ‹_›|exact ⟨_,_,_,rfl⟩|exact ⟨_,_,rfl,_,_,rfl,rfl⟩|skip
 ·rename_i h; rw [intern_no (h.imp_right fun e=>by omega)]
 ·rename_i h; rw [intern_no (h.imp_right fun e=>by omega)]
 rename_i h
 have hi : intern N L = if L.all frOk = true then intGo L (N,-1) else (N,-1) := by
  unfold intern
  by_cases ha : L.all frOk = true
  ·rw [if_pos ha,if_pos ⟨h.1,fun e=>by subst e; simp at h,ha⟩]
  ·rw [if_neg ha,if_neg fun hc=>ha hc.2.2]
 refine zL (fun k : Nat=>⟨[(1,.sl 2 (L.map encFrame)),(4,.ptr 4 0 0 0),(6,.ptr 6 0 0 0),(24,.sl 2 (L.map encFrame)),(25,.v (.int .i64 L.length)),(26,.v (.int .i64 k))],
  [(4,.box 43 [.v (.slice none 0 0)]),(6,.box 43 [.own 14]),(14,.sl 139 3 (N.map encNode))]⟩)
  (fun k=>k ≤ L.length ∧ (∀ j (hj : j < L.length),j < k → frOk L[j] = true)) (fun k=>L.length - k) 0 ⟨by simp,by simp⟩ ?_ ?_
 ·(simp only [go_sem] <;> (first|(and_intros <;> rfl)|simp))
 intro k ⟨hk,hf⟩
 by_cases hlt : k < L.length
 ·have h1 := rowAt_map encFrame L k hlt
  have hnm := hL _ (List.getElem_mem hlt)
  (repeat' (first|apply zS|apply zB|((first|apply zR|apply zC|apply zT|apply zE|apply zK);simp only [go_sem,h1,encFrame])|apply And.intro|intro _))
  all_goals first|omega|exact rlNode ‹_›|exact ⟨_,_,_,rfl⟩|exact ⟨_,_,rfl,_,_,rfl,rfl⟩|skip
  ·rename_i hb; rw [intern_bad hlt hb]
  ·rename_i hb; rw [intern_bad hlt hb]
  ·rename_i hfr
   refine ⟨k + 1,⟨by omega,fun j hj hjk=>?_⟩,by omega,by (first|(and_intros <;> rfl)|simp)⟩
   rcases Nat.lt_or_ge j k with hh|hh
   ·exact hf j hj hh
   ·have : j = k:=by omega
    subst this; exact hfr
 have hall : L.all frOk = true := by
  rw [List.all_eq_true]
  intro f hfm
  obtain ⟨j,hj,rfl⟩ := List.mem_iff_getElem.1 hfm
  exact hf j hj (by omega)
 rw [if_pos hall] at hi
 (repeat' (first|apply zS|apply zB|((first|apply zR|apply zC|apply zT|apply zE|apply zK);simp only [go_sem])|apply And.intro|intro _))
 all_goals first|omega|skip
 refine zL (fun s : Nat × List Node × Int=>⟨[(4,.ptr 4 0 0 0),(6,.ptr 6 0 0 0),(9,.v (.int .i64 s.2.2)),(35,.sl 2 (L.map encFrame)),(36,.v (.int .i64 L.length)),(37,.v (.int .i64 s.1))],
  [(4,.box 43 [.v (.slice none 0 0)]),(6,.box 43 [.own 14]),(14,.sl 139 3 (s.2.1.map encNode))]⟩)
  (fun s=>s.1 ≤ L.length ∧ intGo L (N,-1) = intGo (L.drop s.1) s.2 ∧ s.2.1.length ≤ N.length + s.1 ∧ -1 ≤ s.2.2 ∧ s.2.2 < s.2.1.length) (fun s=>L.length - s.1) (0,N,-1) ⟨by simp,by simp,by simp,by simp only; omega,by simp only; omega⟩ ?_ ?_
 ·(simp only [go_sem] <;> (first|(and_intros <;> rfl)|simp))
 rintro ⟨k,M,at'⟩ ⟨hk,hg,hm,ha0,ha1⟩
 simp only at hk hg hm ha0 ha1 ⊢
 by_cases hlt : k < L.length
 ·have h1 := rowAt_map encFrame L k hlt
  have hnm := hL _ (List.getElem_mem hlt)
  have hst := intGo_step hlt (M,at')
  have hcb := child_bound M at' L[k]
  rw [← hg] at hst
  simp only at hst hcb
  (repeat' (first|apply zS|apply zB|((first|apply zR|apply zC|apply zT|apply zE|apply zK);simp only [go_sem,h1,encFrame])|apply And.intro|intro _))
  all_goals first|omega|exact rlNode ‹_›|exact ⟨_,_,_,rfl⟩|exact ⟨_,_,rfl,_,_,rfl,rfl⟩|skip
  ·rename_i hc
   have hc' : child M at' L[k] < 0 := hc
   rw [if_pos hc'] at hst
   refine ⟨(k + 1,M ++ [mkNode at' L[k]],(M.length : Int)),⟨by simp only; omega,hst,by simp only [List.length_append,List.length_cons,List.length_nil]; omega,by simp only; omega,by simp only [List.length_append,List.length_cons,List.length_nil]; omega⟩,by simp only; omega,by (first|(and_intros <;> rfl)|simp),by simp only [List.map_append,List.map_cons,List.map_nil]; rfl⟩
  ·rename_i hc
   have hc' : ¬ child M at' L[k] < 0:=by show ¬ child M at' ⟨L[k].name,L[k].line⟩ < 0; omega
   rw [if_neg hc'] at hst
   refine ⟨(k + 1,M,child M at' L[k]),⟨by simp only; omega,hst,by simp only; omega,by simp only; omega,by simp only; omega⟩,by simp only; omega,by (first|(and_intros <;> rfl)|simp)⟩
 ·rw [hg,show k = L.length by omega,List.drop_length,intGo] at hi
  (repeat' (first|apply zS|apply zB|((first|apply zR|apply zC|apply zT|apply zE|apply zK);simp only [go_sem])|apply And.intro|intro _))
  all_goals first|omega|exact rlNode ‹_›|exact ⟨_,_,_,rfl⟩|exact ⟨_,_,rfl,_,_,rfl,rfl⟩|skip
  ·rw [hi]
  ·rw [hi]
end
end Go.Proofs.Ytjjbcoigaejoaaa

namespace Go.Proofs.Ytjjbcoigaejoaaa
open Go.Vc
attribute [local irreducible] Go.Vc.WP
attribute [local go_sem] cx0_t cx0_c
attribute [local go_sem] decNode_enc decFrame_enc oneFrame_enc stkA oneFrame_ab oneNode_abc decI_enc prA
theorem padC (C : List Int) (j : Nat) : (C ++ List.replicate j 0).map encI ++ [[SV.v (.int .i64 0)]] = (C ++ List.replicate (j + 1) 0).map encI := by
 rw [List.replicate_succ',← List.append_assoc,List.map_append (l₂ := [0])]; rfl
theorem padC_get {C : List Int} {m k : Nat} (hk : k < C.length + m) (h0 : ∀ x ∈ C,0 ≤ x ∧ x ≤ 1000000000000) : 0 ≤ (C ++ List.replicate m 0).getD k 0 ∧ (C ++ List.replicate m 0).getD k 0 ≤ 1000000000000 := by
 rw [List.getD_eq_getElem?_getD,List.getElem?_append]
 split
 ·rename_i h
  rw [List.getElem?_eq_getElem h]
  exact h0 _ (List.getElem_mem h)
 ·rename_i h
  rw [List.getElem?_replicate,if_pos (by omega)]; simp
def kAddStack : Ctr := pur (fun args=>(prA args 0,decFrame (aR args 1),aI args 2)) (fun x=>[.agg [.sl 3 (x.1.1.map encNode),.sl 1 (x.1.2.map encI)],.sl 2 (x.2.1.map encFrame),.v (.int .i64 x.2.2)])
 (fun x=>(x.1.1.length + x.2.1.length ≤ 4398046511104 ∧ (∀ n ∈ x.1.1,n.name.size ≤ 1099511627776) ∧ x.1.2.length ≤ 4398046511104) ∧ ∀ f ∈ x.2.1,f.name.size ≤ 1099511627776)
 (fun d x=>.tup [.agg [.own d,.own (d + 1000)],.v (.bool (addStack x.1.1 x.1.2 x.2.1 x.2.2).2)]) (fun d x=>[(d,.sl 139 3 ((addStack x.1.1 x.1.2 x.2.1 x.2.2).1.1.map encNode)),(d + 1000,.sl 3 1 ((addStack x.1.1 x.1.2 x.2.1 x.2.2).1.2.map encI))])
theorem addNo {N : List Node} {C : List Int} {L : List Frame} {n : Int} (h : profileOk N C = false ∨ n < 0 ∨ 1000000000000 < n ∨ (intern N L).2 < 0) : addStack N C L n = ((N,C),false) := by
 unfold addStack
 rw [if_neg]
 rintro ⟨h1,h2,h3,h4,_⟩
 rcases h with h|h|h|h
 ·rw [h1] at h; cases h
 ·omega
 ·omega
 ·omega
section
attribute [local go_sem] kPrOk k60
end
section
noncomputable def cxAsI := mkX [(71,kPrOk),(35,k60),(72,kCopyPr),(73,kIntern)] (COk.cons cPrOkI (COk.cons c60 (COk.cons cCopyPrI (COk.cons cInternI (COk.nil _)))))
theorem cxAsI_t : cxAsI.tys = tys := rfl
theorem cxAsI_c : cxAsI.C = [(71,kPrOk),(35,k60),(72,kCopyPr),(73,kIntern)] := rfl
attribute [local go_sem] cxAsI_t cxAsI_c kPrOk k60 kCopyPr kIntern
theorem cAddStackI : Cn Try.prog 36 kAddStack := by
 refine Cn.pur Try.func36 (by kernel_rfl) rfl fun d x hx=>?_
 obtain ⟨⟨N,C⟩,L,n⟩ := x
 obtain ⟨⟨hN,hs,hC⟩,hL⟩ := hx
 simp only at hN hs hC hL ⊢
 have hil := intern_len N L
 have hia := intern_at N L
 have hin := intern_names (B := 1099511627776) hs hL
 have hadd : profileOk N C = false ∨ n < 0 ∨ 1000000000000 < n ∨ (intern N L).2 < 0 → addStack N C L n = ((N,C),false) := addNo
 have hyes : profileOk N C = true → 0 ≤ n → n ≤ 1000000000000 → 0 ≤ (intern N L).2 → addStack N C L n = if profileOk (intern N L).1 (addC C (intern N L).1.length (intern N L).2.toNat n) = true then (((intern N L).1,addC C (intern N L).1.length (intern N L).2.toNat n),true) else ((N,C),false) := fun h1 h2 h3 h4=>by
  unfold addStack
  by_cases hp : profileOk (intern N L).1 (addC C (intern N L).1.length (intern N L).2.toNat n) = true
  ·rw [if_pos hp,if_pos ⟨h1,h2,h3,h4,hp⟩]
  ·rw [if_neg hp,if_neg fun hc=>hp hc.2.2.2.2]
 generalize hI : intern N L = I at *
 obtain ⟨M,at'⟩ := I
 simp only at hil hia hin hadd hyes
 generalize hA : addStack N C L n = A at *
 refine Holds.go (c := cxAsI) Try.func36 rfl Try.results36 Try.ntmps36 (by omega) (by simp) rfl ?_
 intro X0 w0
 (repeat' (first|apply zS|apply zB|((first|apply zR|apply zC|apply zT|apply zE|apply zK);simp only [go_sem,hI])|apply And.intro|intro _))
 all_goals first|omega|(simp only; omega)|exact hs _ ‹_›|exact hL _ ‹_›|exact ⟨_,_,_,rfl⟩|exact ⟨_,_,rfl,_,_,rfl,rfl⟩|skip
 iterate 3
  ·rename_i h
   have e := hadd (h.elim .inl fun h=>.inr (h.elim .inl fun h=>.inr (.inl h)))
   subst e
   first|rfl|exact if_neg (by omega)
 iterate 3
  ·rename_i h1 h
   have e := hadd (.inr (.inr (.inr h)))
   subst e
   first|rfl|exact if_neg (by omega)
 rename_i h h0
 obtain ⟨hpo,hn0,hn1⟩ := h
 have hy := hyes hpo hn0 hn1 (by omega)
 obtain ⟨_,hlen,hcnt⟩ := profileOk_iff.1 hpo
 have hpos : ∀ x ∈ C,0 ≤ x ∧ x ≤ 1000000000000 := fun x hx=>by
  obtain ⟨j,hj,rfl⟩ := List.mem_iff_getElem.1 hx
  have h1 := cntOk_at hcnt j hj
  have h2 := profileOk_sum hpo j (by omega)
  omega
 refine zL (fun j : Nat=>⟨[(2,.v (.int .i64 n)),(3,.ptr 3 0 0 0),(6,.ptr 6 0 0 0),(8,.ptr 8 0 0 0),(9,.ptr 9 0 0 0),(10,.v (.int .i64 at'))],
  [(3,.box 45 [.sl 3 (N.map encNode),.sl 1 (C.map encI)]),(6,.box 45 [.v (.slice none 0 0),.v (.slice none 0 0)]),(8,.box 45 [.own 27,.own 1022]),(9,.box 43 [.own 27]),(27,.sl 139 3 (M.map encNode)),(1022,.sl 3 1 ((C ++ List.replicate j 0).map encI))]⟩)
  (fun j=>C.length + j ≤ M.length) (fun j=>M.length - j) 0 (by omega) ?_ ?_
 ·have e0 : C ++ List.replicate 0 0 = C:=by simp
  (simp only [go_sem,e0] <;> (first|(and_intros <;> rfl)|simp))
 intro j hj
 have hcl : (C ++ List.replicate j (0 : Int)).length = C.length + j:=by simp
 by_cases hlt : C.length + j < M.length
 ·have hpad := padC C j
  (repeat' (first|apply zS|apply zB|((first|apply zR|apply zC|apply zT|apply zE|apply zK);simp only [go_sem,hcl,hpad])|apply And.intro|intro _))
  all_goals first|omega|exact rlI ‹_›|exact ⟨_,_,_,rfl⟩|exact ⟨_,_,rfl,_,_,rfl,rfl⟩|skip
  all_goals exact ⟨j + 1,by omega,by omega,by (first|(and_intros <;> rfl)|simp)⟩
 ·have hj2 : j = M.length - C.length:=by omega
  have hk : at'.toNat < (C ++ List.replicate j (0 : Int)).length:=by omega
  have h1 := rowAt_map encI (C ++ List.replicate j 0) at'.toNat hk
  have hb := padC_get (C := C) (m := j) (k := at'.toNat) (by omega) hpos
  have hg : (C ++ List.replicate j (0 : Int))[at'.toNat] = (C ++ List.replicate j 0).getD at'.toNat 0:=by rw [List.getD_eq_getElem?_getD,List.getElem?_eq_getElem hk]; rfl
  rw [hg] at h1
  have hset : addC C M.length at'.toNat n = (C ++ List.replicate j 0).set at'.toNat ((C ++ List.replicate j 0).getD at'.toNat 0 + n):=by rw [hj2]; rfl
  have hal := addC_len C M.length at'.toNat n
  rw [hset] at hy hal
  generalize (C ++ List.replicate j (0 : Int)).getD at'.toNat 0 = v at *
  have hse : ((C ++ List.replicate j 0).map encI).set at'.toNat [SV.v (.int .i64 (v + n))] = ((C ++ List.replicate j 0).set at'.toNat (v + n)).map encI:=by rw [List.map_set]; rfl
  generalize (C ++ List.replicate j (0 : Int)).set at'.toNat (v + n) = D at *
  (repeat' (first|apply zS|apply zB|((first|apply zR|apply zC|apply zT|apply zE|apply zK);simp only [go_sem,hcl,h1,hse,encI])|apply And.intro|intro _))
  all_goals first|omega|(simp only; omega)|exact hin _ ‹_›|exact ⟨_,_,_,rfl⟩|exact ⟨_,_,rfl,_,_,rfl,rfl⟩|skip
  iterate 3
   ·rename_i h8 hf
    have e : A = ((N,C),false):=by rw [hy,if_neg (by rw [hf]; simp)]
    subst e
    first|rfl|exact if_neg (by omega)
  iterate 3
   ·rename_i h8 hf
    have e : A = ((M,D),true):=by rw [hy,if_pos hf]
    subst e
    first|rfl|exact if_neg (by omega)
end
end Go.Proofs.Ytjjbcoigaejoaaa

