/-
  DERIVED. Several texts of ours in one: VcZ, VcTh, VtCur, VpSz, VtMark, VtStrS, VgTok, VcNs, VcFz, VcFr, VtLine, VpTok, VpGen, VtStk, VsLay, VpCut, VcU, VsLib, VtFmt.
-/
import Derived.Test.YtjjbcoigaejoaaaVd0
import Derived.Test.YtjjbcoigaejoaaaVd1
import Derived.Test.YtjjbcoigaejoaaaVd2
import Derived.Test.YtjjbcoigaejoaaaVd3
import Derived.Test.YtjjbcoigaejoaaaVd4
import Derived.Orders
import Derived.Lib.Split
import Derived.Test.YtjjbcoigaejoaaaProg
import Derived.Lib.SplitLaws
import Derived.Lib.CountLaws
import Derived.Lib.ItoaNum
import Derived.Lib.IndexMore
import Derived.Sort.Grow
import Derived.Shelf.Strconv.Itoa3
import Derived.Shelf.Strings.Cut
import Derived.Shelf.Strings.Split
import Derived.Shelf.Strings.OnBuilder
set_option linter.unusedSimpArgs false
set_option linter.unusedVariables false
set_option maxHeartbeats 1000000
set_option maxRecDepth 10000
namespace Go.Vc
section
variable {P : Program} {Q : Exit → Act → World → Prop} {s q : Nat} {ops : Array Oper}
def behind (o : Oper) (q : Nat) : Oper := { o with after := o.after.push ⟨q,.data⟩ }
end
def addL : Nat → Nat → List Oper → List Oper
 | _,_,[]=>[]
 | 0,q,o :: l=>behind o q :: l
 |s + 1,q,o :: l=>o :: addL s q l
section
variable {c : Cx} {N : Nat} {X0 : Nat → Prop} {M : Nat → BV → Prop} {w0 : World} {K : Exit → St → Prop}
end
end Go.Vc

namespace Go.Vc
def St.thr (st : St) (c : Nat) (ob : Ob) : St := { st with hp := (c,ob) :: st.hp }
def St.offO (st : St) (c : Nat) : St := { st with hp := er c st.hp }
def pureBox : Ob → Bool
 | .box _ cs=>cs.all SV.pur
 | _=>false
theorem pur_kill {x : SV} (h : x.pur = true) (d : Nat) : x.kill d = x := by
 cases x with
 |v y=>rfl
 |sl s r=>rfl
 | _=>cases h
theorem pureBox_kill {ob : Ob} (h : pureBox ob = true) (d : Nat) : ob.kill d = ob := by
 cases ob with
 |box e cs =>
  simp only [pureBox] at h
  simp only [Ob.kill]
  rw [map_same fun c hc=>pur_kill (List.all_eq_true.1 h c hc) d]
 | _=>cases h
theorem lk_erL_ne {α : Type} {t : Nat} : ∀ {ids : List Nat} {l : List (Nat × α)},t ∉ ids → lk t (erL ids l) = lk t l
 | [],l,_=>rfl
 |i :: is,l,h=>by
  simp only [List.mem_cons,not_or] at h
  show lk t (er i (erL is l)) = lk t l
  rw [lk_er_ne h.1,lk_erL_ne h.2]
def St.thrC (st : St) (cl : Call) (ctr : Ctr) (c : Nat) (δ : Dl) (ob' : Ob) (A : List SV) (Ll Lm : List Nat) (q : Prop × SV × List (Nat × Ob) × List (Nat × Ob)) : Prop :=
 match q with
 | (ob,res,robs,kept)=>ob ∧ (∀ y ∈ cl.args.toList,(st.ev y).need) ∧ ((restOf (ctr.lend ++ ctr.move) 0 A).all fun y=>(y.share st.hp).good) = true ∧
  nodupN (Ll ++ Lm) = true ∧ ((Ll ++ Lm).all fun i=>(lk i st.hp).isSome) = true ∧ (((restOf (ctr.lend ++ ctr.move) 0 A).flatMap SV.owns).all fun i=>!(Ll ++ Lm).contains i && (lk i st.hp).isSome) = true ∧ Lm.length ≤ 100000 ∧
  (Lm.all fun i=>decide (i < 1000000)) = true ∧ ((robs.map (·.1)).all fun i=>decide (i < 900000) && !Ll.contains i) = true ∧ nodupN (robs.map (·.1)) = true ∧ (kept.map (·.1) = (pairs 1000000 Ll).map (·.2)) ∧
  (((restOf (ctr.lend ++ ctr.move) 0 A).flatMap SV.owns) = [] ∨ (res.isV2 = true ∧ ∀ p ∈ robs ++ kept,p.2.isV)) ∧
  ctr.isL = true ∧ Ll = [c] ∧ Lm = δ.gone ∧ δ.x = res.up (SV.ren1 (backL (pairs 1000000 Ll) robs)) ∧ unObs (backL (pairs 1000000 Ll) robs) (robs ++ kept) = δ.made ++ [(c,ob')] ∧ δ.made.map (·.1) = robs.map (·.1) ∧ pureBox ob' = true
def St.dltT (C : List (FuncId × Ctr)) (N : Nat) (o : Oper) (st : St) (c d : Nat) (δ : Dl) (ob' : Ob) : Prop :=
 o.dst = some d ∧ o.guard.isNone = true ∧ dstOk N o.dst = true ∧
 match o.op with
 | .call cl=>match cl.callee with
  | .value x=>match st.ev x with
   | .fn f caps=>match lk f C with
    |some ctr=>st.thrC cl ctr c δ ob' (st.argL cl caps) (lentBy st (st.argL cl caps) ctr.lend) (lentBy st (st.argL cl caps) ctr.move)
      (ctr.wri d (argsR st.hp (pairs 1000000 (lentBy st (st.argL cl caps) ctr.lend) ++ pairs 900000 (lentBy st (st.argL cl caps) ctr.move)) (ctr.lend ++ ctr.move) 0 (st.argL cl caps)) (obsR st.hp (pairs 1000000 (lentBy st (st.argL cl caps) ctr.lend) ++ pairs 900000 (lentBy st (st.argL cl caps) ctr.move))))
    |none=>False
   | _=>False
  | _=>False
 | _=>False
def St.dappT (st : St) (d : Nat) (δ : Dl) (c : Nat) (ob' : Ob) : St :=
 {fr := (d,δ.x) :: er d (st.killL (δ.gone ++ δ.made.map (·.1))).fr,hp := (c,ob') :: (δ.made ++ er c (st.killL (δ.gone ++ δ.made.map (·.1))).hp) }
section
variable {P : Program} {C : List (FuncId × Ctr)} {N : Nat} {X0 : Nat → Prop} {M : Nat → BV → Prop} {w0 : World} {st : St} {β : Nat → BV} {a : Act} {w : World}
theorem dltT_sound (hA : Ap P X0 M w0) (hC : COk P C) (h : Sim N X0 M w0 st β a w) {ops : Array Oper} {o : Oper} {c d : Nat} {δ : Dl} {ob' : Ob} (hw : st.dltT C N o c d δ ob') {Q : Exit → Act → World → Prop} :
  Region.wanted o (yielded ops a.tmps) = true ∧ o.wp P a w (Ok N X0 M w0 fun st'=>st' = st.dappT d δ c ob') Q := by
 obtain ⟨hod,hgd,hd,hw⟩ := hw
 have hN : ∀ e,o.dst = some e → e < N := dst_lt hd
 refine ⟨by simp only [Option.isNone_iff_eq_none] at hgd; simp [Region.wanted,hgd],?_⟩
 split at hw
 case h_2=>exact hw.elim
 case h_1 _ cl ho =>
 split at hw
 case h_2=>exact hw.elim
 case h_1 _ x hcal =>
 split at hw
 case h_2=>exact hw.elim
 case h_1 _ f caps hf =>
 split at hw
 case h_2=>exact hw.elim
 case h_1 _ ctr hctr =>
 obtain ⟨lend,move,pure,wri⟩ := ctr
 dsimp only at hw
 refine Oper.wp_mono (K := Ok N X0 M w0 fun st'=>∃ res robs kept,st' = st.resL (pairs 1000000 [c]) δ.gone o.dst res robs kept ∧ δ.x = res.up (SV.ren1 (backL (pairs 1000000 [c]) robs)) ∧
   unObs (backL (pairs 1000000 [c]) robs) (robs ++ kept) = δ.made ++ [(c,ob')] ∧ δ.made.map (·.1) = robs.map (·.1) ∧ c ∉ robs.map (·.1)) (fun a' w' hk=>?_) (eff_callL (dd := d) hC hA h hN ?_)
 ·obtain ⟨st',β',⟨res,robs,kept,rfl,e1,e2,e3,e4⟩,h'⟩ := hk
  refine ⟨_,β',rfl,h'.less (fun t y hy=>?_) (fun t y hy=>?_)⟩
  ·rw [hod]
   simp only [St.resL,St.put,St.dappT] at hy ⊢
   rw [← e1,← e3]; exact hy
  ·rw [hod]
   simp only [St.resL,St.put,St.dappT] at hy ⊢
   rw [e2,lk_append,lk_append]
   simp only [lk] at hy
   by_cases ht : t = c
   ·subst ht
    rw [if_pos rfl] at hy
    rw [lk_none (by rw [e3]; exact e4)]
    simp only [lk,if_true]
    exact hy
   ·rw [if_neg ht,lk_append] at hy
    cases hq : lk t δ.made with
    |some z=>rw [hq] at hy; exact hy
    |none =>
     rw [hq] at hy
     have hy1 : lk t (er c (st.killL (δ.gone ++ δ.made.map (·.1))).hp) = some y := hy
     rw [lk_er_ne ht] at hy1
     simp only [lk,if_neg ht]
     have hnm : t ∉ δ.made.map (·.1) := fun hm=>by
      obtain ⟨z,hz⟩ := lk_some_of_mem hm
      rw [hq] at hz; cases hz
     show lk t (erL _ _) = some y
     rw [lk_erL_ne (by simp only [List.map_append,List.mem_append,not_or]; exact ⟨hnm,by simpa using ht⟩),← e3]
     exact hy1
 ·unfold St.callL
  rw [ho]
  simp only [hcal,hf,hctr]
  generalize hLl : lentBy st (st.argL cl caps) lend = Ll at hw ⊢
  generalize hLm : lentBy st (st.argL cl caps) move = Lm at hw ⊢
  generalize wri d (argsR st.hp (pairs 1000000 Ll ++ pairs 900000 Lm) (lend ++ move) 0 (st.argL cl caps)) (obsR st.hp (pairs 1000000 Ll ++ pairs 900000 Lm)) = q at hw ⊢
  obtain ⟨q1,q2,q3,q4⟩ := q
  unfold St.thrC at hw
  simp only at hw ⊢
  obtain ⟨g1,g2,g3,g4,g5,g6,g7,g8,g9,g10,g11,g12,g13,rfl,rfl,g16,g17,g18,g19⟩ := hw
  refine ⟨g1,g2,g3,g4,g5,g6,g7,g8,g9,g10,g11,g12,q2,q3,q4,rfl,g16,g17,g18,fun hm=>?_⟩
  have := List.all_eq_true.1 g9 c hm
  simp at this
theorem lentBy_mono {st st2 : St} (hh : ∀ id ob,lk id st.hp = some ob → lk id st2.hp = some ob) {A : List SV} {is : List Nat} {L : List Nat} (hL : lentBy st A is = L) (hs : ∀ i ∈ L,(lk i st.hp).isSome = true) : lentBy st2 A is = L := by
 rw [← hL] at hs ⊢
 unfold lentBy at hs ⊢
 have key : ∀ y : SV,(∀ i ∈ st.lent1 y,(lk i st.hp).isSome = true) → st2.lent1 y = st.lent1 y := fun y hy=>by
  cases y with
  |ptr id s i k =>
   have h1 := hy id (by simp [St.lent1])
   obtain ⟨ob,hob⟩ := Option.isSome_iff_exists.1 h1
   simp only [St.lent1,hob,hh id ob hob]
  | _=>rfl
 have fc : ∀ {γ : Type} {f g : γ → List Nat} (l : List γ),(∀ x ∈ l,f x = g x) → l.flatMap f = l.flatMap g := by
  intro γ f g l
  induction l with
  |nil=>intro _; rfl
  |cons x l ih=>intro h; rw [List.flatMap_cons,List.flatMap_cons,h x List.mem_cons_self,ih fun y hy=>h y (List.mem_cons_of_mem _ hy)]
 refine fc _ fun i hi=>?_
 have hi' : ∀ q ∈ st.lentV (nthS A i),(lk q st.hp).isSome = true := fun q hq=>hs q (List.mem_flatMap.2 ⟨i,hi,hq⟩)
 generalize nthS A i = y at hi'
 cases y with
 |agg cs =>
  simp only [St.lentV] at hi' ⊢
  exact fc _ fun z hz=>key z fun q hq=>hi' q (List.mem_flatMap.2 ⟨z,hz,hq⟩)
 |v x=>rfl
 |sl s r=>rfl
 |own j=>rfl
 |ptr j s a b=>exact key (.ptr j s a b) hi'
 |rptr s r a b=>rfl
 |tup cs=>rfl
 |fn f cs=>rfl
 |cond g z=>rfl
 |junk=>rfl
theorem argsR_mono {hp hp2 : List (Nat × Ob)} (hh : ∀ id ob,lk id hp = some ob → lk id hp2 = some ob) {ρ : List (Nat × Nat)} {is : List Nat} : ∀ {A : List SV} {k : Nat},((restOf is k A).all fun y=>(y.share hp).good) = true → argsR hp2 ρ is k A = argsR hp ρ is k A
 | [],_,_=>rfl
 |y :: A,k,h=>by
  simp only [restOf,argsR] at h ⊢
  split at h
  ·rename_i hk
   rw [if_pos hk,if_pos hk,argsR_mono hh h]
  ·rename_i hk
   simp only [List.all_cons,Bool.and_eq_true] at h
   rw [if_neg hk,if_neg hk,argsR_mono hh h.2,share_mono hh h.1]
theorem obsR_mono {hp hp2 : List (Nat × Ob)} (hh : ∀ id ob,lk id hp = some ob → lk id hp2 = some ob) {ρ : List (Nat × Nat)} (hs : ∀ p ∈ ρ,(lk p.1 hp).isSome = true) : obsR hp2 ρ = obsR hp ρ := by
 unfold obsR
 refine List.map_congr_left fun p hp'=>?_
 obtain ⟨ob,hob⟩ := Option.isSome_iff_exists.1 (hs p hp')
 rw [hob,hh _ _ hob]
theorem pairs_fst : ∀ (b : Nat) (L : List Nat),∀ p ∈ pairs b L,p.1 ∈ L
 | _,[],p,h=>by cases h
 |b,i :: L,p,h=>by
  rcases List.mem_cons.1 h with rfl|h
  ·exact List.mem_cons_self
  ·exact List.mem_cons_of_mem _ (pairs_fst (b + 1) L p h)
theorem dltT_mono {st2 : St} {ops : Array Oper} {o : Oper} {c d : Nat} {δ : Dl} {ob' : Ob} (h : ∀ t ∈ o.looksAt ops,st2.get t = st.get t) (hh : ∀ id ob,lk id st.hp = some ob → lk id st2.hp = some ob) (hw : st.dltT C N o c d δ ob') : st2.dltT C N o c d δ ob' := by
 obtain ⟨hod,hgd,hd,hw⟩ := hw
 refine ⟨hod,hgd,hd,?_⟩
 have hop : ∀ y ∈ o.op.operands,st2.ev y = st.ev y := fun y hy=>by
  cases y with
  |tmp t=>exact h t (List.mem_append_left _ (List.mem_filterMap.2 ⟨.tmp t,by simpa using hy,rfl⟩))
  | _=>rfl
 cases ho : o.op with
 |call cl =>
  rw [ho] at hw hop
  have ha : ∀ y ∈ cl.args.toList,st2.ev y = st.ev y := fun y hy=>hop y (by simp only [Op.operands,Call.operands,Array.mem_append]; right; simpa using hy)
  simp only at hw ⊢
  cases hc : cl.callee with
  |value x =>
   rw [hc] at hw
   have hx : st2.ev x = st.ev x := hop x (by simp [Op.operands,Call.operands,hc])
   simp only [hx] at hw ⊢
   split at hw
   case h_2=>exact hw.elim
   case h_1 _ f caps hf =>
    split at hw
    case h_2=>exact hw.elim
    case h_1 _ ctr hctr =>
     rw [argL_mono ha]
     generalize hLl : lentBy st (st.argL cl caps) ctr.lend = Ll at hw
     generalize hLm : lentBy st (st.argL cl caps) ctr.move = Lm at hw
     have hw2 := hw
     have hgood : ((restOf (ctr.lend ++ ctr.move) 0 (st.argL cl caps)).all fun y=>(y.share st.hp).good) = true ∧ ((Ll ++ Lm).all fun i=>(lk i st.hp).isSome) = true := by
      generalize ctr.wri d (argsR st.hp (pairs 1000000 Ll ++ pairs 900000 Lm) (ctr.lend ++ ctr.move) 0 (st.argL cl caps)) (obsR st.hp (pairs 1000000 Ll ++ pairs 900000 Lm)) = q at hw2
      obtain ⟨q1,q2,q3,q4⟩ := q
      unfold St.thrC at hw2
      exact ⟨hw2.2.2.1,hw2.2.2.2.2.1⟩
     have hsL : ∀ i ∈ Ll ++ Lm,(lk i st.hp).isSome = true := fun i hi=>List.all_eq_true.1 hgood.2 i hi
     rw [lentBy_mono hh hLl (fun i hi=>hsL i (List.mem_append_left _ hi)),lentBy_mono hh hLm (fun i hi=>hsL i (List.mem_append_right _ hi)),argsR_mono hh hgood.1,obsR_mono hh (fun p hp=>by
      rcases List.mem_append.1 hp with hp|hp
      ·exact hsL _ (List.mem_append_left _ (pairs_fst _ _ p hp))
      ·exact hsL _ (List.mem_append_right _ (pairs_fst _ _ p hp)))]
     generalize ctr.wri d (argsR st.hp (pairs 1000000 Ll ++ pairs 900000 Lm) (ctr.lend ++ ctr.move) 0 (st.argL cl caps)) (obsR st.hp (pairs 1000000 Ll ++ pairs 900000 Lm)) = q at hw ⊢
     obtain ⟨q1,q2,q3,q4⟩ := q
     unfold St.thrC at hw ⊢
     simp only at hw ⊢
     obtain ⟨g1,g2,g3,g4,g5,g6,g7⟩ := hw
     refine ⟨g1,fun y hy=>by rw [ha y hy]; exact g2 y hy,?_,g4,?_,?_,g7⟩
     ·rw [List.all_eq_true] at g3 ⊢
      intro y hy
      rw [share_mono hh (g3 y hy)]; exact g3 y hy
     ·rw [List.all_eq_true] at g5 ⊢
      intro i hi
      obtain ⟨ob,hob⟩ := Option.isSome_iff_exists.1 (g5 i hi)
      rw [hh _ _ hob]; rfl
     ·rw [List.all_eq_true] at g6 ⊢
      intro i hi
      have := g6 i hi
      rw [Bool.and_eq_true] at this ⊢
      obtain ⟨ob,hob⟩ := Option.isSome_iff_exists.1 this.2
      exact ⟨this.1,by rw [hh _ _ hob]; rfl⟩
  |invoke r q=>rw [hc] at hw; exact hw.elim
  |builtin b=>rw [hc] at hw; exact hw.elim
 | _=>rw [ho] at hw; exact hw.elim
end
def St.runT (tys : List (Nat × TyD)) (C : List (FuncId × Ctr)) (N : Nat) (ops : Array Oper) (fl : List Fp) (c : Nat) (ch : List Nat) (base : St) : List Oper → Nat → Acc → Ob → (Acc → Ob → Prop) → Prop
 | [],_,acc,cur,K=>K acc cur
 |o :: l,i,acc,cur,K=>if ch.contains i = true then
   ∃ d δ ob',((base.least acc (fpAt fl i)).thr c cur).dltT C N o c d δ ob' ∧ ((fpAt fl i).lks.all fun t=>(lk t (base.least acc (fpAt fl i)).fr).isSome) = true ∧ dlOk (fpAt fl i) δ ∧ St.runT tys C N ops fl c ch base l (i + 1) (acc ++ [(i,d,δ)]) ob' K
  else ∃ d δ,(base.least acc (fpAt fl i)).dlt tys C N ops o d δ ∧ ((fpAt fl i).lks.all fun t=>(lk t (base.least acc (fpAt fl i)).fr).isSome) = true ∧ dlOk (fpAt fl i) δ ∧ St.runT tys C N ops fl c ch base l (i + 1) (acc ++ [(i,d,δ)]) cur K
def doesT (tys : List (Nat × TyD)) (C : List (FuncId × Ctr)) (N : Nat) (ops : Array Oper) (fl : List Fp) (c : Nat) (ch : List Nat) (base : St) (o : Oper) (i : Nat) (acc : Acc) (d : Nat) (δ : Dl) (cur nxt : Ob) : Prop :=
 ((fpAt fl i).lks.all fun t=>(lk t (base.least acc (fpAt fl i)).fr).isSome) = true ∧ dlOk (fpAt fl i) δ ∧
 (if ch.contains i = true then ((base.least acc (fpAt fl i)).thr c cur).dltT C N o c d δ nxt else (base.least acc (fpAt fl i)).dlt tys C N ops o d δ ∧ nxt = cur)
theorem runT_acc {tys : List (Nat × TyD)} {C : List (FuncId × Ctr)} {N : Nat} {ops : Array Oper} {fl : List Fp} {c : Nat} {ch : List Nat} {base : St} {K : Acc → Ob → Prop} : ∀ (l : List Oper) (i : Nat) (acc : Acc) (cur : Ob),St.runT tys C N ops fl c ch base l i acc cur K →
  ∃ (F : Nat → Nat × Dl) (T : Nat → Ob),T 0 = cur ∧ K (acc ++ (List.range l.length).map fun k=>(i + k,F k)) (T l.length) ∧ ∀ k o,l[k]? = some o →
   doesT tys C N ops fl c ch base o (i + k) (acc ++ (List.range k).map fun q=>(i + q,F q)) (F k).1 (F k).2 (T k) (T (k + 1))
 | [],i,acc,cur,h=>⟨fun _=>(0,⟨.junk,[],[]⟩),fun _=>cur,rfl,by simp only [List.length_nil,List.range_zero,List.map_nil,List.append_nil]; exact h,by simp⟩
 |o :: l,i,acc,cur,h=>by
  have h' : ∃ d δ nxt,doesT tys C N ops fl c ch base o i acc d δ cur nxt ∧ St.runT tys C N ops fl c ch base l (i + 1) (acc ++ [(i,d,δ)]) nxt K := by
   unfold St.runT at h
   split at h
   ·rename_i hc
    obtain ⟨d,δ,ob',h1,h2,h3,h4⟩ := h
    exact ⟨d,δ,ob',⟨h2,h3,by rw [if_pos hc]; exact h1⟩,h4⟩
   ·rename_i hc
    obtain ⟨d,δ,h1,h2,h3,h4⟩ := h
    exact ⟨d,δ,cur,⟨h2,h3,by rw [if_neg hc]; exact ⟨h1,rfl⟩⟩,h4⟩
  obtain ⟨d,δ,nxt,h1,h4⟩ := h'
  obtain ⟨F,T,h0,h5,h6⟩ := runT_acc l (i + 1) _ _ h4
  have e : ∀ n,acc ++ [(i,d,δ)] ++ (List.range n).map (fun k=>(i + 1 + k,F k)) = acc ++ (List.range (n + 1)).map (fun k=>(i + k,(fun k=>match k with|0=>(d,δ)|k + 1=>F k : Nat → Nat × Dl) k)) := fun n=>by
   rw [List.append_assoc]
   congr 1
   rw [List.range_succ_eq_map,List.map_cons,List.map_map]
   simp only [List.cons_append,List.nil_append,Nat.add_zero]
   congr 1
   exact List.map_congr_left fun k _=>by simp only [Function.comp_apply,Nat.succ_eq_add_one]; congr 1; omega
  refine ⟨fun k=>match k with|0=>(d,δ)|k + 1=>F k,fun k=>match k with|0=>cur|k + 1=>T k,rfl,?_,fun k q hq=>?_⟩
  ·rw [List.length_cons,← e]; exact h5
  ·cases k with
   |zero =>
    simp at hq
    subst hq
    simp only [List.range_zero,List.map_nil,List.append_nil,Nat.add_zero]
    rw [h0]; exact h1
   |succ k =>
    have := h6 k q (by simpa using hq)
    rw [e] at this
    have ei : i + 1 + k = i + (k + 1):=by omega
    rw [ei] at this
    exact this
def St.thrK (st : St) (cl : Call) (ctr : Ctr) (c d : Nat) (A : List SV) (Ll Lm : List Nat) (q : Prop × SV × List (Nat × Ob) × List (Nat × Ob)) (K : Nat → Dl → Ob → Prop) : Prop :=
 match q with
 | (ob,res,robs,[(k,ob')])=>ob ∧ (∀ y ∈ cl.args.toList,(st.ev y).need) ∧ ((restOf (ctr.lend ++ ctr.move) 0 A).all fun y=>(y.share st.hp).good) = true ∧
  nodupN (Ll ++ Lm) = true ∧ ((Ll ++ Lm).all fun i=>(lk i st.hp).isSome) = true ∧ (((restOf (ctr.lend ++ ctr.move) 0 A).flatMap SV.owns).all fun i=>!(Ll ++ Lm).contains i && (lk i st.hp).isSome) = true ∧ Lm.length ≤ 100000 ∧
  (Lm.all fun i=>decide (i < 1000000)) = true ∧ ((robs.map (·.1)).all fun i=>decide (i < 900000) && !Ll.contains i) = true ∧ nodupN (robs.map (·.1)) = true ∧ ([k] = (pairs 1000000 Ll).map (·.2)) ∧
  (((restOf (ctr.lend ++ ctr.move) 0 A).flatMap SV.owns) = [] ∨ (res.isV2 = true ∧ ∀ p ∈ robs ++ [(k,ob')],p.2.isV)) ∧
  ctr.isL = true ∧ Ll = [c] ∧ unObs (backL (pairs 1000000 Ll) robs) [(k,ob')] = [(c,ob')] ∧ (unObs (backL (pairs 1000000 Ll) robs) robs).map (·.1) = robs.map (·.1) ∧ pureBox ob' = true ∧
  K d ⟨res.up (SV.ren1 (backL (pairs 1000000 Ll) robs)),unObs (backL (pairs 1000000 Ll) robs) robs,Lm⟩ ob'
 | _=>False
def St.dltTK (C : List (FuncId × Ctr)) (N : Nat) (o : Oper) (st : St) (c : Nat) (K : Nat → Dl → Ob → Prop) : Prop :=
 match o.dst with
 |none=>False
 |some d=>o.guard.isNone = true ∧ dstOk N o.dst = true ∧
 match o.op with
 | .call cl=>match cl.callee with
  | .value x=>match st.ev x with
   | .fn f caps=>match lk f C with
    |some ctr=>st.thrK cl ctr c d (st.argL cl caps) (lentBy st (st.argL cl caps) ctr.lend) (lentBy st (st.argL cl caps) ctr.move)
      (ctr.wri d (argsR st.hp (pairs 1000000 (lentBy st (st.argL cl caps) ctr.lend) ++ pairs 900000 (lentBy st (st.argL cl caps) ctr.move)) (ctr.lend ++ ctr.move) 0 (st.argL cl caps)) (obsR st.hp (pairs 1000000 (lentBy st (st.argL cl caps) ctr.lend) ++ pairs 900000 (lentBy st (st.argL cl caps) ctr.move)))) K
    |none=>False
   | _=>False
  | _=>False
 | _=>False
theorem dltTK_ex {C : List (FuncId × Ctr)} {N : Nat} {o : Oper} {st : St} {c : Nat} {K : Nat → Dl → Ob → Prop} (h : st.dltTK C N o c K) : ∃ d δ ob',st.dltT C N o c d δ ob' ∧ K d δ ob' := by
 unfold St.dltTK at h
 cases hod : o.dst with
 |none=>rw [hod] at h; exact h.elim
 |some d =>
 rw [hod] at h
 simp only at h
 obtain ⟨hgd,hd,h⟩ := h
 rw [← hod] at hd
 cases ho : o.op with
 |call cl =>
  rw [ho] at h
  simp only at h
  cases hc : cl.callee with
  |value x =>
   rw [hc] at h
   simp only at h
   generalize hx : st.ev x = y at h
   split at h
   case h_2=>exact h.elim
   case h_1 f caps =>
    generalize hf : lk f C = z at h
    split at h
    case h_2=>exact h.elim
    case h_1 ctr =>
     generalize hLl : lentBy st (st.argL cl caps) ctr.lend = Ll at h
     generalize hLm : lentBy st (st.argL cl caps) ctr.move = Lm at h
     generalize hq : ctr.wri d (argsR st.hp (pairs 1000000 Ll ++ pairs 900000 Lm) (ctr.lend ++ ctr.move) 0 (st.argL cl caps)) (obsR st.hp (pairs 1000000 Ll ++ pairs 900000 Lm)) = q at h
     unfold St.thrK at h
     split at h
     case h_2=>exact h.elim
     case h_1 q1 q2 q3 k ob' =>
      obtain ⟨g1,g2,g3,g4,g5,g6,g7,g8,g9,g10,g11,g12,g13,g14,g15,g16,g17,g18⟩ := h
      refine ⟨d,_,ob',⟨hod,hgd,hd,?_⟩,g18⟩
      rw [ho]
      simp only [hc,hx,hf,hLl,hLm,hq]
      unfold St.thrC
      simp only
      exact ⟨g1,g2,g3,g4,g5,g6,g7,g8,g9,g10,g11,g12,g13,g14,by first|trivial|rfl,by first|trivial|rfl,by unfold unObs at g15 ⊢; rw [List.map_append,g15],g16,g17⟩
  |invoke r q=>rw [hc] at h; exact h.elim
  |builtin b=>rw [hc] at h; exact h.elim
 | _=>rw [ho] at h; exact h.elim
def St.runTG (tys : List (Nat × TyD)) (C : List (FuncId × Ctr)) (N : Nat) (ops : Array Oper) (fl : List Fp) (c : Nat) (ch : List Nat) (base : St) : List Oper → Nat → Acc → Ob → (Acc → Ob → Prop) → Prop
 | [],_,acc,cur,K=>K acc cur
 |o :: l,i,acc,cur,K=>if ch.contains i = true then
   ((base.least acc (fpAt fl i)).thr c cur).dltTK C N o c fun d δ ob'=>((fpAt fl i).lks.all fun t=>(lk t (base.least acc (fpAt fl i)).fr).isSome) = true ∧ dlOk (fpAt fl i) δ ∧ St.runTG tys C N ops fl c ch base l (i + 1) (acc ++ [(i,d,δ)]) ob' K
  else (base.least acc (fpAt fl i)).dltK tys C N ops o fun d δ=>((fpAt fl i).lks.all fun t=>(lk t (base.least acc (fpAt fl i)).fr).isSome) = true ∧ dlOk (fpAt fl i) δ ∧ St.runTG tys C N ops fl c ch base l (i + 1) (acc ++ [(i,d,δ)]) cur K
theorem runT_of_runTG {tys : List (Nat × TyD)} {C : List (FuncId × Ctr)} {N : Nat} {ops : Array Oper} {fl : List Fp} {c : Nat} {ch : List Nat} {base : St} {K : Acc → Ob → Prop} : ∀ (l : List Oper) (i : Nat) (acc : Acc) (cur : Ob),St.runTG tys C N ops fl c ch base l i acc cur K → St.runT tys C N ops fl c ch base l i acc cur K
 | [],_,_,_,h=>h
 |o :: l,i,acc,cur,h=>by
  unfold St.runTG at h
  unfold St.runT
  split at h
  ·rename_i hc
   rw [if_pos hc]
   obtain ⟨d,δ,ob',h1,h2,h3,h4⟩ := dltTK_ex h
   exact ⟨d,δ,ob',h1,h2,h3,runT_of_runTG l (i + 1) _ _ h4⟩
  ·rename_i hc
   rw [if_neg hc]
   obtain ⟨d,δ,h1,h2,h3,h4⟩ := dltK_ex h
   exact ⟨d,δ,h1,h2,h3,runT_of_runTG l (i + 1) _ _ h4⟩
def threadB (m : Nat) (fl : List Fp) (c : Nat) (ch : List Nat) : Bool :=
 ((List.range m).all fun j=>(List.range j).all fun i=>!(ch.contains i && ch.contains j) || (fpAt fl j).anc.contains i) &&
 ((List.range m).all fun k=>!(fpAt fl k).mks.contains c && !(fpAt fl k).gn.contains c)
theorem lk_offO {st : St} {c : Nat} : lk c (st.offO c).hp = none := lk_er_self c st.hp
def St.has1 (st : St) (c : Nat) (K : Ob → Prop) : Prop := match lk c st.hp with
 |some ob=>K ob
 |none=>False
section
variable {c : Cx} {N : Nat} {X0 : Nat → Prop} {M : Nat → BV → Prop} {w0 : World} {K : Exit → St → Prop}
theorem flow_headT {cc : Nat} {ch : List Nat} {T : Nat → Ob} (hAp : Ap c.P X0 M w0) {ops : Array Oper} {m : Nat} {fl : List Fp} (hB : FlowOk ops m fl) {base : St} {F : Nat → Nat × Dl} {gs : List Nat}
  (hF : ∀ k o,k < m → ops[k]? = some o → doesT c.tys c.C N ops fl cc ch base o k ((List.range k).map fun q=>(q,F q)) (F k).1 (F k).2 (T k) (T (k + 1)))
  (hch : ∀ i j,i < m → j < m → ch.contains i = true → ch.contains j = true → i < j → i ∈ (fpAt fl j).anc) (hcm : ∀ k,k < m → cc ∉ (fpAt fl k).mks ∧ cc ∉ (fpAt fl k).gn) (hT : ∀ i,i ≤ m → pureBox (T i) = true) (hbc : lk cc base.hp = none)
  (hb1 : ∀ t x,lk t base.fr = some x → (∀ k,k < m → dstAt ops k ≠ some t) ∧ ∀ k,k < m → ∀ d ∈ (fpAt fl k).mks,x.kill d = x)
  (hb2 : ∀ id ob,lk id base.hp = some ob → ∀ k,k < m → ∀ d ∈ (fpAt fl k).mks,d ≠ id ∧ ob.kill d = ob) (hgs : ∀ k,k < m → ∀ d ∈ (fpAt fl k).gn,d ∈ gs)
  (hr : St.runR c.tys c.C N ops (ops.toList.drop m) ((base.final ((List.range m).map fun q=>(q,F q)) gs).thr cc (T m)) (K .normal)) : ∀ (fuel : Nat) (listed : Array Bool) (st' : St) (β : Nat → BV) (a : Act) (w : World),listed.size = ops.size →
  (∀ j,m ≤ j → j < ops.size → listed.getD j false = false) → fuel = (List.range ops.size).countP (fun j=>!listed.getD j false) → Closed fl ops.size listed → Sim N X0 M w0 st' β a w →
  (∀ t x,lk t base.fr = some x → (∀ d,(∃ j,j < m ∧ listed.getD j false = true ∧ d ∈ (fpAt fl j).gn) → x.kill d = x) → lk t st'.fr = some x) →
  (∀ k,k < m → listed.getD k false = true → (∀ d,(∃ j,j < m ∧ listed.getD j false = true ∧ d ∈ (fpAt fl j).gn) → (F k).2.x.kill d = (F k).2.x) → lk (F k).1 st'.fr = some (F k).2.x) →
  (∀ id ob,lk id base.hp = some ob → (∀ d,(∃ j,j < m ∧ listed.getD j false = true ∧ d ∈ (fpAt fl j).gn) → d ≠ id ∧ ob.kill d = ob) → lk id st'.hp = some ob) →
  (∀ k,k < m → listed.getD k false = true → ∀ id ob,lk id (F k).2.made = some ob → (∀ d,(∃ j,j < m ∧ listed.getD j false = true ∧ d ∈ (fpAt fl j).gn) → d ≠ id ∧ ob.kill d = ob) → lk id st'.hp = some ob) →
  (∀ p,p ≤ m → (∀ j,ch.contains j = true → j < m → (listed.getD j false = true ↔ j < p)) → lk cc st'.hp = some (T p)) →
  wpAny c.P .any ops (fun e a' w'=>Ok N X0 M w0 (K e) a' w') fuel listed a w := by
 have hdst : ∀ k,k < m → dstAt ops k = some (F k).1 := fun k hk=>by
  have hks : k < ops.size:=by have := hB.le; omega
  have ho : ops[k]? = some (ops[k]'hks) := Array.getElem?_eq_getElem hks
  have := (hF k _ hk ho).2.2
  unfold dstAt
  rw [ho]
  split at this
  ·exact this.1
  ·exact this.1.1
 have hlast : ∀ (fuel : Nat) (listed : Array Bool) (st' : St) (β : Nat → BV) (a : Act) (w : World),m + fuel = ops.size → listed.size = ops.size → Closed fl ops.size listed → (∀ j,j < ops.size → listed.getD j false = decide (j < m)) → Sim N X0 M w0 st' β a w →
   (∀ t x,lk t base.fr = some x → (∀ d,(∃ j,j < m ∧ listed.getD j false = true ∧ d ∈ (fpAt fl j).gn) → x.kill d = x) → lk t st'.fr = some x) →
   (∀ k,k < m → listed.getD k false = true → (∀ d,(∃ j,j < m ∧ listed.getD j false = true ∧ d ∈ (fpAt fl j).gn) → (F k).2.x.kill d = (F k).2.x) → lk (F k).1 st'.fr = some (F k).2.x) →
   (∀ id ob,lk id base.hp = some ob → (∀ d,(∃ j,j < m ∧ listed.getD j false = true ∧ d ∈ (fpAt fl j).gn) → d ≠ id ∧ ob.kill d = ob) → lk id st'.hp = some ob) →
   (∀ k,k < m → listed.getD k false = true → ∀ id ob,lk id (F k).2.made = some ob → (∀ d,(∃ j,j < m ∧ listed.getD j false = true ∧ d ∈ (fpAt fl j).gn) → d ≠ id ∧ ob.kill d = ob) → lk id st'.hp = some ob) →
   (∀ p,p ≤ m → (∀ j,ch.contains j = true → j < m → (listed.getD j false = true ↔ j < p)) → lk cc st'.hp = some (T p)) →
   wpAny c.P .any ops (fun e a' w'=>Ok N X0 M w0 (K e) a' w') fuel listed a w := by
  intro fuel listed st' β a w hfu hsz hcl hl hs I1 I2 I3 I4 I5
  refine flow_tail (c := c) hAp hB fuel m listed _ β a w hfu (Nat.le_refl _) hsz hcl hl (hs.less (st' := (base.final ((List.range m).map fun q=>(q,F q)) gs).thr cc (T m)) (fun t x hx=>?_) (fun id ob hx=>?_)) hr
  ·obtain ⟨h1,h2⟩ := hide_fr hx
   have hG : ∀ d,(∃ j,j < m ∧ listed.getD j false = true ∧ d ∈ (fpAt fl j).gn) → x.kill d = x := fun d ⟨j,hj,_,hd⟩=>h2 d (hgs j hj d hd)
   rcases lk_app h1 with h1|h1
   ·have hm := lk_mem h1
    simp only [List.map_map,List.mem_map,List.mem_range,Function.comp_apply] at hm
    obtain ⟨k,hk,e⟩ := hm
    injection e with e1 e2
    subst e1 e2
    exact I2 k hk (by rw [hl k (by have := hB.le; omega)]; simpa using hk) hG
   ·exact I1 t x h1 hG
  ·simp only [St.thr,lk] at hx
   by_cases hcc : id = cc
   ·rw [if_pos hcc] at hx
    rw [hcc,← hx]
    exact I5 m (Nat.le_refl _) fun j _ hj=>by rw [hl j (by have := hB.le; omega)]; simp
   rw [if_neg hcc] at hx
   obtain ⟨h1,h2⟩ := hide_hp hx
   have hG : ∀ d,(∃ j,j < m ∧ listed.getD j false = true ∧ d ∈ (fpAt fl j).gn) → d ≠ id ∧ ob.kill d = ob := fun d ⟨j,hj,_,hd⟩=>h2 d (hgs j hj d hd)
   rcases lk_app h1 with h1|h1
   ·obtain ⟨e,he,h3⟩ := lk_flatMap h1
    obtain ⟨k,hk,rfl⟩ := List.mem_map.1 he
    have hk := List.mem_range.1 hk
    exact I4 k hk (by rw [hl k (by have := hB.le; omega)]; simpa using hk) id ob h3 hG
   ·exact I3 id ob h1 hG
 intro fuel
 induction fuel with
 |zero =>
  intro listed st' β a w hsz hsuf hf hcl hs I1 I2 I3 I4 I5
  have hall : ∀ j,j < ops.size → listed.getD j false = true := fun j hj=>by
   have : (List.range ops.size).countP (fun j=>!listed.getD j false) = 0 := hf.symm
   rw [List.countP_eq_zero] at this
   have := this j (List.mem_range.2 hj)
   simpa using this
  have hm : m = ops.size := by
   rcases Nat.lt_or_ge m ops.size with h|h
   ·have := hall m h; rw [hsuf m (Nat.le_refl _) h] at this; cases this
   ·have := hB.le; omega
  exact hlast 0 listed st' β a w (by omega) hsz hcl (fun j hj=>by rw [hall j hj]; simp; omega) hs I1 I2 I3 I4 I5
 |succ fuel ih =>
  intro listed st' β a w hsz hsuf hf hcl hs I1 I2 I3 I4 I5
  have hgT : ∀ j,j < ops.size → listed.getD j true = listed.getD j false := fun j hj=>by
   rw [Array.getD_eq_getD_getElem?,Array.getD_eq_getD_getElem?,Array.getElem?_eq_getElem (by omega)]; rfl
  have hex : ∃ p,p < ops.size ∧ listed.getD p false = false := by
   have h1 : 0 < (List.range ops.size).countP (fun j=>!listed.getD j false):=by omega
   obtain ⟨p,hp,hq⟩ := List.countP_pos_iff.1 h1
   exact ⟨p,List.mem_range.1 hp,by simpa using hq⟩
  obtain ⟨p,⟨hp,hpf⟩,hmin⟩ := least hex
  have hrdy : p ∈ Region.ready .any ops listed := mem_ready'.2 ⟨hp,by rw [hgT p hp]; exact hpf,_,Array.getElem?_eq_getElem hp,deps_ready (i := p) (ops := ops) fun e he=>by
   have hlt := hB.back p _ (Array.getElem?_eq_getElem hp) e he
   cases hh : listed.getD e false with
   |true=>rfl
   |false=>have := hmin e ⟨by omega,hh⟩; omega⟩
  have hwhole : (∀ j,j < m → listed.getD j false = true) → wpAny c.P .any ops (fun e a' w'=>Ok N X0 M w0 (K e) a' w') (fuel + 1) listed a w := fun hbefore=>by
   have hl : ∀ j,j < ops.size → listed.getD j false = decide (j < m) := fun j hj=>by
    rcases Nat.lt_or_ge j m with h|h
    ·rw [hbefore j h]; simp [h]
    ·rw [hsuf j h hj]; simp; omega
   have hcount : fuel + 1 = ops.size - m := by
    rw [hf]
    have : (List.range ops.size).countP (fun j=>!listed.getD j false) = (List.range ops.size).countP (fun j=>decide (m ≤ j)) := by
     apply List.countP_congr
     intro j hj
     rw [hl j (List.mem_range.1 hj)]
     simp
    rw [this]
    have key : ∀ n,(List.range n).countP (fun j=>decide (m ≤ j)) = n - m := by
     intro n
     induction n with
     |zero=>simp
     |succ n ihn =>
      rw [List.range_succ,List.countP_append,ihn]
      by_cases hh : m ≤ n
      ·simp [hh]; omega
      ·simp [hh]; omega
    exact key _
   exact hlast (fuel + 1) listed st' β a w (by have := hB.le; omega) hsz hcl hl hs I1 I2 I3 I4 I5
  refine ⟨fun h=>(by rw [h] at hrdy; cases hrdy),fun i hi=>?_⟩
  obtain ⟨h1,h2,o,hoi,h3⟩ := mem_ready'.1 hi
  rw [hgT i h1] at h2
  rcases Nat.lt_or_ge i m with him|him
  ·-- one of the first m
   obtain ⟨hlks,hok,hdoes⟩ := hF i o him hoi
   have hanc := hcl.anc hB hoi h3
   have hGx : ∀ d,(∃ j,j < m ∧ listed.getD j false = true ∧ d ∈ (fpAt fl j).gn) → d ∈ (fpAt fl i).gx := fun d ⟨j,hj,hlj,hd⟩ =>
    hB.gx i j him hj (fun e=>by subst e; rw [h2] at hlj; cases hlj) (fun ha=>by have := hcl j (by have := hB.le; omega) hlj i ha; rw [h2] at this; cases this) d hd
   have hWf : ∀ t x,lk t (base.least ((List.range i).map fun q=>(q,F q)) (fpAt fl i)).fr = some x → lk t st'.fr = some x := fun t x hx=>by
    obtain ⟨e1,e2⟩ := hide_fr hx
    have hG : ∀ d,(∃ j,j < m ∧ listed.getD j false = true ∧ d ∈ (fpAt fl j).gn) → x.kill d = x := fun d hd=>e2 d (hGx d hd)
    rcases lk_app e1 with e1|e1
    ·have hm := lk_mem e1
     obtain ⟨e,he,e3⟩ := List.mem_map.1 hm
     obtain ⟨he1,he2⟩ := List.mem_filter.1 he
     obtain ⟨k,hk,rfl⟩ := List.mem_map.1 he1
     injection e3 with e4 e5
     subst e4 e5
     exact I2 k (by have := List.mem_range.1 hk; omega) (hanc k (List.contains_iff_mem.1 he2)) hG
    ·exact I1 t x e1 hG
   have hWh : ∀ id ob,lk id (base.least ((List.range i).map fun q=>(q,F q)) (fpAt fl i)).hp = some ob → lk id st'.hp = some ob := fun id ob hx=>by
    obtain ⟨e1,e2⟩ := hide_hp hx
    have hG : ∀ d,(∃ j,j < m ∧ listed.getD j false = true ∧ d ∈ (fpAt fl j).gn) → d ≠ id ∧ ob.kill d = ob := fun d hd=>e2 d (hGx d hd)
    rcases lk_app e1 with e1|e1
    ·obtain ⟨e,he,e3⟩ := lk_flatMap e1
     obtain ⟨he1,he2⟩ := List.mem_filter.1 he
     obtain ⟨k,hk,rfl⟩ := List.mem_map.1 he1
     exact I4 k (by have := List.mem_range.1 hk; omega) (hanc k (List.contains_iff_mem.1 he2)) id ob e3 hG
    ·exact I3 id ob e1 hG
   have hlook : ∀ t ∈ o.looksAt ops,st'.get t = (base.least ((List.range i).map fun q=>(q,F q)) (fpAt fl i)).get t := fun t ht=>by
    have := List.all_eq_true.1 hlks t (hB.looks i o him hoi t ht)
    obtain ⟨x,hx⟩ := Option.isSome_iff_exists.1 this
    unfold St.get
    rw [hx,hWf t x hx]
   obtain ⟨k1,k2,k3,k4⟩ := hok
   have hids : ∀ d,d ∈ (F i).2.gone ++ (F i).2.made.map (·.1) ↔ d ∈ (fpAt fl i).mks ++ (fpAt fl i).gn := fun d=>by rw [k1,k2,List.mem_append,List.mem_append]; exact or_comm
   have hids' : (F i).2.ids = (fpAt fl i).mks ++ (fpAt fl i).gn:=by unfold Dl.ids; rw [k1,k2]
   have hmade : ∀ id,id ∉ (fpAt fl i).mks → lk id (F i).2.made = none := fun id hid=>lk_none (by rw [k2]; exact hid)
   have havk : ∀ k,k < m → k ≠ i → listed.getD k false = true → ∀ d ∈ (fpAt fl i).mks,d ∈ (fpAt fl k).av := fun k hk hne hlk d hd =>
    hB.av k i hk him (Ne.symm hne) (fun ha=>by have := hcl k (by have := hB.le; omega) hlk i ha; rw [h2] at this; cases this) d hd
   have hG' : ∀ {Q : Nat → Prop},(∀ d,(∃ j,j < m ∧ (listed.setIfInBounds i true).getD j false = true ∧ d ∈ (fpAt fl j).gn) → Q d) → (∀ d,(∃ j,j < m ∧ listed.getD j false = true ∧ d ∈ (fpAt fl j).gn) → Q d) ∧ ∀ d ∈ (fpAt fl i).gn,Q d := fun {Q} hq =>
    ⟨fun d ⟨j,hj,hlj,hd⟩=>hq d ⟨j,hj,by rw [getD_set _ _ _ _ (by omega)]; split <;> first|rfl|exact hlj,hd⟩,fun d hd=>hq d ⟨i,him,by rw [getD_set _ _ _ _ (by omega),if_pos rfl],hd⟩⟩
   have hks : ∀ k,k < m → k < ops.size := fun k hk=>by have := hB.le; omega
   have hset : ∀ j,j ≠ i → (listed.setIfInBounds i true).getD j false = listed.getD j false := fun j hj=>by rw [getD_set _ _ _ _ (by omega),if_neg hj]
   have hstep : ∀ (st2 : St) (ids : List Nat),(∀ d,d ∈ ids → d ∈ (fpAt fl i).mks ++ (fpAt fl i).gn) → st2.fr = ((F i).1,(F i).2.x) :: er (F i).1 (st'.killL ids).fr →
     (∀ id,id ≠ cc → lk id st2.hp = (lk id (F i).2.made).or (lk id (st'.killL ids).hp)) →
     (∀ p,p ≤ m → (∀ j,ch.contains j = true → j < m → ((listed.setIfInBounds i true).getD j false = true ↔ j < p)) → lk cc st2.hp = some (T p)) →
     ∀ (β' : Nat → BV) (a' : Act) (w' : World),Sim N X0 M w0 st2 β' a' w' → wpAny c.P .any ops (fun e a' w'=>Ok N X0 M w0 (K e) a' w') fuel (listed.setIfInBounds i true) a' w' := by
    intro st2 ids hidm hfr2 hhp2 hcc2 β' a' w' h5
    refine ih _ _ β' a' w' (by simpa using hsz) (fun j hj hjn=>?_) ?_ (hcl.step hB hsz hoi h3) h5 (fun t x hx hG=>?_) (fun k hk hlk hG=>?_) (fun id ob hx hG=>?_) (fun k hk hlk id ob hx hG=>?_) hcc2
    ·rw [getD_set _ _ _ _ (by omega),if_neg (by omega)]; exact hsuf j hj hjn
    ·have := count_set hsz h1 h2; omega
    ·obtain ⟨g1,g2⟩ := hG' hG
     obtain ⟨q1,q2⟩ := hb1 t x hx
     have hne : t ≠ (F i).1 := fun e=>q1 i him (by rw [hdst i him,e])
     rw [hfr2]
     simp only [lk,if_neg hne,lk_er_ne hne]
     refine killL_keep (fun d hd=>?_) (I1 t x hx g1)
     rcases List.mem_append.1 (hidm d hd) with h|h
     ·exact q2 i him d h
     ·exact g2 d h
    ·obtain ⟨g1,g2⟩ := hG' hG
     rw [hfr2]
     by_cases hki : k = i
     ·subst hki; simp [lk]
     ·rw [hset k hki] at hlk
      have hne : (F k).1 ≠ (F i).1 := fun e=>hB.apart i k him hk (Ne.symm hki) (by rw [hdst i him,hdst k hk,e])
      simp only [lk,if_neg hne,lk_er_ne hne]
      refine killL_keep (fun d hd=>?_) (I2 k hk hlk g1)
      rcases List.mem_append.1 (hidm d hd) with h|h
      ·exact refs_kill (havk k hk hki hlk d h) (hF k _ hk (Array.getElem?_eq_getElem (hks k hk))).2.1.2.2.1
      ·exact g2 d h
    ·obtain ⟨g1,g2⟩ := hG' hG
     have q := hb2 id ob hx i him
     have hnm : id ∉ (fpAt fl i).mks := fun hin=>(q id hin).1 rfl
     have hnc : id ≠ cc := fun e=>by rw [e,hbc] at hx; cases hx
     rw [hhp2 id hnc,hmade id hnm]
     refine killL_keepO (fun d hd=>?_) (I3 id ob hx g1)
     rcases List.mem_append.1 (hidm d hd) with h|h
     ·exact q d h
     ·exact g2 d h
    ·obtain ⟨g1,g2⟩ := hG' hG
     have hidk : id ∈ (fpAt fl k).mks:=by rw [← (hF k _ hk (Array.getElem?_eq_getElem (hks k hk))).2.1.2.1]; exact List.mem_map.2 ⟨(id,ob),lk_mem hx,rfl⟩
     have hnc : id ≠ cc := fun e=>(hcm k hk).1 (e ▸ hidk)
     rw [hhp2 id hnc]
     by_cases hki : k = i
     ·subst hki; rw [hx]; rfl
     ·rw [hset k hki] at hlk
      have hokk := (hF k _ hk (Array.getElem?_eq_getElem (hks k hk))).2.1
      have hnm : id ∉ (fpAt fl i).mks := hB.mks i k him hk hki id hidk
      rw [hmade id hnm]
      refine killL_keepO (fun d hd=>?_) (I4 k hk hlk id ob hx g1)
      rcases List.mem_append.1 (hidm d hd) with h|h
      ·refine ⟨fun e=>hnm (e ▸ h),Ob.refs_kill (havk k hk hki hlk d h) ?_⟩
       have := List.all_eq_true.1 hokk.2.2.2 (id,ob) (lk_mem hx)
       simpa using this
      ·exact g2 d h
   by_cases hci : ch.contains i = true
   ·rw [if_pos hci] at hdoes
    have hbefore : ∀ j,ch.contains j = true → j < m → (listed.getD j false = true ↔ j < i) := fun j hj hjm=>by
     constructor
     ·intro hlj
      rcases Nat.lt_trichotomy j i with h|h|h
      ·exact h
      ·subst h; rw [h2] at hlj; cases hlj
      ·have := hcl j (hks j hjm) hlj i (hch i j him hjm hci hj h)
       rw [h2] at this; cases this
     ·intro h; exact hanc j (hch j i hjm him hj hci h)
    have hI := I5 i (by omega) hbefore
    have hd' : st'.dltT c.C N o cc (F i).1 (F i).2 (T (i + 1)) := dltT_mono (ops := ops) (st := (base.least ((List.range i).map fun q=>(q,F q)) (fpAt fl i)).thr cc (T i)) (fun t ht=>hlook t ht) (fun id ob hx=>by
     simp only [St.thr,lk] at hx
     by_cases he : id = cc
     ·rw [if_pos he] at hx; rw [he,← hx]; exact hI
     ·rw [if_neg he] at hx; exact hWh id ob hx) hdoes
    obtain ⟨hwant,hst⟩ := dltT_sound (Q := fun e a' w'=>Ok N X0 M w0 (K e) a' w') hAp c.hC hs (ops := ops) hd'
    have hconst : ∀ n,i + 1 + n ≤ m → (∀ j,ch.contains j = true → i < j → j < i + 1 + n → False) → T (i + 1 + n) = T (i + 1) := by
     intro n
     induction n with
     |zero=>intro _ _; rfl
     |succ n ihn =>
      intro hle hno
      have h4 : ¬ ch.contains (i + 1 + n) = true := fun h=>hno _ h (by omega) (by omega)
      have h5 := (hF (i + 1 + n) _ (by omega) (Array.getElem?_eq_getElem (hks _ (by omega)))).2.2
      rw [if_neg h4] at h5
      show T (i + 1 + n + 1) = _
      rw [h5.2]
      exact ihn (by omega) fun j hj h6 h7=>hno j hj h6 (by omega)
    have hnext : ∀ a' w',Ok N X0 M w0 (fun st2=>st2 = st'.dappT (F i).1 (F i).2 cc (T (i + 1))) a' w' → wpAny c.P .any ops (fun e a' w'=>Ok N X0 M w0 (K e) a' w') fuel (listed.setIfInBounds i true) a' w' := fun a' w' hk=>by
     obtain ⟨st2,β',rfl,h5⟩ := hk
     refine hstep _ ((F i).2.gone ++ (F i).2.made.map (·.1)) (fun d hd=>(hids d).1 hd) rfl (fun id hne=>?_) (fun p hp hlp=>?_) β' a' w' h5
     ·simp only [St.dappT,lk,if_neg hne]
      rw [lk_append,lk_er_ne hne]
     ·simp only [St.dappT,lk,if_true]
      have hip : i < p := (hlp i hci him).1 (by rw [getD_set _ _ _ _ (by omega),if_pos rfl])
      have := hconst (p - (i + 1)) (by omega) fun j hj h6 h7=>by
       have h8 := (hlp j hj (by omega)).2 (by omega)
       rw [hset j (by omega)] at h8
       have := (hbefore j hj (by omega)).1 h8
       omega
      rw [show i + 1 + (p - (i + 1)) = p by omega] at this
      rw [this]
    unfold wpOp
    rw [hoi]
    simp only
    rw [if_pos hwant]
    exact .inl (Oper.wp_mono hnext hst)
   ·rw [if_neg hci] at hdoes
    have hd' : st'.dlt c.tys c.C N ops o (F i).1 (F i).2 := dlt_mono (fun t ht=>hlook t ht) hWh hdoes.1
    have hst := dlt_sound (Q := fun e a' w'=>Ok N X0 M w0 (K e) a' w') hAp c.hty c.hC hs (ops := ops) hd'
    have hnext : ∀ a' w',Ok N X0 M w0 (fun st2=>st2 = st'.dapp (F i).1 (F i).2) a' w' → wpAny c.P .any ops (fun e a' w'=>Ok N X0 M w0 (K e) a' w') fuel (listed.setIfInBounds i true) a' w' := fun a' w' hk=>by
     obtain ⟨st2,β',rfl,h5⟩ := hk
     refine hstep _ (F i).2.ids (fun d hd=>by rw [hids'] at hd; exact hd) rfl (fun id hne=>?_) (fun p hp hlp=>?_) β' a' w' h5
     ·simp only [St.dapp]
      rw [lk_append]
     ·have h6 := I5 p hp fun j hj hjm=>by
       have hji : j ≠ i := fun e=>hci (e ▸ hj)
       rw [← hset j hji]; exact hlp j hj hjm
      simp only [St.dapp]
      rw [lk_append,hmade cc (hcm i him).1]
      refine killL_keepO (fun d hd=>?_) h6
      rw [hids'] at hd
      refine ⟨fun e=>?_,pureBox_kill (hT p hp) d⟩
      subst e
      rcases List.mem_append.1 hd with h|h
      ·exact (hcm i him).1 h
      ·exact (hcm i him).2 h
    unfold wpOp
    rw [hoi]
    simp only
    split
    ·rename_i hw; rw [if_pos hw] at hst; exact .inl (Oper.wp_mono hnext hst)
    ·rename_i hw; rw [if_neg hw] at hst; exact hnext _ _ hst
  ·-- all of the first m have come up
   exact (hwhole fun j hj=>hcl.anc hB hoi h3 j (hB.tail i o him hoi j (by omega))).2 i hi
theorem WP.flowT {id : Nat} {l : List Oper} {st : St} (cc : Nat) (ch : List Nat) (zs : List Nat) (m : Nat) (fl : List Fp) (ds mks gs : List Nat) (hB : flowB l.toArray m fl = true) (hth : threadB m fl cc ch = true)
  (hD : ((List.range m).all fun k=>match dstAt l.toArray k with|some d=>ds.contains d|none=>false) = true)
  (hM : ((List.range m).all fun k=>((fpAt fl k).mks.all fun d=>mks.contains d) && ((fpAt fl k).gn.all fun d=>gs.contains d)) = true) (hm : c.P.follows .mixedOrders = true)
  (h : ((st.fzS zs).clean ds mks).has1 cc fun cur=>pureBox cur = true ∧ St.runTG c.tys c.C N l.toArray fl cc ch (((st.fzS zs).clean ds mks).offO cc) (l.take m) 0 [] cur fun acc nxt=>St.runR c.tys c.C N l.toArray (l.drop m) (((((st.fzS zs).clean ds mks).offO cc).final acc gs).thr cc nxt) (K .normal)) : WP c N X0 M w0 (.region id l.toArray true) st K := by
 intro hA β a w hs0
 have hs := Sim.fzS hA zs hs0
 generalize st.fzS zs = st at hs h
 have hD0 := flowB_ok hB
 unfold St.has1 at h
 split at h
 case h_2=>exact h.elim
 case h_1 _ cur hcur =>
 obtain ⟨hpc,h⟩ := h
 obtain ⟨F,T,hT0,h1,h2⟩ := runT_acc _ _ _ _ (runT_of_runTG _ _ _ _ h)
 have hlen : (l.take m).length = m := by
  have := hD0.le
  simp at this ⊢
  omega
 rw [hlen] at h1
 simp only [List.nil_append,Nat.zero_add] at h1 h2
 unfold threadB at hth
 rw [Bool.and_eq_true,List.all_eq_true,List.all_eq_true] at hth
 have hch : ∀ i j,i < m → j < m → ch.contains i = true → ch.contains j = true → i < j → i ∈ (fpAt fl j).anc := fun i j hi hj hci hcj hij=>by
  have := List.all_eq_true.1 (hth.1 j (List.mem_range.2 hj)) i (List.mem_range.2 hij)
  rw [hci,hcj] at this
  exact List.contains_iff_mem.1 (by simpa using this)
 have hcm : ∀ k,k < m → cc ∉ (fpAt fl k).mks ∧ cc ∉ (fpAt fl k).gn := fun k hk=>by
  have := hth.2 k (List.mem_range.2 hk)
  simpa using this
 have hm0 : m ≤ l.toArray.size := hD0.le
 have hTp : ∀ i,i ≤ m → pureBox (T i) = true := by
  intro i
  induction i with
  |zero=>intro _; rw [hT0]; exact hpc
  |succ i ih =>
   intro hi
   have h3 := h2 i (l[i]'(by simp at hm0; omega)) (by rw [List.getElem?_take_of_lt (by omega)]; exact List.getElem?_eq_getElem _)
   have h4 := h3.2.2
   split at h4
   ·obtain ⟨_,_,_,h5⟩ := h4
    split at h5
    case h_2=>exact h5.elim
    split at h5
    case h_2=>exact h5.elim
    split at h5
    case h_2=>exact h5.elim
    split at h5
    case h_2=>exact h5.elim
    unfold St.thrC at h5
    exact h5.2.2.2.2.2.2.2.2.2.2.2.2.2.2.2.2.2.2
   ·rw [h4.2]; exact ih (by omega)
 have hofh : ∀ t x,lk t ((st.clean ds mks).offO cc).hp = some x → lk t (st.clean ds mks).hp = some x := fun t x hx=>by
  by_cases he : t = cc
  ·rw [he,lk_offO] at hx; cases hx
  ·have hx' : lk t (er cc (st.clean ds mks).hp) = some x := hx
   rwa [lk_er_ne he] at hx'
 have hcl0 : ∀ t x,lk t (st.clean ds mks).fr = some x → lk t st.fr = some x ∧ t ∉ ds ∧ ∀ d ∈ mks,x.kill d = x := fun t x hx=>by
  obtain ⟨e1,e2⟩ := hide_fr hx
  obtain ⟨e3,e4⟩ := offK_lk e1
  exact ⟨e3,e4,e2⟩
 have hMk : ∀ k,k < m → (∀ d ∈ (fpAt fl k).mks,d ∈ mks) ∧ ∀ d ∈ (fpAt fl k).gn,d ∈ gs := fun k hk=>by
  have := List.all_eq_true.1 hM k (List.mem_range.2 hk)
  simp only [Bool.and_eq_true,List.all_eq_true] at this
  exact ⟨fun d hd=>List.contains_iff_mem.1 (this.1 d hd),fun d hd=>List.contains_iff_mem.1 (this.2 d hd)⟩
 refine wp_region_any hm ?_
 refine (flow_headT (c := c) (K := K) (cc := cc) (ch := ch) (T := T) hA hD0 (base := (st.clean ds mks).offO cc) (F := F) (gs := gs) (fun k o hk ho=>?_) hch hcm hTp lk_offO (fun t x hx=>⟨fun k hk e=>?_,fun k hk d hd=>(hcl0 t x hx).2.2 d ((hMk k hk).1 d hd)⟩) (fun t ob hx k hk d hd=>(hide_hp (hofh t ob hx)).2 d ((hMk k hk).1 d hd)) (fun k hk=>(hMk k hk).2) ?_
  l.toArray.size (Array.replicate l.toArray.size false) (st.clean ds mks) β a _ (by simp) (fun j _ hj=>?_) ?_ (fun b hb hl=>?_) ?_ (fun t x hx _=>hx) (fun k hk hl=>?_) (fun t ob hx _=>hofh t ob hx) (fun k hk hl=>?_) (fun p hp hlp=>?_))
 ·have : (l.take m)[k]? = some o:=by rw [List.getElem?_take_of_lt hk]; simpa using ho
  exact h2 k o this
 ·have := List.all_eq_true.1 hD k (List.mem_range.2 hk)
  rw [e] at this
  exact (hcl0 t x hx).2.1 (List.contains_iff_mem.1 this)
 ·exact h1
 ·rw [Array.getD_eq_getD_getElem?,Array.getElem?_replicate]; split <;> rfl
 ·have : (List.range l.toArray.size).countP (fun j=>!(Array.replicate l.toArray.size false).getD j false) = (List.range l.toArray.size).countP (fun _=>true) := by
   apply List.countP_congr
   intro j hj
   rw [Array.getD_eq_getD_getElem?,Array.getElem?_replicate]; split <;> simp
  rw [this]; simp
 ·rw [Array.getD_eq_getD_getElem?,Array.getElem?_replicate] at hl
  split at hl <;> cases hl
 ·exact (hs.grow ((Go.RowKit.Below.refl _ _).drew) (fun b _ hb=>.inl hb) hs.x0).less (fun t x hx=>(hcl0 t x hx).1) (fun t ob hx=>(hide_hp hx).1)
 ·rw [Array.getD_eq_getD_getElem?,Array.getElem?_replicate] at hl
  split at hl <;> cases hl
 ·rw [Array.getD_eq_getD_getElem?,Array.getElem?_replicate] at hl
  split at hl <;> cases hl
 ·have hz : ∀ n,n ≤ p → T n = T 0 := by
   intro n
   induction n with
   |zero=>intro _; rfl
   |succ n ih =>
    intro hn
    have hnc : ¬ ch.contains n = true := fun hc=>by
     have h3 := (hlp n hc (by omega)).2 (by omega)
     rw [Array.getD_eq_getD_getElem?,Array.getElem?_replicate] at h3
     split at h3 <;> cases h3
    have h3 := h2 n (l[n]'(by simp at hm0; omega)) (by rw [List.getElem?_take_of_lt (by omega)]; exact List.getElem?_eq_getElem _)
    have h4 := h3.2.2
    rw [if_neg hnc] at h4
    rw [h4.2]; exact ih (by omega)
  rw [hz p (Nat.le_refl _),hT0]; exact hcur
end
end Go.Vc

namespace Go.Proofs.Ytjjbcoigaejoaaa
open Go.Vc
attribute [local irreducible] Go.Vc.WP
attribute [local go_sem] cx0_t cx0_c
attribute [local go_sem] decCur_abc decU_enc decFrame_enc decI_enc St.thr St.offO pureBox St.thrC St.thrK St.dltTK St.runTG St.has1 St.fzS addL behind St.stepWr St.runWr isArith
def kNew : Ctr := pur (fun args=>decU (aR args 0)) (fun b=>[.sl 1 (b.map encU)]) (fun b=>b.length ≤ 1048576 ∧ ∀ z ∈ b,0 ≤ z ∧ z ≤ 255) (fun d _=>.ptr d 0 0 0) (fun d b=>[(d,.box 104 (encCur (newC b)))])
section
noncomputable def cxNewS := mkX [] (COk.nil _)
theorem cxNewS_t : cxNewS.tys = tys := rfl
theorem cxNewS_c : cxNewS.C = [] := rfl
attribute [local go_sem] cxNewS_t cxNewS_c
theorem cNewS : Cn Try.prog 31 kNew := by
 refine Cn.pur Try.func31 (by kernel_rfl) rfl fun d x hx=>?_
 rename List Int=>b
 obtain ⟨hb,hz⟩ := hx
 simp only [encCur] at hb hz ⊢
 refine Holds.go (c := cxNewS) Try.func31 rfl Try.results31 Try.ntmps31 (by omega) (by simp) rfl ?_
 intro X0 w0
 (repeat' (first|apply zS|apply zB|((first|apply zR|apply zC|apply zT|apply zE|apply zK);simp only [go_sem])|apply And.intro|intro _))
 all_goals first|omega|skip
 refine zL (fun k : Nat=>⟨[(0,.sl 1 (b.map encU)),(3,.v (.int .i64 (newH b k))),(4,.v (.int .i64 k))],[]⟩) (fun k=>k ≤ newN b) (fun k=>newN b - k) 0 (by simp) ?_ ?_
 ·(simp only [go_sem] <;> (first|(and_intros <;> rfl)|simp))
 intro k hk
 have hN : newN b = min b.length 4000 := rfl
 have hh := newH_bd hb k
 by_cases hlt : k < b.length
 ·have hli : (k : Int) < b.length:=by omega
  have h1 := rowAt_map encU b k hlt
  have h2 := hz _ (List.getElem_mem hlt)
  by_cases h4 : k < 4000
  ·have h4i : (k : Int) < 4000:=by omega
   have hs : newH b (k + 1) = bitAnd .i64 (newH b k * 131 + b[k] + 7) 1073741823 := by
    rw [newH,List.getD_eq_getElem?_getD,List.getElem?_eq_getElem hlt]; rfl
   (repeat' (first|apply zS|apply zB|((first|apply zR|apply zC|apply zT|apply zE|apply zK);simp only [go_sem,hli,h1,encU,h4i])|apply And.intro|intro _))
   all_goals first|omega|skip
   all_goals first|exact ⟨k + 1,by omega,by omega,by rw [hs]; (first|(and_intros <;> rfl)|simp)⟩|trace_state
  ·have h4i : ¬ (k : Int) < 4000:=by omega
   have hke : k = newN b:=by omega
   have he : newC b = ⟨b,0,newH b k⟩:=by unfold newC; rw [← hke]
   (repeat' (first|apply zS|apply zB|((first|apply zR|apply zC|apply zT|apply zE|apply zK);simp only [go_sem,hli,h1,encU,h4i,he])|apply And.intro|intro _))
   all_goals first|omega|skip
 ·have hge : ¬ (k : Int) < b.length:=by omega
  have hke : k = newN b:=by have hN : newN b = min b.length 4000 := rfl; omega
  have he : newC b = ⟨b,0,newH b k⟩:=by unfold newC; rw [← hke]
  (repeat' (first|apply zS|apply zB|((first|apply zR|apply zC|apply zT|apply zE|apply zK);simp only [go_sem,hge,he])|apply And.intro|intro _))
  all_goals first|omega|skip
end
def kByte : Ctr := len [0] [] (fun args obs=>decCur (oC obs 1000000)) (fun c=>[.ptr 1000000 0 0 0]) (fun c=>[(1000000,.box 104 (encCur c))]) CurOk
 (fun _ c=>.v (.int .i64 (byteV c))) (fun _ _=>[]) (fun c=>[(1000000,.box 104 (encCur (byteC c)))])
section
noncomputable def cxByS := mkX [] (COk.nil _)
theorem cxByS_t : cxByS.tys = tys := rfl
theorem cxByS_c : cxByS.C = [] := rfl
attribute [local go_sem] cxByS_t cxByS_c
theorem cByteS : Cn Try.prog 92 kByte := by
 refine Cn.len Try.func92 (by kernel_rfl) rfl fun d x hd hx=>?_
 obtain ⟨b,i,h⟩ := x
 obtain ⟨h1,h2,h3,h4⟩ := hx
 simp only [encCur] at h1 h2 h3 h4 ⊢
 have hS : wrapI .add (wrapI .mul h 6364136223846793005) 1442695040888963407 = stepH h := rfl
 have hR : bitAnd .i64 (bitXor .i64 (shR .i64 (stepH h) 33) (shR .i64 (stepH h) 45)) 255 = rawX (stepH h) := rfl
 refine HoldsL.go (c := cxByS) Try.func92 rfl Try.results92 Try.ntmps92 (by omega) (by simp) rfl (by simp <;> omega) (by simp [SV.owns2,SV.owns,SV.owns1]) (by simp) rfl rfl (by simp) ?_
 intro X0 M w0
 by_cases hlt : i < b.length
 ·obtain ⟨n,rfl⟩ : ∃ n : Nat,i = n := ⟨i.toNat,by omega⟩
  have hn : n < b.length:=by omega
  have hr := rowAt_map encU b n hn
  have hz := h2 _ (List.getElem_mem hn)
  have hx : 0 ≤ rawX (stepH h) ∧ rawX (stepH h) ≤ 255 := and255 (bitXor .i64 (shR .i64 (stepH h) 33) (shR .i64 (stepH h) 45))
  have hc : byteC ⟨b,n,h⟩ = ⟨b,n + 1,stepH h⟩:=by unfold byteC; rw [if_pos hlt]
  have hv : byteV ⟨b,n,h⟩ = bitAnd .i64 (rawX (stepH h) + b[n]) 255 := by
   unfold byteV
   rw [if_pos hlt,Int.toNat_natCast,List.getD_eq_getElem?_getD,List.getElem?_eq_getElem hn]; rfl
  rw [hc,hv]
  (repeat' (first|apply zS|apply zB|((first|refine WP.regionWr (id := 1) ?_); simp only [go_sem,hlt,hr,encU,hS,hR])|((first|apply zR|apply zC|apply zT|apply zE|apply zK| refine zD 12 (by decide +kernel) (by kernel_rfl) ?_|refine zD 10 (by decide +kernel) (by kernel_rfl) ?_|refine zD 14 (by decide +kernel) (by kernel_rfl) ?_); simp only [go_sem,hlt,hr,encU,hS,hR])|apply And.intro|intro _))
  all_goals first|omega|skip
 ·have hc : byteC ⟨b,i,h⟩ = ⟨b,i,stepH h⟩:=by unfold byteC; rw [if_neg hlt]
  have hv : byteV ⟨b,i,h⟩ = rawX (stepH h):=by unfold byteV; rw [if_neg hlt]
  rw [hc,hv]
  (repeat' (first|apply zS|apply zB|((first|refine WP.regionWr (id := 1) ?_); simp only [go_sem,hlt,hS,hR])|((first|apply zR|apply zC|apply zT|apply zE|apply zK| refine zD 12 (by decide +kernel) (by kernel_rfl) ?_|refine zD 10 (by decide +kernel) (by kernel_rfl) ?_|refine zD 14 (by decide +kernel) (by kernel_rfl) ?_); simp only [go_sem,hlt,hS,hR])|apply And.intro|intro _))
  all_goals first|omega|skip
end
def kBelow : Ctr := len [0] [] (fun args obs=>(decCur (oC obs 1000000),aI args 1)) (fun x=>[.ptr 1000000 0 0 0,.v (.int .i64 x.2)]) (fun x=>[(1000000,.box 104 (encCur x.1))]) (fun x=>CurOk x.1 ∧ x.2 ≤ 256)
 (fun _ x=>.v (.int .i64 (belowV x.1 x.2))) (fun _ _=>[]) (fun x=>[(1000000,.box 104 (encCur (belowC x.1 x.2)))])
section
noncomputable def cxBeS := mkX [(92,kByte)] (COk.cons cByteS (COk.nil _))
theorem cxBeS_t : cxBeS.tys = tys := rfl
theorem cxBeS_c : cxBeS.C = [(92,kByte)] := rfl
attribute [local go_sem] cxBeS_t cxBeS_c kByte
attribute [local go_sem] encCur
theorem cBelowS : Cn Try.prog 57 kBelow := by
 refine Cn.len Try.func57 (by kernel_rfl) rfl fun d x hd hx=>?_
 obtain ⟨⟨b,i,h⟩,n⟩ := x
 obtain ⟨h1,h2⟩ := hx
 simp only [encCur] at h1 h2 ⊢
 refine HoldsL.go (c := cxBeS) Try.func57 rfl Try.results57 Try.ntmps57 (by omega) (by simp) rfl (by simp <;> omega) (by simp [SV.owns2,SV.owns,SV.owns1]) (by simp) rfl rfl (by simp) ?_
 intro X0 M w0
 by_cases hn : n ≤ 0
 ·have e1 : belowV ⟨b,i,h⟩ n = 0 := if_pos hn
  have e2 : belowC ⟨b,i,h⟩ n = ⟨b,i,h⟩ := if_pos hn
  rw [e1,e2]
  (repeat' (first|apply zS|apply zB|((first|apply zR|apply zC|apply zT|apply zE|apply zK);simp only [go_sem,hn])|apply And.intro|intro _))
  all_goals first|omega|skip
 ·have e1 : belowV ⟨b,i,h⟩ n = (byteV ⟨b,i,h⟩).tmod n := if_neg hn
  have e2 : belowC ⟨b,i,h⟩ n = byteC ⟨b,i,h⟩ := if_neg hn
  rw [e1,e2]
  (repeat' (first|apply zS|apply zB|((first|apply zR|apply zC|apply zT|apply zE|apply zK);simp only [go_sem,hn,h2])|apply And.intro|intro _))
  all_goals first|omega|exact h1|skip
end
def kPickI : Ctr := len [0] [1] (fun args obs=>(decCur (oC obs 1000000),decI (oR obs 900000))) (fun x=>[.ptr 1000000 0 0 0,.own 900000]) (fun x=>[(1000000,.box 104 (encCur x.1)),(900000,.sl 3 1 (x.2.map encI))]) (fun x=>CurOk x.1 ∧ x.2.length ≤ 256 ∧ 0 < x.2.length)
 (fun _ x=>.v (.int .i64 (x.2.getD (belowV x.1 x.2.length).toNat 0))) (fun _ _=>[]) (fun x=>[(1000000,.box 104 (encCur (belowC x.1 x.2.length)))])
section
noncomputable def cxPiS := mkX [(57,kBelow)] (COk.cons cBelowS (COk.nil _))
theorem cxPiS_t : cxPiS.tys = tys := rfl
theorem cxPiS_c : cxPiS.C = [(57,kBelow)] := rfl
attribute [local go_sem] cxPiS_t cxPiS_c kBelow
attribute [local go_sem] encCur
theorem cPickIS : Cn Try.prog 114 kPickI := by
 refine Cn.len Try.func114 (by kernel_rfl) rfl fun d x hd hx=>?_
 obtain ⟨⟨b,i,h⟩,L⟩ := x
 obtain ⟨h1,h2,h3⟩ := hx
 simp only [encCur] at h1 h2 h3 ⊢
 refine HoldsL.go (c := cxPiS) Try.func114 rfl Try.results114 Try.ntmps114 (by omega) (by simp) rfl (by simp <;> omega) (by simp [SV.owns2,SV.owns,SV.owns1]) (by simp) rfl rfl (by simp) ?_
 intro X0 M w0
 have hb := belowV_bd ⟨b,i,h⟩ (n := L.length) (by omega)
 obtain ⟨q,hq⟩ : ∃ q : Nat,belowV ⟨b,i,h⟩ L.length = q := ⟨_,(Int.toNat_of_nonneg hb.1).symm⟩
 have hql : q < L.length:=by omega
 have hr := rowAt_map encI L q hql
 have hg : L.getD q 0 = L[q]:=by rw [List.getD_eq_getElem?_getD,List.getElem?_eq_getElem hql]; rfl
 have hqi : (q : Int) < L.length:=by omega
 rw [hq,Int.toNat_natCast,hg]
 (repeat' (first|apply zS|apply zB|((first|apply zR|apply zC|apply zT|apply zE|apply zK);simp only [go_sem,hq,hr,encI,hqi])|apply And.intro|intro _))
 all_goals first|omega|exact h1|skip
end
theorem cur_eta (c : Cur) : (⟨c.b,c.i,c.h⟩ : Cur) = c := rfl
section
attribute [local go_sem] kBelow
attribute [local go_sem] cur_eta
end
end Go.Proofs.Ytjjbcoigaejoaaa

namespace Go.Proofs.Ytjjbcoigaejoaaa
end Go.Proofs.Ytjjbcoigaejoaaa

namespace Go.Proofs.Ytjjbcoigaejoaaa
open Go.Vc
attribute [local irreducible] Go.Vc.WP
attribute [local go_sem] cx0_t cx0_c
section
end
end Go.Proofs.Ytjjbcoigaejoaaa

namespace Go.Proofs.Ytjjbcoigaejoaaa
open Go.Vc
attribute [local irreducible] Go.Vc.WP
attribute [local go_sem] cx0_t cx0_c
attribute [local go_sem] decS_enc
section
end
section
end
section
end
end Go.Proofs.Ytjjbcoigaejoaaa

namespace Go.Proofs.Ytjjbcoigaejoaaa
open Go.Vc
attribute [local go_sem] St.runR St.runW St.stepV offV St.step St.stepU St.stepG mkCond guardB St.prK St.pr St.prLen St.eff St.callE St.callD St.callF St.callL aI aS aR aC St.isM St.argL Ctr.pure Ctr.lend Ctr.move Ctr.isL Ctr.wri pur len lentBy St.lentV St.lent1 nthS argsR restOf obsR pairs swapL unObs backL St.resL erL SV.ren1 SV.up SV.up2 Ob.up St.fzL cellIds partIds St.intoRow SV.ownId St.fz SV.fz1 St.prep St.mvL St.mv SV.re1 rnOk St.prEq vals eqCells scEq Value.kd St.prStr St.prCut cutR St.bnd St.prMin St.bld isShift outL retL outJ oR oC oD SV.upq SV.isSl SV.shut St.deepK St.dpArg St.deepQ absC Ob.pl St.ev St.get St.put St.new St.kill SV.kill SV.kill1 Ob.kill St.app St.wrt St.rowsOf St.res St.killL lk er argsL SV.strip SV.need SV.share SV.share1 SV.owns SV.owns1 SV.owns2 SV.good SV.good1 SV.rok SV.rok1 SV.rok2 SV.isV SV.isV2 nodupN SV.cells SV.one SV.pur Ob.pb partsIn rowsIn splice cellsAt dstOk scal2 scal1 thenK blockK retK outK outs okC okL okA okT nilC nilL nilA nilT keepC keepL keepA keepT St.runG St.dltK St.least St.clean St.final St.hide offK badS badO SV.refs SV.leaf SV.leaf2 Ob.refs dlOk fpAt Go.Vc.cover tups SV.ofAgg St.out outC subL St.has rng wr Value.oneCell' Option.isSome_some Option.isSome_none List.nil_append Bool.false_eq_true List.map_cons List.map_nil List.all_cons List.all_nil List.length_cons List.length_nil List.drop_zero List.drop_succ_cons List.take_succ_cons List.take_zero List.drop_nil List.take_nil List.getElem?_cons_zero List.getElem?_cons_succ List.getElem?_nil List.cons_append List.nil_append List.append_nil List.append_assoc List.flatMap_cons List.flatMap_nil List.contains_cons List.contains_nil List.set_cons_zero List.set_cons_succ List.getElem?_toArray Option.getD_some Option.getD_none Option.map_some Option.map_none Option.bind_some Option.some.injEq Prod.mk.injEq if_true if_false true_and and_true and_self and_false false_and Bool.and_false Bool.false_and Bool.or_true Bool.true_or Bool.or_false Bool.false_or ne_eq not_true_eq_false not_false_eq_true decide_true decide_false List.mem_cons List.not_mem_nil List.filter_cons List.filter_nil List.any_cons List.any_nil List.isEmpty_nil List.isEmpty_cons Option.getD_none or_false false_or true_or or_true forall_eq_or_imp forall_eq reduceCtorEq exists_eq exists_eq' exists_eq_left' exists_eq_left exists_eq_right exists_eq_right' imp_self implies_true Bool.and_true Bool.true_and Bool.and_self beq_self_eq_true List.replicate_succ List.replicate_zero forall_const false_implies pickB_or pickB_and beqT beqF Int.toNat_natCast List.length_map List.length_replicate ge_iff_le gt_iff_lt decide_eq_true_eq decide_eq_false_iff_not Bool.and_eq_true Bool.or_eq_true Bool.not_eq_true' Bool.not_eq_false' condG List.toList_toArray Bool.or_eq_false_iff Bool.and_eq_false_iff Int.not_lt Int.not_le beq_iff_eq beq_eq_false_iff_ne bne_iff_ne bne_eq_false_iff_eq ne_eq Bool.not_true Bool.not_false exists_and_left
section
open Go.Vc
attribute [local irreducible] Go.Vc.WP
attribute [local go_sem] cx0_t cx0_c
structure Tok where
 kind : Int
 num : Int
 name : ByteArray
deriving DecidableEq
def encTok (x : Tok) : List SV := [.v (.int .i64 x.kind),.v (.int .i64 x.num),.v (.string x.name)]
def oneTok : List SV → Tok
 | [.v (.int _ kind),.v (.int _ num),.v (.string name)]=>⟨kind,num,name⟩
 | _=>⟨0,0,⟨#[]⟩⟩
def decTok (rows : List (List SV)) : List Tok := rows.map oneTok
theorem oneTok_enc (x : Tok) : oneTok (encTok x) = x := rfl
theorem decTok_enc (L : List Tok) : decTok (L.map encTok) = L := by
 unfold decTok
 rw [List.map_map]
 exact List.map_id'' oneTok_enc L
section
attribute [local go_sem] oneTok
end
section
attribute [local go_sem] oneTok
end
section
attribute [local go_sem] oneTok
end
section
open Go.RowKit Go.WideShapes Go.ChangeShapes Go.Deep
end
end
end Go.Proofs.Ytjjbcoigaejoaaa
namespace Go.Vc
inductive Gh where
 |dp (id : Nat)
 |opn (id i : Nat)
 |bor (id k j : Nat)
 |borV (id k j : Nat)
 |abs (id k : Nat)
 |fld (id : Nat)
def SV.flat (c : SV) : Bool := match c with
 | .v _=>true
 | .sl _ _=>true
 | _=>false
def St.gh (st : St) (K : St → Prop) : Gh → Prop
 | .dp id=>match lk id st.hp with
  |some (.sl e s rows)=>allVs rows ∧ K (st.wrt id (.dp e s rows))
  |some (.dp e s rows)=>K st
  | _=>False
 | .opn id i=>match lk id st.hp with
  |some (.dp e s rows)=>i < rows.length ∧ K (st.wrt id (.dq e s rows i (rowAt rows i)))
  | _=>False
 | .bor id k j=>match lk id st.hp with
  |some (.dq e s rows i row0)=>match row0[k]? with
   |some (.sl s' rows')=>j < 1000000 ∧ j ≠ id ∧ ∀ e',K { fr := (st.kill j).fr,hp := (j,.dp e' s' rows') :: (id,.dq e s rows i ((row0.map (SV.upq (SV.kill j))).set k (.own j))) :: er id (st.kill j).hp }
   | _=>False
  | _=>False
 | .borV id k j=>match lk id st.hp with
  |some (.dq e s rows i row0)=>match row0[k]? with
   |some (.sl s' rows')=>j < 1000000 ∧ j ≠ id ∧ allVs rows' ∧ ∀ e',K { fr := (st.kill j).fr,hp := (j,.sl e' s' rows') :: (id,.dq e s rows i ((row0.map (SV.upq (SV.kill j))).set k (.own j))) :: er id (st.kill j).hp }
   | _=>False
  | _=>False
 | .abs id k=>match lk id st.hp with
  |some (.dq e s rows i row0)=>match row0[k]? with
   |some (.own j)=>j ≠ id ∧ (match lk j st.hp with
    |some (.sl e' s' rows')=>allVs rows' ∧ K { fr := (st.kill j).fr,hp := (id,.dq e s rows i ((row0.map (SV.upq (SV.kill j))).set k (.sl s' rows'))) :: er id (st.kill j).hp }
    |some (.dp e' s' rows')=>K { fr := (st.kill j).fr,hp := (id,.dq e s rows i ((row0.map (SV.upq (SV.kill j))).set k (.sl s' rows'))) :: er id (st.kill j).hp }
    | _=>False)
   | _=>False
  | _=>False
 | .fld id=>match lk id st.hp with
  |some (.dq e s rows i row0)=>(row0.all SV.flat) = true ∧ K (st.wrt id (.dp e s (rows.set i row0)))
  | _=>False
def St.gho (st : St) (K : St → Prop) : List Gh → Prop
 | []=>K st
 |g :: l=>st.gh (fun st'=>st'.gho K l) g
section
variable {N : Nat} {X0 : Nat → Prop} {M : Nat → BV → Prop} {w0 : World} {st : St} {β : Nat → BV} {a : Act} {w : World}
theorem Sim.reob (h : Sim N X0 M w0 st β a w) {j : Nat} {ob ob' : Ob} (hj : lk j st.hp = some ob) (hob : ObR w (XX X0 β st.hp) β (β j) ob → ObR w (XX X0 β st.hp) β (β j) ob') : Sim N X0 M w0 (st.wrt j ob') β a w :=
 h.write hj rfl rfl rfl (Nat.le_refl _) (fun _ _ _=>rfl) (hob (h.objs j ob hj))
theorem XX_ghost {hp' : List (Nat × Ob)} {β' : Nat → BV} (hft : ∀ id ob b,lk id hp' = some ob → (β' id).ft b → ∃ i o,lk i st.hp = some o ∧ (β i).ft b) {b : Nat} (hb : XX X0 β' hp' b) : XX X0 β st.hp b := by
 rcases hb with hb|⟨id,ob,hi,hb⟩
 ·exact .inl hb
 ·exact .inr (hft id ob b hi hb)
theorem Sim.ghost (h : Sim N X0 M w0 st β a w) {st' : St} {β' : Nat → BV} (hone : ∀ i,(β' i).val.oneCell' = true) (hpin : ∀ i,1000000 ≤ i → (β' i).val = (β i).val)
  (hft : ∀ id ob b,lk id st'.hp = some ob → (β' id).ft b → ∃ i o,lk i st.hp = some o ∧ (β i).ft b)
  (hslots : ∀ t x',lk t st'.fr = some x' → ∃ x,lk t st.fr = some x ∧ ∀ v,R w (XX X0 β' st'.hp) β x v → R w (XX X0 β' st'.hp) β' x' v)
  (hobjs : ∀ id ob,lk id st'.hp = some ob → ObR w (XX X0 β' st'.hp) β' (β' id) ob)
  (hinj : ∀ i j oi oj b,lk i st'.hp = some oi → lk j st'.hp = some oj → (β' i).ft b → (β' j).ft b → i = j) : Sim N X0 M w0 st' β' a w := by
 have hS : Same (XX X0 β st.hp) w w := ⟨Nat.le_refl _,fun _ _ _=>rfl⟩
 exact { h with
  beta := hone
  slots := fun t x hx=>by
   obtain ⟨y,h1,h2⟩ := hslots t x hx
   exact h2 _ ((h.slots t y h1).mono hS (fun b _ hb=>XX_ghost hft hb))
  objs := hobjs
  inj := hinj
  mine := fun id ob b hi hb=>by
   obtain ⟨i,o,h1,h2⟩ := hft id ob b hi hb
   exact h.mine i o b h1 h2
  pin := fun id u hm h1=>by rw [hpin id h1]; exact h.pin id u hm h1 }
theorem Dp.v_foot {x : Value} {v : Value} {F : Nat → Prop} (h : Dp w (.v x) v F) : v = x ∧ ∀ b,¬ F b := by
 cases h with
 |v _ F hF=>exact ⟨rfl,hF⟩
theorem Dp.v_of {c : SV} {v : Value} {F : Nat → Prop} (h : Dp w c v F) (hc : c.isSl = false) : c = .v v ∧ ∀ b,¬ F b := by
 cases h with
 |v _ F hF=>exact ⟨rfl,hF⟩
 |nil=>cases hc
 |sl=>cases hc
theorem ObR.sl_dp {X : Nat → Prop} {v : BV} {e s : Nat} {rows : List (List SV)} (h : ObR w X β v (.sl e s rows)) (hv : allVs rows) : ObR w X β v (.dp e s rows) := by
 cases h with
 |nil e s h=>subst h; exact .dp (.nil s _ (fun b hb=>by cases hb)) (fun b hb=>by cases hb)
 |sl b cap cur us hv' hh h1 h2 h3 h4 h5 h6 h7 =>
  subst hv'
  refine .dp (.sl e b cap cur us (fun _ _ _=>False) _ hh h1 h2 h3 h4 (fun i k q1 q2=>?_) (fun i k q1 q2=>?_) (fun i k row c q1 q2=>?_) (fun _ _ _ hf=>hf.elim) (fun _ _ hf=>hf) (fun _ _ _ _ _ hf=>hf.elim) (fun b'=>?_)) (fun b' hb=>?_)
  ·obtain ⟨row,c,r1,r2⟩ := row_cell h4 q1 q2
   exact h5 i k row c r1 r2
  ·obtain ⟨row,c,r1,r2⟩ := row_cell h4 q1 q2
   exact h6 i k row c r1 r2
  ·obtain ⟨x,rfl⟩ := hv row (List.mem_of_getElem? q1) c (List.mem_of_getElem? q2)
   have := h7 i k row _ q1 q2
   generalize us i k = u at this
   cases this
   exact .v x _ (fun _ hf=>hf)
  ·show blk (.slice (some ⟨b,0,none⟩) rows.length cap) = some b' ↔ _
   simp [blk,eq_comm]
  ·have hb' : some b = some b' := hb
   injection hb' with hb'
   subst hb'
   exact ⟨cur,hh⟩
theorem Dp.dp_sl {X : Nat → Prop} {s : Nat} {rows : List (List SV)} {v : Value} {F : Nat → Prop} (h : Dp w (.sl s rows) v F) (hv : allVs rows) : ∃ e,ObR w X β ⟨v,F⟩ (.sl e s rows) := by
 cases h with
 |nil s F hF=>exact ⟨0,.nil 0 s (by
   unfold nilB plain
   congr 1
   funext b
   exact propext ⟨fun h=>absurd h (hF b),fun h=>by cases h⟩)⟩
 |sl e b cap cur us fs F hh h1 h2 h3 h4 h5 h6 h7 h8 h9 h10 hF =>
  have hempty : ∀ i k b',¬ fs i k b' := fun i k b' hb=>by
   obtain ⟨q1,q2⟩ := h8 i k b' hb
   obtain ⟨row,c,r1,r2⟩ := row_cell h4 q1 q2
   obtain ⟨x,rfl⟩ := hv row (List.mem_of_getElem? r1) c (List.mem_of_getElem? r2)
   exact (h7 i k row _ r1 r2).v_foot.2 b' hb
  refine ⟨e,.sl b cap cur us ?_ hh h1 h2 h3 h4 (fun i k row c r1 r2=>h5 i k (row_lt h4 r1 r2).1 (row_lt h4 r1 r2).2) (fun i k row c r1 r2=>h6 i k (row_lt h4 r1 r2).1 (row_lt h4 r1 r2).2) (fun i k row c r1 r2=>?_)⟩
  ·unfold plain
   congr 1
   funext b'
   refine propext ((hF b').trans ⟨fun h=>?_,fun h=>.inl ?_⟩)
   ·rcases h with rfl|⟨i,k,h⟩
    ·rfl
    ·exact absurd h (hempty i k b')
   ·have hb' : some b = some b' := h
    injection hb' with hb'
    exact hb'.symm
  ·obtain ⟨x,rfl⟩ := hv row (List.mem_of_getElem? r1) c (List.mem_of_getElem? r2)
   have := (h7 i k row _ r1 r2).v_foot.1
   rw [this]
   exact .v x
theorem Dp.dp_ob {X : Nat → Prop} {s : Nat} {rows : List (List SV)} {v : Value} {F : Nat → Prop} (h : Dp w (.sl s rows) v F) : ∃ e,ObR w X β ⟨v,F⟩ (.dp e s rows) := by
 have h0 := h
 cases h with
 |nil s F hF=>exact ⟨0,.dp h0 (fun b hb=>by cases hb)⟩
 |sl e b cap cur us fs F hh=>exact ⟨e,.dp h0 (fun b' hb=>by
   have hb' : some b = some b' := hb
   injection hb' with hb'
   subst hb'
   exact ⟨cur,hh⟩)⟩
theorem ObR.dp_dq {X : Nat → Prop} {v : BV} {e s i : Nat} {rows : List (List SV)} (h : ObR w X β v (.dp e s rows)) (hi : i < rows.length) : ObR w X β v (.dq e s rows i (rowAt rows i)) := by
 cases h with
 |dp hd he =>
  obtain ⟨vv,F⟩ := v
  simp only at hd he
  have hrow : rows[i]? = some (rowAt rows i):=by unfold rowAt; rw [List.getElem?_eq_getElem hi]; rfl
  cases hd with
  |nil=>simp at hi
  |sl e' b cap cur us fs F hh h1 h2 h3 h4 h5 h6 h7 h8 h9 h10 hF =>
   obtain ⟨cur',hcur'⟩ := he b rfl
   rw [hh] at hcur'
   cases hcur'
   refine .dq b cap cur us fs rfl hh h1 h2 h3 hi (h4 i _ hrow) h4 h5 h6 (fun i' k row c _ r1 r2=>h7 i' k row c r1 r2) (fun k c hc=>?_) h8 h9 h10 hF
   have hd := h7 i k _ c hrow hc
   cases hsl : c.isSl with
   |true=>exact .inl ⟨hsl,hd⟩
   |false =>
    obtain ⟨e1,e2⟩ := hd.v_of hsl
    refine .inr ⟨hsl,?_,e2⟩
    rw [e1]; exact .p (.v _)
theorem ObR.dq_dp {X : Nat → Prop} {v : BV} {e s i : Nat} {rows : List (List SV)} {row0 : List SV} (h : ObR w X β v (.dq e s rows i row0)) (hall : row0.all SV.flat = true) : ObR w X β v (.dp e s (rows.set i row0)) := by
 cases h with
 |dq b cap cur us fs hv hh h1 h2 h3 h4 h5 h6 h7 h8 h9 h10 h11 h12 h13 hF =>
  have hlen : ∀ (i' : Nat) (row : List SV),(rows.set i row0)[i']? = some row → row.length = s := fun i' row hr=>by
   rw [List.getElem?_set] at hr
   split at hr
   ·simp only [h4,if_true,Option.some.injEq] at hr
    rw [← hr]; exact h5
   ·exact h6 i' row hr
  refine .dp ?_ (fun b' hb=>?_)
  ·rw [hv]
   have := Dp.sl (w := w) (s := s) (rows := rows.set i row0) e b cap cur us fs v.ft hh (by rw [List.length_set]; exact h1) h2 h3 hlen (fun i' k q1 q2=>h7 i' k (by rwa [List.length_set] at q1) q2) (fun i' k q1 q2=>h8 i' k (by rwa [List.length_set] at q1) q2)
    (fun i' k row c r1 r2=>?_) (fun i' k b' hb=>by rw [List.length_set]; exact h11 i' k b' hb) h12 h13 hF
   ·rw [List.length_set] at this; exact this
   ·rw [List.getElem?_set] at r1
    split at r1
    ·rename_i he
     subst he
     simp only [h4,if_true,Option.some.injEq] at r1
     subst r1
     have hfl := List.all_eq_true.1 hall c (List.mem_of_getElem? r2)
     rcases h10 k c r2 with ⟨_,hd⟩|⟨q1,q2,q3⟩
     ·exact hd
     ·cases c with
      |v x=>have := q2.v_inv; rw [this]; exact .v x _ q3
      |sl _ _=>cases q1
      | _=>cases hfl
    ·rename_i hne
     exact h9 i' k row c (fun e=>hne e.symm) r1 r2
  ·rw [hv] at hb
   have hb' : some b = some b' := hb
   injection hb' with hb'
   subst hb'
   exact ⟨cur,hh⟩
theorem Sim.bor (h : Sim N X0 M w0 st β a w) {id k j e s i s' : Nat} {rows rows' : List (List SV)} {row0 : List SV} (hl : lk id st.hp = some (.dq e s rows i row0)) (hk : row0[k]? = some (.sl s' rows')) (hj : j < 1000000) (hne : j ≠ id)
  {ob : Nat → Ob} (hob : ∀ (X : Nat → Prop) (β : Nat → BV) (v : Value) (F : Nat → Prop),Dp w (.sl s' rows') v F → ∃ e',ObR w X β ⟨v,F⟩ (ob e')) (hobe : ∀ e',(∀ X β β' v,ObR w X β v (ob e') → ObR w X β' v (ob e'))) :
  ∃ e' β',Sim N X0 M w0 { fr := (st.kill j).fr,hp := (j,ob e') :: (id,.dq e s rows i ((row0.map (SV.upq (SV.kill j))).set k (.own j))) :: er id (st.kill j).hp } β' a w := by
 have hO := h.objs id _ hl
 generalize hbv : β id = bv at hO
 cases hO with
 |dq b cap cur us fs hv hh h1 h2 h3 h4 h5 h6 h7 h8 h9 h10 h11 h12 h13 hF =>
  have hks : k < s:=by rw [← h5]; exact (List.getElem?_eq_some_iff.1 hk).1
  have hD : Dp w (.sl s' rows') (us i k) (fs i k) := by
   rcases h10 k _ hk with ⟨_,hd⟩|⟨q,_⟩
   ·exact hd
   ·cases q
  obtain ⟨e',he'⟩ := hob (XX X0 β st.hp) β _ _ hD
  let fs' : Nat → Nat → Nat → Prop := fun i' k' b'=>fs i' k' b' ∧ ¬ (i' = i ∧ k' = k)
  let vid : BV := ⟨bv.val,fun b'=>b' = b ∨ ∃ i' k',fs' i' k' b'⟩
  let β' : Nat → BV := fun q=>if q = j then ⟨us i k,fs i k⟩ else if q = id then vid else β q
  have hβj : β' j = ⟨us i k,fs i k⟩ := if_pos rfl
  have hβid : β' id = vid:=by show (if id = j then _ else if id = id then vid else _) = _; rw [if_neg (fun e=>hne e.symm),if_pos rfl]
  have hβo : ∀ q,q ≠ j → q ≠ id → β' q = β q := fun q h1 h2=>by show (if q = j then _ else if q = id then vid else _) = _; rw [if_neg h1,if_neg h2]
  have hβv : ∀ q,q ≠ j → (β' q).val = (β q).val := fun q hq=>by
   by_cases hid : q = id
   ·rw [hid,hβid,hbv]
   ·rw [hβo q hq hid]
  have hlk : ∀ (t : Nat) (o : Ob),lk t ((j,ob e') :: (id,.dq e s rows i ((row0.map (SV.upq (SV.kill j))).set k (.own j))) :: er id (st.kill j).hp) = some o →
    (t = j ∧ o = ob e') ∨ (t = id ∧ o = .dq e s rows i ((row0.map (SV.upq (SV.kill j))).set k (.own j))) ∨ (t ≠ j ∧ t ≠ id ∧ ∃ o0,lk t st.hp = some o0 ∧ o = o0.kill j) := fun t o ht=>by
   simp only [lk] at ht
   by_cases e1 : t = j
   ·rw [if_pos e1] at ht; cases ht; exact .inl ⟨e1,rfl⟩
   ·rw [if_neg e1] at ht
    by_cases e2 : t = id
    ·rw [if_pos e2] at ht; cases ht; exact .inr (.inl ⟨e2,rfl⟩)
    ·rw [if_neg e2,lk_er_ne e2,lk_kill_ne e1] at ht
     cases hq : lk t st.hp with
     |none=>rw [hq] at ht; cases ht
     |some o0=>rw [hq] at ht; exact .inr (.inr ⟨e1,e2,o0,rfl,by simpa using ht.symm⟩)
  have hftid : ∀ b',vid.ft b' → bv.ft b' := fun b' hb=>(hF b').2 (hb.imp _root_.id fun ⟨i',k',q,_⟩=>⟨i',k',q⟩)
  have hftj : ∀ b',fs i k b' → bv.ft b' := fun b' hb=>(hF b').2 (.inr ⟨i,k,hb⟩)
  have hft : ∀ t o b',lk t ((j,ob e') :: (id,.dq e s rows i ((row0.map (SV.upq (SV.kill j))).set k (.own j))) :: er id (st.kill j).hp) = some o → (β' t).ft b' → ∃ t0 o0,lk t0 st.hp = some o0 ∧ (β t0).ft b' ∧ (t = j ∨ t = id → t0 = id) ∧ (t ≠ j → t0 = t) := fun t o b' ht hb=>by
   rcases hlk t o ht with ⟨rfl,_⟩|⟨rfl,_⟩|⟨n1,n2,o0,q,_⟩
   ·rw [hβj] at hb; exact ⟨id,_,hl,by rw [hbv]; exact hftj b' hb,fun _=>rfl,fun q=>absurd rfl q⟩
   ·rw [hβid] at hb; exact ⟨t,_,hl,by rw [hbv]; exact hftid b' hb,fun _=>rfl,fun _=>rfl⟩
   ·rw [hβo t n1 n2] at hb; exact ⟨t,o0,q,hb,fun q=>by rcases q with q|q <;> contradiction,fun _=>rfl⟩
  have hft1 : ∀ t o b',lk t ((j,ob e') :: (id,.dq e s rows i ((row0.map (SV.upq (SV.kill j))).set k (.own j))) :: er id (st.kill j).hp) = some o → (β' t).ft b' → ∃ t0 o0,lk t0 st.hp = some o0 ∧ (β t0).ft b' := fun t o b' ht hb=>by
   obtain ⟨t0,o0,q1,q2,_⟩ := hft t o b' ht hb
   exact ⟨t0,o0,q1,q2⟩
  have hS : Same (XX X0 β st.hp) w w := ⟨Nat.le_refl _,fun _ _ _=>rfl⟩
  refine ⟨e',β',h.ghost (fun q=>?_) (fun q hq=>hβv q (by omega)) hft1 (fun t x' hx=>?_) (fun t o ht=>?_) (fun p q op oq b' hp hq hbp hbq=>?_)⟩
  ·by_cases hq : q = j
   ·rw [hq,hβj]; exact h8 i k h4 hks
   ·rw [hβv q hq]; exact h.beta q
  ·simp only [St.kill,lk_map] at hx
   cases hy : lk t st.fr with
   |none=>rw [hy] at hx; cases hx
   |some y =>
    rw [hy] at hx
    have hx' : y.kill j = x':=by simpa using hx
    subst hx'
    exact ⟨y,rfl,fun v hR=>hR.kill hβv⟩
  ·rcases hlk t o ht with ⟨rfl,rfl⟩|⟨rfl,rfl⟩|⟨n1,n2,o0,q,rfl⟩
   ·rw [hβj]
    exact hobe e' _ _ _ _ (he'.mono hS (fun b' _ hb=>XX_ghost hft1 hb) (fun _ _=>rfl))
   ·rw [hβid]
    refine .dq b cap cur us fs' hv hh h1 h2 h3 h4 (by simp [h5]) h6 h7 h8 (fun i' k' row c q0 r1 r2=>(h9 i' k' row c q0 r1 r2).ext fun b'=>⟨fun g=>g.1,fun g=>⟨g,fun g2=>q0 g2.1⟩⟩) (fun k' c hc=>?_) (fun i' k' b' g=>h11 i' k' b' g.1) (fun i' k' g=>h12 i' k' g.1) (fun i1 k1 i2 k2 b' g1 g2=>h13 i1 k1 i2 k2 b' g1.1 g2.1) (fun b'=>Iff.rfl)
    rw [List.getElem?_set] at hc
    split at hc
    ·rename_i hkk
     subst hkk
     simp only [List.length_map,h5,hks,if_true,Option.some.injEq] at hc
     subst hc
     have hR := R.own (w := w) (X := XX X0 β' ((j,ob e') :: (t,.dq e s rows i ((row0.map (SV.upq (SV.kill j))).set k (.own j))) :: er t (st.kill j).hp)) (β := β') j
     rw [hβj] at hR
     exact .inr ⟨rfl,hR,fun b' g=>g.2 ⟨rfl,rfl⟩⟩
    ·rename_i hkk
     obtain ⟨c0,hc0,rfl⟩ := map_get hc
     have hex : ∀ b',fs' i k' b' ↔ fs i k' b' := fun b'=>⟨fun g=>g.1,fun g=>⟨g,fun g2=>hkk g2.2.symm⟩⟩
     have h0 : DqC w (XX X0 β' ((j,ob e') :: (t,.dq e s rows i ((row0.map (SV.upq (SV.kill j))).set k (.own j))) :: er t (st.kill j).hp)) β' (c0.upq (SV.kill j)) (us i k') (fs i k') :=
      (h10 k' c0 hc0).upq fun hR=>R.kill hβv (hR.mono (X' := XX X0 β' ((j,ob e') :: (t,.dq e s rows i ((row0.map (SV.upq (SV.kill j))).set k (.own j))) :: er t (st.kill j).hp)) hS (fun b' _ hb=>XX_ghost hft1 hb))
     rcases h0 with ⟨g1,g2⟩|⟨g1,g2,g3⟩
     ·exact .inl ⟨g1,g2.ext hex⟩
     ·exact .inr ⟨g1,g2,fun b' g=>g3 b' ((hex b').1 g)⟩
   ·rw [hβo t n1 n2]
    exact ((h.objs t o0 q).mono hS (fun b' _ hb=>XX_ghost hft1 hb) (fun _ _=>rfl)).kill hβv
  ·obtain ⟨t1,o1,q1,q2,q3,q4⟩ := hft p op b' hp hbp
   obtain ⟨t2,o2,r1,r2,r3,r4⟩ := hft q oq b' hq hbq
   have := h.inj t1 t2 o1 o2 b' q1 r1 q2 r2
   subst this
   by_cases p1 : p = j <;> by_cases p2 : q = j
   ·rw [p1,p2]
   ·exfalso
    have := r4 p2
    have := q3 (.inl p1)
    have hqi : q = id:=by omega
    rw [p1,hβj] at hbp
    rw [hqi,hβid] at hbq
    have hbp : fs i k b' := hbp
    rcases hbq with g|⟨i',k',g,g2⟩
    ·exact h12 i k (g ▸ hbp)
    ·exact g2 (h13 i' k' i k b' g hbp)
   ·exfalso
    have := q4 p1
    have := r3 (.inl p2)
    have hpi : p = id:=by omega
    rw [p2,hβj] at hbq
    rw [hpi,hβid] at hbp
    have hbq : fs i k b' := hbq
    rcases hbp with g|⟨i',k',g,g2⟩
    ·exact h12 i k (g ▸ hbq)
    ·exact g2 (h13 i' k' i k b' g hbq)
   ·have := q4 p1
    have := r4 p2
    omega
theorem Sim.absb (h : Sim N X0 M w0 st β a w) {id k j e s i s' : Nat} {rows rows' : List (List SV)} {row0 : List SV} {oj : Ob} (hl : lk id st.hp = some (.dq e s rows i row0)) (hk : row0[k]? = some (.own j)) (hne : j ≠ id)
  (hoj : lk j st.hp = some oj) (hob : ObR w (XX X0 β st.hp) β (β j) oj → Dp w (.sl s' rows') (β j).val (β j).ft) :
  ∃ β',Sim N X0 M w0 { fr := (st.kill j).fr,hp := (id,.dq e s rows i ((row0.map (SV.upq (SV.kill j))).set k (.sl s' rows'))) :: er id (st.kill j).hp } β' a w := by
 have hO := h.objs id _ hl
 have hD := hob (h.objs j oj hoj)
 have hdisj : ∀ b',(β j).ft b' → ¬ (β id).ft b' := fun b' g1 g2=>hne (h.inj j id oj _ b' hoj hl g1 g2)
 generalize hbv : β id = bv at hO hdisj
 cases hO with
 |dq b cap cur us fs hv hh h1 h2 h3 h4 h5 h6 h7 h8 h9 h10 h11 h12 h13 hF =>
  have hks : k < s:=by rw [← h5]; exact (List.getElem?_eq_some_iff.1 hk).1
  have hR0 : us i k = (β j).val ∧ ∀ b',¬ fs i k b' := by
   rcases h10 k _ hk with ⟨q,_⟩|⟨_,hR,g⟩
   ·cases q
   ·exact ⟨hR.own_inv,g⟩
  let fs' : Nat → Nat → Nat → Prop := fun i' k' b'=>if i' = i ∧ k' = k then (β j).ft b' else fs i' k' b'
  have hfs1 : ∀ b',fs' i k b' ↔ (β j).ft b' := fun b'=>by show (if i = i ∧ k = k then _ else _) ↔ _; rw [if_pos ⟨rfl,rfl⟩]
  have hfs2 : ∀ i' k' b',¬ (i' = i ∧ k' = k) → (fs' i' k' b' ↔ fs i' k' b') := fun i' k' b' hn=>by show (if i' = i ∧ k' = k then _ else _) ↔ _; rw [if_neg hn]
  let vid : BV := ⟨bv.val,fun b'=>b' = b ∨ ∃ i' k',fs' i' k' b'⟩
  let β' : Nat → BV := fun q=>if q = id then vid else β q
  have hβid : β' id = vid := if_pos rfl
  have hβo : ∀ q,q ≠ id → β' q = β q := fun q h2=>if_neg h2
  have hβv : ∀ q,(β' q).val = (β q).val := fun q=>by
   by_cases hid : q = id
   ·rw [hid,hβid,hbv]
   ·rw [hβo q hid]
  have hlk : ∀ (t : Nat) (o : Ob),lk t ((id,.dq e s rows i ((row0.map (SV.upq (SV.kill j))).set k (.sl s' rows'))) :: er id (st.kill j).hp) = some o →
    (t = id ∧ o = .dq e s rows i ((row0.map (SV.upq (SV.kill j))).set k (.sl s' rows'))) ∨ (t ≠ j ∧ t ≠ id ∧ ∃ o0,lk t st.hp = some o0 ∧ o = o0.kill j) := fun t o ht=>by
   simp only [lk] at ht
   by_cases e2 : t = id
   ·rw [if_pos e2] at ht; cases ht; exact .inl ⟨e2,rfl⟩
   ·rw [if_neg e2,lk_er_ne e2] at ht
    by_cases e1 : t = j
    ·subst e1; rw [lk_kill] at ht; cases ht
    ·rw [lk_kill_ne e1] at ht
     cases hq : lk t st.hp with
     |none=>rw [hq] at ht; cases ht
     |some o0=>rw [hq] at ht; exact .inr ⟨e1,e2,o0,rfl,by simpa using ht.symm⟩
  have hvid : ∀ b',vid.ft b' → bv.ft b' ∨ (β j).ft b' := fun b' hb=>by
   rcases hb with g|⟨i',k',g⟩
   ·exact .inl ((hF b').2 (.inl g))
   ·by_cases hik : i' = i ∧ k' = k
    ·obtain ⟨rfl,rfl⟩ := hik; exact .inr ((hfs1 b').1 g)
    ·exact .inl ((hF b').2 (.inr ⟨i',k',(hfs2 i' k' b' hik).1 g⟩))
  have hft : ∀ t o b',lk t ((id,.dq e s rows i ((row0.map (SV.upq (SV.kill j))).set k (.sl s' rows'))) :: er id (st.kill j).hp) = some o → (β' t).ft b' → ∃ t0 o0,lk t0 st.hp = some o0 ∧ (β t0).ft b' ∧ (t ≠ id → t0 = t) ∧ (t = id → t0 = id ∨ t0 = j) := fun t o b' ht hb=>by
   rcases hlk t o ht with ⟨rfl,_⟩|⟨n1,n2,o0,q,_⟩
   ·rw [hβid] at hb
    rcases hvid b' hb with g|g
    ·exact ⟨t,_,hl,by rw [hbv]; exact g,fun q=>absurd rfl q,fun _=>.inl rfl⟩
    ·exact ⟨j,_,hoj,g,fun q=>absurd rfl q,fun _=>.inr rfl⟩
   ·rw [hβo t n2] at hb; exact ⟨t,o0,q,hb,fun _=>rfl,fun q=>absurd q n2⟩
  have hft1 : ∀ t o b',lk t ((id,.dq e s rows i ((row0.map (SV.upq (SV.kill j))).set k (.sl s' rows'))) :: er id (st.kill j).hp) = some o → (β' t).ft b' → ∃ t0 o0,lk t0 st.hp = some o0 ∧ (β t0).ft b' := fun t o b' ht hb=>by
   obtain ⟨t0,o0,q1,q2,_⟩ := hft t o b' ht hb
   exact ⟨t0,o0,q1,q2⟩
  have hS : Same (XX X0 β st.hp) w w := ⟨Nat.le_refl _,fun _ _ _=>rfl⟩
  refine ⟨β',h.ghost (fun q=>by rw [hβv]; exact h.beta q) (fun q _=>hβv q) hft1 (fun t x' hx=>?_) (fun t o ht=>?_) (fun p q op oq b' hp hq hbp hbq=>?_)⟩
  ·simp only [St.kill,lk_map] at hx
   cases hy : lk t st.fr with
   |none=>rw [hy] at hx; cases hx
   |some y =>
    rw [hy] at hx
    have hx' : y.kill j = x':=by simpa using hx
    subst hx'
    exact ⟨y,rfl,fun v hR=>hR.kill fun q _=>hβv q⟩
  ·rcases hlk t o ht with ⟨rfl,rfl⟩|⟨n1,n2,o0,q,rfl⟩
   ·rw [hβid]
    refine .dq b cap cur us fs' hv hh h1 h2 h3 h4 (by simp [h5]) h6 h7 h8 (fun i' k' row c q0 r1 r2=>(h9 i' k' row c q0 r1 r2).ext fun b'=>hfs2 i' k' b' (fun g=>q0 g.1)) (fun k' c hc=>?_) (fun i' k' b' g=>?_) (fun i' k' g=>?_) (fun i1 k1 i2 k2 b' g1 g2=>?_) (fun b'=>Iff.rfl)
    ·rw [List.getElem?_set] at hc
     split at hc
     ·rename_i hkk
      subst hkk
      simp only [List.length_map,h5,hks,if_true,Option.some.injEq] at hc
      subst hc
      refine .inl ⟨rfl,?_⟩
      rw [hR0.1]
      exact hD.ext hfs1
     ·rename_i hkk
      obtain ⟨c0,hc0,rfl⟩ := map_get hc
      have hex : ∀ b',fs' i k' b' ↔ fs i k' b' := fun b'=>hfs2 i k' b' (fun g2=>hkk g2.2.symm)
      have h0 := (h10 k' c0 hc0).upq (f := SV.kill j) (X' := XX X0 β' ((t,.dq e s rows i ((row0.map (SV.upq (SV.kill j))).set k (.sl s' rows'))) :: er t (st.kill j).hp)) (β' := β') fun hR=>R.kill (fun q _=>hβv q) (hR.mono (X' := XX X0 β' ((t,.dq e s rows i ((row0.map (SV.upq (SV.kill j))).set k (.sl s' rows'))) :: er t (st.kill j).hp)) hS (fun b' _ hb=>XX_ghost hft1 hb))
      rcases h0 with ⟨g1,g2⟩|⟨g1,g2,g3⟩
      ·exact .inl ⟨g1,g2.ext hex⟩
      ·exact .inr ⟨g1,g2,fun b' g=>g3 b' ((hex b').1 g)⟩
    ·by_cases hik : i' = i ∧ k' = k
     ·obtain ⟨rfl,rfl⟩ := hik; exact ⟨h4,hks⟩
     ·exact h11 i' k' b' ((hfs2 i' k' b' hik).1 g)
    ·by_cases hik : i' = i ∧ k' = k
     ·obtain ⟨rfl,rfl⟩ := hik
      exact hdisj b ((hfs1 b).1 g) ((hF b).2 (.inl rfl))
     ·exact h12 i' k' ((hfs2 i' k' b hik).1 g)
    ·by_cases hik1 : i1 = i ∧ k1 = k <;> by_cases hik2 : i2 = i ∧ k2 = k
     ·exact ⟨hik1.1.trans hik2.1.symm,hik1.2.trans hik2.2.symm⟩
     ·obtain ⟨rfl,rfl⟩ := hik1
      exact absurd ((hF b').2 (.inr ⟨i2,k2,(hfs2 i2 k2 b' hik2).1 g2⟩)) (hdisj b' ((hfs1 b').1 g1))
     ·obtain ⟨rfl,rfl⟩ := hik2
      exact absurd ((hF b').2 (.inr ⟨i1,k1,(hfs2 i1 k1 b' hik1).1 g1⟩)) (hdisj b' ((hfs1 b').1 g2))
     ·exact h13 i1 k1 i2 k2 b' ((hfs2 i1 k1 b' hik1).1 g1) ((hfs2 i2 k2 b' hik2).1 g2)
   ·rw [hβo t n2]
    exact ((h.objs t o0 q).mono hS (fun b' _ hb=>XX_ghost hft1 hb) (fun _ _=>rfl)).kill fun q _=>hβv q
  ·obtain ⟨t1,o1,q1,q2,q3,q4⟩ := hft p op b' hp hbp
   obtain ⟨t2,o2,r1,r2,r3,r4⟩ := hft q oq b' hq hbq
   have := h.inj t1 t2 o1 o2 b' q1 r1 q2 r2
   subst this
   have nj : ∀ {t o},lk t ((id,.dq e s rows i ((row0.map (SV.upq (SV.kill j))).set k (.sl s' rows'))) :: er id (st.kill j).hp) = some o → t ≠ j := fun {t o} ht=>by
    rcases hlk t o ht with ⟨rfl,_⟩|⟨n1,_⟩
    ·exact fun e=>hne e.symm
    ·exact n1
   have n1 := nj hp
   have n2 := nj hq
   by_cases p1 : p = id <;> by_cases p2 : q = id
   ·rw [p1,p2]
   ·have := r3 p2
    rcases q4 p1 with g|g <;> omega
   ·have := q3 p1
    rcases r4 p2 with g|g <;> omega
   ·have := q3 p1
    have := r3 p2
    omega
theorem Sim.gh (h : Sim N X0 M w0 st β a w) {K : St → Prop} {g : Gh} (hK : st.gh K g) : ∃ st' β',K st' ∧ Sim N X0 M w0 st' β' a w := by
 cases g with
 |dp id =>
  simp only [St.gh] at hK
  split at hK
  ·rename_i e s rows hl; exact ⟨_,β,hK.2,h.reob hl fun hO=>hO.sl_dp hK.1⟩
  ·exact ⟨st,β,hK,h⟩
  ·exact hK.elim
 |opn id i =>
  simp only [St.gh] at hK
  split at hK
  ·rename_i e s rows hl; exact ⟨_,β,hK.2,h.reob hl fun hO=>hO.dp_dq hK.1⟩
  ·exact hK.elim
 |bor id k j =>
  simp only [St.gh] at hK
  split at hK
  ·rename_i e s rows i row0 hl
   split at hK
   ·rename_i s' rows' hk
    obtain ⟨e',β',h'⟩ := h.bor hl hk hK.1 hK.2.1 (ob := fun e'=>.dp e' s' rows') (fun X β v F hD=>hD.dp_ob) (fun e' X β β' v hO=>by cases hO with|dp hd he=>exact .dp hd he)
    exact ⟨_,β',hK.2.2 e',h'⟩
   ·exact hK.elim
  ·exact hK.elim
 |borV id k j =>
  simp only [St.gh] at hK
  split at hK
  ·rename_i e s rows i row0 hl
   split at hK
   ·rename_i s' rows' hk
    obtain ⟨e',β',h'⟩ := h.bor hl hk hK.1 hK.2.1 (ob := fun e'=>.sl e' s' rows') (fun X β v F hD=>hD.dp_sl hK.2.2.1) (fun e' X β β' v hO=>hO.sl_beta)
    exact ⟨_,β',hK.2.2.2 e',h'⟩
   ·exact hK.elim
  ·exact hK.elim
 |abs id k =>
  simp only [St.gh] at hK
  split at hK
  ·rename_i e s rows i row0 hl
   split at hK
   ·rename_i j hk
    obtain ⟨hne,hK⟩ := hK
    split at hK
    ·rename_i e' s' rows' hj
     obtain ⟨β',h'⟩ := h.absb hl hk hne hj (s' := s') (rows' := rows') (fun hO=>by
      have := hO.sl_dp hK.1
      cases this with
      |dp hd he=>exact hd)
     exact ⟨_,β',hK.2,h'⟩
    ·rename_i e' s' rows' hj
     obtain ⟨β',h'⟩ := h.absb hl hk hne hj (s' := s') (rows' := rows') (fun hO=>by
      cases hO with
      |dp hd he=>exact hd)
     exact ⟨_,β',hK,h'⟩
    ·exact hK.elim
   ·exact hK.elim
  ·exact hK.elim
 |fld id =>
  simp only [St.gh] at hK
  split at hK
  ·rename_i e s rows i row0 hl; exact ⟨_,β,hK.2,h.reob hl fun hO=>hO.dq_dp hK.1⟩
  ·exact hK.elim
theorem Sim.gho {a : Act} {w : World} {K : St → Prop} : ∀ {l : List Gh} {st : St} {β : Nat → BV},Sim N X0 M w0 st β a w → st.gho K l → ∃ st' β',K st' ∧ Sim N X0 M w0 st' β' a w
 | [],st,β,h,hK=>⟨st,β,hK,h⟩
 |g :: l,st,β,h,hK=>by
  obtain ⟨st1,β1,h1,h2⟩ := h.gh (g := g) hK
  exact Sim.gho h2 h1
end
section
variable {c : Cx} {N : Nat} {X0 : Nat → Prop} {M : Nat → BV → Prop} {w0 : World} {st : St} {K : Exit → St → Prop}
theorem zG (l : List Gh) {code : Code} (h : st.gho (fun st'=>WP c N X0 M w0 code st' K) l) : WP c N X0 M w0 code st K := fun hA β a w hs=>by
 obtain ⟨st',β',h1,h2⟩ := hs.gho h
 exact h1 hA β' a w h2
def ghoK (l : List Gh) (K : Exit → St → Prop) : Exit → St → Prop
 | .normal,st=>st.gho (K .normal) l
 |e,st=>K e st
theorem zO (l : List Gh) {code : Code} (h : WP c N X0 M w0 code st (ghoK l K)) : WP c N X0 M w0 code st K := fun hA β a w hs =>
 Code.wp_mono (fun e a' w' hq=>by
  cases e with
  |normal =>
   obtain ⟨st',β',h1,h2⟩ := hq
   obtain ⟨st2,β2,h3,h4⟩ := h2.gho h1
   exact ⟨st2,β2,h3,h4⟩
  | _=>exact hq) (h hA β a w hs)
end
theorem Holds.frozenD {P : Program} {f : FuncId} {args : List SV} {d e s : Nat} {rows : List (List SV)} (h : Holds P f args (.own d) [(d,.dp e s rows)]) : Holds P f args (.sl s rows) [] := by
 intro w X vs hG hX hl ha
 refine (h w X vs hG hX hl ha).mono fun en w' ⟨v,β,he,hb,hβ,hR,hO,hn⟩=>?_
 refine ⟨v,β,he,hb,hβ,?_,⟨fun id ob hi=>(by cases hi),fun i j oi oj b hi=>(by cases hi)⟩,fun id ob b hi=>(by cases hi)⟩
 have := hR.own_inv; subst this
 refine .p ((hO.1 d (.dp e s rows) (by simp [lk])).rd rfl (fun b hb' hx=>?_) (fun b hx=>?_))
 ·have h1 := hn d (.dp e s rows) b (by simp [lk]) hb'
  rcases hx with hx|⟨i,o,hi,_⟩
  ·have := hX b hx; omega
  ·cases hi
 ·rcases hx with hx|⟨i,o,hi,_⟩
  ·exact .inl hx
  ·cases hi
end Go.Vc

namespace Go.Vc
def allV (rows : List (List SV)) : Prop := ∀ row ∈ rows,∀ c ∈ row,∃ x,c = .v x
theorem ObR.toSl {w : World} {X X' : Nat → Prop} {β : Nat → BV} {v : BV} {e s : Nat} {rows : List (List SV)} (h : ObR w X' β v (.sl e s rows)) (hX : ∀ b,v.ft b → ¬ X b) (hv : allV rows) : Rp w X (.sl s rows) v.val := by
 cases h with
 |nil e s h=>subst h; exact .nil s _ _
 |sl b cap cur us hv' hh h1 h2 h3 h4 h5 h6 h7 =>
  subst hv'
  refine .sl b 0 cap us (hX b rfl) (lt_of_heap hh) h1 h4 (fun i k row c hr hc=>?_) h6 (fun i k row c hr hc=>?_)
  ·simp only [World.cell?,hh,Nat.zero_add]
   exact h5 i k row c hr hc
  ·obtain ⟨x,rfl⟩ := hv row (List.mem_of_getElem? hr) c (List.mem_of_getElem? hc)
   have := h7 i k row _ hr hc
   cases this
   exact .v _
section
variable {P : Program} {f : FuncId} {args : List SV} {d e s : Nat} {rows : List (List SV)}
theorem Holds.frozen (h : Holds P f args (.own d) [(d,.sl e s rows)]) (hv : allV rows) : Holds P f args (.sl s rows) [] := by
 intro w X vs hG hX hl ha
 refine (h w X vs hG hX hl ha).mono fun en w' ⟨v,β,he,hb,hβ,hR,hO,hn⟩=>?_
 refine ⟨v,β,he,hb,hβ,?_,⟨fun id ob hi=>(by cases hi),fun i j oi oj b hi=>(by cases hi)⟩,fun id ob b hi=>(by cases hi)⟩
 have := hR.own_inv; subst this
 refine .p ((hO.1 d (.sl e s rows) (by simp [lk])).toSl (fun b hb' hx=>?_) hv)
 have h1 := hn d (.sl e s rows) b (by simp [lk]) hb'
 rcases hx with hx|⟨i,o,hi,_⟩
 ·have := hX b hx; omega
 ·cases hi
end
theorem Cn.frozen {P : Program} {f : FuncId} {X : Type} {dec : List SV → X} {A : X → List SV} {pre : X → Prop} {e s : Nat} {rows : X → List (List SV)} (hv : ∀ x,allV (rows x))
  (h : Cn P f (Go.Vc.pur dec A pre (fun d _=>.own d) (fun d x=>[(d,.sl e s (rows x))]))) : Cn P f (Go.Vc.pur dec A pre (fun _ x=>.sl s (rows x)) (fun _ _=>[])) :=
 ⟨h.call,fun d args ha=>(h.holds d args ha).frozen (hv _),fun _ _ _ h=>h.elim⟩
end Go.Vc

namespace Go.Vc
end Go.Vc

namespace Go.Proofs.Ytjjbcoigaejoaaa
open Go.Vc
attribute [local irreducible] Go.Vc.WP
attribute [local go_sem] cx0_t cx0_c
structure Line where
 kind : Int
 name : ByteArray
 args : List ByteArray
 expr : List Tok
deriving DecidableEq
def encLine (x : Line) : List SV := [.v (.int .i64 x.kind),.v (.string x.name),.sl 1 (x.args.map encS),.sl 3 (x.expr.map encTok)]
def oneLine : List SV → Line
 | [.v (.int _ k),.v (.string n),.sl _ a,.sl _ t]=>⟨k,n,decS a,decTok t⟩
 | _=>⟨0,⟨#[]⟩,[],[]⟩
def decLine (rows : List (List SV)) : List Line := rows.map oneLine
theorem oneLine_enc (x : Line) : oneLine (encLine x) = x := by
 show (⟨x.kind,x.name,decS (x.args.map encS),decTok (x.expr.map encTok)⟩ : Line) = x
 rw [decS_enc,decTok_enc]
theorem oneLine_f (k : Int) (n : ByteArray) (a : List ByteArray) (t : List Tok) : oneLine [.v (.int .i64 k),.v (.string n),.sl 1 (a.map encS),.sl 3 (t.map encTok)] = ⟨k,n,a,t⟩ := oneLine_enc ⟨k,n,a,t⟩
theorem decLine_enc (L : List Line) : decLine (L.map encLine) = L := by
 unfold decLine
 rw [List.map_map]
 exact List.map_id'' oneLine_enc L
theorem line_eta (x : Line) : (⟨x.kind,x.name,x.args,x.expr⟩ : Line) = x := rfl
attribute [local go_sem] decS_enc decTok_enc decLine_enc oneLine_f line_eta
def shLine (x : Line) : Prop := x.args.length ≤ 1048576 ∧ x.expr.length ≤ 1048576
section
end
section
end
section
end
end Go.Proofs.Ytjjbcoigaejoaaa

namespace Go.Proofs.Ytjjbcoigaejoaaa
def tokOk (t : Tok) : Bool :=
 if t.kind = 0 then decide (0 ≤ t.num) && decide (t.num ≤ 999) && decide (t.name = ⟨#[]⟩)
 else if t.kind = 1 then decide (t.num = 0) && nameOk t.name
 else if t.kind = 7 then decide (0 ≤ t.num) && decide (t.num ≤ 4) && nameOk t.name
 else decide (2 ≤ t.kind) && decide (t.kind ≤ 6) && decide (t.num = 0) && decide (t.name = ⟨#[]⟩)
theorem tokOk_cases {t : Tok} (h : tokOk t = true) :
  (t.kind = 0 ∧ 0 ≤ t.num ∧ t.num ≤ 999 ∧ t.name = ⟨#[]⟩) ∨ (t.kind = 1 ∧ t.num = 0 ∧ nameOk t.name = true) ∨ (t.kind = 7 ∧ 0 ≤ t.num ∧ t.num ≤ 4 ∧ nameOk t.name = true) ∨
  (2 ≤ t.kind ∧ t.kind ≤ 6 ∧ t.num = 0 ∧ t.name = ⟨#[]⟩) := by
 unfold tokOk at h
 split at h
 ·simp at h; exact .inl ⟨by assumption,h.1.1,h.1.2,h.2⟩
 ·split at h
  ·simp at h; exact .inr (.inl ⟨by assumption,h.1,h.2⟩)
  ·split at h
   ·simp at h; exact .inr (.inr (.inl ⟨by assumption,h.1.1,h.1.2,h.2⟩))
   ·simp at h; exact .inr (.inr (.inr ⟨h.1.1.1,h.1.1.2,h.1.2,h.2⟩))
def arN (t : Tok) : Nat := if t.kind = 7 then t.num.toNat else if t.kind = 0 ∨ t.kind = 1 then 0 else 2
theorem arN_le {t : Tok} (h : tokOk t = true) : arN t ≤ 4 := by
 unfold arN
 rcases tokOk_cases h with ⟨a,_⟩|⟨a,_⟩|⟨a,b,c,_⟩|⟨a,b,_⟩
 ·rw [if_neg (by omega),if_pos (.inl a)] <;> omega
 ·rw [if_neg (by omega),if_pos (.inr a)] <;> omega
 ·rw [if_pos a]; omega
 ·split
  ·omega
  ·split <;> omega
def arity (t : Tok) : Int := if tokOk t = true then (arN t : Int) else -1
def endGo : List Tok → Nat → Nat → Int
 | [],n,a=>if n = 0 then (a : Int) else -1
 |t :: L,n,a=>if n = 0 then (a : Int) else if tokOk t = true then endGo L (n - 1 + arN t) (a + 1) else -1
theorem endGo_zero (L : List Tok) (a : Nat) : endGo L 0 a = a:=by cases L <;> simp [endGo]
theorem endGo_nil {n : Nat} (a : Nat) (h : 0 < n) : endGo [] n a = -1:=by simp [endGo]; omega
theorem endGo_ok {t : Tok} {L : List Tok} {n a : Nat} (hn : 0 < n) (h : tokOk t = true) : endGo (t :: L) n a = endGo L (n - 1 + arN t) (a + 1) := by
 rw [endGo,if_neg (by omega),if_pos h]
theorem endGo_bad {t : Tok} {L : List Tok} {n a : Nat} (hn : 0 < n) (h : tokOk t = false) : endGo (t :: L) n a = -1 := by
 rw [endGo,if_neg (by omega),if_neg (by simp [h])]
def exprEnd (L : List Tok) (a : Int) : Int := if 0 ≤ a then endGo (L.drop a.toNat) 1 a.toNat else -1
theorem endGo_form : ∀ (L : List Tok) (n a : Nat),endGo L n a = -1 ∨ ∃ k,k ≤ L.length ∧ endGo L n a = ((a + k : Nat) : Int) ∧ (∀ t ∈ L.take k,tokOk t = true) ∧ (0 < n → 0 < k)
 | [],n,a=>by
  by_cases h : n = 0
  ·exact .inr ⟨0,by simp,by simp [endGo,h],by simp,by omega⟩
  ·exact .inl (by simp [endGo,h])
 |t :: L,n,a=>by
  by_cases h : n = 0
  ·exact .inr ⟨0,by simp,by simp [endGo,h],by simp,by omega⟩
  ·cases hk : tokOk t with
   |false=>exact .inl (endGo_bad (by omega) hk)
   |true =>
    rw [endGo_ok (by omega) hk]
    rcases endGo_form L (n - 1 + arN t) (a + 1) with e|⟨k,h1,h2,h3,_⟩
    ·exact .inl e
    ·exact .inr ⟨k + 1,by simp; omega,by rw [h2]; congr 1; omega,fun x hx=>by
      rw [List.take_succ_cons] at hx
      rcases List.mem_cons.1 hx with rfl|hx
      ·exact hk
      ·exact h3 x hx,by omega⟩
def exprOk (L : List Tok) : Bool := decide (L.length ≤ 20) && decide (L ≠ []) && decide (exprEnd L 0 = (L.length : Int))
theorem exprOk_iff {L : List Tok} : exprOk L = true ↔ L.length ≤ 20 ∧ L ≠ [] ∧ exprEnd L 0 = (L.length : Int):=by simp [exprOk,and_assoc]
def hasEx (k : Int) : Bool := decide (k = 1) || decide (k = 2) || decide (k = 3) || decide (k = 5) || decide (k = 6)
theorem hasEx_iff {k : Int} : hasEx k = true ↔ k = 1 ∨ k = 2 ∨ k = 3 ∨ k = 5 ∨ k = 6:=by simp [hasEx,or_assoc]
structure LineP (x : Line) : Prop where
 kind : 0 ≤ x.kind ∧ x.kind ≤ 7
 few : x.args.length ≤ 4
 names : ∀ s ∈ x.args,nameOk s = true
 apart : x.args.Nodup
 noArgs : x.kind ≠ 0 → x.args = []
 name : x.kind = 0 ∨ x.kind = 1 → nameOk x.name = true
 noName : ¬ (x.kind = 0 ∨ x.kind = 1) → x.name = ⟨#[]⟩
 expr : hasEx x.kind = true → exprOk x.expr = true
 noExpr : hasEx x.kind = false → x.expr = []
theorem lineP_iff (x : Line) : LineP x ↔ ((0 ≤ x.kind ∧ x.kind ≤ 7) ∧ x.args.length ≤ 4 ∧ (∀ s ∈ x.args,nameOk s = true) ∧ x.args.Nodup ∧ (x.kind ≠ 0 → x.args = []) ∧
  (x.kind = 0 ∨ x.kind = 1 → nameOk x.name = true) ∧ (¬ (x.kind = 0 ∨ x.kind = 1) → x.name = ⟨#[]⟩) ∧ (hasEx x.kind = true → exprOk x.expr = true) ∧ (hasEx x.kind = false → x.expr = [])) :=
 ⟨fun h=>⟨h.1,h.2,h.3,h.4,h.5,h.6,h.7,h.8,h.9⟩,fun ⟨a,b,c,d,e,f,g,i,j⟩=>⟨a,b,c,d,e,f,g,i,j⟩⟩
instance (x : Line) : Decidable (LineP x) := decidable_of_iff' _ (lineP_iff x)
def kw (k : Int) : List UInt8 :=
 if k = 0 then [102,117,110] else if k = 1 then [115,101,116] else if k = 2 then [111,117,116] else if k = 3 then [105,102] else if k = 4 then [101,108,115,101]
 else if k = 5 then [119,104,105,108,101] else if k = 6 then [114,101,116,117,114,110] else [101,110,100]
theorem kw_case {k : Int} (h : 0 ≤ k) (h' : k ≤ 7) : k = 0 ∨ k = 1 ∨ k = 2 ∨ k = 3 ∨ k = 4 ∨ k = 5 ∨ k = 6 ∨ k = 7:=by omega
def hasNm (k : Int) (r : List ByteArray) : Prop := (k = 0 ∨ k = 1) ∧ r ≠ []
instance (k : Int) (r : List ByteArray) : Decidable (hasNm k r):=by unfold hasNm; infer_instance
theorem nameOk_ne {s : ByteArray} (h : nameOk s = true) : s ≠ ⟨#[]⟩ := fun e=>by
 have := (nameOk_letters h).2.1
 rw [e] at this; exact absurd this (by decide)
end Go.Proofs.Ytjjbcoigaejoaaa

namespace Go.Proofs.Ytjjbcoigaejoaaa
def iterG {α : Type} (g : Cur → List α × Cur) : Nat → Cur → List α × Cur
 | 0,c=>([],c)
 |m + 1,c=>((iterG g m c).1 ++ (g (iterG g m c).2).1,(g (iterG g m c).2).2)
structure Gen where
 vars : List ByteArray
 names : List ByteArray
 ars : List Int
structure GenOk (G : Gen) : Prop where
 vs : 0 < G.vars.length ∧ G.vars.length ≤ 256
 ns : G.names.length ≤ 256
 same : G.ars.length = G.names.length
 ar : ∀ a ∈ G.ars,0 ≤ a ∧ a ≤ 2
 vz : ∀ s ∈ G.vars,s.size ≤ 8
 nz : ∀ s ∈ G.names,s.size ≤ 8
def nums6 : List Int := [0,1,2,3,10,999]
def nilB0 : ByteArray := ⟨#[]⟩
def exprG (G : Gen) (n : Nat) (c : Cur) : List Tok × Cur :=
 if h1 : 2 < n ∧ belowV c 10 < 5 then
  (⟨2 + belowV (belowC c 10) 5,0,nilB0⟩ :: ((exprG G (n / 2) (belowC (belowC c 10) 5)).1 ++ (exprG G (n / 2) (exprG G (n / 2) (belowC (belowC c 10) 5)).2).1),
   (exprG G (n / 2) (exprG G (n / 2) (belowC (belowC c 10) 5)).2).2)
 else if h2 : 0 < G.names.length ∧ 1 < n ∧ belowV c 10 < 8 then
  (⟨7,G.ars.getD (belowV (belowC c 10) G.names.length).toNat 0,G.names.getD (belowV (belowC c 10) G.names.length).toNat nilB0⟩ ::
    (iterG (exprG G (n / 4)) (G.ars.getD (belowV (belowC c 10) G.names.length).toNat 0).toNat (belowC (belowC c 10) G.names.length)).1,
   (iterG (exprG G (n / 4)) (G.ars.getD (belowV (belowC c 10) G.names.length).toNat 0).toNat (belowC (belowC c 10) G.names.length)).2)
 else if belowV (belowC c 10) 2 = 0 then
  ([⟨1,0,G.vars.getD (belowV (belowC (belowC c 10) 2) G.vars.length).toNat nilB0⟩],belowC (belowC (belowC c 10) 2) G.vars.length)
 else ([⟨0,nums6.getD (belowV (belowC (belowC c 10) 2) 6).toNat 0,nilB0⟩],belowC (belowC (belowC c 10) 2) 6)
termination_by n
decreasing_by all_goals omega
theorem exprG_A {G : Gen} {n : Nat} {c : Cur} (h1 : 2 < n ∧ belowV c 10 < 5) : exprG G n c =
  (⟨2 + belowV (belowC c 10) 5,0,nilB0⟩ :: ((exprG G (n / 2) (belowC (belowC c 10) 5)).1 ++ (exprG G (n / 2) (exprG G (n / 2) (belowC (belowC c 10) 5)).2).1),
   (exprG G (n / 2) (exprG G (n / 2) (belowC (belowC c 10) 5)).2).2):=by rw [exprG,dif_pos h1]
theorem exprG_B {G : Gen} {n : Nat} {c : Cur} (h1 : ¬ (2 < n ∧ belowV c 10 < 5)) (h2 : 0 < G.names.length ∧ 1 < n ∧ belowV c 10 < 8) : exprG G n c =
  (⟨7,G.ars.getD (belowV (belowC c 10) G.names.length).toNat 0,G.names.getD (belowV (belowC c 10) G.names.length).toNat nilB0⟩ ::
    (iterG (exprG G (n / 4)) (G.ars.getD (belowV (belowC c 10) G.names.length).toNat 0).toNat (belowC (belowC c 10) G.names.length)).1,
   (iterG (exprG G (n / 4)) (G.ars.getD (belowV (belowC c 10) G.names.length).toNat 0).toNat (belowC (belowC c 10) G.names.length)).2):=by rw [exprG,dif_neg h1,dif_pos h2]
theorem exprG_C {G : Gen} {n : Nat} {c : Cur} (h1 : ¬ (2 < n ∧ belowV c 10 < 5)) (h2 : ¬ (0 < G.names.length ∧ 1 < n ∧ belowV c 10 < 8)) : exprG G n c =
  if belowV (belowC c 10) 2 = 0 then ([⟨1,0,G.vars.getD (belowV (belowC (belowC c 10) 2) G.vars.length).toNat nilB0⟩],belowC (belowC (belowC c 10) 2) G.vars.length)
  else ([⟨0,nums6.getD (belowV (belowC (belowC c 10) 2) 6).toNat 0,nilB0⟩],belowC (belowC (belowC c 10) 2) 6):=by rw [exprG,dif_neg h1,dif_neg h2]
theorem iterG_ok {α : Type} {g : Cur → List α × Cur} {Q : α → Prop} {B : Nat} (hg : ∀ c,CurOk c → CurOk (g c).2 ∧ (∀ x ∈ (g c).1,Q x) ∧ (g c).1.length ≤ B) : ∀ (m : Nat) (c : Cur),CurOk c → CurOk (iterG g m c).2 ∧ (∀ x ∈ (iterG g m c).1,Q x) ∧ (iterG g m c).1.length ≤ m * B
 | 0,c,h=>⟨h,by simp [iterG],by simp [iterG]⟩
 |m + 1,c,h=>by
  obtain ⟨a,b,d⟩ := iterG_ok hg m c h
  obtain ⟨a',b',d'⟩ := hg _ a
  refine ⟨a',fun x hx=>?_,?_⟩
  ·rcases List.mem_append.1 hx with hx|hx
   ·exact b x hx
   ·exact b' x hx
  ·show ((iterG g m c).1 ++ (g (iterG g m c).2).1).length ≤ (m + 1) * B
   rw [List.length_append,Nat.add_mul,Nat.one_mul]; omega
theorem getD_mem {α : Type} {L : List α} {q : Nat} {z : α} (h : q < L.length) : L.getD q z ∈ L := by
 rw [List.getD_eq_getElem?_getD,List.getElem?_eq_getElem h]; exact List.getElem_mem h
theorem belowV_nat {c : Cur} {n : Nat} (h : 0 < n) : (belowV c n).toNat < n := by
 have := belowV_bd c (n := n) (by omega)
 omega
theorem exprG_ok {G : Gen} (hG : GenOk G) : ∀ (f n : Nat) (c : Cur),n ≤ f → CurOk c → CurOk (exprG G n c).2 ∧ (∀ t ∈ (exprG G n c).1,t.name.size ≤ 8) ∧ (exprG G n c).1.length + 1 ≤ 2 ^ (f + 1)
 | 0,n,c,hn,h=>by
  have e0 : nilB0.size = 0 := rfl
  have h1 := h.belowC 10
  have h2 := h1.belowC 2
  rw [exprG,dif_neg (by omega),dif_neg (by omega)]
  split
  ·refine ⟨h2.belowC _,fun t ht=>?_,by simp⟩
   rw [List.mem_singleton] at ht
   rw [ht]; exact hG.vz _ (getD_mem (belowV_nat hG.vs.1))
  ·refine ⟨h2.belowC 6,fun t ht=>?_,by simp⟩
   rw [List.mem_singleton] at ht
   rw [ht]; simp only [e0]; omega
 |f + 1,n,c,hn,h=>by
  have e0 : nilB0.size = 0 := rfl
  have h1 := h.belowC 10
  have h2 := h1.belowC 2
  have hp : 2 ^ (f + 1 + 1) = 2 ^ (f + 1) * 2 := Nat.pow_succ 2 (f + 1)
  have hp1 : 2 ≤ 2 ^ (f + 1):=by rw [Nat.pow_succ]; have := Nat.one_le_two_pow (n := f); omega
  rw [exprG]
  split
  ·rename_i hc
   obtain ⟨a,b,d⟩ := exprG_ok hG f (n / 2) _ (by omega) (h1.belowC 5)
   obtain ⟨a',b',d'⟩ := exprG_ok hG f (n / 2) _ (by omega) a
   refine ⟨a',fun t ht=>?_,?_⟩
   ·rcases List.mem_cons.1 ht with ht|ht
    ·rw [ht]; simp only [e0]; omega
    ·rcases List.mem_append.1 ht with ht|ht
     ·exact b t ht
     ·exact b' t ht
   ·simp only [List.length_cons,List.length_append]; omega
  ·split
   ·rename_i hc
    have hq := belowV_nat (c := belowC c 10) hc.1
    have hqa : (belowV (belowC c 10) G.names.length).toNat < G.ars.length:=by rw [hG.same]; exact hq
    have har := hG.ar _ (getD_mem (z := 0) hqa)
    obtain ⟨a,b,d⟩ := iterG_ok (Q := fun t : Tok=>t.name.size ≤ 8) (B := 2 ^ (f + 1) - 1) (fun c hc=>by
     obtain ⟨a,b,d⟩ := exprG_ok hG f (n / 4) c (by omega) hc
     exact ⟨a,b,by omega⟩) (G.ars.getD (belowV (belowC c 10) G.names.length).toNat 0).toNat _ (h1.belowC G.names.length)
    refine ⟨a,fun t ht=>?_,?_⟩
    ·rcases List.mem_cons.1 ht with ht|ht
     ·rw [ht]; exact hG.nz _ (getD_mem hq)
     ·exact b t ht
    ·have h3 : (G.ars.getD (belowV (belowC c 10) G.names.length).toNat 0).toNat * (2 ^ (f + 1) - 1) ≤ 2 * (2 ^ (f + 1) - 1) := Nat.mul_le_mul_right _ (by omega)
     simp only [List.length_cons]; omega
   ·split
    ·refine ⟨h2.belowC _,fun t ht=>?_,by simp only [List.length_singleton]; omega⟩
     rw [List.mem_singleton] at ht
     rw [ht]; exact hG.vz _ (getD_mem (belowV_nat hG.vs.1))
    ·refine ⟨h2.belowC 6,fun t ht=>?_,by simp only [List.length_singleton]; omega⟩
     rw [List.mem_singleton] at ht
     rw [ht]; simp only [e0]; omega
def nmI : ByteArray := ⟨#[105]⟩
def stepG (G : Gen) (d : Nat) (rec : Nat → Cur → List Line × Cur) (c : Cur) : List Line × Cur :=
 if belowV c 9 < 4 then
  ([⟨1,G.vars.getD (belowV (belowC c 9) G.vars.length).toNat nilB0,[],(exprG G 6 (belowC (belowC c 9) G.vars.length)).1⟩],(exprG G 6 (belowC (belowC c 9) G.vars.length)).2)
 else if belowV c 9 < 6 then ([⟨2,nilB0,[],(exprG G 5 (belowC c 9)).1⟩],(exprG G 5 (belowC c 9)).2)
 else if belowV c 9 = 6 ∧ 0 < d then
  let e := exprG G 4 (belowC c 9)
  let b := rec (1 + (belowV e.2 2).toNat) (belowC e.2 2)
  let c3 := belowC b.2 2
  let z := if belowV b.2 2 = 0 then (⟨4,nilB0,[],[]⟩ :: (rec 1 c3).1,(rec 1 c3).2) else (([] : List Line),c3)
  (⟨3,nilB0,[],e.1⟩ :: (b.1 ++ (z.1 ++ [⟨7,nilB0,[],[]⟩])),z.2)
 else if belowV c 9 = 7 ∧ 0 < d then
  let b := rec 1 (belowC (belowC c 9) 3)
  (⟨5,nilB0,[],[⟨5,0,nilB0⟩,⟨1,0,nmI⟩,⟨0,1 + belowV (belowC c 9) 3,nilB0⟩]⟩ :: (b.1 ++ [⟨1,nmI,[],[⟨2,0,nilB0⟩,⟨1,0,nmI⟩,⟨0,1,nilB0⟩]⟩,⟨7,nilB0,[],[]⟩]),b.2)
 else if belowV (belowC c 9) 3 = 0 then ([⟨6,nilB0,[],(exprG G 4 (belowC (belowC c 9) 3)).1⟩],(exprG G 4 (belowC (belowC c 9) 3)).2)
 else ([],belowC (belowC c 9) 3)
def bodyG (G : Gen) : Nat → Nat → Cur → List Line × Cur
 | 0,n,c=>iterG (stepG G 0 fun _ c=>([],c)) n c
 |d + 1,n,c=>iterG (stepG G (d + 1) (bodyG G d)) n c
def smD (x : Line) : Prop := x.name.size ≤ 8 ∧ x.args = [] ∧ x.expr.length ≤ 128 ∧ ∀ t ∈ x.expr,t.name.size ≤ 8
theorem exprG_sm {G : Gen} (hG : GenOk G) {n : Nat} (hn : n ≤ 6) {c : Cur} (h : CurOk c) : CurOk (exprG G n c).2 ∧ (∀ t ∈ (exprG G n c).1,t.name.size ≤ 8) ∧ (exprG G n c).1.length ≤ 127 := by
 obtain ⟨a,b,d⟩ := exprG_ok hG 6 n c hn h
 exact ⟨a,b,by have : 2 ^ (6 + 1) = 128 := rfl; omega⟩
theorem stepG_ok {G : Gen} (hG : GenOk G) {d B : Nat} {rec : Nat → Cur → List Line × Cur} (hr : 0 < d → ∀ n c,n ≤ 2 → CurOk c → CurOk (rec n c).2 ∧ (∀ x ∈ (rec n c).1,smD x) ∧ (rec n c).1.length ≤ B) (c : Cur) (h : CurOk c) :
  CurOk (stepG G d rec c).2 ∧ (∀ x ∈ (stepG G d rec c).1,smD x) ∧ (stepG G d rec c).1.length ≤ 2 * B + 3 := by
 have e0 : nilB0.size = 0 := rfl
 have e1 : nmI.size = 1 := rfl
 have h1 := h.belowC 9
 have one : ∀ x : Line,smD x → ∀ y ∈ [x],smD y := fun x hx y hy=>by rw [List.mem_singleton] at hy; rw [hy]; exact hx
 have pl : ∀ k : Int,smD ⟨k,nilB0,[],[]⟩ := fun k=>⟨by simp only [e0]; omega,rfl,by simp,by simp⟩
 unfold stepG
 split
 ·obtain ⟨a,b,d⟩ := exprG_sm hG (n := 6) (by omega) (h1.belowC G.vars.length)
  exact ⟨a,one _ ⟨hG.vz _ (getD_mem (belowV_nat hG.vs.1)),rfl,by simp only; omega,b⟩,by simp⟩
 ·split
  ·obtain ⟨a,b,d⟩ := exprG_sm hG (n := 5) (by omega) h1
   exact ⟨a,one _ ⟨by simp only [e0]; omega,rfl,by simp only; omega,b⟩,by simp⟩
  ·split
   ·rename_i hd
    obtain ⟨a,b,d'⟩ := exprG_sm hG (n := 4) (by omega) h1
    have hb2 := belowV_bd (exprG G 4 (Go.Proofs.Ytjjbcoigaejoaaa.belowC c 9)).2 (n := 2) (by omega)
    obtain ⟨p,q,r⟩ := hr hd.2 (1 + (belowV (exprG G 4 (Go.Proofs.Ytjjbcoigaejoaaa.belowC c 9)).2 2).toNat) _ (by omega) (a.belowC 2)
    have hx : smD ⟨3,nilB0,[],(exprG G 4 (Go.Proofs.Ytjjbcoigaejoaaa.belowC c 9)).1⟩ := ⟨by simp only [e0]; omega,rfl,by simp only; omega,b⟩
    have p3 := p.belowC 2
    obtain ⟨s,t,u⟩ := hr hd.2 1 _ (by omega) p3
    simp only
    split
    ·refine ⟨s,fun x hx'=>?_,by simp only [List.length_cons,List.length_append,List.length_nil]; omega⟩
     rcases List.mem_cons.1 hx' with hx'|hx'
     ·rw [hx']; exact hx
     rcases List.mem_append.1 hx' with hx'|hx'
     ·exact q x hx'
     rcases List.mem_append.1 hx' with hx'|hx'
     ·rcases List.mem_cons.1 hx' with hx'|hx'
      ·rw [hx']; exact pl 4
      ·exact t x hx'
     ·exact one _ (pl 7) x hx'
    ·refine ⟨p3,fun x hx'=>?_,by simp only [List.length_cons,List.length_append,List.length_nil]; omega⟩
     rcases List.mem_cons.1 hx' with hx'|hx'
     ·rw [hx']; exact hx
     rcases List.mem_append.1 hx' with hx'|hx'
     ·exact q x hx'
     ·exact one _ (pl 7) x hx'
   ·split
    ·rename_i hd
     obtain ⟨p,q,r⟩ := hr hd.2 1 _ (by omega) (h1.belowC 3)
     refine ⟨p,fun x hx'=>?_,by simp only [List.length_cons,List.length_append,List.length_nil]; omega⟩
     rcases List.mem_cons.1 hx' with hx'|hx'
     ·rw [hx']
      refine ⟨by simp only [e0]; omega,rfl,by simp,fun t ht=>?_⟩
      simp only [List.mem_cons,List.not_mem_nil,or_false] at ht
      rcases ht with rfl|rfl|rfl <;> simp only [e0,e1] <;> omega
     rcases List.mem_append.1 hx' with hx'|hx'
     ·exact q x hx'
     ·rcases List.mem_cons.1 hx' with hx'|hx'
      ·rw [hx']
       refine ⟨by simp only [e1]; omega,rfl,by simp,fun t ht=>?_⟩
       simp only [List.mem_cons,List.not_mem_nil,or_false] at ht
       rcases ht with rfl|rfl|rfl <;> simp only [e0,e1] <;> omega
      ·exact one _ (pl 7) x hx'
    ·split
     ·obtain ⟨a,b,d'⟩ := exprG_sm hG (n := 4) (by omega) (h1.belowC 3)
      exact ⟨a,one _ ⟨by simp only [e0]; omega,rfl,by simp only; omega,b⟩,by simp⟩
     ·exact ⟨h1.belowC 3,by simp,by simp⟩
def bdG : Nat → Nat
 | 0=>3
 |d + 1=>2 * (2 * bdG d) + 3
theorem bodyG_ok {G : Gen} (hG : GenOk G) : ∀ (d n : Nat) (c : Cur),CurOk c → CurOk (bodyG G d n c).2 ∧ (∀ x ∈ (bodyG G d n c).1,smD x) ∧ (bodyG G d n c).1.length ≤ n * bdG d
 | 0,n,c,h=>iterG_ok (fun c hc=>stepG_ok hG (B := 0) (fun h=>absurd h (by omega)) c hc) n c h
 |d + 1,n,c,h=>iterG_ok (fun c hc=>stepG_ok hG (B := 2 * bdG d) (fun _ n c hn hc=>by
   obtain ⟨a,b,e⟩ := bodyG_ok hG d n c hc
   exact ⟨a,b,Nat.le_trans e (Nat.mul_le_mul_right _ hn)⟩) c hc) n c h
def nms4 : List ByteArray := [⟨#[109,97,105,110]⟩,⟨#[102]⟩,⟨#[103,103]⟩,⟨#[104]⟩]
def ars4 : List Int := [0,1,2,1]
def xy2 : List ByteArray := [⟨#[120]⟩,⟨#[121]⟩]
def argsG (k : Nat) : List ByteArray := xy2.take (ars4.getD k 0).toNat
def cut2 {α : Type} (L : List α) (a b : Nat) : List α := (L.drop a).take (b - a)
def genG (n k from_ : Nat) : Gen := ⟨argsG k ++ [nmI,⟨#[122]⟩],cut2 nms4 from_ n,cut2 ars4 from_ n⟩
def funG (n k : Nat) (c : Cur) : List Line × Cur :=
 let o := if 0 < k then (if belowV c 5 = 0 then k else k + 1,belowC c 5) else (k + 1,c)
 let G := genG n k o.1
 let b := bodyG G (1 + (belowV (belowC o.2 4) 2).toNat) (1 + (belowV o.2 4).toNat) (belowC (belowC o.2 4) 2)
 let e := exprG G 3 b.2
 (⟨0,nms4.getD k nilB0,argsG k,[]⟩ :: (b.1 ++ [⟨6,nilB0,[],e.1⟩,⟨7,nilB0,[],[]⟩]),e.2)
def progGo (n : Nat) : Nat → Cur → List Line × Cur
 | 0,c=>([],c)
 |k + 1,c=>((progGo n k c).1 ++ (funG n k (progGo n k c).2).1,(funG n k (progGo n k c).2).2)
def progG (c : Cur) : List Line × Cur := progGo (1 + (belowV c 4).toNat) (1 + (belowV c 4).toNat) (belowC c 4)
end Go.Proofs.Ytjjbcoigaejoaaa

namespace Go.Proofs.Ytjjbcoigaejoaaa
open Go.Vc
attribute [local irreducible] Go.Vc.WP
attribute [local go_sem] cx0_t cx0_c
attribute [local go_sem] decNode_enc oneFrame_enc
def stkA (args : List SV) (i : Nat) : List Node := match args[i]? with
 |some (.agg [.sl _ rows])=>decNode rows
 | _=>[]
theorem stNode_frOk {N : List Node} {k : Nat} {x : Node} (h : frOk (nodeFr x) = false) : stNode N k x = false := by
 cases hs : stNode N k x with
 |false=>rfl
 |true=>rw [(stNode_iff.1 hs).2.2.1] at h; cases h
theorem stNode_par {N : List Node} {k : Nat} {x : Node} (h : x.parent < -1 ∨ (k : Int) - 1 < x.parent) : stNode N k x = false := by
 cases hs : stNode N k x with
 |false=>rfl
 |true=>have := stNode_iff.1 hs; omega
def kFrOk : Ctr := pur (fun args=>oneFrame (aC args 0)) (fun f=>[.agg (encFrame f)]) (fun f=>f.name.size ≤ 1099511627776) (fun _ f=>.v (.bool (frOk f))) (fun _ _=>[])
section
noncomputable def cxFrI := mkX [(105,kNameOk),(35,k60)] (COk.cons cNameOkI (COk.cons c60 (COk.nil _)))
theorem cxFrI_t : cxFrI.tys = tys := rfl
theorem cxFrI_c : cxFrI.C = [(105,kNameOk),(35,k60)] := rfl
attribute [local go_sem] cxFrI_t cxFrI_c kNameOk k60
theorem cFrOkI : Cn Try.prog 102 kFrOk := by
 refine Cn.pur Try.func102 (by kernel_rfl) rfl fun d x hx=>?_
 refine Holds.go (c := cxFrI) Try.func102 rfl Try.results102 Try.ntmps102 (by omega) (by simp) rfl ?_
 intro X0 w0
 (repeat' (first|apply zS|apply zB|((first|apply zR|apply zC|apply zT|apply zE|apply zK);simp only [go_sem,encFrame])|apply And.intro|intro _))
 all_goals first|omega|skip
 rw [frOk,Bool.and_assoc]
end
section
noncomputable def cxFrS := mkX [(94,kNameOk),(33,k60)] (COk.cons cNameOkS (COk.cons c58 (COk.nil _)))
theorem cxFrS_t : cxFrS.tys = tys := rfl
theorem cxFrS_c : cxFrS.C = [(94,kNameOk),(33,k60)] := rfl
attribute [local go_sem] cxFrS_t cxFrS_c kNameOk k60
theorem cFrOkS : Cn Try.prog 104 kFrOk := by
 refine Cn.pur Try.func104 (by kernel_rfl) rfl fun d x hx=>?_
 refine Holds.go (c := cxFrS) Try.func104 rfl Try.results104 Try.ntmps104 (by omega) (by simp) rfl ?_
 intro X0 w0
 (repeat' (first|apply zS|apply zB|((first|apply zR|apply zC|apply zT|apply zE|apply zK);simp only [go_sem,encFrame])|apply And.intro|intro _))
 all_goals first|omega|skip
 rw [frOk,Bool.and_assoc]
end
theorem oneFrame_ab (a : ByteArray) (b : Int) : oneFrame [.v (.string a),.v (.int .i64 b)] = ⟨a,b⟩ := rfl
theorem oneNode_abc (p : Int) (a : ByteArray) (b : Int) : oneNode [.v (.int .i64 p),.v (.string a),.v (.int .i64 b)] = ⟨p,a,b⟩ := rfl
def wfN (N : List Node) : Prop := N.length ≤ 4398046511104 ∧ ∀ x ∈ N,x.name.size ≤ 1099511627776
theorem wfN.nm {N : List Node} (h : wfN N) {k : Nat} (hk : k < N.length) : N[k].name.size ≤ 1099511627776 := h.2 _ (List.getElem_mem hk)
def kStOk : Ctr := pur (fun args=>stkA args 0) (fun N=>[.agg [.sl 3 (N.map encNode)]]) wfN (fun _ N=>.v (.bool (stacksOk N))) (fun _ _=>[])
attribute [local go_sem] stkA oneFrame_ab oneNode_abc
theorem noFr {N : List Node} {k : Nat} (hk : k < N.length) (h : (N[k].parent < -1 ∨ (k : Int) - 1 < N[k].parent) ∨ frOk ⟨N[k].name,N[k].line⟩ = false) : stacksOk N = false := by
 refine stacksOk_bad hk ?_
 rcases h with h|h
 ·exact stNode_par h
 ·exact stNode_frOk h
theorem node_eq {a b : Node} (h : a.parent = b.parent ∧ a.name = b.name ∧ a.line = b.line) : a = b := by
 obtain ⟨p,n,l⟩ := a
 obtain ⟨p',n',l'⟩ := b
 simp only at h
 obtain ⟨rfl,rfl,rfl⟩ := h
 rfl
theorem node_ne {a b : Node} (h : ¬ a.parent = b.parent ∨ ¬ a.name = b.name ∨ ¬ a.line = b.line) : a ≠ b := fun e=>by
 subst e
 rcases h with h|h|h <;> exact h rfl
theorem rowAt_take (rows : List (List SV)) {k i : Nat} (h : i < k) : Go.Vc.rowAt (rows.take k) i = Go.Vc.rowAt rows i := by
 unfold Go.Vc.rowAt
 rw [List.getElem?_take_of_lt h]
section
noncomputable def cxSoS := mkX [(104,kFrOk),(33,k60)] (COk.cons cFrOkS (COk.cons c58 (COk.nil _)))
theorem cxSoS_t : cxSoS.tys = tys := rfl
theorem cxSoS_c : cxSoS.C = [(104,kFrOk),(33,k60)] := rfl
attribute [local go_sem] cxSoS_t cxSoS_c kFrOk k60
theorem cStOkS : Cn Try.prog 74 kStOk := by
 refine Cn.pur Try.func74 (by kernel_rfl) rfl fun d x hx=>?_
 rename List Node=>N
 have hN := hx.1
 refine Holds.go (c := cxSoS) Try.func74 rfl Try.results74 Try.ntmps74 (by omega) (by simp) rfl ?_
 intro X0 w0
 (repeat' (first|apply zS|apply zB|((first|apply zR|apply zC|apply zT|apply zE|apply zK| refine zD 11 (by decide +kernel) (by kernel_rfl) ?_); simp only [go_sem])|apply And.intro|intro _))
 refine zL (fun k : Nat=>⟨[(1,.ptr 1 0 0 0),(3,.v (.int .i64 k))],[(1,.box 43 [.sl 3 (N.map encNode)])]⟩) (fun k=>k ≤ N.length ∧ ∀ j (hj : j < N.length),j < k → stNode N j N[j] = true) (fun k=>N.length - k) 0 (by simp) ?_ ?_
 ·(simp only [go_sem] <;> (first|(and_intros <;> rfl)|simp))
 intro k ⟨hk,hf⟩
 by_cases hlt : k < N.length
 ·have h1 := rowAt_map encNode N k hlt
  have hnm := hx.nm hlt
  (repeat' (first|apply zS|apply zB|((first|apply zR|apply zC|apply zT|apply zE|apply zK| refine zD 11 (by decide +kernel) (by kernel_rfl) ?_); simp only [go_sem,h1,encNode,encFrame])|apply And.intro|intro _))
  all_goals first|omega|skip
  ·rename_i h
   rw [noFr hlt h]
  rename_i h
  refine zL (fun i : Nat=>⟨[(1,.ptr 1 0 0 0),(3,.v (.int .i64 k)),(4,.v (.int .i64 i))],[(1,.box 43 [.sl 3 (N.map encNode)])]⟩) (fun i=>i ≤ k ∧ ∀ j (hj : j < N.length),j < i → N[j] ≠ N[k]) (fun i=>k - i) 0 (by simp) ?_ ?_
  ·(simp only [go_sem] <;> (first|(and_intros <;> rfl)|simp))
  intro i ⟨hi,hg⟩
  by_cases hlt2 : i < k
  ·have h2 := rowAt_map encNode N i (by omega)
   (repeat' (first|apply zS|apply zB|((first|apply zR|apply zC|apply zT|apply zE|apply zK| refine zD 11 (by decide +kernel) (by kernel_rfl) ?_); simp only [go_sem,h1,h2,encNode])|apply And.intro|intro _))
   all_goals first|omega|skip
   ·rename_i he
    rw [stacksOk_bad hlt (stNode_dup hlt hlt2 (node_eq he))]
   ·rename_i he
    refine ⟨i + 1,⟨by omega,fun j hj hji=>?_⟩,by omega,by (first|(and_intros <;> rfl)|simp)⟩
    rcases Nat.lt_or_ge j i with hh|hh
    ·exact hg j hj hh
    ·have : j = i:=by omega
     subst this
     exact node_ne he
  ·(repeat' (first|apply zS|apply zB|((first|apply zR|apply zC|apply zT|apply zE|apply zK| refine zD 11 (by decide +kernel) (by kernel_rfl) ?_); simp only [go_sem])|apply And.intro|intro _))
   all_goals first|omega|skip
   refine ⟨k + 1,⟨by omega,fun j hj hjk=>?_⟩,by omega,by (first|(and_intros <;> rfl)|simp)⟩
   rcases Nat.lt_or_ge j k with hh|hh
   ·exact hf j hj hh
   ·have : j = k:=by omega
    subst this
    exact stNode_ok h.1.1 h.1.2 h.2 fun i hi hij=>hg i hi (by omega)
 ·(repeat' (first|apply zS|apply zB|((first|apply zR|apply zC|apply zT|apply zE|apply zK| refine zD 11 (by decide +kernel) (by kernel_rfl) ?_); simp only [go_sem])|apply And.intro|intro _))
  all_goals first|omega|skip
  rw [stacksOk_all fun j hj=>hf j hj (by omega)]
end
section
noncomputable def cxSoI := mkX [(102,kFrOk),(35,k60)] (COk.cons cFrOkI (COk.cons c60 (COk.nil _)))
theorem cxSoI_t : cxSoI.tys = tys := rfl
theorem cxSoI_c : cxSoI.C = [(102,kFrOk),(35,k60)] := rfl
attribute [local go_sem] cxSoI_t cxSoI_c kFrOk k60
theorem cStOkI : Cn Try.prog 100 kStOk := by
 refine Cn.pur Try.func100 (by kernel_rfl) rfl fun d x hx=>?_
 rename List Node=>N
 have hN := hx.1
 refine Holds.go (c := cxSoI) Try.func100 rfl Try.results100 Try.ntmps100 (by omega) (by simp) rfl ?_
 intro X0 w0
 (repeat' (first|apply zS|apply zB|((first|apply zR|apply zC|apply zT|apply zE|apply zK);simp only [go_sem])|apply And.intro|intro _))
 all_goals first|omega|skip
 refine zL (fun k : Nat=>⟨[(1,.ptr 1 0 0 0),(8,.sl 3 (N.map encNode)),(9,.v (.int .i64 N.length)),(10,.v (.int .i64 k))],[(1,.box 43 [.sl 3 (N.map encNode)])]⟩) (fun k=>k ≤ N.length ∧ ∀ j (hj : j < N.length),j < k → stNode N j N[j] = true) (fun k=>N.length - k) 0 (by simp) ?_ ?_
 ·(simp only [go_sem] <;> (first|(and_intros <;> rfl)|simp))
 intro k ⟨hk,hf⟩
 by_cases hlt : k < N.length
 ·have h1 := rowAt_map encNode N k hlt
  have hnm := hx.nm hlt
  (repeat' (first|apply zS|apply zB|((first|apply zR|apply zC|apply zT|apply zE|apply zK);simp only [go_sem,h1,encNode,encFrame])|apply And.intro|intro _))
  all_goals first|omega|skip
  ·rename_i h
   rw [noFr hlt h]
  rename_i h
  have hl : ((N.map encNode).take k).length = k:=by rw [List.length_take,List.length_map]; omega
  refine zL (fun i : Nat=>⟨[(1,.ptr 1 0 0 0),(4,.ptr 4 0 0 0),(8,.sl 3 (N.map encNode)),(9,.v (.int .i64 N.length)),(10,.v (.int .i64 k)),(30,.sl 3 ((N.map encNode).take k)),(31,.v (.int .i64 k)),(32,.v (.int .i64 i))],[(1,.box 43 [.sl 3 (N.map encNode)]),(4,.box 139 (encNode N[k]))]⟩) (fun i=>i ≤ k ∧ ∀ j (hj : j < N.length),j < i → N[j] ≠ N[k]) (fun i=>k - i) 0 (by simp) ?_ ?_
  ·(simp only [go_sem,hl,encNode] <;> (first|(and_intros <;> rfl)|simp))
  intro i ⟨hi,hg⟩
  by_cases hlt2 : i < k
  ·have h2 := rowAt_map encNode N i (by omega)
   have h3 := rowAt_take (N.map encNode) hlt2
   rw [h2] at h3
   (repeat' (first|apply zS|apply zB|((first|apply zR|apply zC|apply zT|apply zE|apply zK);simp only [go_sem,h1,h3,hl,encNode])|apply And.intro|intro _))
   all_goals first|omega|skip
   ·rename_i he
    rw [stacksOk_bad hlt (stNode_dup hlt hlt2 (node_eq ⟨he.1.symm,he.2.1.symm,he.2.2.symm⟩))]
   ·rename_i he
    refine ⟨i + 1,⟨by omega,fun j hj hji=>?_⟩,by omega,by (first|(and_intros <;> rfl)|simp)⟩
    rcases Nat.lt_or_ge j i with hh|hh
    ·exact hg j hj hh
    ·have : j = i:=by omega
     subst this
     exact Ne.symm (node_ne he)
  ·(repeat' (first|apply zS|apply zB|((first|apply zR|apply zC|apply zT|apply zE|apply zK);simp only [go_sem])|apply And.intro|intro _))
   all_goals first|omega|skip
   refine ⟨k + 1,⟨by omega,fun j hj hjk=>?_⟩,by omega,by (first|(and_intros <;> rfl)|simp)⟩
   rcases Nat.lt_or_ge j k with hh|hh
   ·exact hf j hj hh
   ·have : j = k:=by omega
    subst this
    exact stNode_ok h.1.1 h.1.2 h.2 fun i hi hij=>hg i hi (by omega)
 ·(repeat' (first|apply zS|apply zB|((first|apply zR|apply zC|apply zT|apply zE|apply zK);simp only [go_sem])|apply And.intro|intro _))
  all_goals first|omega|skip
  rw [stacksOk_all fun j hj=>hf j hj (by omega)]
end
def kChild : Ctr := pur (fun args=>(stkA args 0,aI args 1,oneFrame (aC args 2))) (fun x=>[.agg [.sl 3 (x.1.map encNode)],.v (.int .i64 x.2.1),.agg (encFrame x.2.2)]) (fun x=>x.1.length ≤ 4398046511104) (fun _ x=>.v (.int .i64 (child x.1 x.2.1 x.2.2))) (fun _ _=>[])
theorem hit_yes {N : List Node} {p : Int} {f : Frame} {k : Nat} (hk : k < N.length) (hf : ∀ j (hj : j < N.length),j < k → hitNode p f N[j] = false) (h : N[k].parent = p ∧ N[k].name = f.name ∧ N[k].line = f.line) : child N p f = k :=
 firstIdx_hit hk hf (by
  obtain ⟨a,b⟩ := f
  simp only at h
  simp [hitNode,nodeFr,h])
theorem hit_no {p : Int} {f : Frame} {x : Node} (h : ¬ x.parent = p ∨ ¬ x.name = f.name ∨ ¬ x.line = f.line) : hitNode p f x = false := by
 obtain ⟨a,b⟩ := f
 simp only at h
 simp only [hitNode,nodeFr,Bool.and_eq_false_iff,decide_eq_false_iff_not,Frame.mk.injEq,not_and]
 rcases h with h|h|h
 ·exact .inl h
 ·exact .inr fun e=>absurd e h
 ·exact .inr fun _=>h
theorem cChildS : Cn Try.prog 75 kChild := by
 refine Cn.pur Try.func75 (by kernel_rfl) rfl fun d x hx=>?_
 obtain ⟨N,p,f⟩ := x
 simp only at hx ⊢
 refine Holds.go (c := cx0) Try.func75 rfl Try.results75 Try.ntmps75 (by omega) (by simp) rfl ?_
 intro X0 w0
 (repeat' (first|apply zS|apply zB|((first|apply zR|apply zC|apply zT|apply zE|apply zK| refine zD 18 (by decide +kernel) (by kernel_rfl) ?_); simp only [go_sem,encFrame])|apply And.intro|intro _))
 all_goals first|omega|skip
 refine zL (fun k : Nat=>⟨[(1,.v (.int .i64 p)),(3,.ptr 3 0 0 0),(5,.ptr 5 0 0 0),(7,.v (.int .i64 k))],[(3,.box 43 [.sl 3 (N.map encNode)]),(5,.box 52 (encFrame f))]⟩) (fun k=>k ≤ N.length ∧ ∀ j (hj : j < N.length),j < k → hitNode p f N[j] = false) (fun k=>N.length - k) 0 (by simp) ?_ ?_
 ·(simp only [go_sem,encFrame] <;> (first|(and_intros <;> rfl)|simp))
 intro k ⟨hk,hf⟩
 by_cases hlt : k < N.length
 ·have h1 := rowAt_map encNode N k hlt
  (repeat' (first|apply zS|apply zB|((first|apply zR|apply zC|apply zT|apply zE|apply zK| refine zD 18 (by decide +kernel) (by kernel_rfl) ?_); simp only [go_sem,h1,encNode,encFrame])|apply And.intro|intro _))
  all_goals first|omega|skip
  ·rename_i he
   rw [hit_yes hlt hf he]
  ·rename_i he
   refine ⟨k + 1,⟨by omega,fun j hj hji=>?_⟩,by omega,by (first|(and_intros <;> rfl)|simp)⟩
   rcases Nat.lt_or_ge j k with hh|hh
   ·exact hf j hj hh
   ·have : j = k:=by omega
    subst this
    exact hit_no he
 ·(repeat' (first|apply zS|apply zB|((first|apply zR|apply zC|apply zT|apply zE|apply zK| refine zD 18 (by decide +kernel) (by kernel_rfl) ?_); simp only [go_sem])|apply And.intro|intro _))
  all_goals first|omega|skip
  rw [show child N p f = -1 from firstIdx_none fun i hi=>hf i hi (by omega)]
theorem cChildI : Cn Try.prog 103 kChild := by
 refine Cn.pur Try.func103 (by kernel_rfl) rfl fun d x hx=>?_
 obtain ⟨N,p,f⟩ := x
 simp only at hx ⊢
 refine Holds.go (c := cx0) Try.func103 rfl Try.results103 Try.ntmps103 (by omega) (by simp) rfl ?_
 intro X0 w0
 (repeat' (first|apply zS|apply zB|((first|apply zR|apply zC|apply zT|apply zE|apply zK);simp only [go_sem,encFrame])|apply And.intro|intro _))
 all_goals first|omega|skip
 refine zL (fun k : Nat=>⟨[(1,.v (.int .i64 p)),(5,.ptr 5 0 0 0),(10,.sl 3 (N.map encNode)),(11,.v (.int .i64 N.length)),(12,.v (.int .i64 k))],[(5,.box 52 (encFrame f))]⟩) (fun k=>k ≤ N.length ∧ ∀ j (hj : j < N.length),j < k → hitNode p f N[j] = false) (fun k=>N.length - k) 0 (by simp) ?_ ?_
 ·(simp only [go_sem,encFrame] <;> (first|(and_intros <;> rfl)|simp))
 intro k ⟨hk,hf⟩
 by_cases hlt : k < N.length
 ·have h1 := rowAt_map encNode N k hlt
  (repeat' (first|apply zS|apply zB|((first|apply zR|apply zC|apply zT|apply zE|apply zK);simp only [go_sem,h1,encNode,encFrame])|apply And.intro|intro _))
  all_goals first|omega|skip
  ·rename_i he
   rw [hit_yes hlt hf he]
  ·rename_i he
   refine ⟨k + 1,⟨by omega,fun j hj hji=>?_⟩,by omega,by (first|(and_intros <;> rfl)|simp)⟩
   rcases Nat.lt_or_ge j k with hh|hh
   ·exact hf j hj hh
   ·have : j = k:=by omega
    subst this
    exact hit_no he
 ·(repeat' (first|apply zS|apply zB|((first|apply zR|apply zC|apply zT|apply zE|apply zK);simp only [go_sem])|apply And.intro|intro _))
  all_goals first|omega|skip
  rw [show child N p f = -1 from firstIdx_none fun i hi=>hf i hi (by omega)]
theorem rlNode {N : List Node} {row : List SV} (h : row ∈ N.map encNode) : row.length = 3 := by
 obtain ⟨x,_,rfl⟩ := List.mem_map.1 h; rfl
theorem rlI {N : List Int} {row : List SV} (h : row ∈ N.map encI) : row.length = 1 := by
 obtain ⟨x,_,rfl⟩ := List.mem_map.1 h; rfl
def kCopyStk : Ctr := pur (fun args=>stkA args 0) (fun N=>[.agg [.sl 3 (N.map encNode)]]) (fun N=>N.length ≤ 4398046511104) (fun d _=>.agg [.own d]) (fun d N=>[(d,.sl 139 3 (N.map encNode))])
theorem cCopyStkI : Cn Try.prog 101 kCopyStk := by
 refine Cn.pur Try.func101 (by kernel_rfl) rfl fun d x hx=>?_
 rename List Node=>N
 refine Holds.go (c := cx0) Try.func101 rfl Try.results101 Try.ntmps101 (by omega) (by simp) rfl ?_
 intro X0 w0
 (repeat' (first|apply zS|apply zB|((first|apply zR|apply zC|apply zT|apply zE|apply zK);simp only [go_sem])|apply And.intro|intro _))
 all_goals first|omega|exact rlNode ‹_›|exact ⟨_,_,rfl,_,_,rfl,rfl⟩|skip
end Go.Proofs.Ytjjbcoigaejoaaa

namespace Go.Proofs
end Go.Proofs

namespace Go.Proofs.Ytjjbcoigaejoaaa
end Go.Proofs.Ytjjbcoigaejoaaa

namespace Go.Vc
section
variable {P : Program} {f : FuncId}
theorem Holds.val {args : List SV} {res : SV} {x : Value} (hR : ∀ (w : World) (X : Nat → Prop) (β : Nat → BV),R w X β res x)
  (h : ∀ (w : World) (X : Nat → Prop) (vs : List Value),Grd P w → vs.length = args.length → (∀ (i : Nat) (c : SV) (u : Value),args[i]? = some c → vs[i]? = some u → R w X (fun _=>nilB) c u) →
   Calls P f vs.toArray w fun e w'=>e = .returned x ∧ Go.RowKit.Below w.heap.size w w') : Holds P f args res [] := by
 intro w X vs hG hX hl ha
 refine (h w X vs hG hl ha).mono fun e w' ⟨he,hb⟩=>?_
 exact ⟨x,fun _=>nilB,he,hb,fun _=>rfl,hR _ _ _,⟨fun id ob hi=>(by cases hi),fun i j oi oj b hi=>(by cases hi)⟩,fun id ob b hi=>(by cases hi)⟩
theorem R.sl_form {w : World} {X : Nat → Prop} {β : Nat → BV} {s : Nat} {rows : List (List SV)} {v : Value} (h : R w X β (.sl s rows) v) :
  (rows = [] ∧ ∃ p cap,v = .slice p 0 cap) ∨ ∃ b off cap,v = .slice (some ⟨b,off,none⟩) rows.length cap ∧ ¬ X b ∧ b < w.heap.size ∧ rows.length ≤ cap ∧
   ∀ (i k : Nat) (row : List SV) (c : SV),rows[i]? = some row → row[k]? = some c → ∃ u,w.cell? ⟨b,off + (i * s + k),none⟩ = some u ∧ Rp w X c u := by
 have h := h.sl_inv
 cases h with
 |nil s p cap=>exact .inl ⟨rfl,p,cap,rfl⟩
 |sl b off cap us h1 h2 h3 h4 h5 h6 h7=>exact .inr ⟨b,off,cap,rfl,h1,h2,h3,fun i k row c hr hc=>⟨us i k,h5 i k row c hr hc,h7 i k row c hr hc⟩⟩
theorem ObR.sl_form {w : World} {X : Nat → Prop} {β : Nat → BV} {v : BV} {e s : Nat} {rows : List (List SV)} (h : ObR w X β v (.sl e s rows)) :
  (v = nilB ∧ rows = []) ∨ ∃ (b cap : Nat) (cur : Array Value) (us : Nat → Nat → Value),v = plain (.slice (some ⟨b,0,none⟩) rows.length cap) ∧ w.heap[b]? = some (.cells cur e (0,0)) ∧ rows.length ≤ cap ∧ cap ≤ maxLen ∧ cur.size = cap * s ∧
   (∀ (i : Nat) (row : List SV),rows[i]? = some row → row.length = s) ∧ ∀ (i k : Nat) (row : List SV) (c : SV),rows[i]? = some row → row[k]? = some c → cur[i * s + k]? = some (us i k) ∧ (us i k).oneCell' = true ∧ Rp w X c (us i k) := by
 cases h with
 |nil e s h=>exact .inl ⟨h,rfl⟩
 |sl b cap cur us hv hh h1 h2 h3 h4 h5 h6 h7=>exact .inr ⟨b,cap,cur,us,hv,hh,h1,h2,h3,h4,fun i k row c a b=>⟨h5 i k row c a b,h6 i k row c a b,h7 i k row c a b⟩⟩
structure Upd (w w' : World) (b e : Nat) (cur cur' : Array Value) : Prop where
 os : w'.os = w.os
 tape : w'.tape = w.tape
 output : w'.output = w.output
 size : w.heap.size ≤ w'.heap.size
 cells : w'.heap[b]? = some (.cells cur' e (0,0))
 len : cur'.size = cur.size
 other : ∀ k,k < w.heap.size → k ≠ b → w'.heap[k]? = w.heap[k]?
def vrows (rows : List (List Value)) : List (List SV) := rows.map fun r=>r.map SV.v
theorem vrows_get {rows : List (List Value)} {i k : Nat} {row : List SV} {c : SV} (hr : (vrows rows)[i]? = some row) (hc : row[k]? = some c) : ∃ r u,rows[i]? = some r ∧ r[k]? = some u ∧ c = .v u := by
 unfold vrows at hr
 rw [List.getElem?_map] at hr
 cases hx : rows[i]? with
 |none=>rw [hx] at hr; cases hr
 |some r =>
  rw [hx] at hr
  simp only [Option.map_some,Option.some.injEq] at hr
  subst hr
  rw [List.getElem?_map] at hc
  cases hu : r[k]? with
  |none=>rw [hu] at hc; cases hc
  |some u=>rw [hu] at hc; simp only [Option.map_some,Option.some.injEq] at hc; exact ⟨r,u,rfl,hu,hc.symm⟩
theorem vrows_len {rows : List (List Value)} {i s : Nat} {row : List SV} (hr : (vrows rows)[i]? = some row) (h : ∀ r ∈ rows,r.length = s) : row.length = s := by
 unfold vrows at hr
 rw [List.getElem?_map] at hr
 cases hx : rows[i]? with
 |none=>rw [hx] at hr; cases hr
 |some r =>
  rw [hx] at hr
  simp only [Option.map_some,Option.some.injEq] at hr
  subst hr
  simpa using h r (List.mem_of_getElem? hx)
theorem HoldsL.cells {e s : Nat} {rows rows' : List (List Value)} {rest : List SV} (hl0 : ∀ r ∈ rows,r.length = s) (hlr : rows'.length = rows.length) (hl1 : ∀ r ∈ rows',r.length = s)
  (hone : ∀ r ∈ rows',∀ u ∈ r,u.oneCell' = true)
  (hnil : rows = [] → ∀ (w : World) (us : List Value),us.length = rest.length → (∀ (i : Nat) (c : SV) (u : Value),rest[i]? = some c → us[i]? = some u → R w (fun _=>False) (fun _=>nilB) c u) →
   Calls P f ((Value.slice none 0 0 :: us).toArray) w fun en w'=>en = .returned (.tuple #[]) ∧ Go.RowKit.Below w.heap.size w w')
  (hrest : ∀ c ∈ rest,(∃ g,c = .fn g []) ∨ ∃ x,c = .v x)
  (h : ∀ (w : World) (b cap : Nat) (cur : Array Value) (us : List Value),Grd P w → w.heap[b]? = some (.cells cur e (0,0)) → rows.length ≤ cap → cap ≤ maxLen → cur.size = cap * s →
   (∀ (i k : Nat) (r : List Value) (u : Value),rows[i]? = some r → r[k]? = some u → cur[i * s + k]? = some u ∧ u.oneCell' = true) → us.length = rest.length →
   (∀ (i : Nat) (c : SV) (u : Value),rest[i]? = some c → us[i]? = some u → R w (fun _=>False) (fun _=>nilB) c u) →
   Calls P f ((Value.slice (some ⟨b,0,none⟩) rows.length cap :: us).toArray) w fun en w'=>en = .returned (.tuple #[]) ∧ ∃ cur',Upd w w' b e cur cur' ∧
    ∀ (i k : Nat) (r : List Value) (u : Value),rows'[i]? = some r → r[k]? = some u → cur'[i * s + k]? = some u) :
  HoldsL P f (.own 1000000 :: rest) [(1000000,.sl e s (vrows rows))] (.tup []) [] [(1000000,.sl e s (vrows rows'))] := by
 intro w X β vs hG hβ hX hl ha hobs hlent
 match vs,hl,ha with
 |v0 :: us,hl,ha =>
  have hv0 := (ha 0 _ v0 rfl rfl).own_inv
  subst hv0
  have hus : us.length = rest.length:=by simpa using hl
  have haR : ∀ (i : Nat) (c : SV) (u : Value),rest[i]? = some c → us[i]? = some u → R w (fun _=>False) (fun _=>nilB) c u := fun i c u hc hu=>by
   have h1 := ha (i + 1) c u (by simpa using hc) (by simpa using hu)
   rcases hrest c (List.mem_of_getElem? hc) with ⟨g,rfl⟩|⟨x,rfl⟩
   ·obtain ⟨cs,rfl,hcl,_⟩ := h1.fn_inv
    have : cs = [] := List.eq_nil_of_length_eq_zero (by simpa using hcl.symm)
    subst this
    exact .fn rfl fun k c u hk=>(by simp at hk)
   ·have := h1.v_inv; subst this; exact .p (.v _)
  have hO := hobs.1 1000000 (.sl e s (vrows rows)) (by simp [lk])
  have hnoblk : ∀ {id ob},lk id ([] ++ [(1000000,Ob.sl e s (vrows rows'))]) = some ob → id = 1000000 ∧ ob = .sl e s (vrows rows') := fun {id ob} hi=>by
   simp only [List.nil_append,lk] at hi
   split at hi
   ·rename_i he; cases hi; exact ⟨he,rfl⟩
   ·cases hi
  have inj : ∀ (β' : Nat → BV) (i j : Nat) (oi oj : Ob) (b : Nat),lk i ([] ++ [(1000000,Ob.sl e s (vrows rows'))]) = some oi → lk j ([] ++ [(1000000,Ob.sl e s (vrows rows'))]) = some oj → (β' i).ft b → (β' j).ft b → i = j :=
   fun β' i j oi oj b hi hj _ _=>(hnoblk hi).1.trans (hnoblk hj).1.symm
  have nilc : rows = [] → β 1000000 = nilB → Calls P f (((β 1000000).val :: us).toArray) w fun en w'=>∃ v β',en = .returned v ∧ w'.os = w.os ∧ w'.tape = w.tape ∧ w'.output = w.output ∧ w.heap.size ≤ w'.heap.size ∧
   (∀ b,b < w.heap.size → (¬ ∃ id ob,lk id [(1000000,Ob.sl e s (vrows rows))] = some ob ∧ (β id).ft b) → w'.heap[b]? = w.heap[b]?) ∧ (∀ i,(β' i).val.oneCell' = true) ∧ (∀ i ob,1000000 ≤ i → lk i [(1000000,Ob.sl e s (vrows rows))] = some ob → (β' i).val = (β i).val) ∧
   R w' (XX X β' ([] ++ [(1000000,Ob.sl e s (vrows rows'))])) β' (.tup []) v ∧ Obs w' X β' ([] ++ [(1000000,Ob.sl e s (vrows rows'))]) ∧
   ∀ id ob b,lk id ([] ++ [(1000000,Ob.sl e s (vrows rows'))]) = some ob → (β' id).ft b → w.heap.size ≤ b ∨ ∃ k o,lk k [(1000000,Ob.sl e s (vrows rows))] = some o ∧ (β k).ft b := fun hr hb0=>by
   rw [hb0]
   refine (hnil hr w us hus haR).mono fun en w' ⟨he,hb⟩=>?_
   have hr' : rows' = [] := List.eq_nil_of_length_eq_zero (by rw [hlr,hr]; rfl)
   refine ⟨_,β,he,hb.os,hb.tape,hb.output,hb.size,fun b hlt _=>hb.block b hlt,hβ,fun _ _ _ _=>rfl,.tup (us := []) rfl fun k c u hk=>(by simp at hk),⟨fun id ob hi=>?_,inj β⟩,fun id ob b hi hb=>.inr ⟨1000000,.sl e s (vrows rows),by simp [lk],by rw [(hnoblk hi).1] at hb; exact hb⟩⟩
   obtain ⟨rfl,rfl⟩ := hnoblk hi
   rw [hr',hb0]
   exact .nil e s rfl
  rcases hO.sl_form with ⟨h0,hrows⟩|⟨b,cap,cur,us0,hv,hh,h1,h2,h3,h4,h5⟩
  ·exact nilc (by simpa [vrows] using hrows) h0
  ·skip
   have hbv' : β 1000000 = plain (.slice (some ⟨b,0,none⟩) rows.length cap):=by rw [hv]; simp [vrows]
   have hcell : ∀ (i k : Nat) (r : List Value) (u : Value),rows[i]? = some r → r[k]? = some u → cur[i * s + k]? = some u ∧ u.oneCell' = true := fun i k r u hr hu=>by
    have e1 : (vrows rows)[i]? = some (r.map SV.v):=by unfold vrows; rw [List.getElem?_map,hr]; rfl
    have e2 : (r.map SV.v)[k]? = some (.v u):=by rw [List.getElem?_map,hu]; rfl
    obtain ⟨e5,e4,e3⟩ := h5 i k _ _ e1 e2
    generalize us0 i k = y at e3 e4 e5
    cases e3
    exact ⟨e5,e4⟩
   rw [hbv']
   refine (h w b cap cur us hG hh (by simpa [vrows] using h1) h2 h3 hcell hus haR).mono fun en w' ⟨he,cur',hU,hc'⟩=>?_
   have hblk : (β 1000000).ft b:=by rw [hbv']; rfl
   refine ⟨_,β,he,hU.os,hU.tape,hU.output,hU.size,fun k hk hn=>hU.other k hk fun hkb=>hn ⟨1000000,.sl e s (vrows rows),by simp [lk],by rw [hkb]; exact hblk⟩,hβ,fun _ _ _ _=>rfl,.tup (us := []) rfl fun k c u hk=>(by simp at hk),⟨fun id ob hi=>?_,inj β⟩,fun id ob b hi hb=>.inr ⟨1000000,.sl e s (vrows rows),by simp [lk],by rw [(hnoblk hi).1] at hb; exact hb⟩⟩
   obtain ⟨rfl,rfl⟩ := hnoblk hi
   rw [hbv']
   refine .sl b cap cur' (fun i k=>(cur'[i * s + k]?).getD undef) (by simp [vrows,hlr]) hU.cells (by simpa [vrows,hlr] using h1) h2 (by rw [hU.len]; exact h3) (fun i row hr=>vrows_len hr hl1) (fun i k row c hr hc=>?_) (fun i k row c hr hc=>?_) (fun i k row c hr hc=>?_)
   ·obtain ⟨r,u,g1,g2,rfl⟩ := vrows_get hr hc
    rw [hc' i k r u g1 g2]; rfl
   ·obtain ⟨r,u,g1,g2,rfl⟩ := vrows_get hr hc
    rw [hc' i k r u g1 g2]; exact hone r (List.mem_of_getElem? g1) u (List.mem_of_getElem? g2)
   ·obtain ⟨r,u,g1,g2,rfl⟩ := vrows_get hr hc
    rw [hc' i k r u g1 g2]; exact .v u
end
section
variable {P : Program} {w : World}
theorem Grd.block (h : Grd P w) (h0 : P.globals.size ≠ 0) : ∃ W0 : World, W0.ShapedOpen P ∧ ((P.globalNamed "internal/strconv.uint64pow10").isSome = true → W0.var? P "internal/strconv.uint64pow10" = some (pow10s.map fun z => Value.int .u64 z).toArray) ∧ ∀ b, b < P.globals.size → w.heap[b]? = W0.heap[b]? := by
 rcases h with h|⟨_,h⟩
 ·exact absurd h h0
 ·exact h
end
end Go.Vc

namespace Go.Proofs.Ytjjbcoigaejoaaa
open Go.Vc
attribute [local irreducible] Go.Vc.WP
attribute [local go_sem] cx0_t cx0_c
open Go.RowKit (Below)
end Go.Proofs.Ytjjbcoigaejoaaa

namespace Go.Proofs.Ytjjbcoigaejoaaa
open Go.Vc
attribute [local irreducible] Go.Vc.WP
attribute [local go_sem] cx0_t cx0_c
attribute [local go_sem] decNode_enc decFrame_enc oneFrame_enc stkA oneFrame_ab oneNode_abc decI_enc decS_enc
section
end
section
attribute [local go_sem] kNameOk k60
end
section
attribute [local go_sem] kFrOk
end
end Go.Proofs.Ytjjbcoigaejoaaa

