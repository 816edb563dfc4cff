/-
  DERIVED. Several texts of ours in one: VtTkOk, VcRt, VtGenE, VpNest, VtLine2, VcW, VcAt, VtGenB, VcFi, VcDb, VtGenD, VtGenP, VpGenQ, VcDel, VcCt, VcMd, VtGenQ, VtGenR, VtBgAt, VtPrf, VcPn.
-/
import Derived.Test.YtjjbcoigaejoaaaVd0
import Derived.Test.YtjjbcoigaejoaaaVd1
import Derived.Test.YtjjbcoigaejoaaaVd2
import Derived.Test.YtjjbcoigaejoaaaVd3
import Derived.Test.YtjjbcoigaejoaaaVd4
import Derived.Test.YtjjbcoigaejoaaaVd5
set_option linter.unusedSimpArgs false
set_option linter.unusedVariables false
set_option maxHeartbeats 1000000
set_option maxRecDepth 10000
namespace Go.Proofs.Ytjjbcoigaejoaaa
open Go.Vc
attribute [local irreducible] Go.Vc.WP
attribute [local go_sem] cx0_t cx0_c
attribute [local go_sem] decTok_enc
theorem oneTok_f (k n : Int) (s : ByteArray) : oneTok [.v (.int .i64 k),.v (.int .i64 n),.v (.string s)] = ⟨k,n,s⟩ := rfl
attribute [local go_sem] oneTok_f
def smTok (t : Tok) : Prop := t.name.size ≤ 1099511627776
def smToks (L : List Tok) : Prop := L.length ≤ 1048576 ∧ ∀ t ∈ L,smTok t
def kTokOk : Ctr := pur (fun args=>oneTok (aC args 0)) (fun x=>[.agg [.v (.int .i64 x.kind),.v (.int .i64 x.num),.v (.string x.name)]]) smTok (fun _ x=>.v (.bool (tokOk x))) (fun _ _=>[])
def kArity : Ctr := pur (fun args=>oneTok (aC args 0)) (fun x=>[.agg [.v (.int .i64 x.kind),.v (.int .i64 x.num),.v (.string x.name)]]) smTok (fun _ x=>.v (.int .i64 (arity x))) (fun _ _=>[])
def kEnd : Ctr := pur (fun args=>(decTok (aR args 0),aI args 1)) (fun x=>[.sl 3 (x.1.map encTok),.v (.int .i64 x.2)]) (fun x=>smToks x.1) (fun _ x=>.v (.int .i64 (exprEnd x.1 x.2))) (fun _ _=>[])
def kExOk : Ctr := pur (fun args=>decTok (aR args 0)) (fun x=>[.sl 3 (x.map encTok)]) smToks (fun _ x=>.v (.bool (exprOk x))) (fun _ _=>[])
theorem tokOk_0 (n : Int) (s : ByteArray) : tokOk ⟨0,n,s⟩ = (decide (0 ≤ n) && decide (n ≤ 999) && decide (s = ⟨#[]⟩)) := rfl
theorem tokOk_1 (n : Int) (s : ByteArray) : tokOk ⟨1,n,s⟩ = ((n == 0) && nameOk s) := rfl
theorem tokOk_7 (n : Int) (s : ByteArray) : tokOk ⟨7,n,s⟩ = (decide (0 ≤ n) && decide (n ≤ 4) && nameOk s) := rfl
theorem tokOk_o {k n : Int} {s : ByteArray} (h0 : ¬ k = 0) (h1 : ¬ k = 1) (h7 : ¬ k = 7) : tokOk ⟨k,n,s⟩ = (decide (2 ≤ k) && decide (k ≤ 6) && (n == 0) && decide (s = ⟨#[]⟩)) := by
 unfold tokOk; rw [if_neg h0,if_neg h1,if_neg h7]; rfl
section
noncomputable def cxTkI := mkX [(35,k60),(105,kNameOk)] (COk.cons c60 (COk.cons cNameOkI (COk.nil _)))
theorem cxTkI_t : cxTkI.tys = tys := rfl
theorem cxTkI_c : cxTkI.C = [(35,k60),(105,kNameOk)] := rfl
attribute [local go_sem] cxTkI_t cxTkI_c k60 kNameOk
theorem cTokOkI : Cn Try.prog 123 kTokOk := by
 refine Cn.pur Try.func123 (by kernel_rfl) rfl fun d x hx=>?_
 obtain ⟨k,n,s⟩ := x
 unfold smTok at hx
 simp only at hx
 refine Holds.go (c := cxTkI) Try.func123 rfl Try.results123 Try.ntmps123 (by omega) (by simp) rfl ?_
 intro X0 w0
 by_cases h0 : k = 0
 ·subst h0
  rw [tokOk_0]
  (repeat' (first|apply zS|apply zB|((first|apply zR|apply zC|apply zT|apply zE|apply zK);simp only [go_sem])|apply And.intro|intro _))
  all_goals first|omega|skip
 ·by_cases h7 : k = 7
  ·subst h7
   rw [tokOk_7]
   (repeat' (first|apply zS|apply zB|((first|apply zR|apply zC|apply zT|apply zE|apply zK);simp only [go_sem])|apply And.intro|intro _))
   all_goals first|omega|skip
  ·by_cases h1 : k = 1
   ·subst h1
    rw [tokOk_1]
    (repeat' (first|apply zS|apply zB|((first|apply zR|apply zC|apply zT|apply zE|apply zK);simp only [go_sem])|apply And.intro|intro _))
    all_goals first|omega|skip
   ·rw [tokOk_o h0 h1 h7]
    (repeat' (first|apply zS|apply zB|((first|apply zR|apply zC|apply zT|apply zE|apply zK);simp only [go_sem,h0,h1,h7])|apply And.intro|intro _))
    all_goals first|omega|skip
end
section
noncomputable def cxTkS := mkX [(33,k60),(94,kNameOk)] (COk.cons c58 (COk.cons cNameOkS (COk.nil _)))
theorem cxTkS_t : cxTkS.tys = tys := rfl
theorem cxTkS_c : cxTkS.C = [(33,k60),(94,kNameOk)] := rfl
attribute [local go_sem] cxTkS_t cxTkS_c k60 kNameOk
theorem cTokOkS : Cn Try.prog 116 kTokOk := by
 refine Cn.pur Try.func116 (by kernel_rfl) rfl fun d x hx=>?_
 obtain ⟨k,n,s⟩ := x
 unfold smTok at hx
 simp only at hx
 refine Holds.go (c := cxTkS) Try.func116 rfl Try.results116 Try.ntmps116 (by omega) (by simp) rfl ?_
 intro X0 w0
 by_cases h0 : k = 0
 ·subst h0
  rw [tokOk_0]
  (repeat' (first|apply zS|apply zB|((first|apply zR|apply zC|apply zT|apply zE|apply zK);simp only [go_sem])|apply And.intro|intro _))
  all_goals first|omega|skip
 ·by_cases h7 : k = 7
  ·subst h7
   rw [tokOk_7]
   (repeat' (first|apply zS|apply zB|((first|apply zR|apply zC|apply zT|apply zE|apply zK);simp only [go_sem])|apply And.intro|intro _))
   all_goals first|omega|skip
  ·by_cases h1 : k = 1
   ·subst h1
    rw [tokOk_1]
    (repeat' (first|apply zS|apply zB|((first|apply zR|apply zC|apply zT|apply zE|apply zK);simp only [go_sem])|apply And.intro|intro _))
    all_goals first|omega|skip
   ·rw [tokOk_o h0 h1 h7]
    by_cases hr : 0 ≤ k ∧ k ≤ 7
    ·have e1 : decide (2 ≤ k) = true:=by simp; omega
     have e2 : decide (k ≤ 6) = true:=by simp; omega
     have e3 := hr.1
     have e4 := hr.2
     rw [e1,e2]
     (repeat' (first|apply zS|apply zB|((first|apply zR|apply zC|apply zT|apply zE|apply zK);simp only [go_sem,h0,h1,h7,e3,e4])|apply And.intro|intro _))
     all_goals first|omega|skip
    ·have e : (decide (2 ≤ k) && decide (k ≤ 6)) = false:=by simp; omega
     have e3 : (decide (0 ≤ k) && decide (k ≤ 7)) = false:=by simp; omega
     rw [e]
     (repeat' (first|apply zS|apply zB|((first|apply zR|apply zC|apply zT|apply zE|apply zK);simp only [go_sem,h0,h1,h7,e3])|apply And.intro|intro _))
     all_goals first|omega|skip
end
section
noncomputable def cxArI := mkX [(123,kTokOk)] (COk.cons cTokOkI (COk.nil _))
theorem cxArI_t : cxArI.tys = tys := rfl
theorem cxArI_c : cxArI.C = [(123,kTokOk)] := rfl
attribute [local go_sem] cxArI_t cxArI_c kTokOk
theorem cArityI : Cn Try.prog 120 kArity := by
 refine Cn.pur Try.func120 (by kernel_rfl) rfl fun d x hx=>?_
 obtain ⟨k,n,s⟩ := x
 unfold smTok at hx
 simp only at hx
 refine Holds.go (c := cxArI) Try.func120 rfl Try.results120 Try.ntmps120 (by omega) (by simp) rfl ?_
 intro X0 w0
 cases h : tokOk ⟨k,n,s⟩ with
 |false =>
  have e : arity ⟨k,n,s⟩ = -1:=by unfold arity; rw [h]; rfl
  rw [e]
  (repeat' (first|apply zS|apply zB|((first|apply zR|apply zC|apply zT|apply zE|apply zK);simp only [go_sem,h])|apply And.intro|intro _))
  all_goals first|omega|exact hx|skip
 |true =>
  have e : arity ⟨k,n,s⟩ = (arN ⟨k,n,s⟩ : Int):=by unfold arity; rw [h]; rfl
  rw [e]
  have hc := tokOk_cases h
  simp only at hc
  by_cases h7 : k = 7
  ·have e2 : (arN ⟨k,n,s⟩ : Int) = n:=by unfold arN; rw [if_pos h7]; show ((n.toNat : Nat) : Int) = n; omega
   rw [e2]
   subst h7
   (repeat' (first|apply zS|apply zB|((first|apply zR|apply zC|apply zT|apply zE|apply zK);simp only [go_sem,h])|apply And.intro|intro _))
   all_goals first|omega|exact hx|skip
  ·by_cases h01 : k = 0 ∨ k = 1
   ·have e2 : (arN ⟨k,n,s⟩ : Int) = 0:=by unfold arN; rw [if_neg h7,if_pos h01]; rfl
    rw [e2]
    (repeat' (first|apply zS|apply zB|((first|apply zR|apply zC|apply zT|apply zE|apply zK);simp only [go_sem,h,h7,h01])|apply And.intro|intro _))
    all_goals first|omega|exact hx|skip
   ·have e2 : (arN ⟨k,n,s⟩ : Int) = 2:=by unfold arN; rw [if_neg h7,if_neg h01]; rfl
    rw [e2]
    (repeat' (first|apply zS|apply zB|((first|apply zR|apply zC|apply zT|apply zE|apply zK);simp only [go_sem,h,h7,h01])|apply And.intro|intro _))
    all_goals first|omega|exact hx|skip
end
section
noncomputable def cxArS := mkX [(116,kTokOk)] (COk.cons cTokOkS (COk.nil _))
theorem cxArS_t : cxArS.tys = tys := rfl
theorem cxArS_c : cxArS.C = [(116,kTokOk)] := rfl
attribute [local go_sem] cxArS_t cxArS_c kTokOk
theorem cArityS : Cn Try.prog 98 kArity := by
 refine Cn.pur Try.func98 (by kernel_rfl) rfl fun d x hx=>?_
 obtain ⟨k,n,s⟩ := x
 unfold smTok at hx
 simp only at hx
 refine Holds.go (c := cxArS) Try.func98 rfl Try.results98 Try.ntmps98 (by omega) (by simp) rfl ?_
 intro X0 w0
 cases h : tokOk ⟨k,n,s⟩ with
 |false =>
  have e : arity ⟨k,n,s⟩ = -1:=by unfold arity; rw [h]; rfl
  rw [e]
  (repeat' (first|apply zS|apply zB|((first|apply zR|apply zC|apply zT|apply zE|apply zK);simp only [go_sem,h])|apply And.intro|intro _))
  all_goals first|omega|exact hx|skip
 |true =>
  have e : arity ⟨k,n,s⟩ = (arN ⟨k,n,s⟩ : Int):=by unfold arity; rw [h]; rfl
  rw [e]
  have hc := tokOk_cases h
  simp only at hc
  by_cases h7 : k = 7
  ·have e2 : (arN ⟨k,n,s⟩ : Int) = n:=by unfold arN; rw [if_pos h7]; show ((n.toNat : Nat) : Int) = n; omega
   rw [e2]
   subst h7
   (repeat' (first|apply zS|apply zB|((first|apply zR|apply zC|apply zT|apply zE|apply zK);simp only [go_sem,h])|apply And.intro|intro _))
   all_goals first|omega|exact hx|skip
  ·by_cases h01 : k = 0 ∨ k = 1
   ·have e2 : (arN ⟨k,n,s⟩ : Int) = 0:=by unfold arN; rw [if_neg h7,if_pos h01]; rfl
    rw [e2]
    (repeat' (first|apply zS|apply zB|((first|apply zR|apply zC|apply zT|apply zE|apply zK);simp only [go_sem,h,h7,h01])|apply And.intro|intro _))
    all_goals first|omega|exact hx|skip
   ·have e2 : (arN ⟨k,n,s⟩ : Int) = 2:=by unfold arN; rw [if_neg h7,if_neg h01]; rfl
    rw [e2]
    (repeat' (first|apply zS|apply zB|((first|apply zR|apply zC|apply zT|apply zE|apply zK);simp only [go_sem,h,h7,h01])|apply And.intro|intro _))
    all_goals first|omega|exact hx|skip
end
section
attribute [local go_sem] kTokOk
end
section
attribute [local go_sem] kTokOk
end
end Go.Proofs.Ytjjbcoigaejoaaa

namespace Go.Vc
def St.stepGd (tys : List (Nat × TyD)) (C : List (FuncId × Ctr)) (N : Nat) (ops : Array Oper) (o : Oper) (st : St) (K : St → Prop) : Prop :=
 match o.guard with
 |none=>st.step tys C N ops o K
 |some (j,want)=>match (ops[j]?).bind (·.dst) with
  |some t=>match guardB want (st.get t) with
   |some false=>dstOk N o.dst = true ∧ K (st.put o.dst (.cond false (offV tys o)))
   |some true=>st.stepU tys C N o K
   |none=>False
  |none=>False
def St.runGd (tys : List (Nat × TyD)) (C : List (FuncId × Ctr)) (N : Nat) (ops : Array Oper) : List Oper → St → (St → Prop) → Prop
 | [],st,K=>K st
 |o :: l,st,K=>st.stepGd tys C N ops o fun st'=>St.runGd tys C N ops l st' K
section
variable {P : Program} {tys : List (Nat × TyD)} {C : List (FuncId × Ctr)} {N : Nat} {X0 : Nat → Prop} {M : Nat → BV → Prop} {w0 : World} {st : St} {β : Nat → BV} {a : Act} {w : World}
theorem stepGd_sound (hA : Ap P X0 M w0) (hty : ∀ T d,lk T tys = some d → TyOk P T d) (hC : COk P C) (h : Sim N X0 M w0 st β a w) {ops : Array Oper} {o : Oper} {K : St → Prop} (hw : st.stepGd tys C N ops o K) {Q : Exit → Act → World → Prop} :
  if Region.wanted o (yielded ops a.tmps) then o.wp P a w (Ok N X0 M w0 K) Q else Ok N X0 M w0 K (a.put o.dst undef) w := by
 unfold St.stepGd at hw
 cases hg : o.guard with
 |none=>rw [hg] at hw; exact step_sound hA hty hC h hw
 |some gw =>
  obtain ⟨j,want⟩ := gw
  rw [hg] at hw
  simp only at hw
  split at hw
  case h_2=>exact hw.elim
  case h_1 _ t ht =>
   split at hw
   case h_3=>exact hw.elim
   case h_2 _ hc =>
    have hwt := wanted_eq h hg ht hc
    rw [hwt,if_pos rfl]
    exact stepU_sound hA hty hC h hw
   case h_1 _ hc =>
    have hwt := wanted_eq h hg ht hc
    rw [hwt,if_neg (by simp)]
    obtain ⟨hd,hK⟩ := hw
    cases hdd : o.dst with
    |none=>rw [hdd] at hK; exact ⟨_,β,hK,h⟩
    |some d=>rw [hdd] at hK hd; exact ⟨_,β,hK,h.put (by simpa [dstOk] using hd) (.cond (fun hh=>by cases hh) fun _=>rfl)⟩
theorem runGd_sound (hA : Ap P X0 M w0) (hty : ∀ T d,lk T tys = some d → TyOk P T d) (hC : COk P C) {ops : Array Oper} {K : St → Prop} {Q : Exit → Act → World → Prop} (hQ : ∀ a w,Ok N X0 M w0 K a w → Q .normal a w) :
  ∀ (l : List Oper) {st : St} {β : Nat → BV} {a : Act} {w : World},Sim N X0 M w0 st β a w → St.runGd tys C N ops l st K → wpList P ops Q l a w
 | [],st,β,a,w,h,hw=>hQ a w ⟨st,β,hw,h⟩
 |o :: l,st,β,a,w,h,hw=>by
  have h1 := stepGd_sound (Q := Q) hA hty hC h hw
  unfold wpList
  split
  ·rename_i hwt
   rw [if_pos hwt] at h1
   exact .inl (Oper.wp_mono (fun a' w' ⟨st',β',h2,h3⟩=>runGd_sound hA hty hC hQ l h3 h2) h1)
  ·rename_i hwt
   rw [if_neg hwt] at h1
   obtain ⟨st',β',h2,h3⟩ := h1
   exact runGd_sound hA hty hC hQ l h3 h2
end
section
variable {c : Cx} {N : Nat} {X0 : Nat → Prop} {M : Nat → BV → Prop} {w0 : World} {st : St} {K : Exit → St → Prop}
theorem WP.regionGd {id : Nat} {l : List Oper} (h : St.runGd c.tys c.C N l.toArray l st (K .normal)) : WP c N X0 M w0 (.region id l.toArray false) st K := fun hA β a w hs =>
 wp_region_lit (runGd_sound hA c.hty c.hC (fun a w hk=>hk) l hs h)
end
end Go.Vc

namespace Go.Proofs.Ytjjbcoigaejoaaa
open Go.Vc
attribute [local irreducible] Go.Vc.WP
attribute [local go_sem] cx0_t cx0_c
def fl06d24dbb7c : List Go.Vc.Fp := [⟨[4],[],[],[],[],[]⟩,⟨[13],[],[],[],[],[]⟩,⟨[64,65],[0,1],[],[],[],[]⟩,⟨[66],[0,1,2],[],[],[],[]⟩,⟨[3],[],[],[],[],[]⟩,⟨[13],[],[],[],[],[]⟩,⟨[68,69],[4,5],[],[],[],[]⟩,⟨[70],[4,5,6],[],[],[],[]⟩,⟨[],[0,1,2,3,4,5,6,7],[],[],[],[]⟩,⟨[],[0,1,2,3,4,5,6,7,8],[],[],[],[]⟩,⟨[],[0,1,2,3,4,5,6,7,8,9],[],[],[],[]⟩]
attribute [local go_sem] fl06d24dbb7c
attribute [local go_sem] decCur_abc decU_enc decS_enc decI_enc decTok_enc oneTok_f cur_eta St.thr St.offO pureBox St.thrC St.thrK St.dltTK St.runTG St.has1 St.fzS addL behind St.stepGd St.runGd
theorem decCur_e (c : Cur) : decCur [.sl 1 (c.b.map encU),.v (.int .i64 c.i),.v (.int .i64 c.h)] = c := decCur_enc c
attribute [local go_sem] decCur_e
theorem n6a : nums6.length ≤ 256:=by decide
theorem n6b : 0 < nums6.length:=by decide
theorem rowT_ln {L : List Tok} {r : List SV} (h : r ∈ L.map encTok) : r.length = 3:=by obtain ⟨n,_,rfl⟩ := List.mem_map.1 h; rfl
def kOnce : Ctr := len [0] [] (fun args obs=>(decCur (oC obs 1000000),aI args 1)) (fun x=>[.ptr 1000000 0 0 0,.v (.int .i64 x.2)]) (fun x=>[(1000000,.box 104 (encCur x.1))]) (fun x=>CurOk x.1 ∧ x.2 ≤ 256)
 (fun _ x=>.v (.bool (decide (belowV x.1 x.2 = 0)))) (fun _ _=>[]) (fun x=>[(1000000,.box 104 (encCur (belowC x.1 x.2)))])
section
noncomputable def cxOnc := mkX [(57,kBelow)] (COk.cons cBelowS (COk.nil _))
theorem cxOnc_t : cxOnc.tys = tys := rfl
theorem cxOnc_c : cxOnc.C = [(57,kBelow)] := rfl
attribute [local go_sem] cxOnc_t cxOnc_c kBelow
attribute [local go_sem] encCur
theorem cOnce : Cn Try.prog 58 kOnce := by
 refine Cn.len Try.func58 (by kernel_rfl) rfl fun d x hd hx=>?_
 obtain ⟨c,n⟩ := x
 obtain ⟨h1,h2⟩ := hx
 simp only at h1 h2 ⊢
 refine HoldsL.go (c := cxOnc) Try.func58 rfl Try.results58 Try.ntmps58 (by omega) (by simp) rfl (by simp <;> omega) (by simp [SV.owns2,SV.owns,SV.owns1]) (by simp) rfl rfl (by simp) ?_
 intro X0 M w0
 (repeat' (first|apply zS|apply zB|((first|apply zR|apply zC|apply zT|apply zE|apply zK);simp only [go_sem])|apply And.intro|intro _))
 all_goals first|omega|exact h1|rfl|skip
end
abbrev GX := Cur × Int × Gen
def aGX (args : List SV) (obs : List (Nat × Ob)) : GX := (decCur (oC obs 1000000),aI args 1,⟨decS (aR args 2),decS (aR args 3),decI (aR args 4)⟩)
attribute [local go_sem] aGX
def kExp (f : Nat) : Ctr := len [0] [] aGX (fun x=>[.ptr 1000000 0 0 0,.v (.int .i64 x.2.1),.sl 1 (x.2.2.vars.map encS),.sl 1 (x.2.2.names.map encS),.sl 1 (x.2.2.ars.map encI)]) (fun x=>[(1000000,.box 104 (encCur x.1))])
 (fun x=>CurOk x.1 ∧ GenOk x.2.2 ∧ 0 ≤ x.2.1 ∧ x.2.1 ≤ f)
 (fun d _=>.own d) (fun d x=>[(d,.sl 120 3 ((exprG x.2.2 x.2.1.toNat x.1).1.map encTok))]) (fun x=>[(1000000,.box 104 (encCur (exprG x.2.2 x.2.1.toNat x.1).2))])
theorem below_bv (c : Cur) {L : Nat} (h : 0 < L) : ∃ q : Nat,q < L ∧ belowV c L = (q : Int) := ⟨(belowV c L).toNat,belowV_nat h,by have := belowV_bd c (n := L) (by omega); omega⟩
section
attribute [local go_sem] encCur
noncomputable def cxEx0 := mkX [(57,kBelow),(58,kOnce),(114,kPickI)] (COk.cons cBelowS (COk.cons cOnce (COk.cons cPickIS (COk.nil _))))
theorem cxEx0_t : cxEx0.tys = tys := rfl
theorem cxEx0_c : cxEx0.C = [(57,kBelow),(58,kOnce),(114,kPickI)] := rfl
attribute [local go_sem] cxEx0_t cxEx0_c kBelow kOnce kPickI
set_option maxHeartbeats 4000000 in
theorem expBase : Cn Try.prog 93 (kExp 0) := by
 refine Cn.len Try.func93 (by kernel_rfl) rfl fun d x hd hx=>?_
 obtain ⟨c,m,G⟩ := x
 obtain ⟨hc,hG,hm0,hm1⟩ := hx
 simp only at hc hG hm0 hm1
 obtain rfl : m = 0:=by omega
 obtain ⟨vs,ns,rs⟩ := G
 have hvs := hG.vs
 have hns := hG.ns
 simp only at hvs hns
 have hc1 := CurOk.belowC hc 10
 have hc2 := CurOk.belowC hc1 2
 have e : exprG ⟨vs,ns,rs⟩ (0 : Int).toNat c = if belowV (belowC c 10) 2 = 0 then ([⟨1,0,vs.getD (belowV (belowC (belowC c 10) 2) vs.length).toNat nilB0⟩],belowC (belowC (belowC c 10) 2) vs.length) else ([⟨0,nums6.getD (belowV (belowC (belowC c 10) 2) 6).toNat 0,nilB0⟩],belowC (belowC (belowC c 10) 2) 6) := by
  rw [exprG,dif_neg (by simp),dif_neg (by simp)]
 simp only [e]
 refine HoldsL.go (c := cxEx0) Try.func93 rfl Try.results93 Try.ntmps93 (by omega) (by simp) rfl (by simp <;> omega) (by simp [SV.owns2,SV.owns,SV.owns1]) (by simp) rfl rfl (by simp) ?_
 intro X0 M w0
 have n2 : ¬ (2 : Int) < 0:=by omega
 have n1 : ¬ (1 : Int) < 0:=by omega
 have hvi : (0 : Int) < (vs.length : Nat):=by omega
 generalize hk : belowV c 10 = k at *
 generalize hC : belowC (belowC c 10) 2 = C at *
 have hd6 : decI [[SV.v (.int .i64 0)],[SV.v (.int .i64 1)],[SV.v (.int .i64 2)],[SV.v (.int .i64 3)],[SV.v (.int .i64 10)],[SV.v (.int .i64 999)]] = nums6 := rfl
 by_cases ho : belowV (belowC c 10) 2 = 0
 ·obtain ⟨q,q1,q2⟩ := below_bv C hvs.1
  have hr := rowAt_map encS vs q q1
  have hg : vs.getD q nilB0 = vs[q]:=by rw [List.getD_eq_getElem?_getD,List.getElem?_eq_getElem q1]; rfl
  simp only [if_pos ho,q2,Int.toNat_natCast,hg]
  (repeat' (first|apply zS|apply zB|((first|refine WP.regionGd (id := 14) ?_); simp only [go_sem,hk,hC,n2,n1,hvi,ho,q2,hr,encS])|((first|apply zR|apply zC|apply zT|apply zE|apply zK| refine zF 8 fl06d24dbb7c [64,65,66,67,68,69,70,71] [] [] (by decide +kernel) (by kernel_rfl) (by kernel_rfl) (by kernel_rfl) ?_); simp only [go_sem,hk,hC,n2,n1,hvi,ho,q2,hr,encS])|apply And.intro|intro _))
  all_goals first|omega|exact hc|exact hc1|exact hc2|exact ⟨_,_,_,rfl⟩|rfl|exact n6a|exact n6b|skip
 ·simp only [if_neg ho]
  (repeat' (first|apply zS|apply zB|((first|refine WP.regionGd (id := 14) ?_); simp only [go_sem,hk,hC,n2,n1,hvi,ho,hd6])|((first|apply zR|apply zC|apply zT|apply zE|apply zK| refine zF 8 fl06d24dbb7c [64,65,66,67,68,69,70,71] [] [] (by decide +kernel) (by kernel_rfl) (by kernel_rfl) (by kernel_rfl) ?_); simp only [go_sem,hk,hC,n2,n1,hvi,ho,hd6])|apply And.intro|intro _))
  all_goals first|omega|exact hc|exact hc1|exact hc2|exact ⟨_,_,_,rfl⟩|rfl|exact n6a|exact n6b|skip
end
section
attribute [local go_sem] encCur
noncomputable def cxExS (f : Nat) (h : Cn Try.prog 93 (kExp f)) : Cx := { P := Try.prog,tys := tys,C := [(57,kBelow),(58,kOnce),(114,kPickI),(93,kExp f)],hty := tysOk,hC := COk.cons cBelowS (COk.cons cOnce (COk.cons cPickIS (COk.cons h (COk.nil _)))) }
theorem cxExS_t (f : Nat) (h : Cn Try.prog 93 (kExp f)) : (cxExS f h).tys = tys := rfl
theorem cxExS_c (f : Nat) (h : Cn Try.prog 93 (kExp f)) : (cxExS f h).C = [(57,kBelow),(58,kOnce),(114,kPickI),(93,kExp f)] := rfl
attribute [local go_sem] cxExS_t cxExS_c kBelow kOnce kPickI kExp
set_option maxHeartbeats 8000000 in
theorem expStep (f : Nat) (hf : f ≤ 5) (ih : Cn Try.prog 93 (kExp f)) : Cn Try.prog 93 (kExp (f + 1)) := by
 refine Cn.len Try.func93 (by kernel_rfl) rfl fun d x hd hx=>?_
 obtain ⟨c,m,G⟩ := x
 obtain ⟨hc,hG,hm0,hm1⟩ := hx
 simp only at hc hG hm0 hm1
 obtain ⟨n,rfl⟩ := Int.eq_ofNat_of_zero_le hm0
 have hvs := hG.vs
 have hns := hG.ns
 have has := hG.same
 have hc1 := CurOk.belowC hc 10
 have hc2 := CurOk.belowC hc1 2
 have hc5 := CurOk.belowC hc1 5
 have hcn := CurOk.belowC hc1 G.names.length
 have hp : 2 ^ (f + 1) ≤ 64 := Nat.le_trans (Nat.pow_le_pow_right (by omega) (show f + 1 ≤ 6 by omega)) (by decide)
 have hok := fun (k : Nat) (c : Cur) (hk : k ≤ f) (h : CurOk c)=>exprG_ok hG f k c hk h
 simp only [Int.toNat_natCast]
 have hge : ∀ G : Gen,(⟨G.vars,G.names,G.ars⟩ : Gen) = G := fun _=>rfl
 refine HoldsL.go (c := (cxExS f ih)) Try.func93 rfl Try.results93 Try.ntmps93 (by omega) (by simp) rfl (by simp <;> omega) (by simp [SV.owns2,SV.owns,SV.owns1]) (by simp) rfl rfl (by simp) ?_
 intro X0 M w0
 have hb5 := belowV_bd (belowC c 10) (n := 5) (by omega)
 by_cases hA : 2 < n ∧ belowV c 10 < 5
 ·have n2 : (2 : Int) < (n : Int):=by omega
  have k5 := hA.2
  have hq : (n : Int).tdiv 2 = ((n / 2 : Nat) : Int) := rfl
  have tn : ((n / 2 : Nat) : Int).toNat = n / 2 := Int.toNat_natCast _
  have hnf : n / 2 ≤ f:=by omega
  obtain ⟨a1,a2,a3⟩ := hok (n / 2) _ hnf hc5
  obtain ⟨b1,b2,b3⟩ := hok (n / 2) _ hnf a1
  have e := exprG_A (G := G) hA
  simp only [e]
  generalize h1 : exprG G (n / 2) (belowC (belowC c 10) 5) = r1 at *
  generalize h2 : exprG G (n / 2) r1.2 = r2 at *
  (repeat' (first|apply zS|apply zB|((first|apply zR|apply zC|apply zT|apply zE|apply zK| refine zF 8 fl06d24dbb7c [64,65,66,67,68,69,70,71] [] [] (by decide +kernel) (by kernel_rfl) (by kernel_rfl) (by kernel_rfl) ?_); simp only [go_sem,n2,k5,hq,tn,hge,h1,h2])|apply And.intro|intro _))
  all_goals first|omega|exact hc|exact hc1|exact hc2|exact hc5|exact hcn|exact hG|exact ⟨_,_,_,rfl⟩|exact ⟨_,rfl,rfl⟩|rfl|exact rowT_ln ‹_›|exact n6a|exact n6b|skip
  all_goals first|exact a1|exact b1|(rw [List.map_append]; rfl)|skip
 by_cases hn2 : 2 < n
 ·have n2 : (2 : Int) < (n : Int):=by omega
  have k5 : ¬ belowV c 10 < 5 := fun q=>hA ⟨hn2,q⟩
  by_cases hB : 0 < G.names.length ∧ 1 < n ∧ belowV c 10 < 8
  ·have g1 : (0 : Int) < (G.names.length : Nat):=by omega
   have g2 : (1 : Int) < (n : Int):=by omega
   have g3 := hB.2.2
   obtain ⟨q,q1,q2⟩ := below_bv (belowC c 10) hB.1
   have qa : q < G.ars.length:=by omega
   have hra := rowAt_map encI G.ars q qa
   have hrn := rowAt_map encS G.names q q1
   have har := hG.ar _ (List.getElem_mem qa)
   have e := exprG_B hA hB
   have hga : G.ars.getD q 0 = G.ars[q]:=by rw [List.getD_eq_getElem?_getD,List.getElem?_eq_getElem qa]; rfl
   have hgn : G.names.getD q nilB0 = G.names[q]:=by rw [List.getD_eq_getElem?_getD,List.getElem?_eq_getElem q1]; rfl
   simp only [e,q2,Int.toNat_natCast,hga,hgn]
   obtain ⟨av,hav⟩ := Int.eq_ofNat_of_zero_le har.1
   generalize G.ars[q] = ar at hra har hav
   generalize G.names[q] = nm at hrn
   subst hav
   simp only [Int.toNat_natCast]
   have hq : (n : Int).tdiv 4 = ((n / 4 : Nat) : Int) := rfl
   have tn : ((n / 4 : Nat) : Int).toNat = n / 4 := Int.toNat_natCast _
   have hnf : n / 4 ≤ f:=by omega
   have hit := fun i=>iterG_ok (Q := fun t : Tok=>t.name.size ≤ 8) (B := 63) (fun c hc=>by
    obtain ⟨a,b,d⟩ := hok (n / 4) c hnf hc
    exact ⟨a,b,by omega⟩) i (belowC (belowC c 10) G.names.length) hcn
   generalize hC : belowC (belowC c 10) (G.names.length : Nat) = C at *
   (repeat' (first|apply zS|apply zB|((first|apply zR|apply zC|apply zT|apply zE|apply zK| refine zF 8 fl06d24dbb7c [64,65,66,67,68,69,70,71] [] [] (by decide +kernel) (by kernel_rfl) (by kernel_rfl) (by kernel_rfl) ?_); simp only [go_sem,n2,k5,g1,g2,g3,q2,hC,hra,hrn,encI,encS])|apply And.intro|intro _))
   all_goals first|omega|exact hc|exact hc1|exact hc2|exact hc5|exact hcn|exact hG|exact ⟨_,_,_,rfl⟩|exact ⟨_,rfl,rfl⟩|rfl|exact rowT_ln ‹_›|exact n6a|exact n6b|skip
   refine zL (fun i : Nat=>⟨[(0,.ptr 1000000 0 0 0),(1,.v (.int .i64 n)),(2,.sl 1 (G.vars.map encS)),(3,.sl 1 (G.names.map encS)),(4,.sl 1 (G.ars.map encI)),(13,.v (.int .i64 q)),(14,.own 73),(15,.v (.int .i64 i))],
    [(1000000,.box 104 (encCur (iterG (exprG G (n / 4)) i C).2)),(73,.sl 120 3 (((⟨7,(av : Int),nm⟩ : Tok) :: (iterG (exprG G (n / 4)) i C).1).map encTok))]⟩) (fun i=>i ≤ av) (fun i=>av - i) 0 (by omega) ?_ ?_
   ·(simp only [go_sem,iterG,encTok] <;> (first|(and_intros <;> rfl)|simp))
   intro i hi
   obtain ⟨i1,i2,i3⟩ := hit i
   by_cases hlt : i < av
   ·have hli : (i : Int) < (av : Int):=by omega
    obtain ⟨j1,j2,j3⟩ := hok (n / 4) _ hnf i1
    have hs1 : (iterG (exprG G (n / 4)) (i + 1) C).1 = (iterG (exprG G (n / 4)) i C).1 ++ (exprG G (n / 4) (iterG (exprG G (n / 4)) i C).2).1 := rfl
    have hs2 : (iterG (exprG G (n / 4)) (i + 1) C).2 = (exprG G (n / 4) (iterG (exprG G (n / 4)) i C).2).2 := rfl
    (repeat' (first|apply zS|apply zB|((first|apply zR|apply zC|apply zT|apply zE|apply zK| refine zF 8 fl06d24dbb7c [64,65,66,67,68,69,70,71] [] [] (by decide +kernel) (by kernel_rfl) (by kernel_rfl) (by kernel_rfl) ?_); simp only [go_sem,hli,hra,encI,hq,tn,hge])|apply And.intro|intro _))
    all_goals first|omega|exact hc|exact hc1|exact hc2|exact hc5|exact hcn|exact hG|exact ⟨_,_,_,rfl⟩|exact ⟨_,rfl,rfl⟩|rfl|exact rowT_ln ‹_›|exact n6a|exact n6b|skip
    all_goals first|exact i1|exact j1|exact ⟨i + 1,by omega,by omega,by rw [hs1,hs2,List.map_append]; (first|(and_intros <;> rfl)|simp)⟩|(simp only [List.length_cons,List.length_map]; omega)|skip
   ·have hge2 : ¬ (i : Int) < (av : Int):=by omega
    obtain rfl : i = av:=by omega
    (repeat' (first|apply zS|apply zB|((first|apply zR|apply zC|apply zT|apply zE|apply zK| refine zF 8 fl06d24dbb7c [64,65,66,67,68,69,70,71] [] [] (by decide +kernel) (by kernel_rfl) (by kernel_rfl) (by kernel_rfl) ?_); simp only [go_sem,hge2,hra,encI])|apply And.intro|intro _))
    all_goals first|omega|exact hc|exact hc1|exact hc2|exact hc5|exact hcn|exact hG|exact ⟨_,_,_,rfl⟩|exact ⟨_,rfl,rfl⟩|rfl|exact rowT_ln ‹_›|exact n6a|exact n6b|skip
  have e := exprG_C hA hB
  simp only [e]
  have hvi : (0 : Int) < (G.vars.length : Nat):=by omega
  generalize hC : belowC (belowC c 10) 2 = C at *
  have hd6 : decI [[SV.v (.int .i64 0)],[SV.v (.int .i64 1)],[SV.v (.int .i64 2)],[SV.v (.int .i64 3)],[SV.v (.int .i64 10)],[SV.v (.int .i64 999)]] = nums6 := rfl
  by_cases g1 : 0 < G.names.length
  rotate_left
  ·have g1i : ¬ (0 : Int) < (G.names.length : Nat):=by omega
   by_cases ho : belowV (belowC c 10) 2 = 0
   ·obtain ⟨q,q1,q2⟩ := below_bv C hvs.1
    have hr := rowAt_map encS G.vars q q1
    have hg : G.vars.getD q nilB0 = G.vars[q]:=by rw [List.getD_eq_getElem?_getD,List.getElem?_eq_getElem q1]; rfl
    simp only [if_pos ho,q2,Int.toNat_natCast,hg]
    (repeat' (first|apply zS|apply zB|((first|refine WP.regionGd (id := 14) ?_); simp only [go_sem,n2,k5,g1i,hC,hvi,ho,q2,hr,encS])|((first|apply zR|apply zC|apply zT|apply zE|apply zK| refine zF 8 fl06d24dbb7c [64,65,66,67,68,69,70,71] [] [] (by decide +kernel) (by kernel_rfl) (by kernel_rfl) (by kernel_rfl) ?_); simp only [go_sem,n2,k5,g1i,hC,hvi,ho,q2,hr,encS])|apply And.intro|intro _))
    all_goals first|omega|exact hc|exact hc1|exact hc2|exact hc5|exact hcn|exact hG|exact ⟨_,_,_,rfl⟩|exact ⟨_,rfl,rfl⟩|rfl|exact rowT_ln ‹_›|exact n6a|exact n6b|skip
   ·simp only [if_neg ho]
    (repeat' (first|apply zS|apply zB|((first|refine WP.regionGd (id := 14) ?_); simp only [go_sem,n2,k5,g1i,hC,hvi,ho,hd6])|((first|apply zR|apply zC|apply zT|apply zE|apply zK| refine zF 8 fl06d24dbb7c [64,65,66,67,68,69,70,71] [] [] (by decide +kernel) (by kernel_rfl) (by kernel_rfl) (by kernel_rfl) ?_); simp only [go_sem,n2,k5,g1i,hC,hvi,ho,hd6])|apply And.intro|intro _))
    all_goals first|omega|exact hc|exact hc1|exact hc2|exact hc5|exact hcn|exact hG|exact ⟨_,_,_,rfl⟩|exact ⟨_,rfl,rfl⟩|rfl|exact rowT_ln ‹_›|exact n6a|exact n6b|skip
  have g1i : (0 : Int) < (G.names.length : Nat):=by omega
  have g2i : (1 : Int) < (n : Int):=by omega
  have g3 : ¬ belowV c 10 < 8 := fun q=>hB ⟨g1,by omega,q⟩
  by_cases ho : belowV (belowC c 10) 2 = 0
  ·obtain ⟨q,q1,q2⟩ := below_bv C hvs.1
   have hr := rowAt_map encS G.vars q q1
   have hg : G.vars.getD q nilB0 = G.vars[q]:=by rw [List.getD_eq_getElem?_getD,List.getElem?_eq_getElem q1]; rfl
   simp only [if_pos ho,q2,Int.toNat_natCast,hg]
   (repeat' (first|apply zS|apply zB|((first|refine WP.regionGd (id := 14) ?_); simp only [go_sem,n2,k5,g1i,g2i,g3,hC,hvi,ho,q2,hr,encS])|((first|apply zR|apply zC|apply zT|apply zE|apply zK| refine zF 8 fl06d24dbb7c [64,65,66,67,68,69,70,71] [] [] (by decide +kernel) (by kernel_rfl) (by kernel_rfl) (by kernel_rfl) ?_); simp only [go_sem,n2,k5,g1i,g2i,g3,hC,hvi,ho,q2,hr,encS])|apply And.intro|intro _))
   all_goals first|omega|exact hc|exact hc1|exact hc2|exact hc5|exact hcn|exact hG|exact ⟨_,_,_,rfl⟩|exact ⟨_,rfl,rfl⟩|rfl|exact rowT_ln ‹_›|exact n6a|exact n6b|skip
  ·simp only [if_neg ho]
   (repeat' (first|apply zS|apply zB|((first|refine WP.regionGd (id := 14) ?_); simp only [go_sem,n2,k5,g1i,g2i,g3,hC,hvi,ho,hd6])|((first|apply zR|apply zC|apply zT|apply zE|apply zK| refine zF 8 fl06d24dbb7c [64,65,66,67,68,69,70,71] [] [] (by decide +kernel) (by kernel_rfl) (by kernel_rfl) (by kernel_rfl) ?_); simp only [go_sem,n2,k5,g1i,g2i,g3,hC,hvi,ho,hd6])|apply And.intro|intro _))
   all_goals first|omega|exact hc|exact hc1|exact hc2|exact hc5|exact hcn|exact hG|exact ⟨_,_,_,rfl⟩|exact ⟨_,rfl,rfl⟩|rfl|exact rowT_ln ‹_›|exact n6a|exact n6b|skip
 ·have n2 : ¬ (2 : Int) < (n : Int):=by omega
  by_cases hB : 0 < G.names.length ∧ 1 < n ∧ belowV c 10 < 8
  ·have g1 : (0 : Int) < (G.names.length : Nat):=by omega
   have g2 : (1 : Int) < (n : Int):=by omega
   have g3 := hB.2.2
   obtain ⟨q,q1,q2⟩ := below_bv (belowC c 10) hB.1
   have qa : q < G.ars.length:=by omega
   have hra := rowAt_map encI G.ars q qa
   have hrn := rowAt_map encS G.names q q1
   have har := hG.ar _ (List.getElem_mem qa)
   have e := exprG_B hA hB
   have hga : G.ars.getD q 0 = G.ars[q]:=by rw [List.getD_eq_getElem?_getD,List.getElem?_eq_getElem qa]; rfl
   have hgn : G.names.getD q nilB0 = G.names[q]:=by rw [List.getD_eq_getElem?_getD,List.getElem?_eq_getElem q1]; rfl
   simp only [e,q2,Int.toNat_natCast,hga,hgn]
   obtain ⟨av,hav⟩ := Int.eq_ofNat_of_zero_le har.1
   generalize G.ars[q] = ar at hra har hav
   generalize G.names[q] = nm at hrn
   subst hav
   simp only [Int.toNat_natCast]
   have hq : (n : Int).tdiv 4 = ((n / 4 : Nat) : Int) := rfl
   have tn : ((n / 4 : Nat) : Int).toNat = n / 4 := Int.toNat_natCast _
   have hnf : n / 4 ≤ f:=by omega
   have hit := fun i=>iterG_ok (Q := fun t : Tok=>t.name.size ≤ 8) (B := 63) (fun c hc=>by
    obtain ⟨a,b,d⟩ := hok (n / 4) c hnf hc
    exact ⟨a,b,by omega⟩) i (belowC (belowC c 10) G.names.length) hcn
   generalize hC : belowC (belowC c 10) (G.names.length : Nat) = C at *
   (repeat' (first|apply zS|apply zB|((first|apply zR|apply zC|apply zT|apply zE|apply zK| refine zF 8 fl06d24dbb7c [64,65,66,67,68,69,70,71] [] [] (by decide +kernel) (by kernel_rfl) (by kernel_rfl) (by kernel_rfl) ?_); simp only [go_sem,n2,g1,g2,g3,q2,hC,hra,hrn,encI,encS])|apply And.intro|intro _))
   all_goals first|omega|exact hc|exact hc1|exact hc2|exact hc5|exact hcn|exact hG|exact ⟨_,_,_,rfl⟩|exact ⟨_,rfl,rfl⟩|rfl|exact rowT_ln ‹_›|exact n6a|exact n6b|skip
   refine zL (fun i : Nat=>⟨[(0,.ptr 1000000 0 0 0),(1,.v (.int .i64 n)),(2,.sl 1 (G.vars.map encS)),(3,.sl 1 (G.names.map encS)),(4,.sl 1 (G.ars.map encI)),(13,.v (.int .i64 q)),(14,.own 73),(15,.v (.int .i64 i))],
    [(1000000,.box 104 (encCur (iterG (exprG G (n / 4)) i C).2)),(73,.sl 120 3 (((⟨7,(av : Int),nm⟩ : Tok) :: (iterG (exprG G (n / 4)) i C).1).map encTok))]⟩) (fun i=>i ≤ av) (fun i=>av - i) 0 (by omega) ?_ ?_
   ·(simp only [go_sem,iterG,encTok] <;> (first|(and_intros <;> rfl)|simp))
   intro i hi
   obtain ⟨i1,i2,i3⟩ := hit i
   by_cases hlt : i < av
   ·have hli : (i : Int) < (av : Int):=by omega
    obtain ⟨j1,j2,j3⟩ := hok (n / 4) _ hnf i1
    have hs1 : (iterG (exprG G (n / 4)) (i + 1) C).1 = (iterG (exprG G (n / 4)) i C).1 ++ (exprG G (n / 4) (iterG (exprG G (n / 4)) i C).2).1 := rfl
    have hs2 : (iterG (exprG G (n / 4)) (i + 1) C).2 = (exprG G (n / 4) (iterG (exprG G (n / 4)) i C).2).2 := rfl
    (repeat' (first|apply zS|apply zB|((first|apply zR|apply zC|apply zT|apply zE|apply zK| refine zF 8 fl06d24dbb7c [64,65,66,67,68,69,70,71] [] [] (by decide +kernel) (by kernel_rfl) (by kernel_rfl) (by kernel_rfl) ?_); simp only [go_sem,hli,hra,encI,hq,tn,hge])|apply And.intro|intro _))
    all_goals first|omega|exact hc|exact hc1|exact hc2|exact hc5|exact hcn|exact hG|exact ⟨_,_,_,rfl⟩|exact ⟨_,rfl,rfl⟩|rfl|exact rowT_ln ‹_›|exact n6a|exact n6b|skip
    all_goals first|exact i1|exact j1|exact ⟨i + 1,by omega,by omega,by rw [hs1,hs2,List.map_append]; (first|(and_intros <;> rfl)|simp)⟩|(simp only [List.length_cons,List.length_map]; omega)|skip
   ·have hge2 : ¬ (i : Int) < (av : Int):=by omega
    obtain rfl : i = av:=by omega
    (repeat' (first|apply zS|apply zB|((first|apply zR|apply zC|apply zT|apply zE|apply zK| refine zF 8 fl06d24dbb7c [64,65,66,67,68,69,70,71] [] [] (by decide +kernel) (by kernel_rfl) (by kernel_rfl) (by kernel_rfl) ?_); simp only [go_sem,hge2,hra,encI])|apply And.intro|intro _))
    all_goals first|omega|exact hc|exact hc1|exact hc2|exact hc5|exact hcn|exact hG|exact ⟨_,_,_,rfl⟩|exact ⟨_,rfl,rfl⟩|rfl|exact rowT_ln ‹_›|exact n6a|exact n6b|skip
  have e := exprG_C hA hB
  simp only [e]
  have hvi : (0 : Int) < (G.vars.length : Nat):=by omega
  generalize hC : belowC (belowC c 10) 2 = C at *
  have hd6 : decI [[SV.v (.int .i64 0)],[SV.v (.int .i64 1)],[SV.v (.int .i64 2)],[SV.v (.int .i64 3)],[SV.v (.int .i64 10)],[SV.v (.int .i64 999)]] = nums6 := rfl
  by_cases g1 : 0 < G.names.length
  rotate_left
  ·have g1i : ¬ (0 : Int) < (G.names.length : Nat):=by omega
   by_cases ho : belowV (belowC c 10) 2 = 0
   ·obtain ⟨q,q1,q2⟩ := below_bv C hvs.1
    have hr := rowAt_map encS G.vars q q1
    have hg : G.vars.getD q nilB0 = G.vars[q]:=by rw [List.getD_eq_getElem?_getD,List.getElem?_eq_getElem q1]; rfl
    simp only [if_pos ho,q2,Int.toNat_natCast,hg]
    (repeat' (first|apply zS|apply zB|((first|refine WP.regionGd (id := 14) ?_); simp only [go_sem,n2,g1i,hC,hvi,ho,q2,hr,encS])|((first|apply zR|apply zC|apply zT|apply zE|apply zK| refine zF 8 fl06d24dbb7c [64,65,66,67,68,69,70,71] [] [] (by decide +kernel) (by kernel_rfl) (by kernel_rfl) (by kernel_rfl) ?_); simp only [go_sem,n2,g1i,hC,hvi,ho,q2,hr,encS])|apply And.intro|intro _))
    all_goals first|omega|exact hc|exact hc1|exact hc2|exact hc5|exact hcn|exact hG|exact ⟨_,_,_,rfl⟩|exact ⟨_,rfl,rfl⟩|rfl|exact rowT_ln ‹_›|exact n6a|exact n6b|skip
   ·simp only [if_neg ho]
    (repeat' (first|apply zS|apply zB|((first|refine WP.regionGd (id := 14) ?_); simp only [go_sem,n2,g1i,hC,hvi,ho,hd6])|((first|apply zR|apply zC|apply zT|apply zE|apply zK| refine zF 8 fl06d24dbb7c [64,65,66,67,68,69,70,71] [] [] (by decide +kernel) (by kernel_rfl) (by kernel_rfl) (by kernel_rfl) ?_); simp only [go_sem,n2,g1i,hC,hvi,ho,hd6])|apply And.intro|intro _))
    all_goals first|omega|exact hc|exact hc1|exact hc2|exact hc5|exact hcn|exact hG|exact ⟨_,_,_,rfl⟩|exact ⟨_,rfl,rfl⟩|rfl|exact rowT_ln ‹_›|exact n6a|exact n6b|skip
  have g1i : (0 : Int) < (G.names.length : Nat):=by omega
  by_cases g2 : 1 < n
  rotate_left
  ·have g2i : ¬ (1 : Int) < (n : Int):=by omega
   by_cases ho : belowV (belowC c 10) 2 = 0
   ·obtain ⟨q,q1,q2⟩ := below_bv C hvs.1
    have hr := rowAt_map encS G.vars q q1
    have hg : G.vars.getD q nilB0 = G.vars[q]:=by rw [List.getD_eq_getElem?_getD,List.getElem?_eq_getElem q1]; rfl
    simp only [if_pos ho,q2,Int.toNat_natCast,hg]
    (repeat' (first|apply zS|apply zB|((first|refine WP.regionGd (id := 14) ?_); simp only [go_sem,n2,g1i,g2i,hC,hvi,ho,q2,hr,encS])|((first|apply zR|apply zC|apply zT|apply zE|apply zK| refine zF 8 fl06d24dbb7c [64,65,66,67,68,69,70,71] [] [] (by decide +kernel) (by kernel_rfl) (by kernel_rfl) (by kernel_rfl) ?_); simp only [go_sem,n2,g1i,g2i,hC,hvi,ho,q2,hr,encS])|apply And.intro|intro _))
    all_goals first|omega|exact hc|exact hc1|exact hc2|exact hc5|exact hcn|exact hG|exact ⟨_,_,_,rfl⟩|exact ⟨_,rfl,rfl⟩|rfl|exact rowT_ln ‹_›|exact n6a|exact n6b|skip
   ·simp only [if_neg ho]
    (repeat' (first|apply zS|apply zB|((first|refine WP.regionGd (id := 14) ?_); simp only [go_sem,n2,g1i,g2i,hC,hvi,ho,hd6])|((first|apply zR|apply zC|apply zT|apply zE|apply zK| refine zF 8 fl06d24dbb7c [64,65,66,67,68,69,70,71] [] [] (by decide +kernel) (by kernel_rfl) (by kernel_rfl) (by kernel_rfl) ?_); simp only [go_sem,n2,g1i,g2i,hC,hvi,ho,hd6])|apply And.intro|intro _))
    all_goals first|omega|exact hc|exact hc1|exact hc2|exact hc5|exact hcn|exact hG|exact ⟨_,_,_,rfl⟩|exact ⟨_,rfl,rfl⟩|rfl|exact rowT_ln ‹_›|exact n6a|exact n6b|skip
  have g2i : (1 : Int) < (n : Int):=by omega
  have g3 : ¬ belowV c 10 < 8 := fun q=>hB ⟨g1,by omega,q⟩
  by_cases ho : belowV (belowC c 10) 2 = 0
  ·obtain ⟨q,q1,q2⟩ := below_bv C hvs.1
   have hr := rowAt_map encS G.vars q q1
   have hg : G.vars.getD q nilB0 = G.vars[q]:=by rw [List.getD_eq_getElem?_getD,List.getElem?_eq_getElem q1]; rfl
   simp only [if_pos ho,q2,Int.toNat_natCast,hg]
   (repeat' (first|apply zS|apply zB|((first|refine WP.regionGd (id := 14) ?_); simp only [go_sem,n2,g1i,g2i,g3,hC,hvi,ho,q2,hr,encS])|((first|apply zR|apply zC|apply zT|apply zE|apply zK| refine zF 8 fl06d24dbb7c [64,65,66,67,68,69,70,71] [] [] (by decide +kernel) (by kernel_rfl) (by kernel_rfl) (by kernel_rfl) ?_); simp only [go_sem,n2,g1i,g2i,g3,hC,hvi,ho,q2,hr,encS])|apply And.intro|intro _))
   all_goals first|omega|exact hc|exact hc1|exact hc2|exact hc5|exact hcn|exact hG|exact ⟨_,_,_,rfl⟩|exact ⟨_,rfl,rfl⟩|rfl|exact rowT_ln ‹_›|exact n6a|exact n6b|skip
  ·simp only [if_neg ho]
   (repeat' (first|apply zS|apply zB|((first|refine WP.regionGd (id := 14) ?_); simp only [go_sem,n2,g1i,g2i,g3,hC,hvi,ho,hd6])|((first|apply zR|apply zC|apply zT|apply zE|apply zK| refine zF 8 fl06d24dbb7c [64,65,66,67,68,69,70,71] [] [] (by decide +kernel) (by kernel_rfl) (by kernel_rfl) (by kernel_rfl) ?_); simp only [go_sem,n2,g1i,g2i,g3,hC,hvi,ho,hd6])|apply And.intro|intro _))
   all_goals first|omega|exact hc|exact hc1|exact hc2|exact hc5|exact hcn|exact hG|exact ⟨_,_,_,rfl⟩|exact ⟨_,rfl,rfl⟩|rfl|exact rowT_ln ‹_›|exact n6a|exact n6b|skip
end
theorem cExp : ∀ f,f ≤ 6 → Cn Try.prog 93 (kExp f)
 | 0,_=>expBase
 |f + 1,h=>expStep f (by omega) (cExp f (by omega))
def kExp6 : Ctr := kExp 6
theorem cExp6 : Cn Try.prog 93 kExp6 := cExp 6 (by omega)
end Go.Proofs.Ytjjbcoigaejoaaa

namespace Go.Proofs.Ytjjbcoigaejoaaa
open Go.Vc
section
variable {α : Type} (cnt : α → Nat) (mrk : Int → α → α)
variable {cnt mrk}
end
end Go.Proofs.Ytjjbcoigaejoaaa

namespace Go.Proofs.Ytjjbcoigaejoaaa
open Go.Vc
attribute [local irreducible] Go.Vc.WP
attribute [local go_sem] cx0_t cx0_c
attribute [local go_sem] decS_enc decTok_enc decLine_enc oneLine_f line_eta ghoK St.gho St.gh SV.flat
theorem allVs_map {α : Type} {en : α → List SV} (h : ∀ x,∀ c ∈ en x,∃ v,c = SV.v v) (L : List α) : allVs (L.map en) ↔ True := iff_true_intro (by
 intro row hr c hc
 obtain ⟨n,_,rfl⟩ := List.mem_map.1 hr
 exact h n c hc)
theorem allVs_S (L : List ByteArray) : allVs (L.map encS) ↔ True := allVs_map (fun x c hc=>by simp only [encS,List.mem_cons,List.not_mem_nil,or_false] at hc; exact ⟨_,hc⟩) L
theorem allVs_Tok (L : List Tok) : allVs (L.map encTok) ↔ True := allVs_map (fun x c hc=>by simp only [encTok,List.mem_cons,List.not_mem_nil,or_false] at hc; rcases hc with rfl|rfl|rfl <;> exact ⟨_,rfl⟩) L
attribute [local go_sem] allVs_S allVs_Tok
section
end
section
end
section
attribute [local irreducible] shLine
end
section
end
end Go.Proofs.Ytjjbcoigaejoaaa

namespace Go.Vc
def rp (t : Nat) (ob : Ob) : List (Nat × Ob) → List (Nat × Ob)
 | []=>[]
 | (u,o) :: l=>(if u = t then (u,ob) else (u,o)) :: rp t ob l
theorem lk_rp {t : Nat} {ob : Ob} {j : Nat} : ∀ {l : List (Nat × Ob)} {o : Ob},lk j (rp t ob l) = some o → ∃ o0,lk j l = some o0 ∧ (j = t → o = ob) ∧ (j ≠ t → o = o0)
 | (u,o1) :: l,o,h=>by
  simp only [rp] at h
  by_cases hu : u = t
  ·rw [if_pos hu] at h
   simp only [lk] at h ⊢
   by_cases hj : j = u
   ·rw [if_pos hj] at h ⊢; cases h
    exact ⟨o1,rfl,fun _=>rfl,fun hn=>absurd (hj.trans hu) hn⟩
   ·rw [if_neg hj] at h ⊢; exact lk_rp h
  ·rw [if_neg hu] at h
   simp only [lk] at h ⊢
   by_cases hj : j = u
   ·rw [if_pos hj] at h ⊢; cases h
    exact ⟨_,rfl,fun e=>absurd (hj.symm.trans e) hu,fun _=>rfl⟩
   ·rw [if_neg hj] at h ⊢; exact lk_rp h
def isNil : SV → Bool
 | .v (.slice none 0 0)=>true
 | _=>false
def St.adoptB (st : St) (t k id e s : Nat) : St :=
 match lk t (st.kill id).hp with
 |some (.box e' cs)=>match cs[k]? with
  |some c=>if isNil c = true ∧ id < 1000000 ∧ t ≠ id then { fr := (st.kill id).fr,hp := rp t (.box e' (cs.set k (.own id))) ((id,.sl e s []) :: (st.kill id).hp) } else st
  |none=>st
 | _=>st
def St.adoptS (st : St) (t id e s : Nat) : St :=
 match lk t (st.kill id).fr with
 |some c=>if isNil c = true ∧ id < 1000000 then { fr := (t,.own id) :: er t (st.kill id).fr,hp := (id,.sl e s []) :: (st.kill id).hp } else st
 |none=>st
section
variable {c : Cx} {P : Program} {N : Nat} {X0 : Nat → Prop} {M : Nat → BV → Prop} {w0 : World} {st : St} {K : Exit → St → Prop}
theorem isNil_eq {x : SV} (h : isNil x = true) : x = .v (.slice none 0 0) := by
 unfold isNil at h
 split at h
 ·rfl
 ·cases h
theorem Sim.nilObj {β : Nat → BV} {a : Act} {w : World} (h : Sim N X0 M w0 st β a w) {id e s : Nat} (hid : id < 1000000) :
  ∃ β',β' id = nilB ∧ Sim N X0 M w0 { fr := (st.kill id).fr,hp := (id,.sl e s []) :: (st.kill id).hp } β' a w := by
 let β' : Nat → BV := fun i=>if i = id then nilB else β i
 have hβ : ∀ i,i ≠ id → β' i = β i := fun i hi=>by show (if i = id then _ else β i) = _; rw [if_neg hi]
 have hβd : β' id = nilB:=by show (if id = id then _ else β id) = _; rw [if_pos rfl]
 have h1 := h.kill id hid hβ (by rw [hβd]; rfl) (w' := w) rfl rfl rfl (Nat.le_refl _) (fun _ _ _=>rfl) (X1 := X0) (fun b _ hb=>.inl hb) h.x0
 refine ⟨β',hβd,?_⟩
 exact h1.add (j := id) (lk_kill st id) (ob := .sl e s []) (.nil e s hβd) (fun b hb=>by rw [hβd] at hb; cases hb) (fun b hb=>by rw [hβd] at hb; cases hb) (fun b i o hb=>by rw [hβd] at hb; cases hb)
theorem Sim.rp {β : Nat → BV} {a : Act} {w : World} (h : Sim N X0 M w0 st β a w) {t e' : Nat} {cs ds : List SV} (ht : lk t st.hp = some (.box e' cs)) (hl : ds.length = cs.length)
  (hd : ∀ (k : Nat) (d : SV),ds[k]? = some d → ∃ c,cs[k]? = some c ∧ ∀ u,R w (XX X0 β st.hp) β c u → R w (XX X0 β st.hp) β d u) : Sim N X0 M w0 { fr := st.fr,hp := Go.Vc.rp t (.box e' ds) st.hp } β a w := by
 have hX : ∀ b,XX X0 β (Go.Vc.rp t (.box e' ds) st.hp) b → XX X0 β st.hp b := fun b hb=>by
  rcases hb with hb|⟨j,o,hj,hb⟩
  ·exact .inl hb
  ·obtain ⟨o0,h1,_⟩ := lk_rp hj; exact .inr ⟨j,o0,h1,hb⟩
 have hS : Same (XX X0 β st.hp) w w := ⟨Nat.le_refl _,fun _ _ _=>rfl⟩
 exact { h with
  slots := fun u x hx=>(h.slots u x hx).mono hS fun b _=>hX b
  objs := fun j o hj=>by
   obtain ⟨o0,h1,h2,h3⟩ := lk_rp hj
   by_cases hjt : j = t
   ·rw [h2 hjt]
    subst hjt
    have hO := h.objs j _ ht
    cases hO with
    |box b cur hv hh hlen hc =>
     refine .box b cur hv hh (by rw [hl]; exact hlen) fun k d u hk hu=>?_
     obtain ⟨c0,hc0,hR⟩ := hd k d hk
     obtain ⟨g1,g2⟩ := hc k c0 u hc0 hu
     exact ⟨g1,(hR u g2).mono hS fun b _=>hX b⟩
   ·rw [h3 hjt]
    exact (h.objs j o0 h1).mono hS (fun b _ hb=>hX b hb) (fun _ _=>rfl)
  inj := fun p q op oq b hp hq hbp hbq=>by
   obtain ⟨o1,e1,_⟩ := lk_rp hp
   obtain ⟨o2,e2,_⟩ := lk_rp hq
   exact h.inj p q o1 o2 b e1 e2 hbp hbq
  mine := fun j o b hj hb=>by
   obtain ⟨o1,e1,_⟩ := lk_rp hj
   exact h.mine j o1 b e1 hb }
theorem Sim.adoptB {β : Nat → BV} {a : Act} {w : World} (h : Sim N X0 M w0 st β a w) (t k id e s : Nat) : ∃ β',Sim N X0 M w0 (st.adoptB t k id e s) β' a w := by
 unfold St.adoptB
 split
 case h_2=>exact ⟨β,h⟩
 case h_1 _ e' cs hl =>
 split
 case h_2=>exact ⟨β,h⟩
 case h_1 _ c0 hc =>
 split
 case isFalse=>exact ⟨β,h⟩
 case isTrue hh =>
 obtain ⟨hn,hid,hne⟩ := hh
 have hc0 := isNil_eq hn
 subst hc0
 obtain ⟨β',hb,h1⟩ := h.nilObj (e := e) (s := s) hid
 refine ⟨β',?_⟩
 have hlt : k < cs.length := (List.getElem?_eq_some_iff.1 hc).1
 refine h1.rp (t := t) (e' := e') (cs := cs) (ds := cs.set k (.own id)) ?_ (by simp) fun i d hd=>?_
 ·simp only [lk,if_neg hne]; exact hl
 ·rw [List.getElem?_set] at hd
  split at hd
  ·rename_i hik
   subst hik
   try rw [if_pos hlt] at hd
   cases hd
   exact ⟨_,hc,fun u hu=>by
    have := hu.v_inv; subst this
    have h0 := R.own (w := w) (X := XX X0 β' ((id,.sl e s []) :: (st.kill id).hp)) (β := β') id
    rw [hb] at h0; exact h0⟩
  ·exact ⟨d,hd,fun u hu=>hu⟩
theorem Sim.adoptS {β : Nat → BV} {a : Act} {w : World} (h : Sim N X0 M w0 st β a w) (t id e s : Nat) : ∃ β',Sim N X0 M w0 (st.adoptS t id e s) β' a w := by
 unfold St.adoptS
 split
 case h_2=>exact ⟨β,h⟩
 case h_1 _ c0 hc =>
 split
 case isFalse=>exact ⟨β,h⟩
 case isTrue hh =>
 obtain ⟨hn,hid⟩ := hh
 have hc0 := isNil_eq hn
 subst hc0
 obtain ⟨β',hb,h1⟩ := h.nilObj (e := e) (s := s) hid
 refine ⟨β',?_⟩
 have hv := (h1.slots t _ hc).v_inv
 exact { h1 with
  slots := fun u x hx=>by
   simp only [lk] at hx
   split at hx
   ·rename_i hut
    cases hx
    rw [hut,hv]
    have h0 := R.own (w := w) (X := XX X0 β' ((id,.sl e s []) :: (st.kill id).hp)) (β := β') id
    rw [hb] at h0; exact h0
   ·rename_i hut
    rw [lk_er_ne hut] at hx
    exact h1.slots u x hx }
inductive Ado where
 |b (t k id e s : Nat)
 |s (t id e s : Nat)
def St.ado (st : St) : List Ado → St
 | []=>st
 | .b t k id e s :: l=>(st.adoptB t k id e s).ado l
 | .s t id e s :: l=>(st.adoptS t id e s).ado l
theorem Sim.ado {a : Act} {w : World} : ∀ (l : List Ado) {st : St} {β : Nat → BV},Sim N X0 M w0 st β a w → ∃ β',Sim N X0 M w0 (st.ado l) β' a w
 | [],st,β,h=>⟨β,h⟩
 | .b t k id e s :: l,st,β,h=>by obtain ⟨β',h'⟩ := h.adoptB t k id e s; exact Sim.ado l h'
 | .s t id e s :: l,st,β,h=>by obtain ⟨β',h'⟩ := h.adoptS t id e s; exact Sim.ado l h'
theorem zA (l : List Ado) {code : Code} (h : WP c N X0 M w0 code (st.ado l) K) : WP c N X0 M w0 code st K := fun hA β a w hs=>by
 obtain ⟨β',h'⟩ := hs.ado l
 exact h hA β' a w h'
end
end Go.Vc

namespace Go.Vc
section
variable {c : Cx} {N : Nat} {X0 : Nat → Prop} {M : Nat → BV → Prop} {w0 : World} {st : St} {K : Exit → St → Prop}
def St.mkd (st : St) : St := { st with fr := (999999,.junk) :: st.fr }
theorem Sim.mkd {β : Nat → BV} {a : Act} {w : World} (h : Sim N X0 M w0 st β a w) : Sim N X0 M w0 st.mkd β a w :=
 {h with
  slots := fun t x hx=>by
   simp only [St.mkd,lk] at hx
   split at hx
   ·cases hx; exact .junk _
   ·exact h.slots t x hx
  objs := h.objs
  inj := h.inj
  mine := h.mine }
theorem WP.mark {code : Code} (h : WP c N X0 M w0 code st.mkd K) : WP c N X0 M w0 code st K := fun hA β a w hw=>h hA β a w hw.mkd
theorem Holds.reob {P : Program} {f : FuncId} {args : List SV} {res : SV} {robs robs' : List (Nat × Ob)} (h : Holds P f args res robs)
  (hk : ∀ id ob',lk id robs' = some ob' → ∃ ob,lk id robs = some ob ∧ ∀ (w : World) (X : Nat → Prop) (β : Nat → BV) (v : BV),ObR w X β v ob → ObR w X β v ob') : Holds P f args res robs' := by
 intro w X vs hG hX hl ha
 refine (h w X vs hG hX hl ha).mono fun en w' ⟨v,β,he,hb,hβ,hR,hO,hn⟩=>?_
 have hXX : ∀ b,XX X β robs' b → XX X β robs b := fun b hx=>by
  rcases hx with hx|⟨id,ob',hi,hf⟩
  ·exact .inl hx
  ·obtain ⟨ob,h1,_⟩ := hk id ob' hi
   exact .inr ⟨id,ob,h1,hf⟩
 have hS : Same (XX X β robs) w' w' := ⟨Nat.le_refl _,fun _ _ _=>rfl⟩
 refine ⟨v,β,he,hb,hβ,hR.mono hS fun b _ hx=>hXX b hx,⟨fun id ob' hi=>?_,fun i j oi oj b hi hj=>?_⟩,fun id ob' b hi hf=>?_⟩
 ·obtain ⟨ob,h1,h2⟩ := hk id ob' hi
  exact (h2 _ _ _ _ (hO.1 id ob h1)).mono ⟨Nat.le_refl _,fun _ _ _=>rfl⟩ (fun b _ hx=>hXX b hx) (fun _ _=>rfl)
 ·obtain ⟨o1,h1,_⟩ := hk i oi hi
  obtain ⟨o2,h2,_⟩ := hk j oj hj
  exact hO.2 i j o1 o2 b h1 h2
 ·obtain ⟨o1,h1,_⟩ := hk id ob' hi
  exact hn id o1 b h1 hf
end
end Go.Vc

namespace Go.Proofs.Ytjjbcoigaejoaaa
open Go.Vc
attribute [local irreducible] Go.Vc.WP
attribute [local go_sem] cx0_t cx0_c
def flfe466e8ae4 : List Go.Vc.Fp := [⟨[0],[],[],[],[],[]⟩,⟨[5],[0],[],[],[],[]⟩,⟨[6],[0,1],[],[],[],[]⟩,⟨[7],[0,1,2],[],[],[],[]⟩,⟨[1],[],[],[],[],[]⟩,⟨[0],[],[],[],[],[]⟩,⟨[10],[5],[],[],[],[]⟩,⟨[11],[5,6],[],[],[],[]⟩,⟨[12],[5,6,7],[],[],[],[]⟩,⟨[0],[],[],[],[],[]⟩,⟨[14],[9],[],[],[],[]⟩,⟨[15],[9,10],[],[],[],[]⟩,⟨[16],[9,10,11],[],[],[],[]⟩,⟨[0],[],[],[],[],[]⟩,⟨[18],[13],[],[],[],[]⟩,⟨[19],[13,14],[],[],[],[]⟩,⟨[20],[13,14,15],[],[],[],[]⟩,⟨[],[0,1,2,3,4,5,6,7,8,9,10,11,12,13,14,15,16],[],[],[],[]⟩,⟨[],[0,1,2,3,4,5,6,7,8,9,10,11,12,13,14,15,16,17],[],[],[],[]⟩]
attribute [local go_sem] flfe466e8ae4
attribute [local go_sem] decCur_abc decCur_e decU_enc decS_enc decI_enc decTok_enc oneTok_f oneLine_f line_eta cur_eta aGX St.thr St.offO pureBox St.thrC St.thrK St.dltTK St.runTG St.has1 St.fzS addL behind ghoK St.gho St.gh SV.flat allVs_S allVs_Tok
def genC (G : Gen) : List SV := [.ptr 1000001 0 0 0,.sl 1 (G.vars.map encS),.sl 1 (G.names.map encS),.sl 1 (G.ars.map encI)]
def decGen : List SV → Gen
 | [_,.sl _ a,.sl _ b,.sl _ c]=>⟨decS a,decS b,decI c⟩
 | _=>⟨[],[],[]⟩
theorem gen_eta (G : Gen) : (⟨G.vars,G.names,G.ars⟩ : Gen) = G := rfl
def aGE (args : List SV) (obs : List (Nat × Ob)) : GX := (decCur (oC obs 1000001),aI args 1,decGen (oC obs 1000000))
attribute [local go_sem] genC decGen gen_eta aGE kExp
def kGexp : Ctr := len [0] [] aGE (fun x=>[.ptr 1000000 0 0 0,.v (.int .i64 x.2.1)]) (fun x=>[(1000000,.box 99 (genC x.2.2)),(1000001,.box 104 (encCur x.1))])
 (fun x=>CurOk x.1 ∧ GenOk x.2.2 ∧ 0 ≤ x.2.1 ∧ x.2.1 ≤ 6)
 (fun d _=>.own d) (fun d x=>[(d,.sl 120 3 ((exprG x.2.2 x.2.1.toNat x.1).1.map encTok))]) (fun x=>[(1000000,.box 99 (genC x.2.2)),(1000001,.box 104 (encCur (exprG x.2.2 x.2.1.toNat x.1).2))])
section
attribute [local go_sem] encCur
noncomputable def cxGex := mkX [(93,kExp6)] (COk.cons cExp6 (COk.nil _))
theorem cxGex_t : cxGex.tys = tys := rfl
theorem cxGex_c : cxGex.C = [(93,kExp6)] := rfl
attribute [local go_sem] cxGex_t cxGex_c kExp6
theorem cGexp : Cn Try.prog 60 kGexp := by
 refine Cn.len Try.func60 (by kernel_rfl) rfl fun d x hd hx=>?_
 obtain ⟨c,n,G⟩ := x
 obtain ⟨h1,h2,h3,h4⟩ := hx
 simp only at h1 h2 h3 h4 ⊢
 refine HoldsL.go (c := cxGex) Try.func60 rfl Try.results60 Try.ntmps60 (by omega) (by simp) rfl (by simp <;> omega) (by simp [SV.owns2,SV.owns,SV.owns1]) (by simp) rfl rfl (by simp) ?_
 intro X0 M w0
 (repeat' (first|apply zS|apply zB|((first|refine WP.flowT 1000001 [17] [] 17 [⟨[0],[],[],[],[],[]⟩,⟨[5],[0],[],[],[],[]⟩,⟨[6],[0,1],[],[],[],[]⟩,⟨[7],[0,1,2],[],[],[],[]⟩,⟨[1],[],[],[],[],[]⟩,⟨[0],[],[],[],[],[]⟩,⟨[10],[5],[],[],[],[]⟩,⟨[11],[5,6],[],[],[],[]⟩,⟨[12],[5,6,7],[],[],[],[]⟩,⟨[0],[],[],[],[],[]⟩,⟨[14],[9],[],[],[],[]⟩,⟨[15],[9,10],[],[],[],[]⟩,⟨[16],[9,10,11],[],[],[],[]⟩,⟨[0],[],[],[],[],[]⟩,⟨[18],[13],[],[],[],[]⟩,⟨[19],[13,14],[],[],[],[]⟩,⟨[20],[13,14,15],[],[],[],[]⟩,⟨[],[0,1,2,3,4,5,6,7,8,9,10,11,12,13,14,15,16],[],[],[],[]⟩,⟨[],[0,1,2,3,4,5,6,7,8,9,10,11,12,13,14,15,16,17],[],[],[],[]⟩] [5,6,7,8,9,10,11,12,13,14,15,16,17,18,19,20,21] [] [] (by decide +kernel) (by decide +kernel) (by kernel_rfl) (by kernel_rfl) (by kernel_rfl) ?_); simp only [go_sem])|((first|apply zR|apply zC|apply zT|apply zE|apply zK| refine zF 17 flfe466e8ae4 [5,6,7,8,9,10,11,12,13,14,15,16,17,18,19,20,21] [] [] (by decide +kernel) (by kernel_rfl) (by kernel_rfl) (by kernel_rfl) ?_); simp only [go_sem])|apply And.intro|intro _))
 all_goals first|omega|exact h1|exact h2|exact ⟨_,_,_,rfl⟩|rfl|skip
end
end Go.Proofs.Ytjjbcoigaejoaaa

namespace Go.Vc
def fillC (c c' : SV) : Prop := c' = c ∨ (c = .v (.slice none 0 0) ∧ ∃ s,c' = .sl s [])
def fillR (rows rows' : List (List SV)) : Prop := rows.length = rows'.length ∧ ∀ (i : Nat) (row' : List SV),rows'[i]? = some row' → ∃ row,rows[i]? = some row ∧ row.length = row'.length ∧ ∀ (k : Nat) (c' : SV),row'[k]? = some c' → ∃ c,row[k]? = some c ∧ fillC c c'
theorem Dp.fillC {w : World} {c c' : SV} {v : Value} {F : Nat → Prop} (h : Dp w c v F) (hc : Go.Vc.fillC c c') : Dp w c' v F := by
 rcases hc with rfl|⟨rfl,s,rfl⟩
 ·exact h
 ·cases h with
  |v x F hF=>exact .nil s F hF
theorem Dp.fill {w : World} {s : Nat} {rows rows' : List (List SV)} {v : Value} {F : Nat → Prop} (hr : fillR rows rows') (h : Dp w (.sl s rows) v F) : Dp w (.sl s rows') v F := by
 obtain ⟨hl,hrow⟩ := hr
 cases h with
 |nil _ _ hF =>
  have : rows' = [] := List.eq_nil_of_length_eq_zero (by simpa using hl.symm)
  subst this
  exact .nil s F hF
 |sl e b cap cur us fs _ hh hcap hmax hsz hlen hcell hone hrr hin hne hdis hF =>
  rw [hl] at hcap hcell hone hin ⊢
  refine .sl e b cap cur us fs F hh hcap hmax hsz (fun i row' hi=>?_) hcell hone (fun i k row' c' hi hk=>?_) hin hne hdis hF
  ·obtain ⟨row,h1,h2,_⟩ := hrow i row' hi
   rw [← h2]; exact hlen i row h1
  ·obtain ⟨row,h1,h2,h3⟩ := hrow i row' hi
   obtain ⟨c,h4,h5⟩ := h3 k c' hk
   exact (hrr i k row c h1 h4).fillC h5
theorem ObR.fill {w : World} {X : Nat → Prop} {β : Nat → BV} {v : BV} {e s : Nat} {rows rows' : List (List SV)} (hr : fillR rows rows') (h : ObR w X β v (.dp e s rows)) : ObR w X β v (.dp e s rows') := by
 cases h with
 |dp hd he=>exact .dp (hd.fill hr) he
theorem fillR_map {α : Type} {f g : α → List SV} (L : List α) (h : ∀ x,(f x).length = (g x).length ∧ ∀ (k : Nat) (c' : SV),(g x)[k]? = some c' → ∃ c,(f x)[k]? = some c ∧ fillC c c') : fillR (L.map f) (L.map g) := by
 refine ⟨by simp,fun i row' hi=>?_⟩
 rw [List.getElem?_map] at hi
 cases hx : L[i]? with
 |none=>rw [hx] at hi; cases hi
 |some x =>
  rw [hx] at hi
  cases hi
  exact ⟨f x,by rw [List.getElem?_map,hx]; rfl,(h x).1,(h x).2⟩
end Go.Vc

namespace Go.Vc
def St.stepDb (ds : List Nat) (tys : List (Nat × TyD)) (C : List (FuncId × Ctr)) (N : Nat) (ops : Array Oper) (o : Oper) (st : St) (K : St → Prop) : Prop :=
 match o.dst with
 |some d=>match ds.contains d && o.guard.isNone with
  |true=>dstOk N o.dst = true ∧ st.deepK tys o K
  |false=>st.step tys C N ops o K
 |none=>st.step tys C N ops o K
def St.runDb (ds : List Nat) (tys : List (Nat × TyD)) (C : List (FuncId × Ctr)) (N : Nat) (ops : Array Oper) : List Oper → St → (St → Prop) → Prop
 | [],st,K=>K st
 |o :: l,st,K=>st.stepDb ds tys C N ops o fun st'=>St.runDb ds tys C N ops l st' K
section
variable {P : Program} {tys : List (Nat × TyD)} {C : List (FuncId × Ctr)} {N : Nat} {X0 : Nat → Prop} {M : Nat → BV → Prop} {w0 : World} {st : St} {β : Nat → BV} {a : Act} {w : World}
theorem stepDb_sound {ds : List Nat} (hA : Ap P X0 M w0) (hty : ∀ T d,lk T tys = some d → TyOk P T d) (hC : COk P C) (h : Sim N X0 M w0 st β a w) {ops : Array Oper} {o : Oper} {K : St → Prop} (hw : st.stepDb ds tys C N ops o K) {Q : Exit → Act → World → Prop} :
  if Region.wanted o (yielded ops a.tmps) then o.wp P a w (Ok N X0 M w0 K) Q else Ok N X0 M w0 K (a.put o.dst undef) w := by
 unfold St.stepDb at hw
 split at hw
 case h_2=>exact step_sound hA hty hC h hw
 case h_1 _ d hd =>
  split at hw
  case h_2=>exact step_sound hA hty hC h hw
  case h_1 _ hb =>
   have hg : o.guard = none := by
    rw [Bool.and_eq_true] at hb
    simpa using hb.2
   have hwt : Region.wanted o (yielded ops a.tmps) = true:=by simp [Region.wanted,hg]
   rw [hwt,if_pos rfl]
   exact deepK_sound hty h (dst_lt hw.1) hw.2
theorem runDb_sound {ds : List Nat} (hA : Ap P X0 M w0) (hty : ∀ T d,lk T tys = some d → TyOk P T d) (hC : COk P C) {ops : Array Oper} {K : St → Prop} {Q : Exit → Act → World → Prop} (hQ : ∀ a w,Ok N X0 M w0 K a w → Q .normal a w) :
  ∀ (l : List Oper) {st : St} {β : Nat → BV} {a : Act} {w : World},Sim N X0 M w0 st β a w → St.runDb ds tys C N ops l st K → wpList P ops Q l a w
 | [],st,β,a,w,h,hw=>hQ a w ⟨st,β,hw,h⟩
 |o :: l,st,β,a,w,h,hw=>by
  have h1 := stepDb_sound (Q := Q) hA hty hC h hw
  unfold wpList
  split
  ·rename_i hwt
   rw [if_pos hwt] at h1
   exact .inl (Oper.wp_mono (fun a' w' ⟨st',β',h2,h3⟩=>runDb_sound hA hty hC hQ l h3 h2) h1)
  ·rename_i hwt
   rw [if_neg hwt] at h1
   obtain ⟨st',β',h2,h3⟩ := h1
   exact runDb_sound hA hty hC hQ l h3 h2
end
section
variable {c : Cx} {N : Nat} {X0 : Nat → Prop} {M : Nat → BV → Prop} {w0 : World} {st : St} {K : Exit → St → Prop}
theorem WP.regionDb {id : Nat} {l : List Oper} (ds : List Nat) (h : St.runDb ds c.tys c.C N l.toArray l st (K .normal)) : WP c N X0 M w0 (.region id l.toArray false) st K := fun hA β a w hs =>
 wp_region_lit (runDb_sound hA c.hty c.hC (fun a w hk=>hk) l hs h)
end
end Go.Vc

namespace Go.Proofs.Ytjjbcoigaejoaaa
open Go.Vc
attribute [local irreducible] Go.Vc.WP
attribute [local go_sem] cx0_t cx0_c
attribute [local go_sem] decCur_abc decCur_e decU_enc decS_enc decI_enc decTok_enc oneTok_f decLine_enc oneLine_f line_eta cur_eta aGX aGE genC decGen gen_eta kExp St.thr St.offO pureBox St.thrC St.thrK St.dltTK St.runTG St.has1 St.fzS addL behind ghoK St.gho St.gh SV.flat allVs_S allVs_Tok St.stepGd St.runGd encCur
def encD (x : Line) : List SV := [.v (.int .i64 x.kind),.v (.string x.name),if x.args = [] ∧ x.kind ≠ 0 then .v (.slice none 0 0) else .sl 1 (x.args.map encS),if x.expr = [] then .v (.slice none 0 0) else .sl 3 (x.expr.map encTok)]
theorem encD_fill (L : List Line) : fillR (L.map encD) (L.map encLine) := fillR_map L fun x=>⟨rfl,fun k c' h=>by
 match k with
 | 0=>exact ⟨_,rfl,.inl (by simpa [encLine] using h.symm)⟩
 | 1=>exact ⟨_,rfl,.inl (by simpa [encLine] using h.symm)⟩
 | 2 =>
  refine ⟨_,rfl,?_⟩
  have h : c' = .sl 1 (x.args.map encS):=by simpa [encLine] using h.symm
  subst h
  by_cases hc : x.args = [] ∧ x.kind ≠ 0
  ·rw [if_pos hc,hc.1]; exact .inr ⟨rfl,1,rfl⟩
  ·rw [if_neg hc]; exact .inl rfl
 | 3 =>
  refine ⟨_,rfl,?_⟩
  have h : c' = .sl 3 (x.expr.map encTok):=by simpa [encLine] using h.symm
  subst h
  by_cases hc : x.expr = []
  ·rw [if_pos hc,hc]; exact .inr ⟨rfl,3,rfl⟩
  ·rw [if_neg hc]; exact .inl rfl
 |k + 4=>simp [encLine] at h⟩
theorem exprG_ne (G : Gen) (n : Nat) (c : Cur) : (exprG G n c).1 ≠ [] := by
 rw [exprG]
 split
 ·simp
 ·split
  ·simp
  ·split <;> simp
theorem encD_pl {k : Int} {nm : ByteArray} (h0 : k ≠ 0) : encD ⟨k,nm,[],[]⟩ = [.v (.int .i64 k),.v (.string nm),.v (.slice none 0 0),.v (.slice none 0 0)] := by
 unfold encD; rw [if_pos ⟨rfl,h0⟩,if_pos rfl]
theorem encD_ex {k : Int} {nm : ByteArray} {T : List Tok} (h0 : k ≠ 0) (hT : T ≠ []) : encD ⟨k,nm,[],T⟩ = [.v (.int .i64 k),.v (.string nm),.v (.slice none 0 0),.sl 3 (T.map encTok)] := by
 unfold encD; rw [if_pos ⟨rfl,h0⟩,if_neg hT]
theorem vrow3 {a1 a2 a3 b1 b2 b3 c1 c2 c3 : Value} {row : List SV} {c : SV} (h : row ∈ [[.v a1,.v a2,.v a3],[.v b1,.v b2,.v b3],[.v c1,.v c2,.v c3]]) (hc : c ∈ row) : ∃ x,c = SV.v x := by
 simp only [List.mem_cons,List.not_mem_nil,or_false] at h
 rcases h with rfl|rfl|rfl <;> (simp only [List.mem_cons,List.not_mem_nil,or_false] at hc; rcases hc with rfl|rfl|rfl <;> exact ⟨_,rfl⟩)
theorem stepG6a {G : Gen} {d : Nat} {rec : Nat → Cur → List Line × Cur} {c : Cur} {E : List Tok × Cur} {B R : List Line × Cur} (h4 : ¬ belowV c 9 < 4) (h6 : ¬ belowV c 9 < 6) (h : belowV c 9 = 6 ∧ 0 < d) (he : exprG G 4 (belowC c 9) = E) (hb : rec (1 + (belowV E.2 2).toNat) (belowC E.2 2) = B)
  (ho : belowV B.2 2 = 0) (hr : rec 1 (belowC B.2 2) = R) : stepG G d rec c = (⟨3,nilB0,[],E.1⟩ :: (B.1 ++ (⟨4,nilB0,[],[]⟩ :: (R.1 ++ [⟨7,nilB0,[],[]⟩]))),R.2) := by
 subst he hb hr
 unfold stepG
 rw [if_neg h4,if_neg h6,if_pos h]
 simp only [if_pos ho,List.cons_append]
theorem stepG6b {G : Gen} {d : Nat} {rec : Nat → Cur → List Line × Cur} {c : Cur} {E : List Tok × Cur} {B : List Line × Cur} (h4 : ¬ belowV c 9 < 4) (h6 : ¬ belowV c 9 < 6) (h : belowV c 9 = 6 ∧ 0 < d) (he : exprG G 4 (belowC c 9) = E) (hb : rec (1 + (belowV E.2 2).toNat) (belowC E.2 2) = B)
  (ho : ¬ belowV B.2 2 = 0) : stepG G d rec c = (⟨3,nilB0,[],E.1⟩ :: (B.1 ++ [⟨7,nilB0,[],[]⟩]),belowC B.2 2) := by
 subst he hb
 unfold stepG
 rw [if_neg h4,if_neg h6,if_pos h]
 simp only [if_neg ho,List.nil_append]
theorem stepG7 {G : Gen} {d : Nat} {rec : Nat → Cur → List Line × Cur} {c : Cur} {R : List Line × Cur} (h4 : ¬ belowV c 9 < 4) (h6 : ¬ belowV c 9 < 6) (h : belowV c 9 = 7 ∧ 0 < d) (hr : rec 1 (belowC (belowC c 9) 3) = R) :
  stepG G d rec c = (⟨5,nilB0,[],[⟨5,0,nilB0⟩,⟨1,0,nmI⟩,⟨0,1 + belowV (belowC c 9) 3,nilB0⟩]⟩ :: (R.1 ++ [⟨1,nmI,[],[⟨2,0,nilB0⟩,⟨1,0,nmI⟩,⟨0,1,nilB0⟩]⟩,⟨7,nilB0,[],[]⟩]),R.2) := by
 subst hr
 unfold stepG
 rw [if_neg h4,if_neg h6,if_neg (by omega),if_pos h]
abbrev BX := Cur × Int × Int × Gen
def aBX (args : List SV) (obs : List (Nat × Ob)) : BX := (decCur (oC obs 1000001),aI args 1,aI args 2,decGen (oC obs 1000000))
attribute [local go_sem] aBX
def kBdy (D : Nat) : Ctr := len [0] [] aBX (fun x=>[.ptr 1000000 0 0 0,.v (.int .i64 x.2.1),.v (.int .i64 x.2.2.1)]) (fun x=>[(1000000,.box 99 (genC x.2.2.2)),(1000001,.box 104 (encCur x.1))])
 (fun x=>CurOk x.1 ∧ GenOk x.2.2.2 ∧ 0 ≤ x.2.1 ∧ x.2.1 ≤ 4 ∧ x.2.2.1 = (D : Int))
 (fun d _=>.own d) (fun d x=>[(d,.dp 64 4 ((bodyG x.2.2.2 x.2.2.1.toNat x.2.1.toNat x.1).1.map encD))]) (fun x=>[(1000000,.box 99 (genC x.2.2.2)),(1000001,.box 104 (encCur (bodyG x.2.2.2 x.2.2.1.toNat x.2.1.toNat x.1).2))])
theorem bdG_le : ∀ d,d ≤ 2 → bdG d ≤ 200
 | 0,_=>by decide
 | 1,_=>by decide
 | 2,_=>by decide
section
noncomputable def cxBd0 := mkX [(57,kBelow),(58,kOnce),(60,kGexp)] (COk.cons cBelowS (COk.cons cOnce (COk.cons cGexp (COk.nil _))))
theorem cxBd0_t : cxBd0.tys = tys := rfl
theorem cxBd0_c : cxBd0.C = [(57,kBelow),(58,kOnce),(60,kGexp)] := rfl
attribute [local go_sem] cxBd0_t cxBd0_c kBelow kOnce kGexp
set_option maxHeartbeats 8000000 in
theorem bdyBase : Cn Try.prog 59 (kBdy 0) := by
 refine Cn.len Try.func59 (by kernel_rfl) rfl fun d x hd hx=>?_
 obtain ⟨c,m,z,G⟩ := x
 obtain ⟨hc,hG,hm0,hm4,hz0⟩ := hx
 simp only at hc hG hm0 hm4 hz0
 obtain rfl : z = 0 := hz0
 obtain ⟨n,rfl⟩ := Int.eq_ofNat_of_zero_le hm0
 simp only [Int.toNat_natCast]
 have e0 : bodyG G (0 : Int).toNat n c = iterG (stepG G 0 fun _ c=>([],c)) n c := rfl
 rw [e0]
 have hvs := hG.vs
 refine HoldsL.go (c := cxBd0) Try.func59 rfl Try.results59 Try.ntmps59 (by omega) (by simp) rfl (by simp <;> omega) (by simp [SV.owns2,SV.owns,SV.owns1]) (by simp) rfl rfl (by simp) ?_
 intro X0 M w0
 (repeat' (first|apply zS|apply zB|((first|apply zR|apply zC|apply zT|apply zE|apply zK| refine zD 16 (by decide +kernel) (by kernel_rfl) ?_); simp only [go_sem])|apply And.intro|intro _))
 all_goals first|omega|skip
 refine zG [.dp 10] ?_
 simp only [go_sem]
 refine ⟨(fun r hr=>by cases hr),?_⟩
 refine WP.mark ?_
 refine WP.loopP [] [(56,10),(65,10),(30,10)] rfl (fun i : Nat=>⟨[(0,.ptr 1000000 0 0 0),(1,.v (.int .i64 ((n : Int) - i))),(2,.v (.int .i64 0)),(7,.own 10),(999999,.junk)],
  [(1000000,.box 99 (genC G)),(1000001,.box 104 (encCur (iterG (stepG G 0 fun _ c=>([],c)) i c).2)),(10,.dp 64 4 ((iterG (stepG G 0 fun _ c=>([],c)) i c).1.map encD))]⟩)
  (fun i=>i ≤ n) (fun i=>n - i) 0 (by omega) ?_ ?_
 ·(simp only [go_sem,St.mkd,iterG] <;> (first|(and_intros <;> rfl)|simp))
 intro i hi
 obtain ⟨i1,i2,i3⟩ := iterG_ok (fun c hc=>stepG_ok hG (d := 0) (B := 0) (rec := fun _ c=>([],c)) (fun h=>absurd h (by omega)) c hc) i c hc
 generalize hI : iterG (stepG G 0 fun _ c=>([],c)) i c = I at *
 by_cases hlt : i < n
 rotate_left
 ·have hge : ¬ (0 : Int) < (n : Int) - i:=by omega
  obtain rfl : i = n:=by omega
  rw [hI]
  (repeat' (first|apply zS|apply zB|((first|apply zR|apply zC|apply zT|apply zE|apply zK| refine zD 16 (by decide +kernel) (by kernel_rfl) ?_); simp only [go_sem,hge])|apply And.intro|intro _))
  all_goals first|omega|exact ⟨_,_,_,rfl⟩|rfl|exact vrow3 (by assumption) (by assumption)|(simp only [List.length_append,List.length_map,List.length_cons,List.length_nil]; omega)|skip
 have hli : (0 : Int) < (n : Int) - i:=by omega
 have hc9 := i1.belowC 9
 have hl4 : (n : Int) - i - 1 = (n : Int) - ((i + 1 : Nat) : Int):=by omega
 have hstep : ∀ S,stepG G 0 (fun _ c=>([],c)) I.2 = S → iterG (stepG G 0 fun _ c=>([],c)) (i + 1) c = (I.1 ++ S.1,S.2) := fun S hS=>by rw [iterG,hI,hS]
 have hil : I.1.length ≤ 200:=by omega
 have z0 : ¬ (0 : Int) < 0:=by omega
 have hnb : (⟨#[]⟩ : ByteArray) = nilB0 := rfl
 by_cases k4 : belowV I.2 9 < 4
 ·obtain ⟨q,q1,q2⟩ := below_bv (belowC I.2 9) hvs.1
  have hr := rowAt_map encS G.vars q q1
  have hg : G.vars.getD q nilB0 = G.vars[q]:=by rw [List.getD_eq_getElem?_getD,List.getElem?_eq_getElem q1]; rfl
  have hS : stepG G 0 (fun _ c=>([],c)) I.2 = ([⟨1,G.vars[q],[],(exprG G 6 (belowC (belowC I.2 9) G.vars.length)).1⟩],(exprG G 6 (belowC (belowC I.2 9) G.vars.length)).2) := by
   unfold stepG; rw [if_pos k4,q2,Int.toNat_natCast,hg]
  have hnx := hstep _ hS
  have hcv := hc9.belowC G.vars.length
  obtain ⟨a,b,e⟩ := exprG_sm hG (n := 6) (by omega) hcv
  have hne := exprG_ne G 6 (belowC (belowC I.2 9) G.vars.length)
  generalize hC : belowC (belowC I.2 9) (G.vars.length : Nat) = C at *
  generalize hE : exprG G 6 C = E at *
  have hD := encD_ex (k := 1) (nm := G.vars[q]) (by omega) hne
  (repeat' (first|apply zS|apply zB|((first|refine WP.flowT 1000001 [13] [] 14 [⟨[0],[],[],[],[],[]⟩,⟨[34],[0],[],[],[],[]⟩,⟨[35],[0,1],[],[],[],[]⟩,⟨[36],[0,1,2],[],[],[],[]⟩,⟨[0],[],[],[],[],[]⟩,⟨[38],[4],[],[],[],[]⟩,⟨[39],[4,5],[],[],[],[]⟩,⟨[40],[4,5,6],[],[],[],[]⟩,⟨[0],[],[],[],[],[]⟩,⟨[42],[8],[],[],[],[]⟩,⟨[43],[8,9],[],[],[],[]⟩,⟨[44],[8,9,10],[],[],[],[]⟩,⟨[45],[8,9,10,11],[],[],[],[]⟩,⟨[41,46],[4,5,6,7,8,9,10,11,12],[],[],[],[]⟩,⟨[],[0,1,2,3,4,5,6,7,8,9,10,11,12,13],[],[],[],[]⟩,⟨[],[0,1,2,3,4,5,6,7,8,9,10,11,12,13,14],[],[],[],[]⟩,⟨[],[0,1,2,3,4,5,6,7,8,9,10,11,12,13,14,15],[],[],[],[]⟩] [34,35,36,37,38,39,40,41,42,43,44,45,46,47] [] [] (by decide +kernel) (by decide +kernel) (by kernel_rfl) (by kernel_rfl) (by kernel_rfl) ?_); simp only [go_sem,hli,k4,q2,hr,encS,hC,hE])|((first|apply zR|apply zC|apply zT|apply zE|apply zK| refine zD 16 (by decide +kernel) (by kernel_rfl) ?_); simp only [go_sem,hli,k4,q2,hr,encS,hC,hE])|apply And.intro|intro _))
  all_goals first|omega|exact i1|exact hc9|exact hcv|exact hG|exact ⟨_,_,_,rfl⟩|rfl|exact vrow3 (by assumption) (by assumption)|(simp only [List.length_append,List.length_map,List.length_cons,List.length_nil]; omega)|skip
  all_goals first|exact ⟨i + 1,by omega,by omega,by rw [hl4,hnx]; simp only [List.map_append,List.map_cons,List.map_nil,hD]; (first|(and_intros <;> rfl)|simp)⟩|trace_state
 have k4f : ¬ belowV I.2 9 < 4 := k4
 by_cases k6 : belowV I.2 9 < 6
 ·have hS : stepG G 0 (fun _ c=>([],c)) I.2 = ([⟨2,nilB0,[],(exprG G 5 (belowC I.2 9)).1⟩],(exprG G 5 (belowC I.2 9)).2) := by
   unfold stepG; rw [if_neg k4,if_pos k6]
  have hnx := hstep _ hS
  obtain ⟨a,b,e⟩ := exprG_sm hG (n := 5) (by omega) hc9
  have hne := exprG_ne G 5 (belowC I.2 9)
  generalize hE : exprG G 5 (belowC I.2 9) = E at *
  have hD := encD_ex (k := 2) (nm := nilB0) (by omega) hne
  (repeat' (first|apply zS|apply zB|((first|apply zR|apply zC|apply zT|apply zE|apply zK| refine zD 16 (by decide +kernel) (by kernel_rfl) ?_); simp only [go_sem,hli,k4f,k6,hE,hnb])|apply And.intro|intro _))
  all_goals first|omega|exact i1|exact hc9|exact hG|exact ⟨_,_,_,rfl⟩|rfl|exact vrow3 (by assumption) (by assumption)|(simp only [List.length_append,List.length_map,List.length_cons,List.length_nil]; omega)|skip
  all_goals first|exact ⟨i + 1,by omega,by omega,by rw [hl4,hnx]; simp only [List.map_append,List.map_cons,List.map_nil,hD]; (first|(and_intros <;> rfl)|simp)⟩|trace_state
 have hc3 := hc9.belowC 3
 by_cases k3 : belowV (belowC I.2 9) 3 = 0
 ·have hS : stepG G 0 (fun _ c=>([],c)) I.2 = ([⟨6,nilB0,[],(exprG G 4 (belowC (belowC I.2 9) 3)).1⟩],(exprG G 4 (belowC (belowC I.2 9) 3)).2) := by
   unfold stepG; rw [if_neg k4,if_neg k6,if_neg (by omega),if_neg (by omega),if_pos k3]
  have hnx := hstep _ hS
  obtain ⟨a,b,e⟩ := exprG_sm hG (n := 4) (by omega) hc3
  have hne := exprG_ne G 4 (belowC (belowC I.2 9) 3)
  generalize hE : exprG G 4 (belowC (belowC I.2 9) 3) = E at *
  have hD := encD_ex (k := 6) (nm := nilB0) (by omega) hne
  (repeat' (first|apply zS|apply zB|((first|apply zR|apply zC|apply zT|apply zE|apply zK| refine zD 16 (by decide +kernel) (by kernel_rfl) ?_); simp only [go_sem,hli,k4f,k6,z0,k3,hE,hnb])|apply And.intro|intro _))
  all_goals first|omega|exact i1|exact hc9|exact hc3|exact hG|exact ⟨_,_,_,rfl⟩|rfl|exact vrow3 (by assumption) (by assumption)|(simp only [List.length_append,List.length_map,List.length_cons,List.length_nil]; omega)|skip
  all_goals first|exact ⟨i + 1,by omega,by omega,by rw [hl4,hnx]; simp only [List.map_append,List.map_cons,List.map_nil,hD]; (first|(and_intros <;> rfl)|simp)⟩|trace_state
 ·have hS : stepG G 0 (fun _ c=>([],c)) I.2 = ([],belowC (belowC I.2 9) 3) := by
   unfold stepG; rw [if_neg k4,if_neg k6,if_neg (by omega),if_neg (by omega),if_neg k3]
  have hnx := hstep _ hS
  (repeat' (first|apply zS|apply zB|((first|apply zR|apply zC|apply zT|apply zE|apply zK| refine zD 16 (by decide +kernel) (by kernel_rfl) ?_); simp only [go_sem,hli,k4f,k6,z0,k3])|apply And.intro|intro _))
  all_goals first|omega|exact i1|exact hc9|exact hc3|exact hG|exact ⟨_,_,_,rfl⟩|rfl|exact vrow3 (by assumption) (by assumption)|(simp only [List.length_append,List.length_map,List.length_cons,List.length_nil]; omega)|skip
  all_goals first|exact ⟨i + 1,by omega,by omega,by rw [hl4,hnx]; simp only [List.append_nil]; (first|(and_intros <;> rfl)|simp)⟩|trace_state
end
section
noncomputable def cxBdS (D : Nat) (h : Cn Try.prog 59 (kBdy D)) : Cx := { P := Try.prog,tys := tys,C := [(57,kBelow),(58,kOnce),(60,kGexp),(59,kBdy D)],hty := tysOk,hC := COk.cons cBelowS (COk.cons cOnce (COk.cons cGexp (COk.cons h (COk.nil _)))) }
theorem cxBdS_t (D : Nat) (h : Cn Try.prog 59 (kBdy D)) : (cxBdS D h).tys = tys := rfl
theorem cxBdS_c (D : Nat) (h : Cn Try.prog 59 (kBdy D)) : (cxBdS D h).C = [(57,kBelow),(58,kOnce),(60,kGexp),(59,kBdy D)] := rfl
attribute [local go_sem] cxBdS_t cxBdS_c kBelow kOnce kGexp kBdy St.stepDb St.runDb
set_option maxHeartbeats 8000000 in
theorem bdyStep (D : Nat) (hDD : D ≤ 1) (ih : Cn Try.prog 59 (kBdy D)) : Cn Try.prog 59 (kBdy (D + 1)) := by
 refine Cn.len Try.func59 (by kernel_rfl) rfl fun d x hd hx=>?_
 obtain ⟨c,m,z,G⟩ := x
 obtain ⟨hc,hG,hm0,hm4,hz0⟩ := hx
 simp only at hc hG hm0 hm4 hz0
 subst hz0
 have hbd := bdG_le D (by omega)
 obtain ⟨n,rfl⟩ := Int.eq_ofNat_of_zero_le hm0
 simp only [Int.toNat_natCast]
 have e0 : bodyG G (D + 1) n c = iterG (stepG G (D + 1) (bodyG G D)) n c := rfl
 rw [e0]
 have hvs := hG.vs
 refine HoldsL.go (c := (cxBdS D ih)) Try.func59 rfl Try.results59 Try.ntmps59 (by omega) (by simp) rfl (by simp <;> omega) (by simp [SV.owns2,SV.owns,SV.owns1]) (by simp) rfl rfl (by simp) ?_
 intro X0 M w0
 (repeat' (first|apply zS|apply zB|((first|apply zR|apply zC|apply zT|apply zE|apply zK| refine zD 16 (by decide +kernel) (by kernel_rfl) ?_); simp only [go_sem])|apply And.intro|intro _))
 all_goals first|omega|skip
 refine zG [.dp 10] ?_
 simp only [go_sem]
 refine ⟨(fun r hr=>by cases hr),?_⟩
 refine WP.mark ?_
 refine WP.loopP [] [(56,10),(65,10),(30,10),(109,10),(148,10)] rfl (fun i : Nat=>⟨[(0,.ptr 1000000 0 0 0),(1,.v (.int .i64 ((n : Int) - i))),(2,.v (.int .i64 ((D + 1 : Nat) : Int))),(7,.own 10),(999999,.junk)],
  [(1000000,.box 99 (genC G)),(1000001,.box 104 (encCur (iterG (stepG G (D + 1) (bodyG G D)) i c).2)),(10,.dp 64 4 ((iterG (stepG G (D + 1) (bodyG G D)) i c).1.map encD))]⟩)
  (fun i=>i ≤ n) (fun i=>n - i) 0 (by omega) ?_ ?_
 ·(simp only [go_sem,St.mkd,iterG] <;> (first|(and_intros <;> rfl)|simp))
 intro i hi
 obtain ⟨i1,i2,i3⟩ := iterG_ok (fun c hc=>stepG_ok hG (d := D + 1) (B := 2 * bdG D) (rec := bodyG G D) (fun _ n c hn hc=>by
   obtain ⟨a,b,e⟩ := bodyG_ok hG D n c hc
   exact ⟨a,b,Nat.le_trans e (Nat.mul_le_mul_right _ hn)⟩) c hc) i c hc
 generalize hI : iterG (stepG G (D + 1) (bodyG G D)) i c = I at *
 by_cases hlt : i < n
 rotate_left
 ·have hge : ¬ (0 : Int) < (n : Int) - i:=by omega
  obtain rfl : i = n:=by omega
  rw [hI]
  (repeat' (first|apply zS|apply zB|((first|apply zR|apply zC|apply zT|apply zE|apply zK| refine zD 16 (by decide +kernel) (by kernel_rfl) ?_); simp only [go_sem,hge])|apply And.intro|intro _))
  all_goals first|omega|exact ⟨_,_,_,rfl⟩|rfl|exact vrow3 (by assumption) (by assumption)|(simp only [List.length_append,List.length_map,List.length_cons,List.length_nil]; omega)|skip
 have hli : (0 : Int) < (n : Int) - i:=by omega
 have hc9 := i1.belowC 9
 have hl4 : (n : Int) - i - 1 = (n : Int) - ((i + 1 : Nat) : Int):=by omega
 have hstep : ∀ S,stepG G (D + 1) (bodyG G D) I.2 = S → iterG (stepG G (D + 1) (bodyG G D)) (i + 1) c = (I.1 ++ S.1,S.2) := fun S hS=>by rw [iterG,hI,hS]
 have hil : I.1.length ≤ 4 * (2 * (2 * 200) + 3) := Nat.le_trans i3 (Nat.mul_le_mul (by omega) (by omega))
 have hnb : (⟨#[]⟩ : ByteArray) = nilB0 := rfl
 by_cases k4 : belowV I.2 9 < 4
 ·obtain ⟨q,q1,q2⟩ := below_bv (belowC I.2 9) hvs.1
  have hr := rowAt_map encS G.vars q q1
  have hg : G.vars.getD q nilB0 = G.vars[q]:=by rw [List.getD_eq_getElem?_getD,List.getElem?_eq_getElem q1]; rfl
  have hS : stepG G (D + 1) (bodyG G D) I.2 = ([⟨1,G.vars[q],[],(exprG G 6 (belowC (belowC I.2 9) G.vars.length)).1⟩],(exprG G 6 (belowC (belowC I.2 9) G.vars.length)).2) := by
   unfold stepG; rw [if_pos k4,q2,Int.toNat_natCast,hg]
  have hnx := hstep _ hS
  have hcv := hc9.belowC G.vars.length
  obtain ⟨a,b,e⟩ := exprG_sm hG (n := 6) (by omega) hcv
  have hne := exprG_ne G 6 (belowC (belowC I.2 9) G.vars.length)
  generalize hC : belowC (belowC I.2 9) (G.vars.length : Nat) = C at *
  generalize hE : exprG G 6 C = E at *
  have hD := encD_ex (k := 1) (nm := G.vars[q]) (by omega) hne
  (repeat' (first|apply zS|apply zB|((first|refine WP.flowT 1000001 [13] [] 14 [⟨[0],[],[],[],[],[]⟩,⟨[34],[0],[],[],[],[]⟩,⟨[35],[0,1],[],[],[],[]⟩,⟨[36],[0,1,2],[],[],[],[]⟩,⟨[0],[],[],[],[],[]⟩,⟨[38],[4],[],[],[],[]⟩,⟨[39],[4,5],[],[],[],[]⟩,⟨[40],[4,5,6],[],[],[],[]⟩,⟨[0],[],[],[],[],[]⟩,⟨[42],[8],[],[],[],[]⟩,⟨[43],[8,9],[],[],[],[]⟩,⟨[44],[8,9,10],[],[],[],[]⟩,⟨[45],[8,9,10,11],[],[],[],[]⟩,⟨[41,46],[4,5,6,7,8,9,10,11,12],[],[],[],[]⟩,⟨[],[0,1,2,3,4,5,6,7,8,9,10,11,12,13],[],[],[],[]⟩,⟨[],[0,1,2,3,4,5,6,7,8,9,10,11,12,13,14],[],[],[],[]⟩,⟨[],[0,1,2,3,4,5,6,7,8,9,10,11,12,13,14,15],[],[],[],[]⟩] [34,35,36,37,38,39,40,41,42,43,44,45,46,47] [] [] (by decide +kernel) (by decide +kernel) (by kernel_rfl) (by kernel_rfl) (by kernel_rfl) ?_); simp only [go_sem,hli,k4,q2,hr,encS,hC,hE])|((first|apply zR|apply zC|apply zT|apply zE|apply zK| refine zD 16 (by decide +kernel) (by kernel_rfl) ?_); simp only [go_sem,hli,k4,q2,hr,encS,hC,hE])|apply And.intro|intro _))
  all_goals first|omega|exact i1|exact hc9|exact hcv|exact hG|exact ⟨_,_,_,rfl⟩|rfl|exact vrow3 (by assumption) (by assumption)|(simp only [List.length_append,List.length_map,List.length_cons,List.length_nil]; omega)|skip
  all_goals first|exact ⟨i + 1,by omega,by omega,by rw [hl4,hnx]; simp only [List.map_append,List.map_cons,List.map_nil,hD]; (first|(and_intros <;> rfl)|simp)⟩|trace_state
 have k4f : ¬ belowV I.2 9 < 4 := k4
 by_cases k6 : belowV I.2 9 < 6
 ·have hS : stepG G (D + 1) (bodyG G D) I.2 = ([⟨2,nilB0,[],(exprG G 5 (belowC I.2 9)).1⟩],(exprG G 5 (belowC I.2 9)).2) := by
   unfold stepG; rw [if_neg k4,if_pos k6]
  have hnx := hstep _ hS
  obtain ⟨a,b,e⟩ := exprG_sm hG (n := 5) (by omega) hc9
  have hne := exprG_ne G 5 (belowC I.2 9)
  generalize hE : exprG G 5 (belowC I.2 9) = E at *
  have hD := encD_ex (k := 2) (nm := nilB0) (by omega) hne
  (repeat' (first|apply zS|apply zB|((first|apply zR|apply zC|apply zT|apply zE|apply zK| refine zD 16 (by decide +kernel) (by kernel_rfl) ?_); simp only [go_sem,hli,k4f,k6,hE,hnb])|apply And.intro|intro _))
  all_goals first|omega|exact i1|exact hc9|exact hG|exact ⟨_,_,_,rfl⟩|rfl|exact vrow3 (by assumption) (by assumption)|(simp only [List.length_append,List.length_map,List.length_cons,List.length_nil]; omega)|skip
  all_goals first|exact ⟨i + 1,by omega,by omega,by rw [hl4,hnx]; simp only [List.map_append,List.map_cons,List.map_nil,hD]; (first|(and_intros <;> rfl)|simp)⟩|trace_state
 have hc3 := hc9.belowC 3
 have zz : (0 : Int) < ((D + 1 : Nat) : Int):=by omega
 have tz : (((D + 1 : Nat) : Int) - 1).toNat = D:=by omega
 have t1 : (1 : Int).toNat = 1 := rfl
 have hp4 := encD_pl (k := 4) (nm := nilB0) (by omega)
 have hp7 := encD_pl (k := 7) (nm := nilB0) (by omega)
 by_cases k6e : belowV I.2 9 = 6
 ·obtain ⟨ea,eb,el⟩ := exprG_sm hG (n := 4) (by omega) hc9
  have hne := exprG_ne G 4 (belowC I.2 9)
  generalize hE : exprG G 4 (belowC I.2 9) = E at *
  have eb2 := ea.belowC 2
  obtain ⟨u,u1,u2⟩ := below_bv E.2 (L := 2) (by omega)
  have u2 : belowV E.2 2 = (u : Int) := u2
  have tu : (1 + (u : Int)).toNat = 1 + u:=by omega
  obtain ⟨ba,bb,bl⟩ := bodyG_ok hG D (1 + u) _ eb2
  have bl2 : (1 + u) * bdG D ≤ 2 * 200 := Nat.mul_le_mul (by omega) hbd
  generalize hB : bodyG G D (1 + u) (belowC E.2 2) = B at *
  have bc := ba.belowC 2
  have hD := encD_ex (k := 3) (nm := nilB0) (by omega) hne
  by_cases ho : belowV B.2 2 = 0
  ·obtain ⟨ra,rb,rl⟩ := bodyG_ok hG D 1 _ bc
   generalize hR : bodyG G D 1 (belowC B.2 2) = R at *
   have hnx := hstep _ (stepG6a k4 k6 ⟨k6e,by omega⟩ hE (by rw [u2,Int.toNat_natCast]; exact hB) ho hR)
   (repeat' (first|apply zS|apply zB|((first|refine WP.regionDb (id := 16) [98] ?_|refine WP.regionDb (id := 18) [108] ?_); simp only [go_sem,hli,k4f,k6,k6e,zz,hE,u2,tu,tz,t1,hB,ho,hR,hnb])|((first|apply zR|apply zC|apply zT|apply zE|apply zK| refine zD 16 (by decide +kernel) (by kernel_rfl) ?_); simp only [go_sem,hli,k4f,k6,k6e,zz,hE,u2,tu,tz,t1,hB,ho,hR,hnb])|apply And.intro|intro _))
   all_goals first|omega|exact i1|exact hc9|exact hc3|exact hG|exact ea|exact eb2|exact ba|exact bc|exact ra|exact ⟨_,_,_,rfl⟩|rfl|exact vrow3 (by assumption) (by assumption)|(simp only [List.length_append,List.length_map,List.length_cons,List.length_nil]; omega)|skip
   all_goals first|exact ⟨i + 1,by omega,by omega,by rw [hl4,hnx]; simp only [List.map_append,List.map_cons,List.map_nil,hD,hp4,hp7,List.append_assoc,List.cons_append,List.nil_append]; (first|(and_intros <;> rfl)|simp)⟩|trace_state
  ·have hnx := hstep _ (stepG6b k4 k6 ⟨k6e,by omega⟩ hE (by rw [u2,Int.toNat_natCast]; exact hB) ho)
   (repeat' (first|apply zS|apply zB|((first|refine WP.regionDb (id := 16) [98] ?_|refine WP.regionDb (id := 18) [108] ?_); simp only [go_sem,hli,k4f,k6,k6e,zz,hE,u2,tu,tz,t1,hB,ho,hnb])|((first|apply zR|apply zC|apply zT|apply zE|apply zK| refine zD 16 (by decide +kernel) (by kernel_rfl) ?_); simp only [go_sem,hli,k4f,k6,k6e,zz,hE,u2,tu,tz,t1,hB,ho,hnb])|apply And.intro|intro _))
   all_goals first|omega|exact i1|exact hc9|exact hG|exact ea|exact eb2|exact ba|exact bc|exact ⟨_,_,_,rfl⟩|rfl|exact vrow3 (by assumption) (by assumption)|(simp only [List.length_append,List.length_map,List.length_cons,List.length_nil]; omega)|skip
   all_goals first|exact ⟨i + 1,by omega,by omega,by rw [hl4,hnx]; simp only [List.map_append,List.map_cons,List.map_nil,hD,hp7,List.append_assoc,List.cons_append,List.nil_append]; (first|(and_intros <;> rfl)|simp)⟩|trace_state
 by_cases k7e : belowV I.2 9 = 7
 ·obtain ⟨ra,rb,rl⟩ := bodyG_ok hG D 1 _ hc3
  generalize hR : bodyG G D 1 (belowC (belowC I.2 9) 3) = R at *
  have hnx := hstep _ (stepG7 k4 k6 ⟨k7e,by omega⟩ hR)
  obtain ⟨u,u1,u2⟩ := below_bv (belowC I.2 9) (L := 3) (by omega)
  have u2 : belowV (belowC I.2 9) 3 = (u : Int) := u2
  have hD5 := encD_ex (k := 5) (nm := nilB0) (T := [⟨5,0,nilB0⟩,⟨1,0,nmI⟩,⟨0,1 + belowV (belowC I.2 9) 3,nilB0⟩]) (by omega) (by simp)
  have hD1 := encD_ex (k := 1) (nm := nmI) (T := [⟨2,0,nilB0⟩,⟨1,0,nmI⟩,⟨0,1,nilB0⟩]) (by omega) (by simp)
  simp only [List.map_cons,List.map_nil,encTok] at hD5 hD1
  have hni : (⟨#[105]⟩ : ByteArray) = nmI := rfl
  (repeat' (first|apply zS|apply zB|((first|refine WP.regionDb (id := 23) [147] ?_); simp only [go_sem,hli,k4f,k6,k6e,k7e,zz,tz,t1,hR,hnb,hni])|((first|apply zR|apply zC|apply zT|apply zE|apply zK| refine zD 16 (by decide +kernel) (by kernel_rfl) ?_); simp only [go_sem,hli,k4f,k6,k6e,k7e,zz,tz,t1,hR,hnb,hni])|apply And.intro|intro _))
  all_goals first|omega|exact i1|exact hc9|exact hc3|exact hG|exact ra|exact ⟨_,_,_,rfl⟩|rfl|exact vrow3 (by assumption) (by assumption)|(simp only [List.length_append,List.length_map,List.length_cons,List.length_nil]; omega)|skip
  all_goals first|exact ⟨i + 1,by omega,by omega,by rw [hl4,hnx]; simp only [List.map_append,List.map_cons,List.map_nil,hD5,hD1,hp7,List.append_assoc,List.cons_append,List.nil_append]; (first|(and_intros <;> rfl)|simp)⟩|trace_state
 by_cases k3 : belowV (belowC I.2 9) 3 = 0
 ·have hS : stepG G (D + 1) (bodyG G D) I.2 = ([⟨6,nilB0,[],(exprG G 4 (belowC (belowC I.2 9) 3)).1⟩],(exprG G 4 (belowC (belowC I.2 9) 3)).2) := by
   unfold stepG; rw [if_neg k4,if_neg k6,if_neg (by omega),if_neg (by omega),if_pos k3]
  have hnx := hstep _ hS
  obtain ⟨a,b,e⟩ := exprG_sm hG (n := 4) (by omega) hc3
  have hne := exprG_ne G 4 (belowC (belowC I.2 9) 3)
  generalize hE : exprG G 4 (belowC (belowC I.2 9) 3) = E at *
  have hD := encD_ex (k := 6) (nm := nilB0) (by omega) hne
  (repeat' (first|apply zS|apply zB|((first|apply zR|apply zC|apply zT|apply zE|apply zK| refine zD 16 (by decide +kernel) (by kernel_rfl) ?_); simp only [go_sem,hli,k4f,k6,k6e,k7e,zz,k3,hE,hnb])|apply And.intro|intro _))
  all_goals first|omega|exact i1|exact hc9|exact hc3|exact hG|exact ⟨_,_,_,rfl⟩|rfl|exact vrow3 (by assumption) (by assumption)|(simp only [List.length_append,List.length_map,List.length_cons,List.length_nil]; omega)|skip
  all_goals first|exact ⟨i + 1,by omega,by omega,by rw [hl4,hnx]; simp only [List.map_append,List.map_cons,List.map_nil,hD]; (first|(and_intros <;> rfl)|simp)⟩|trace_state
 ·have hS : stepG G (D + 1) (bodyG G D) I.2 = ([],belowC (belowC I.2 9) 3) := by
   unfold stepG; rw [if_neg k4,if_neg k6,if_neg (by omega),if_neg (by omega),if_neg k3]
  have hnx := hstep _ hS
  (repeat' (first|apply zS|apply zB|((first|apply zR|apply zC|apply zT|apply zE|apply zK| refine zD 16 (by decide +kernel) (by kernel_rfl) ?_); simp only [go_sem,hli,k4f,k6,k6e,k7e,zz,k3])|apply And.intro|intro _))
  all_goals first|omega|exact i1|exact hc9|exact hc3|exact hG|exact ⟨_,_,_,rfl⟩|rfl|exact vrow3 (by assumption) (by assumption)|(simp only [List.length_append,List.length_map,List.length_cons,List.length_nil]; omega)|skip
  all_goals first|exact ⟨i + 1,by omega,by omega,by rw [hl4,hnx]; simp only [List.append_nil]; (first|(and_intros <;> rfl)|simp)⟩|trace_state
end
end Go.Proofs.Ytjjbcoigaejoaaa

namespace Go.Proofs.Ytjjbcoigaejoaaa
open Go.Vc
attribute [local irreducible] Go.Vc.WP
attribute [local go_sem] cx0_t cx0_c
theorem cBdy1 : Cn Try.prog 59 (kBdy 1) := bdyStep 0 (by omega) bdyBase
theorem cBdy2 : Cn Try.prog 59 (kBdy 2) := bdyStep 1 (by omega) cBdy1
def kBody12 : Ctr := len [0] [] aBX (fun x=>[.ptr 1000000 0 0 0,.v (.int .i64 x.2.1),.v (.int .i64 x.2.2.1)]) (fun x=>[(1000000,.box 99 (genC x.2.2.2)),(1000001,.box 104 (encCur x.1))])
 (fun x=>CurOk x.1 ∧ GenOk x.2.2.2 ∧ 0 ≤ x.2.1 ∧ x.2.1 ≤ 4 ∧ (x.2.2.1 = 1 ∨ x.2.2.1 = 2))
 (fun d _=>.own d) (fun d x=>[(d,.dp 64 4 ((bodyG x.2.2.2 x.2.2.1.toNat x.2.1.toNat x.1).1.map encD))]) (fun x=>[(1000000,.box 99 (genC x.2.2.2)),(1000001,.box 104 (encCur (bodyG x.2.2.2 x.2.2.1.toNat x.2.1.toNat x.1).2))])
theorem cBody12 : Cn Try.prog 59 kBody12 := by
 refine ⟨cBdy1.call,fun d args h=>h.elim,fun d args obs h=>?_⟩
 obtain ⟨h1,h2,h3,h4,h5,h6,h7,h8⟩ := h
 rcases h8 with h8|h8
 ·exact cBdy1.holdsL d args obs ⟨h1,h2,h3,h4,h5,h6,h7,h8⟩
 ·exact cBdy2.holdsL d args obs ⟨h1,h2,h3,h4,h5,h6,h7,h8⟩
end Go.Proofs.Ytjjbcoigaejoaaa

namespace Go.Proofs.Ytjjbcoigaejoaaa
theorem mem_cut2 {α : Type} {L : List α} {a b : Nat} {x : α} (h : x ∈ cut2 L a b) : x ∈ L := List.mem_of_mem_drop (List.mem_of_mem_take h)
theorem cut2_len {α : Type} (L : List α) (a b : Nat) : (cut2 L a b).length = min (b - a) (L.length - a):=by simp [cut2]
theorem argsG_len (k : Nat) : (argsG k).length ≤ 2 := by
 have h : xy2.length = 2 := rfl
 simp only [argsG,List.length_take,h]; omega
theorem xy2_sz : ∀ s ∈ xy2,s.size ≤ 8:=by decide
theorem nms4_sz : ∀ s ∈ nms4,s.size ≤ 8:=by decide
theorem ars4_bd : ∀ a ∈ ars4,0 ≤ a ∧ a ≤ 2:=by decide
theorem iz_sz : ∀ s ∈ [nmI,(⟨#[122]⟩ : ByteArray)],s.size ≤ 8:=by decide
theorem genG_ok (n k o : Nat) : GenOk (genG n k o) := by
 have h4 : nms4.length = 4 := rfl
 have r4 : ars4.length = 4 := rfl
 refine ⟨?_,?_,?_,fun a ha=>ars4_bd a (mem_cut2 ha),fun s hs=>?_,fun s hs=>nms4_sz s (mem_cut2 hs)⟩
 ·have := argsG_len k
  simp only [genG,List.length_append,List.length_cons,List.length_nil]; omega
 ·show (cut2 nms4 o n).length ≤ 256
  rw [cut2_len]; omega
 ·show (cut2 ars4 o n).length = (cut2 nms4 o n).length
  rw [cut2_len,cut2_len,h4,r4]
 ·rcases List.mem_append.1 hs with h|h
  ·exact xy2_sz s (List.mem_of_mem_take h)
  ·exact iz_sz s h
theorem bdG2 {d : Nat} (h : d ≤ 2) : bdG d ≤ 63 := by
 rcases (show d = 0 ∨ d = 1 ∨ d = 2 by omega) with rfl|rfl|rfl <;> decide
theorem body_len {G : Gen} (hG : GenOk G) {d n : Nat} (hd : d ≤ 2) (hn : n ≤ 4) {c : Cur} (h : CurOk c) : CurOk (bodyG G d n c).2 ∧ (∀ x ∈ (bodyG G d n c).1,smD x) ∧ (bodyG G d n c).1.length ≤ 252 := by
 obtain ⟨a,b,e⟩ := bodyG_ok hG d n c h
 exact ⟨a,b,Nat.le_trans e (Nat.le_trans (Nat.mul_le_mul hn (bdG2 hd)) (by decide))⟩
def smQ (x : Line) : Prop := x.name.size ≤ 8 ∧ (x.args.length ≤ 2 ∧ ∀ s ∈ x.args,s.size ≤ 8) ∧ x.expr.length ≤ 128 ∧ ∀ t ∈ x.expr,t.name.size ≤ 8
theorem smD_Q {x : Line} (h : smD x) : smQ x := ⟨h.1,by rw [h.2.1]; simp,h.2.2⟩
theorem funG_ok {n k : Nat} (hk : k < 4) {c : Cur} (h : CurOk c) : CurOk (funG n k c).2 ∧ (∀ x ∈ (funG n k c).1,smQ x) ∧ (funG n k c).1.length ≤ 255 := by
 have ho : ∀ o : Nat × Cur,CurOk o.2 → o = (if 0 < k then (if belowV c 5 = 0 then k else k + 1,belowC c 5) else (k + 1,c)) → CurOk (funG n k c).2 ∧ (∀ x ∈ (funG n k c).1,smQ x) ∧ (funG n k c).1.length ≤ 255 := fun o hc he=>by
  unfold funG
  simp only [← he]
  have hG := genG_ok n k o.1
  have h1 := hc.belowC 4
  have h2 := h1.belowC 2
  have b1 := belowV_bd o.2 (n := 4) (by omega)
  have b2 := belowV_bd (belowC o.2 4) (n := 2) (by omega)
  obtain ⟨p,q,r⟩ := body_len hG (d := 1 + (belowV (belowC o.2 4) 2).toNat) (n := 1 + (belowV o.2 4).toNat) (by omega) (by omega) h2
  obtain ⟨s,t,u⟩ := exprG_sm hG (n := 3) (by omega) p
  have e0 : nilB0.size = 0 := rfl
  refine ⟨s,fun x hx=>?_,by simp only [List.length_cons,List.length_append,List.length_nil]; omega⟩
  rcases List.mem_cons.1 hx with hx|hx
  ·rw [hx]
   refine ⟨?_,⟨argsG_len k,fun s hs=>xy2_sz s (List.mem_of_mem_take hs)⟩,by simp,by simp⟩
   rw [List.getD_eq_getElem?_getD]
   have h4 : nms4.length = 4 := rfl
   rw [List.getElem?_eq_getElem (by omega)]
   exact nms4_sz _ (List.getElem_mem _)
  rcases List.mem_append.1 hx with hx|hx
  ·exact smD_Q (q x hx)
  simp only [List.mem_cons,List.not_mem_nil,or_false] at hx
  rcases hx with rfl|rfl
  ·exact ⟨by simp only [e0]; omega,⟨by simp,by simp⟩,by simp only; omega,t⟩
  ·exact ⟨by simp only [e0]; omega,⟨by simp,by simp⟩,by simp,by simp⟩
 refine ho _ ?_ rfl
 split
 ·exact h.belowC 5
 ·exact h
theorem progGo_ok (n : Nat) {c : Cur} (h : CurOk c) : ∀ k,k ≤ 4 → CurOk (progGo n k c).2 ∧ (∀ x ∈ (progGo n k c).1,smQ x) ∧ (progGo n k c).1.length ≤ 255 * k
 | 0,_=>⟨h,by simp [progGo],by simp [progGo]⟩
 |k + 1,hk=>by
  obtain ⟨a,b,d⟩ := progGo_ok n h k (by omega)
  obtain ⟨a',b',d'⟩ := funG_ok (n := n) (k := k) (by omega) a
  refine ⟨a',fun x hx=>?_,by simp only [progGo,List.length_append]; omega⟩
  rcases List.mem_append.1 hx with hx|hx
  ·exact b x hx
  ·exact b' x hx
theorem progG_ok {c : Cur} (h : CurOk c) : CurOk (progG c).2 ∧ (∀ x ∈ (progG c).1,smQ x) ∧ (progG c).1.length ≤ 1020 := by
 have b1 := belowV_bd c (n := 4) (by omega)
 obtain ⟨a,b,d⟩ := progGo_ok (1 + (belowV c 4).toNat) (h.belowC 4) (1 + (belowV c 4).toNat) (by omega)
 exact ⟨a,b,by unfold progG; omega⟩
end Go.Proofs.Ytjjbcoigaejoaaa

namespace Go.Vc
section
variable {P : Program} {tys : List (Nat × TyD)} {C : List (FuncId × Ctr)} {N : Nat} {X0 : Nat → Prop} {M : Nat → BV → Prop} {w0 : World} {st : St} {β : Nat → BV} {a : Act} {w : World}
theorem runR_then (hA : Ap P X0 M w0) (hty : ∀ T d,lk T tys = some d → TyOk P T d) (hC : COk P C) {ops : Array Oper} {l2 : List Oper} {K : St → Prop} {Q : Exit → Act → World → Prop} (hQ : ∀ a w,Ok N X0 M w0 K a w → wpList P ops Q l2 a w) :
  ∀ (l : List Oper) {st : St} {β : Nat → BV} {a : Act} {w : World},Sim N X0 M w0 st β a w → St.runR tys C N ops l st K → wpList P ops Q (l ++ l2) a w
 | [],st,β,a,w,h,hw=>hQ a w ⟨st,β,hw,h⟩
 |o :: l,st,β,a,w,h,hw=>by
  have h1 := step_sound (Q := Q) hA hty hC h hw
  show wpList P ops Q (o :: (l ++ l2)) a w
  unfold wpList
  split
  ·rename_i hwt
   rw [if_pos hwt] at h1
   exact .inl (Oper.wp_mono (fun a' w' ⟨st',β',h2,h3⟩=>runR_then hA hty hC hQ l h3 h2) h1)
  ·rename_i hwt
   rw [if_neg hwt] at h1
   obtain ⟨st',β',h2,h3⟩ := h1
   exact runR_then hA hty hC hQ l h3 h2
end
section
variable {c : Cx} {N : Nat} {X0 : Nat → Prop} {M : Nat → BV → Prop} {w0 : World} {st : St} {K : Exit → St → Prop}
end
end Go.Vc

namespace Go.Vc
section
variable {c : Cx} {N : Nat} {X0 : Nat → Prop} {M : Nat → BV → Prop} {w0 : World} {st : St} {K : Exit → St → Prop}
theorem WP.regionCut6 {id : Nat} {o1 o2 o3 o4 o5 o6 : Oper} (h : St.runR c.tys c.C N #[o1,o2,o3,o4,o5,o6] [o1,o2,o3,o4] st fun st'=>st'.cutK c.tys N o5 fun st2=>St.runR c.tys c.C N #[o1,o2,o3,o4,o5,o6] [o6] st2 (K .normal)) :
  WP c N X0 M w0 (.region id #[o1,o2,o3,o4,o5,o6] false) st K := fun hA β a w hs =>
 wp_region_lit (l := [o1,o2,o3,o4,o5,o6]) (runR_then hA c.hty c.hC (l2 := [o5,o6]) (fun a w ⟨st',β',h1,h2⟩=>by
  obtain ⟨q1,q2⟩ := cutK_sound (ops := #[o1,o2,o3,o4,o5,o6]) (Q := fun e a w=>Ok N X0 M w0 (K e) a w) c.hty h2 h1
  unfold wpList
  rw [if_pos q1]
  exact .inl (Oper.wp_mono (fun a' w' ⟨st3,β3,h4,h5⟩=>runR_sound hA c.hty c.hC (fun a w hk=>hk) [o6] h5 h4) q2)) [o1,o2,o3,o4] hs h)
theorem WP.regionCut7 {id : Nat} {o1 o2 o3 o4 o5 o6 o7 : Oper} (h : St.runR c.tys c.C N #[o1,o2,o3,o4,o5,o6,o7] [o1,o2,o3,o4,o5] st fun st'=>st'.cutK c.tys N o6 fun st2=>St.runR c.tys c.C N #[o1,o2,o3,o4,o5,o6,o7] [o7] st2 (K .normal)) :
  WP c N X0 M w0 (.region id #[o1,o2,o3,o4,o5,o6,o7] false) st K := fun hA β a w hs =>
 wp_region_lit (l := [o1,o2,o3,o4,o5,o6,o7]) (runR_then hA c.hty c.hC (l2 := [o6,o7]) (fun a w ⟨st',β',h1,h2⟩=>by
  obtain ⟨q1,q2⟩ := cutK_sound (ops := #[o1,o2,o3,o4,o5,o6,o7]) (Q := fun e a w=>Ok N X0 M w0 (K e) a w) c.hty h2 h1
  unfold wpList
  rw [if_pos q1]
  exact .inl (Oper.wp_mono (fun a' w' ⟨st3,β3,h4,h5⟩=>runR_sound hA c.hty c.hC (fun a w hk=>hk) [o7] h5 h4) q2)) [o1,o2,o3,o4,o5] hs h)
end
end Go.Vc

namespace Go.Vc
section
variable {c : Cx} {N : Nat} {X0 : Nat → Prop} {M : Nat → BV → Prop} {w0 : World} {st : St} {K : Exit → St → Prop}
theorem WP.mid {S : Type} {x y : Code} (T : S → St) (J : S → Prop) (h1 : WP c N X0 M w0 x st (thenK (fun st'=>∃ s,J s ∧ st'.has (T s)) K)) (h2 : ∀ s,J s → WP c N X0 M w0 y (T s) K) : WP c N X0 M w0 x st (thenK (fun st'=>WP c N X0 M w0 y st' K) K) := fun hA β a w hs =>
 Code.wp_mono (fun e a w hq=>by
  cases e with
  |normal=>obtain ⟨st',β',⟨s,hJ,hh⟩,h3⟩ := hq; exact ⟨T s,β',h2 s hJ,h3.has hh⟩
  | _=>exact hq) (h1 hA β a w hs)
theorem WP.atReg {b : Nat} {ops : Array Oper} {d : Bool} (h : WP c N X0 M w0 (.region b ops d) st K) : WP c N X0 M w0 (.region b ops d) st K := h
theorem WP.atBlk {b : Nat} {p : Code} (h : WP c N X0 M w0 (.block b p) st K) : WP c N X0 M w0 (.block b p) st K := h
end
end Go.Vc

namespace Go.Proofs.Ytjjbcoigaejoaaa
open Go.Vc
attribute [local irreducible] Go.Vc.WP
attribute [local go_sem] cx0_t cx0_c
def fl046ad40d52 : List Go.Vc.Fp := [⟨[0],[],[28,30],[28,30,31,32],[],[]⟩,⟨[],[],[],[30,31,32],[],[28]⟩,⟨[8],[],[],[28,30,31,32],[],[]⟩,⟨[28,29],[1,2],[],[31,32],[28],[30]⟩,⟨[],[],[28],[28,30,32],[],[31]⟩,⟨[30,31],[1,2,3,4],[28],[],[30],[32]⟩,⟨[3],[],[28,30],[28,30,31,32],[],[]⟩,⟨[7],[],[28,30],[28,30,31,32],[],[]⟩,⟨[34],[7],[28,30],[28,30,31,32],[],[]⟩,⟨[5],[],[28,30],[28,30,31,32],[],[]⟩,⟨[33,35,36],[6,7,8,9],[28,30],[28,30,31,32],[],[]⟩,⟨[4],[],[28,30],[28,30,31,32],[],[]⟩,⟨[7],[],[28,30],[28,30,31,32],[],[]⟩,⟨[39],[12],[28,30],[28,30,31,32],[],[]⟩,⟨[5],[],[28,30],[28,30,31,32],[],[]⟩,⟨[38,40,41],[11,12,13,14],[28,30],[28,30,31,32],[],[]⟩,⟨[],[0,1,2,3,4,5,6,7,8,9,10,11,12,13,14,15],[],[],[],[]⟩,⟨[],[0,1,2,3,4,5,6,7,8,9,10,11,12,13,14,15,16],[],[],[],[]⟩,⟨[],[0,1,2,3,4,5,6,7,8,9,10,11,12,13,14,15,16,17],[],[],[],[]⟩]
def flf811c78149 : List Go.Vc.Fp := [⟨[6],[],[70],[70,72,74],[],[]⟩,⟨[3],[],[70],[70,72,74],[],[]⟩,⟨[7],[],[70],[70,72,74],[],[]⟩,⟨[66,67],[1,2],[70],[70,72,74],[],[]⟩,⟨[68],[1,2,3],[70],[70,72,74],[],[]⟩,⟨[],[],[],[72,74],[],[70]⟩,⟨[8],[],[],[70,72,74],[],[]⟩,⟨[70,71],[5,6],[],[74],[70],[72]⟩,⟨[69,72],[1,2,3,4,5,6,7],[70],[74],[],[]⟩,⟨[73],[1,2,3,4,5,6,7,8],[70],[],[],[74]⟩,⟨[],[0,1,2,3,4,5,6,7,8,9],[],[],[],[]⟩,⟨[],[0,1,2,3,4,5,6,7,8,9,10],[],[],[],[]⟩]
def fl5dfa93d89d : List Go.Vc.Fp := [⟨[6],[],[70,72],[70,72,74],[],[]⟩,⟨[3],[],[70],[70,72,74],[],[]⟩,⟨[7],[],[70],[70,72,74],[],[]⟩,⟨[66,67],[1,2],[70],[70,72,74],[],[]⟩,⟨[68],[1,2,3],[70],[70,72,74],[],[]⟩,⟨[],[],[],[72,74],[],[70]⟩,⟨[8],[],[],[70,72,74],[],[]⟩,⟨[70,71],[5,6],[],[74],[70],[72]⟩,⟨[69,72],[1,2,3,4,5,6,7],[70],[74],[],[]⟩,⟨[73],[1,2,3,4,5,6,7,8],[70],[],[72],[74]⟩,⟨[],[0,1,2,3,4,5,6,7,8,9],[],[],[],[]⟩,⟨[],[0,1,2,3,4,5,6,7,8,9,10],[],[],[],[]⟩]
attribute [local go_sem] fl046ad40d52 flf811c78149 fl5dfa93d89d
attribute [local go_sem] decCur_abc decCur_e decU_enc decS_enc decI_enc decTok_enc oneTok_f decLine_enc oneLine_f line_eta cur_eta aGX aGE aBX genC decGen gen_eta kExp St.thr St.offO pureBox St.thrC St.thrK St.dltTK St.runTG St.has1 St.fzS addL behind ghoK St.gho St.gh SV.flat allVs_S allVs_Tok St.stepGd St.runGd encCur St.cutK St.stepDb St.runDb
def funT (G : Gen) (k : Nat) (c : Cur) : List Line × Cur :=
 (⟨0,nms4.getD k nilB0,argsG k,[]⟩ :: ((bodyG G (1 + (belowV (belowC c 4) 2).toNat) (1 + (belowV c 4).toNat) (belowC (belowC c 4) 2)).1 ++ [⟨6,nilB0,[],(exprG G 3 (bodyG G (1 + (belowV (belowC c 4) 2).toNat) (1 + (belowV c 4).toNat) (belowC (belowC c 4) 2)).2).1⟩,⟨7,nilB0,[],[]⟩]),
  (exprG G 3 (bodyG G (1 + (belowV (belowC c 4) 2).toNat) (1 + (belowV c 4).toNat) (belowC (belowC c 4) 2)).2).2)
theorem cut2_map {α : Type} (f : α → List SV) (L : List α) (a b : Nat) : List.drop a (List.take b (L.map f)) = (cut2 L a b).map f := by
 unfold cut2; rw [List.drop_take,List.map_take,List.map_drop]
theorem encD_fn (s : ByteArray) (A : List ByteArray) : encD ⟨0,s,A,[]⟩ = [.v (.int .i64 0),.v (.string s),.sl 1 (A.map encS),.v (.slice none 0 0)] := by
 unfold encD; rw [if_neg (by simp),if_pos rfl]
theorem rowSg_ln {A : List ByteArray} {r : List SV} (h : r ∈ A.map encS) : r.length = 1:=by obtain ⟨n,_,rfl⟩ := List.mem_map.1 h; rfl
theorem rowP_ln {A : List ByteArray} {a b : Value} {r : List SV} (h : r ∈ A.map encS ++ [[.v a],[.v b]]) : r.length = 1 := by
 rcases List.mem_append.1 h with h|h
 ·exact rowSg_ln h
 ·simp only [List.mem_cons,List.not_mem_nil,or_false] at h; rcases h with rfl|rfl <;> rfl
def kPrgD : Ctr := len [0] [] (fun args obs=>decCur (oC obs 1000000)) (fun c=>[.ptr 1000000 0 0 0]) (fun c=>[(1000000,.box 104 (encCur c))]) CurOk
 (fun d _=>.own d) (fun d c=>[(d,.dp 64 4 ((progG c).1.map encD))]) (fun c=>[(1000000,.box 104 (encCur (progG c).2))])
section
noncomputable def cxPrg := mkX [(57,kBelow),(58,kOnce),(60,kGexp),(59,kBody12)] (COk.cons cBelowS (COk.cons cOnce (COk.cons cGexp (COk.cons cBody12 (COk.nil _)))))
theorem cxPrg_t : cxPrg.tys = tys := rfl
theorem cxPrg_c : cxPrg.C = [(57,kBelow),(58,kOnce),(60,kGexp),(59,kBody12)] := rfl
attribute [local go_sem] cxPrg_t cxPrg_c kBelow kOnce kGexp kBody12
set_option maxHeartbeats 8000000 in
theorem cPrgD : Cn Try.prog 30 kPrgD := by
 refine Cn.len Try.func30 (by kernel_rfl) rfl fun d x hd hx=>?_
 rename Cur=>c
 obtain ⟨u,u1,u2⟩ := below_bv c (L := 4) (by omega)
 have u2 : belowV c 4 = (u : Int) := u2
 have hc4 := hx.belowC 4
 have eG : progG c = progGo (1 + u) (1 + u) (belowC c 4):=by unfold progG; rw [u2,Int.toNat_natCast]
 have l4 : nms4.length = 4 := rfl
 have r4 : ars4.length = 4 := rfl
 rw [eG]
 refine HoldsL.go (c := cxPrg) Try.func30 rfl Try.results30 Try.ntmps30 (by omega) (by simp) rfl (by simp <;> omega) (by simp [SV.owns2,SV.owns,SV.owns1]) (by simp) rfl rfl (by simp) ?_
 intro X0 M w0
 (repeat' (first|apply zS|apply zB|((first|apply zR|apply zC|apply zT|apply zE|apply zK| refine zZ [3,4] 16 fl046ad40d52 [27,28,29,30,31,32,33,34,35,36,37,38,39,40,41,42] [28,30,31,32] [28,30] (by decide +kernel) (by kernel_rfl) (by kernel_rfl) (by kernel_rfl) ?_|refine zF 16 fl046ad40d52 [27,28,29,30,31,32,33,34,35,36,37,38,39,40,41,42] [28,30,31,32] [28,30] (by decide +kernel) (by kernel_rfl) (by kernel_rfl) (by kernel_rfl) ?_|refine zF 10 flf811c78149 [65,66,67,68,69,70,71,72,73,74] [70,72,74] [70] (by decide +kernel) (by kernel_rfl) (by kernel_rfl) (by kernel_rfl) ?_); simp only [go_sem,u2])|apply And.intro|intro _))
 all_goals first|omega|exact hx|skip
 refine zP [10,11] [] rfl ?_
 simp only [go_sem]
 refine zG [.dp 15] ?_
 simp only [go_sem]
 refine ⟨(fun r hr=>by cases hr),?_⟩
 refine WP.mark ?_
 have hnm : nms4.map encS = [[.v (.string ⟨#[109,97,105,110]⟩)],[.v (.string ⟨#[102]⟩)],[.v (.string ⟨#[103,103]⟩)],[.v (.string ⟨#[104]⟩)]] := rfl
 have har : ars4.map encI = [[.v (.int .i64 0)],[.v (.int .i64 1)],[.v (.int .i64 2)],[.v (.int .i64 1)]] := rfl
 rw [← hnm,← har]
 refine WP.loopP [] [(95,15)] rfl (fun k : Nat=>⟨[(0,.ptr 1000000 0 0 0),(3,.sl 1 (nms4.map encS)),(4,.sl 1 (ars4.map encI)),(5,.v (.int .i64 (1 + (u : Int)))),(6,.own 15),(7,.v (.int .i64 k)),(999999,.junk)],
  [(1000000,.box 104 (encCur (progGo (1 + u) k (belowC c 4)).2)),(15,.dp 64 4 ((progGo (1 + u) k (belowC c 4)).1.map encD))]⟩)
  (fun k=>k ≤ 1 + u) (fun k=>1 + u - k) 0 (by omega) ?_ ?_
 ·(simp only [go_sem,St.mkd,progGo] <;> (first|(and_intros <;> rfl)|simp))
 intro k hk
 obtain ⟨i1,i2,i3⟩ := progGo_ok (1 + u) hc4 k (by omega)
 by_cases hlt : k < 1 + u
 rotate_left
 ·have hge : ¬ (k : Int) < 1 + (u : Int):=by omega
  obtain rfl : k = 1 + u:=by omega
  (repeat' (first|apply zS|apply zB|((first|apply zR|apply zC|apply zT|apply zE|apply zK| refine zZ [3,4] 16 fl046ad40d52 [27,28,29,30,31,32,33,34,35,36,37,38,39,40,41,42] [28,30,31,32] [28,30] (by decide +kernel) (by kernel_rfl) (by kernel_rfl) (by kernel_rfl) ?_|refine zF 16 fl046ad40d52 [27,28,29,30,31,32,33,34,35,36,37,38,39,40,41,42] [28,30,31,32] [28,30] (by decide +kernel) (by kernel_rfl) (by kernel_rfl) (by kernel_rfl) ?_|refine zF 10 flf811c78149 [65,66,67,68,69,70,71,72,73,74] [70,72,74] [70] (by decide +kernel) (by kernel_rfl) (by kernel_rfl) (by kernel_rfl) ?_); simp only [go_sem,hge])|apply And.intro|intro _))
  all_goals first|omega|rfl|skip
 have hli : (k : Int) < 1 + (u : Int):=by omega
 have hnx : progGo (1 + u) (k + 1) (belowC c 4) = ((progGo (1 + u) k (belowC c 4)).1 ++ (funG (1 + u) k (progGo (1 + u) k (belowC c 4)).2).1,(funG (1 + u) k (progGo (1 + u) k (belowC c 4)).2).2) := rfl
 generalize hI : progGo (1 + u) k (belowC c 4) = I at *
 generalize hn : nms4 = NM at *
 generalize hr : ars4 = AR at *
 have hra := rowAt_map encI AR k (by omega)
 have hrn := rowAt_map encS NM k (by omega)
 have hkA : k < AR.length:=by omega
 have hkN : k < NM.length:=by omega
 have hnb : (⟨#[]⟩ : ByteArray) = nilB0 := rfl
 have hargs : List.take AR[k].toNat ([[.v (.string ⟨#[120]⟩)],[.v (.string ⟨#[121]⟩)]] : List (List SV)) = (argsG k).map encS := by
  subst hr
  have : argsG k = xy2.take (ars4[k]).toNat:=by unfold argsG; rw [List.getD_eq_getElem?_getD,List.getElem?_eq_getElem hkA]; rfl
  rw [this,List.map_take]; rfl
 have hal := argsG_len k
 obtain ⟨har1,har2⟩ : 0 ≤ AR[k] ∧ AR[k] ≤ 2:=by subst hr; exact ars4_bd _ (List.getElem_mem hkA)
 have l2 : (([[.v (.string ⟨#[120]⟩)],[.v (.string ⟨#[121]⟩)]] : List (List SV)).length : Int) = 2 := rfl
 by_cases hk0 : 0 < k
 rotate_left
 ·have k0i : ¬ (0 : Int) < (k : Int):=by omega
  have hC0 : CurOk (I.2) := i1
  have hG := genG_ok (1 + u) k (k + 1)
  have gV : (argsG k).map encS ++ [[.v (.string ⟨#[105]⟩)],[.v (.string ⟨#[122]⟩)]] = (genG (1 + u) k (k + 1)).vars.map encS:=by unfold genG; rw [List.map_append]; rfl
  have gN : List.drop ((k : Int) + 1).toNat (List.take (1 + (u : Int)).toNat (NM.map encS)) = (genG (1 + u) k (k + 1)).names.map encS := by
   rw [show ((k : Int) + 1).toNat = k + 1 by omega,show (1 + (u : Int)).toNat = 1 + u by omega,← hn]; exact cut2_map _ _ _ _
  have gA : List.drop ((k : Int) + 1).toNat (List.take (1 + (u : Int)).toNat (AR.map encI)) = (genG (1 + u) k (k + 1)).ars.map encI := by
   rw [show ((k : Int) + 1).toNat = k + 1 by omega,show (1 + (u : Int)).toNat = 1 + u by omega,← hr]; exact cut2_map _ _ _ _
  have hf : funG (1 + u) k I.2 = funT (genG (1 + u) k (k + 1)) k (I.2):=by unfold funG funT; rw [if_neg hk0]
  rw [hf] at hnx
  have hNk : nms4.getD k nilB0 = NM[k]:=by subst hn; rw [List.getD_eq_getElem?_getD,List.getElem?_eq_getElem hkN]; rfl
  generalize genG (1 + u) k (k + 1) = G at *
  generalize hC : I.2 = C0 at *
  obtain ⟨b,b1,b2⟩ := below_bv C0 (L := 4) (by omega)
  have b2 : belowV C0 4 = (b : Int) := b2
  have hC4 := hC0.belowC 4
  obtain ⟨e,e1,e2⟩ := below_bv (belowC C0 4) (L := 2) (by omega)
  have e2 : belowV (belowC C0 4) 2 = (e : Int) := e2
  have hC2 := hC4.belowC 2
  have tb : (1 + (b : Int)).toNat = 1 + b:=by omega
  have te : (1 + (e : Int)).toNat = 1 + e:=by omega
  have t3 : (3 : Int).toNat = 3 := rfl
  obtain ⟨hBc,hBs,hBl⟩ := body_len hG (d := 1 + e) (n := 1 + b) (by omega) (by omega) hC2
  obtain ⟨hXc,hXs,hXl⟩ := exprG_sm hG (n := 3) (by omega) hBc
  have hne := exprG_ne G 3 (bodyG G (1 + e) (1 + b) (belowC (belowC C0 4) 2)).2
  unfold funT at hnx
  simp only [b2,e2,Int.toNat_natCast] at hnx
  generalize hB : bodyG G (1 + e) (1 + b) (belowC (belowC C0 4) 2) = B at *
  generalize hX : exprG G 3 B.2 = X at *
  have hD6 := encD_ex (k := 6) (nm := nilB0) (by omega) hne
  have hD7 := encD_pl (k := 7) (nm := nilB0) (by omega)
  have hD0 := encD_fn (NM[k]) (argsG k)
  (repeat' ((fail_if_success refine WP.atReg (b := 14) ?_); first|apply zS|apply zB|((first|refine WP.regionCut7 (id := 8) ?_|refine WP.regionGd (id := 10) ?_); simp only [go_sem,hli,hra,hrn,encI,encS,l2,hargs,Option.isNone,hC,k0i])|((first|apply zR|apply zC|apply zT|apply zE|apply zK| refine zZ [3,4] 16 fl046ad40d52 [27,28,29,30,31,32,33,34,35,36,37,38,39,40,41,42] [28,30,31,32] [28,30] (by decide +kernel) (by kernel_rfl) (by kernel_rfl) (by kernel_rfl) ?_|refine zF 16 fl046ad40d52 [27,28,29,30,31,32,33,34,35,36,37,38,39,40,41,42] [28,30,31,32] [28,30] (by decide +kernel) (by kernel_rfl) (by kernel_rfl) (by kernel_rfl) ?_|refine zF 10 fl5dfa93d89d [65,66,67,68,69,70,71,72,73,74] [70,72,74] [70,72] (by decide +kernel) (by kernel_rfl) (by kernel_rfl) (by kernel_rfl) ?_); simp only [go_sem,hli,hra,hrn,encI,encS,l2,hargs,Option.isNone,hC,k0i])|apply And.intro|intro _))
  all_goals first|omega|exact i1|exact hC5|exact hC4|exact hC2|exact hBc|exact hG|exact har1|exact har2|exact rowSg_ln ‹_›|exact rowP_ln ‹_›|exact ⟨_,_,_,rfl⟩|exact ⟨_,rfl,rfl⟩|rfl|(simp only [List.length_append,List.length_map,List.length_cons,List.length_nil]; omega)|skip
  refine zP [32] [] rfl ?_
  (repeat' (first|apply zS|apply zB|((first|refine WP.regionDb (id := 16) [94] ?_); simp only [go_sem,gV,gN,gA,b2,e2,tb,te,t3,hB,hX,hnb])|((first|apply zR|apply zC|apply zT|apply zE|apply zK| refine zZ [3,4] 16 fl046ad40d52 [27,28,29,30,31,32,33,34,35,36,37,38,39,40,41,42] [28,30,31,32] [28,30] (by decide +kernel) (by kernel_rfl) (by kernel_rfl) (by kernel_rfl) ?_|refine zF 16 fl046ad40d52 [27,28,29,30,31,32,33,34,35,36,37,38,39,40,41,42] [28,30,31,32] [28,30] (by decide +kernel) (by kernel_rfl) (by kernel_rfl) (by kernel_rfl) ?_|refine zF 10 flf811c78149 [65,66,67,68,69,70,71,72,73,74] [70,72,74] [70] (by decide +kernel) (by kernel_rfl) (by kernel_rfl) (by kernel_rfl) ?_); simp only [go_sem,gV,gN,gA,b2,e2,tb,te,t3,hB,hX,hnb])|apply And.intro|intro _))
  all_goals first|omega|exact i1|exact hC5|exact hC4|exact hC2|exact hBc|exact hG|exact har1|exact har2|exact rowSg_ln ‹_›|exact rowP_ln ‹_›|exact ⟨_,_,_,rfl⟩|exact ⟨_,rfl,rfl⟩|rfl|(simp only [List.length_append,List.length_map,List.length_cons,List.length_nil]; omega)|skip
  all_goals first|exact ⟨k + 1,by omega,by omega,by rw [hnx]; simp only [List.map_append,List.map_cons,List.map_nil,hNk,hD0,hD6,hD7,List.append_assoc,List.cons_append,List.nil_append]; (first|(and_intros <;> rfl)|simp)⟩|trace_state
 have k0i : (0 : Int) < (k : Int):=by omega
 by_cases ho : belowV I.2 5 = 0
 ·have hC0 : CurOk (belowC I.2 5) := i1.belowC 5
  have hG := genG_ok (1 + u) k (k)
  have gV : (argsG k).map encS ++ [[.v (.string ⟨#[105]⟩)],[.v (.string ⟨#[122]⟩)]] = (genG (1 + u) k (k)).vars.map encS:=by unfold genG; rw [List.map_append]; rfl
  have gN : List.drop k (List.take (1 + (u : Int)).toNat (NM.map encS)) = (genG (1 + u) k (k)).names.map encS := by
   rw [show (1 + (u : Int)).toNat = 1 + u by omega,← hn]; exact cut2_map _ _ _ _
  have gA : List.drop k (List.take (1 + (u : Int)).toNat (AR.map encI)) = (genG (1 + u) k (k)).ars.map encI := by
   rw [show (1 + (u : Int)).toNat = 1 + u by omega,← hr]; exact cut2_map _ _ _ _
  have hf : funG (1 + u) k I.2 = funT (genG (1 + u) k (k)) k (belowC I.2 5):=by unfold funG funT; rw [if_pos hk0,if_pos ho]
  rw [hf] at hnx
  have hNk : nms4.getD k nilB0 = NM[k]:=by subst hn; rw [List.getD_eq_getElem?_getD,List.getElem?_eq_getElem hkN]; rfl
  generalize genG (1 + u) k (k) = G at *
  generalize hC : belowC I.2 5 = C0 at *
  obtain ⟨b,b1,b2⟩ := below_bv C0 (L := 4) (by omega)
  have b2 : belowV C0 4 = (b : Int) := b2
  have hC4 := hC0.belowC 4
  obtain ⟨e,e1,e2⟩ := below_bv (belowC C0 4) (L := 2) (by omega)
  have e2 : belowV (belowC C0 4) 2 = (e : Int) := e2
  have hC2 := hC4.belowC 2
  have tb : (1 + (b : Int)).toNat = 1 + b:=by omega
  have te : (1 + (e : Int)).toNat = 1 + e:=by omega
  have t3 : (3 : Int).toNat = 3 := rfl
  obtain ⟨hBc,hBs,hBl⟩ := body_len hG (d := 1 + e) (n := 1 + b) (by omega) (by omega) hC2
  obtain ⟨hXc,hXs,hXl⟩ := exprG_sm hG (n := 3) (by omega) hBc
  have hne := exprG_ne G 3 (bodyG G (1 + e) (1 + b) (belowC (belowC C0 4) 2)).2
  unfold funT at hnx
  simp only [b2,e2,Int.toNat_natCast] at hnx
  generalize hB : bodyG G (1 + e) (1 + b) (belowC (belowC C0 4) 2) = B at *
  generalize hX : exprG G 3 B.2 = X at *
  have hD6 := encD_ex (k := 6) (nm := nilB0) (by omega) hne
  have hD7 := encD_pl (k := 7) (nm := nilB0) (by omega)
  have hD0 := encD_fn (NM[k]) (argsG k)
  (repeat' ((fail_if_success refine WP.atReg (b := 14) ?_); first|apply zS|apply zB|((first|refine WP.regionCut7 (id := 8) ?_|refine WP.regionGd (id := 10) ?_); simp only [go_sem,hli,hra,hrn,encI,encS,l2,hargs,Option.isNone,hC,k0i,ho,i1])|((first|apply zR|apply zC|apply zT|apply zE|apply zK| refine zZ [3,4] 16 fl046ad40d52 [27,28,29,30,31,32,33,34,35,36,37,38,39,40,41,42] [28,30,31,32] [28,30] (by decide +kernel) (by kernel_rfl) (by kernel_rfl) (by kernel_rfl) ?_|refine zF 16 fl046ad40d52 [27,28,29,30,31,32,33,34,35,36,37,38,39,40,41,42] [28,30,31,32] [28,30] (by decide +kernel) (by kernel_rfl) (by kernel_rfl) (by kernel_rfl) ?_|refine zF 10 fl5dfa93d89d [65,66,67,68,69,70,71,72,73,74] [70,72,74] [70,72] (by decide +kernel) (by kernel_rfl) (by kernel_rfl) (by kernel_rfl) ?_); simp only [go_sem,hli,hra,hrn,encI,encS,l2,hargs,Option.isNone,hC,k0i,ho,i1])|apply And.intro|intro _))
  all_goals first|omega|exact i1|exact hC5|exact hC4|exact hC2|exact hBc|exact hG|exact har1|exact har2|exact rowSg_ln ‹_›|exact rowP_ln ‹_›|exact ⟨_,_,_,rfl⟩|exact ⟨_,rfl,rfl⟩|rfl|(simp only [List.length_append,List.length_map,List.length_cons,List.length_nil]; omega)|skip
  refine zP [32] [] rfl ?_
  (repeat' (first|apply zS|apply zB|((first|refine WP.regionDb (id := 16) [94] ?_); simp only [go_sem,gV,gN,gA,b2,e2,tb,te,t3,hB,hX,hnb])|((first|apply zR|apply zC|apply zT|apply zE|apply zK| refine zZ [3,4] 16 fl046ad40d52 [27,28,29,30,31,32,33,34,35,36,37,38,39,40,41,42] [28,30,31,32] [28,30] (by decide +kernel) (by kernel_rfl) (by kernel_rfl) (by kernel_rfl) ?_|refine zF 16 fl046ad40d52 [27,28,29,30,31,32,33,34,35,36,37,38,39,40,41,42] [28,30,31,32] [28,30] (by decide +kernel) (by kernel_rfl) (by kernel_rfl) (by kernel_rfl) ?_|refine zF 10 flf811c78149 [65,66,67,68,69,70,71,72,73,74] [70,72,74] [70] (by decide +kernel) (by kernel_rfl) (by kernel_rfl) (by kernel_rfl) ?_); simp only [go_sem,gV,gN,gA,b2,e2,tb,te,t3,hB,hX,hnb])|apply And.intro|intro _))
  all_goals first|omega|exact i1|exact hC5|exact hC4|exact hC2|exact hBc|exact hG|exact har1|exact har2|exact rowSg_ln ‹_›|exact rowP_ln ‹_›|exact ⟨_,_,_,rfl⟩|exact ⟨_,rfl,rfl⟩|rfl|(simp only [List.length_append,List.length_map,List.length_cons,List.length_nil]; omega)|skip
  all_goals first|exact ⟨k + 1,by omega,by omega,by rw [hnx]; simp only [List.map_append,List.map_cons,List.map_nil,hNk,hD0,hD6,hD7,List.append_assoc,List.cons_append,List.nil_append]; (first|(and_intros <;> rfl)|simp)⟩|trace_state
 ·have hC0 : CurOk (belowC I.2 5) := i1.belowC 5
  have hG := genG_ok (1 + u) k (k + 1)
  have gV : (argsG k).map encS ++ [[.v (.string ⟨#[105]⟩)],[.v (.string ⟨#[122]⟩)]] = (genG (1 + u) k (k + 1)).vars.map encS:=by unfold genG; rw [List.map_append]; rfl
  have gN : List.drop ((k : Int) + 1).toNat (List.take (1 + (u : Int)).toNat (NM.map encS)) = (genG (1 + u) k (k + 1)).names.map encS := by
   rw [show ((k : Int) + 1).toNat = k + 1 by omega,show (1 + (u : Int)).toNat = 1 + u by omega,← hn]; exact cut2_map _ _ _ _
  have gA : List.drop ((k : Int) + 1).toNat (List.take (1 + (u : Int)).toNat (AR.map encI)) = (genG (1 + u) k (k + 1)).ars.map encI := by
   rw [show ((k : Int) + 1).toNat = k + 1 by omega,show (1 + (u : Int)).toNat = 1 + u by omega,← hr]; exact cut2_map _ _ _ _
  have hf : funG (1 + u) k I.2 = funT (genG (1 + u) k (k + 1)) k (belowC I.2 5):=by unfold funG funT; rw [if_pos hk0,if_neg ho]
  rw [hf] at hnx
  have hNk : nms4.getD k nilB0 = NM[k]:=by subst hn; rw [List.getD_eq_getElem?_getD,List.getElem?_eq_getElem hkN]; rfl
  generalize genG (1 + u) k (k + 1) = G at *
  generalize hC : belowC I.2 5 = C0 at *
  obtain ⟨b,b1,b2⟩ := below_bv C0 (L := 4) (by omega)
  have b2 : belowV C0 4 = (b : Int) := b2
  have hC4 := hC0.belowC 4
  obtain ⟨e,e1,e2⟩ := below_bv (belowC C0 4) (L := 2) (by omega)
  have e2 : belowV (belowC C0 4) 2 = (e : Int) := e2
  have hC2 := hC4.belowC 2
  have tb : (1 + (b : Int)).toNat = 1 + b:=by omega
  have te : (1 + (e : Int)).toNat = 1 + e:=by omega
  have t3 : (3 : Int).toNat = 3 := rfl
  obtain ⟨hBc,hBs,hBl⟩ := body_len hG (d := 1 + e) (n := 1 + b) (by omega) (by omega) hC2
  obtain ⟨hXc,hXs,hXl⟩ := exprG_sm hG (n := 3) (by omega) hBc
  have hne := exprG_ne G 3 (bodyG G (1 + e) (1 + b) (belowC (belowC C0 4) 2)).2
  unfold funT at hnx
  simp only [b2,e2,Int.toNat_natCast] at hnx
  generalize hB : bodyG G (1 + e) (1 + b) (belowC (belowC C0 4) 2) = B at *
  generalize hX : exprG G 3 B.2 = X at *
  have hD6 := encD_ex (k := 6) (nm := nilB0) (by omega) hne
  have hD7 := encD_pl (k := 7) (nm := nilB0) (by omega)
  have hD0 := encD_fn (NM[k]) (argsG k)
  (repeat' ((fail_if_success refine WP.atReg (b := 14) ?_); first|apply zS|apply zB|((first|refine WP.regionCut7 (id := 8) ?_|refine WP.regionGd (id := 10) ?_); simp only [go_sem,hli,hra,hrn,encI,encS,l2,hargs,Option.isNone,hC,k0i,ho,i1])|((first|apply zR|apply zC|apply zT|apply zE|apply zK| refine zZ [3,4] 16 fl046ad40d52 [27,28,29,30,31,32,33,34,35,36,37,38,39,40,41,42] [28,30,31,32] [28,30] (by decide +kernel) (by kernel_rfl) (by kernel_rfl) (by kernel_rfl) ?_|refine zF 16 fl046ad40d52 [27,28,29,30,31,32,33,34,35,36,37,38,39,40,41,42] [28,30,31,32] [28,30] (by decide +kernel) (by kernel_rfl) (by kernel_rfl) (by kernel_rfl) ?_|refine zF 10 fl5dfa93d89d [65,66,67,68,69,70,71,72,73,74] [70,72,74] [70,72] (by decide +kernel) (by kernel_rfl) (by kernel_rfl) (by kernel_rfl) ?_); simp only [go_sem,hli,hra,hrn,encI,encS,l2,hargs,Option.isNone,hC,k0i,ho,i1])|apply And.intro|intro _))
  all_goals first|omega|exact i1|exact hC5|exact hC4|exact hC2|exact hBc|exact hG|exact har1|exact har2|exact rowSg_ln ‹_›|exact rowP_ln ‹_›|exact ⟨_,_,_,rfl⟩|exact ⟨_,rfl,rfl⟩|rfl|(simp only [List.length_append,List.length_map,List.length_cons,List.length_nil]; omega)|skip
  refine zP [32] [] rfl ?_
  (repeat' (first|apply zS|apply zB|((first|refine WP.regionDb (id := 16) [94] ?_); simp only [go_sem,gV,gN,gA,b2,e2,tb,te,t3,hB,hX,hnb])|((first|apply zR|apply zC|apply zT|apply zE|apply zK| refine zZ [3,4] 16 fl046ad40d52 [27,28,29,30,31,32,33,34,35,36,37,38,39,40,41,42] [28,30,31,32] [28,30] (by decide +kernel) (by kernel_rfl) (by kernel_rfl) (by kernel_rfl) ?_|refine zF 16 fl046ad40d52 [27,28,29,30,31,32,33,34,35,36,37,38,39,40,41,42] [28,30,31,32] [28,30] (by decide +kernel) (by kernel_rfl) (by kernel_rfl) (by kernel_rfl) ?_|refine zF 10 flf811c78149 [65,66,67,68,69,70,71,72,73,74] [70,72,74] [70] (by decide +kernel) (by kernel_rfl) (by kernel_rfl) (by kernel_rfl) ?_); simp only [go_sem,gV,gN,gA,b2,e2,tb,te,t3,hB,hX,hnb])|apply And.intro|intro _))
  all_goals first|omega|exact i1|exact hC5|exact hC4|exact hC2|exact hBc|exact hG|exact har1|exact har2|exact rowSg_ln ‹_›|exact rowP_ln ‹_›|exact ⟨_,_,_,rfl⟩|exact ⟨_,rfl,rfl⟩|rfl|(simp only [List.length_append,List.length_map,List.length_cons,List.length_nil]; omega)|skip
  all_goals first|exact ⟨k + 1,by omega,by omega,by rw [hnx]; simp only [List.map_append,List.map_cons,List.map_nil,hNk,hD0,hD6,hD7,List.append_assoc,List.cons_append,List.nil_append]; (first|(and_intros <;> rfl)|simp)⟩|trace_state
end
end Go.Proofs.Ytjjbcoigaejoaaa

namespace Go.Proofs.Ytjjbcoigaejoaaa
open Go.Vc
attribute [local irreducible] Go.Vc.WP
attribute [local go_sem] cx0_t cx0_c
attribute [local go_sem] decCur_abc decU_enc decLine_enc oneLine_f line_eta cur_eta
def drP (b : List Int) : List Line := (progG (newC b)).1
def kDrawP : Ctr := pur (fun args=>decU (aR args 0)) (fun b=>[.sl 1 (b.map encU)]) (fun b=>b.length ≤ 1048576 ∧ ∀ z ∈ b,0 ≤ z ∧ z ≤ 255) (fun d _=>.own d) (fun d b=>[(d,.dp 64 4 ((drP b).map encD))])
section
noncomputable def cxDrPg := mkX [(31,kNew),(30,kPrgD)] (COk.cons cNewS (COk.cons cPrgD (COk.nil _)))
theorem cxDrPg_t : cxDrPg.tys = tys := rfl
theorem cxDrPg_c : cxDrPg.C = [(31,kNew),(30,kPrgD)] := rfl
attribute [local go_sem] cxDrPg_t cxDrPg_c kNew kPrgD
theorem cDrawP : Cn Try.prog 12 kDrawP := by
 refine Cn.pur Try.func12 (by kernel_rfl) rfl fun d x hx=>?_
 rename List Int=>b
 obtain ⟨h1,h2⟩ := hx
 have hn := newC_ok h1 h2
 refine Holds.go (c := cxDrPg) Try.func12 rfl Try.results12 Try.ntmps12 (by omega) (by simp) rfl ?_
 intro X0 w0
 (repeat' (first|apply zS|apply zB|((first|apply zR|apply zC|apply zT|apply zE|apply zK);simp only [go_sem,encCur])|apply And.intro|intro _))
 all_goals first|omega|exact hn|exact (h2 _ ‹_›).1|exact (h2 _ ‹_›).2|rfl|skip
end
def kDrawPZ : Ctr := pur (fun args=>decU (aR args 0)) (fun b=>[.sl 1 (b.map encU)]) (fun b=>b.length ≤ 1048576 ∧ ∀ z ∈ b,0 ≤ z ∧ z ≤ 255) (fun _ b=>.sl 4 ((drP b).map encLine)) (fun _ _=>[])
theorem cDrawPZ : Cn Try.prog 12 kDrawPZ := ⟨cDrawP.call,fun d args ha=>(Holds.reob (cDrawP.holds d args ha) (fun id ob' hi=>by
  have hm := lk_mem hi
  simp only [List.mem_cons,List.not_mem_nil,or_false,Prod.mk.injEq] at hm
  obtain ⟨rfl,rfl⟩ := hm
  refine ⟨_,by show lk _ [(_,_)] = _; simp only [lk,if_pos]; rfl,fun w X β v h=>h.fill (encD_fill _)⟩)).frozenD,fun _ _ _ h=>h.elim⟩
end Go.Proofs.Ytjjbcoigaejoaaa

namespace Go.Proofs.Ytjjbcoigaejoaaa
open Go.Vc
attribute [local irreducible] Go.Vc.WP
attribute [local go_sem] cx0_t cx0_c
attribute [local go_sem] decU_enc decI_enc
def kBig : Ctr := pur (fun args=>decU (aR args 0)) (fun b=>[.sl 1 (b.map encU)]) (fun b=>b.length ≤ 9223372036854775807) (fun _ b=>.v (.bool (decide (1048576 < (b.length : Int))))) (fun _ _=>[])
section
noncomputable def cxBig := mkX [] (COk.nil _)
theorem cxBig_t : cxBig.tys = tys := rfl
theorem cxBig_c : cxBig.C = [] := rfl
attribute [local go_sem] cxBig_t cxBig_c
theorem cBig : Cn Try.prog 11 kBig := by
 refine Cn.pur Try.func11 (by kernel_rfl) rfl fun d x hx=>?_
 rename List Int=>b
 refine Holds.go (c := cxBig) Try.func11 rfl Try.results11 Try.ntmps11 (by omega) (by simp) rfl ?_
 intro X0 w0
 (repeat' (first|apply zS|apply zB|((first|apply zR|apply zC|apply zT|apply zE|apply zK);simp only [go_sem])|apply And.intro|intro _))
 all_goals first|omega|skip
end
def atV (b : List Int) (i : Int) : Int := if b.length = 0 then 0 else b.getD ((i * 5 + 1).tmod b.length).toNat 0
theorem atV_bd {b : List Int} (h : ∀ z ∈ b,0 ≤ z ∧ z ≤ 255) (i : Int) : 0 ≤ atV b i ∧ atV b i ≤ 255 := by
 unfold atV
 split
 ·omega
 ·rw [List.getD_eq_getElem?_getD]
  cases hq : b[((i * 5 + 1).tmod b.length).toNat]? with
  |none=>simp
  |some z=>exact h z (List.mem_of_getElem? hq)
def kAt : Ctr := pur (fun args=>(decU (aR args 0),aI args 1)) (fun x=>[.sl 1 (x.1.map encU),.v (.int .i64 x.2)]) (fun x=>(x.1.length ≤ 1048576 ∧ 0 ≤ x.2 ∧ x.2 ≤ 1000) ∧ ∀ z ∈ x.1,0 ≤ z ∧ z ≤ 255) (fun _ x=>.v (.int .i64 (atV x.1 x.2))) (fun _ _=>[])
section
noncomputable def cxAt := mkX [] (COk.nil _)
theorem cxAt_t : cxAt.tys = tys := rfl
theorem cxAt_c : cxAt.C = [] := rfl
attribute [local go_sem] cxAt_t cxAt_c
theorem cAt : Cn Try.prog 13 kAt := by
 refine Cn.pur Try.func13 (by kernel_rfl) rfl fun d x hx=>?_
 obtain ⟨b,i⟩ := x
 obtain ⟨⟨h1,h2,h3⟩,h4⟩ := hx
 simp only at h1 h2 h3 h4 ⊢
 refine Holds.go (c := cxAt) Try.func13 rfl Try.results13 Try.ntmps13 (by omega) (by simp) rfl ?_
 intro X0 w0
 by_cases h0 : b.length = 0
 ·have h0i : (b.length : Int) = 0:=by omega
  have e : atV b i = 0 := if_pos h0
  rw [e]
  (repeat' (first|apply zS|apply zB|((first|apply zR|apply zC|apply zT|apply zE|apply zK);simp only [go_sem,h0i])|apply And.intro|intro _))
  all_goals first|omega|skip
 ·have h0i : ¬ (b.length : Int) = 0:=by omega
  have hm1 : 0 ≤ (i * 5 + 1).tmod b.length := Int.tmod_nonneg _ (by omega)
  have hm2 : (i * 5 + 1).tmod b.length < b.length := Int.tmod_lt_of_pos _ (by omega)
  obtain ⟨q,hq⟩ : ∃ q : Nat,(i * 5 + 1).tmod b.length = q := ⟨_,(Int.toNat_of_nonneg hm1).symm⟩
  have hqb : q < b.length:=by omega
  have hqi : (q : Int) < b.length:=by omega
  have hr := rowAt_map encU b q hqb
  have hz := h4 _ (List.getElem_mem hqb)
  have e : atV b i = b[q] := by
   unfold atV
   rw [if_neg h0,hq,Int.toNat_natCast,List.getD_eq_getElem?_getD,List.getElem?_eq_getElem hqb]; rfl
  rw [e]
  (repeat' (first|apply zS|apply zB|((first|apply zR|apply zC|apply zT|apply zE|apply zK);simp only [go_sem,h0i,hq,hqi,hr,encU])|apply And.intro|intro _))
  all_goals first|omega|skip
end
end Go.Proofs.Ytjjbcoigaejoaaa

namespace Go.Proofs.Ytjjbcoigaejoaaa
open Go.Vc
attribute [local irreducible] Go.Vc.WP
attribute [local go_sem] cx0_t cx0_c
def fl9d07e2ccfb : List Go.Vc.Fp := [⟨[1],[],[],[5,6],[],[]⟩,⟨[3],[0],[],[5,6],[],[]⟩,⟨[4],[0,1],[],[6],[],[5]⟩,⟨[],[],[],[5],[],[6]⟩,⟨[1],[],[],[5,6],[],[]⟩,⟨[7],[4],[],[5,6],[],[]⟩,⟨[],[0,1,2,3,4,5],[],[],[],[]⟩,⟨[],[0,1,2,3,4,5,6],[],[],[],[]⟩,⟨[],[0,1,2,3,4,5,6,7],[],[],[],[]⟩]
attribute [local go_sem] fl9d07e2ccfb
attribute [local go_sem] decNode_enc decFrame_enc oneFrame_enc stkA oneFrame_ab oneNode_abc decI_enc
def prA (args : List SV) (i : Nat) : List Node × List Int := match args[i]? with
 |some (.agg [.sl _ r,.sl _ q])=>(decNode r,decI q)
 | _=>([],[])
attribute [local go_sem] prA
def wfP (x : List Node × List Int) : Prop := (x.1.length ≤ 4398046511104 ∧ ∀ n ∈ x.1,n.name.size ≤ 1099511627776) ∧ x.2.length ≤ 4398046511104
theorem cntOk_bad {C : List Int} {k : Nat} (hk : k < C.length) (h : C[k] < 0 ∨ 1000000000000 - (C.take k).sum < C[k]) : cntOk C = false := by
 cases hs : cntOk C with
 |false=>rfl
 |true=>have := cntOk_at hs k hk; omega
theorem profNo {N : List Node} {C : List Int} (h : stacksOk N = false ∨ ¬ (C.length : Int) = N.length ∨ cntOk C = false) : profileOk N C = false := by
 cases hs : profileOk N C with
 |false=>rfl
 |true =>
  obtain ⟨h1,h2,h3⟩ := profileOk_iff.1 hs
  rcases h with h|h|h
  ·rw [h1] at h; cases h
  ·omega
  ·rw [h3] at h; cases h
theorem cntOk_all {C : List Int} (h : ∀ j (hj : j < C.length),0 ≤ C[j] ∧ C[j] ≤ 1000000000000 - (C.take j).sum) : cntOk C = true := by
 unfold cntOk
 exact decide_eq_true h
def kPrOk : Ctr := pur (fun args=>prA args 0) (fun x=>[.agg [.sl 3 (x.1.map encNode),.sl 1 (x.2.map encI)]]) wfP (fun _ x=>.v (.bool (profileOk x.1 x.2))) (fun _ _=>[])
section
noncomputable def cxPoS := mkX [(74,kStOk),(33,k60)] (COk.cons cStOkS (COk.cons c58 (COk.nil _)))
theorem cxPoS_t : cxPoS.tys = tys := rfl
theorem cxPoS_c : cxPoS.C = [(74,kStOk),(33,k60)] := rfl
attribute [local go_sem] cxPoS_t cxPoS_c kStOk k60
theorem cPrOkS : Cn Try.prog 39 kPrOk := by
 refine Cn.pur Try.func39 (by kernel_rfl) rfl fun d x hx=>?_
 obtain ⟨N,C⟩ := x
 obtain ⟨⟨hN,hs⟩,hC⟩ := hx
 simp only at hN hs hC ⊢
 refine Holds.go (c := cxPoS) Try.func39 rfl Try.results39 Try.ntmps39 (by omega) (by simp) rfl ?_
 intro X0 w0
 (repeat' (first|apply zS|apply zB|((first|apply zR|apply zC|apply zT|apply zE|apply zK);simp only [go_sem])|apply And.intro|intro _))
 all_goals first|omega|exact hs _ ‹_›|skip
 ·rename_i h; rw [profNo (h.imp_right .inl)]
 rename_i h
 refine zL (fun k : Nat=>⟨[(1,.ptr 1 0 0 0),(3,.v (.int .i64 (C.take k).sum)),(4,.v (.int .i64 k))],[(1,.box 45 [.sl 3 (N.map encNode),.sl 1 (C.map encI)])]⟩)
  (fun k=>k ≤ C.length ∧ ∀ j (hj : j < C.length),j < k → 0 ≤ C[j] ∧ C[j] ≤ 1000000000000 - (C.take j).sum) (fun k=>C.length - k) 0 (by simp) ?_ ?_
 ·(simp only [go_sem] <;> (first|(and_intros <;> rfl)|simp))
 intro k ⟨hk,hf⟩
 have hsum : 0 ≤ (C.take k).sum ∧ (C.take k).sum ≤ 1000000000000 := by
  have := cntOk_sum (C := C.take k) (fun j hj=>by
   rw [List.length_take] at hj
   have := hf j (by omega) (by omega)
   rw [List.getElem_take,List.take_take,Nat.min_eq_left (by omega)]
   exact this) k (by rw [List.length_take]; omega)
  rwa [List.take_take,Nat.min_self] at this
 by_cases hlt : k < C.length
 ·have h1 := rowAt_map encI C k hlt
  have h2 := take_sum C k hlt
  (repeat' (first|apply zS|apply zB|((first|apply zR|apply zC|apply zT|apply zE|apply zK);simp only [go_sem,h1,encI])|apply And.intro|intro _))
  all_goals first|omega|skip
  ·rename_i hb; rw [profNo (.inr (.inr (cntOk_bad hlt (by omega))))]
  ·rename_i hb
   refine ⟨k + 1,⟨by omega,fun j hj hjk=>?_⟩,by omega,by rw [h2]; (first|(and_intros <;> rfl)|simp)⟩
   rcases Nat.lt_or_ge j k with hh|hh
   ·exact hf j hj hh
   ·have : j = k:=by omega
    subst this; omega
 ·(repeat' (first|apply zS|apply zB|((first|apply zR|apply zC|apply zT|apply zE|apply zK);simp only [go_sem])|apply And.intro|intro _))
  all_goals first|omega|skip
  rw [profileOk_iff.2 ⟨h.1,by omega,cntOk_all fun j hj=>hf j hj (by omega)⟩]
end
section
noncomputable def cxPoI := mkX [(100,kStOk),(35,k60)] (COk.cons cStOkI (COk.cons c60 (COk.nil _)))
theorem cxPoI_t : cxPoI.tys = tys := rfl
theorem cxPoI_c : cxPoI.C = [(100,kStOk),(35,k60)] := rfl
attribute [local go_sem] cxPoI_t cxPoI_c kStOk k60
theorem cPrOkI : Cn Try.prog 71 kPrOk := by
 refine Cn.pur Try.func71 (by kernel_rfl) rfl fun d x hx=>?_
 obtain ⟨N,C⟩ := x
 obtain ⟨⟨hN,hs⟩,hC⟩ := hx
 simp only at hN hs hC ⊢
 refine Holds.go (c := cxPoI) Try.func71 rfl Try.results71 Try.ntmps71 (by omega) (by simp) rfl ?_
 intro X0 w0
 (repeat' (first|apply zS|apply zB|((first|apply zR|apply zC|apply zT|apply zE|apply zK);simp only [go_sem])|apply And.intro|intro _))
 all_goals first|omega|exact hs _ ‹_›|skip
 ·rename_i h; rw [profNo (h.imp_right .inl)]
 rename_i h
 refine zL (fun k : Nat=>⟨[(3,.v (.int .i64 (1000000000000 - (C.take k).sum))),(21,.sl 1 (C.map encI)),(22,.v (.int .i64 C.length)),(23,.v (.int .i64 k))],[]⟩)
  (fun k=>k ≤ C.length ∧ ∀ j (hj : j < C.length),j < k → 0 ≤ C[j] ∧ C[j] ≤ 1000000000000 - (C.take j).sum) (fun k=>C.length - k) 0 (by simp) ?_ ?_
 ·(simp only [go_sem] <;> (first|(and_intros <;> rfl)|simp))
 intro k ⟨hk,hf⟩
 have hsum : 0 ≤ (C.take k).sum ∧ (C.take k).sum ≤ 1000000000000 := by
  have := cntOk_sum (C := C.take k) (fun j hj=>by
   rw [List.length_take] at hj
   have := hf j (by omega) (by omega)
   rw [List.getElem_take,List.take_take,Nat.min_eq_left (by omega)]
   exact this) k (by rw [List.length_take]; omega)
  rwa [List.take_take,Nat.min_self] at this
 by_cases hlt : k < C.length
 ·have h1 := rowAt_map encI C k hlt
  have h2 := take_sum C k hlt
  (repeat' (first|apply zS|apply zB|((first|apply zR|apply zC|apply zT|apply zE|apply zK);simp only [go_sem,h1,encI])|apply And.intro|intro _))
  all_goals first|omega|skip
  ·rename_i hb; rw [profNo (.inr (.inr (cntOk_bad hlt (by omega))))]
  ·rename_i hb
   refine ⟨k + 1,⟨by omega,fun j hj hjk=>?_⟩,by omega,by rw [h2,← Int.sub_sub]; (first|(and_intros <;> rfl)|simp)⟩
   rcases Nat.lt_or_ge j k with hh|hh
   ·exact hf j hj hh
   ·have : j = k:=by omega
    subst this; omega
 ·(repeat' (first|apply zS|apply zB|((first|apply zR|apply zC|apply zT|apply zE|apply zK);simp only [go_sem])|apply And.intro|intro _))
  all_goals first|omega|skip
  rw [profileOk_iff.2 ⟨h.1,by omega,cntOk_all fun j hj=>hf j hj (by omega)⟩]
end
def kCopyPr : Ctr := pur (fun args=>prA args 0) (fun x=>[.agg [.sl 3 (x.1.map encNode),.sl 1 (x.2.map encI)]]) (fun x=>x.1.length ≤ 4398046511104 ∧ x.2.length ≤ 4398046511104) (fun d _=>.agg [.own d,.own (d + 1000)]) (fun d x=>[(d,.sl 139 3 (x.1.map encNode)),(d + 1000,.sl 3 1 (x.2.map encI))])
section
end
section
noncomputable def cxCpI := mkX [(101,kCopyStk)] (COk.cons cCopyStkI (COk.nil _))
theorem cxCpI_t : cxCpI.tys = tys := rfl
theorem cxCpI_c : cxCpI.C = [(101,kCopyStk)] := rfl
attribute [local go_sem] cxCpI_t cxCpI_c kCopyStk
theorem cCopyPrI : Cn Try.prog 72 kCopyPr := by
 refine Cn.pur Try.func72 (by kernel_rfl) rfl fun d x hx=>?_
 obtain ⟨N,C⟩ := x
 obtain ⟨hN,hC⟩ := hx
 simp only at hN hC ⊢
 refine Holds.go (c := cxCpI) Try.func72 rfl Try.results72 Try.ntmps72 (by omega) (by simp) rfl ?_
 intro X0 w0
 (repeat' (first|apply zS|apply zB|((first|apply zR|apply zC|apply zT|apply zE|apply zK| refine zF 6 fl9d07e2ccfb [3,4,5,6,7,8] [5,6] [] (by decide +kernel) (by kernel_rfl) (by kernel_rfl) (by kernel_rfl) ?_); simp only [go_sem])|apply And.intro|intro _))
 all_goals first|omega|exact rlNode ‹_›|exact rlI ‹_›|exact ⟨_,_,_,rfl⟩|exact ⟨_,_,rfl,_,_,rfl,rfl⟩|exact if_neg (by omega)|skip
end
end Go.Proofs.Ytjjbcoigaejoaaa

namespace Go.Vc
def chainOf (x : Value) : List PanicEntry := [{ v := x,recovered := false }]
def EX : Option Value → Ending → Value → Prop
 |none,e,v=>e = .returned v
 |some x,e,_=>e = .panicked (chainOf x)
structure Ctx where
 ctr : Ctr
 pan : List SV → List (Nat × Ob) → Option Value
structure POk (P : Program) (C2 : List (FuncId × Ctx)) : Prop where
 call : ∀ f c,lk f C2 = some c → Callable P f
 holds : ∀ f c,lk f C2 = some c → ∀ d args obs,(c.ctr.wri d args obs).1 → HoldsE (EX (c.pan args obs)) P f args obs (c.ctr.wri d args obs).2.1 (c.ctr.wri d args obs).2.2.1 (c.ctr.wri d args obs).2.2.2
def headsBy (A : List SV) (is : List Nat) : List Nat := is.flatMap fun i=>match nthS A i with
 | .ptr id _ _ _=>[id]
 | .own id=>[id]
 | _=>[]
def innersBy (st : St) (A : List SV) (is : List Nat) : List Nat := is.flatMap fun i=>match nthS A i with
 | .ptr id _ _ _=>(match lk id st.hp with
  |some (.box _ cs)=>cs.flatMap SV.owns1
  | _=>[])
 | _=>[]
def llX (st : St) (A : List SV) (ctr : Ctr) : List Nat := headsBy A ctr.lend
def lmX (st : St) (A : List SV) (ctr : Ctr) : List Nat := innersBy st A ctr.lend ++ lentBy st A ctr.move
def ctrs (C2 : List (FuncId × Ctx)) : List (FuncId × Ctr) := C2.map fun p=>(p.1,p.2.ctr)
def St.isX (C2 : List (FuncId × Ctx)) (o : Oper) (st : St) : Bool :=
 match o.op with
 | .call c=>match c.callee with
  | .value x=>match st.ev x with
   | .fn f _=>(lk f C2).isSome
   | _=>false
  | _=>false
 | _=>false
def St.panOf (C2 : List (FuncId × Ctx)) (o : Oper) (st : St) : Option Value :=
 match o.op with
 | .call c=>match c.callee with
  | .value x=>match st.ev x with
   | .fn f caps=>match lk f C2 with
    |some cp=>cp.pan (argsR st.hp (pairs 1000000 (llX st (st.argL c caps) cp.ctr) ++ pairs 900000 (lmX st (st.argL c caps) cp.ctr)) (cp.ctr.lend ++ cp.ctr.move) 0 (st.argL c caps)) (obsR st.hp (pairs 1000000 (llX st (st.argL c caps) cp.ctr) ++ pairs 900000 (lmX st (st.argL c caps) cp.ctr)))
    |none=>none
   | _=>none
  | _=>none
 | _=>none
def St.callX (dd : Nat) (C2 : List (FuncId × Ctx)) (o : Oper) (st : St) (K : St → Prop) (Kp : Value → St → Prop) : Prop :=
 match st.panOf C2 o with
 |none=>st.callLG llX lmX dd (ctrs C2) o K
 |some x=>st.callLG llX lmX dd (ctrs C2) { o with dst := none } (Kp x)
theorem lk_ctrs {C2 : List (FuncId × Ctx)} {f : FuncId} {c : Ctr} : lk f (ctrs C2) = some c → ∃ cp,lk f C2 = some cp ∧ cp.ctr = c := by
 induction C2 with
 |nil=>intro h; cases h
 |cons p l ih =>
  obtain ⟨g,cp⟩ := p
  intro h
  simp only [ctrs,List.map_cons,lk] at h ⊢
  by_cases hf : f = g
  ·rw [if_pos hf] at h ⊢; exact ⟨cp,rfl,by simpa using h⟩
  ·rw [if_neg hf] at h ⊢; exact ih h
section
variable {P : Program} {tys : List (Nat × TyD)} {N : Nat} {X0 : Nat → Prop} {M : Nat → BV → Prop} {w0 : World} {st : St} {β : Nat → BV} {a : Act} {w : World}
theorem callX_sound {C2 : List (FuncId × Ctx)} (hC : POk P C2) (hA : Ap P X0 M w0) (h : Sim N X0 M w0 st β a w) {o : Oper} (hN : ∀ d,o.dst = some d → d < N) {K : St → Prop} {Kp : Value → St → Prop} {dd : Nat} (hw : st.callX dd C2 o K Kp)
  {Q : Exit → Act → World → Prop} (hQ : ∀ x a w,Ok N X0 M w0 (Kp x) a w → Q (.panic (chainOf x)) a w) : o.wp P a w (Ok N X0 M w0 K) Q := by
 unfold St.callX at hw
 have hcall : ∀ f c,lk f (ctrs C2) = some c → Callable P f := fun f c hc=>by obtain ⟨cp,h1,_⟩ := lk_ctrs hc; exact hC.call f cp h1
 cases hp : st.panOf C2 o with
 |none =>
  rw [hp] at hw
  obtain ⟨f,us,hrun,hcalls⟩ := eff_callE (E := EX none) hcall hA h hN hw (fun c x f caps ctr h1 h2 h3 h4 hc=>by
   obtain ⟨cp,g1,rfl⟩ := lk_ctrs h4
   have := hC.holds f cp g1 dd _ _ hc
   unfold St.panOf at hp
   simp only [h1,h2,h3,g1] at hp
   rw [hp] at this
   exact this)
  unfold Oper.wp
  rw [hrun,Oper.upon_enter]
  exact hcalls.mono fun e w' ⟨v,hE,hok⟩=>by
   have hE : e = .returned v := hE
   subst hE; exact hok
 |some x =>
  rw [hp] at hw
  obtain ⟨f,us,hrun,hcalls⟩ := eff_callE (o := { o with dst := none }) (E := EX (some x)) hcall hA h (fun d hd=>by cases hd) hw (fun c x' f caps ctr h1 h2 h3 h4 hc=>by
   obtain ⟨cp,g1,rfl⟩ := lk_ctrs h4
   have := hC.holds f cp g1 dd _ _ hc
   unfold St.panOf at hp
   have h1' : o.op = .call c := h1
   simp only [h1',h2,h3,g1] at hp
   rw [hp] at this
   exact this)
  have hrun' : (execOp a.eval o).run P w = .ok (.enter f us) w := hrun
  unfold Oper.wp
  rw [hrun',Oper.upon_enter]
  exact hcalls.mono fun e w' ⟨v,hE,hok⟩=>by
   have hE : e = .panicked (chainOf x) := hE
   subst hE
   exact hQ x a w' hok
end
end Go.Vc

