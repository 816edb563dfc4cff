/-
  DERIVED. Several texts of ours in one: VcRt, VtStpI, VtSeD3.
-/
import Derived.Test.YtoomncljmgcidaaGreatVa5
import Derived.Test.YtoomncljmgcidaaGreatVa21
import Derived.Test.YtoomncljmgcidaaGreatVa33
import Derived.Test.YtoomncljmgcidaaGreatVa35
set_option linter.unusedSimpArgs false
set_option linter.unusedVariables false
set_option maxHeartbeats 1000000
set_option maxRecDepth 10000
namespace Go.Vc
def St.stepGd (tys : List (Nat × TyD)) (C : List (FuncId × Ctr)) (N : Nat) (ops : Array Oper) (o : Oper) (st : St) (K : St → Prop) : Prop :=
 match o.guard with
 |none=>st.step tys C N ops o K
 |some (j,want)=>match (ops[j]?).bind (·.dst) with
  |some t=>match guardB want (st.get t) with
   |some false=>dstOk N o.dst = true ∧ K (st.put o.dst (.cond false (offV tys o)))
   |some true=>st.stepU tys C N o K
   |none=>False
  |none=>False
def St.runGd (tys : List (Nat × TyD)) (C : List (FuncId × Ctr)) (N : Nat) (ops : Array Oper) : List Oper → St → (St → Prop) → Prop
 | [],st,K=>K st
 |o :: l,st,K=>st.stepGd tys C N ops o fun st'=>St.runGd tys C N ops l st' K
section
variable {P : Program} {tys : List (Nat × TyD)} {C : List (FuncId × Ctr)} {N : Nat} {X0 : Nat → Prop} {M : Nat → BV → Prop} {w0 : World} {st : St} {β : Nat → BV} {a : Act} {w : World}
theorem stepGd_sound (hA : Ap P X0 M w0) (hty : ∀ T d,lk T tys = some d → TyOk P T d) (hC : COk P C) (h : Sim N X0 M w0 st β a w) {ops : Array Oper} {o : Oper} {K : St → Prop} (hw : st.stepGd tys C N ops o K) {Q : Exit → Act → World → Prop} :
  if Region.wanted o (yielded ops a.tmps) then o.wp P a w (Ok N X0 M w0 K) Q else Ok N X0 M w0 K (a.put o.dst undef) w := by
 unfold St.stepGd at hw
 cases hg : o.guard with
 |none=>rw [hg] at hw; exact step_sound hA hty hC h hw
 |some gw =>
  obtain ⟨j,want⟩ := gw
  rw [hg] at hw
  simp only at hw
  split at hw
  case h_2=>exact hw.elim
  case h_1 _ t ht =>
   split at hw
   case h_3=>exact hw.elim
   case h_2 _ hc =>
    have hwt := wanted_eq h hg ht hc
    rw [hwt,if_pos rfl]
    exact stepU_sound hA hty hC h hw
   case h_1 _ hc =>
    have hwt := wanted_eq h hg ht hc
    rw [hwt,if_neg (by simp)]
    obtain ⟨hd,hK⟩ := hw
    cases hdd : o.dst with
    |none=>rw [hdd] at hK; exact ⟨_,β,hK,h⟩
    |some d=>rw [hdd] at hK hd; exact ⟨_,β,hK,h.put (by simpa [dstOk] using hd) (.cond (fun hh=>by cases hh) fun _=>rfl)⟩
theorem runGd_sound (hA : Ap P X0 M w0) (hty : ∀ T d,lk T tys = some d → TyOk P T d) (hC : COk P C) {ops : Array Oper} {K : St → Prop} {Q : Exit → Act → World → Prop} (hQ : ∀ a w,Ok N X0 M w0 K a w → Q .normal a w) :
  ∀ (l : List Oper) {st : St} {β : Nat → BV} {a : Act} {w : World},Sim N X0 M w0 st β a w → St.runGd tys C N ops l st K → wpList P ops Q l a w
 | [],st,β,a,w,h,hw=>hQ a w ⟨st,β,hw,h⟩
 |o :: l,st,β,a,w,h,hw=>by
  have h1 := stepGd_sound (Q := Q) hA hty hC h hw
  unfold wpList
  split
  ·rename_i hwt
   rw [if_pos hwt] at h1
   exact .inl (Oper.wp_mono (fun a' w' ⟨st',β',h2,h3⟩=>runGd_sound hA hty hC hQ l h3 h2) h1)
  ·rename_i hwt
   rw [if_neg hwt] at h1
   obtain ⟨st',β',h2,h3⟩ := h1
   exact runGd_sound hA hty hC hQ l h3 h2
end
section
variable {c : Cx} {N : Nat} {X0 : Nat → Prop} {M : Nat → BV → Prop} {w0 : World} {st : St} {K : Exit → St → Prop}
theorem WP.regionGd {id : Nat} {l : List Oper} (h : St.runGd c.tys c.C N l.toArray l st (K .normal)) : WP c N X0 M w0 (.region id l.toArray false) st K := fun hA β a w hs =>
 wp_region_lit (runGd_sound hA c.hty c.hC (fun a w hk=>hk) l hs h)
end
end Go.Vc

namespace Go.Proofs.YtoomncljmgcidaaGreat
open Go.Vc
attribute [local irreducible] Go.Vc.WP
attribute [local go_sem] cx0_t cx0_c
attribute [local go_sem] decI_enc decImage_enc spA decS_enc decMach_enc oneMach_f mach_eta pcA rgA seA decSymbol_enc tmA tm_eta vwA smA vw_eta isV_It St.runO St.stepO St.runFz St.fzAt St.fzS addL behind St.runGd St.stepGd
attribute [local go_sem] bxE obE decE aggSe ownS2 obS2
theorem preCs_of {x : SeX} (hp : preSe x) (hs : shSe x) : preCs x := ⟨hs.1,hp.2⟩
theorem isV_Ss {e s : Nat} (L : List ByteArray) : (Ob.sl e s (L.map encS)).isV ↔ True := iff_true_intro (by
 intro row hr c hc
 obtain ⟨n,_,rfl⟩ := List.mem_map.1 hr
 simp only [encS,List.mem_cons,List.not_mem_nil,or_false] at hc
 exact ⟨_,hc⟩)
theorem isV_Sd {e s : Nat} {rows : List (List SV)} : (Ob.dp e s rows).isV ↔ True := iff_true_intro trivial
attribute [local go_sem] isV_Ss isV_Sd
section
attribute [local irreducible] prePc shPc shSe preSe preRg turnP stepSe
attribute [local go_sem] kCpSe kSeOk kAdv
attribute [local go_sem] kAdv
end
end Go.Proofs.YtoomncljmgcidaaGreat

namespace Go.Proofs.YtoomncljmgcidaaGreat
open Go.Vc
attribute [local irreducible] Go.Vc.WP
attribute [local go_sem] cx0_t cx0_c
attribute [local go_sem] decI_enc decImage_enc spA decS_enc decMach_enc oneMach_f mach_eta pcA rgA seA decSymbol_enc tmA tm_eta
attribute [local go_sem] aggSe aggPc aggTm aggRg ownS2 obS2
def ktoRgD : Ctr := pur (fun args=>rgA args 0) (fun x=>[.agg (aggRg x)]) (fun x=>x.2.1.length ≤ 2097152) (fun d x=>.agg [.v (.int .i64 x.1),.own d,.v (.int .i64 x.2.2.1),.v (.int .i64 x.2.2.2)]) (fun d x=>[(d,.sl 9 1 (x.2.1.map encS))])
section
noncomputable def cxTrgD := mkX [(55,ktoSo)] (COk.cons ctoSo (COk.nil _))
theorem cxTrgD_t : cxTrgD.tys = tys := rfl
theorem cxTrgD_c : cxTrgD.C = [(55,ktoSo)] := rfl
attribute [local go_sem] cxTrgD_t cxTrgD_c ktoSo
theorem ctoRgD : Cn Tryz.prog 25 ktoRgD := by
 refine Cn.pur Tryz.func25 (by kernel_rfl) rfl fun d x hx=>?_
 obtain ⟨cp,R,wr,lo⟩ := x
 simp only at hx ⊢
 refine Holds.go (c := cxTrgD) Tryz.func25 rfl Tryz.results25 Tryz.ntmps25 (by omega) (by simp) rfl ?_
 intro X0 w0
 (repeat' (first|apply zS|apply zB|((first|apply zR|apply zC|apply zT|apply zE|apply zK);simp only [go_sem])|apply And.intro|intro _))
 all_goals first|omega|exact ⟨_,_,_,_,rfl⟩|exact ⟨_,_,rfl,_,_,rfl,rfl⟩|skip
end
def ktoSeD : Ctr := pur (fun args=>seA args 0) (fun x=>[.agg (aggSe x)]) shSe (fun d x=>.agg (ownS2 d x)) (fun d x=>obS2 d x)
section
attribute [local irreducible] shMach shPc
noncomputable def cxTseD := mkX [(23,ktoPcD),(24,ktoTm),(25,ktoRgD)] (COk.cons ctoPcD (COk.cons ctoTm (COk.cons ctoRgD (COk.nil _))))
theorem cxTseD_t : cxTseD.tys = tys := rfl
theorem cxTseD_c : cxTseD.C = [(23,ktoPcD),(24,ktoTm),(25,ktoRgD)] := rfl
attribute [local go_sem] cxTseD_t cxTseD_c ktoPcD ktoTm ktoRgD
set_option maxHeartbeats 3000000 in
theorem ctoSeD : Cn Tryz.prog 7 ktoSeD := by
 refine Cn.pur Tryz.func7 (by kernel_rfl) rfl fun d x hx=>?_
 obtain ⟨⟨⟨I,B,E⟩,T,tu,le,sl⟩,⟨p,q,l,st⟩,⟨cp,R,wr,lo⟩,mo,sp,fi⟩ := x
 obtain ⟨hP,hR⟩ := hx
 simp only at hP hR ⊢
 refine Holds.go (c := cxTseD) Tryz.func7 rfl Tryz.results7 Tryz.ntmps7 (by omega) (by simp) rfl ?_
 intro X0 w0
 (repeat' (first|apply zS|apply zB|((first|apply zR|apply zC|apply zT|apply zE|apply zK);simp only [go_sem])|apply And.intro|intro _))
 all_goals first|omega|exact hP|exact ⟨_,_,rfl,_,_,rfl,rfl⟩|exact if_neg (by omega)|(rw [if_neg (by omega),if_neg (by omega)]; done)|(rw [if_neg (by omega),if_neg (by omega),if_neg (by omega)]; done)|(rw [if_neg (by omega),if_neg (by omega),if_neg (by omega),if_neg (by omega)]; done)|skip
end
end Go.Proofs.YtoomncljmgcidaaGreat

