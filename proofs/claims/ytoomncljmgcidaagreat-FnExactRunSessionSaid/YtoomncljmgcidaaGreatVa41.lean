/-
  DERIVED. Several texts of ours in one: VtRunSi.
-/
import Derived.Test.YtoomncljmgcidaaGreatVa36
import Derived.Test.YtoomncljmgcidaaGreatVa40
set_option linter.unusedSimpArgs false
set_option linter.unusedVariables false
set_option maxHeartbeats 1000000
set_option maxRecDepth 10000
namespace Go.Proofs.YtoomncljmgcidaaGreat
open Go.Vc
attribute [local irreducible] Go.Vc.WP
attribute [local go_sem] cx0_t cx0_c
attribute [local go_sem] decI_enc decImage_enc spA decS_enc decMach_enc oneMach_f mach_eta pcA rgA seA decSymbol_enc tmA tm_eta vwA smA vw_eta isV_It St.runO St.stepO St.runFz St.fzAt St.fzS addL behind St.runGd St.stepGd isV_Ss isV_Sd
attribute [local go_sem] bxE obE decE aggSe ownS2 obS2 zeroSe
def preRun (x : SeX × Int) : Prop := preSe x.1 ∧ shSe x.1 ∧ (sessOk x.1 = true → SnI 0 x.1)
def kRunSi : Ctr := pur (fun args=>(seA args 0,aI args 1)) (fun x=>[.agg (aggSe x.1),.v (.int .i64 x.2)]) preRun (fun d x=>.agg (ownS2 d (runSeG x.1 x.2))) (fun d x=>obS2 d (runSeG x.1 x.2))
theorem runSe_I : ∀ (n : Nat) {k : Nat} {x : SeX},SnI k x → ∃ j,j ≤ k + n ∧ SnI j (runSe n x)
 | 0,k,x,h=>⟨k,by omega,h⟩
 |n + 1,k,x,h=>by
  show ∃ j,j ≤ k + (n + 1) ∧ SnI j (if (stepSe x).2 = true then runSe n (stepSe x).1 else x)
  split
  ·obtain ⟨j,h1,h2⟩ := runSe_I n h.step
   exact ⟨j,by omega,h2⟩
  ·exact ⟨k,by omega,h⟩
theorem SnI.cs {k : Nat} {x : SeX} (h : SnI k x) (hk : k ≤ 3000) : preCs x := preCs_of (h.pre hk).1 (h.pre hk).2.1
section
attribute [local irreducible] prePc shPc shSe preSe preRg turnP stepSe
noncomputable def cxRunI := mkX [(26,kCpSe),(27,kSeOk),(37,k60),(28,kAdv)] (COk.cons cCpSeI (COk.cons cSeOkI (COk.cons c60 (COk.cons cAdvI (COk.nil _)))))
theorem cxRunI_t : cxRunI.tys = tys := rfl
theorem cxRunI_c : cxRunI.C = [(26,kCpSe),(27,kSeOk),(37,k60),(28,kAdv)] := rfl
attribute [local go_sem] cxRunI_t cxRunI_c kCpSe kSeOk k60 kAdv
attribute [local go_sem] kAdv
set_option maxHeartbeats 6000000 in
theorem cRunSeI : Cn Tryz.prog 13 kRunSi := by
 refine Cn.pur Tryz.func13 (by kernel_rfl) rfl fun d x hx=>?_
 obtain ⟨x,lim⟩ := x
 obtain ⟨hp,hs,hk⟩ := hx
 simp only at hp hs hk ⊢
 have hcs : preCs x := preCs_of hp hs
 have hG : runSeG x lim = if sessOk x = true ∧ 0 ≤ lim ∧ lim ≤ 3000 then runSe lim.toNat x else x := rfl
 rw [hG]
 cases hok : sessOk x with
 |false =>
  rw [if_neg (fun h=>by cases h.1)]
  obtain ⟨⟨⟨I,B,E⟩,T,tu,le,sl⟩,⟨p,q,l,st⟩,⟨cp,R,wr,lo⟩,mo,sp,fi⟩ := x
  refine Holds.go (c := cxRunI) Tryz.func13 rfl Tryz.results13 Tryz.ntmps13 (by omega) (by simp) rfl ?_
  intro X0 w0
  (repeat' (first|apply zS|apply zB|((first|apply zR|apply zC|apply zT|apply zE|apply zK);simp only [go_sem,hok])|apply And.intro|intro _))
  all_goals first|omega|rfl|exact hp|exact hcs|exact hcs.1|exact hcs.2|exact ⟨_,_,rfl,_,_,rfl,rfl⟩|exact if_neg (by omega)|(rw [if_neg (by omega),if_neg (by omega)]; done)|(rw [if_neg (by omega),if_neg (by omega),if_neg (by omega)]; done)|(rw [if_neg (by omega),if_neg (by omega),if_neg (by omega),if_neg (by omega)]; done)|skip
 |true =>
  by_cases hl : 0 ≤ lim ∧ lim ≤ 3000
  ·rw [if_pos ⟨rfl,hl⟩]
   have h0 := hk hok
   obtain ⟨jz,hjz,hIz⟩ := runSe_I lim.toNat h0
   have hcz := hIz.cs (by omega)
   generalize hz : runSe lim.toNat x = z at hcz
   have hx0 : ∃ y0 : SeX,y0 = x := ⟨x,rfl⟩
   obtain ⟨y0,hy0⟩ := hx0
   rw [← hy0] at h0 hz
   obtain ⟨⟨⟨jjI,jjB,jjE⟩,jjT,jjtu,jjle,jjsl⟩,⟨jjp,jjq,jjl,jjst⟩,⟨jjcp,jjR,jjwr,jjlo⟩,jjmo,jjsp,jjfi⟩ := z
   obtain ⟨⟨⟨I,B,E⟩,T,tu,le,sl⟩,⟨p,q,l,st⟩,⟨cp,R,wr,lo⟩,mo,sp,fi⟩ := x
   refine Holds.go (c := cxRunI) Tryz.func13 rfl Tryz.results13 Tryz.ntmps13 (by omega) (by simp) rfl ?_
   intro X0 w0
   (repeat' ((fail_if_success refine WP.atReg (b := 2) ?_); first|apply zS|apply zB|((first|apply zR|apply zC|apply zT|apply zE|apply zK);simp only [go_sem,hok])|apply And.intro|intro _))
   all_goals first|omega|exact hcs|exact hcs.1|exact hcs.2|skip
   refine zP [8,1008,2008,4008] [] rfl ?_
   refine WP.sha [3008] ?_
   simp only [go_sem]
   (repeat' (first|apply zS|apply zB|((first|refine WP.regionGd (id := 5) ?_); simp only [go_sem,hok,hl])|((first|apply zR|apply zC|apply zT|apply zE|apply zK);simp only [go_sem,hok,hl])|apply And.intro|intro _))
   all_goals first|omega|exact hp|skip
   refine zL (fun S : Nat × SeX=>⟨[(1,.v (.int .i64 lim)),(4,.ptr 4 0 0 0),(5,.ptr 5 0 0 0),(6,.v (.int .i64 S.1))],[(4,.box 46 (zeroSe)),(5,.box 46 (bxE S.2 3008)),(3008,.sl 96 7 (S.2.1.2.1.map encMach))]⟩)
    (fun S=>(S.1 : Int) ≤ lim ∧ SnI S.1 S.2 ∧ runSe (lim.toNat - S.1) S.2 = (((jjI,jjB,jjE),jjT,jjtu,jjle,jjsl),⟨jjp,jjq,jjl,jjst⟩,(jjcp,jjR,jjwr,jjlo),jjmo,jjsp,jjfi)) (fun S=>lim.toNat - S.1) (0,y0) ⟨by omega,h0,hz⟩ ?_ ?_
   ·subst hy0
    (simp only [go_sem] <;> (first|(and_intros <;> rfl)|simp))
   rintro ⟨k,y⟩ ⟨hkl,hI,hr⟩
   simp only at hkl hI hr ⊢
   have hk3 : k ≤ 3000:=by omega
   by_cases hlt : (k : Int) < lim
   ·have hct : stepCt y = stepSe y := (stepSe_eq hI.base).symm
    have hI2 := hI.step
    have hn : lim.toNat - k = lim.toNat - (k + 1) + 1:=by omega
    cases hok2 : (stepSe y).2 with
    |true =>
     rw [hn,runSe_go hok2] at hr
     generalize hq : (stepSe y).1 = y2 at hI2 hr
     have hq2 : stepCt y = (y2,true):=by rw [hct,← hq,← hok2]
     obtain ⟨⟨⟨yI,yB,yE⟩,yT,ytu,yle,ysl⟩,⟨yp,yq,yl,yst⟩,⟨ycp,yR,ywr,ylo⟩,ymo,ysp,yfi⟩ := y
     obtain ⟨⟨⟨wI,wB,wE⟩,wT,wtu,wle,wsl⟩,⟨wp,wq,wl,wst⟩,⟨wcp,wR,wwr,wlo⟩,wmo,wsp,wfi⟩ := y2
     (repeat' (first|apply zS|apply zB|((first|refine WP.regionGd (id := 5) ?_); simp only [go_sem,hlt,hq2])|((first|apply zR|apply zC|apply zT|apply zE|apply zK);simp only [go_sem,hlt,hq2])|apply And.intro|intro _))
     all_goals first|omega|exact ⟨k,hk3,hI⟩|exact ⟨(k + 1,(((wI,wB,wE),wT,wtu,wle,wsl),⟨wp,wq,wl,wst⟩,(wcp,wR,wwr,wlo),wmo,wsp,wfi)),⟨by show ((k + 1 : Nat) : Int) ≤ lim; omega,hI2,hr⟩,by show lim.toNat - (k + 1) < lim.toNat - k; omega,by (first|(and_intros <;> rfl)|simp)⟩|skip
    |false =>
     rw [runSe_end hok2] at hr
     subst hr
     have hq1 : (stepSe (((jjI,jjB,jjE),jjT,jjtu,jjle,jjsl),(⟨jjp,jjq,jjl,jjst⟩ : Tm),(jjcp,jjR,jjwr,jjlo),jjmo,jjsp,jjfi)).1 = (((jjI,jjB,jjE),jjT,jjtu,jjle,jjsl),(⟨jjp,jjq,jjl,jjst⟩ : Tm),(jjcp,jjR,jjwr,jjlo),jjmo,jjsp,jjfi) := by
      unfold stepSe at hok2 ⊢
      split at hok2
      ·cases hok2
      ·rename_i hn; rw [if_neg hn]
     have hq2 := hct.trans (Prod.ext hq1 hok2 : _ = ((((jjI,jjB,jjE),jjT,jjtu,jjle,jjsl),(⟨jjp,jjq,jjl,jjst⟩ : Tm),(jjcp,jjR,jjwr,jjlo),jjmo,jjsp,jjfi),false))
     (repeat' (first|apply zS|apply zB|((first|refine WP.regionGd (id := 5) ?_); simp only [go_sem,hlt,hq2])|((first|apply zR|apply zC|apply zT|apply zE|apply zK);simp only [go_sem,hlt,hq2])|apply And.intro|intro _))
     all_goals first|omega|exact ⟨k,hk3,hI⟩|exact hcz|exact hcz.1|exact hcz.2|rfl|exact ⟨_,_,rfl,_,_,rfl,rfl⟩|exact if_neg (by omega)|(rw [if_neg (by omega),if_neg (by omega)]; done)|(rw [if_neg (by omega),if_neg (by omega),if_neg (by omega)]; done)|(rw [if_neg (by omega),if_neg (by omega),if_neg (by omega),if_neg (by omega)]; done)|skip
   ·have hkl : (k : Int) = lim:=by omega
    have hn : lim.toNat - k = 0:=by omega
    rw [hn] at hr
    have hr : y = _ := hr
    subst hr
    (repeat' (first|apply zS|apply zB|((first|refine WP.regionGd (id := 5) ?_); simp only [go_sem,hlt])|((first|apply zR|apply zC|apply zT|apply zE|apply zK);simp only [go_sem,hlt])|apply And.intro|intro _))
    all_goals first|omega|exact hcz|exact hcz.1|exact hcz.2|rfl|exact ⟨_,_,rfl,_,_,rfl,rfl⟩|exact if_neg (by omega)|(rw [if_neg (by omega),if_neg (by omega)]; done)|(rw [if_neg (by omega),if_neg (by omega),if_neg (by omega)]; done)|(rw [if_neg (by omega),if_neg (by omega),if_neg (by omega),if_neg (by omega)]; done)|skip
  ·rw [if_neg (fun h=>hl h.2)]
   obtain ⟨⟨⟨I,B,E⟩,T,tu,le,sl⟩,⟨p,q,l,st⟩,⟨cp,R,wr,lo⟩,mo,sp,fi⟩ := x
   refine Holds.go (c := cxRunI) Tryz.func13 rfl Tryz.results13 Tryz.ntmps13 (by omega) (by simp) rfl ?_
   intro X0 w0
   by_cases hl0 : 0 ≤ lim
   ·have hl1 : ¬ lim ≤ 3000 := fun h=>hl ⟨hl0,h⟩
    (repeat' (first|apply zS|apply zB|((first|apply zR|apply zC|apply zT|apply zE|apply zK);simp only [go_sem,hok,hl0,hl1])|apply And.intro|intro _))
    all_goals first|omega|rfl|exact hp|exact hcs|exact hcs.1|exact hcs.2|exact ⟨_,_,rfl,_,_,rfl,rfl⟩|exact if_neg (by omega)|(rw [if_neg (by omega),if_neg (by omega)]; done)|(rw [if_neg (by omega),if_neg (by omega),if_neg (by omega)]; done)|(rw [if_neg (by omega),if_neg (by omega),if_neg (by omega),if_neg (by omega)]; done)|skip
   ·(repeat' (first|apply zS|apply zB|((first|apply zR|apply zC|apply zT|apply zE|apply zK);simp only [go_sem,hok,hl0])|apply And.intro|intro _))
    all_goals first|omega|rfl|exact hp|exact hcs|exact hcs.1|exact hcs.2|exact ⟨_,_,rfl,_,_,rfl,rfl⟩|exact if_neg (by omega)|(rw [if_neg (by omega),if_neg (by omega)]; done)|(rw [if_neg (by omega),if_neg (by omega),if_neg (by omega)]; done)|(rw [if_neg (by omega),if_neg (by omega),if_neg (by omega),if_neg (by omega)]; done)|skip
end
end Go.Proofs.YtoomncljmgcidaaGreat

