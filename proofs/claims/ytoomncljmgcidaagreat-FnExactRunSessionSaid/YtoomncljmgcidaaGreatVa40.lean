/-
  DERIVED. Several texts of ours in one: VtRunSs.
-/
import Derived.Test.YtoomncljmgcidaaGreatVa34
set_option linter.unusedSimpArgs false
set_option linter.unusedVariables false
set_option maxHeartbeats 1000000
set_option maxRecDepth 10000
namespace Go.Proofs.YtoomncljmgcidaaGreat
open Go.Vc
attribute [local irreducible] Go.Vc.WP
attribute [local go_sem] cx0_t cx0_c
attribute [local go_sem] decI_enc decImage_enc spA decS_enc decMach_enc oneMach_f mach_eta pcA rgA seA decSymbol_enc tmA tm_eta St.runO St.stepO St.runFz St.fzAt St.fzS addL behind
def kRunSe : Ctr := pur (fun args=>(seA args 0,aI args 1)) (fun x=>[.agg (aggSe x.1),.v (.int .i64 x.2)]) (fun x=>preSe x.1 ∧ shSe x.1 ∧ (sessOk x.1 = true → SnI 0 x.1)) (fun _ x=>.agg (aggSe (runSeG x.1 x.2))) (fun _ _=>[])
def zeroSe : List SV := [.v (.slice none 0 0),.v (.slice none 0 0),.v (.slice none 0 0),.v (.slice none 0 0),.v (.int .i64 0),.v (.int .i64 0),.v (.int .i64 0),.v (.int .i64 0),.v (.int .i64 0),.v (.int .i64 0),.v (.int .i64 0),.v (.int .i64 0),.v (.slice none 0 0),.v (.int .i64 0),.v (.int .i64 0),.v (.int .i64 0),.v (.int .i64 0),.v (.int .i64 0)]
attribute [local go_sem] aggSe ownS2 obS2 zeroSe
theorem runSe_go {n : Nat} {y : SeX} (h : (stepSe y).2 = true) : runSe (n + 1) y = runSe n (stepSe y).1 := if_pos h
theorem runSe_end {n : Nat} {y : SeX} (h : (stepSe y).2 = false) : runSe n y = y := by
 cases n with
 |zero=>rfl
 |succ n=>exact if_neg (by rw [h]; simp)
section
attribute [local irreducible] prePc shPc shSe preSe preRg turnP stepSe
noncomputable def cxRun := mkX [(16,kCpSe),(17,kSeOk),(36,k60),(6,kStpSe)] (COk.cons cCpSeS (COk.cons cSeOkS (COk.cons c58 (COk.cons cStpSeS (COk.nil _)))))
theorem cxRun_t : cxRun.tys = tys := rfl
theorem cxRun_c : cxRun.C = [(16,kCpSe),(17,kSeOk),(36,k60),(6,kStpSe)] := rfl
attribute [local go_sem] cxRun_t cxRun_c kCpSe kSeOk k60 kStpSe
set_option maxHeartbeats 6000000 in
theorem cRunSeS : Cn Tryz.prog 12 kRunSe := by
 refine Cn.pur Tryz.func12 (by kernel_rfl) rfl fun d x hx=>?_
 obtain ⟨x,lim⟩ := x
 obtain ⟨hp,hs,hk⟩ := hx
 simp only at hp hs hk ⊢
 have hcs : preCs x:=by unfold preSe at hp; unfold shSe at hs; exact ⟨hs.1,by unfold preRg; exact hp.2⟩
 have hG : runSeG x lim = if sessOk x = true ∧ 0 ≤ lim ∧ lim ≤ 3000 then runSe lim.toNat x else x := rfl
 rw [hG]
 cases hok : sessOk x with
 |false =>
  rw [if_neg (fun h=>by cases h.1)]
  obtain ⟨⟨⟨I,B,E⟩,T,tu,le,sl⟩,⟨p,q,l,st⟩,⟨cp,R,wr,lo⟩,mo,sp,fi⟩ := x
  try simp only
  refine Holds.go (c := cxRun) Tryz.func12 rfl Tryz.results12 Tryz.ntmps12 (by omega) (by simp) rfl ?_
  intro X0 w0
  (repeat' (first|apply zS|apply zB|((first|refine WP.regionF (id := 3) [(0,[10,1010,2010,3010,4010])] ?_); simp only [go_sem,hok])|((first|apply zR|apply zC|apply zT|apply zE|apply zK);simp only [go_sem,hok])|apply And.intro|intro _))
  all_goals first|omega|rfl|exact hp|exact hcs|exact hcs.1|exact hcs.2|exact ⟨_,_,rfl,_,_,rfl,rfl⟩|skip
 |true =>
  by_cases hl : 0 ≤ lim ∧ lim ≤ 3000
  ·rw [if_pos ⟨rfl,hl⟩]
   have h0 := hk hok
   generalize hz : runSe lim.toNat x = z
   have hx0 : ∃ y0 : SeX,y0 = x := ⟨x,rfl⟩
   obtain ⟨y0,hy0⟩ := hx0
   rw [← hy0] at h0 hz
   obtain ⟨⟨⟨jjI,jjB,jjE⟩,jjT,jjtu,jjle,jjsl⟩,⟨jjp,jjq,jjl,jjst⟩,⟨jjcp,jjR,jjwr,jjlo⟩,jjmo,jjsp,jjfi⟩ := z
   obtain ⟨⟨⟨I,B,E⟩,T,tu,le,sl⟩,⟨p,q,l,st⟩,⟨cp,R,wr,lo⟩,mo,sp,fi⟩ := x
   try simp only
   refine Holds.go (c := cxRun) Tryz.func12 rfl Tryz.results12 Tryz.ntmps12 (by omega) (by simp) rfl ?_
   intro X0 w0
   (repeat' ((fail_if_success refine WP.atReg (b := 2) ?_); first|apply zS|apply zB|((first|apply zR|apply zC|apply zT|apply zE|apply zK);simp only [go_sem,hok])|apply And.intro|intro _))
   all_goals first|omega|exact hcs|exact hcs.1|exact hcs.2|skip
   refine zP [10,1010,2010,3010,4010] [] rfl ?_
   simp only [go_sem]
   (repeat' (first|apply zS|apply zB|((first|apply zR|apply zC|apply zT|apply zE|apply zK);simp only [go_sem,hok,hl])|apply And.intro|intro _))
   all_goals first|omega|exact hp|skip
   refine zL (fun S : Nat × SeX=>⟨[(1,.v (.int .i64 lim)),(4,.ptr 4 0 0 0),(5,.ptr 5 0 0 0),(6,.v (.int .i64 S.1))],[(4,.box 46 (zeroSe)),(5,.box 46 (aggSe S.2))]⟩)
    (fun S=>(S.1 : Int) ≤ lim ∧ SnI S.1 S.2 ∧ runSe (lim.toNat - S.1) S.2 = (((jjI,jjB,jjE),jjT,jjtu,jjle,jjsl),⟨jjp,jjq,jjl,jjst⟩,(jjcp,jjR,jjwr,jjlo),jjmo,jjsp,jjfi)) (fun S=>lim.toNat - S.1) (0,y0) ⟨by omega,h0,hz⟩ ?_ ?_
   ·subst hy0
    (simp only [go_sem] <;> (first|(and_intros <;> rfl)|simp))
   rintro ⟨k,y⟩ ⟨hkl,hI,hr⟩
   simp only at hkl hI hr ⊢
   have hk3 : k ≤ 3000:=by omega
   by_cases hlt : (k : Int) < lim
   ·have hpre : preStp y := hI.pre hk3
    have hI2 := hI.step
    have hn : lim.toNat - k = lim.toNat - (k + 1) + 1:=by omega
    cases hok2 : (stepSe y).2 with
    |true =>
     rw [hn,runSe_go hok2] at hr
     generalize hq : (stepSe y).1 = y2 at hI2 hr
     have hq2 : stepSe y = (y2,true):=by rw [← hq,← hok2]
     obtain ⟨⟨⟨yI,yB,yE⟩,yT,ytu,yle,ysl⟩,⟨yp,yq,yl,yst⟩,⟨ycp,yR,ywr,ylo⟩,ymo,ysp,yfi⟩ := y
     obtain ⟨⟨⟨wI,wB,wE⟩,wT,wtu,wle,wsl⟩,⟨wp,wq,wl,wst⟩,⟨wcp,wR,wwr,wlo⟩,wmo,wsp,wfi⟩ := y2
     (repeat' (first|apply zS|apply zB|((first|apply zR|apply zC|apply zT|apply zE|apply zK);simp only [go_sem,hlt,hq2])|apply And.intro|intro _))
     all_goals first|omega|exact hpre|exact hpre.1|exact hpre.2.1|exact ⟨k,hk3,hI⟩|exact ⟨(k + 1,(((wI,wB,wE),wT,wtu,wle,wsl),⟨wp,wq,wl,wst⟩,(wcp,wR,wwr,wlo),wmo,wsp,wfi)),⟨by show ((k + 1 : Nat) : Int) ≤ lim; omega,hI2,hr⟩,by show lim.toNat - (k + 1) < lim.toNat - k; omega,by (first|(and_intros <;> rfl)|simp)⟩|skip
    |false =>
     rw [runSe_end hok2] at hr
     subst hr
     have hq2 := hok2
     generalize hq : stepSe (((jjI,jjB,jjE),jjT,jjtu,jjle,jjsl),(⟨jjp,jjq,jjl,jjst⟩ : Tm),(jjcp,jjR,jjwr,jjlo),jjmo,jjsp,jjfi) = r at hq2
     obtain ⟨⟨⟨⟨wI,wB,wE⟩,wT,wtu,wle,wsl⟩,⟨wp,wq,wl,wst⟩,⟨wcp,wR,wwr,wlo⟩,wmo,wsp,wfi⟩,rb⟩ := r
     simp only at hq2
     subst hq2
     (repeat' (first|apply zS|apply zB|((first|apply zR|apply zC|apply zT|apply zE|apply zK);simp only [go_sem,hlt,hq])|apply And.intro|intro _))
     all_goals first|omega|exact hpre|exact hpre.1|exact hpre.2.1|exact ⟨k,hk3,hI⟩|rfl|exact ⟨_,_,rfl,_,_,rfl,rfl⟩|skip
   ·have hkl : (k : Int) = lim:=by omega
    have hn : lim.toNat - k = 0:=by omega
    rw [hn] at hr
    have hr : y = _ := hr
    subst hr
    (repeat' (first|apply zS|apply zB|((first|apply zR|apply zC|apply zT|apply zE|apply zK);simp only [go_sem,hlt])|apply And.intro|intro _))
    all_goals first|omega|rfl|exact ⟨_,_,rfl,_,_,rfl,rfl⟩|skip
  ·rw [if_neg (fun h=>hl h.2)]
   obtain ⟨⟨⟨I,B,E⟩,T,tu,le,sl⟩,⟨p,q,l,st⟩,⟨cp,R,wr,lo⟩,mo,sp,fi⟩ := x
   try simp only
   refine Holds.go (c := cxRun) Tryz.func12 rfl Tryz.results12 Tryz.ntmps12 (by omega) (by simp) rfl ?_
   intro X0 w0
   by_cases hl0 : 0 ≤ lim
   ·have hl1 : ¬ lim ≤ 3000 := fun h=>hl ⟨hl0,h⟩
    (repeat' (first|apply zS|apply zB|((first|refine WP.regionF (id := 3) [(0,[10,1010,2010,3010,4010])] ?_); simp only [go_sem,hok,hl0,hl1])|((first|apply zR|apply zC|apply zT|apply zE|apply zK);simp only [go_sem,hok,hl0,hl1])|apply And.intro|intro _))
    all_goals first|omega|rfl|exact hp|exact hcs|exact hcs.1|exact hcs.2|exact ⟨_,_,rfl,_,_,rfl,rfl⟩|skip
   ·(repeat' (first|apply zS|apply zB|((first|refine WP.regionF (id := 3) [(0,[10,1010,2010,3010,4010])] ?_); simp only [go_sem,hok,hl0])|((first|apply zR|apply zC|apply zT|apply zE|apply zK);simp only [go_sem,hok,hl0])|apply And.intro|intro _))
    all_goals first|omega|rfl|exact hp|exact hcs|exact hcs.1|exact hcs.2|exact ⟨_,_,rfl,_,_,rfl,rfl⟩|skip
end
end Go.Proofs.YtoomncljmgcidaaGreat

