/-
  DERIVED. Several texts of ours in one: VtRunL.
-/
import Derived.Test.YtoomncljmgcidaaGreatVa6
import Derived.Test.YtoomncljmgcidaaGreatVa24
import Derived.Test.YtoomncljmgcidaaGreatVa33
import Derived.Test.YtoomncljmgcidaaGreatVa36
import Derived.Test.YtoomncljmgcidaaGreatVa37
import Derived.Test.YtoomncljmgcidaaGreatVa38
import Derived.Test.YtoomncljmgcidaaGreatVa41
set_option linter.unusedSimpArgs false
set_option linter.unusedVariables false
set_option maxHeartbeats 1000000
set_option maxRecDepth 10000
namespace Go.Proofs.YtoomncljmgcidaaGreat
open Go.Vc
attribute [local irreducible] Go.Vc.WP
attribute [local go_sem] cx0_t cx0_c
def fl441fea3a0d : List Go.Vc.Fp := [⟨[7],[],[],[33,1033,2033,3033,4033],[],[]⟩,⟨[2],[],[],[33,1033,2033,3033,4033],[],[]⟩,⟨[32],[1],[],[],[],[33,1033,2033,3033,4033]⟩,⟨[],[0,1,2],[],[],[],[]⟩,⟨[],[0,1,2,3],[],[],[],[]⟩]
attribute [local go_sem] fl441fea3a0d
attribute [local go_sem] decI_enc decImage_enc spA decS_enc decMach_enc oneMach_f mach_eta pcA rgA seA decSymbol_enc tmA tm_eta isV_Ss isV_Sd isV_It
attribute [local go_sem] St.ado St.adoptB St.adoptS rp isNil St.fzS addL behind St.runO St.stepO St.runFz St.fzAt
theorem runSeG_sh {x : SeX} {lim : Int} (h : preRun (x,lim)) : shSe (runSeG x lim) := by
 unfold runSeG
 split
 ·rename_i hc
  obtain ⟨j,hj,hI⟩ := runSe_I lim.toNat (h.2.2 hc.1)
  exact (hI.pre (by omega)).2.1
 ·exact h.2.1
theorem eSeL_le {x : SeX} (h : shSe x) : 1 ≤ eSe 1 x := by
 have := (ePc_le h.1 1).1
 unfold eSe eRg
 omega
section
attribute [local go_sem] aggSe aggPc aggTm ownS2 obS2 pcI seI
attribute [local irreducible] bigSe shPc shSe preSe eSe mkSe ePc mkPc stepSe turnP preRg prePc
noncomputable def LcxLr : CL := [(5,kszSe),(7,ktoSeD),(12,kRunSe),(13,kRunSi),(9,kqSe),(10,kmarkSe),(11,kheldSe)]
noncomputable def cxLr := mkX LcxLr (COk.cons cszSe (COk.cons ctoSeD (COk.cons cRunSeS (COk.cons cRunSeI (COk.cons cqSe (COk.cons cmarkSe (COk.cons cheldSe (COk.nil _))))))))
theorem cxLr_t : cxLr.tys = tys := rfl
theorem cxLr_c : cxLr.C = LcxLr := rfl
attribute [local go_sem] cxLr_t cxLr_c LcxLr kszSe ktoSeD kRunSe kRunSi kqSe kmarkSe kheldSe
set_option maxHeartbeats 8000000 in
theorem lawRunSession (x : SeX) (lim : Int) (hx : bigSe x) (hnum : numSe x) : Holds Tryz.prog 4 [.agg (aggSe x),.v (.int .i64 lim)] (.v (.bool true)) [] := by
 have key := fun h : 0 ≤ szvSe x 1048576=>(show preRun (x,lim) from ⟨(szvSe_ok h).1,(szvSe_ok h).2,fun hok=>SnI.of h hnum hok⟩)
 have keyS : 0 ≤ szvSe x 1048576 → shSe x := fun h=>(szvSe_ok h).2
 have keyG : 0 ≤ szvSe x 1048576 → shSe (runSeG x lim) := fun h=>runSeG_sh (key h)
 have keyN : 0 ≤ szvSe x 1048576 → 1 ≤ eSe 1 x := fun h=>eSeL_le (keyS h)
 generalize hz : szvSe x 1048576 = z at key keyS keyG keyN
 generalize hN : eSe 1 x = n at keyN
 generalize hG : runSeG x lim = G at keyG
 obtain ⟨⟨⟨I,B,E⟩,T,tu,le,sl⟩,⟨p,q,l,st⟩,⟨cp,R,wr,lo⟩,mo,sp,fi⟩ := x
 obtain ⟨⟨⟨GI,GB,GE⟩,GT,gtu,gle,gsl⟩,⟨gp,gq,gl,gst⟩,⟨gcp,GR,gwr,glo⟩,gmo,gsp,gfi⟩ := G
 have mI := mkSe_idem 1 (((GI,GB,GE),GT,gtu,gle,gsl),⟨gp,gq,gl,gst⟩,(gcp,GR,gwr,glo),gmo,gsp,gfi)
 have mE := eSe_mk 1 (((GI,GB,GE),GT,gtu,gle,gsl),⟨gp,gq,gl,gst⟩,(gcp,GR,gwr,glo),gmo,gsp,gfi)
 have mS := fun h=>@shSe_mk (((GI,GB,GE),GT,gtu,gle,gsl),⟨gp,gq,gl,gst⟩,(gcp,GR,gwr,glo),gmo,gsp,gfi) h 1
 have mL := @eSeL_le (((GI,GB,GE),GT,gtu,gle,gsl),⟨gp,gq,gl,gst⟩,(gcp,GR,gwr,glo),gmo,gsp,gfi)
 have mshape : mkSe 1 (((GI,GB,GE),GT,gtu,gle,gsl),⟨gp,gq,gl,gst⟩,(gcp,GR,gwr,glo),gmo,gsp,gfi) = ((((mkSe 1 (((GI,GB,GE),GT,gtu,gle,gsl),⟨gp,gq,gl,gst⟩,(gcp,GR,gwr,glo),gmo,gsp,gfi)).1.1.1,(mkSe 1 (((GI,GB,GE),GT,gtu,gle,gsl),⟨gp,gq,gl,gst⟩,(gcp,GR,gwr,glo),gmo,gsp,gfi)).1.1.2.1,(mkSe 1 (((GI,GB,GE),GT,gtu,gle,gsl),⟨gp,gq,gl,gst⟩,(gcp,GR,gwr,glo),gmo,gsp,gfi)).1.1.2.2),(mkSe 1 (((GI,GB,GE),GT,gtu,gle,gsl),⟨gp,gq,gl,gst⟩,(gcp,GR,gwr,glo),gmo,gsp,gfi)).1.2.1,gtu,gle,gsl),⟨gp,gq,gl,gst⟩,(gcp,(mkSe 1 (((GI,GB,GE),GT,gtu,gle,gsl),⟨gp,gq,gl,gst⟩,(gcp,GR,gwr,glo),gmo,gsp,gfi)).2.2.1.2.1,gwr,glo),gmo,gsp,gfi):=by unfold mkSe mkPc mkRg; rfl
 generalize hH : mkSe 1 (((GI,GB,GE),GT,gtu,gle,gsl),⟨gp,gq,gl,gst⟩,(gcp,GR,gwr,glo),gmo,gsp,gfi) = H at mI mE mS mshape
 obtain ⟨⟨⟨HI,HB,HE⟩,HT,htu,hle,hsl⟩,⟨hp,hq,hl,hst⟩,⟨hcp,HR,hwr,hlo⟩,hmo,hsp,hfi⟩ := H
 simp only [Prod.mk.injEq,Tm.mk.injEq,true_and,and_true] at mshape
 obtain ⟨⟨h1,h2,h3⟩,⟨h4,h5',h6,h7⟩,⟨h8,h9,h10⟩,h11,h12,h13⟩ := mshape
 subst h1 h2 h3 h4 h5' h6 h7 h8 h9 h10 h11 h12 h13
 generalize hM : eSe 1 (((GI,GB,GE),GT,htu,hle,hsl),⟨hp,hq,hl,hst⟩,(hcp,GR,hwr,hlo),hmo,hsp,hfi) = m at mE mL
 simp only [aggSe]
 refine Holds.go (c := cxLr) Tryz.func4 rfl Tryz.results4 Tryz.ntmps4 (by omega) (by simp) rfl ?_
 intro X0 w0
 by_cases h5 : z < 0
 ·(repeat' (first|apply zS|apply zB|((first|apply zR|apply zC|apply zT|apply zE|apply zK| refine zF 3 fl441fea3a0d [31,32,33] [33,1033,2033,3033,4033] [] (by decide +kernel) (by kernel_rfl) (by kernel_rfl) (by kernel_rfl) ?_); simp only [go_sem,hz,h5])|apply And.intro|intro _))
  all_goals first|omega|exact hx|skip
 ·have k1 := key (by omega)
  have k2 := keyS (by omega)
  have k3 := keyG (by omega)
  have k4 := mS k3
  have k5 := mL k3
  have k6 := keyN (by omega)
  (repeat' (first|apply zS|apply zB|((first|refine WP.regionF (id := 5) [(3,[19,1019,2019,3019,4019])] ?_); simp only [go_sem,hz,h5,hG,hH,hM,hN,mE])|((first|apply zR|apply zC|apply zT|apply zE|apply zK| refine zF 3 fl441fea3a0d [31,32,33] [33,1033,2033,3033,4033] [] (by decide +kernel) (by kernel_rfl) (by kernel_rfl) (by kernel_rfl) ?_); simp only [go_sem,hz,h5,hG,hH,hM,hN,mE])|apply And.intro|intro _))
  all_goals first|omega|exact hx|exact k1|exact k1.1|exact k1.2|exact k1.2.1|exact k1.2.2|exact k1.2.2 ‹_›|exact k2|exact k3|exact k4|exact mI|exact ⟨_,_,rfl,_,_,rfl,rfl⟩|skip
end
end Go.Proofs.YtoomncljmgcidaaGreat

