/-
  DERIVED. Several texts of ours in one: VtStpL.
-/
import Derived.Test.YtoomncljmgcidaaGreatVa6
import Derived.Test.YtoomncljmgcidaaGreatVa24
import Derived.Test.YtoomncljmgcidaaGreatVa33
import Derived.Test.YtoomncljmgcidaaGreatVa36
import Derived.Test.YtoomncljmgcidaaGreatVa37
import Derived.Test.YtoomncljmgcidaaGreatVa38
set_option linter.unusedSimpArgs false
set_option linter.unusedVariables false
set_option maxHeartbeats 1000000
set_option maxRecDepth 10000
namespace Go.Proofs.YtoomncljmgcidaaGreat
open Go.Vc
attribute [local irreducible] Go.Vc.WP
attribute [local go_sem] cx0_t cx0_c
def fl854c901873 : List Go.Vc.Fp := [⟨[6],[],[],[43,1043,2043,3043,4043],[],[]⟩,⟨[1],[],[],[43,1043,2043,3043,4043],[],[]⟩,⟨[42],[1],[],[],[],[43,1043,2043,3043,4043]⟩,⟨[],[0,1,2],[],[],[],[]⟩,⟨[],[0,1,2,3],[],[],[],[]⟩]
attribute [local go_sem] fl854c901873
attribute [local go_sem] decI_enc decImage_enc spA decS_enc decMach_enc oneMach_f mach_eta pcA rgA seA decSymbol_enc tmA tm_eta isV_Ss isV_Sd isV_It
attribute [local go_sem] St.ado St.adoptB St.adoptS rp isNil St.fzS addL behind St.runO St.stepO St.runFz St.fzAt
theorem szvSe_cs {x : SeX} (h : preStp x) : shSe (stepSe x).1 := by
 cases hok : sessOk x with
 |false =>
  have e : stepSe x = (x,false):=by unfold stepSe; rw [if_neg (by rw [hok]; simp)]
  rw [e]; exact h.2.1
 |true =>
  obtain ⟨k,hk,hI⟩ := h.2.2 hok
  exact ⟨(stepSe_cs h).1,by have := hI.step.rg.2; omega⟩
theorem eSeL_le {x : SeX} (h : shSe x) : 1 ≤ eSe 1 x := by
 have := (ePc_le h.1 1).1
 unfold eSe eRg
 omega
section
attribute [local go_sem] aggSe aggPc aggTm ownS2 obS2 pcI seI
attribute [local irreducible] bigSe shPc shSe preSe eSe mkSe ePc mkPc stepSe turnP preRg prePc
noncomputable def LcxLx : CL := [(5,kszSe),(7,ktoSeD),(6,kStpSe),(8,kStpSi),(9,kqSe),(10,kmarkSe),(11,kheldSe)]
noncomputable def cxLx := mkX LcxLx (COk.cons cszSe (COk.cons ctoSeD (COk.cons cStpSeS (COk.cons cStpSeI (COk.cons cqSe (COk.cons cmarkSe (COk.cons cheldSe (COk.nil _))))))))
theorem cxLx_t : cxLx.tys = tys := rfl
theorem cxLx_c : cxLx.C = LcxLx := rfl
attribute [local go_sem] cxLx_t cxLx_c LcxLx kszSe ktoSeD kStpSe kStpSi kqSe kmarkSe kheldSe
set_option maxHeartbeats 8000000 in
theorem lawStepSession (x : SeX) (hx : bigSe x) (hnum : numSe x) : Holds Tryz.prog 3 [.agg (aggSe x)] (.v (.bool true)) [] := by
 have key := fun h : 0 ≤ szvSe x 1048576=>preStp_of h hnum
 have keyS : 0 ≤ szvSe x 1048576 → shSe x := fun h=>(szvSe_ok h).2
 have keyG : 0 ≤ szvSe x 1048576 → shSe (stepSe x).1 := fun h=>szvSe_cs (key h)
 have keyN : 0 ≤ szvSe x 1048576 → 1 ≤ eSe 1 x := fun h=>eSeL_le (keyS h)
 generalize hz : szvSe x 1048576 = z at key keyS keyG keyN
 generalize hN : eSe 1 x = n at keyN
 generalize hG : (stepSe x).1 = G at keyG
 generalize hB : (stepSe x).2 = bb
 obtain ⟨⟨⟨I,B,E⟩,T,tu,le,sl⟩,⟨p,q,l,st⟩,⟨cp,R,wr,lo⟩,mo,sp,fi⟩ := x
 obtain ⟨⟨⟨GI,GB,GE⟩,GT,gtu,gle,gsl⟩,⟨gp,gq,gl,gst⟩,⟨gcp,GR,gwr,glo⟩,gmo,gsp,gfi⟩ := G
 have mI := mkSe_idem 1 (((GI,GB,GE),GT,gtu,gle,gsl),⟨gp,gq,gl,gst⟩,(gcp,GR,gwr,glo),gmo,gsp,gfi)
 have mE := eSe_mk 1 (((GI,GB,GE),GT,gtu,gle,gsl),⟨gp,gq,gl,gst⟩,(gcp,GR,gwr,glo),gmo,gsp,gfi)
 have mS := fun h=>@shSe_mk (((GI,GB,GE),GT,gtu,gle,gsl),⟨gp,gq,gl,gst⟩,(gcp,GR,gwr,glo),gmo,gsp,gfi) h 1
 have mL := @eSeL_le (((GI,GB,GE),GT,gtu,gle,gsl),⟨gp,gq,gl,gst⟩,(gcp,GR,gwr,glo),gmo,gsp,gfi)
 have mshape : mkSe 1 (((GI,GB,GE),GT,gtu,gle,gsl),⟨gp,gq,gl,gst⟩,(gcp,GR,gwr,glo),gmo,gsp,gfi) = ((((mkSe 1 (((GI,GB,GE),GT,gtu,gle,gsl),⟨gp,gq,gl,gst⟩,(gcp,GR,gwr,glo),gmo,gsp,gfi)).1.1.1,(mkSe 1 (((GI,GB,GE),GT,gtu,gle,gsl),⟨gp,gq,gl,gst⟩,(gcp,GR,gwr,glo),gmo,gsp,gfi)).1.1.2.1,(mkSe 1 (((GI,GB,GE),GT,gtu,gle,gsl),⟨gp,gq,gl,gst⟩,(gcp,GR,gwr,glo),gmo,gsp,gfi)).1.1.2.2),(mkSe 1 (((GI,GB,GE),GT,gtu,gle,gsl),⟨gp,gq,gl,gst⟩,(gcp,GR,gwr,glo),gmo,gsp,gfi)).1.2.1,gtu,gle,gsl),⟨gp,gq,gl,gst⟩,(gcp,(mkSe 1 (((GI,GB,GE),GT,gtu,gle,gsl),⟨gp,gq,gl,gst⟩,(gcp,GR,gwr,glo),gmo,gsp,gfi)).2.2.1.2.1,gwr,glo),gmo,gsp,gfi):=by unfold mkSe mkPc mkRg; rfl
 generalize hH : mkSe 1 (((GI,GB,GE),GT,gtu,gle,gsl),⟨gp,gq,gl,gst⟩,(gcp,GR,gwr,glo),gmo,gsp,gfi) = H at mI mE mS mshape
 obtain ⟨⟨⟨HI,HB,HE⟩,HT,htu,hle,hsl⟩,⟨hp,hq,hl,hst⟩,⟨hcp,HR,hwr,hlo⟩,hmo,hsp,hfi⟩ := H
 simp only [Prod.mk.injEq,Tm.mk.injEq,true_and,and_true] at mshape
 obtain ⟨⟨h1,h2,h3⟩,⟨h4,h5',h6,h7⟩,⟨h8,h9,h10⟩,h11,h12,h13⟩ := mshape
 subst h1 h2 h3 h4 h5' h6 h7 h8 h9 h10 h11 h12 h13
 generalize hM : eSe 1 (((GI,GB,GE),GT,htu,hle,hsl),⟨hp,hq,hl,hst⟩,(hcp,GR,hwr,hlo),hmo,hsp,hfi) = m at mE mL
 simp only [aggSe]
 refine Holds.go (c := cxLx) Tryz.func3 rfl Tryz.results3 Tryz.ntmps3 (by omega) (by simp) rfl ?_
 intro X0 w0
 by_cases h5 : z < 0
 ·(repeat' (first|apply zS|apply zB|((first|apply zR|apply zC|apply zT|apply zE|apply zK| refine zF 3 fl854c901873 [41,42,43] [43,1043,2043,3043,4043] [] (by decide +kernel) (by kernel_rfl) (by kernel_rfl) (by kernel_rfl) ?_); simp only [go_sem,hz,h5])|apply And.intro|intro _))
  all_goals first|omega|exact hx|skip
 ·have k1 := key (by omega)
  have k2 := keyS (by omega)
  have k3 := keyG (by omega)
  have k4 := mS k3
  have k5 := mL k3
  have k6 := keyN (by omega)
  (repeat' (first|apply zS|apply zB|((first|refine WP.regionF (id := 5) [(2,[21,1021,2021,3021,4021])] ?_); simp only [go_sem,hz,h5,hG,hB,hH,hM,hN,mE])|((first|apply zR|apply zC|apply zT|apply zE|apply zK| refine zF 3 fl854c901873 [41,42,43] [43,1043,2043,3043,4043] [] (by decide +kernel) (by kernel_rfl) (by kernel_rfl) (by kernel_rfl) ?_); simp only [go_sem,hz,h5,hG,hB,hH,hM,hN,mE])|apply And.intro|intro _))
  all_goals first|omega|exact hx|exact k1|exact k1.1|exact k1.2|exact k1.2.1|exact k1.2.2|exact k1.2.2 ‹_›|exact k2|exact k3|exact k4|exact mI|exact ⟨_,_,rfl,_,_,rfl,rfl⟩|skip
end
end Go.Proofs.YtoomncljmgcidaaGreat

