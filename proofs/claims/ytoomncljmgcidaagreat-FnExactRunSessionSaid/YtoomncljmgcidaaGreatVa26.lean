/-
  DERIVED. Several texts of ours in one: VtMcT.
-/
import Derived.Test.YtoomncljmgcidaaGreatVa20
import Derived.Test.YtoomncljmgcidaaGreatVa23
import Derived.Test.YtoomncljmgcidaaGreatVa24
set_option linter.unusedSimpArgs false
set_option linter.unusedVariables false
set_option maxHeartbeats 1000000
set_option maxRecDepth 10000
namespace Go.Proofs.YtoomncljmgcidaaGreat
open Go.Vc
attribute [local irreducible] Go.Vc.WP
attribute [local go_sem] cx0_t cx0_c
attribute [local go_sem] decI_enc decImage_enc spA cpu_eta bxC headsBy innersBy llX lmX St.callX St.panOf St.callLG ctrs St.isX St.stepP runS retY St.fzS addL behind ghoK St.gho St.gh SV.flat St.setO Ob.jk SV.jk oneMach_f mach_eta
attribute [local go_sem] opA decC0 aggSp obC0 rbC kpC yen St.runO St.stepO St.runFz St.fzAt St.fzS
def cPerfLS : List (FuncId × Ctx) := [(117,kPerfK fun _=>True)]
attribute [local go_sem] cPerfLS kPerfK kWordS decCu obCu
attribute [local irreducible] preLoc
section
noncomputable def cxStS := mkX [(82,ktoMachE),(116,kFet),(118,kWordS)] (COk.cons ccpMachS (COk.cons cFetS (COk.cons cWordS (COk.nil _))))
theorem cxStS_t : cxStS.tys = tys := rfl
theorem cxStS_c : cxStS.C = [(82,ktoMachE),(116,kFet),(118,kWordS)] := rfl
attribute [local go_sem] cxStS_t cxStS_c ktoMachE kFet kWordS
set_option maxHeartbeats 4000000 in
theorem cStepS : Cn Tryz.prog 85 kStep := by
 refine Cn.pur Tryz.func85 (by kernel_rfl) rfl fun d x hx=>?_
 obtain ⟨⟨I,B,E⟩,⟨pc,sp,fp,S,O,sta,val⟩⟩ := x
 have hloc := hx.loc pc
 have hC2 : POk Tryz.prog cPerfLS := POk.cons cPerfS (POk.nil _)
 obtain ⟨h1,h2,h3,h4,h5,h6,h7,h8,h9,h10⟩ := hx
 simp only at h1 h2 h3 h4 h5 h6 h7 h8 h9 h10 hloc ⊢
 refine Holds.go (c := cxStS) Tryz.func85 rfl Tryz.results85 Tryz.ntmps85 (by omega) (by simp) rfl ?_
 intro X0 w0
 cases hf : fetOp (I,B,E) pc with
 |none =>
  have e : stepS (I,B,E) ⟨pc,sp,fp,S,O,sta,val⟩ = ⟨pc,sp,fp,S,O,2,val⟩:=by unfold stepS; simp only [hf]
  rw [e]
  (repeat' (first|apply zS|apply zB|((first|refine WP.regionF (id := 8) [(0,[39,1039])] ?_); simp only [go_sem,hf,Int.reduceBEq,Int.reduceEq])|((first|apply zR|apply zC|apply zT|apply zE|apply zK);simp only [go_sem,hf,Int.reduceBEq,Int.reduceEq])|apply And.intro|intro _))
  all_goals first|omega|rfl|exact hloc|exact hpf|exact ⟨h6,by omega⟩|exact ⟨_,_,_,_,_,_,_,rfl⟩|exact ⟨_,_,rfl,_,_,rfl,rfl⟩|skip
 |some q =>
  obtain ⟨⟨code,arg⟩,n⟩ := q
  obtain ⟨hop,hp0,hi,hp1⟩ := fet_bd h3 hf
  have h4i := h4 hi
  simp only at hp1
  have hsz := hop.size
  have e : stepS (I,B,E) ⟨pc,sp,fp,S,O,sta,val⟩ = finM ⟨pc,sp,fp,S,O,sta,val⟩ (performS E ⟨code,arg⟩ ⟨pc + n,sp,fp,S,O⟩):=by unfold stepS; simp only [hf,cpuM]
  rw [e]
  generalize hr : performS E ⟨code,arg⟩ ⟨pc + n,sp,fp,S,O⟩ = r
  obtain ⟨⟨rp,rs,rf,rS,rO⟩,rb⟩ := r
  have hpf : PfOk ((I,B,E),(((⟨pc,sp,fp,S,O⟩ : Cpu),false),sta,val),(⟨code,arg⟩ : Op),n) := ⟨h6,by show O.length ≤ 8388608; omega,h7,by show 0 ≤ pc ∧ pc ≤ 16777216; omega,rfl,hop,h5⟩
  unfold finM
  simp only
  cases rb with
  |true =>
   simp only [if_true]
   (repeat' (first|apply zS|apply zB|((first|refine WP.regionP (id := 4) hC2 ?_|refine WP.regionF (id := 8) [(0,[39,1039])] ?_); simp only [go_sem,hf,hr,Int.reduceBEq,Int.reduceEq])|((first|apply zR|apply zC|apply zT|apply zE|apply zK);simp only [go_sem,hf,hr,Int.reduceBEq,Int.reduceEq])|apply And.intro|intro _))
   all_goals first|omega|rfl|exact hloc|exact hpf|exact ⟨h6,by omega⟩|exact ⟨_,_,_,_,_,_,_,rfl⟩|exact ⟨_,_,rfl,_,_,rfl,rfl⟩|skip
  |false =>
   simp only [Bool.false_eq_true,if_false]
   have hk := perform_ok (E := E) (x := ⟨code,arg⟩) (c := ⟨pc + n,sp,fp,S,O⟩) ⟨h6,h7⟩
   rw [hr] at hk
   obtain ⟨hl,hs0,hs1⟩ := hk rfl
   simp only at hl hs0 hs1
   by_cases hz : rp = 0
   ·rw [if_pos hz]
    by_cases hw : 0 ≤ rs ∧ rs ≤ 1199
    ·rw [if_pos hw]
     have e2 : wordS (⟨rp,rs,rf,rS,rO⟩,false) rs = (rS.getD rs.toNat 0,(⟨rp,rs,rf,rS,rO⟩,false)) := if_pos hw
     subst hz
     (repeat' (first|apply zS|apply zB|((first|refine WP.regionP (id := 4) hC2 ?_|refine WP.regionF (id := 17) [(0,[800001,800002])] ?_); simp only [go_sem,hf,hr,e2,Int.reduceBEq,Int.reduceEq])|((first|apply zR|apply zC|apply zT|apply zE|apply zK);simp only [go_sem,hf,hr,e2,Int.reduceBEq,Int.reduceEq])|apply And.intro|intro _))
     all_goals first|omega|rfl|exact hloc|exact hpf|exact ⟨h6,by omega⟩|exact ⟨_,_,_,_,_,_,_,rfl⟩|exact ⟨_,_,rfl,_,_,rfl,rfl⟩|skip
    ·rw [if_neg hw]
     have e2 : wordS (⟨rp,rs,rf,rS,rO⟩,false) rs = (0,(⟨rp,rs,rf,rS,rO⟩,true)) := if_neg hw
     subst hz
     (repeat' (first|apply zS|apply zB|((first|refine WP.regionP (id := 4) hC2 ?_|refine WP.regionF (id := 14) [(0,[60,1060])] ?_); simp only [go_sem,hf,hr,e2,Int.reduceBEq,Int.reduceEq])|((first|apply zR|apply zC|apply zT|apply zE|apply zK);simp only [go_sem,hf,hr,e2,Int.reduceBEq,Int.reduceEq])|apply And.intro|intro _))
     all_goals first|omega|rfl|exact hloc|exact hpf|exact ⟨h6,by omega⟩|exact ⟨_,_,_,_,_,_,_,rfl⟩|exact ⟨_,_,rfl,_,_,rfl,rfl⟩|skip
   ·rw [if_neg hz]
    (repeat' (first|apply zS|apply zB|((first|refine WP.regionP (id := 4) hC2 ?_|refine WP.regionF (id := 17) [(0,[800001,800002])] ?_); simp only [go_sem,hf,hr,hz,Int.reduceBEq,Int.reduceEq])|((first|apply zR|apply zC|apply zT|apply zE|apply zK);simp only [go_sem,hf,hr,hz,Int.reduceBEq,Int.reduceEq])|apply And.intro|intro _))
    all_goals first|omega|rfl|exact hloc|exact hpf|exact ⟨h6,by omega⟩|exact ⟨_,_,_,_,_,_,_,rfl⟩|exact ⟨_,_,rfl,_,_,rfl,rfl⟩|skip
end
end Go.Proofs.YtoomncljmgcidaaGreat

