/-
  DERIVED. Several texts of ours in one: VtMcP3.
-/
import Derived.Test.YtoomncljmgcidaaGreatVa6
set_option linter.unusedSimpArgs false
set_option linter.unusedVariables false
set_option maxHeartbeats 1000000
set_option maxRecDepth 10000
namespace Go.Proofs.YtoomncljmgcidaaGreat
open Go.Vc
attribute [local irreducible] Go.Vc.WP
attribute [local go_sem] cx0_t cx0_c
def flf4a6461907 : List Go.Vc.Fp := [⟨[1],[],[],[],[],[]⟩,⟨[1],[],[],[],[],[]⟩,⟨[101],[1],[],[],[],[]⟩,⟨[102],[1,2],[],[],[],[]⟩,⟨[103],[1,2,3],[],[],[],[]⟩,⟨[104],[1,2,3,4],[],[],[],[]⟩,⟨[6],[],[],[],[],[]⟩,⟨[106],[6],[],[],[],[]⟩,⟨[105,107],[1,2,3,4,5,6,7],[],[],[],[]⟩,⟨[],[0,1,2,3,4,5,6,7,8],[],[],[],[]⟩,⟨[],[0,1,2,3,4,5,6,7,8,9],[],[],[],[]⟩,⟨[],[0,1,2,3,4,5,6,7,8,9,10],[],[],[],[]⟩,⟨[],[0,1,2,3,4,5,6,7,8,9,10,11],[],[],[],[]⟩]
def fl6a3d9a63f8 : List Go.Vc.Fp := [⟨[1],[],[],[],[],[]⟩,⟨[1],[],[],[],[],[]⟩,⟨[118],[1],[],[],[],[]⟩,⟨[119],[1,2],[],[],[],[]⟩,⟨[120],[1,2,3],[],[],[],[]⟩,⟨[121],[1,2,3,4],[],[],[],[]⟩,⟨[6],[],[],[],[],[]⟩,⟨[123],[6],[],[],[],[]⟩,⟨[122,124],[1,2,3,4,5,6,7],[],[],[],[]⟩,⟨[],[0,1,2,3,4,5,6,7,8],[],[],[],[]⟩,⟨[],[0,1,2,3,4,5,6,7,8,9],[],[],[],[]⟩,⟨[],[0,1,2,3,4,5,6,7,8,9,10],[],[],[],[]⟩,⟨[],[0,1,2,3,4,5,6,7,8,9,10,11],[],[],[],[]⟩]
def flb686ef43e3 : List Go.Vc.Fp := [⟨[1],[],[257],[260,261],[],[]⟩,⟨[1],[],[],[260,261],[],[]⟩,⟨[253],[1],[],[260,261],[],[]⟩,⟨[254],[1,2],[],[260,261],[],[]⟩,⟨[255],[1,2,3],[],[260,261],[],[]⟩,⟨[256],[1,2,3,4],[],[260,261],[],[]⟩,⟨[1],[],[],[260,261],[],[]⟩,⟨[258],[6],[],[260,261],[],[]⟩,⟨[259],[6,7],[],[261],[],[260]⟩,⟨[257,260],[1,2,3,4,5,6,7,8],[],[],[257],[261]⟩,⟨[],[0,1,2,3,4,5,6,7,8,9],[],[],[],[]⟩,⟨[],[0,1,2,3,4,5,6,7,8,9,10],[],[],[],[]⟩,⟨[],[0,1,2,3,4,5,6,7,8,9,10,11],[],[],[],[]⟩,⟨[],[0,1,2,3,4,5,6,7,8,9,10,11,12],[],[],[],[]⟩]
attribute [local go_sem] flf4a6461907 fl6a3d9a63f8 flb686ef43e3
attribute [local go_sem] decI_enc decImage_enc spA cpu_eta bxC headsBy innersBy llX lmX St.callX St.panOf St.callLG ctrs St.isX St.stepP runS retY St.fzS addL behind ghoK St.gho St.gh SV.flat St.setO Ob.jk SV.jk
attribute [local go_sem] opA decC0 aggSp obC0 rbC kpC yen
section
attribute [local go_sem] cxPfS_t cxPfS_c LcxPfS k60
attribute [local go_sem] kPushS kWordS kPopS kPutS kNear kDropS kZerosS kAppl decCu obCu
set_option maxHeartbeats 8000000 in
theorem cPf3 : Cy Tryz.prog 117 (kPerfK fun c=>c = 13 ∨ c = 11) := by
 refine Cy.yen Tryz.func117 (by kernel_rfl) rfl fun x hx=>?_
 obtain ⟨⟨I,B,E⟩,⟨⟨⟨pc,sp,fp,S,O⟩,g⟩,q,v⟩,⟨code,a⟩,n⟩ := x
 obtain ⟨⟨h1,h2,h3,h4,h5,⟨h6,h7,h8,h9,h10⟩,h11⟩,hp⟩ := hx
 simp only at h1 h2 h3 h4 h5 h6 h7 h8 h9 h10 h11 hp ⊢
 subst h5
 refine HoldsY.go (c := cxPfS) Tryz.func117 rfl Tryz.results117 Tryz.ntmps117 (by omega) (by simp) ?_ ?_ ?_
 rotate_right
 intro X0 M w0
 ·refine zP [] [(900000,800001),(900001,800002)] rfl ?_
  simp only [go_sem]
  by_cases k13 : code = 13
  ·subst k13
   have e : performS E ⟨13,a⟩ ⟨pc + n,sp,fp,S,O⟩ = zerosS (setFp (pushS (⟨pc + n,sp,fp,S,O⟩,false) fp) (pushS (⟨pc + n,sp,fp,S,O⟩,false) fp).1.sp) a.toNat := rfl
   rw [e]
   have hl : (pushS (⟨pc + n,sp,fp,S,O⟩,false) fp).1.st.length = 1200:=by rw [pushS_len]; exact h1
   generalize hp : pushS (⟨pc + n,sp,fp,S,O⟩,false) fp = r at hl ⊢
   obtain ⟨⟨rp,rs,rf,rS,rO⟩,rb⟩ := r
   simp only [setFp] at hl ⊢
   obtain ⟨ha0,ha1⟩ := h9 (by omega)
   (repeat' (first|apply zS|apply zB|((first|apply zR|apply zC|apply zT|apply zE|apply zK| refine zF 9 flf4a6461907 [100,101,102,103,104,105,106,107,108] [] [] (by decide +kernel) (by kernel_rfl) (by kernel_rfl) (by kernel_rfl) ?_|refine zF 9 fl6a3d9a63f8 [117,118,119,120,121,122,123,124,125] [] [] (by decide +kernel) (by kernel_rfl) (by kernel_rfl) (by kernel_rfl) ?_|refine zF 10 flb686ef43e3 [252,253,254,255,256,257,258,259,260,261] [260,261] [257] (by decide +kernel) (by kernel_rfl) (by kernel_rfl) (by kernel_rfl) ?_|refine zD 12 (by decide +kernel) (by kernel_rfl) ?_|refine zD 8 (by decide +kernel) (by kernel_rfl) ?_); simp only [go_sem,hp,Int.reduceBEq,Int.reduceEq])|apply And.intro|intro _))
   all_goals first|omega|rfl|exact h1|exact hl|exact ⟨hl,by omega⟩|skip
  by_cases k11 : code = 11
  ·subst k11
   have e : performS E ⟨11,a⟩ ⟨pc + n,sp,fp,S,O⟩ = (if (popS (⟨pc + n,sp,fp,S,O⟩,false)).1 = 0 then setPc (popS (⟨pc + n,sp,fp,S,O⟩,false)).2 ((popS (⟨pc + n,sp,fp,S,O⟩,false)).2.1.pc + a) else (popS (⟨pc + n,sp,fp,S,O⟩,false)).2) := rfl
   rw [e]
   have hpc : (popS (⟨pc + n,sp,fp,S,O⟩,false)).2.1.pc = pc + n := by
    unfold popS
    split
    ·rw [wordS_len]
    ·rfl
   have h8' := h8 (by omega)
   generalize hp : popS (⟨pc + n,sp,fp,S,O⟩,false) = r at hpc ⊢
   obtain ⟨z,⟨rp,rs,rf,rS,rO⟩,rb⟩ := r
   simp only at hpc ⊢
   subst hpc
   by_cases hz : z = 0
   ·rw [if_pos hz]
    (repeat' (first|apply zS|apply zB|((first|apply zR|apply zC|apply zT|apply zE|apply zK| refine zF 9 flf4a6461907 [100,101,102,103,104,105,106,107,108] [] [] (by decide +kernel) (by kernel_rfl) (by kernel_rfl) (by kernel_rfl) ?_|refine zF 9 fl6a3d9a63f8 [117,118,119,120,121,122,123,124,125] [] [] (by decide +kernel) (by kernel_rfl) (by kernel_rfl) (by kernel_rfl) ?_|refine zF 10 flb686ef43e3 [252,253,254,255,256,257,258,259,260,261] [260,261] [257] (by decide +kernel) (by kernel_rfl) (by kernel_rfl) (by kernel_rfl) ?_|refine zD 12 (by decide +kernel) (by kernel_rfl) ?_|refine zD 8 (by decide +kernel) (by kernel_rfl) ?_); simp only [go_sem,hp,hz,setPc,Int.reduceBEq,Int.reduceEq])|apply And.intro|intro _))
    all_goals first|omega|rfl|exact h1|skip
   ·rw [if_neg hz]
    (repeat' (first|apply zS|apply zB|((first|apply zR|apply zC|apply zT|apply zE|apply zK| refine zF 9 flf4a6461907 [100,101,102,103,104,105,106,107,108] [] [] (by decide +kernel) (by kernel_rfl) (by kernel_rfl) (by kernel_rfl) ?_|refine zF 9 fl6a3d9a63f8 [117,118,119,120,121,122,123,124,125] [] [] (by decide +kernel) (by kernel_rfl) (by kernel_rfl) (by kernel_rfl) ?_|refine zF 10 flb686ef43e3 [252,253,254,255,256,257,258,259,260,261] [260,261] [257] (by decide +kernel) (by kernel_rfl) (by kernel_rfl) (by kernel_rfl) ?_|refine zD 12 (by decide +kernel) (by kernel_rfl) ?_|refine zD 8 (by decide +kernel) (by kernel_rfl) ?_); simp only [go_sem,hp,hz,Int.reduceBEq,Int.reduceEq])|apply And.intro|intro _))
    all_goals first|omega|rfl|exact h1|skip
  omega
 ·rfl
 ·intro h; cases h
end
end Go.Proofs.YtoomncljmgcidaaGreat

