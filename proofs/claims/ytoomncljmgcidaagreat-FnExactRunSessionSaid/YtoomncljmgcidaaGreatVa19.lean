/-
  DERIVED. Several texts of ours in one: VtMcP7, VtMcP8.
-/
import Derived.Test.YtoomncljmgcidaaGreatVa6
import Derived.Test.YtoomncljmgcidaaGreatVa7
set_option linter.unusedSimpArgs false
set_option linter.unusedVariables false
set_option maxHeartbeats 1000000
set_option maxRecDepth 10000
namespace Go.Proofs.YtoomncljmgcidaaGreat
open Go.Vc
attribute [local irreducible] Go.Vc.WP
attribute [local go_sem] cx0_t cx0_c
def fl5a2a8acfd3 : List Go.Vc.Fp := [⟨[1],[],[],[],[],[]⟩,⟨[1],[],[],[],[],[]⟩,⟨[101],[1],[],[],[],[]⟩,⟨[102],[1,2],[],[],[],[]⟩,⟨[103],[1,2,3],[],[],[],[]⟩,⟨[104],[1,2,3,4],[],[],[],[]⟩,⟨[6],[],[],[],[],[]⟩,⟨[106],[6],[],[],[],[]⟩,⟨[105,107],[1,2,3,4,5,6,7],[],[],[],[]⟩,⟨[],[0,1,2,3,4,5,6,7,8],[],[],[],[]⟩,⟨[],[0,1,2,3,4,5,6,7,8,9],[],[],[],[]⟩,⟨[],[0,1,2,3,4,5,6,7,8,9,10],[],[],[],[]⟩,⟨[],[0,1,2,3,4,5,6,7,8,9,10,11],[],[],[],[]⟩]
def fl88768c99aa : List Go.Vc.Fp := [⟨[1],[],[],[],[],[]⟩,⟨[1],[],[],[],[],[]⟩,⟨[118],[1],[],[],[],[]⟩,⟨[119],[1,2],[],[],[],[]⟩,⟨[120],[1,2,3],[],[],[],[]⟩,⟨[121],[1,2,3,4],[],[],[],[]⟩,⟨[6],[],[],[],[],[]⟩,⟨[123],[6],[],[],[],[]⟩,⟨[122,124],[1,2,3,4,5,6,7],[],[],[],[]⟩,⟨[],[0,1,2,3,4,5,6,7,8],[],[],[],[]⟩,⟨[],[0,1,2,3,4,5,6,7,8,9],[],[],[],[]⟩,⟨[],[0,1,2,3,4,5,6,7,8,9,10],[],[],[],[]⟩,⟨[],[0,1,2,3,4,5,6,7,8,9,10,11],[],[],[],[]⟩]
def fl6d5fb290cb : List Go.Vc.Fp := [⟨[1],[],[257],[260,261],[],[]⟩,⟨[1],[],[],[260,261],[],[]⟩,⟨[253],[1],[],[260,261],[],[]⟩,⟨[254],[1,2],[],[260,261],[],[]⟩,⟨[255],[1,2,3],[],[260,261],[],[]⟩,⟨[256],[1,2,3,4],[],[260,261],[],[]⟩,⟨[1],[],[],[260,261],[],[]⟩,⟨[258],[6],[],[260,261],[],[]⟩,⟨[259],[6,7],[],[261],[],[260]⟩,⟨[257,260],[1,2,3,4,5,6,7,8],[],[],[257],[261]⟩,⟨[],[0,1,2,3,4,5,6,7,8,9],[],[],[],[]⟩,⟨[],[0,1,2,3,4,5,6,7,8,9,10],[],[],[],[]⟩,⟨[],[0,1,2,3,4,5,6,7,8,9,10,11],[],[],[],[]⟩,⟨[],[0,1,2,3,4,5,6,7,8,9,10,11,12],[],[],[],[]⟩]
attribute [local go_sem] fl5a2a8acfd3 fl88768c99aa fl6d5fb290cb
attribute [local go_sem] decI_enc decImage_enc spA cpu_eta bxC headsBy innersBy llX lmX St.callX St.panOf St.callLG ctrs St.isX St.stepP runS retY St.fzS addL behind ghoK St.gho St.gh SV.flat St.setO Ob.jk SV.jk
attribute [local go_sem] opA decC0 aggSp obC0 rbC kpC yen
section
attribute [local go_sem] cxPfS_t cxPfS_c LcxPfS k60
attribute [local go_sem] kPushS kWordS kPopS kPutS kNear kDropS kZerosS kAppl decCu obCu
set_option maxHeartbeats 8000000 in
theorem cPf7 : Cy Tryz.prog 117 (kPerfK fun c=>c = 1) := by
 refine Cy.yen Tryz.func117 (by kernel_rfl) rfl fun x hx=>?_
 obtain ⟨⟨I,B,E⟩,⟨⟨⟨pc,sp,fp,S,O⟩,g⟩,q,v⟩,⟨code,a⟩,n⟩ := x
 obtain ⟨⟨h1,h2,h3,h4,h5,⟨h6,h7,h8,h9,h10⟩,h11⟩,hp⟩ := hx
 simp only at h1 h2 h3 h4 h5 h6 h7 h8 h9 h10 h11 hp ⊢
 subst h5
 refine HoldsY.go (c := cxPfS) Tryz.func117 rfl Tryz.results117 Tryz.ntmps117 (by omega) (by simp) ?_ ?_ ?_
 rotate_right
 intro X0 M w0
 ·refine zP [] [(900000,800001),(900001,800002)] rfl ?_
  simp only [go_sem]
  subst hp
  obtain ⟨ha0,ha1⟩ := h8 (by omega)
  have e : performS E ⟨1,a⟩ ⟨pc + n,sp,fp,S,O⟩ = pushS (wordS (⟨pc + n,sp,fp,S,O⟩,false) (nearA fp a)).2 (wordS (⟨pc + n,sp,fp,S,O⟩,false) (nearA fp a)).1 := rfl
  rw [e]
  have hl1 : (wordS (⟨pc + n,sp,fp,S,O⟩,false) (nearA fp a)).2.1.st.length = 1200:=by rw [wordS_len]; exact h1
  generalize hp1 : wordS (⟨pc + n,sp,fp,S,O⟩,false) (nearA fp a) = r at hl1 ⊢
  obtain ⟨z,⟨rp,rs,rf,rS,rO⟩,rb⟩ := r
  simp only at hl1 ⊢
  (repeat' (first|apply zS|apply zB|((first|refine WP.stages (id := 10) (.call ⟨[],[0,1,2,3,4,5,6,7,8,9],[(0,1)],10⟩ (.call ⟨[0],[],[],11⟩ (.last ⟨[],[],[],0⟩))) (by decide +kernel) (by decide +kernel) (by kernel_rfl) ?_); simp only [go_sem,h1,hp1,Int.reduceBEq,Int.reduceEq])|((first|apply zR|apply zC|apply zT|apply zE|apply zK| refine zF 9 fl5a2a8acfd3 [100,101,102,103,104,105,106,107,108] [] [] (by decide +kernel) (by kernel_rfl) (by kernel_rfl) (by kernel_rfl) ?_|refine zF 9 fl88768c99aa [117,118,119,120,121,122,123,124,125] [] [] (by decide +kernel) (by kernel_rfl) (by kernel_rfl) (by kernel_rfl) ?_|refine zF 10 fl6d5fb290cb [252,253,254,255,256,257,258,259,260,261] [260,261] [257] (by decide +kernel) (by kernel_rfl) (by kernel_rfl) (by kernel_rfl) ?_|refine zD 12 (by decide +kernel) (by kernel_rfl) ?_|refine zD 8 (by decide +kernel) (by kernel_rfl) ?_); simp only [go_sem,h1,hp1,Int.reduceBEq,Int.reduceEq])|apply And.intro|intro _))
  all_goals first|omega|rfl|exact h1|exact hl1|skip
 ·rfl
 ·intro h; cases h
end
end Go.Proofs.YtoomncljmgcidaaGreat

namespace Go.Proofs.YtoomncljmgcidaaGreat
open Go.Vc
attribute [local irreducible] Go.Vc.WP
attribute [local go_sem] cx0_t cx0_c
def fld35069ed1b : List Go.Vc.Fp := [⟨[1],[],[],[],[],[]⟩,⟨[1],[],[],[],[],[]⟩,⟨[101],[1],[],[],[],[]⟩,⟨[102],[1,2],[],[],[],[]⟩,⟨[103],[1,2,3],[],[],[],[]⟩,⟨[104],[1,2,3,4],[],[],[],[]⟩,⟨[6],[],[],[],[],[]⟩,⟨[106],[6],[],[],[],[]⟩,⟨[105,107],[1,2,3,4,5,6,7],[],[],[],[]⟩,⟨[],[0,1,2,3,4,5,6,7,8],[],[],[],[]⟩,⟨[],[0,1,2,3,4,5,6,7,8,9],[],[],[],[]⟩,⟨[],[0,1,2,3,4,5,6,7,8,9,10],[],[],[],[]⟩,⟨[],[0,1,2,3,4,5,6,7,8,9,10,11],[],[],[],[]⟩]
def fl74826efad5 : List Go.Vc.Fp := [⟨[1],[],[],[],[],[]⟩,⟨[1],[],[],[],[],[]⟩,⟨[118],[1],[],[],[],[]⟩,⟨[119],[1,2],[],[],[],[]⟩,⟨[120],[1,2,3],[],[],[],[]⟩,⟨[121],[1,2,3,4],[],[],[],[]⟩,⟨[6],[],[],[],[],[]⟩,⟨[123],[6],[],[],[],[]⟩,⟨[122,124],[1,2,3,4,5,6,7],[],[],[],[]⟩,⟨[],[0,1,2,3,4,5,6,7,8],[],[],[],[]⟩,⟨[],[0,1,2,3,4,5,6,7,8,9],[],[],[],[]⟩,⟨[],[0,1,2,3,4,5,6,7,8,9,10],[],[],[],[]⟩,⟨[],[0,1,2,3,4,5,6,7,8,9,10,11],[],[],[],[]⟩]
def fl0ac82610b3 : List Go.Vc.Fp := [⟨[1],[],[257],[260,261],[],[]⟩,⟨[1],[],[],[260,261],[],[]⟩,⟨[253],[1],[],[260,261],[],[]⟩,⟨[254],[1,2],[],[260,261],[],[]⟩,⟨[255],[1,2,3],[],[260,261],[],[]⟩,⟨[256],[1,2,3,4],[],[260,261],[],[]⟩,⟨[1],[],[],[260,261],[],[]⟩,⟨[258],[6],[],[260,261],[],[]⟩,⟨[259],[6,7],[],[261],[],[260]⟩,⟨[257,260],[1,2,3,4,5,6,7,8],[],[],[257],[261]⟩,⟨[],[0,1,2,3,4,5,6,7,8,9],[],[],[],[]⟩,⟨[],[0,1,2,3,4,5,6,7,8,9,10],[],[],[],[]⟩,⟨[],[0,1,2,3,4,5,6,7,8,9,10,11],[],[],[],[]⟩,⟨[],[0,1,2,3,4,5,6,7,8,9,10,11,12],[],[],[],[]⟩]
attribute [local go_sem] fld35069ed1b fl74826efad5 fl0ac82610b3
attribute [local go_sem] decI_enc decImage_enc spA cpu_eta bxC headsBy innersBy llX lmX St.callX St.panOf St.callLG ctrs St.isX St.stepP runS retY St.fzS addL behind ghoK St.gho St.gh SV.flat St.setO Ob.jk SV.jk
attribute [local go_sem] opA decC0 aggSp obC0 rbC kpC yen
section
attribute [local go_sem] cxPfS_t cxPfS_c LcxPfS k60
attribute [local go_sem] kPushS kWordS kPopS kPutS kNear kDropS kZerosS kAppl decCu obCu
set_option maxHeartbeats 8000000 in
theorem cPf8 : Cy Tryz.prog 117 (kPerfK fun c=>c = 2 ∨ c = 4) := by
 refine Cy.yen Tryz.func117 (by kernel_rfl) rfl fun x hx=>?_
 obtain ⟨⟨I,B,E⟩,⟨⟨⟨pc,sp,fp,S,O⟩,g⟩,q,v⟩,⟨code,a⟩,n⟩ := x
 obtain ⟨⟨h1,h2,h3,h4,h5,⟨h6,h7,h8,h9,h10⟩,h11⟩,hp⟩ := hx
 simp only at h1 h2 h3 h4 h5 h6 h7 h8 h9 h10 h11 hp ⊢
 subst h5
 refine HoldsY.go (c := cxPfS) Tryz.func117 rfl Tryz.results117 Tryz.ntmps117 (by omega) (by simp) ?_ ?_ ?_
 rotate_right
 intro X0 M w0
 ·refine zP [] [(900000,800001),(900001,800002)] rfl ?_
  simp only [go_sem]
  by_cases k2 : code = 2
  ·subst k2
   obtain ⟨ha0,ha1⟩ := h8 (by omega)
   have e : performS E ⟨2,a⟩ ⟨pc + n,sp,fp,S,O⟩ = putS (popS (⟨pc + n,sp,fp,S,O⟩,false)).2 (nearA fp a) (popS (⟨pc + n,sp,fp,S,O⟩,false)).1 := rfl
   rw [e]
   have hl1 : (popS (⟨pc + n,sp,fp,S,O⟩,false)).2.1.st.length = 1200:=by rw [popS_len]; exact h1
   generalize hp1 : popS (⟨pc + n,sp,fp,S,O⟩,false) = r at hl1 ⊢
   obtain ⟨z,⟨rp,rs,rf,rS,rO⟩,rb⟩ := r
   simp only at hl1 ⊢
   (repeat' (first|apply zS|apply zB|((first|refine WP.stages (id := 14) (.call ⟨[],[0,1,2,3,4,5,6,7,8,9],[(0,1)],10⟩ (.call ⟨[0],[],[],11⟩ (.last ⟨[],[],[],0⟩))) (by decide +kernel) (by decide +kernel) (by kernel_rfl) ?_); simp only [go_sem,h1,hp1,Int.reduceBEq,Int.reduceEq])|((first|apply zR|apply zC|apply zT|apply zE|apply zK| refine zF 9 fld35069ed1b [100,101,102,103,104,105,106,107,108] [] [] (by decide +kernel) (by kernel_rfl) (by kernel_rfl) (by kernel_rfl) ?_|refine zF 9 fl74826efad5 [117,118,119,120,121,122,123,124,125] [] [] (by decide +kernel) (by kernel_rfl) (by kernel_rfl) (by kernel_rfl) ?_|refine zF 10 fl0ac82610b3 [252,253,254,255,256,257,258,259,260,261] [260,261] [257] (by decide +kernel) (by kernel_rfl) (by kernel_rfl) (by kernel_rfl) ?_|refine zD 12 (by decide +kernel) (by kernel_rfl) ?_|refine zD 8 (by decide +kernel) (by kernel_rfl) ?_); simp only [go_sem,h1,hp1,Int.reduceBEq,Int.reduceEq])|apply And.intro|intro _))
   all_goals first|omega|rfl|exact h1|exact hl1|skip
  by_cases k4 : code = 4
  ·subst k4
   obtain ⟨ha0,ha1⟩ := h8 (by omega)
   have e : performS E ⟨4,a⟩ ⟨pc + n,sp,fp,S,O⟩ = putS (popS (⟨pc + n,sp,fp,S,O⟩,false)).2 (sp + a) (popS (⟨pc + n,sp,fp,S,O⟩,false)).1 := rfl
   rw [e]
   have hl1 : (popS (⟨pc + n,sp,fp,S,O⟩,false)).2.1.st.length = 1200:=by rw [popS_len]; exact h1
   generalize hp1 : popS (⟨pc + n,sp,fp,S,O⟩,false) = r at hl1 ⊢
   obtain ⟨z,⟨rp,rs,rf,rS,rO⟩,rb⟩ := r
   simp only at hl1 ⊢
   (repeat' (first|apply zS|apply zB|((first|refine WP.stages (id := 16) (.call ⟨[],[0,1,2,3,4,5],[(0,1),(1,8),(2,6),(3,6),(4,8)],6⟩ (.call ⟨[0,1,2,3,4],[],[],7⟩ (.last ⟨[],[],[],0⟩))) (by decide +kernel) (by decide +kernel) (by kernel_rfl) ?_); simp only [go_sem,h1,hp1,Int.reduceBEq,Int.reduceEq])|((first|apply zR|apply zC|apply zT|apply zE|apply zK| refine zF 9 fld35069ed1b [100,101,102,103,104,105,106,107,108] [] [] (by decide +kernel) (by kernel_rfl) (by kernel_rfl) (by kernel_rfl) ?_|refine zF 9 fl74826efad5 [117,118,119,120,121,122,123,124,125] [] [] (by decide +kernel) (by kernel_rfl) (by kernel_rfl) (by kernel_rfl) ?_|refine zF 10 fl0ac82610b3 [252,253,254,255,256,257,258,259,260,261] [260,261] [257] (by decide +kernel) (by kernel_rfl) (by kernel_rfl) (by kernel_rfl) ?_|refine zD 12 (by decide +kernel) (by kernel_rfl) ?_|refine zD 8 (by decide +kernel) (by kernel_rfl) ?_); simp only [go_sem,h1,hp1,Int.reduceBEq,Int.reduceEq])|apply And.intro|intro _))
   all_goals first|omega|rfl|exact h1|exact hl1|skip
  omega
 ·rfl
 ·intro h; cases h
end
end Go.Proofs.YtoomncljmgcidaaGreat

