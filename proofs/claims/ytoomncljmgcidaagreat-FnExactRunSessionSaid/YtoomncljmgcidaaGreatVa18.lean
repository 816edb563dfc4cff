/-
  DERIVED. Several texts of ours in one: VtMcP6.
-/
import Derived.Test.YtoomncljmgcidaaGreatVa6
set_option linter.unusedSimpArgs false
set_option linter.unusedVariables false
set_option maxHeartbeats 1000000
set_option maxRecDepth 10000
namespace Go.Proofs.YtoomncljmgcidaaGreat
open Go.Vc
attribute [local irreducible] Go.Vc.WP
attribute [local go_sem] cx0_t cx0_c
def fl037534e5b1 : List Go.Vc.Fp := [⟨[1],[],[],[],[],[]⟩,⟨[1],[],[],[],[],[]⟩,⟨[101],[1],[],[],[],[]⟩,⟨[102],[1,2],[],[],[],[]⟩,⟨[103],[1,2,3],[],[],[],[]⟩,⟨[104],[1,2,3,4],[],[],[],[]⟩,⟨[6],[],[],[],[],[]⟩,⟨[106],[6],[],[],[],[]⟩,⟨[105,107],[1,2,3,4,5,6,7],[],[],[],[]⟩,⟨[],[0,1,2,3,4,5,6,7,8],[],[],[],[]⟩,⟨[],[0,1,2,3,4,5,6,7,8,9],[],[],[],[]⟩,⟨[],[0,1,2,3,4,5,6,7,8,9,10],[],[],[],[]⟩,⟨[],[0,1,2,3,4,5,6,7,8,9,10,11],[],[],[],[]⟩]
def fl617707d512 : List Go.Vc.Fp := [⟨[1],[],[],[],[],[]⟩,⟨[1],[],[],[],[],[]⟩,⟨[118],[1],[],[],[],[]⟩,⟨[119],[1,2],[],[],[],[]⟩,⟨[120],[1,2,3],[],[],[],[]⟩,⟨[121],[1,2,3,4],[],[],[],[]⟩,⟨[6],[],[],[],[],[]⟩,⟨[123],[6],[],[],[],[]⟩,⟨[122,124],[1,2,3,4,5,6,7],[],[],[],[]⟩,⟨[],[0,1,2,3,4,5,6,7,8],[],[],[],[]⟩,⟨[],[0,1,2,3,4,5,6,7,8,9],[],[],[],[]⟩,⟨[],[0,1,2,3,4,5,6,7,8,9,10],[],[],[],[]⟩,⟨[],[0,1,2,3,4,5,6,7,8,9,10,11],[],[],[],[]⟩]
def flb9c02ef9d9 : List Go.Vc.Fp := [⟨[1],[],[257],[260,261],[],[]⟩,⟨[1],[],[],[260,261],[],[]⟩,⟨[253],[1],[],[260,261],[],[]⟩,⟨[254],[1,2],[],[260,261],[],[]⟩,⟨[255],[1,2,3],[],[260,261],[],[]⟩,⟨[256],[1,2,3,4],[],[260,261],[],[]⟩,⟨[1],[],[],[260,261],[],[]⟩,⟨[258],[6],[],[260,261],[],[]⟩,⟨[259],[6,7],[],[261],[],[260]⟩,⟨[257,260],[1,2,3,4,5,6,7,8],[],[],[257],[261]⟩,⟨[],[0,1,2,3,4,5,6,7,8,9],[],[],[],[]⟩,⟨[],[0,1,2,3,4,5,6,7,8,9,10],[],[],[],[]⟩,⟨[],[0,1,2,3,4,5,6,7,8,9,10,11],[],[],[],[]⟩,⟨[],[0,1,2,3,4,5,6,7,8,9,10,11,12],[],[],[],[]⟩]
attribute [local go_sem] fl037534e5b1 fl617707d512 flb9c02ef9d9
attribute [local go_sem] decI_enc decImage_enc spA cpu_eta bxC headsBy innersBy llX lmX St.callX St.panOf St.callLG ctrs St.isX St.stepP runS retY St.fzS addL behind ghoK St.gho St.gh SV.flat St.setO Ob.jk SV.jk
attribute [local go_sem] opA decC0 aggSp obC0 rbC kpC yen
section
attribute [local go_sem] cxPfS_t cxPfS_c LcxPfS k60
attribute [local go_sem] kPushS kWordS kPopS kPutS kNear kDropS kZerosS kAppl decCu obCu
set_option maxHeartbeats 8000000 in
theorem cPf6 : Cy Tryz.prog 117 (kPerfK fun c=>c = 14) := by
 refine Cy.yen Tryz.func117 (by kernel_rfl) rfl fun x hx=>?_
 obtain ⟨⟨I,B,E⟩,⟨⟨⟨pc,sp,fp,S,O⟩,g⟩,q,v⟩,⟨code,a⟩,n⟩ := x
 obtain ⟨⟨h1,h2,h3,h4,h5,⟨h6,h7,h8,h9,h10⟩,h11⟩,hp⟩ := hx
 simp only at h1 h2 h3 h4 h5 h6 h7 h8 h9 h10 h11 hp ⊢
 subst h5
 refine HoldsY.go (c := cxPfS) Tryz.func117 rfl Tryz.results117 Tryz.ntmps117 (by omega) (by simp) ?_ ?_ ?_
 rotate_right
 intro X0 M w0
 ·refine zP [] [(900000,800001),(900001,800002)] rfl ?_
  simp only [go_sem]
  subst hp
  obtain ⟨ha0,ha1⟩ := h9 (by omega)
  have hfp : (popS (⟨pc + n,sp,fp,S,O⟩,false)).2.1.fp = fp := by
   unfold popS
   split
   ·rw [wordS_len]
   ·rfl
  have e : performS E ⟨14,a⟩ ⟨pc + n,sp,fp,S,O⟩ = (if ¬ (0 ≤ (popS (⟨pc + n,sp,fp,S,O⟩,false)).2.1.fp ∧ (popS (⟨pc + n,sp,fp,S,O⟩,false)).2.1.fp ≤ 1200) then ((popS (⟨pc + n,sp,fp,S,O⟩,false)).2.1,true) else
   pushS (dropS (setPc (popS (setFp (popS (setSp (popS (⟨pc + n,sp,fp,S,O⟩,false)).2 (popS (⟨pc + n,sp,fp,S,O⟩,false)).2.1.fp)).2 (popS (setSp (popS (⟨pc + n,sp,fp,S,O⟩,false)).2 (popS (⟨pc + n,sp,fp,S,O⟩,false)).2.1.fp)).1)).2 (popS (setFp (popS (setSp (popS (⟨pc + n,sp,fp,S,O⟩,false)).2 (popS (⟨pc + n,sp,fp,S,O⟩,false)).2.1.fp)).2 (popS (setSp (popS (⟨pc + n,sp,fp,S,O⟩,false)).2 (popS (⟨pc + n,sp,fp,S,O⟩,false)).2.1.fp)).1)).1) a.toNat) (popS (⟨pc + n,sp,fp,S,O⟩,false)).1) := rfl
  rw [e]
  have hl1 : (popS (⟨pc + n,sp,fp,S,O⟩,false)).2.1.st.length = 1200:=by rw [popS_len]; exact h1
  generalize hp1 : popS (⟨pc + n,sp,fp,S,O⟩,false) = r at hl1 hfp ⊢
  obtain ⟨z,⟨rp,rs,rf,rS,rO⟩,rb⟩ := r
  simp only [setSp] at hl1 hfp ⊢
  subst hfp
  by_cases hfr : 0 ≤ rf ∧ rf ≤ 1200
  ·rw [if_neg (by simpa using hfr)]
   have hl2 : (popS (⟨rp,rf,rf,rS,rO⟩,rb)).2.1.st.length = 1200:=by rw [popS_len]; exact hl1
   generalize hp2 : popS (⟨rp,rf,rf,rS,rO⟩,rb) = t at hl2 ⊢
   obtain ⟨y,⟨tp,ts,tf,tS,tO⟩,tb⟩ := t
   simp only [setFp] at hl2 ⊢
   have hl3 : (popS (⟨tp,ts,y,tS,tO⟩,tb)).2.1.st.length = 1200:=by rw [popS_len]; exact hl2
   generalize hp3 : popS (⟨tp,ts,y,tS,tO⟩,tb) = u at hl3 ⊢
   obtain ⟨x,⟨up,us,uf,uS,uO⟩,ub⟩ := u
   simp only [setPc] at hl3 ⊢
   have hl4 : (dropS (⟨x,us,uf,uS,uO⟩,ub) a.toNat).1.st.length = 1200:=by rw [dropS_len]; exact hl3
   generalize hp4 : dropS (⟨x,us,uf,uS,uO⟩,ub) a.toNat = w at hl4 ⊢
   obtain ⟨⟨wp,ws,wf,wS,wO⟩,wb⟩ := w
   simp only at hl4 ⊢
   (repeat' (first|apply zS|apply zB|((first|apply zR|apply zC|apply zT|apply zE|apply zK| refine zF 9 fl037534e5b1 [100,101,102,103,104,105,106,107,108] [] [] (by decide +kernel) (by kernel_rfl) (by kernel_rfl) (by kernel_rfl) ?_|refine zF 9 fl617707d512 [117,118,119,120,121,122,123,124,125] [] [] (by decide +kernel) (by kernel_rfl) (by kernel_rfl) (by kernel_rfl) ?_|refine zF 10 flb9c02ef9d9 [252,253,254,255,256,257,258,259,260,261] [260,261] [257] (by decide +kernel) (by kernel_rfl) (by kernel_rfl) (by kernel_rfl) ?_|refine zD 12 (by decide +kernel) (by kernel_rfl) ?_|refine zD 8 (by decide +kernel) (by kernel_rfl) ?_); simp only [go_sem,hfr,hp1,hp2,hp3,hp4,Int.reduceBEq,Int.reduceEq])|apply And.intro|intro _))
   all_goals first|omega|rfl|exact h1|exact hl1|exact hl2|exact hl3|exact hl4|exact ⟨hl3,by omega⟩|skip
  ·rw [if_pos (by simpa using hfr)]
   (repeat' (first|apply zS|apply zB|((first|apply zR|apply zC|apply zT|apply zE|apply zK| refine zF 9 fl037534e5b1 [100,101,102,103,104,105,106,107,108] [] [] (by decide +kernel) (by kernel_rfl) (by kernel_rfl) (by kernel_rfl) ?_|refine zF 9 fl617707d512 [117,118,119,120,121,122,123,124,125] [] [] (by decide +kernel) (by kernel_rfl) (by kernel_rfl) (by kernel_rfl) ?_|refine zF 10 flb9c02ef9d9 [252,253,254,255,256,257,258,259,260,261] [260,261] [257] (by decide +kernel) (by kernel_rfl) (by kernel_rfl) (by kernel_rfl) ?_|refine zD 12 (by decide +kernel) (by kernel_rfl) ?_|refine zD 8 (by decide +kernel) (by kernel_rfl) ?_); simp only [go_sem,hfr,hp1,Int.reduceBEq,Int.reduceEq])|apply And.intro|intro _))
   all_goals first|omega|rfl|exact h1|exact hl1|skip
 ·rfl
 ·intro h; cases h
end
end Go.Proofs.YtoomncljmgcidaaGreat

