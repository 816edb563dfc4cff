/-
  DERIVED. Several texts of ours in one: VtMcP4.
-/
import Derived.Test.YtoomncljmgcidaaGreatVa6
set_option linter.unusedSimpArgs false
set_option linter.unusedVariables false
set_option maxHeartbeats 1000000
set_option maxRecDepth 10000
namespace Go.Proofs.YtoomncljmgcidaaGreat
open Go.Vc
attribute [local irreducible] Go.Vc.WP
attribute [local go_sem] cx0_t cx0_c
def fl3b1927bf46 : List Go.Vc.Fp := [⟨[1],[],[],[],[],[]⟩,⟨[1],[],[],[],[],[]⟩,⟨[101],[1],[],[],[],[]⟩,⟨[102],[1,2],[],[],[],[]⟩,⟨[103],[1,2,3],[],[],[],[]⟩,⟨[104],[1,2,3,4],[],[],[],[]⟩,⟨[6],[],[],[],[],[]⟩,⟨[106],[6],[],[],[],[]⟩,⟨[105,107],[1,2,3,4,5,6,7],[],[],[],[]⟩,⟨[],[0,1,2,3,4,5,6,7,8],[],[],[],[]⟩,⟨[],[0,1,2,3,4,5,6,7,8,9],[],[],[],[]⟩,⟨[],[0,1,2,3,4,5,6,7,8,9,10],[],[],[],[]⟩,⟨[],[0,1,2,3,4,5,6,7,8,9,10,11],[],[],[],[]⟩]
def fl80c46ff012 : List Go.Vc.Fp := [⟨[1],[],[],[],[],[]⟩,⟨[1],[],[],[],[],[]⟩,⟨[118],[1],[],[],[],[]⟩,⟨[119],[1,2],[],[],[],[]⟩,⟨[120],[1,2,3],[],[],[],[]⟩,⟨[121],[1,2,3,4],[],[],[],[]⟩,⟨[6],[],[],[],[],[]⟩,⟨[123],[6],[],[],[],[]⟩,⟨[122,124],[1,2,3,4,5,6,7],[],[],[],[]⟩,⟨[],[0,1,2,3,4,5,6,7,8],[],[],[],[]⟩,⟨[],[0,1,2,3,4,5,6,7,8,9],[],[],[],[]⟩,⟨[],[0,1,2,3,4,5,6,7,8,9,10],[],[],[],[]⟩,⟨[],[0,1,2,3,4,5,6,7,8,9,10,11],[],[],[],[]⟩]
def fl55dc10c862 : List Go.Vc.Fp := [⟨[1],[],[257],[260,261],[],[]⟩,⟨[1],[],[],[260,261],[],[]⟩,⟨[253],[1],[],[260,261],[],[]⟩,⟨[254],[1,2],[],[260,261],[],[]⟩,⟨[255],[1,2,3],[],[260,261],[],[]⟩,⟨[256],[1,2,3,4],[],[260,261],[],[]⟩,⟨[1],[],[],[260,261],[],[]⟩,⟨[258],[6],[],[260,261],[],[]⟩,⟨[259],[6,7],[],[261],[],[260]⟩,⟨[257,260],[1,2,3,4,5,6,7,8],[],[],[257],[261]⟩,⟨[],[0,1,2,3,4,5,6,7,8,9],[],[],[],[]⟩,⟨[],[0,1,2,3,4,5,6,7,8,9,10],[],[],[],[]⟩,⟨[],[0,1,2,3,4,5,6,7,8,9,10,11],[],[],[],[]⟩,⟨[],[0,1,2,3,4,5,6,7,8,9,10,11,12],[],[],[],[]⟩]
attribute [local go_sem] fl3b1927bf46 fl80c46ff012 fl55dc10c862
attribute [local go_sem] decI_enc decImage_enc spA cpu_eta bxC headsBy innersBy llX lmX St.callX St.panOf St.callLG ctrs St.isX St.stepP runS retY St.fzS addL behind ghoK St.gho St.gh SV.flat St.setO Ob.jk SV.jk
attribute [local go_sem] opA decC0 aggSp obC0 rbC kpC yen
section
attribute [local go_sem] cxPfS_t cxPfS_c LcxPfS k60
attribute [local go_sem] kPushS kWordS kPopS kPutS kNear kDropS kZerosS kAppl decCu obCu
set_option maxHeartbeats 8000000 in
theorem cPf4 : Cy Tryz.prog 117 (kPerfK fun c=>5 ≤ c ∧ c ≤ 9) := by
 refine Cy.yen Tryz.func117 (by kernel_rfl) rfl fun x hx=>?_
 obtain ⟨⟨I,B,E⟩,⟨⟨⟨pc,sp,fp,S,O⟩,g⟩,q,v⟩,⟨code,a⟩,n⟩ := x
 obtain ⟨⟨h1,h2,h3,h4,h5,⟨h6,h7,h8,h9,h10⟩,h11⟩,hp⟩ := hx
 simp only at h1 h2 h3 h4 h5 h6 h7 h8 h9 h10 h11 hp ⊢
 subst h5
 refine HoldsY.go (c := cxPfS) Tryz.func117 rfl Tryz.results117 Tryz.ntmps117 (by omega) (by simp) ?_ ?_ ?_
 rotate_right
 intro X0 M w0
 ·refine zP [] [(900000,800001),(900001,800002)] rfl ?_
  simp only [go_sem]
  have k0 : ¬ code = 0:=by omega
  have k1 : ¬ code = 1:=by omega
  have k3 : ¬ code = 3:=by omega
  have k2 : ¬ code = 2:=by omega
  have k4 : ¬ code = 4:=by omega
  have k10 : ¬ code = 10:=by omega
  have k11 : ¬ code = 11:=by omega
  have k12 : ¬ code = 12:=by omega
  have k13 : ¬ code = 13:=by omega
  have k15 : ¬ code = 15:=by omega
  have k14 : ¬ code = 14:=by omega
  have k16 : ¬ code = 16:=by omega
  have k17 : ¬ code = 17:=by omega
  have e : performS E ⟨code,a⟩ ⟨pc + n,sp,fp,S,O⟩ = pushS (popS (popS (⟨pc + n,sp,fp,S,O⟩,false)).2).2 (appl (code - 5 + 2) (popS (popS (⟨pc + n,sp,fp,S,O⟩,false)).2).1 (popS (⟨pc + n,sp,fp,S,O⟩,false)).1) := by
   unfold performS
   simp only [k0,k1,k3,k2,k4,k10,k11,k12,k13,k15,k14,k16,k17,if_false]
  rw [e]
  have hl1 : (popS (⟨pc + n,sp,fp,S,O⟩,false)).2.1.st.length = 1200:=by rw [popS_len]; exact h1
  generalize hp : popS (⟨pc + n,sp,fp,S,O⟩,false) = r at hl1 ⊢
  obtain ⟨z,⟨rp,rs,rf,rS,rO⟩,rb⟩ := r
  simp only at hl1 ⊢
  have hl2 : (popS (⟨rp,rs,rf,rS,rO⟩,rb)).2.1.st.length = 1200:=by rw [popS_len]; exact hl1
  generalize hq : popS (⟨rp,rs,rf,rS,rO⟩,rb) = t at hl2 ⊢
  obtain ⟨y,⟨tp,ts,tf,tS,tO⟩,tb⟩ := t
  simp only at hl2 ⊢
  (repeat' (first|apply zS|apply zB|((first|apply zR|apply zC|apply zT|apply zE|apply zK| refine zF 9 fl3b1927bf46 [100,101,102,103,104,105,106,107,108] [] [] (by decide +kernel) (by kernel_rfl) (by kernel_rfl) (by kernel_rfl) ?_|refine zF 9 fl80c46ff012 [117,118,119,120,121,122,123,124,125] [] [] (by decide +kernel) (by kernel_rfl) (by kernel_rfl) (by kernel_rfl) ?_|refine zF 10 fl55dc10c862 [252,253,254,255,256,257,258,259,260,261] [260,261] [257] (by decide +kernel) (by kernel_rfl) (by kernel_rfl) (by kernel_rfl) ?_|refine zD 12 (by decide +kernel) (by kernel_rfl) ?_|refine zD 8 (by decide +kernel) (by kernel_rfl) ?_); simp only [go_sem,hp,hq,k0,k1,k3,k2,k4,k10,k11,k12,k13,k15,k14,k16,k17,Int.reduceBEq,Int.reduceEq])|apply And.intro|intro _))
  all_goals first|omega|rfl|exact h1|exact hl1|exact hl2|skip
 ·rfl
 ·intro h; cases h
end
end Go.Proofs.YtoomncljmgcidaaGreat

