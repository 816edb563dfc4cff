/-
  DERIVED. Several texts of ours in one: VtMcQ4.
-/
import Derived.Test.YtoomncljmgcidaaGreatVa7
set_option linter.unusedSimpArgs false
set_option linter.unusedVariables false
set_option maxHeartbeats 1000000
set_option maxRecDepth 10000
namespace Go.Proofs.YtoomncljmgcidaaGreat
open Go.Vc
attribute [local irreducible] Go.Vc.WP
attribute [local go_sem] cx0_t cx0_c
def flae84c3d838 : List Go.Vc.Fp := [⟨[6],[],[],[],[],[]⟩,⟨[88],[0],[],[],[],[]⟩,⟨[89],[0,1],[],[],[],[]⟩,⟨[90],[0,1,2],[],[],[],[]⟩,⟨[5],[],[],[],[],[]⟩,⟨[92],[4],[],[],[],[]⟩,⟨[],[0,1,2,3,4,5],[],[],[],[]⟩,⟨[],[0,1,2,3,4,5,6],[],[],[],[]⟩,⟨[],[0,1,2,3,4,5,6,7],[],[],[],[]⟩,⟨[],[0,1,2,3,4,5,6,7,8],[],[],[],[]⟩]
def flb554a583ee : List Go.Vc.Fp := [⟨[6],[],[],[],[],[]⟩,⟨[102],[0],[],[],[],[]⟩,⟨[103],[0,1],[],[],[],[]⟩,⟨[104],[0,1,2],[],[],[],[]⟩,⟨[5],[],[],[],[],[]⟩,⟨[106],[4],[],[],[],[]⟩,⟨[],[0,1,2,3,4,5],[],[],[],[]⟩,⟨[],[0,1,2,3,4,5,6],[],[],[],[]⟩,⟨[],[0,1,2,3,4,5,6,7],[],[],[],[]⟩,⟨[],[0,1,2,3,4,5,6,7,8],[],[],[],[]⟩]
def fl6dd2739aa0 : List Go.Vc.Fp := [⟨[6],[],[218],[221,222],[],[]⟩,⟨[6],[],[],[221,222],[],[]⟩,⟨[215],[1],[],[221,222],[],[]⟩,⟨[216],[1,2],[],[221,222],[],[]⟩,⟨[217],[1,2,3],[],[221,222],[],[]⟩,⟨[0],[],[],[221,222],[],[]⟩,⟨[219],[5],[],[221,222],[],[]⟩,⟨[220],[5,6],[],[222],[],[221]⟩,⟨[218,221],[1,2,3,4,5,6,7],[],[],[218],[222]⟩,⟨[],[0,1,2,3,4,5,6,7,8],[],[],[],[]⟩,⟨[],[0,1,2,3,4,5,6,7,8,9],[],[],[],[]⟩,⟨[],[0,1,2,3,4,5,6,7,8,9,10],[],[],[],[]⟩]
attribute [local go_sem] flae84c3d838 flb554a583ee fl6dd2739aa0
attribute [local go_sem] decI_enc decImage_enc spA cpu_eta bxI headsBy innersBy llX lmX St.callX St.panOf St.callLG ctrs St.isX St.stepP runS retY St.fzS addL behind ghoK St.gho St.gh SV.flat St.setO Ob.jk SV.jk
attribute [local go_sem] opA decD0 aggSp obD0 rbC kpD yen St.stepWr St.runWr isArith wrapI
section
attribute [local go_sem] cxPfI_t cxPfI_c LcxPfI
attribute [local go_sem] kPushI kLoadI kStoreI kPopI kZeroI kDropI kAppl decIm obIm
set_option maxHeartbeats 8000000 in
theorem cQf4 : Cy Tryz.prog 124 (kPerfI fun c=>c = 5 ∨ c = 6 ∨ c = 7 ∨ c = 8 ∨ c = 9) := by
 refine Cy.yen Tryz.func124 (by kernel_rfl) rfl fun x hx=>?_
 obtain ⟨⟨I,B,E⟩,⟨⟨⟨pc,sp,fp,S,O⟩,g⟩,q,v⟩,⟨code,a⟩⟩ := x
 obtain ⟨⟨h1,h2,h3,h4,h5,⟨n,h6,h7,h8,h9,h10⟩,h11,h12⟩,hp⟩ := hx
 simp only at h1 h2 h3 h4 h5 h6 h7 h8 h9 h10 h11 h12 hp ⊢
 subst h5
 have h13 : In64 sp:=by unfold In64; omega
 have h12' : -9223372036854775808 ≤ fp ∧ fp ≤ 9223372036854775807 := h12
 refine HoldsY.go (c := cxPfI) Tryz.func124 rfl Tryz.results124 Tryz.ntmps124 (by omega) (by simp) ?_ ?_ ?_
 rotate_right
 intro X0 M w0
 ·refine zP [] [(900000,800001),(900001,800002)] rfl ?_
  simp only [go_sem]
  have k0 : ¬ code = 0:=by omega
  have k1 : ¬ code = 1:=by omega
  have k3 : ¬ code = 3:=by omega
  have k2 : ¬ code = 2:=by omega
  have k4 : ¬ code = 4:=by omega
  have k10 : ¬ code = 10:=by omega
  have k11 : ¬ code = 11:=by omega
  have k12 : ¬ code = 12:=by omega
  have k13 : ¬ code = 13:=by omega
  have k15 : ¬ code = 15:=by omega
  have k14 : ¬ code = 14:=by omega
  have k16 : ¬ code = 16:=by omega
  have k17 : ¬ code = 17:=by omega
  have e : performI E ⟨code,a⟩ ⟨pc,sp,fp,S,O⟩ = pushI (popI (popI (⟨pc,sp,fp,S,O⟩,false)).2).2 (appl (code - 5 + 2) (popI (popI (⟨pc,sp,fp,S,O⟩,false)).2).1 (popI (⟨pc,sp,fp,S,O⟩,false)).1) := by
   unfold performI
   simp only [k0,k1,k3,k2,k4,k10,k11,k12,k13,k15,k14,k16,k17,if_false]
  rw [e]
  have hl1 : (popI (⟨pc,sp,fp,S,O⟩,false)).2.1.st.length = 1200:=by rw [popI_st]; exact h1
  have hs1 : In64 (popI (⟨pc,sp,fp,S,O⟩,false)).2.1.sp := popI_sp (s := (⟨pc,sp,fp,S,O⟩,false)) h13
  generalize hp1 : popI (⟨pc,sp,fp,S,O⟩,false) = r at hl1 hs1 ⊢
  obtain ⟨z,⟨rp,rs,rf,rS,rO⟩,rb⟩ := r
  simp only at hl1 hs1 ⊢
  have hl2 : (popI (⟨rp,rs,rf,rS,rO⟩,rb)).2.1.st.length = 1200:=by rw [popI_st]; exact hl1
  have hs2 : In64 (popI (⟨rp,rs,rf,rS,rO⟩,rb)).2.1.sp := popI_sp (s := (⟨rp,rs,rf,rS,rO⟩,rb)) hs1
  generalize hp2 : popI (⟨rp,rs,rf,rS,rO⟩,rb) = t at hl2 hs2 ⊢
  obtain ⟨y,⟨tp,ts,tf,tS,tO⟩,tb⟩ := t
  simp only at hl2 hs2 ⊢
  have e9 : 2 + code - 5 = code - 5 + 2:=by omega
  rcases hp with hp|hp|hp|hp|hp
  all_goals
   (subst hp
    (repeat' (first|apply zS|apply zB|((first|apply zR|apply zC|apply zT|apply zE|apply zK| refine zF 6 flae84c3d838 [88,89,90,91,92,93] [] [] (by decide +kernel) (by kernel_rfl) (by kernel_rfl) (by kernel_rfl) ?_|refine zF 6 flb554a583ee [102,103,104,105,106,107] [] [] (by decide +kernel) (by kernel_rfl) (by kernel_rfl) (by kernel_rfl) ?_|refine zF 9 fl6dd2739aa0 [214,215,216,217,218,219,220,221,222] [221,222] [218] (by decide +kernel) (by kernel_rfl) (by kernel_rfl) (by kernel_rfl) ?_|refine zD 9 (by decide +kernel) (by kernel_rfl) ?_); simp only [go_sem,hp1,hp2,e9,Int.reduceBEq,Int.reduceEq])|apply And.intro|intro _))
    all_goals first|omega|rfl|exact h1|exact hl1|exact hl2|exact hs2.1|exact hs2.2|exact ⟨hl2,hs2⟩|skip
    all_goals trace_state)
 ·rfl
 ·intro h; cases h
end
end Go.Proofs.YtoomncljmgcidaaGreat

