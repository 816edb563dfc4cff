/-
  DERIVED. Several texts of ours in one: VtMcQ3.
-/
import Derived.Test.YtoomncljmgcidaaGreatVa7
set_option linter.unusedSimpArgs false
set_option linter.unusedVariables false
set_option maxHeartbeats 1000000
set_option maxRecDepth 10000
namespace Go.Proofs.YtoomncljmgcidaaGreat
open Go.Vc
attribute [local irreducible] Go.Vc.WP
attribute [local go_sem] cx0_t cx0_c
def fl0ea49f2872 : List Go.Vc.Fp := [⟨[6],[],[],[],[],[]⟩,⟨[88],[0],[],[],[],[]⟩,⟨[89],[0,1],[],[],[],[]⟩,⟨[90],[0,1,2],[],[],[],[]⟩,⟨[5],[],[],[],[],[]⟩,⟨[92],[4],[],[],[],[]⟩,⟨[],[0,1,2,3,4,5],[],[],[],[]⟩,⟨[],[0,1,2,3,4,5,6],[],[],[],[]⟩,⟨[],[0,1,2,3,4,5,6,7],[],[],[],[]⟩,⟨[],[0,1,2,3,4,5,6,7,8],[],[],[],[]⟩]
def fle7f56a7be2 : List Go.Vc.Fp := [⟨[6],[],[],[],[],[]⟩,⟨[102],[0],[],[],[],[]⟩,⟨[103],[0,1],[],[],[],[]⟩,⟨[104],[0,1,2],[],[],[],[]⟩,⟨[5],[],[],[],[],[]⟩,⟨[106],[4],[],[],[],[]⟩,⟨[],[0,1,2,3,4,5],[],[],[],[]⟩,⟨[],[0,1,2,3,4,5,6],[],[],[],[]⟩,⟨[],[0,1,2,3,4,5,6,7],[],[],[],[]⟩,⟨[],[0,1,2,3,4,5,6,7,8],[],[],[],[]⟩]
def fle5075a5ba2 : List Go.Vc.Fp := [⟨[6],[],[218],[221,222],[],[]⟩,⟨[6],[],[],[221,222],[],[]⟩,⟨[215],[1],[],[221,222],[],[]⟩,⟨[216],[1,2],[],[221,222],[],[]⟩,⟨[217],[1,2,3],[],[221,222],[],[]⟩,⟨[0],[],[],[221,222],[],[]⟩,⟨[219],[5],[],[221,222],[],[]⟩,⟨[220],[5,6],[],[222],[],[221]⟩,⟨[218,221],[1,2,3,4,5,6,7],[],[],[218],[222]⟩,⟨[],[0,1,2,3,4,5,6,7,8],[],[],[],[]⟩,⟨[],[0,1,2,3,4,5,6,7,8,9],[],[],[],[]⟩,⟨[],[0,1,2,3,4,5,6,7,8,9,10],[],[],[],[]⟩]
attribute [local go_sem] fl0ea49f2872 fle7f56a7be2 fle5075a5ba2
attribute [local go_sem] decI_enc decImage_enc spA cpu_eta bxI headsBy innersBy llX lmX St.callX St.panOf St.callLG ctrs St.isX St.stepP runS retY St.fzS addL behind ghoK St.gho St.gh SV.flat St.setO Ob.jk SV.jk
attribute [local go_sem] opA decD0 aggSp obD0 rbC kpD yen St.stepWr St.runWr isArith wrapI
section
attribute [local go_sem] cxPfI_t cxPfI_c LcxPfI
attribute [local go_sem] kPushI kLoadI kStoreI kPopI kZeroI kDropI kAppl decIm obIm
set_option maxHeartbeats 8000000 in
theorem cQf3 : Cy Tryz.prog 124 (kPerfI fun c=>c = 13 ∨ c = 11) := by
 refine Cy.yen Tryz.func124 (by kernel_rfl) rfl fun x hx=>?_
 obtain ⟨⟨I,B,E⟩,⟨⟨⟨pc,sp,fp,S,O⟩,g⟩,q,v⟩,⟨code,a⟩⟩ := x
 obtain ⟨⟨h1,h2,h3,h4,h5,⟨n,h6,h7,h8,h9,h10⟩,h11,h12⟩,hp⟩ := hx
 simp only at h1 h2 h3 h4 h5 h6 h7 h8 h9 h10 h11 h12 hp ⊢
 subst h5
 have h13 : In64 sp:=by unfold In64; omega
 have h12' : -9223372036854775808 ≤ fp ∧ fp ≤ 9223372036854775807 := h12
 refine HoldsY.go (c := cxPfI) Tryz.func124 rfl Tryz.results124 Tryz.ntmps124 (by omega) (by simp) ?_ ?_ ?_
 rotate_right
 intro X0 M w0
 ·refine zP [] [(900000,800001),(900001,800002)] rfl ?_
  simp only [go_sem]
  by_cases k13 : code = 13
  ·subst k13
   obtain ⟨ha0,ha1⟩ := h9 (by omega)
   have e : performI E ⟨13,a⟩ ⟨pc,sp,fp,S,O⟩ = zerosI (setFp (pushI (⟨pc,sp,fp,S,O⟩,false) fp) (pushI (⟨pc,sp,fp,S,O⟩,false) fp).1.sp) a.toNat := rfl
   rw [e]
   have hl : (pushI (⟨pc,sp,fp,S,O⟩,false) fp).1.st.length = 1200:=by rw [pushI_len]; exact h1
   have hs : In64 (pushI (⟨pc,sp,fp,S,O⟩,false) fp).1.sp := pushI_sp (s := (⟨pc,sp,fp,S,O⟩,false)) h13 fp
   generalize hp : pushI (⟨pc,sp,fp,S,O⟩,false) fp = r at hl hs ⊢
   obtain ⟨⟨rp,rs,rf,rS,rO⟩,rb⟩ := r
   simp only [setFp] at hl hs ⊢
   (repeat' (first|apply zS|apply zB|((first|apply zR|apply zC|apply zT|apply zE|apply zK| refine zF 6 fl0ea49f2872 [88,89,90,91,92,93] [] [] (by decide +kernel) (by kernel_rfl) (by kernel_rfl) (by kernel_rfl) ?_|refine zF 6 fle7f56a7be2 [102,103,104,105,106,107] [] [] (by decide +kernel) (by kernel_rfl) (by kernel_rfl) (by kernel_rfl) ?_|refine zF 9 fle5075a5ba2 [214,215,216,217,218,219,220,221,222] [221,222] [218] (by decide +kernel) (by kernel_rfl) (by kernel_rfl) (by kernel_rfl) ?_|refine zD 9 (by decide +kernel) (by kernel_rfl) ?_); simp only [go_sem,hp,Int.reduceBEq,Int.reduceEq])|apply And.intro|intro _))
   all_goals first|omega|rfl|exact h1|exact ⟨h1,h13⟩|exact hl|exact hs.1|exact hs.2|exact ⟨hl,hs,by omega⟩|skip
  by_cases k11 : code = 11
  ·subst k11
   obtain ⟨ha0,ha1⟩ := h8 (by omega)
   have e : performI E ⟨11,a⟩ ⟨pc,sp,fp,S,O⟩ = (if (popI (⟨pc,sp,fp,S,O⟩,false)).1 = 0 then setPc (popI (⟨pc,sp,fp,S,O⟩,false)).2 ((popI (⟨pc,sp,fp,S,O⟩,false)).2.1.pc + a) else (popI (⟨pc,sp,fp,S,O⟩,false)).2) := rfl
   rw [e]
   have hpc : (popI (⟨pc,sp,fp,S,O⟩,false)).2.1.pc = pc := by
    unfold popI
    split <;> rfl
   generalize hp : popI (⟨pc,sp,fp,S,O⟩,false) = r at hpc ⊢
   obtain ⟨z,⟨rp,rs,rf,rS,rO⟩,rb⟩ := r
   simp only at hpc ⊢
   subst hpc
   by_cases hz : z = 0
   ·rw [if_pos hz]
    (repeat' (first|apply zS|apply zB|((first|apply zR|apply zC|apply zT|apply zE|apply zK| refine zF 6 fl0ea49f2872 [88,89,90,91,92,93] [] [] (by decide +kernel) (by kernel_rfl) (by kernel_rfl) (by kernel_rfl) ?_|refine zF 6 fle7f56a7be2 [102,103,104,105,106,107] [] [] (by decide +kernel) (by kernel_rfl) (by kernel_rfl) (by kernel_rfl) ?_|refine zF 9 fle5075a5ba2 [214,215,216,217,218,219,220,221,222] [221,222] [218] (by decide +kernel) (by kernel_rfl) (by kernel_rfl) (by kernel_rfl) ?_|refine zD 9 (by decide +kernel) (by kernel_rfl) ?_); simp only [go_sem,hp,hz,setPc,Int.reduceBEq,Int.reduceEq])|apply And.intro|intro _))
    all_goals first|omega|rfl|exact h1|exact ⟨h1,h13⟩|skip
   ·rw [if_neg hz]
    (repeat' (first|apply zS|apply zB|((first|apply zR|apply zC|apply zT|apply zE|apply zK| refine zF 6 fl0ea49f2872 [88,89,90,91,92,93] [] [] (by decide +kernel) (by kernel_rfl) (by kernel_rfl) (by kernel_rfl) ?_|refine zF 6 fle7f56a7be2 [102,103,104,105,106,107] [] [] (by decide +kernel) (by kernel_rfl) (by kernel_rfl) (by kernel_rfl) ?_|refine zF 9 fle5075a5ba2 [214,215,216,217,218,219,220,221,222] [221,222] [218] (by decide +kernel) (by kernel_rfl) (by kernel_rfl) (by kernel_rfl) ?_|refine zD 9 (by decide +kernel) (by kernel_rfl) ?_); simp only [go_sem,hp,hz,Int.reduceBEq,Int.reduceEq])|apply And.intro|intro _))
    all_goals first|omega|rfl|exact h1|exact ⟨h1,h13⟩|skip
  omega
 ·rfl
 ·intro h; cases h
end
end Go.Proofs.YtoomncljmgcidaaGreat

