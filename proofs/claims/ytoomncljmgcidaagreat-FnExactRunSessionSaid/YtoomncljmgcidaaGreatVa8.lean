/-
  DERIVED. Several texts of ours in one: VtMcQ2.
-/
import Derived.Test.YtoomncljmgcidaaGreatVa7
set_option linter.unusedSimpArgs false
set_option linter.unusedVariables false
set_option maxHeartbeats 1000000
set_option maxRecDepth 10000
namespace Go.Proofs.YtoomncljmgcidaaGreat
open Go.Vc
attribute [local irreducible] Go.Vc.WP
attribute [local go_sem] cx0_t cx0_c
def fl978d1ea197 : List Go.Vc.Fp := [⟨[6],[],[],[],[],[]⟩,⟨[88],[0],[],[],[],[]⟩,⟨[89],[0,1],[],[],[],[]⟩,⟨[90],[0,1,2],[],[],[],[]⟩,⟨[5],[],[],[],[],[]⟩,⟨[92],[4],[],[],[],[]⟩,⟨[],[0,1,2,3,4,5],[],[],[],[]⟩,⟨[],[0,1,2,3,4,5,6],[],[],[],[]⟩,⟨[],[0,1,2,3,4,5,6,7],[],[],[],[]⟩,⟨[],[0,1,2,3,4,5,6,7,8],[],[],[],[]⟩]
def fld38a4a439f : List Go.Vc.Fp := [⟨[6],[],[],[],[],[]⟩,⟨[102],[0],[],[],[],[]⟩,⟨[103],[0,1],[],[],[],[]⟩,⟨[104],[0,1,2],[],[],[],[]⟩,⟨[5],[],[],[],[],[]⟩,⟨[106],[4],[],[],[],[]⟩,⟨[],[0,1,2,3,4,5],[],[],[],[]⟩,⟨[],[0,1,2,3,4,5,6],[],[],[],[]⟩,⟨[],[0,1,2,3,4,5,6,7],[],[],[],[]⟩,⟨[],[0,1,2,3,4,5,6,7,8],[],[],[],[]⟩]
def flf05e2480e8 : List Go.Vc.Fp := [⟨[6],[],[218],[221,222],[],[]⟩,⟨[6],[],[],[221,222],[],[]⟩,⟨[215],[1],[],[221,222],[],[]⟩,⟨[216],[1,2],[],[221,222],[],[]⟩,⟨[217],[1,2,3],[],[221,222],[],[]⟩,⟨[0],[],[],[221,222],[],[]⟩,⟨[219],[5],[],[221,222],[],[]⟩,⟨[220],[5,6],[],[222],[],[221]⟩,⟨[218,221],[1,2,3,4,5,6,7],[],[],[218],[222]⟩,⟨[],[0,1,2,3,4,5,6,7,8],[],[],[],[]⟩,⟨[],[0,1,2,3,4,5,6,7,8,9],[],[],[],[]⟩,⟨[],[0,1,2,3,4,5,6,7,8,9,10],[],[],[],[]⟩]
attribute [local go_sem] fl978d1ea197 fld38a4a439f flf05e2480e8
attribute [local go_sem] decI_enc decImage_enc spA cpu_eta bxI headsBy innersBy llX lmX St.callX St.panOf St.callLG ctrs St.isX St.stepP runS retY St.fzS addL behind ghoK St.gho St.gh SV.flat St.setO Ob.jk SV.jk
attribute [local go_sem] opA decD0 aggSp obD0 rbC kpD yen St.stepWr St.runWr isArith wrapI
section
attribute [local go_sem] cxPfI_t cxPfI_c LcxPfI
attribute [local go_sem] kPushI kLoadI kStoreI kPopI kZeroI kDropI kAppl decIm obIm
set_option maxHeartbeats 8000000 in
theorem cQf2 : Cy Tryz.prog 124 (kPerfI fun c=>c = 10 ∨ c = 12) := by
 refine Cy.yen Tryz.func124 (by kernel_rfl) rfl fun x hx=>?_
 obtain ⟨⟨I,B,E⟩,⟨⟨⟨pc,sp,fp,S,O⟩,g⟩,q,v⟩,⟨code,a⟩⟩ := x
 obtain ⟨⟨h1,h2,h3,h4,h5,⟨n,h6,h7,h8,h9,h10⟩,h11,h12⟩,hp⟩ := hx
 simp only at h1 h2 h3 h4 h5 h6 h7 h8 h9 h10 h11 h12 hp ⊢
 subst h5
 have h13 : In64 sp:=by unfold In64; omega
 have h12' : -9223372036854775808 ≤ fp ∧ fp ≤ 9223372036854775807 := h12
 refine HoldsY.go (c := cxPfI) Tryz.func124 rfl Tryz.results124 Tryz.ntmps124 (by omega) (by simp) ?_ ?_ ?_
 rotate_right
 intro X0 M w0
 ·refine zP [] [(900000,800001),(900001,800002)] rfl ?_
  simp only [go_sem]
  by_cases k10 : code = 10
  ·subst k10
   obtain ⟨ha0,ha1⟩ := h8 (by omega)
   have e : performI E ⟨10,a⟩ ⟨pc,sp,fp,S,O⟩ = (⟨pc + a,sp,fp,S,O⟩,false) := rfl
   rw [e]
   (repeat' (first|apply zS|apply zB|((first|apply zR|apply zC|apply zT|apply zE|apply zK| refine zF 6 fl978d1ea197 [88,89,90,91,92,93] [] [] (by decide +kernel) (by kernel_rfl) (by kernel_rfl) (by kernel_rfl) ?_|refine zF 6 fld38a4a439f [102,103,104,105,106,107] [] [] (by decide +kernel) (by kernel_rfl) (by kernel_rfl) (by kernel_rfl) ?_|refine zF 9 flf05e2480e8 [214,215,216,217,218,219,220,221,222] [221,222] [218] (by decide +kernel) (by kernel_rfl) (by kernel_rfl) (by kernel_rfl) ?_|refine zD 9 (by decide +kernel) (by kernel_rfl) ?_); simp only [go_sem,Int.reduceBEq,Int.reduceEq])|apply And.intro|intro _))
   all_goals first|omega|rfl|exact h1|exact ⟨h1,h13⟩|skip
  by_cases k12 : code = 12
  ·subst k12
   obtain ⟨ha0,ha1⟩ := h9 (by omega)
   have e : performI E ⟨12,a⟩ ⟨pc,sp,fp,S,O⟩ = if a < (E.length : Int) then setPc (pushI (⟨pc,sp,fp,S,O⟩,false) (pc)) (E.getD a.toNat 0) else ((pushI (⟨pc,sp,fp,S,O⟩,false) (pc)).1,true) := rfl
   rw [e]
   generalize hp : pushI (⟨pc,sp,fp,S,O⟩,false) (pc) = r
   obtain ⟨⟨rp,rs,rf,rS,rO⟩,rb⟩ := r
   by_cases hl : a < (E.length : Int)
   ·rw [if_pos hl]
    obtain ⟨k,rfl⟩ : ∃ k : Nat,a = k := ⟨a.toNat,by omega⟩
    have hk : k < E.length:=by omega
    have hr := rowAt_map encI E k hk
    rw [Int.toNat_natCast,getD_at hk]
    (repeat' (first|apply zS|apply zB|((first|apply zR|apply zC|apply zT|apply zE|apply zK| refine zF 6 fl978d1ea197 [88,89,90,91,92,93] [] [] (by decide +kernel) (by kernel_rfl) (by kernel_rfl) (by kernel_rfl) ?_|refine zF 6 fld38a4a439f [102,103,104,105,106,107] [] [] (by decide +kernel) (by kernel_rfl) (by kernel_rfl) (by kernel_rfl) ?_|refine zF 9 flf05e2480e8 [214,215,216,217,218,219,220,221,222] [221,222] [218] (by decide +kernel) (by kernel_rfl) (by kernel_rfl) (by kernel_rfl) ?_|refine zD 9 (by decide +kernel) (by kernel_rfl) ?_); simp only [go_sem,hl,hr,encI,setPc,hp,Int.reduceBEq,Int.reduceEq])|apply And.intro|intro _))
    all_goals first|omega|rfl|exact h1|exact ⟨h1,h13⟩|skip
   ·rw [if_neg hl]
    (repeat' (first|apply zS|apply zB|((first|apply zR|apply zC|apply zT|apply zE|apply zK| refine zF 6 fl978d1ea197 [88,89,90,91,92,93] [] [] (by decide +kernel) (by kernel_rfl) (by kernel_rfl) (by kernel_rfl) ?_|refine zF 6 fld38a4a439f [102,103,104,105,106,107] [] [] (by decide +kernel) (by kernel_rfl) (by kernel_rfl) (by kernel_rfl) ?_|refine zF 9 flf05e2480e8 [214,215,216,217,218,219,220,221,222] [221,222] [218] (by decide +kernel) (by kernel_rfl) (by kernel_rfl) (by kernel_rfl) ?_|refine zD 9 (by decide +kernel) (by kernel_rfl) ?_); simp only [go_sem,hl,hp,Int.reduceBEq,Int.reduceEq])|apply And.intro|intro _))
    all_goals first|omega|rfl|exact h1|exact ⟨h1,h13⟩|skip
  omega
 ·rfl
 ·intro h; cases h
end
end Go.Proofs.YtoomncljmgcidaaGreat

