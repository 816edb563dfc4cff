/-
  DERIVED. Several texts of ours in one: VtMcQ7, VtMcQ8, VtMcQ9, VtMcU.
-/
import Derived.Test.YtoomncljmgcidaaGreatVa7
import Derived.Test.YtoomncljmgcidaaGreatVa8
import Derived.Test.YtoomncljmgcidaaGreatVa9
import Derived.Test.YtoomncljmgcidaaGreatVa10
import Derived.Test.YtoomncljmgcidaaGreatVa11
set_option linter.unusedSimpArgs false
set_option linter.unusedVariables false
set_option maxHeartbeats 1000000
set_option maxRecDepth 10000
namespace Go.Proofs.YtoomncljmgcidaaGreat
open Go.Vc
attribute [local irreducible] Go.Vc.WP
attribute [local go_sem] cx0_t cx0_c
def fl24a702d31b : List Go.Vc.Fp := [⟨[6],[],[],[],[],[]⟩,⟨[88],[0],[],[],[],[]⟩,⟨[89],[0,1],[],[],[],[]⟩,⟨[90],[0,1,2],[],[],[],[]⟩,⟨[5],[],[],[],[],[]⟩,⟨[92],[4],[],[],[],[]⟩,⟨[],[0,1,2,3,4,5],[],[],[],[]⟩,⟨[],[0,1,2,3,4,5,6],[],[],[],[]⟩,⟨[],[0,1,2,3,4,5,6,7],[],[],[],[]⟩,⟨[],[0,1,2,3,4,5,6,7,8],[],[],[],[]⟩]
def fl7a9da558d5 : List Go.Vc.Fp := [⟨[6],[],[],[],[],[]⟩,⟨[102],[0],[],[],[],[]⟩,⟨[103],[0,1],[],[],[],[]⟩,⟨[104],[0,1,2],[],[],[],[]⟩,⟨[5],[],[],[],[],[]⟩,⟨[106],[4],[],[],[],[]⟩,⟨[],[0,1,2,3,4,5],[],[],[],[]⟩,⟨[],[0,1,2,3,4,5,6],[],[],[],[]⟩,⟨[],[0,1,2,3,4,5,6,7],[],[],[],[]⟩,⟨[],[0,1,2,3,4,5,6,7,8],[],[],[],[]⟩]
def fla45febd8aa : List Go.Vc.Fp := [⟨[6],[],[218],[221,222],[],[]⟩,⟨[6],[],[],[221,222],[],[]⟩,⟨[215],[1],[],[221,222],[],[]⟩,⟨[216],[1,2],[],[221,222],[],[]⟩,⟨[217],[1,2,3],[],[221,222],[],[]⟩,⟨[0],[],[],[221,222],[],[]⟩,⟨[219],[5],[],[221,222],[],[]⟩,⟨[220],[5,6],[],[222],[],[221]⟩,⟨[218,221],[1,2,3,4,5,6,7],[],[],[218],[222]⟩,⟨[],[0,1,2,3,4,5,6,7,8],[],[],[],[]⟩,⟨[],[0,1,2,3,4,5,6,7,8,9],[],[],[],[]⟩,⟨[],[0,1,2,3,4,5,6,7,8,9,10],[],[],[],[]⟩]
attribute [local go_sem] fl24a702d31b fl7a9da558d5 fla45febd8aa
attribute [local go_sem] decI_enc decImage_enc spA cpu_eta bxI headsBy innersBy llX lmX St.callX St.panOf St.callLG ctrs St.isX St.stepP runS retY St.fzS addL behind ghoK St.gho St.gh SV.flat St.setO Ob.jk SV.jk
attribute [local go_sem] opA decD0 aggSp obD0 rbC kpD yen St.stepWr St.runWr isArith wrapI
section
attribute [local go_sem] cxPfI_t cxPfI_c LcxPfI
attribute [local go_sem] kPushI kLoadI kStoreI kPopI kZeroI kDropI kAppl decIm obIm
set_option maxHeartbeats 8000000 in
theorem cQf7 : Cy Tryz.prog 124 (kPerfI fun c=>c = 2 ∨ c = 4) := by
 refine Cy.yen Tryz.func124 (by kernel_rfl) rfl fun x hx=>?_
 obtain ⟨⟨I,B,E⟩,⟨⟨⟨pc,sp,fp,S,O⟩,g⟩,q,v⟩,⟨code,a⟩⟩ := x
 obtain ⟨⟨h1,h2,h3,h4,h5,⟨n,h6,h7,h8,h9,h10⟩,h11,h12⟩,hp⟩ := hx
 simp only at h1 h2 h3 h4 h5 h6 h7 h8 h9 h10 h11 h12 hp ⊢
 subst h5
 have h13 : In64 sp:=by unfold In64; omega
 have h12' : -9223372036854775808 ≤ fp ∧ fp ≤ 9223372036854775807 := h12
 refine HoldsY.go (c := cxPfI) Tryz.func124 rfl Tryz.results124 Tryz.ntmps124 (by omega) (by simp) ?_ ?_ ?_
 rotate_right
 intro X0 M w0
 ·refine zP [] [(900000,800001),(900001,800002)] rfl ?_
  simp only [go_sem]
  by_cases k2 : code = 2
  ·subst k2
   obtain ⟨ha0,ha1⟩ := h8 (by omega)
   have e : performI E ⟨2,a⟩ ⟨pc,sp,fp,S,O⟩ = storeI (⟨pc,sp,fp,S,O⟩,false) (w64 (fp + a)) := rfl
   rw [e]
   (repeat' (first|apply zS|apply zB|((first|refine WP.stagesW (id := 10) (.call ⟨[],[0,1,2,3,4,5,6,7],[],8⟩ (.last ⟨[],[],[],0⟩)) (by decide +kernel) (by decide +kernel) (by kernel_rfl) ?_); simp only [go_sem,w64,Int.reduceBEq,Int.reduceEq])|((first|apply zR|apply zC|apply zT|apply zE|apply zK| refine zF 6 fl24a702d31b [88,89,90,91,92,93] [] [] (by decide +kernel) (by kernel_rfl) (by kernel_rfl) (by kernel_rfl) ?_|refine zF 6 fl7a9da558d5 [102,103,104,105,106,107] [] [] (by decide +kernel) (by kernel_rfl) (by kernel_rfl) (by kernel_rfl) ?_|refine zF 9 fla45febd8aa [214,215,216,217,218,219,220,221,222] [221,222] [218] (by decide +kernel) (by kernel_rfl) (by kernel_rfl) (by kernel_rfl) ?_|refine zD 9 (by decide +kernel) (by kernel_rfl) ?_); simp only [go_sem,w64,Int.reduceBEq,Int.reduceEq])|apply And.intro|intro _))
   all_goals first|omega|rfl|exact h1|exact ⟨h1,h13⟩|skip
  by_cases k4 : code = 4
  ·subst k4
   obtain ⟨ha0,ha1⟩ := h8 (by omega)
   have e : performI E ⟨4,a⟩ ⟨pc,sp,fp,S,O⟩ = storeI (⟨pc,sp,fp,S,O⟩,false) (sp + a) := rfl
   rw [e]
   (repeat' (first|apply zS|apply zB|((first|refine WP.stages (id := 12) (.call ⟨[],[0,1,2,3,4,5,6,7],[],8⟩ (.last ⟨[],[],[],0⟩)) (by decide +kernel) (by decide +kernel) (by kernel_rfl) ?_); simp only [go_sem,Int.reduceBEq,Int.reduceEq])|((first|apply zR|apply zC|apply zT|apply zE|apply zK| refine zF 6 fl24a702d31b [88,89,90,91,92,93] [] [] (by decide +kernel) (by kernel_rfl) (by kernel_rfl) (by kernel_rfl) ?_|refine zF 6 fl7a9da558d5 [102,103,104,105,106,107] [] [] (by decide +kernel) (by kernel_rfl) (by kernel_rfl) (by kernel_rfl) ?_|refine zF 9 fla45febd8aa [214,215,216,217,218,219,220,221,222] [221,222] [218] (by decide +kernel) (by kernel_rfl) (by kernel_rfl) (by kernel_rfl) ?_|refine zD 9 (by decide +kernel) (by kernel_rfl) ?_); simp only [go_sem,Int.reduceBEq,Int.reduceEq])|apply And.intro|intro _))
   all_goals first|omega|rfl|exact h1|exact ⟨h1,h13⟩|skip
  omega
 ·rfl
 ·intro h; cases h
end
end Go.Proofs.YtoomncljmgcidaaGreat

namespace Go.Proofs.YtoomncljmgcidaaGreat
open Go.Vc
attribute [local irreducible] Go.Vc.WP
attribute [local go_sem] cx0_t cx0_c
def fl305abee62d : List Go.Vc.Fp := [⟨[6],[],[],[],[],[]⟩,⟨[88],[0],[],[],[],[]⟩,⟨[89],[0,1],[],[],[],[]⟩,⟨[90],[0,1,2],[],[],[],[]⟩,⟨[5],[],[],[],[],[]⟩,⟨[92],[4],[],[],[],[]⟩,⟨[],[0,1,2,3,4,5],[],[],[],[]⟩,⟨[],[0,1,2,3,4,5,6],[],[],[],[]⟩,⟨[],[0,1,2,3,4,5,6,7],[],[],[],[]⟩,⟨[],[0,1,2,3,4,5,6,7,8],[],[],[],[]⟩]
def fl7e0ab368a9 : List Go.Vc.Fp := [⟨[6],[],[],[],[],[]⟩,⟨[102],[0],[],[],[],[]⟩,⟨[103],[0,1],[],[],[],[]⟩,⟨[104],[0,1,2],[],[],[],[]⟩,⟨[5],[],[],[],[],[]⟩,⟨[106],[4],[],[],[],[]⟩,⟨[],[0,1,2,3,4,5],[],[],[],[]⟩,⟨[],[0,1,2,3,4,5,6],[],[],[],[]⟩,⟨[],[0,1,2,3,4,5,6,7],[],[],[],[]⟩,⟨[],[0,1,2,3,4,5,6,7,8],[],[],[],[]⟩]
def flb9b3ecfb53 : List Go.Vc.Fp := [⟨[6],[],[218],[221,222],[],[]⟩,⟨[6],[],[],[221,222],[],[]⟩,⟨[215],[1],[],[221,222],[],[]⟩,⟨[216],[1,2],[],[221,222],[],[]⟩,⟨[217],[1,2,3],[],[221,222],[],[]⟩,⟨[0],[],[],[221,222],[],[]⟩,⟨[219],[5],[],[221,222],[],[]⟩,⟨[220],[5,6],[],[222],[],[221]⟩,⟨[218,221],[1,2,3,4,5,6,7],[],[],[218],[222]⟩,⟨[],[0,1,2,3,4,5,6,7,8],[],[],[],[]⟩,⟨[],[0,1,2,3,4,5,6,7,8,9],[],[],[],[]⟩,⟨[],[0,1,2,3,4,5,6,7,8,9,10],[],[],[],[]⟩]
attribute [local go_sem] fl305abee62d fl7e0ab368a9 flb9b3ecfb53
attribute [local go_sem] decI_enc decImage_enc spA cpu_eta bxI headsBy innersBy llX lmX St.callX St.panOf St.callLG ctrs St.isX St.stepP runS retY St.fzS addL behind ghoK St.gho St.gh SV.flat St.setO Ob.jk SV.jk
attribute [local go_sem] opA decD0 aggSp obD0 rbC kpD yen St.stepWr St.runWr isArith wrapI
section
attribute [local go_sem] cxPfI_t cxPfI_c LcxPfI
attribute [local go_sem] kPushI kLoadI kStoreI kPopI kZeroI kDropI kAppl decIm obIm
set_option maxHeartbeats 8000000 in
theorem cQf8 : Cy Tryz.prog 124 (kPerfI fun c=>c = 15) := by
 refine Cy.yen Tryz.func124 (by kernel_rfl) rfl fun x hx=>?_
 obtain ⟨⟨I,B,E⟩,⟨⟨⟨pc,sp,fp,S,O⟩,g⟩,q,v⟩,⟨code,a⟩⟩ := x
 obtain ⟨⟨h1,h2,h3,h4,h5,⟨n,h6,h7,h8,h9,h10⟩,h11,h12⟩,hp⟩ := hx
 simp only at h1 h2 h3 h4 h5 h6 h7 h8 h9 h10 h11 h12 hp ⊢
 subst h5
 have h13 : In64 sp:=by unfold In64; omega
 have h12' : -9223372036854775808 ≤ fp ∧ fp ≤ 9223372036854775807 := h12
 refine HoldsY.go (c := cxPfI) Tryz.func124 rfl Tryz.results124 Tryz.ntmps124 (by omega) (by simp) ?_ ?_ ?_
 rotate_right
 intro X0 M w0
 ·refine zP [] [(900000,800001),(900001,800002)] rfl ?_
  simp only [go_sem]
  subst hp
  obtain ⟨ha0,ha1⟩ := h9 (by omega)
  have e : performI E ⟨15,a⟩ ⟨pc,sp,fp,S,O⟩ = zerosI (⟨pc,sp,fp,S,O⟩,false) a.toNat := rfl
  rw [e]
  (repeat' (first|apply zS|apply zB|((first|apply zR|apply zC|apply zT|apply zE|apply zK| refine zF 6 fl305abee62d [88,89,90,91,92,93] [] [] (by decide +kernel) (by kernel_rfl) (by kernel_rfl) (by kernel_rfl) ?_|refine zF 6 fl7e0ab368a9 [102,103,104,105,106,107] [] [] (by decide +kernel) (by kernel_rfl) (by kernel_rfl) (by kernel_rfl) ?_|refine zF 9 flb9b3ecfb53 [214,215,216,217,218,219,220,221,222] [221,222] [218] (by decide +kernel) (by kernel_rfl) (by kernel_rfl) (by kernel_rfl) ?_|refine zD 9 (by decide +kernel) (by kernel_rfl) ?_); simp only [go_sem,Int.reduceBEq,Int.reduceEq])|apply And.intro|intro _))
  all_goals first|omega|rfl|exact h1|exact ⟨h1,h13,by omega⟩|skip
 ·rfl
 ·intro h; cases h
end
end Go.Proofs.YtoomncljmgcidaaGreat

namespace Go.Proofs.YtoomncljmgcidaaGreat
open Go.Vc
attribute [local irreducible] Go.Vc.WP
attribute [local go_sem] cx0_t cx0_c
def fl8e14e2b13b : List Go.Vc.Fp := [⟨[6],[],[],[],[],[]⟩,⟨[88],[0],[],[],[],[]⟩,⟨[89],[0,1],[],[],[],[]⟩,⟨[90],[0,1,2],[],[],[],[]⟩,⟨[5],[],[],[],[],[]⟩,⟨[92],[4],[],[],[],[]⟩,⟨[],[0,1,2,3,4,5],[],[],[],[]⟩,⟨[],[0,1,2,3,4,5,6],[],[],[],[]⟩,⟨[],[0,1,2,3,4,5,6,7],[],[],[],[]⟩,⟨[],[0,1,2,3,4,5,6,7,8],[],[],[],[]⟩]
def flf7ce1ddd28 : List Go.Vc.Fp := [⟨[6],[],[],[],[],[]⟩,⟨[102],[0],[],[],[],[]⟩,⟨[103],[0,1],[],[],[],[]⟩,⟨[104],[0,1,2],[],[],[],[]⟩,⟨[5],[],[],[],[],[]⟩,⟨[106],[4],[],[],[],[]⟩,⟨[],[0,1,2,3,4,5],[],[],[],[]⟩,⟨[],[0,1,2,3,4,5,6],[],[],[],[]⟩,⟨[],[0,1,2,3,4,5,6,7],[],[],[],[]⟩,⟨[],[0,1,2,3,4,5,6,7,8],[],[],[],[]⟩]
def fl73ca85555f : List Go.Vc.Fp := [⟨[6],[],[218],[221,222],[],[]⟩,⟨[6],[],[],[221,222],[],[]⟩,⟨[215],[1],[],[221,222],[],[]⟩,⟨[216],[1,2],[],[221,222],[],[]⟩,⟨[217],[1,2,3],[],[221,222],[],[]⟩,⟨[0],[],[],[221,222],[],[]⟩,⟨[219],[5],[],[221,222],[],[]⟩,⟨[220],[5,6],[],[222],[],[221]⟩,⟨[218,221],[1,2,3,4,5,6,7],[],[],[218],[222]⟩,⟨[],[0,1,2,3,4,5,6,7,8],[],[],[],[]⟩,⟨[],[0,1,2,3,4,5,6,7,8,9],[],[],[],[]⟩,⟨[],[0,1,2,3,4,5,6,7,8,9,10],[],[],[],[]⟩]
attribute [local go_sem] fl8e14e2b13b flf7ce1ddd28 fl73ca85555f
attribute [local go_sem] decI_enc decImage_enc spA cpu_eta bxI headsBy innersBy llX lmX St.callX St.panOf St.callLG ctrs St.isX St.stepP runS retY St.fzS addL behind ghoK St.gho St.gh SV.flat St.setO Ob.jk SV.jk
attribute [local go_sem] opA decD0 aggSp obD0 rbC kpD yen St.stepWr St.runWr isArith wrapI
section
attribute [local go_sem] cxPfI_t cxPfI_c LcxPfI
attribute [local go_sem] kPushI kLoadI kStoreI kPopI kZeroI kDropI kAppl decIm obIm
set_option maxHeartbeats 8000000 in
theorem cQf9 : Cy Tryz.prog 124 (kPerfI fun c=>c = 17) := by
 refine Cy.yen Tryz.func124 (by kernel_rfl) rfl fun x hx=>?_
 obtain ⟨⟨I,B,E⟩,⟨⟨⟨pc,sp,fp,S,O⟩,g⟩,q,v⟩,⟨code,a⟩⟩ := x
 obtain ⟨⟨h1,h2,h3,h4,h5,⟨n,h6,h7,h8,h9,h10⟩,h11,h12⟩,hp⟩ := hx
 simp only at h1 h2 h3 h4 h5 h6 h7 h8 h9 h10 h11 h12 hp ⊢
 subst h5
 have h13 : In64 sp:=by unfold In64; omega
 have h12' : -9223372036854775808 ≤ fp ∧ fp ≤ 9223372036854775807 := h12
 refine HoldsY.go (c := cxPfI) Tryz.func124 rfl Tryz.results124 Tryz.ntmps124 (by omega) (by simp) ?_ ?_ ?_
 rotate_right
 intro X0 M w0
 ·refine zP [] [(900000,800001),(900001,800002)] rfl ?_
  simp only [go_sem]
  subst hp
  have e : performI E ⟨17,a⟩ ⟨pc,sp,fp,S,O⟩ = addOut (popI (⟨pc,sp,fp,S,O⟩,false)).2 (popI (⟨pc,sp,fp,S,O⟩,false)).1 := rfl
  rw [e]
  have hl1 : (popI (⟨pc,sp,fp,S,O⟩,false)).2.1.st.length = 1200:=by rw [popI_st]; exact h1
  have hl2 : (popI (⟨pc,sp,fp,S,O⟩,false)).2.1.out = O:=by unfold popI; split <;> rfl
  generalize hp1 : popI (⟨pc,sp,fp,S,O⟩,false) = r at hl1 hl2 ⊢
  obtain ⟨z,⟨rp,rs,rf,rS,rO⟩,rb⟩ := r
  simp only [addOut] at hl1 hl2 ⊢
  subst hl2
  (repeat' (first|apply zS|apply zB|((first|refine WP.stages (id := 51) (.fork ⟨[],[0,1,2,3,4,5],[(0,6),(1,6),(2,6),(3,6)],6⟩ 4 (.call ⟨[0,1,2,3],[],[(0,6),(1,6),(2,6),(3,6)],7⟩ (.call ⟨[0,1,2,3],[],[(0,6)],8⟩ (.call ⟨[0],[9,10],[],11⟩ (.last ⟨[],[],[],0⟩)))) (.fork ⟨[0,1,2,3],[4],[(0,6),(1,6),(2,6),(3,6)],7⟩ 4 (.call ⟨[0,1,2,3],[],[(0,6)],8⟩ (.call ⟨[0],[9,10],[],11⟩ (.last ⟨[],[],[],0⟩))) (.call ⟨[0,1,2,3],[4],[(0,6)],8⟩ (.call ⟨[0],[9,10],[],11⟩ (.last ⟨[],[],[],0⟩))))) (by decide +kernel) (by decide +kernel) (by kernel_rfl) ?_); simp only [go_sem,hp1,addOut,Int.reduceBEq,Int.reduceEq])|((first|apply zR|apply zC|apply zT|apply zE|apply zK| refine zF 6 fl8e14e2b13b [88,89,90,91,92,93] [] [] (by decide +kernel) (by kernel_rfl) (by kernel_rfl) (by kernel_rfl) ?_|refine zF 6 flf7ce1ddd28 [102,103,104,105,106,107] [] [] (by decide +kernel) (by kernel_rfl) (by kernel_rfl) (by kernel_rfl) ?_|refine zF 9 fl73ca85555f [214,215,216,217,218,219,220,221,222] [221,222] [218] (by decide +kernel) (by kernel_rfl) (by kernel_rfl) (by kernel_rfl) ?_|refine zD 9 (by decide +kernel) (by kernel_rfl) ?_); simp only [go_sem,hp1,addOut,Int.reduceBEq,Int.reduceEq])|apply And.intro|intro _))
  all_goals first|omega|rfl|exact h1|exact hl1|(rw [List.map_append]; rfl)|skip
 ·rfl
 ·intro h; cases h
end
end Go.Proofs.YtoomncljmgcidaaGreat

namespace Go.Proofs.YtoomncljmgcidaaGreat
open Go.Vc
attribute [local irreducible] Go.Vc.WP
attribute [local go_sem] cx0_t cx0_c
theorem cPerfI : Cy Tryz.prog 124 (kPerfI fun _=>True) := by
 have h := (Cy.codesI (Cy.codesI (Cy.codesI (Cy.codesI (Cy.codesI (Cy.codesI (Cy.codesI (Cy.codesI cQf1 cQf2) cQf3) cQf4) cQf5) cQf6) cQf7) cQf8) cQf9)
 refine ⟨h.call,fun d args obs ha=>?_⟩
 obtain ⟨a1,a2,a3,_⟩ := ha
 exact h.holds d args obs ⟨a1,a2,a3,by obtain ⟨n,hn⟩ := a3.op; have h0 := hn.code; dsimp only at h0 ⊢; omega⟩
end Go.Proofs.YtoomncljmgcidaaGreat

