/-
  DERIVED. Several texts of ours in one: VtMcQ5, VtMcQ6.
-/
import Derived.Test.YtoomncljmgcidaaGreatVa7
set_option linter.unusedSimpArgs false
set_option linter.unusedVariables false
set_option maxHeartbeats 1000000
set_option maxRecDepth 10000
namespace Go.Proofs.YtoomncljmgcidaaGreat
open Go.Vc
attribute [local irreducible] Go.Vc.WP
attribute [local go_sem] cx0_t cx0_c
def flc81b1fcee4 : List Go.Vc.Fp := [⟨[6],[],[],[],[],[]⟩,⟨[88],[0],[],[],[],[]⟩,⟨[89],[0,1],[],[],[],[]⟩,⟨[90],[0,1,2],[],[],[],[]⟩,⟨[5],[],[],[],[],[]⟩,⟨[92],[4],[],[],[],[]⟩,⟨[],[0,1,2,3,4,5],[],[],[],[]⟩,⟨[],[0,1,2,3,4,5,6],[],[],[],[]⟩,⟨[],[0,1,2,3,4,5,6,7],[],[],[],[]⟩,⟨[],[0,1,2,3,4,5,6,7,8],[],[],[],[]⟩]
def fle96d83534d : List Go.Vc.Fp := [⟨[6],[],[],[],[],[]⟩,⟨[102],[0],[],[],[],[]⟩,⟨[103],[0,1],[],[],[],[]⟩,⟨[104],[0,1,2],[],[],[],[]⟩,⟨[5],[],[],[],[],[]⟩,⟨[106],[4],[],[],[],[]⟩,⟨[],[0,1,2,3,4,5],[],[],[],[]⟩,⟨[],[0,1,2,3,4,5,6],[],[],[],[]⟩,⟨[],[0,1,2,3,4,5,6,7],[],[],[],[]⟩,⟨[],[0,1,2,3,4,5,6,7,8],[],[],[],[]⟩]
def fl5343924785 : List Go.Vc.Fp := [⟨[6],[],[218],[221,222],[],[]⟩,⟨[6],[],[],[221,222],[],[]⟩,⟨[215],[1],[],[221,222],[],[]⟩,⟨[216],[1,2],[],[221,222],[],[]⟩,⟨[217],[1,2,3],[],[221,222],[],[]⟩,⟨[0],[],[],[221,222],[],[]⟩,⟨[219],[5],[],[221,222],[],[]⟩,⟨[220],[5,6],[],[222],[],[221]⟩,⟨[218,221],[1,2,3,4,5,6,7],[],[],[218],[222]⟩,⟨[],[0,1,2,3,4,5,6,7,8],[],[],[],[]⟩,⟨[],[0,1,2,3,4,5,6,7,8,9],[],[],[],[]⟩,⟨[],[0,1,2,3,4,5,6,7,8,9,10],[],[],[],[]⟩]
attribute [local go_sem] flc81b1fcee4 fle96d83534d fl5343924785
attribute [local go_sem] decI_enc decImage_enc spA cpu_eta bxI headsBy innersBy llX lmX St.callX St.panOf St.callLG ctrs St.isX St.stepP runS retY St.fzS addL behind ghoK St.gho St.gh SV.flat St.setO Ob.jk SV.jk
attribute [local go_sem] opA decD0 aggSp obD0 rbC kpD yen St.stepWr St.runWr isArith wrapI
section
attribute [local go_sem] cxPfI_t cxPfI_c LcxPfI
attribute [local go_sem] kPushI kLoadI kStoreI kPopI kZeroI kDropI kAppl decIm obIm
set_option maxHeartbeats 8000000 in
theorem cQf5 : Cy Tryz.prog 124 (kPerfI fun c=>c = 16) := by
 refine Cy.yen Tryz.func124 (by kernel_rfl) rfl fun x hx=>?_
 obtain ⟨⟨I,B,E⟩,⟨⟨⟨pc,sp,fp,S,O⟩,g⟩,q,v⟩,⟨code,a⟩⟩ := x
 obtain ⟨⟨h1,h2,h3,h4,h5,⟨n,h6,h7,h8,h9,h10⟩,h11,h12⟩,hp⟩ := hx
 simp only at h1 h2 h3 h4 h5 h6 h7 h8 h9 h10 h11 h12 hp ⊢
 subst h5
 have h13 : In64 sp:=by unfold In64; omega
 have h12' : -9223372036854775808 ≤ fp ∧ fp ≤ 9223372036854775807 := h12
 refine HoldsY.go (c := cxPfI) Tryz.func124 rfl Tryz.results124 Tryz.ntmps124 (by omega) (by simp) ?_ ?_ ?_
 rotate_right
 intro X0 M w0
 ·refine zP [] [(900000,800001),(900001,800002)] rfl ?_
  simp only [go_sem]
  subst hp
  obtain ⟨ha0,ha1⟩ := h9 (by omega)
  obtain ⟨k,rfl⟩ : ∃ k : Nat,a = k := ⟨a.toNat,by omega⟩
  have t1 : (k : Int).tdiv 16 = ((k / 16 : Nat) : Int) := rfl
  have t2 : (k : Int).tmod 16 = ((k % 16 : Nat) : Int) := rfl
  have e : performI E ⟨16,k⟩ ⟨pc,sp,fp,S,O⟩ = pushI (dropI (setPc (popI (dropI (popI (⟨pc,sp,fp,S,O⟩,false)).2 (k / 16))).2 (popI (dropI (popI (⟨pc,sp,fp,S,O⟩,false)).2 (k / 16))).1) (k % 16)) (popI (⟨pc,sp,fp,S,O⟩,false)).1 := rfl
  rw [e]
  have hl1 : (popI (⟨pc,sp,fp,S,O⟩,false)).2.1.st.length = 1200:=by rw [popI_st]; exact h1
  have hs1 : In64 (popI (⟨pc,sp,fp,S,O⟩,false)).2.1.sp := popI_sp (s := (⟨pc,sp,fp,S,O⟩,false)) h13
  generalize hp1 : popI (⟨pc,sp,fp,S,O⟩,false) = r at hl1 hs1 ⊢
  obtain ⟨z,⟨rp,rs,rf,rS,rO⟩,rb⟩ := r
  simp only at hl1 hs1 ⊢
  have hl2 : (dropI (⟨rp,rs,rf,rS,rO⟩,rb) (k / 16)).1.st.length = 1200:=by rw [dropI_st]; exact hl1
  have hs2 : In64 (dropI (⟨rp,rs,rf,rS,rO⟩,rb) (k / 16)).1.sp := dropI_sp (s := (⟨rp,rs,rf,rS,rO⟩,rb)) hs1 _
  generalize hp2 : dropI (⟨rp,rs,rf,rS,rO⟩,rb) (k / 16) = t at hl2 hs2 ⊢
  obtain ⟨⟨tp,ts,tf,tS,tO⟩,tb⟩ := t
  simp only at hl2 hs2 ⊢
  have hl3 : (popI (⟨tp,ts,tf,tS,tO⟩,tb)).2.1.st.length = 1200:=by rw [popI_st]; exact hl2
  have hs3 : In64 (popI (⟨tp,ts,tf,tS,tO⟩,tb)).2.1.sp := popI_sp (s := (⟨tp,ts,tf,tS,tO⟩,tb)) hs2
  generalize hp3 : popI (⟨tp,ts,tf,tS,tO⟩,tb) = u at hl3 hs3 ⊢
  obtain ⟨y,⟨up,us,uf,uS,uO⟩,ub⟩ := u
  simp only [setPc] at hl3 hs3 ⊢
  have hl4 : (dropI (⟨y,us,uf,uS,uO⟩,ub) (k % 16)).1.st.length = 1200:=by rw [dropI_st]; exact hl3
  have hs4 : In64 (dropI (⟨y,us,uf,uS,uO⟩,ub) (k % 16)).1.sp := dropI_sp (s := (⟨y,us,uf,uS,uO⟩,ub)) hs3 _
  generalize hp4 : dropI (⟨y,us,uf,uS,uO⟩,ub) (k % 16) = w at hl4 hs4 ⊢
  obtain ⟨⟨wp,ws,wf,wS,wO⟩,wb⟩ := w
  simp only at hl4 hs4 ⊢
  have q1 : ((k / 16 : Nat) : Int).toNat = k / 16 := Int.toNat_natCast _
  have q2 : ((k % 16 : Nat) : Int).toNat = k % 16 := Int.toNat_natCast _
  (repeat' (first|apply zS|apply zB|((first|apply zR|apply zC|apply zT|apply zE|apply zK| refine zF 6 flc81b1fcee4 [88,89,90,91,92,93] [] [] (by decide +kernel) (by kernel_rfl) (by kernel_rfl) (by kernel_rfl) ?_|refine zF 6 fle96d83534d [102,103,104,105,106,107] [] [] (by decide +kernel) (by kernel_rfl) (by kernel_rfl) (by kernel_rfl) ?_|refine zF 9 fl5343924785 [214,215,216,217,218,219,220,221,222] [221,222] [218] (by decide +kernel) (by kernel_rfl) (by kernel_rfl) (by kernel_rfl) ?_|refine zD 9 (by decide +kernel) (by kernel_rfl) ?_); simp only [go_sem,t1,t2,q1,q2,hp1,hp2,hp3,hp4,Int.reduceBEq,Int.reduceEq])|apply And.intro|intro _))
  all_goals first|omega|rfl|exact h1|exact hl1|exact hl2|exact hl3|exact hl4|exact ⟨hl1,by omega⟩|exact ⟨hl3,by omega⟩|exact hs4.1|exact hs4.2|exact ⟨hl4,hs4⟩|skip
 ·rfl
 ·intro h; cases h
end
end Go.Proofs.YtoomncljmgcidaaGreat

namespace Go.Proofs.YtoomncljmgcidaaGreat
open Go.Vc
attribute [local irreducible] Go.Vc.WP
attribute [local go_sem] cx0_t cx0_c
def fl0d9bdf4af1 : List Go.Vc.Fp := [⟨[6],[],[],[],[],[]⟩,⟨[88],[0],[],[],[],[]⟩,⟨[89],[0,1],[],[],[],[]⟩,⟨[90],[0,1,2],[],[],[],[]⟩,⟨[5],[],[],[],[],[]⟩,⟨[92],[4],[],[],[],[]⟩,⟨[],[0,1,2,3,4,5],[],[],[],[]⟩,⟨[],[0,1,2,3,4,5,6],[],[],[],[]⟩,⟨[],[0,1,2,3,4,5,6,7],[],[],[],[]⟩,⟨[],[0,1,2,3,4,5,6,7,8],[],[],[],[]⟩]
def fld78d16428e : List Go.Vc.Fp := [⟨[6],[],[],[],[],[]⟩,⟨[102],[0],[],[],[],[]⟩,⟨[103],[0,1],[],[],[],[]⟩,⟨[104],[0,1,2],[],[],[],[]⟩,⟨[5],[],[],[],[],[]⟩,⟨[106],[4],[],[],[],[]⟩,⟨[],[0,1,2,3,4,5],[],[],[],[]⟩,⟨[],[0,1,2,3,4,5,6],[],[],[],[]⟩,⟨[],[0,1,2,3,4,5,6,7],[],[],[],[]⟩,⟨[],[0,1,2,3,4,5,6,7,8],[],[],[],[]⟩]
def fl4d3b9487ad : List Go.Vc.Fp := [⟨[6],[],[218],[221,222],[],[]⟩,⟨[6],[],[],[221,222],[],[]⟩,⟨[215],[1],[],[221,222],[],[]⟩,⟨[216],[1,2],[],[221,222],[],[]⟩,⟨[217],[1,2,3],[],[221,222],[],[]⟩,⟨[0],[],[],[221,222],[],[]⟩,⟨[219],[5],[],[221,222],[],[]⟩,⟨[220],[5,6],[],[222],[],[221]⟩,⟨[218,221],[1,2,3,4,5,6,7],[],[],[218],[222]⟩,⟨[],[0,1,2,3,4,5,6,7,8],[],[],[],[]⟩,⟨[],[0,1,2,3,4,5,6,7,8,9],[],[],[],[]⟩,⟨[],[0,1,2,3,4,5,6,7,8,9,10],[],[],[],[]⟩]
attribute [local go_sem] fl0d9bdf4af1 fld78d16428e fl4d3b9487ad
attribute [local go_sem] decI_enc decImage_enc spA cpu_eta bxI headsBy innersBy llX lmX St.callX St.panOf St.callLG ctrs St.isX St.stepP runS retY St.fzS addL behind ghoK St.gho St.gh SV.flat St.setO Ob.jk SV.jk
attribute [local go_sem] opA decD0 aggSp obD0 rbC kpD yen St.stepWr St.runWr isArith wrapI
section
attribute [local go_sem] cxPfI_t cxPfI_c LcxPfI
attribute [local go_sem] kPushI kLoadI kStoreI kPopI kZeroI kDropI kAppl decIm obIm
set_option maxHeartbeats 8000000 in
theorem cQf6 : Cy Tryz.prog 124 (kPerfI fun c=>c = 14) := by
 refine Cy.yen Tryz.func124 (by kernel_rfl) rfl fun x hx=>?_
 obtain ⟨⟨I,B,E⟩,⟨⟨⟨pc,sp,fp,S,O⟩,g⟩,q,v⟩,⟨code,a⟩⟩ := x
 obtain ⟨⟨h1,h2,h3,h4,h5,⟨n,h6,h7,h8,h9,h10⟩,h11,h12⟩,hp⟩ := hx
 simp only at h1 h2 h3 h4 h5 h6 h7 h8 h9 h10 h11 h12 hp ⊢
 subst h5
 have h13 : In64 sp:=by unfold In64; omega
 have h12' : -9223372036854775808 ≤ fp ∧ fp ≤ 9223372036854775807 := h12
 refine HoldsY.go (c := cxPfI) Tryz.func124 rfl Tryz.results124 Tryz.ntmps124 (by omega) (by simp) ?_ ?_ ?_
 rotate_right
 intro X0 M w0
 ·refine zP [] [(900000,800001),(900001,800002)] rfl ?_
  simp only [go_sem]
  subst hp
  obtain ⟨ha0,ha1⟩ := h9 (by omega)
  have hfp : (popI (⟨pc,sp,fp,S,O⟩,false)).2.1.fp = fp := by
   unfold popI
   split <;> rfl
  have e : performI E ⟨14,a⟩ ⟨pc,sp,fp,S,O⟩ = pushI (dropI (setPc (popI (setFp (popI (setSp (popI (⟨pc,sp,fp,S,O⟩,false)).2 (popI (⟨pc,sp,fp,S,O⟩,false)).2.1.fp)).2 (popI (setSp (popI (⟨pc,sp,fp,S,O⟩,false)).2 (popI (⟨pc,sp,fp,S,O⟩,false)).2.1.fp)).1)).2 (popI (setFp (popI (setSp (popI (⟨pc,sp,fp,S,O⟩,false)).2 (popI (⟨pc,sp,fp,S,O⟩,false)).2.1.fp)).2 (popI (setSp (popI (⟨pc,sp,fp,S,O⟩,false)).2 (popI (⟨pc,sp,fp,S,O⟩,false)).2.1.fp)).1)).1) a.toNat) (popI (⟨pc,sp,fp,S,O⟩,false)).1 := rfl
  rw [e]
  have hl1 : (popI (⟨pc,sp,fp,S,O⟩,false)).2.1.st.length = 1200:=by rw [popI_st]; exact h1
  generalize hp1 : popI (⟨pc,sp,fp,S,O⟩,false) = r at hl1 hfp ⊢
  obtain ⟨z,⟨rp,rs,rf,rS,rO⟩,rb⟩ := r
  simp only [setSp] at hl1 hfp ⊢
  subst hfp
  have hl2 : (popI (⟨rp,rf,rf,rS,rO⟩,rb)).2.1.st.length = 1200:=by rw [popI_st]; exact hl1
  have hs2 : In64 (popI (⟨rp,rf,rf,rS,rO⟩,rb)).2.1.sp := popI_sp (s := (⟨rp,rf,rf,rS,rO⟩,rb)) h12
  generalize hp2 : popI (⟨rp,rf,rf,rS,rO⟩,rb) = t at hl2 hs2 ⊢
  obtain ⟨y,⟨tp,ts,tf,tS,tO⟩,tb⟩ := t
  simp only [setFp] at hl2 hs2 ⊢
  have hl3 : (popI (⟨tp,ts,y,tS,tO⟩,tb)).2.1.st.length = 1200:=by rw [popI_st]; exact hl2
  have hs3 : In64 (popI (⟨tp,ts,y,tS,tO⟩,tb)).2.1.sp := popI_sp (s := (⟨tp,ts,y,tS,tO⟩,tb)) hs2
  generalize hp3 : popI (⟨tp,ts,y,tS,tO⟩,tb) = u at hl3 hs3 ⊢
  obtain ⟨x,⟨up,us,uf,uS,uO⟩,ub⟩ := u
  simp only [setPc] at hl3 hs3 ⊢
  have hl4 : (dropI (⟨x,us,uf,uS,uO⟩,ub) a.toNat).1.st.length = 1200:=by rw [dropI_st]; exact hl3
  have hs4 : In64 (dropI (⟨x,us,uf,uS,uO⟩,ub) a.toNat).1.sp := dropI_sp (s := (⟨x,us,uf,uS,uO⟩,ub)) hs3 _
  generalize hp4 : dropI (⟨x,us,uf,uS,uO⟩,ub) a.toNat = w at hl4 hs4 ⊢
  obtain ⟨⟨wp,ws,wf,wS,wO⟩,wb⟩ := w
  simp only at hl4 hs4 ⊢
  (repeat' (first|apply zS|apply zB|((first|apply zR|apply zC|apply zT|apply zE|apply zK| refine zF 6 fl0d9bdf4af1 [88,89,90,91,92,93] [] [] (by decide +kernel) (by kernel_rfl) (by kernel_rfl) (by kernel_rfl) ?_|refine zF 6 fld78d16428e [102,103,104,105,106,107] [] [] (by decide +kernel) (by kernel_rfl) (by kernel_rfl) (by kernel_rfl) ?_|refine zF 9 fl4d3b9487ad [214,215,216,217,218,219,220,221,222] [221,222] [218] (by decide +kernel) (by kernel_rfl) (by kernel_rfl) (by kernel_rfl) ?_|refine zD 9 (by decide +kernel) (by kernel_rfl) ?_); simp only [go_sem,hp1,hp2,hp3,hp4,Int.reduceBEq,Int.reduceEq])|apply And.intro|intro _))
  all_goals first|omega|rfl|exact h1|exact hl1|exact hl2|exact hl3|exact hl4|exact ⟨hl3,by omega⟩|exact hs4.1|exact hs4.2|exact ⟨hl4,hs4⟩|skip
 ·rfl
 ·intro h; cases h
end
end Go.Proofs.YtoomncljmgcidaaGreat

