/-
  DERIVED. Several texts of ours in one: VtMcP9, VtMcR, VtSess2, VpSz, VtMark, VtStrS, VtSeZ, VtSeZ2, VcFz, VcFw, VtSeT.
-/
import Derived.Test.YtoomncljmgcidaaGreatVa3
import Derived.Test.YtoomncljmgcidaaGreatVa4
import Derived.Test.YtoomncljmgcidaaGreatVa6
import Derived.Test.YtoomncljmgcidaaGreatVa7
import Derived.Test.YtoomncljmgcidaaGreatVa13
import Derived.Test.YtoomncljmgcidaaGreatVa14
import Derived.Test.YtoomncljmgcidaaGreatVa15
import Derived.Test.YtoomncljmgcidaaGreatVa16
import Derived.Test.YtoomncljmgcidaaGreatVa17
import Derived.Test.YtoomncljmgcidaaGreatVa18
import Derived.Test.YtoomncljmgcidaaGreatVa19
set_option linter.unusedSimpArgs false
set_option linter.unusedVariables false
set_option maxHeartbeats 1000000
set_option maxRecDepth 10000
namespace Go.Proofs.YtoomncljmgcidaaGreat
open Go.Vc
attribute [local irreducible] Go.Vc.WP
attribute [local go_sem] cx0_t cx0_c
def fl400a28eba7 : List Go.Vc.Fp := [⟨[1],[],[],[],[],[]⟩,⟨[1],[],[],[],[],[]⟩,⟨[101],[1],[],[],[],[]⟩,⟨[102],[1,2],[],[],[],[]⟩,⟨[103],[1,2,3],[],[],[],[]⟩,⟨[104],[1,2,3,4],[],[],[],[]⟩,⟨[6],[],[],[],[],[]⟩,⟨[106],[6],[],[],[],[]⟩,⟨[105,107],[1,2,3,4,5,6,7],[],[],[],[]⟩,⟨[],[0,1,2,3,4,5,6,7,8],[],[],[],[]⟩,⟨[],[0,1,2,3,4,5,6,7,8,9],[],[],[],[]⟩,⟨[],[0,1,2,3,4,5,6,7,8,9,10],[],[],[],[]⟩,⟨[],[0,1,2,3,4,5,6,7,8,9,10,11],[],[],[],[]⟩]
def fl9350bbf152 : List Go.Vc.Fp := [⟨[1],[],[],[],[],[]⟩,⟨[1],[],[],[],[],[]⟩,⟨[118],[1],[],[],[],[]⟩,⟨[119],[1,2],[],[],[],[]⟩,⟨[120],[1,2,3],[],[],[],[]⟩,⟨[121],[1,2,3,4],[],[],[],[]⟩,⟨[6],[],[],[],[],[]⟩,⟨[123],[6],[],[],[],[]⟩,⟨[122,124],[1,2,3,4,5,6,7],[],[],[],[]⟩,⟨[],[0,1,2,3,4,5,6,7,8],[],[],[],[]⟩,⟨[],[0,1,2,3,4,5,6,7,8,9],[],[],[],[]⟩,⟨[],[0,1,2,3,4,5,6,7,8,9,10],[],[],[],[]⟩,⟨[],[0,1,2,3,4,5,6,7,8,9,10,11],[],[],[],[]⟩]
def fl4b174ef4a5 : List Go.Vc.Fp := [⟨[1],[],[257],[260,261],[],[]⟩,⟨[1],[],[],[260,261],[],[]⟩,⟨[253],[1],[],[260,261],[],[]⟩,⟨[254],[1,2],[],[260,261],[],[]⟩,⟨[255],[1,2,3],[],[260,261],[],[]⟩,⟨[256],[1,2,3,4],[],[260,261],[],[]⟩,⟨[1],[],[],[260,261],[],[]⟩,⟨[258],[6],[],[260,261],[],[]⟩,⟨[259],[6,7],[],[261],[],[260]⟩,⟨[257,260],[1,2,3,4,5,6,7,8],[],[],[257],[261]⟩,⟨[],[0,1,2,3,4,5,6,7,8,9],[],[],[],[]⟩,⟨[],[0,1,2,3,4,5,6,7,8,9,10],[],[],[],[]⟩,⟨[],[0,1,2,3,4,5,6,7,8,9,10,11],[],[],[],[]⟩,⟨[],[0,1,2,3,4,5,6,7,8,9,10,11,12],[],[],[],[]⟩]
attribute [local go_sem] fl400a28eba7 fl9350bbf152 fl4b174ef4a5
attribute [local go_sem] decI_enc decImage_enc spA cpu_eta bxC headsBy innersBy llX lmX St.callX St.panOf St.callLG ctrs St.isX St.stepP runS retY St.fzS addL behind ghoK St.gho St.gh SV.flat St.setO Ob.jk SV.jk
attribute [local go_sem] opA decC0 aggSp obC0 rbC kpC yen
theorem popS_out (s : CpB) : (popS s).2.1.out = s.1.out := by
 unfold popS
 split
 ·rw [wordS_len]
 ·rfl
section
attribute [local go_sem] cxPfS_t cxPfS_c LcxPfS k60
attribute [local go_sem] kPushS kWordS kPopS kPutS kNear kDropS kZerosS kAppl decCu obCu
set_option maxHeartbeats 8000000 in
theorem cPf9 : Cy Tryz.prog 117 (kPerfK fun c=>c = 17) := by
 refine Cy.yen Tryz.func117 (by kernel_rfl) rfl fun x hx=>?_
 obtain ⟨⟨I,B,E⟩,⟨⟨⟨pc,sp,fp,S,O⟩,g⟩,q,v⟩,⟨code,a⟩,n⟩ := x
 obtain ⟨⟨h1,h2,h3,h4,h5,⟨h6,h7,h8,h9,h10⟩,h11⟩,hp⟩ := hx
 simp only at h1 h2 h3 h4 h5 h6 h7 h8 h9 h10 h11 hp ⊢
 subst h5
 refine HoldsY.go (c := cxPfS) Tryz.func117 rfl Tryz.results117 Tryz.ntmps117 (by omega) (by simp) ?_ ?_ ?_
 rotate_right
 intro X0 M w0
 ·refine zP [] [(900000,800001),(900001,800002)] rfl ?_
  simp only [go_sem]
  subst hp
  have e : performS E ⟨17,a⟩ ⟨pc + n,sp,fp,S,O⟩ = addOut (popS (⟨pc + n,sp,fp,S,O⟩,false)).2 (popS (⟨pc + n,sp,fp,S,O⟩,false)).1 := rfl
  rw [e]
  have hl1 : (popS (⟨pc + n,sp,fp,S,O⟩,false)).2.1.st.length = 1200:=by rw [popS_len]; exact h1
  have hl2 : (popS (⟨pc + n,sp,fp,S,O⟩,false)).2.1.out = O:=by rw [popS_out]
  generalize hp1 : popS (⟨pc + n,sp,fp,S,O⟩,false) = r at hl1 hl2 ⊢
  obtain ⟨z,⟨rp,rs,rf,rS,rO⟩,rb⟩ := r
  simp only [addOut] at hl1 hl2 ⊢
  subst hl2
  (repeat' (first|apply zS|apply zB|((first|refine WP.stages (id := 49) (.fork ⟨[],[0,1,2,3,4,5,6],[(0,1),(1,1),(2,1),(3,1),(4,1)],7⟩ 5 (.call ⟨[0,1,2,3,4],[],[(0,1),(1,1),(2,1),(3,1),(4,1)],8⟩ (.call ⟨[0,1,2,3,4],[],[(0,1)],9⟩ (.call ⟨[0],[10,11,12],[],13⟩ (.last ⟨[],[],[],0⟩)))) (.fork ⟨[0,1,2,3,4],[5],[(0,1),(1,1),(2,1),(3,1),(4,1)],8⟩ 5 (.call ⟨[0,1,2,3,4],[],[(0,1)],9⟩ (.call ⟨[0],[10,11,12],[],13⟩ (.last ⟨[],[],[],0⟩))) (.call ⟨[0,1,2,3,4],[5],[(0,1)],9⟩ (.call ⟨[0],[10,11,12],[],13⟩ (.last ⟨[],[],[],0⟩))))) (by decide +kernel) (by decide +kernel) (by kernel_rfl) ?_); simp only [go_sem,h1,hp1,addOut,Int.reduceBEq,Int.reduceEq])|((first|apply zR|apply zC|apply zT|apply zE|apply zK| refine zF 9 fl400a28eba7 [100,101,102,103,104,105,106,107,108] [] [] (by decide +kernel) (by kernel_rfl) (by kernel_rfl) (by kernel_rfl) ?_|refine zF 9 fl9350bbf152 [117,118,119,120,121,122,123,124,125] [] [] (by decide +kernel) (by kernel_rfl) (by kernel_rfl) (by kernel_rfl) ?_|refine zF 10 fl4b174ef4a5 [252,253,254,255,256,257,258,259,260,261] [260,261] [257] (by decide +kernel) (by kernel_rfl) (by kernel_rfl) (by kernel_rfl) ?_|refine zD 12 (by decide +kernel) (by kernel_rfl) ?_|refine zD 8 (by decide +kernel) (by kernel_rfl) ?_); simp only [go_sem,h1,hp1,addOut,Int.reduceBEq,Int.reduceEq])|apply And.intro|intro _))
  all_goals first|omega|rfl|exact h1|exact hl1|(rw [List.map_append]; rfl)|skip
 ·rfl
 ·intro h; cases h
end
end Go.Proofs.YtoomncljmgcidaaGreat

namespace Go.Proofs.YtoomncljmgcidaaGreat
open Go.Vc
attribute [local irreducible] Go.Vc.WP
attribute [local go_sem] cx0_t cx0_c
theorem cPerfS : Cy Tryz.prog 117 (kPerfK fun _=>True) := by
 have h := (Cy.codes (Cy.codes (Cy.codes (Cy.codes (Cy.codes (Cy.codes (Cy.codes (Cy.codes cPf1 cPf2) cPf3) cPf4) cPf5) cPf6) cPf7) cPf8) cPf9)
 refine ⟨h.call,fun d args obs ha=>?_⟩
 obtain ⟨a1,a2,a3,_⟩ := ha
 exact h.holds d args obs ⟨a1,a2,a3,by have h0 := a3.op.code; dsimp only at h0 ⊢; omega⟩
structure StpR (x : SpcX × Mach) : Prop where
 imgs : okImgs x.1.1
 len : x.1.2.1.length = x.1.1.length
 bases : ∀ b ∈ x.1.2.1,0 ≤ b ∧ b ≤ 1000000
 codes : ∀ i : Nat,(x.1.1.getD i zImg).code.size ≤ 1000000
 ent : x.1.2.2.length ≤ 4194304
 st : x.2.stack.length = 1200
 sp : 0 ≤ x.2.sp ∧ x.2.sp ≤ 1200
 out : x.2.out.length ≤ 2097152
 fp : In64 x.2.fp
 run : x.2.state = 0
theorem StpR.loc {x : SpcX × Mach} (h : StpR x) (a : Int) : preLoc (x.1,a) := ⟨h.imgs,h.len,fun b hb=>by have := h.bases b hb; omega⟩
def kStep : Ctr := pur (fun args=>(spA args 0,oneMach (aC args 1))) (fun x=>[.agg [.sl 2 (x.1.1.map encImage),.sl 1 (x.1.2.1.map encI),.sl 1 (x.1.2.2.map encI)],.agg [.v (.int .i64 x.2.pc),.v (.int .i64 x.2.sp),.v (.int .i64 x.2.fp),.sl 1 (x.2.stack.map encI),.sl 1 (x.2.out.map encI),.v (.int .i64 x.2.state),.v (.int .i64 x.2.value)]]) StpR
 (fun _ x=>.agg [.v (.int .i64 (stepS x.1 x.2).pc),.v (.int .i64 (stepS x.1 x.2).sp),.v (.int .i64 (stepS x.1 x.2).fp),.sl 1 ((stepS x.1 x.2).stack.map encI),.sl 1 ((stepS x.1 x.2).out.map encI),.v (.int .i64 (stepS x.1 x.2).state),.v (.int .i64 (stepS x.1 x.2).value)]) (fun _ _=>[])
end Go.Proofs.YtoomncljmgcidaaGreat

namespace Go.Proofs.YtoomncljmgcidaaGreat
open Go.Vc
attribute [local irreducible] Go.Vc.WP
attribute [local go_sem] cx0_t cx0_c
open Go.Pl
attribute [local go_sem] decI_enc decImage_enc spA decS_enc tmA tm_eta decMach_enc oneMach_f mach_eta pcA
def sizS (R : List ByteArray) (k : Nat) : Nat := ((R.take k).map (·.size)).sum
theorem sizS_succ {R : List ByteArray} {k : Nat} (h : k < R.length) : sizS R (k + 1) = sizS R k + R[k].size := by
 unfold sizS
 rw [List.take_succ_eq_append_getElem h,List.map_append,List.sum_append]; simp
theorem sizS_le (R : List ByteArray) (k : Nat) : sizS R k ≤ sizS R R.length := by
 unfold sizS
 rw [List.take_length]
 conv=>rhs; rw [← List.take_append_drop k R]
 rw [List.map_append,List.sum_append]; omega
def kByt : Ctr := pur (fun args=>decS (aR args 0)) (fun R=>[.sl 1 (R.map encS)]) (fun R=>R.length ≤ 4194304 ∧ sizS R R.length ≤ 1099511627776) (fun _ R=>.v (.int .i64 (sizS R R.length))) (fun _ _=>[])
abbrev RgX := Int × List ByteArray × Int × Int
def rgA (args : List SV) (i : Nat) : RgX := match args[i]? with
 |some (.agg [.v (.int _ a),.sl _ r,.v (.int _ b),.v (.int _ c)])=>(a,decS r,b,c)
 | _=>(0,[],0,0)
attribute [local go_sem] rgA
def ringOk (x : RgX) : Bool := x.2.1.all (fun s=>decide (s ≠ ⟨#[]⟩)) && decide ((0 ≤ x.1 ∧ x.1 ≤ 100000) ∧ (sizS x.2.1 x.2.1.length : Int) ≤ x.1 ∧ ((x.2.1.length : Int) ≤ x.2.2.1 ∧ x.2.2.1 ≤ 1000000000000) ∧ 0 ≤ x.2.2.2 ∧ x.2.2.2 ≤ 1000000000000)
def kRgOk : Ctr := pur (fun args=>rgA args 0) (fun x=>[.agg [.v (.int .i64 x.1),.sl 1 (x.2.1.map encS),.v (.int .i64 x.2.2.1),.v (.int .i64 x.2.2.2)]]) (fun x=>x.2.1.length ≤ 4194304 ∧ sizS x.2.1 x.2.1.length ≤ 1099511627776) (fun _ x=>.v (.bool (ringOk x))) (fun _ _=>[])
section
noncomputable def cxByI := mkX [] (COk.nil _)
theorem cxByI_t : cxByI.tys = tys := rfl
theorem cxByI_c : cxByI.C = [] := rfl
attribute [local go_sem] cxByI_t cxByI_c
theorem cBytI : Cn Tryz.prog 95 kByt := by
 refine Cn.pur Tryz.func95 (by kernel_rfl) rfl fun d x hx=>?_
 rename List ByteArray=>R
 obtain ⟨hR,hz⟩ := hx
 refine Holds.go (c := cxByI) Tryz.func95 rfl Tryz.results95 Tryz.ntmps95 (by omega) (by simp) rfl ?_
 intro X0 w0
 (repeat' (first|apply zS|apply zB|((first|apply zR|apply zC|apply zT|apply zE|apply zK);simp only [go_sem])|apply And.intro|intro _))
 all_goals first|omega|skip
 refine zL (fun k : Nat=>⟨[(3,.v (.int .i64 (sizS R k))),(6,.sl 1 (R.map encS)),(7,.v (.int .i64 R.length)),(8,.v (.int .i64 k))],[]⟩) (fun k=>k ≤ R.length) (fun k=>R.length - k) 0 (by simp) ?_ ?_
 ·have h0 : sizS R 0 = 0 := rfl
  (simp only [go_sem,h0] <;> (first|(and_intros <;> rfl)|simp))
 intro k hk
 have hl := sizS_le R k
 have hl1 := sizS_le R (k + 1)
 by_cases hlt : k < R.length
 ·have hli : (k : Int) < R.length:=by omega
  have hr := rowAt_map encS R k hlt
  have hsu := sizS_succ hlt
  have hsi : ((sizS R (k + 1) : Nat) : Int) = (sizS R k : Int) + (R[k].size : Int):=by rw [hsu,Int.natCast_add]
  (repeat' (first|apply zS|apply zB|((first|apply zR|apply zC|apply zT|apply zE|apply zK);simp only [go_sem,hli,hr,encS])|apply And.intro|intro _))
  all_goals first|omega|exact ⟨k + 1,by omega,by omega,by rw [hsi]; (first|(and_intros <;> rfl)|simp)⟩|skip
 ·have hge : ¬ (k : Int) < R.length:=by omega
  obtain rfl : k = R.length:=by omega
  (repeat' (first|apply zS|apply zB|((first|apply zR|apply zC|apply zT|apply zE|apply zK);simp only [go_sem,hge])|apply And.intro|intro _))
  all_goals first|omega|skip
end
section
noncomputable def cxByS := mkX [] (COk.nil _)
theorem cxByS_t : cxByS.tys = tys := rfl
theorem cxByS_c : cxByS.C = [] := rfl
attribute [local go_sem] cxByS_t cxByS_c
theorem cBytS : Cn Tryz.prog 50 kByt := by
 refine Cn.pur Tryz.func50 (by kernel_rfl) rfl fun d x hx=>?_
 rename List ByteArray=>R
 obtain ⟨hR,hz⟩ := hx
 refine Holds.go (c := cxByS) Tryz.func50 rfl Tryz.results50 Tryz.ntmps50 (by omega) (by simp) rfl ?_
 intro X0 w0
 (repeat' (first|apply zS|apply zB|((first|apply zR|apply zC|apply zT|apply zE|apply zK);simp only [go_sem])|apply And.intro|intro _))
 all_goals first|omega|skip
 refine zL (fun k : Nat=>⟨[(0,.sl 1 (R.map encS)),(3,.v (.int .i64 (sizS R k))),(4,.v (.int .i64 k))],[]⟩) (fun k=>k ≤ R.length) (fun k=>R.length - k) 0 (by simp) ?_ ?_
 ·have h0 : sizS R 0 = 0 := rfl
  (simp only [go_sem,h0] <;> (first|(and_intros <;> rfl)|simp))
 intro k hk
 have hl := sizS_le R k
 have hl1 := sizS_le R (k + 1)
 by_cases hlt : k < R.length
 ·have hli : (k : Int) < R.length:=by omega
  have hr := rowAt_map encS R k hlt
  have hsu := sizS_succ hlt
  have hsi : ((sizS R (k + 1) : Nat) : Int) = (sizS R k : Int) + (R[k].size : Int):=by rw [hsu,Int.natCast_add]
  (repeat' (first|apply zS|apply zB|((first|apply zR|apply zC|apply zT|apply zE|apply zK);simp only [go_sem,hli,hr,encS])|apply And.intro|intro _))
  all_goals first|omega|exact ⟨k + 1,by omega,by omega,by rw [hsi]; (first|(and_intros <;> rfl)|simp)⟩|skip
 ·have hge : ¬ (k : Int) < R.length:=by omega
  obtain rfl : k = R.length:=by omega
  (repeat' (first|apply zS|apply zB|((first|apply zR|apply zC|apply zT|apply zE|apply zK);simp only [go_sem,hge])|apply And.intro|intro _))
  all_goals first|omega|skip
end
section
noncomputable def cxRoI := mkX [(37,k60),(95,kByt)] (COk.cons c60 (COk.cons cBytI (COk.nil _)))
theorem cxRoI_t : cxRoI.tys = tys := rfl
theorem cxRoI_c : cxRoI.C = [(37,k60),(95,kByt)] := rfl
attribute [local go_sem] cxRoI_t cxRoI_c k60 kByt
set_option maxHeartbeats 2000000 in
theorem cRgOkI : Cn Tryz.prog 60 kRgOk := by
 refine Cn.pur Tryz.func60 (by kernel_rfl) rfl fun d x hx=>?_
 obtain ⟨cp,R,wr,lo⟩ := x
 obtain ⟨hR,hz⟩ := hx
 simp only at hR hz ⊢
 have mod : ringOk (cp,R,wr,lo) = (R.all (fun s=>decide (s ≠ ⟨#[]⟩)) && decide ((0 ≤ cp ∧ cp ≤ 100000) ∧ (sizS R R.length : Int) ≤ cp ∧ ((R.length : Int) ≤ wr ∧ wr ≤ 1000000000000) ∧ 0 ≤ lo ∧ lo ≤ 1000000000000)) := rfl
 rw [mod]
 refine Holds.go (c := cxRoI) Tryz.func60 rfl Tryz.results60 Tryz.ntmps60 (by omega) (by simp) rfl ?_
 intro X0 w0
 (repeat' (first|apply zS|apply zB|((first|apply zR|apply zC|apply zT|apply zE|apply zK| refine zD 24 (by decide +kernel) (by kernel_rfl) ?_); simp only [go_sem])|apply And.intro|intro _))
 all_goals first|omega|skip
 refine zL (fun k : Nat=>⟨[(1,.ptr 1 0 0 0),(6,.sl 1 (R.map encS)),(7,.v (.int .i64 R.length)),(8,.v (.int .i64 k))],[(1,.box 44 [.v (.int .i64 cp),.sl 1 (R.map encS),.v (.int .i64 wr),.v (.int .i64 lo)])]⟩)
  (fun k=>k ≤ R.length ∧ ∀ i (hi : i < R.length),i < k → R[i] ≠ ⟨#[]⟩) (fun k=>R.length - k) 0 (by simp) ?_ ?_
 ·(simp only [go_sem] <;> (first|(and_intros <;> rfl)|simp))
 intro k ⟨hk,hf⟩
 by_cases hlt : k < R.length
 ·have hli : (k : Int) < R.length:=by omega
  have hr := rowAt_map encS R k hlt
  by_cases he : R[k] = ⟨#[]⟩
  ·have ha : R.all (fun s=>decide (s ≠ ⟨#[]⟩)) = false := List.all_eq_false.2 ⟨_,List.getElem_mem hlt,by simp [he]⟩
   rw [ha,Bool.false_and]
   (repeat' (first|apply zS|apply zB|((first|apply zR|apply zC|apply zT|apply zE|apply zK| refine zD 24 (by decide +kernel) (by kernel_rfl) ?_); simp only [go_sem,hli,hr,encS,he])|apply And.intro|intro _))
   all_goals first|omega|skip
  ·(repeat' (first|apply zS|apply zB|((first|apply zR|apply zC|apply zT|apply zE|apply zK| refine zD 24 (by decide +kernel) (by kernel_rfl) ?_); simp only [go_sem,hli,hr,encS,he])|apply And.intro|intro _))
   all_goals first|omega|exact ⟨k + 1,⟨by omega,fun i hi hik=>by
    rcases Nat.lt_or_ge i k with h|h
    ·exact hf i hi h
    ·have : i = k:=by omega
     subst this; exact he⟩,by omega,by (first|(and_intros <;> rfl)|simp)⟩|skip
 ·have hge : ¬ (k : Int) < R.length:=by omega
  have ha : R.all (fun s=>decide (s ≠ ⟨#[]⟩)) = true := List.all_eq_true.2 fun s hs=>by
   obtain ⟨i,hi,rfl⟩ := List.mem_iff_getElem.1 hs
   rw [decide_eq_true_eq]
   exact hf i hi (by omega)
  have e : decide ((0 ≤ cp ∧ cp ≤ 100000) ∧ (sizS R R.length : Int) ≤ cp ∧ ((R.length : Int) ≤ wr ∧ wr ≤ 1000000000000) ∧ 0 ≤ lo ∧ lo ≤ 1000000000000) = ((decide (0 ≤ cp) && decide (cp ≤ 100000)) && decide ((sizS R R.length : Int) ≤ cp) && (decide ((R.length : Int) ≤ wr) && decide (wr ≤ 1000000000000)) && (decide (0 ≤ lo) && decide (lo ≤ 1000000000000))) := by
   rw [Bool.eq_iff_iff]
   simp only [decide_eq_true_eq,Bool.and_eq_true]
   omega
  rw [ha,Bool.true_and,e]
  (repeat' (first|apply zS|apply zB|((first|apply zR|apply zC|apply zT|apply zE|apply zK| refine zD 24 (by decide +kernel) (by kernel_rfl) ?_); simp only [go_sem,hge])|apply And.intro|intro _))
  all_goals first|omega|rfl|skip
end
section
noncomputable def cxRoS := mkX [(36,k60),(50,kByt)] (COk.cons c58 (COk.cons cBytS (COk.nil _)))
theorem cxRoS_t : cxRoS.tys = tys := rfl
theorem cxRoS_c : cxRoS.C = [(36,k60),(50,kByt)] := rfl
attribute [local go_sem] cxRoS_t cxRoS_c k60 kByt
set_option maxHeartbeats 2000000 in
theorem cRgOkS : Cn Tryz.prog 45 kRgOk := by
 refine Cn.pur Tryz.func45 (by kernel_rfl) rfl fun d x hx=>?_
 obtain ⟨cp,R,wr,lo⟩ := x
 obtain ⟨hR,hz⟩ := hx
 simp only at hR hz ⊢
 have mod : ringOk (cp,R,wr,lo) = (R.all (fun s=>decide (s ≠ ⟨#[]⟩)) && decide ((0 ≤ cp ∧ cp ≤ 100000) ∧ (sizS R R.length : Int) ≤ cp ∧ ((R.length : Int) ≤ wr ∧ wr ≤ 1000000000000) ∧ 0 ≤ lo ∧ lo ≤ 1000000000000)) := rfl
 rw [mod]
 refine Holds.go (c := cxRoS) Tryz.func45 rfl Tryz.results45 Tryz.ntmps45 (by omega) (by simp) rfl ?_
 intro X0 w0
 (repeat' (first|apply zS|apply zB|((first|apply zR|apply zC|apply zT|apply zE|apply zK| refine zD 24 (by decide +kernel) (by kernel_rfl) ?_); simp only [go_sem])|apply And.intro|intro _))
 all_goals first|omega|skip
 refine zL (fun k : Nat=>⟨[(1,.ptr 1 0 0 0),(3,.v (.int .i64 k))],[(1,.box 44 [.v (.int .i64 cp),.sl 1 (R.map encS),.v (.int .i64 wr),.v (.int .i64 lo)])]⟩)
  (fun k=>k ≤ R.length ∧ ∀ i (hi : i < R.length),i < k → R[i] ≠ ⟨#[]⟩) (fun k=>R.length - k) 0 (by simp) ?_ ?_
 ·(simp only [go_sem] <;> (first|(and_intros <;> rfl)|simp))
 intro k ⟨hk,hf⟩
 by_cases hlt : k < R.length
 ·have hli : (k : Int) < R.length:=by omega
  have hr := rowAt_map encS R k hlt
  by_cases he : R[k] = ⟨#[]⟩
  ·have ha : R.all (fun s=>decide (s ≠ ⟨#[]⟩)) = false := List.all_eq_false.2 ⟨_,List.getElem_mem hlt,by simp [he]⟩
   rw [ha,Bool.false_and]
   (repeat' (first|apply zS|apply zB|((first|apply zR|apply zC|apply zT|apply zE|apply zK| refine zD 24 (by decide +kernel) (by kernel_rfl) ?_); simp only [go_sem,hli,hr,encS,he])|apply And.intro|intro _))
   all_goals first|omega|skip
  ·(repeat' (first|apply zS|apply zB|((first|apply zR|apply zC|apply zT|apply zE|apply zK| refine zD 24 (by decide +kernel) (by kernel_rfl) ?_); simp only [go_sem,hli,hr,encS,he])|apply And.intro|intro _))
   all_goals first|omega|exact ⟨k + 1,⟨by omega,fun i hi hik=>by
    rcases Nat.lt_or_ge i k with h|h
    ·exact hf i hi h
    ·have : i = k:=by omega
     subst this; exact he⟩,by omega,by (first|(and_intros <;> rfl)|simp)⟩|skip
 ·have hge : ¬ (k : Int) < R.length:=by omega
  have ha : R.all (fun s=>decide (s ≠ ⟨#[]⟩)) = true := List.all_eq_true.2 fun s hs=>by
   obtain ⟨i,hi,rfl⟩ := List.mem_iff_getElem.1 hs
   rw [decide_eq_true_eq]
   exact hf i hi (by omega)
  have e : decide ((0 ≤ cp ∧ cp ≤ 100000) ∧ (sizS R R.length : Int) ≤ cp ∧ ((R.length : Int) ≤ wr ∧ wr ≤ 1000000000000) ∧ 0 ≤ lo ∧ lo ≤ 1000000000000) = ((decide (0 ≤ cp) && decide (cp ≤ 100000)) && decide ((sizS R R.length : Int) ≤ cp) && (decide ((R.length : Int) ≤ wr) && decide (wr ≤ 1000000000000)) && (decide (0 ≤ lo) && decide (lo ≤ 1000000000000))) := by
   rw [Bool.eq_iff_iff]
   simp only [decide_eq_true_eq,Bool.and_eq_true]
   omega
  rw [ha,Bool.true_and,e]
  (repeat' (first|apply zS|apply zB|((first|apply zR|apply zC|apply zT|apply zE|apply zK| refine zD 24 (by decide +kernel) (by kernel_rfl) ?_); simp only [go_sem,hge])|apply And.intro|intro _))
  all_goals first|omega|rfl|skip
end
abbrev SeX := PcX × Tm × RgX × Int × Int × Int
def aggSe (x : SeX) : List SV := [.sl 2 (x.1.1.1.map encImage),.sl 1 (x.1.1.2.1.map encI),.sl 1 (x.1.1.2.2.map encI),.sl 7 (x.1.2.1.map encMach),.v (.int .i64 x.1.2.2.1),.v (.int .i64 x.1.2.2.2.1),.v (.int .i64 x.1.2.2.2.2),
 .v (.int .i64 x.2.1.period),.v (.int .i64 x.2.1.spread),.v (.int .i64 x.2.1.left),.v (.int .i64 x.2.1.state),.v (.int .i64 x.2.2.1.1),.sl 1 (x.2.2.1.2.1.map encS),.v (.int .i64 x.2.2.1.2.2.1),.v (.int .i64 x.2.2.1.2.2.2),
 .v (.int .i64 x.2.2.2.1),.v (.int .i64 x.2.2.2.2.1),.v (.int .i64 x.2.2.2.2.2)]
def seA (args : List SV) (i : Nat) : SeX := match args[i]? with
 |some (.agg [.sl _ a,.sl _ b,.sl _ c,.sl _ t,.v (.int _ x),.v (.int _ y),.v (.int _ z),.v (.int _ p),.v (.int _ q),.v (.int _ l),.v (.int _ st),.v (.int _ cp),.sl _ r,.v (.int _ wr),.v (.int _ lo),.v (.int _ m),.v (.int _ sp),.v (.int _ f)]) =>
  (((decImage a,decI b,decI c),decMach t,x,y,z),⟨p,q,l,st⟩,(cp,decS r,wr,lo),m,sp,f)
 | _=>((([],[],[]),[],0,0,0),⟨0,0,0,0⟩,(0,[],0,0),0,0,0)
attribute [local go_sem] seA aggSe
def sessOk (x : SeX) : Bool := procOk x.1 && tmOk x.2.1 && ringOk x.2.2.1 && decide ((0 ≤ x.2.2.2.1 ∧ x.2.2.2.1 ≤ 1200) ∧ (0 ≤ x.2.2.2.2.1 ∧ x.2.2.2.2.1 ≤ 1000000000000) ∧ 0 ≤ x.2.2.2.2.2 ∧ x.2.2.2.2.2 ≤ 1000000000000)
def preSe (x : SeX) : Prop := prePc x.1 ∧ x.2.2.1.2.1.length ≤ 4194304 ∧ sizS x.2.2.1.2.1 x.2.2.1.2.1.length ≤ 1099511627776
def kSeOk : Ctr := pur (fun args=>seA args 0) (fun x=>[.agg (aggSe x)]) preSe (fun _ x=>.v (.bool (sessOk x))) (fun _ _=>[])
def cntOkS (x : SeX) : Bool := (decide (0 ≤ x.2.2.2.2.1) && decide (x.2.2.2.2.1 ≤ 1000000000000)) && (decide (0 ≤ x.2.2.2.2.2) && decide (x.2.2.2.2.2 ≤ 1000000000000)) && (decide (0 ≤ x.2.2.1.2.2.1) && decide (x.2.2.1.2.2.1 ≤ 1000000000000)) && (decide (0 ≤ x.2.2.1.2.2.2) && decide (x.2.2.1.2.2.2 ≤ 1000000000000))
def kCntOk : Ctr := pur (fun args=>seA args 0) (fun x=>[.agg (aggSe x)]) (fun _=>True) (fun _ x=>.v (.bool (cntOkS x))) (fun _ _=>[])
section
noncomputable def cxCoI := mkX [(37,k60)] (COk.cons c60 (COk.nil _))
theorem cxCoI_t : cxCoI.tys = tys := rfl
theorem cxCoI_c : cxCoI.C = [(37,k60)] := rfl
attribute [local go_sem] cxCoI_t cxCoI_c k60
theorem cCntOkI : Cn Tryz.prog 61 kCntOk := by
 refine Cn.pur Tryz.func61 (by kernel_rfl) rfl fun d x hx=>?_
 obtain ⟨⟨⟨I,B,E⟩,T,tu,le,sl⟩,⟨p,q,l,st⟩,⟨cp,R,wr,lo⟩,mo,sp,fi⟩ := x
 simp only [aggSe]
 have e : cntOkS (((I,B,E),T,tu,le,sl),⟨p,q,l,st⟩,(cp,R,wr,lo),mo,sp,fi) = ((decide (0 ≤ sp) && decide (sp ≤ 1000000000000)) && (decide (0 ≤ fi) && decide (fi ≤ 1000000000000)) && (decide (0 ≤ wr) && decide (wr ≤ 1000000000000)) && (decide (0 ≤ lo) && decide (lo ≤ 1000000000000))) := rfl
 rw [e]
 refine Holds.go (c := cxCoI) Tryz.func61 rfl Tryz.results61 Tryz.ntmps61 (by omega) (by simp) rfl ?_
 intro X0 w0
 (repeat' (first|apply zS|apply zB|((first|apply zR|apply zC|apply zT|apply zE|apply zK);simp only [go_sem])|apply And.intro|intro _))
 all_goals first|omega|rfl|skip
end
section
noncomputable def LcxSoI : CL := [(37,k60),(58,kPcOk),(59,kTmOk),(60,kRgOk),(61,kCntOk)]
noncomputable def cxSoI := mkX LcxSoI (COk.cons c60 (COk.cons cPcOkI (COk.cons cTmOkI (COk.cons cRgOkI (COk.cons cCntOkI (COk.nil _))))))
theorem cxSoI_t : cxSoI.tys = tys := rfl
theorem cxSoI_c : cxSoI.C = LcxSoI := rfl
attribute [local go_sem] cxSoI_t cxSoI_c LcxSoI k60 kPcOk kTmOk kRgOk kCntOk
theorem cSeOkI : Cn Tryz.prog 27 kSeOk := by
 refine Cn.pur Tryz.func27 (by kernel_rfl) rfl fun d x hx=>?_
 obtain ⟨⟨⟨I,B,E⟩,T,tu,le,sl⟩,⟨p,q,l,st⟩,⟨cp,R,wr,lo⟩,mo,sp,fi⟩ := x
 obtain ⟨hP,hR,hz⟩ := hx
 simp only [aggSe] at hP hR hz ⊢
 have e : sessOk (((I,B,E),T,tu,le,sl),⟨p,q,l,st⟩,(cp,R,wr,lo),mo,sp,fi) = (procOk ((I,B,E),T,tu,le,sl) && tmOk ⟨p,q,l,st⟩ && ringOk (cp,R,wr,lo) && (decide (0 ≤ mo) && decide (mo ≤ 1200)) && cntOkS (((I,B,E),T,tu,le,sl),⟨p,q,l,st⟩,(cp,R,wr,lo),mo,sp,fi)) := by
  rw [Bool.eq_iff_iff]
  simp only [sessOk,cntOkS,Bool.and_eq_true,decide_eq_true_eq]
  constructor
  ·rintro ⟨⟨⟨h1,h2⟩,h3⟩,h4⟩
   have h5 := h3
   unfold ringOk at h5
   simp only [Bool.and_eq_true,decide_eq_true_eq] at h5
   refine ⟨⟨⟨⟨h1,h2⟩,h3⟩,?_⟩,?_⟩ <;> omega
  ·rintro ⟨⟨⟨⟨h1,h2⟩,h3⟩,h4⟩,h5⟩
   refine ⟨⟨⟨h1,h2⟩,h3⟩,?_⟩
   omega
 rw [e]
 refine Holds.go (c := cxSoI) Tryz.func27 rfl Tryz.results27 Tryz.ntmps27 (by omega) (by simp) rfl ?_
 intro X0 w0
 (repeat' (first|apply zS|apply zB|((first|apply zR|apply zC|apply zT|apply zE|apply zK);simp only [go_sem])|apply And.intro|intro _))
 all_goals first|omega|exact hP|exact hP.1|exact hP.2.1|exact hP.2.2|exact hP.2.2 _ ‹_›|exact hP.1.1|exact hP.1.1.1|exact hP.1.1.2|exact hP.1.1.2 _ ‹_›|exact (hP.1.1.2 _ ‹_›).1|exact (hP.1.1.2 _ ‹_›).2.1|exact (hP.1.1.2 _ ‹_›).2.2 _ ‹_›|exact hP.1.2.1|exact hP.1.2.2|rfl|(rename_i h; first|exact h.1|exact h.2|exact h.1.1|exact h.1.2)|skip
end
section
noncomputable def cxSoS := mkX [(36,k60),(43,kPcOk),(44,kTmOk),(45,kRgOk)] (COk.cons c58 (COk.cons cPcOkS (COk.cons cTmOkS (COk.cons cRgOkS (COk.nil _)))))
theorem cxSoS_t : cxSoS.tys = tys := rfl
theorem cxSoS_c : cxSoS.C = [(36,k60),(43,kPcOk),(44,kTmOk),(45,kRgOk)] := rfl
attribute [local go_sem] cxSoS_t cxSoS_c k60 kPcOk kTmOk kRgOk
theorem cSeOkS : Cn Tryz.prog 17 kSeOk := by
 refine Cn.pur Tryz.func17 (by kernel_rfl) rfl fun d x hx=>?_
 obtain ⟨⟨⟨I,B,E⟩,T,tu,le,sl⟩,⟨p,q,l,st⟩,⟨cp,R,wr,lo⟩,mo,sp,fi⟩ := x
 obtain ⟨hP,hR,hz⟩ := hx
 simp only [aggSe] at hP hR hz ⊢
 have e : sessOk (((I,B,E),T,tu,le,sl),⟨p,q,l,st⟩,(cp,R,wr,lo),mo,sp,fi) = (procOk ((I,B,E),T,tu,le,sl) && tmOk ⟨p,q,l,st⟩ && ringOk (cp,R,wr,lo) && (decide (0 ≤ mo) && decide (mo ≤ 1200)) && (decide (0 ≤ sp) && decide (sp ≤ 1000000000000)) && (decide (0 ≤ fi) && decide (fi ≤ 1000000000000))) := by
  rw [Bool.eq_iff_iff]
  simp only [sessOk,Bool.and_eq_true,decide_eq_true_eq,and_assoc]
 rw [e]
 refine Holds.go (c := cxSoS) Tryz.func17 rfl Tryz.results17 Tryz.ntmps17 (by omega) (by simp) rfl ?_
 intro X0 w0
 (repeat' (first|apply zS|apply zB|((first|apply zR|apply zC|apply zT|apply zE|apply zK);simp only [go_sem])|apply And.intro|intro _))
 all_goals first|omega|exact hP|exact hP.1|exact hP.2.1|exact hP.2.2|exact hP.2.2 _ ‹_›|exact hP.1.1|exact hP.1.1.1|exact hP.1.1.2|exact hP.1.1.2 _ ‹_›|exact (hP.1.1.2 _ ‹_›).1|exact (hP.1.1.2 _ ‹_›).2.1|exact (hP.1.1.2 _ ‹_›).2.2 _ ‹_›|exact hP.1.2.1|exact hP.1.2.2|rfl|(rename_i h; first|exact h.1|exact h.2|exact h.1.1|exact h.1.2)|skip
end
end Go.Proofs.YtoomncljmgcidaaGreat

namespace Go.Proofs.YtoomncljmgcidaaGreat
def szA (n : Nat) (l : Int) : Int := if l - n < 0 then -1 else l - n
def szL : List (Int → Int) → Int → Int
 | [],l=>l
 |f :: fs,l=>if f l < 0 then -1 else szL fs (f l)
theorem szL_drop (F : List (Int → Int)) (k : Nat) (l : Int) (h : k < F.length) : szL (F.drop k) l = if F[k] l < 0 then -1 else szL (F.drop (k + 1)) (F[k] l) := by
 rw [List.drop_eq_getElem_cons h]; rfl
def szList (F : List (Int → Int)) (l : Int) : Int := if l - F.length < 0 then -1 else szL F (l - F.length)
def Szf (f : Int → Int) : Prop := ∀ l,0 ≤ l → -1 ≤ f l ∧ f l ≤ l
theorem szA_f (n : Nat) : Szf (szA n) := fun l h=>by unfold szA; split <;> omega
theorem szL_f : ∀ (F : List (Int → Int)),(∀ f ∈ F,Szf f) → Szf (szL F)
 | [],_,l,h=>by unfold szL; omega
 |f :: fs,hF,l,h=>by
  have h1 := hF f List.mem_cons_self l h
  unfold szL
  split
  ·omega
  ·have := szL_f fs (fun g hg=>hF g (List.mem_cons_of_mem _ hg)) (f l) (by omega)
   omega
theorem szList_f (F : List (Int → Int)) (hF : ∀ f ∈ F,Szf f) : Szf (szList F) := fun l h=>by
 unfold szList
 split
 ·omega
 ·have := szL_f F hF (l - F.length) (by omega)
  omega
theorem szL_ok : ∀ (F : List (Int → Int)) (l : Int),(∀ f ∈ F,Szf f) → 0 ≤ l → 0 ≤ szL F l → ∀ f ∈ F,∃ r,0 ≤ r ∧ r ≤ l ∧ 0 ≤ f r
 | [],l,_,_,_=>by simp
 |g :: fs,l,hF,h0,h=>by
  have h1 := hF g List.mem_cons_self l h0
  unfold szL at h
  split at h
  ·omega
  ·rename_i hg
   intro f hf
   rcases List.mem_cons.1 hf with rfl|hf
   ·exact ⟨l,h0,by omega,by omega⟩
   ·obtain ⟨r,a,b,c⟩ := szL_ok fs (g l) (fun g hg=>hF g (List.mem_cons_of_mem _ hg)) (by omega) h f hf
    exact ⟨r,a,by omega,c⟩
theorem szList_ok {F : List (Int → Int)} {l : Int} (hF : ∀ f ∈ F,Szf f) (h : 0 ≤ szList F l) : F.length ≤ l ∧ ∀ f ∈ F,∃ r,0 ≤ r ∧ r ≤ l ∧ 0 ≤ f r := by
 unfold szList at h
 split at h
 ·omega
 ·refine ⟨by omega,fun f hf=>?_⟩
  obtain ⟨r,a,b,c⟩ := szL_ok F (l - F.length) hF (by omega) h f hf
  exact ⟨r,a,by omega,c⟩
theorem szf_neg {f : Int → Int} (hf : Szf f) {l : Int} (h0 : 0 ≤ l) (h : f l < 0) : f l = -1:=by have := hf l h0; omega
def szT (f g : Int → Int) (l : Int) : Int := if f l < 0 then -1 else g (f l)
theorem szT_f {f g : Int → Int} (hf : Szf f) (hg : Szf g) : Szf (szT f g) := fun l h=>by
 have h1 := hf l h
 unfold szT
 split
 ·omega
 ·have := hg (f l) (by omega); omega
theorem szT_ok {f g : Int → Int} (hf : Szf f) {l : Int} (h0 : 0 ≤ l) (h : 0 ≤ szT f g l) : 0 ≤ f l ∧ f l ≤ l ∧ 0 ≤ g (f l) := by
 have h1 := hf l h0
 unfold szT at h
 split at h <;> omega
theorem szGo_f : ∀ (L : List Nat),Szf (szGo L)
 | [],l,h=>by unfold szGo; omega
 |n :: L,l,h=>by
  unfold szGo
  split
  ·omega
  ·have := szGo_f L (l - n) (by omega); omega
end Go.Proofs.YtoomncljmgcidaaGreat

namespace Go.Proofs.YtoomncljmgcidaaGreat
open Go.Vc
attribute [local irreducible] Go.Vc.WP
attribute [local go_sem] cx0_t cx0_c
def marksS (k : Int) (n : Nat) : List ByteArray := (List.range n).map fun i : Nat=>markT (k + (i : Int))
theorem marksS_len (k : Int) (n : Nat) : (marksS k n).length = n:=by simp [marksS]
def halfS (L : List ByteArray) (k0 : Int) (k : Nat) : List ByteArray := marksS k0 k ++ L.drop k
theorem halfS_len (L : List ByteArray) (k0 : Int) (k : Nat) (h : k ≤ L.length) : (halfS L k0 k).length = L.length:=by simp [halfS,marksS_len]; omega
theorem halfS_set (L : List ByteArray) (k0 : Int) (k : Nat) (h : k < L.length) : ((halfS L k0 k).map encS).set k (encS (markT (k0 + k))) = (halfS L k0 (k + 1)).map encS := by
 rw [← List.map_set]
 congr 1
 unfold halfS
 rw [List.set_append,if_neg (by simp [marksS_len]),marksS_len,Nat.sub_self,List.drop_eq_getElem_cons h,List.set_cons_zero]
 simp [marksS,List.range_succ]
section
noncomputable def cxMs := mkX [(108,kmarkT)] (COk.cons cmarkT (COk.nil _))
theorem cxMs_t : cxMs.tys = tys := rfl
theorem cxMs_c : cxMs.C = [(108,kmarkT)] := rfl
attribute [local go_sem] cxMs_t cxMs_c kmarkT
def kheldS : Ctr := pur (fun args=>(decS (aR args 0),aI args 1)) (fun x=>[.sl 1 (x.1.map encS),.v (.int .i64 x.2)]) (fun x=>x.1.length ≤ 4398046511104 ∧ 0 ≤ x.2 ∧ x.2 ≤ 500000000000000)
 (fun _ x=>.v (.int .i64 (if x.1 = marksS x.2 x.1.length then x.2 + x.1.length else -1))) (fun _ _=>[])
theorem cheldS : Cn Tryz.prog 77 kheldS := by
 refine Cn.pur Tryz.func77 (by kernel_rfl) rfl fun d x hx=>?_
 obtain ⟨L,k0⟩ := x
 obtain ⟨hL,h0,h1⟩ := hx
 simp only at hL h0 h1 ⊢
 refine Holds.go (c := cxMs) Tryz.func77 rfl Tryz.results77 Tryz.ntmps77 (by omega) (by simp) rfl ?_
 intro X0 w0
 (repeat' (first|apply zS|apply zB|((first|apply zR|apply zC|apply zT|apply zE|apply zK| refine zD 7 (by decide +kernel) (by kernel_rfl) ?_); simp only [go_sem])|apply And.intro|intro _))
 refine zL (fun k : Nat=>⟨[(0,.sl 1 (L.map encS)),(1,.v (.int .i64 (k0 + k))),(5,.v (.int .i64 k))],[]⟩) (fun k=>k ≤ L.length ∧ L.take k = marksS k0 k) (fun k=>L.length - k) 0 (by simp [marksS]) ?_ ?_
 ·(simp only [go_sem] <;> (first|(and_intros <;> rfl)|simp))
 intro k ⟨hk,ht⟩
 by_cases hlt : k < L.length
 ·have h3 := rowAt_map encS L k hlt
  (repeat' (first|apply zS|apply zB|((first|apply zR|apply zC|apply zT|apply zE|apply zK| refine zD 7 (by decide +kernel) (by kernel_rfl) ?_); simp only [go_sem,h3,encS])|apply And.intro|intro _))
  all_goals first|omega|skip
  ·rename_i hne
   rw [if_neg]
   intro e
   apply hne
   have e2 : L[k] = (marksS k0 L.length)[k]'(by rw [marksS_len]; exact hlt):=by congr 1
   rw [e2]; simp [marksS]
  ·rename_i he
   refine ⟨k + 1,⟨by omega,?_⟩,by omega,?_,rfl⟩
   ·rw [List.take_succ_eq_append_getElem hlt,ht,he]; simp [marksS,List.range_succ]
   ·rw [show k0 + (k : Int) + 1 = k0 + ((k + 1 : Nat) : Int) by omega]
 ·(repeat' (first|apply zS|apply zB|((first|apply zR|apply zC|apply zT|apply zE|apply zK| refine zD 7 (by decide +kernel) (by kernel_rfl) ?_); simp only [go_sem])|apply And.intro|intro _))
  all_goals first|omega|skip
  rw [show k = L.length by omega,List.take_length] at ht
  rw [if_pos ht,show k = L.length by omega]
end
end Go.Proofs.YtoomncljmgcidaaGreat

namespace Go.Proofs.YtoomncljmgcidaaGreat
open Go.Vc
attribute [local irreducible] Go.Vc.WP
attribute [local go_sem] cx0_t cx0_c
attribute [local go_sem] decS_enc
def szvStr (L : List ByteArray) : Int → Int := szList (L.map fun s=>szA s.size)
def kszStr : Ctr := pur (fun args=>(decS (aR args 0),aI args 1)) (fun x=>[.sl 1 (x.1.map encS),.v (.int .i64 x.2)]) (fun x=>x.1.length ≤ maxLen ∧ (∀ s ∈ x.1,s.size ≤ maxLen) ∧ 0 ≤ x.2 ∧ x.2 ≤ 1048576)
 (fun _ x=>.v (.int .i64 (szvStr x.1 x.2))) (fun _ _=>[])
section
noncomputable def cxZs := mkX [] (COk.nil _)
theorem cxZs_t : cxZs.tys = tys := rfl
theorem cxZs_c : cxZs.C = [] := rfl
attribute [local go_sem] cxZs_t cxZs_c
theorem cszStr : Cn Tryz.prog 40 kszStr := by
 refine Cn.pur Tryz.func40 (by kernel_rfl) rfl fun d x hx=>?_
 obtain ⟨L,left⟩ := x
 obtain ⟨hL,hs,h0,h1⟩ := hx
 simp only at hL hs h0 h1 ⊢
 have hm : maxLen = 9223372036854775807 := rfl
 generalize hF : (L.map fun s=>szA s.size) = F
 have hlen : F.length = L.length:=by rw [← hF,List.length_map]
 have hsz : szvStr L left = szList F left:=by rw [← hF]; rfl
 rw [hsz]
 refine Holds.go (c := cxZs) Tryz.func40 rfl Tryz.results40 Tryz.ntmps40 (by omega) (by simp) rfl ?_
 intro X0 w0
 (repeat' (first|apply zS|apply zB|((first|apply zR|apply zC|apply zT|apply zE|apply zK);simp only [go_sem])|apply And.intro|intro _))
 all_goals first|omega|skip
 ·rename_i h; rw [szList,hlen,if_pos h]
 rename_i hge
 refine zL (fun s : Nat × Int=>⟨[(0,.sl 1 (L.map encS)),(1,.v (.int .i64 s.2)),(5,.v (.int .i64 s.1))],[]⟩)
  (fun s=>s.1 ≤ L.length ∧ 0 ≤ s.2 ∧ s.2 ≤ 1048576 ∧ szList F left = szL (F.drop s.1) s.2) (fun s=>L.length - s.1) (0,left - L.length)
  ⟨by simp,by simpa using hge,by simp only; omega,by rw [szList,hlen,if_neg (by omega)]; rfl⟩ ?_ ?_
 ·simp only [go_sem]; first|exact ⟨rfl,rfl⟩|rfl
 rintro ⟨k,r⟩ ⟨hk,hr0,hr1,he⟩
 simp only at hk hr0 hr1 he ⊢
 by_cases hlt : k < L.length
 ·have h2 := rowAt_map encS L k hlt
  have h3 := hs _ (List.getElem_mem hlt)
  have hFk : F[k]'(by omega) = szA L[k].size:=by subst hF; simp
  have h4 := szL_drop F k r (by omega)
  rw [hFk] at h4
  have hu : szA L[k].size r = if r - (L[k].size : Int) < 0 then -1 else r - (L[k].size : Int) := rfl
  by_cases h5 : r - (L[k].size : Int) < 0
  ·rw [if_pos h5] at hu
   rw [he,h4,hu,if_pos (by omega)]
   (repeat' (first|apply zS|apply zB|((first|apply zR|apply zC|apply zT|apply zE|apply zK);simp only [go_sem,h2,encS,h5])|apply And.intro|intro _))
   all_goals first|omega|skip
  ·rw [if_neg h5] at hu
   rw [hu,if_neg h5] at h4
   (repeat' (first|apply zS|apply zB|((first|apply zR|apply zC|apply zT|apply zE|apply zK);simp only [go_sem,h2,encS,h5])|apply And.intro|intro _))
   all_goals first|omega|exact ⟨(k + 1,r - L[k].size),⟨by simp only; omega,by simp only; omega,by simp only; omega,by rw [he,h4]⟩,by simp only; omega,rfl,rfl⟩|skip
 ·(repeat' (first|apply zS|apply zB|((first|apply zR|apply zC|apply zT|apply zE|apply zK);simp only [go_sem])|apply And.intro|intro _))
  all_goals first|omega|skip
  rw [he,List.drop_of_length_le (by omega)]
  rfl
end
def ktoSo : Ctr := pur (fun args=>decS (aR args 0)) (fun L=>[.sl 1 (L.map encS)]) (fun L=>L.length ≤ 2097152) (fun d _=>.own d) (fun d L=>[(d,.sl 9 1 (L.map encS))])
section
noncomputable def cxTso := mkX [] (COk.nil _)
theorem cxTso_t : cxTso.tys = tys := rfl
theorem cxTso_c : cxTso.C = [] := rfl
attribute [local go_sem] cxTso_t cxTso_c
theorem ctoSo : Cn Tryz.prog 55 ktoSo := by
 refine Cn.pur Tryz.func55 (by kernel_rfl) rfl fun d x hx=>?_
 rename List ByteArray=>L
 refine Holds.go (c := cxTso) Tryz.func55 rfl Tryz.results55 Tryz.ntmps55 (by omega) (by simp) rfl ?_
 intro X0 w0
 (repeat' (first|apply zS|apply zB|((first|apply zR|apply zC|apply zT|apply zE|apply zK);simp only [go_sem])|apply And.intro|intro _))
 all_goals first|omega|skip
 refine zL (fun k : Nat=>⟨[(0,.sl 1 (L.map encS)),(3,.own 7),(4,.v (.int .i64 k))],[(7,.sl 9 1 (filled encS [.v (.string ⟨#[]⟩)] L k))]⟩) (fun k=>k ≤ L.length) (fun k=>L.length - k) 0 (by omega) ?_ ?_
 ·rw [filled_zero]; simp only [go_sem]; rfl
 intro k hk
 by_cases hlt : k < L.length
 ·have h1 := rowAt_map encS L k hlt
  have h2 := filled_len encS [.v (.string ⟨#[]⟩)] L k hk
  have h3 := filled_row encS [.v (.string ⟨#[]⟩)] L k hlt
  have h4 := filled_set encS [.v (.string ⟨#[]⟩)] L k hlt
  rw [encS] at h4
  (repeat' (first|apply zS|apply zB|((first|apply zR|apply zC|apply zT|apply zE|apply zK);simp only [go_sem,h1,h2,h3,h4,encS])|apply And.intro|intro _))
  all_goals first|omega|skip
  exact ⟨k + 1,by omega,by omega,rfl,rfl⟩
 ·have h2 := filled_len encS [.v (.string ⟨#[]⟩)] L k hk
  have h5 : filled encS [.v (.string ⟨#[]⟩)] L k = L.map encS:=by rw [show k = L.length by omega]; exact filled_all _ _ _
  (repeat' (first|apply zS|apply zB|((first|apply zR|apply zC|apply zT|apply zE|apply zK);simp only [go_sem,h2,h5])|apply And.intro|intro _))
  all_goals first|omega|skip
end
def kmarkSE : Ctr := len [0] [] (fun args obs=>(decS (oR obs 1000000),aI args 1,oE obs 1000000)) (fun x=>[.own 1000000,.v (.int .i64 x.2.1)]) (fun x=>[(1000000,.sl x.2.2 1 (x.1.map encS))]) (fun x=>x.1.length ≤ 4398046511104 ∧ 0 ≤ x.2.1 ∧ x.2.1 ≤ 500000000000000)
 (fun _ x=>.v (.int .i64 (x.2.1 + x.1.length))) (fun _ _=>[]) (fun x=>[(1000000,.sl x.2.2 1 ((marksS x.2.1 x.1.length).map encS))])
section
noncomputable def cxMse := mkX [(108,kmarkT)] (COk.cons cmarkT (COk.nil _))
theorem cxMse_t : cxMse.tys = tys := rfl
theorem cxMse_c : cxMse.C = [(108,kmarkT)] := rfl
attribute [local go_sem] cxMse_t cxMse_c kmarkT
theorem cmarkSE : Cn Tryz.prog 74 kmarkSE := by
 refine Cn.len Tryz.func74 (by kernel_rfl) rfl fun d x hd hx=>?_
 obtain ⟨L,k0,ee⟩ := x
 obtain ⟨hL,h0,h1⟩ := hx
 simp only at hL h0 h1 ⊢
 refine HoldsL.go (c := cxMse) Tryz.func74 rfl Tryz.results74 Tryz.ntmps74 (by omega) (by simp) rfl (by simp <;> omega) (by simp [SV.owns2,SV.owns,SV.owns1]) (by simp) rfl rfl (by simp) ?_
 intro X0 M w0
 (repeat' (first|apply zS|apply zB|((first|apply zR|apply zC|apply zT|apply zE|apply zK);simp only [go_sem])|apply And.intro|intro _))
 refine zL (fun k : Nat=>⟨[(0,.own 1000000),(1,.v (.int .i64 (k0 + k))),(5,.v (.int .i64 k))],[(1000000,.sl ee 1 ((halfS L k0 k).map encS))]⟩) (fun k=>k ≤ L.length) (fun k=>L.length - k) 0 (by omega) ?_ ?_
 ·have e : halfS L k0 0 = L:=by simp [halfS,marksS]
  rw [e]; (simp only [go_sem] <;> (first|(and_intros <;> rfl)|simp))
 intro k hk
 have h2 := halfS_len L k0 k hk
 by_cases hlt : k < L.length
 ·have h3 := halfS_set L k0 k hlt
  rw [encS] at h3
  have h4 := rowAt_map encS (halfS L k0 k) k (by omega)
  (repeat' (first|apply zS|apply zB|((first|apply zR|apply zC|apply zT|apply zE|apply zK);simp only [go_sem,h2,h3,h4,encS])|apply And.intro|intro _))
  all_goals first|omega|skip
  refine ⟨k + 1,by omega,by omega,⟨?_,rfl⟩,rfl⟩
  rw [show k0 + (k : Int) + 1 = k0 + ((k + 1 : Nat) : Int) by omega]
 ·have h5 : halfS L k0 k = marksS k0 L.length:=by rw [show k = L.length by omega]; simp [halfS]
  have h6 := marksS_len k0 L.length
  (repeat' (first|apply zS|apply zB|((first|apply zR|apply zC|apply zT|apply zE|apply zK);simp only [go_sem,h2,h5,h6])|apply And.intro|intro _))
  all_goals first|omega|skip
  rw [show k = L.length by omega]
end
end Go.Proofs.YtoomncljmgcidaaGreat

namespace Go.Proofs.YtoomncljmgcidaaGreat
open Go.Vc
attribute [local irreducible] Go.Vc.WP
attribute [local go_sem] cx0_t cx0_c
open Go.Pl
attribute [local go_sem] decI_enc decImage_enc spA decS_enc decMach_enc oneMach_f mach_eta pcA rgA seA decSymbol_enc
theorem szvSymbol_f (Y : List Symbol) : Szf (szvSymbol Y) := fun l h=>by
 unfold szvSymbol
 split
 ·omega
 ·have := szGo_f (sizesSymbol Y) (l - Y.length) (by omega); omega
theorem szvSymbol_ok' {L : List Symbol} {l : Int} (h : 0 ≤ szvSymbol L l) : L.length ≤ l ∧ ∀ x ∈ L,x.name.size ≤ l := by
 unfold szvSymbol at h
 split at h
 ·omega
 ·rename_i h2
  refine ⟨by omega,fun x hx=>?_⟩
  have := szGo_ok (sizesSymbol L) _ (by omega) h x.name.size (List.mem_map.2 ⟨x,hx,rfl⟩)
  omega
def kszIn : Ctr := pur (fun args=>(decI (aR args 0),aI args 1)) (fun x=>[.sl 1 (x.1.map encI),.v (.int .i64 x.2)]) (fun x=>x.1.length ≤ maxLen ∧ 0 ≤ x.2 ∧ x.2 ≤ 1048576)
 (fun _ x=>.v (.int .i64 (szA x.1.length x.2))) (fun _ _=>[])
section
noncomputable def cxZi := mkX [] (COk.nil _)
theorem cxZi_t : cxZi.tys = tys := rfl
theorem cxZi_c : cxZi.C = [] := rfl
attribute [local go_sem] cxZi_t cxZi_c
theorem cszIn : Cn Tryz.prog 79 kszIn := by
 refine Cn.pur Tryz.func79 (by kernel_rfl) rfl fun d x hx=>?_
 obtain ⟨L,left⟩ := x
 obtain ⟨hL,h0,h1⟩ := hx
 simp only at hL h0 h1 ⊢
 have hm : maxLen = 9223372036854775807 := rfl
 refine Holds.go (c := cxZi) Tryz.func79 rfl Tryz.results79 Tryz.ntmps79 (by omega) (by simp) rfl ?_
 intro X0 w0
 (repeat' (first|apply zS|apply zB|((first|apply zR|apply zC|apply zT|apply zE|apply zK);simp only [go_sem])|apply And.intro|intro _))
 all_goals first|omega|skip
 ·rename_i h; rw [szA,if_pos h]
 ·rename_i h; rw [szA,if_neg (by omega)]
end
def szvImg (x : Image) : Int → Int := szT (szA x.code.size) (szvSymbol x.symbols)
def bigImg (x : Image) : Prop := x.code.size ≤ maxLen ∧ x.symbols.length ≤ maxLen ∧ ∀ r ∈ x.symbols,r.name.size ≤ maxLen
theorem szvImg_f (x : Image) : Szf (szvImg x) := szT_f (szA_f _) (szvSymbol_f _)
def kszImg : Ctr := pur (fun args=>(oneImage (aC args 0),aI args 1)) (fun x=>[.agg [.v (.string x.1.code),.sl 3 (x.1.symbols.map encSymbol)],.v (.int .i64 x.2)]) (fun x=>bigImg x.1 ∧ 0 ≤ x.2 ∧ x.2 ≤ 1048576)
 (fun _ x=>.v (.int .i64 (szvImg x.1 x.2))) (fun _ _=>[])
section
attribute [local go_sem] oneImage
noncomputable def cxZm := mkX [(129,kszSymbolS)] (COk.cons cszSymbolS (COk.nil _))
theorem cxZm_t : cxZm.tys = tys := rfl
theorem cxZm_c : cxZm.C = [(129,kszSymbolS)] := rfl
attribute [local go_sem] cxZm_t cxZm_c kszSymbolS
theorem cszImg : Cn Tryz.prog 111 kszImg := by
 refine Cn.pur Tryz.func111 (by kernel_rfl) rfl fun d x hx=>?_
 obtain ⟨⟨c,Y⟩,left⟩ := x
 obtain ⟨⟨hc,hY,hn⟩,h0,h1⟩ := hx
 simp only at hc hY hn h0 h1 ⊢
 have hm : maxLen = 9223372036854775807 := rfl
 have hu : szvImg ⟨c,Y⟩ left = if szA c.size left < 0 then -1 else szvSymbol Y (szA c.size left) := rfl
 have ha : szA c.size left = if left - (c.size : Int) < 0 then -1 else left - (c.size : Int) := rfl
 refine Holds.go (c := cxZm) Tryz.func111 rfl Tryz.results111 Tryz.ntmps111 (by omega) (by simp) rfl ?_
 intro X0 w0
 by_cases h5 : left - (c.size : Int) < 0
 ·rw [if_pos h5] at ha
  rw [hu,ha,if_pos (by omega)]
  (repeat' (first|apply zS|apply zB|((first|apply zR|apply zC|apply zT|apply zE|apply zK);simp only [go_sem,h5])|apply And.intro|intro _))
  all_goals first|omega|skip
 ·rw [if_neg h5] at ha
  rw [hu,ha,if_neg h5]
  (repeat' (first|apply zS|apply zB|((first|apply zR|apply zC|apply zT|apply zE|apply zK);simp only [go_sem,h5])|apply And.intro|intro _))
  all_goals first|omega|exact hn _ ‹_›|skip
  all_goals first|(rename_i h; exact (by rw [szf_neg (szvSymbol_f Y) (by omega) h]))|skip
end
end Go.Proofs.YtoomncljmgcidaaGreat

namespace Go.Proofs.YtoomncljmgcidaaGreat
open Go.Vc
attribute [local irreducible] Go.Vc.WP
attribute [local go_sem] cx0_t cx0_c
open Go.Pl
attribute [local go_sem] decI_enc decImage_enc spA decS_enc decMach_enc oneMach_f mach_eta pcA rgA seA decSymbol_enc
attribute [local irreducible] bigImg
def szvImageS (L : List Image) : Int → Int := szList (L.map szvImg)
theorem szvImageS_f (L : List Image) : Szf (szvImageS L) := szList_f _ (by simp only [List.mem_map]; rintro _ ⟨x,_,rfl⟩; exact szvImg_f x)
def kszImgS : Ctr := pur (fun args=>(decImage (aR args 0),aI args 1)) (fun x=>[.sl 2 (x.1.map encImage),.v (.int .i64 x.2)]) (fun x=>x.1.length ≤ maxLen ∧ (∀ s ∈ x.1,bigImg s) ∧ 0 ≤ x.2 ∧ x.2 ≤ 1048576)
 (fun _ x=>.v (.int .i64 (szvImageS x.1 x.2))) (fun _ _=>[])
section
attribute [local go_sem] oneImage
noncomputable def cxZms := mkX [(111,kszImg)] (COk.cons cszImg (COk.nil _))
theorem cxZms_t : cxZms.tys = tys := rfl
theorem cxZms_c : cxZms.C = [(111,kszImg)] := rfl
attribute [local go_sem] cxZms_t cxZms_c kszImg
theorem cszImgS : Cn Tryz.prog 78 kszImgS := by
 refine Cn.pur Tryz.func78 (by kernel_rfl) rfl fun d x hx=>?_
 obtain ⟨L,left⟩ := x
 obtain ⟨hL,hs,h0,h1⟩ := hx
 simp only at hL hs h0 h1 ⊢
 have hm : maxLen = 9223372036854775807 := rfl
 generalize hF : (L.map szvImg) = F
 have hlen : F.length = L.length:=by rw [← hF,List.length_map]
 have hsz : szvImageS L left = szList F left:=by rw [← hF]; rfl
 rw [hsz]
 refine Holds.go (c := cxZms) Tryz.func78 rfl Tryz.results78 Tryz.ntmps78 (by omega) (by simp) rfl ?_
 intro X0 w0
 (repeat' (first|apply zS|apply zB|((first|apply zR|apply zC|apply zT|apply zE|apply zK);simp only [go_sem])|apply And.intro|intro _))
 all_goals first|omega|skip
 ·rename_i h; rw [szList,hlen,if_pos h]
 rename_i hge
 refine zL (fun s : Nat × Int=>⟨[(0,.sl 2 (L.map encImage)),(1,.v (.int .i64 s.2)),(5,.v (.int .i64 s.1))],[]⟩)
  (fun s=>s.1 ≤ L.length ∧ 0 ≤ s.2 ∧ s.2 ≤ 1048576 ∧ szList F left = szL (F.drop s.1) s.2) (fun s=>L.length - s.1) (0,left - L.length)
  ⟨by simp,by simpa using hge,by simp only; omega,by rw [szList,hlen,if_neg (by omega)]; rfl⟩ ?_ ?_
 ·simp only [go_sem]; first|exact ⟨rfl,rfl⟩|rfl
 rintro ⟨k,r⟩ ⟨hk,hr0,hr1,he⟩
 simp only at hk hr0 hr1 he ⊢
 by_cases hlt : k < L.length
 ·have h2 := rowAt_map encImage L k hlt
  have h3 := hs _ (List.getElem_mem hlt)
  have hFk : F[k]'(by omega) = szvImg L[k]:=by subst hF; simp
  have h4 := szL_drop F k r (by omega)
  rw [hFk] at h4
  have h6 := szvImg_f L[k] r hr0
  by_cases h5 : szvImg L[k] r < 0
  ·rw [he,h4,if_pos h5]
   (repeat' (first|apply zS|apply zB|((first|apply zR|apply zC|apply zT|apply zE|apply zK);simp only [go_sem,h2,encImage,h5])|apply And.intro|intro _))
   all_goals first|omega|exact h3|skip
  ·rw [if_neg h5] at h4
   (repeat' (first|apply zS|apply zB|((first|apply zR|apply zC|apply zT|apply zE|apply zK);simp only [go_sem,h2,encImage,h5])|apply And.intro|intro _))
   all_goals first|omega|exact h3|exact ⟨(k + 1,szvImg L[k] r),⟨by simp only; omega,by simp only; omega,by simp only; omega,by rw [he,h4]⟩,by simp only; omega,rfl,rfl⟩|skip
 ·(repeat' (first|apply zS|apply zB|((first|apply zR|apply zC|apply zT|apply zE|apply zK);simp only [go_sem])|apply And.intro|intro _))
  all_goals first|omega|skip
  rw [he,List.drop_of_length_le (by omega)]
  rfl
end
def szvMach (x : Mach) : Int → Int := szT (szA x.stack.length) (szA x.out.length)
theorem szvMach_f (x : Mach) : Szf (szvMach x) := szT_f (szA_f _) (szA_f _)
def bigMach (x : Mach) : Prop := x.stack.length ≤ maxLen ∧ x.out.length ≤ maxLen
def kszMach : Ctr := pur (fun args=>(oneMach (aC args 0),aI args 1)) (fun x=>[.agg [.v (.int .i64 x.1.pc),.v (.int .i64 x.1.sp),.v (.int .i64 x.1.fp),.sl 1 (x.1.stack.map encI),.sl 1 (x.1.out.map encI),.v (.int .i64 x.1.state),.v (.int .i64 x.1.value)],.v (.int .i64 x.2)]) (fun x=>bigMach x.1 ∧ 0 ≤ x.2 ∧ x.2 ≤ 1048576)
 (fun _ x=>.v (.int .i64 (szvMach x.1 x.2))) (fun _ _=>[])
section
noncomputable def cxZa := mkX [(79,kszIn)] (COk.cons cszIn (COk.nil _))
theorem cxZa_t : cxZa.tys = tys := rfl
theorem cxZa_c : cxZa.C = [(79,kszIn)] := rfl
attribute [local go_sem] cxZa_t cxZa_c kszIn
theorem cszMach : Cn Tryz.prog 80 kszMach := by
 refine Cn.pur Tryz.func80 (by kernel_rfl) rfl fun d x hx=>?_
 obtain ⟨⟨a,b,c,s,o,d2,e2⟩,left⟩ := x
 obtain ⟨⟨hs,ho⟩,h0,h1⟩ := hx
 simp only at hs ho h0 h1 ⊢
 have hu : szvMach ⟨a,b,c,s,o,d2,e2⟩ left = if szA s.length left < 0 then -1 else szA o.length (szA s.length left) := rfl
 have ha := szA_f s.length left h0
 rw [hu]
 refine Holds.go (c := cxZa) Tryz.func80 rfl Tryz.results80 Tryz.ntmps80 (by omega) (by simp) rfl ?_
 intro X0 w0
 by_cases h5 : szA s.length left < 0
 ·rw [if_pos h5]
  (repeat' (first|apply zS|apply zB|((first|apply zR|apply zC|apply zT|apply zE|apply zK);simp only [go_sem,h5])|apply And.intro|intro _))
  all_goals first|omega|skip
 ·rw [if_neg h5]
  (repeat' (first|apply zS|apply zB|((first|apply zR|apply zC|apply zT|apply zE|apply zK);simp only [go_sem,h5])|apply And.intro|intro _))
  all_goals first|omega|(rename_i h; rw [szf_neg (szA_f _) (by omega) h])|skip
end
attribute [local irreducible] bigMach
def szvMachS (L : List Mach) : Int → Int := szList (L.map szvMach)
theorem szvMachS_f (L : List Mach) : Szf (szvMachS L) := szList_f _ (by simp only [List.mem_map]; rintro _ ⟨x,_,rfl⟩; exact szvMach_f x)
def kszMachS : Ctr := pur (fun args=>(decMach (aR args 0),aI args 1)) (fun x=>[.sl 7 (x.1.map encMach),.v (.int .i64 x.2)]) (fun x=>x.1.length ≤ maxLen ∧ (∀ s ∈ x.1,bigMach s) ∧ 0 ≤ x.2 ∧ x.2 ≤ 1048576)
 (fun _ x=>.v (.int .i64 (szvMachS x.1 x.2))) (fun _ _=>[])
section
attribute [local go_sem] oneMach
noncomputable def cxZas := mkX [(80,kszMach)] (COk.cons cszMach (COk.nil _))
theorem cxZas_t : cxZas.tys = tys := rfl
theorem cxZas_c : cxZas.C = [(80,kszMach)] := rfl
attribute [local go_sem] cxZas_t cxZas_c kszMach
theorem cszMachS : Cn Tryz.prog 39 kszMachS := by
 refine Cn.pur Tryz.func39 (by kernel_rfl) rfl fun d x hx=>?_
 obtain ⟨L,left⟩ := x
 obtain ⟨hL,hs,h0,h1⟩ := hx
 simp only at hL hs h0 h1 ⊢
 have hm : maxLen = 9223372036854775807 := rfl
 generalize hF : (L.map szvMach) = F
 have hlen : F.length = L.length:=by rw [← hF,List.length_map]
 have hsz : szvMachS L left = szList F left:=by rw [← hF]; rfl
 rw [hsz]
 refine Holds.go (c := cxZas) Tryz.func39 rfl Tryz.results39 Tryz.ntmps39 (by omega) (by simp) rfl ?_
 intro X0 w0
 (repeat' (first|apply zS|apply zB|((first|apply zR|apply zC|apply zT|apply zE|apply zK);simp only [go_sem])|apply And.intro|intro _))
 all_goals first|omega|skip
 ·rename_i h; rw [szList,hlen,if_pos h]
 rename_i hge
 refine zL (fun s : Nat × Int=>⟨[(0,.sl 7 (L.map encMach)),(1,.v (.int .i64 s.2)),(5,.v (.int .i64 s.1))],[]⟩)
  (fun s=>s.1 ≤ L.length ∧ 0 ≤ s.2 ∧ s.2 ≤ 1048576 ∧ szList F left = szL (F.drop s.1) s.2) (fun s=>L.length - s.1) (0,left - L.length)
  ⟨by simp,by simpa using hge,by simp only; omega,by rw [szList,hlen,if_neg (by omega)]; rfl⟩ ?_ ?_
 ·simp only [go_sem]; first|exact ⟨rfl,rfl⟩|rfl
 rintro ⟨k,r⟩ ⟨hk,hr0,hr1,he⟩
 simp only at hk hr0 hr1 he ⊢
 by_cases hlt : k < L.length
 ·have h2 := rowAt_map encMach L k hlt
  have h3 := hs _ (List.getElem_mem hlt)
  have hFk : F[k]'(by omega) = szvMach L[k]:=by subst hF; simp
  have h4 := szL_drop F k r (by omega)
  rw [hFk] at h4
  have h6 := szvMach_f L[k] r hr0
  by_cases h5 : szvMach L[k] r < 0
  ·rw [he,h4,if_pos h5]
   (repeat' (first|apply zS|apply zB|((first|apply zR|apply zC|apply zT|apply zE|apply zK);simp only [go_sem,h2,encMach,h5])|apply And.intro|intro _))
   all_goals first|omega|exact h3|skip
  ·rw [if_neg h5] at h4
   (repeat' (first|apply zS|apply zB|((first|apply zR|apply zC|apply zT|apply zE|apply zK);simp only [go_sem,h2,encMach,h5])|apply And.intro|intro _))
   all_goals first|omega|exact h3|exact ⟨(k + 1,szvMach L[k] r),⟨by simp only; omega,by simp only; omega,by simp only; omega,by rw [he,h4]⟩,by simp only; omega,rfl,rfl⟩|skip
 ·(repeat' (first|apply zS|apply zB|((first|apply zR|apply zC|apply zT|apply zE|apply zK);simp only [go_sem])|apply And.intro|intro _))
  all_goals first|omega|skip
  rw [he,List.drop_of_length_le (by omega)]
  rfl
end
abbrev SpX := List Image × List Int × List Int
def szvSp (x : SpX) : Int → Int := szT (szvImageS x.1) (szT (szA x.2.1.length) (szA x.2.2.length))
theorem szvSp_f (x : SpX) : Szf (szvSp x) := szT_f (szvImageS_f _) (szT_f (szA_f _) (szA_f _))
def bigSp (x : SpX) : Prop := (x.1.length ≤ maxLen ∧ ∀ s ∈ x.1,bigImg s) ∧ x.2.1.length ≤ maxLen ∧ x.2.2.length ≤ maxLen
def kszSp : Ctr := pur (fun args=>(spA args 0,aI args 1)) (fun x=>[.agg [.sl 2 (x.1.1.map encImage),.sl 1 (x.1.2.1.map encI),.sl 1 (x.1.2.2.map encI)],.v (.int .i64 x.2)]) (fun x=>bigSp x.1 ∧ 0 ≤ x.2 ∧ x.2 ≤ 1048576)
 (fun _ x=>.v (.int .i64 (szvSp x.1 x.2))) (fun _ _=>[])
section
noncomputable def cxZp := mkX [(79,kszIn),(78,kszImgS)] (COk.cons cszIn (COk.cons cszImgS (COk.nil _)))
theorem cxZp_t : cxZp.tys = tys := rfl
theorem cxZp_c : cxZp.C = [(79,kszIn),(78,kszImgS)] := rfl
attribute [local go_sem] cxZp_t cxZp_c kszIn kszImgS
theorem cszSp : Cn Tryz.prog 38 kszSp := by
 refine Cn.pur Tryz.func38 (by kernel_rfl) rfl fun d x hx=>?_
 obtain ⟨⟨I,B,E⟩,left⟩ := x
 obtain ⟨⟨⟨hI,hIm⟩,hB,hE⟩,h0,h1⟩ := hx
 simp only at hI hIm hB hE h0 h1 ⊢
 have hu : szvSp (I,B,E) left = if szvImageS I left < 0 then -1 else if szA B.length (szvImageS I left) < 0 then -1 else szA E.length (szA B.length (szvImageS I left)) := rfl
 have ha := szvImageS_f I left h0
 rw [hu]
 refine Holds.go (c := cxZp) Tryz.func38 rfl Tryz.results38 Tryz.ntmps38 (by omega) (by simp) rfl ?_
 intro X0 w0
 by_cases h5 : szvImageS I left < 0
 ·rw [if_pos h5]
  (repeat' (first|apply zS|apply zB|((first|apply zR|apply zC|apply zT|apply zE|apply zK);simp only [go_sem,h5])|apply And.intro|intro _))
  all_goals first|omega|exact hIm _ ‹_›|skip
 ·rw [if_neg h5]
  have hb := szA_f B.length (szvImageS I left) (by omega)
  by_cases h6 : szA B.length (szvImageS I left) < 0
  ·rw [if_pos h6]
   (repeat' (first|apply zS|apply zB|((first|apply zR|apply zC|apply zT|apply zE|apply zK);simp only [go_sem,h5,h6])|apply And.intro|intro _))
   all_goals first|omega|exact hIm _ ‹_›|skip
  ·rw [if_neg h6]
   (repeat' (first|apply zS|apply zB|((first|apply zR|apply zC|apply zT|apply zE|apply zK);simp only [go_sem,h5,h6])|apply And.intro|intro _))
   all_goals first|omega|exact hIm _ ‹_›|(rename_i h; rw [szf_neg (szA_f _) (by omega) h])|skip
end
def szvRg (x : RgX) : Int → Int := szvStr x.2.1
theorem szvStr_f (L : List ByteArray) : Szf (szvStr L) := szList_f _ (by simp only [List.mem_map]; rintro _ ⟨x,_,rfl⟩; exact szA_f _)
def bigRg (x : RgX) : Prop := x.2.1.length ≤ maxLen ∧ ∀ s ∈ x.2.1,s.size ≤ maxLen
def kszRg : Ctr := pur (fun args=>(rgA args 0,aI args 1)) (fun x=>[.agg [.v (.int .i64 x.1.1),.sl 1 (x.1.2.1.map encS),.v (.int .i64 x.1.2.2.1),.v (.int .i64 x.1.2.2.2)],.v (.int .i64 x.2)]) (fun x=>bigRg x.1 ∧ 0 ≤ x.2 ∧ x.2 ≤ 1048576)
 (fun _ x=>.v (.int .i64 (szvRg x.1 x.2))) (fun _ _=>[])
section
noncomputable def cxZr := mkX [(40,kszStr)] (COk.cons cszStr (COk.nil _))
theorem cxZr_t : cxZr.tys = tys := rfl
theorem cxZr_c : cxZr.C = [(40,kszStr)] := rfl
attribute [local go_sem] cxZr_t cxZr_c kszStr
theorem cszRg : Cn Tryz.prog 15 kszRg := by
 refine Cn.pur Tryz.func15 (by kernel_rfl) rfl fun d x hx=>?_
 obtain ⟨⟨cp,R,wr,lo⟩,left⟩ := x
 obtain ⟨⟨hR,hs⟩,h0,h1⟩ := hx
 simp only at hR hs h0 h1 ⊢
 have hu : szvRg (cp,R,wr,lo) left = szvStr R left := rfl
 rw [hu]
 refine Holds.go (c := cxZr) Tryz.func15 rfl Tryz.results15 Tryz.ntmps15 (by omega) (by simp) rfl ?_
 intro X0 w0
 (repeat' (first|apply zS|apply zB|((first|apply zR|apply zC|apply zT|apply zE|apply zK);simp only [go_sem])|apply And.intro|intro _))
 all_goals first|omega|exact hs _ ‹_›|(rename_i h; rw [szf_neg (szvStr_f _) (by omega) h])|skip
end
def szvPc (x : PcX) : Int → Int := szT (szvSp x.1) (szvMachS x.2.1)
theorem szvPc_f (x : PcX) : Szf (szvPc x) := szT_f (szvSp_f _) (szvMachS_f _)
def bigPc (x : PcX) : Prop := bigSp x.1 ∧ x.2.1.length ≤ maxLen ∧ ∀ s ∈ x.2.1,bigMach s
def kszPc : Ctr := pur (fun args=>(pcA args 0,aI args 1)) (fun x=>[.agg [.sl 2 (x.1.1.1.map encImage),.sl 1 (x.1.1.2.1.map encI),.sl 1 (x.1.1.2.2.map encI),.sl 7 (x.1.2.1.map encMach),.v (.int .i64 x.1.2.2.1),.v (.int .i64 x.1.2.2.2.1),.v (.int .i64 x.1.2.2.2.2)],.v (.int .i64 x.2)]) (fun x=>bigPc x.1 ∧ 0 ≤ x.2 ∧ x.2 ≤ 1048576)
 (fun _ x=>.v (.int .i64 (szvPc x.1 x.2))) (fun _ _=>[])
section
noncomputable def cxZpc := mkX [(38,kszSp),(39,kszMachS)] (COk.cons cszSp (COk.cons cszMachS (COk.nil _)))
theorem cxZpc_t : cxZpc.tys = tys := rfl
theorem cxZpc_c : cxZpc.C = [(38,kszSp),(39,kszMachS)] := rfl
attribute [local go_sem] cxZpc_t cxZpc_c kszSp kszMachS
theorem cszPc : Cn Tryz.prog 14 kszPc := by
 refine Cn.pur Tryz.func14 (by kernel_rfl) rfl fun d x hx=>?_
 obtain ⟨⟨⟨I,B,E⟩,T,tu,le,sl⟩,left⟩ := x
 obtain ⟨⟨hsp,hT,hTs⟩,h0,h1⟩ := hx
 have hsp2 := hsp
 obtain ⟨⟨hI,hIm⟩,hB,hE⟩ := hsp2
 simp only at hT hTs hI hIm hB hE h0 h1 ⊢
 have hu : szvPc ((I,B,E),T,tu,le,sl) left = if szvSp (I,B,E) left < 0 then -1 else szvMachS T (szvSp (I,B,E) left) := rfl
 have ha := szvSp_f (I,B,E) left h0
 rw [hu]
 refine Holds.go (c := cxZpc) Tryz.func14 rfl Tryz.results14 Tryz.ntmps14 (by omega) (by simp) rfl ?_
 intro X0 w0
 by_cases h5 : szvSp (I,B,E) left < 0
 ·rw [if_pos h5]
  (repeat' (first|apply zS|apply zB|((first|apply zR|apply zC|apply zT|apply zE|apply zK);simp only [go_sem,h5])|apply And.intro|intro _))
  all_goals first|omega|exact hIm _ ‹_›|exact hTs _ ‹_›|exact hsp|skip
 ·rw [if_neg h5]
  (repeat' (first|apply zS|apply zB|((first|apply zR|apply zC|apply zT|apply zE|apply zK);simp only [go_sem,h5])|apply And.intro|intro _))
  all_goals first|omega|exact hIm _ ‹_›|exact hTs _ ‹_›|exact hsp|(rename_i h; rw [szf_neg (szvMachS_f _) (by omega) h])|skip
end
def szvSe (x : SeX) : Int → Int := szT (szvPc x.1) (szvRg x.2.2.1)
theorem szvRg_f (x : RgX) : Szf (szvRg x) := szvStr_f _
def bigSe (x : SeX) : Prop := bigPc x.1 ∧ bigRg x.2.2.1
def kszSe : Ctr := pur (fun args=>(seA args 0,aI args 1)) (fun x=>[.agg (aggSe x.1),.v (.int .i64 x.2)]) (fun x=>bigSe x.1 ∧ 0 ≤ x.2 ∧ x.2 ≤ 1048576)
 (fun _ x=>.v (.int .i64 (szvSe x.1 x.2))) (fun _ _=>[])
section
attribute [local go_sem] aggSe
noncomputable def cxZse := mkX [(14,kszPc),(15,kszRg)] (COk.cons cszPc (COk.cons cszRg (COk.nil _)))
theorem cxZse_t : cxZse.tys = tys := rfl
theorem cxZse_c : cxZse.C = [(14,kszPc),(15,kszRg)] := rfl
attribute [local go_sem] cxZse_t cxZse_c kszPc kszRg
set_option maxHeartbeats 3000000 in
theorem cszSe : Cn Tryz.prog 5 kszSe := by
 refine Cn.pur Tryz.func5 (by kernel_rfl) rfl fun d x hx=>?_
 obtain ⟨⟨⟨⟨I,B,E⟩,T,tu,le,sl⟩,⟨p,q,l,st⟩,⟨cp,R,wr,lo⟩,mo,sp,fi⟩,left⟩ := x
 obtain ⟨⟨hP,hR⟩,h0,h1⟩ := hx
 simp only [aggSe] at hP hR h0 h1 ⊢
 have hP2 := hP
 have hR2 := hR
 obtain ⟨hR1,hRs⟩ := hR2
 obtain ⟨⟨⟨hI,hIm⟩,hB,hE⟩,hT,hTs⟩ := hP2
 simp only at hI hIm hB hE hT hTs hR1 hRs
 generalize hz : szvPc ((I,B,E),T,tu,le,sl) left = z
 have hu : szvSe (((I,B,E),T,tu,le,sl),⟨p,q,l,st⟩,(cp,R,wr,lo),mo,sp,fi) left = if z < 0 then -1 else szvRg (cp,R,wr,lo) z:=by rw [← hz]; rfl
 have ha := szvPc_f ((I,B,E),T,tu,le,sl) left h0
 rw [hz] at ha
 rw [hu]
 refine Holds.go (c := cxZse) Tryz.func5 rfl Tryz.results5 Tryz.ntmps5 (by omega) (by simp) rfl ?_
 intro X0 w0
 by_cases h5 : z < 0
 ·rw [if_pos h5]
  (repeat' (first|apply zS|apply zB|((first|apply zR|apply zC|apply zT|apply zE|apply zK);simp only [go_sem,hz,h5])|apply And.intro|intro _))
  all_goals first|omega|exact hIm _ ‹_›|exact hTs _ ‹_›|exact hRs _ ‹_›|exact hP|exact hR|skip
 ·rw [if_neg h5]
  (repeat' (first|apply zS|apply zB|((first|apply zR|apply zC|apply zT|apply zE|apply zK);simp only [go_sem,hz,h5])|apply And.intro|intro _))
  all_goals first|omega|exact hIm _ ‹_›|exact hTs _ ‹_›|exact hRs _ ‹_›|exact hP|exact hR|(rename_i h; rw [szf_neg (szvRg_f _) (by omega) h])|skip
end
end Go.Proofs.YtoomncljmgcidaaGreat

namespace Go.Vc
def allV (rows : List (List SV)) : Prop := ∀ row ∈ rows,∀ c ∈ row,∃ x,c = .v x
theorem ObR.toSl {w : World} {X X' : Nat → Prop} {β : Nat → BV} {v : BV} {e s : Nat} {rows : List (List SV)} (h : ObR w X' β v (.sl e s rows)) (hX : ∀ b,v.ft b → ¬ X b) (hv : allV rows) : Rp w X (.sl s rows) v.val := by
 cases h with
 |nil e s h=>subst h; exact .nil s _ _
 |sl b cap cur us hv' hh h1 h2 h3 h4 h5 h6 h7 =>
  subst hv'
  refine .sl b 0 cap us (hX b rfl) (lt_of_heap hh) h1 h4 (fun i k row c hr hc=>?_) h6 (fun i k row c hr hc=>?_)
  ·simp only [World.cell?,hh,Nat.zero_add]
   exact h5 i k row c hr hc
  ·obtain ⟨x,rfl⟩ := hv row (List.mem_of_getElem? hr) c (List.mem_of_getElem? hc)
   have := h7 i k row _ hr hc
   cases this
   exact .v _
section
variable {P : Program} {f : FuncId} {args : List SV} {d e s : Nat} {rows : List (List SV)}
theorem Holds.frozen (h : Holds P f args (.own d) [(d,.sl e s rows)]) (hv : allV rows) : Holds P f args (.sl s rows) [] := by
 intro w X vs hG hX hl ha
 refine (h w X vs hG hX hl ha).mono fun en w' ⟨v,β,he,hb,hβ,hR,hO,hn⟩=>?_
 refine ⟨v,β,he,hb,hβ,?_,⟨fun id ob hi=>(by cases hi),fun i j oi oj b hi=>(by cases hi)⟩,fun id ob b hi=>(by cases hi)⟩
 have := hR.own_inv; subst this
 refine .p ((hO.1 d (.sl e s rows) (by simp [lk])).toSl (fun b hb' hx=>?_) hv)
 have h1 := hn d (.sl e s rows) b (by simp [lk]) hb'
 rcases hx with hx|⟨i,o,hi,_⟩
 ·have := hX b hx; omega
 ·cases hi
end
theorem Cn.frozen {P : Program} {f : FuncId} {X : Type} {dec : List SV → X} {A : X → List SV} {pre : X → Prop} {e s : Nat} {rows : X → List (List SV)} (hv : ∀ x,allV (rows x))
  (h : Cn P f (Go.Vc.pur dec A pre (fun d _=>.own d) (fun d x=>[(d,.sl e s (rows x))]))) : Cn P f (Go.Vc.pur dec A pre (fun _ x=>.sl s (rows x)) (fun _ _=>[])) :=
 ⟨h.call,fun d args ha=>(h.holds d args ha).frozen (hv _),fun _ _ _ h=>h.elim⟩
end Go.Vc

namespace Go.Vc
section
variable {P : Program} {f : FuncId} {args : List SV} {d e s : Nat} {rows : List (List SV)}
end
end Go.Vc

namespace Go.Proofs.YtoomncljmgcidaaGreat
open Go.Vc
attribute [local irreducible] Go.Vc.WP
attribute [local go_sem] cx0_t cx0_c
open Go.Pl
attribute [local go_sem] decI_enc decImage_enc spA decS_enc decMach_enc oneMach_f mach_eta pcA rgA seA decSymbol_enc tmA tm_eta
section
attribute [local go_sem] oneImage
end
def zerImage : List SV := [.v (.string ⟨#[]⟩),.v (.slice none 0 0)]
section
attribute [local go_sem] oneImage
end
end Go.Proofs.YtoomncljmgcidaaGreat

