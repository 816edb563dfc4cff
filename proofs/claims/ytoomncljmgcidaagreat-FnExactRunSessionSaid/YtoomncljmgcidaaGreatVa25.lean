/-
  DERIVED. Several texts of ours in one: VtMcV.
-/
import Derived.Test.YtoomncljmgcidaaGreatVa12
import Derived.Test.YtoomncljmgcidaaGreatVa20
import Derived.Test.YtoomncljmgcidaaGreatVa23
import Derived.Test.YtoomncljmgcidaaGreatVa24
set_option linter.unusedSimpArgs false
set_option linter.unusedVariables false
set_option maxHeartbeats 1000000
set_option maxRecDepth 10000
namespace Go.Proofs.YtoomncljmgcidaaGreat
open Go.Vc
attribute [local irreducible] Go.Vc.WP
attribute [local go_sem] cx0_t cx0_c
attribute [local go_sem] decI_enc decImage_enc spA cpu_eta bxI headsBy innersBy llX lmX St.callX St.panOf St.callLG ctrs St.isX St.stepP runS retY St.fzS addL behind ghoK St.gho St.gh SV.flat St.setO Ob.jk SV.jk oneMach_f mach_eta
attribute [local go_sem] opA decD0 aggSp obD0 rbC kpD yen St.runO St.stepO St.runFz St.fzAt St.fzS
def cPerfLI : List (FuncId × Ctx) := [(124,kPerfI fun _=>True)]
attribute [local go_sem] cPerfLI kPerfI kAtI decIm obIm
attribute [local irreducible] preLoc
def kStepI : Ctr := pur (fun args=>(spA args 0,oneMach (aC args 1))) (fun x=>[.agg [.sl 2 (x.1.1.map encImage),.sl 1 (x.1.2.1.map encI),.sl 1 (x.1.2.2.map encI)],.agg [.v (.int .i64 x.2.pc),.v (.int .i64 x.2.sp),.v (.int .i64 x.2.fp),.sl 1 (x.2.stack.map encI),.sl 1 (x.2.out.map encI),.v (.int .i64 x.2.state),.v (.int .i64 x.2.value)]]) StpR
 (fun _ x=>.agg [.v (.int .i64 (stepI x.1 x.2).pc),.v (.int .i64 (stepI x.1 x.2).sp),.v (.int .i64 (stepI x.1 x.2).fp),.sl 1 ((stepI x.1 x.2).stack.map encI),.sl 1 ((stepI x.1 x.2).out.map encI),.v (.int .i64 (stepI x.1 x.2).state),.v (.int .i64 (stepI x.1 x.2).value)]) (fun _ _=>[])
theorem loadI_len (s : CpB) (a : Int) : (loadI s a).1.st.length = s.1.st.length := by
 unfold loadI
 split
 ·rfl
 ·rw [pushI_len]
theorem storeI_len (s : CpB) (a : Int) : (storeI s a).1.st.length = s.1.st.length := by
 unfold storeI
 split
 ·rw [popI_st]
 ·rw [List.length_set,popI_st]
theorem stPc (s : CpB) (v : Int) : (setPc s v).1.st = s.1.st := rfl
theorem stSp (s : CpB) (v : Int) : (setSp s v).1.st = s.1.st := rfl
theorem stFp (s : CpB) (v : Int) : (setFp s v).1.st = s.1.st := rfl
theorem stOut (s : CpB) (v : Int) : (addOut s v).1.st = s.1.st := rfl
def LenI (r : CpB) : Prop := r.1.st.length = 1200
theorem LenI.ite {p : Prop} [Decidable p] {a b : CpB} (h1 : LenI a) (h2 : LenI b) : LenI (if p then a else b):=by split <;> assumption
theorem performI_len {E : List Int} {x : Op} {c : Cpu} (h : c.st.length = 1200) : (performI E x c).1.st.length = 1200 := by
 show LenI (performI E x c)
 unfold performI
 repeat' with_reducible refine LenI.ite ?_ ?_
 all_goals
  unfold LenI
  first|exact h|(simp only [pushI_len,popI_st,dropI_st,zerosI_len,loadI_len,storeI_len,stPc,stSp,stFp,stOut,h]; done)
section
noncomputable def cxStI := mkX [(92,ktoMachE),(122,kLoc),(123,kDecOp),(125,kAtI)] (COk.cons ccpMachI (COk.cons cLocI (COk.cons cDecOpI (COk.cons cAtI (COk.nil _)))))
theorem cxStI_t : cxStI.tys = tys := rfl
theorem cxStI_c : cxStI.C = [(92,ktoMachE),(122,kLoc),(123,kDecOp),(125,kAtI)] := rfl
attribute [local go_sem] cxStI_t cxStI_c ktoMachE kLoc kDecOp kAtI
set_option maxHeartbeats 4000000 in
theorem cStepI : Cn Tryz.prog 102 kStepI := by
 refine Cn.pur Tryz.func102 (by kernel_rfl) rfl fun d x hx=>?_
 obtain ⟨⟨I,B,E⟩,⟨pc,sp,fp,S,O,sta,val⟩⟩ := x
 have hloc := hx.loc pc
 have hC2 : POk Tryz.prog cPerfLI := POk.cons cPerfI (POk.nil _)
 obtain ⟨h1,h2,h3,h4,h5,h6,h7,h8,h9,h10⟩ := hx
 simp only at h1 h2 h3 h4 h5 h6 h7 h8 h9 h10 hloc ⊢
 subst h10
 have hlt := locI_lt I B pc
 refine Holds.go (c := cxStI) Tryz.func102 rfl Tryz.results102 Tryz.ntmps102 (by omega) (by simp) rfl ?_
 intro X0 w0
 by_cases h : locI I B pc < 0
 ·have e : stepI (I,B,E) ⟨pc,sp,fp,S,O,0,val⟩ = ⟨pc,sp,fp,S,O,2,val⟩ := by
   have hf : fetOp (I,B,E) pc = none := if_pos h
   unfold stepI; simp only [hf]
  rw [e]
  (repeat' (first|apply zS|apply zB|((first|apply zR|apply zC|apply zT|apply zE|apply zK);simp only [go_sem,h,Int.reduceBEq,Int.reduceEq])|apply And.intro|intro _))
  all_goals first|omega|rfl|exact hloc|exact hpf|exact ⟨h6,by omega⟩|exact ⟨_,_,_,_,_,_,_,rfl⟩|exact ⟨_,_,rfl,_,_,rfl,rfl⟩|skip
 obtain ⟨k,hk⟩ : ∃ k : Nat,locI I B pc = k := ⟨(locI I B pc).toNat,by omega⟩
 have hki : k < I.length:=by omega
 have hr := rowAt_map encImage I k hki
 have hcs := h4 k
 rw [getD_img hki] at hcs
 have hcs' : I[k].code.size ≤ 4398046511104:=by omega
 have hd : fetOp (I,B,E) pc = decOp I[k].code (pc - B.getD k 0) := by
  unfold fetOp
  rw [if_neg h,hk,Int.toNat_natCast,getD_img hki]
 have hz : ¬(k : Int) < 0:=by omega
 cases hf : decOp I[k].code (pc - B.getD k 0) with
 |none =>
  have e : stepI (I,B,E) ⟨pc,sp,fp,S,O,0,val⟩ = ⟨pc,sp,fp,S,O,2,val⟩:=by unfold stepI; simp only [hd,hf]
  rw [e]
  (repeat' (first|apply zS|apply zB|((first|apply zR|apply zC|apply zT|apply zE|apply zK);simp only [go_sem,h,hk,hz,hr,encImage,Int.toNat_natCast,hf,Int.reduceBEq,Int.reduceEq])|apply And.intro|intro _))
  all_goals first|omega|rfl|exact hloc|exact hpf|exact ⟨h6,by omega⟩|exact ⟨_,_,_,_,_,_,_,rfl⟩|exact ⟨_,_,rfl,_,_,rfl,rfl⟩|skip
 |some q =>
  obtain ⟨⟨code,arg⟩,n⟩ := q
  obtain ⟨hop,hp0,hi,hp1⟩ := fet_bd (S := (I,B,E)) h3 (hd.trans hf)
  have h4i := h4 hi
  simp only at hp1
  have hsz := hop.size
  have e : stepI (I,B,E) ⟨pc,sp,fp,S,O,0,val⟩ = finM ⟨pc,sp,fp,S,O,0,val⟩ (performI E ⟨code,arg⟩ ⟨pc + n,sp,fp,S,O⟩):=by unfold stepI; simp only [hd,hf,cpuM]
  rw [e]
  have hpf : PiOk ((I,B,E),(((⟨pc + n,sp,fp,S,O⟩ : Cpu),false),0,val),(⟨code,arg⟩ : Op)) := ⟨h6,by show O.length ≤ 8388608; omega,h7,by show 0 ≤ pc + n ∧ pc + n ≤ 16777300; omega,rfl,⟨n,hop⟩,h5,h9⟩
  generalize hrr : performI E ⟨code,arg⟩ ⟨pc + n,sp,fp,S,O⟩ = r
  have hlen : r.2 = false → r.1.st.length = 1200 := fun q=>by rw [← hrr]; exact performI_len h6
  obtain ⟨⟨rp,rs,rf,rS,rO⟩,rb⟩ := r
  unfold finM
  simp only at hlen ⊢
  cases rb with
  |true =>
   simp only [if_true]
   (repeat' (first|apply zS|apply zB|((first|refine WP.regionP (id := 14) hC2 ?_); simp only [go_sem,h,hk,hz,hr,encImage,Int.toNat_natCast,hf,hrr,Int.reduceBEq,Int.reduceEq])|((first|apply zR|apply zC|apply zT|apply zE|apply zK);simp only [go_sem,h,hk,hz,hr,encImage,Int.toNat_natCast,hf,hrr,Int.reduceBEq,Int.reduceEq])|apply And.intro|intro _))
   all_goals first|omega|rfl|exact hloc|exact hpf|exact ⟨h6,by omega⟩|exact ⟨_,_,_,_,_,_,_,rfl⟩|exact ⟨_,_,rfl,_,_,rfl,rfl⟩|skip
  |false =>
   simp only [Bool.false_eq_true,if_false]
   have hl := hlen rfl
   by_cases hz0 : rp = 0
   ·rw [if_pos hz0]
    subst hz0
    by_cases hw : 0 ≤ rs ∧ rs ≤ 1199
    ·rw [if_pos hw]
     have e2 : atI (⟨0,rs,rf,rS,rO⟩,false) rs = (⟨0,rs,rf,rS,rO⟩,false) := if_pos hw
     obtain ⟨j,rfl⟩ : ∃ j : Nat,rs = j := ⟨rs.toNat,by omega⟩
     have hj : j < rS.length:=by omega
     have hrj := rowAt_map encI rS j hj
     rw [Int.toNat_natCast,getD_at hj]
     (repeat' (first|apply zS|apply zB|((first|refine WP.regionP (id := 14) hC2 ?_|refine WP.regionF (id := 21) [(0,[800001,800002])] ?_); simp only [go_sem,h,hk,hz,hr,encImage,Int.toNat_natCast,hf,hrr,e2,hrj,encI,Int.reduceBEq,Int.reduceEq])|((first|apply zR|apply zC|apply zT|apply zE|apply zK);simp only [go_sem,h,hk,hz,hr,encImage,Int.toNat_natCast,hf,hrr,e2,hrj,encI,Int.reduceBEq,Int.reduceEq])|apply And.intro|intro _))
     all_goals first|omega|rfl|exact hloc|exact hpf|exact ⟨h6,by omega⟩|exact ⟨_,_,_,_,_,_,_,rfl⟩|exact ⟨_,_,rfl,_,_,rfl,rfl⟩|skip
    ·rw [if_neg hw]
     have e2 : atI (⟨0,rs,rf,rS,rO⟩,false) rs = (⟨0,rs,rf,rS,rO⟩,true) := if_neg hw
     (repeat' (first|apply zS|apply zB|((first|refine WP.regionP (id := 14) hC2 ?_); simp only [go_sem,h,hk,hz,hr,encImage,Int.toNat_natCast,hf,hrr,e2,Int.reduceBEq,Int.reduceEq])|((first|apply zR|apply zC|apply zT|apply zE|apply zK);simp only [go_sem,h,hk,hz,hr,encImage,Int.toNat_natCast,hf,hrr,e2,Int.reduceBEq,Int.reduceEq])|apply And.intro|intro _))
     all_goals first|omega|rfl|exact hloc|exact hpf|exact ⟨h6,by omega⟩|exact ⟨_,_,_,_,_,_,_,rfl⟩|exact ⟨_,_,rfl,_,_,rfl,rfl⟩|skip
   ·rw [if_neg hz0]
    (repeat' (first|apply zS|apply zB|((first|refine WP.regionP (id := 14) hC2 ?_|refine WP.regionF (id := 21) [(0,[800001,800002])] ?_); simp only [go_sem,h,hk,hz,hr,encImage,Int.toNat_natCast,hf,hrr,hz0,Int.reduceBEq,Int.reduceEq])|((first|apply zR|apply zC|apply zT|apply zE|apply zK);simp only [go_sem,h,hk,hz,hr,encImage,Int.toNat_natCast,hf,hrr,hz0,Int.reduceBEq,Int.reduceEq])|apply And.intro|intro _))
    all_goals first|omega|rfl|exact hloc|exact hpf|exact ⟨h6,by omega⟩|exact ⟨_,_,_,_,_,_,_,rfl⟩|exact ⟨_,_,rfl,_,_,rfl,rfl⟩|skip
end
end Go.Proofs.YtoomncljmgcidaaGreat

