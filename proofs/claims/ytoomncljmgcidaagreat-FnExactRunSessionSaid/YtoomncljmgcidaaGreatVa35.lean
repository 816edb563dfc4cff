/-
  DERIVED. Several texts of ours in one: VtAdv.
-/
import Derived.Test.YtoomncljmgcidaaGreatVa28
import Derived.Test.YtoomncljmgcidaaGreatVa32
import Derived.Test.YtoomncljmgcidaaGreatVa33
import Derived.Test.YtoomncljmgcidaaGreatVa34
set_option linter.unusedSimpArgs false
set_option linter.unusedVariables false
set_option maxHeartbeats 1000000
set_option maxRecDepth 10000
namespace Go.Proofs.YtoomncljmgcidaaGreat
open Go.Vc
attribute [local irreducible] Go.Vc.WP
attribute [local go_sem] cx0_t cx0_c
def flacf0781700 : List Go.Vc.Fp := [⟨[3],[],[],[6,54],[],[]⟩,⟨[0],[],[],[6,54],[],[]⟩,⟨[42],[1],[],[6,54],[],[]⟩,⟨[43],[1,2],[],[6,54],[],[]⟩,⟨[44],[1,2,3],[],[6,54],[],[]⟩,⟨[45],[1,2,3,4],[],[6,54],[],[]⟩,⟨[3],[],[],[6,54],[],[]⟩,⟨[46,47],[1,2,3,4,5,6],[],[6,54],[],[]⟩,⟨[48],[1,2,3,4,5,6,7],[],[6,54],[],[]⟩,⟨[0],[],[],[6,54],[],[]⟩,⟨[50],[9],[],[6,54],[],[]⟩,⟨[51],[9,10],[],[6,54],[],[]⟩,⟨[52],[9,10,11],[],[6,54],[],[]⟩,⟨[49,53],[1,2,3,4,5,6,7,8,9,10,11,12],[],[6],[],[54]⟩,⟨[41,54],[0,1,2,3,4,5,6,7,8,9,10,11,12,13],[],[6],[],[]⟩,⟨[],[],[],[54],[],[6]⟩,⟨[],[0,1,2,3,4,5,6,7,8,9,10,11,12,13,14,15],[],[],[],[]⟩]
def flee1bf56b25 : List Go.Vc.Fp := [⟨[0],[],[],[66],[],[]⟩,⟨[0],[],[],[66],[],[]⟩,⟨[60],[1],[],[66],[],[]⟩,⟨[61],[1,2],[],[66],[],[]⟩,⟨[62],[1,2,3],[],[66],[],[]⟩,⟨[6],[],[],[66],[],[]⟩,⟨[64],[5],[],[66],[],[]⟩,⟨[63,65],[1,2,3,4,5,6],[],[],[],[66]⟩,⟨[66],[1,2,3,4,5,6,7],[],[],[],[]⟩,⟨[58],[1,2,3,4,5,6,7,8],[],[],[],[]⟩,⟨[58],[1,2,3,4,5,6,7,8],[],[],[],[]⟩,⟨[59],[0,1,2,3,4,5,6,7,8,9],[],[],[],[]⟩,⟨[69],[0,1,2,3,4,5,6,7,8,9,11],[],[],[],[]⟩,⟨[],[0,1,2,3,4,5,6,7,8,9,10,11,12],[],[],[],[]⟩]
attribute [local go_sem] flacf0781700 flee1bf56b25
attribute [local go_sem] decI_enc decImage_enc spA decS_enc decMach_enc oneMach_f mach_eta pcA rgA seA decSymbol_enc tmA tm_eta vwA smA vw_eta isV_It St.runO St.stepO St.runFz St.fzAt St.fzS addL behind
attribute [local go_sem] bxE obE decE aggSe
def kAdv : Ctr := len [0] [] (fun _ obs=>decE obs) (fun _=>[.ptr 1000000 0 0 0]) (fun x=>obE x) (fun x=>∃ k,k ≤ 3000 ∧ SnI k x) (fun _ x=>.v (.bool (stepCt x).2)) (fun _ _=>[]) (fun x=>obE (stepCt x).1)
theorem turnP_no {x : PcX} (h : chos x.2.1 x.2.2.1 < 0) : turnP x = (x,-1):=by unfold turnP; rw [if_pos h]
theorem turnP_yes {x : PcX} (h : ¬ chos x.2.1 x.2.2.1 < 0) : (turnP x).2 = chos x.2.1 x.2.2.1:=by unfold turnP; rw [if_neg h]
section
attribute [local irreducible] prePc shPc shSe preSe preRg turnP stepSe
noncomputable def LcxAdv : CL := [(62,kChos),(61,kCntOk),(63,kTick),(64,kViewOf),(65,kSmOk),(67,kEncSm),(66,kPutRg),(68,kTurI)]
noncomputable def cxAdv := mkX LcxAdv (COk.cons cChosI (COk.cons cCntOkI (COk.cons cTickI (COk.cons cViewI (COk.cons cSmOkI (COk.cons cEncSmI (COk.cons cPutRgI (COk.cons cTurI (COk.nil _)))))))))
theorem cxAdv_t : cxAdv.tys = tys := rfl
theorem cxAdv_c : cxAdv.C = LcxAdv := rfl
attribute [local go_sem] cxAdv_t cxAdv_c LcxAdv kChos kCntOk kTick kViewOf kSmOk kEncSm kPutRg kTurI
set_option maxHeartbeats 6000000 in
theorem cAdvI : Cn Tryz.prog 28 kAdv := by
 refine Cn.len Tryz.func28 (by kernel_rfl) rfl fun d x hd hx=>?_
 obtain ⟨k,hk0,hI⟩ := hx
 have htur := hI.tur hk0
 have hrg : preRg x.2.2.1 := hI.rg.1
 have hpo : procOk x.1 = true := hI.base.1
 obtain ⟨_,⟨⟨n0,n1⟩,⟨u0,u1⟩,_⟩,hms⟩ := hI.facts
 have hsz := fun t=>encSm_size (takeS_len x.1 t x.2.2.2.1)
 have hadv : advS x = ((turnP x.1).1,(tick x.2.1).1,(if (tick x.2.1).2 = true then ringS x (turnP x.1).2 else x.2.2.1),x.2.2.2.1,x.2.2.2.2.1 + 1,if (tick x.2.1).2 = true then x.2.2.2.2.2 + 1 else x.2.2.2.2.2) := rfl
 have hrs : ∀ t,ringS x t = if (takeS x.1 t x.2.2.2.1).2 = true then (putR x.2.2.1 (encSm (takeS x.1 t x.2.2.2.1).1)).1 else x.2.2.1 := fun t=>rfl
 have hcb : cntOkS x = true → (0 ≤ x.2.2.2.2.1 ∧ x.2.2.2.2.1 ≤ 1000000000000) ∧ 0 ≤ x.2.2.2.2.2 ∧ x.2.2.2.2.2 ≤ 1000000000000 := fun h=>by
  unfold cntOkS at h
  simp only [Bool.and_eq_true,decide_eq_true_iff] at h
  exact ⟨h.1.1.1,h.1.1.2⟩
 have hct : stepCt x = if cntOkS x = true ∧ 0 ≤ (turnP x.1).2 then (advS x,true) else (x,false) := rfl
 rw [hadv] at hct
 have htk : ∀ t,takeS x.1 t x.2.2.2.1 = if procOk x.1 = true ∧ 0 ≤ t ∧ t < x.1.2.1.length then (if smOk (t,viewOf (x.1.2.1.getD t.toNat ⟨0,0,0,[],[],0,0⟩) x.2.2.2.1) = true then ((t,viewOf (x.1.2.1.getD t.toNat ⟨0,0,0,[],[],0,0⟩) x.2.2.2.1),true) else (zSm,false)) else (zSm,false) := fun t=>rfl
 have hno := @turnP_no x.1
 have hyes := @turnP_yes x.1
 have hcd := @chos_bd x.1.2.1 x.1.2.2.1
 obtain ⟨⟨⟨I,B,E⟩,T,tu,le,sl⟩,⟨p,q,l,st⟩,⟨cp,R,wr,lo⟩,mo,sp,fi⟩ := x
 simp only at hrg hpo n0 n1 u0 u1 hms hsz hrs hcb hct htk hno hyes hcd ⊢
 rw [hct]
 unfold obE bxE
 refine HoldsL.go (c := cxAdv) Tryz.func28 rfl Tryz.results28 Tryz.ntmps28 (by omega) (by simp) rfl (by simp <;> omega) (by simp [SV.owns2,SV.owns,SV.owns1]) (by simp) rfl rfl (by simp) ?_
 intro X0 M w0
 by_cases hc : chos T tu < 0
 ·rw [hno hc,if_neg (fun h=>by have := h.2; omega)]
  (repeat' (first|apply zS|apply zB|((first|apply zR|apply zC|apply zT|apply zE|apply zK| refine zF 16 flacf0781700 [6,41,42,43,44,45,46,47,48,49,50,51,52,53,54,55] [6,54] [] (by decide +kernel) (by kernel_rfl) (by kernel_rfl) (by kernel_rfl) ?_|refine WP.flowE 13 10 [] 13 flee1bf56b25 [58,59,60,61,62,63,64,65,66,67,68,69,70] [66] [] (by decide +kernel) (by decide +kernel) (by kernel_rfl) (by kernel_rfl) (by kernel_rfl) ?_); simp only [go_sem,hc])|apply And.intro|intro _))
  all_goals first|omega|rfl|exact ⟨by omega,by omega,by omega⟩|skip
 ·obtain ⟨hb,_⟩ := hcd (by omega) u0
  have hy := hyes hc
  generalize hturn : turnP ((I,B,E),T,tu,le,sl) = r at hy hct
  obtain ⟨rP,t⟩ := r
  simp only at hy
  subst hy
  obtain ⟨j,hj⟩ : ∃ j : Nat,chos T tu = j := ⟨(chos T tu).toNat,by omega⟩
  rw [hj] at hc hb hturn hct ⊢
  have hjl : j < T.length:=by omega
  cases hcn : cntOkS (((I,B,E),T,tu,le,sl),⟨p,q,l,st⟩,(cp,R,wr,lo),mo,sp,fi) with
  |false =>
   rw [if_neg (fun h=>by cases h.1)]
   (repeat' (first|apply zS|apply zB|((first|apply zR|apply zC|apply zT|apply zE|apply zK| refine zF 16 flacf0781700 [6,41,42,43,44,45,46,47,48,49,50,51,52,53,54,55] [6,54] [] (by decide +kernel) (by kernel_rfl) (by kernel_rfl) (by kernel_rfl) ?_|refine WP.flowE 13 10 [] 13 flee1bf56b25 [58,59,60,61,62,63,64,65,66,67,68,69,70] [66] [] (by decide +kernel) (by decide +kernel) (by kernel_rfl) (by kernel_rfl) (by kernel_rfl) ?_); simp only [go_sem,hj,hc,hcn])|apply And.intro|intro _))
   all_goals first|omega|rfl|exact ⟨by omega,by omega,by omega⟩|skip
  |true =>
   have hcb := hcb hcn
   rw [if_pos ⟨rfl,by show (0 : Int) ≤ (j : Nat); omega⟩]
   generalize htick : tick ⟨p,q,l,st⟩ = r2
   obtain ⟨⟨p',q',l',st'⟩,fr⟩ := r2
   obtain ⟨⟨rI,rB,rE⟩,rT,rtu,rle,rsl⟩ := rP
   cases fr with
   |false =>
    simp only [Bool.false_eq_true,if_false]
    (repeat' (first|apply zS|apply zB|((first|refine WP.regionF (id := 11) [(0,[66])] ?_); simp only [go_sem,hj,hc,hcn,htick,hturn])|((first|apply zR|apply zC|apply zT|apply zE|apply zK| refine zF 16 flacf0781700 [6,41,42,43,44,45,46,47,48,49,50,51,52,53,54,55] [6,54] [] (by decide +kernel) (by kernel_rfl) (by kernel_rfl) (by kernel_rfl) ?_|refine WP.flowE 13 10 [] 13 flee1bf56b25 [58,59,60,61,62,63,64,65,66,67,68,69,70] [66] [] (by decide +kernel) (by decide +kernel) (by kernel_rfl) (by kernel_rfl) (by kernel_rfl) ?_); simp only [go_sem,hj,hc,hcn,htick,hturn])|apply And.intro|intro _))
    all_goals first|omega|rfl|exact htur|exact ⟨by omega,by omega,by omega⟩|skip
   |true =>
    simp only [if_true]
    have hr := rowAt_map encMach T j hjl
    have hli : (j : Int) < T.length:=by omega
    have hg : T.getD (j : Int).toNat ⟨0,0,0,[],[],0,0⟩ = T[j]:=by rw [Int.toNat_natCast,List.getD_eq_getElem?_getD,List.getElem?_eq_getElem hjl]; rfl
    have htk := htk j
    rw [if_pos ⟨hpo,by omega,hli⟩,hg] at htk
    have hvl := viewOf_len T[j] mo
    have hml : T[j].stack.length ≤ 4194304 := by
     obtain ⟨c1,_⟩ := machOk_iff.1 (hms _ (List.getElem_mem hjl))
     omega
    rw [hrs]
    have hsz := hsz j
    generalize hV : viewOf T[j] mo = V at htk hvl
    obtain ⟨vp,vs,vf,vw⟩ := V
    generalize hM : T[j] = m1 at hr hml hV
    obtain ⟨a1,a2,a3,a4,a5,a6,a7⟩ := m1
    simp only at hvl hml
    have hvl' : vw.length ≤ 4194304:=by omega
    have hvl2 : vw.length ≤ 1048576:=by omega
    cases hsm : smOk ((j : Int),⟨vp,vs,vf,vw⟩) with
    |false =>
     rw [hsm,if_neg (by simp)] at htk
     rw [htk]
     simp only [Bool.false_eq_true,if_false]
     (repeat' (first|apply zS|apply zB|((first|refine WP.regionF (id := 11) [(0,[66])] ?_); simp only [go_sem,hj,hc,hcn,htick,hturn,hr,hli,encMach,hV,hsm,Int.toNat_natCast])|((first|apply zR|apply zC|apply zT|apply zE|apply zK| refine zF 16 flacf0781700 [6,41,42,43,44,45,46,47,48,49,50,51,52,53,54,55] [6,54] [] (by decide +kernel) (by kernel_rfl) (by kernel_rfl) (by kernel_rfl) ?_|refine WP.flowE 13 10 [] 13 flee1bf56b25 [58,59,60,61,62,63,64,65,66,67,68,69,70] [66] [] (by decide +kernel) (by decide +kernel) (by kernel_rfl) (by kernel_rfl) (by kernel_rfl) ?_); simp only [go_sem,hj,hc,hcn,htick,hturn,hr,hli,encMach,hV,hsm,Int.toNat_natCast])|apply And.intro|intro _))
     all_goals first|omega|rfl|exact htur|exact ⟨by omega,by omega,by omega⟩|exact hml|exact hvl'|skip
    |true =>
     rw [hsm,if_pos rfl] at htk
     rw [htk] at hsz ⊢
     simp only [if_true] at hsz ⊢
     generalize henc : encSm ((j : Int),⟨vp,vs,vf,vw⟩) = es at hsz
     generalize hput : putR (cp,R,wr,lo) es = r4
     obtain ⟨⟨cp2,R2,wr2,lo2⟩,ok2⟩ := r4
     simp only
     (repeat' (first|apply zS|apply zB|((first|refine WP.regionF (id := 11) [(0,[66])] ?_); simp only [go_sem,hj,hc,hcn,htick,hturn,hr,hli,encMach,hV,hsm,henc,hput,Int.toNat_natCast])|((first|apply zR|apply zC|apply zT|apply zE|apply zK| refine zF 16 flacf0781700 [6,41,42,43,44,45,46,47,48,49,50,51,52,53,54,55] [6,54] [] (by decide +kernel) (by kernel_rfl) (by kernel_rfl) (by kernel_rfl) ?_|refine WP.flowE 13 10 [] 13 flee1bf56b25 [58,59,60,61,62,63,64,65,66,67,68,69,70] [66] [] (by decide +kernel) (by decide +kernel) (by kernel_rfl) (by kernel_rfl) (by kernel_rfl) ?_); simp only [go_sem,hj,hc,hcn,htick,hturn,hr,hli,encMach,hV,hsm,henc,hput,Int.toNat_natCast])|apply And.intro|intro _))
     all_goals first|omega|rfl|exact htur|exact ⟨by omega,by omega,by omega⟩|exact hml|exact hvl'|exact hvl2|exact ⟨hrg,hsz⟩|skip
end
end Go.Proofs.YtoomncljmgcidaaGreat

