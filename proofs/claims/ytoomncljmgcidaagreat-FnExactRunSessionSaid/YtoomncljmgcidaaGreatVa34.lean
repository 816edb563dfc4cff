/-
  DERIVED. Several texts of ours in one: VtStpS.
-/
import Derived.Test.YtoomncljmgcidaaGreatVa6
import Derived.Test.YtoomncljmgcidaaGreatVa28
import Derived.Test.YtoomncljmgcidaaGreatVa29
import Derived.Test.YtoomncljmgcidaaGreatVa33
set_option linter.unusedSimpArgs false
set_option linter.unusedVariables false
set_option maxHeartbeats 1000000
set_option maxRecDepth 10000
namespace Go.Proofs.YtoomncljmgcidaaGreat
open Go.Vc
attribute [local irreducible] Go.Vc.WP
attribute [local go_sem] cx0_t cx0_c
def fla6a90ff780 : List Go.Vc.Fp := [⟨[1],[],[],[54],[],[]⟩,⟨[50],[0],[],[54],[],[]⟩,⟨[9],[],[],[54],[],[]⟩,⟨[52],[2],[],[54],[],[]⟩,⟨[51,53],[0,1,2,3],[],[],[],[54]⟩,⟨[54],[0,1,2,3,4],[],[],[],[]⟩,⟨[49],[0,1,2,3,4,5],[],[],[],[]⟩,⟨[49],[0,1,2,3,4,5],[],[],[],[]⟩,⟨[4],[0,1,2,3,4,5,6],[],[],[],[]⟩,⟨[],[0,1,2,3,4,5,6,7,8],[],[],[],[]⟩]
attribute [local go_sem] fla6a90ff780
attribute [local go_sem] decI_enc decImage_enc spA decS_enc decMach_enc oneMach_f mach_eta pcA rgA seA decSymbol_enc tmA tm_eta vwA smA vw_eta isV_It St.runO St.stepO St.runFz St.fzAt St.fzS addL behind
def kStpSe : Ctr := pur (fun args=>seA args 0) (fun x=>[.agg (aggSe x)]) preStp (fun _ x=>.tup [.agg (aggSe (stepSe x).1),.v (.bool (stepSe x).2)]) (fun _ _=>[])
theorem takeS_len (x : PcX) (t most : Int) : (takeS x t most).1.2.words.length ≤ 1200 := by
 unfold takeS
 split
 ·split
  ·exact viewOf_len _ _
  ·simp [zSm]
 ·simp [zSm]
theorem encSm_size {x : Int × Vw} (h : x.2.words.length ≤ 1200) : (encSm x).size ≤ 1099511627776 := by
 unfold encSm
 split
 ·have h1 := varint_size x.1
  have h2 := pack_size (x.2.pc :: x.2.sp :: x.2.fp :: x.2.words)
  simp only [List.length_cons] at h2
  rw [ByteArray.size_append]
  omega
 ·simp [ByteArray.size]
attribute [local go_sem] aggPc aggSe aggTm ownS2 obS2
section
attribute [local irreducible] prePc shPc shSe preSe preRg turnP stepSe
noncomputable def LcxStp : CL := [(16,kCpSe),(17,kSeOk),(18,kStPc),(19,kTick),(20,kTake),(22,kEncSm),(21,kPutRg)]
noncomputable def cxStp := mkX LcxStp (COk.cons cCpSeS (COk.cons cSeOkS (COk.cons cStPcS (COk.cons cTickS (COk.cons cTakeS (COk.cons cEncSmS (COk.cons cPutRgS (COk.nil _))))))))
theorem cxStp_t : cxStp.tys = tys := rfl
theorem cxStp_c : cxStp.C = LcxStp := rfl
attribute [local go_sem] cxStp_t cxStp_c LcxStp kCpSe kSeOk kStPc kTick kTake kEncSm kPutRg
set_option maxHeartbeats 6000000 in
theorem cStpSeS : Cn Tryz.prog 6 kStpSe := by
 refine Cn.pur Tryz.func6 (by kernel_rfl) rfl fun d x hx=>?_
 obtain ⟨hp,hs,hk⟩ := hx
 have hcs : preCs x:=by unfold preSe at hp; unfold shSe at hs; exact ⟨hs.1,by unfold preRg; exact hp.2⟩
 have hpp : prePc x.1:=by unfold preSe at hp; exact hp.1
 have hss : shPc x.1 := hcs.1
 have hrg : preRg x.2.2.1 := hcs.2
 cases hok : sessOk x with
 |false =>
  have e : stepSe x = (x,false):=by unfold stepSe; rw [if_neg (by rw [hok]; simp)]
  rw [e]
  obtain ⟨⟨⟨I,B,E⟩,T,tu,le,sl⟩,⟨p,q,l,st⟩,⟨cp,R,wr,lo⟩,mo,sp,fi⟩ := x
  simp only at hpp hss hrg ⊢
  refine Holds.go (c := cxStp) Tryz.func6 rfl Tryz.results6 Tryz.ntmps6 (by omega) (by simp) rfl ?_
  intro X0 w0
  (repeat' (first|apply zS|apply zB|((first|refine WP.regionF (id := 3) [(0,[12,1012,2012,3012,4012])] ?_); simp only [go_sem,hok])|((first|apply zR|apply zC|apply zT|apply zE|apply zK| refine WP.flowE 9 7 [] 9 fla6a90ff780 [49,50,51,52,53,54,55,56,57] [54] [] (by decide +kernel) (by decide +kernel) (by kernel_rfl) (by kernel_rfl) (by kernel_rfl) ?_); simp only [go_sem,hok])|apply And.intro|intro _))
  all_goals first|omega|rfl|exact hp|exact hcs|exact ⟨_,_,rfl,_,_,rfl,rfl⟩|skip
 |true =>
  obtain ⟨k,hk0,hI⟩ := hk hok
  have htur := hI.tur hk0
  have hpo : procOk x.1 = true := hI.base.1
  have hct := (sessOk_iff.1 hok).2
  have hsr := stepSe_eq (x := x) hI.base
  have hst : stpPr x.1 = turnP x.1:=by unfold stpPr; rw [if_pos hpo]
  have e0 : stepSe x = if 0 ≤ (turnP x.1).2 then (advS x,true) else (x,false) := by
   unfold stepSe
   by_cases h : 0 ≤ (turnP x.1).2
   ·rw [if_pos ⟨hok,h⟩,if_pos h]
   ·rw [if_neg (fun a=>h a.2),if_neg h]
  rw [e0]
  have hsz := fun t=>encSm_size (takeS_len x.1 t x.2.2.2.1)
  have htl := fun t=>takeS_len x.1 t x.2.2.2.1
  have hcb : (0 ≤ x.2.2.2.2.1 ∧ x.2.2.2.2.1 ≤ 1000000000000) ∧ 0 ≤ x.2.2.2.2.2 ∧ x.2.2.2.2.2 ≤ 1000000000000 := by
   unfold sessOk at hok
   simp only [Bool.and_eq_true,decide_eq_true_iff] at hok
   exact hok.2.2
  have hadv : advS x = ((turnP x.1).1,(tick x.2.1).1,(if (tick x.2.1).2 = true then ringS x (turnP x.1).2 else x.2.2.1),x.2.2.2.1,x.2.2.2.2.1 + 1,if (tick x.2.1).2 = true then x.2.2.2.2.2 + 1 else x.2.2.2.2.2) := rfl
  have hrs : ∀ t,ringS x t = if (takeS x.1 t x.2.2.2.1).2 = true then (putR x.2.2.1 (encSm (takeS x.1 t x.2.2.2.1).1)).1 else x.2.2.1 := fun t=>rfl
  rw [hadv]
  obtain ⟨⟨⟨I,B,E⟩,T,tu,le,sl⟩,⟨p,q,l,st⟩,⟨cp,R,wr,lo⟩,mo,sp,fi⟩ := x
  simp only at hpp hss hrg hcb hst hsz htl hrs ⊢
  generalize hturn : turnP ((I,B,E),T,tu,le,sl) = r at hst
  obtain ⟨⟨⟨rI,rB,rE⟩,rT,rtu,rle,rsl⟩,t⟩ := r
  rw [hrs]
  have hsz := hsz t
  have htl := htl t
  generalize htick : tick ⟨p,q,l,st⟩ = r2
  obtain ⟨⟨p',q',l',st'⟩,fr⟩ := r2
  generalize htake : takeS ((I,B,E),T,tu,le,sl) t mo = r3 at hsz htl
  obtain ⟨⟨ta,⟨vp,vs,vf,vw⟩⟩,tk⟩ := r3
  simp only at hsz htl ⊢
  generalize henc : encSm (ta,⟨vp,vs,vf,vw⟩) = es at hsz
  generalize hput : putR (cp,R,wr,lo) es = r4
  obtain ⟨⟨cp2,R2,wr2,lo2⟩,ok2⟩ := r4
  have hvl : vw.length ≤ 1048576:=by omega
  refine Holds.go (c := cxStp) Tryz.func6 rfl Tryz.results6 Tryz.ntmps6 (by omega) (by simp) rfl ?_
  intro X0 w0
  (repeat' ((fail_if_success refine WP.atReg (b := 2) ?_); first|apply zS|apply zB|((first|apply zR|apply zC|apply zT|apply zE|apply zK| refine WP.flowE 9 7 [] 9 fla6a90ff780 [49,50,51,52,53,54,55,56,57] [54] [] (by decide +kernel) (by decide +kernel) (by kernel_rfl) (by kernel_rfl) (by kernel_rfl) ?_); simp only [go_sem,hok])|apply And.intro|intro _))
  all_goals first|omega|exact hcs|skip
  refine zP [12,1012,2012,3012,4012] [] rfl ?_
  simp only [go_sem]
  by_cases ht : 0 ≤ t
  ·have ht' : ¬ t < 0:=by omega
   rw [if_pos ht]
   cases fr with
   |false =>
    simp only [Bool.false_eq_true,if_false]
    (repeat' (first|apply zS|apply zB|((first|refine WP.regionF (id := 16) [(0,[54])] ?_); simp only [go_sem,hok,hst,ht',htick])|((first|apply zR|apply zC|apply zT|apply zE|apply zK| refine WP.flowE 9 7 [] 9 fla6a90ff780 [49,50,51,52,53,54,55,56,57] [54] [] (by decide +kernel) (by decide +kernel) (by kernel_rfl) (by kernel_rfl) (by kernel_rfl) ?_); simp only [go_sem,hok,hst,ht',htick])|apply And.intro|intro _))
    all_goals first|omega|rfl|exact hp|exact ⟨hpp,hss,fun _=>htur⟩|exact ⟨_,_,rfl,_,_,rfl,rfl⟩|skip
   |true =>
    simp only [if_true]
    cases tk with
    |false =>
     simp only [Bool.false_eq_true,if_false]
     (repeat' (first|apply zS|apply zB|((first|refine WP.regionF (id := 16) [(0,[54])] ?_); simp only [go_sem,hok,hst,ht',htick,htake])|((first|apply zR|apply zC|apply zT|apply zE|apply zK| refine WP.flowE 9 7 [] 9 fla6a90ff780 [49,50,51,52,53,54,55,56,57] [54] [] (by decide +kernel) (by decide +kernel) (by kernel_rfl) (by kernel_rfl) (by kernel_rfl) ?_); simp only [go_sem,hok,hst,ht',htick,htake])|apply And.intro|intro _))
     all_goals first|omega|rfl|exact hp|exact hpp|exact ⟨hpp,hss,fun _=>htur⟩|exact ⟨_,_,rfl,_,_,rfl,rfl⟩|skip
    |true =>
     simp only [if_true]
     (repeat' (first|apply zS|apply zB|((first|refine WP.regionF (id := 16) [(0,[54])] ?_); simp only [go_sem,hok,hst,ht',htick,htake,henc,hput])|((first|apply zR|apply zC|apply zT|apply zE|apply zK| refine WP.flowE 9 7 [] 9 fla6a90ff780 [49,50,51,52,53,54,55,56,57] [54] [] (by decide +kernel) (by decide +kernel) (by kernel_rfl) (by kernel_rfl) (by kernel_rfl) ?_); simp only [go_sem,hok,hst,ht',htick,htake,henc,hput])|apply And.intro|intro _))
     all_goals first|omega|rfl|exact hp|exact hpp|exact ⟨hrg,hsz⟩|exact ⟨hpp,hss,fun _=>htur⟩|exact ⟨_,_,rfl,_,_,rfl,rfl⟩|skip
  ·have ht' : t < 0:=by omega
   rw [if_neg ht]
   (repeat' (first|apply zS|apply zB|((first|apply zR|apply zC|apply zT|apply zE|apply zK| refine WP.flowE 9 7 [] 9 fla6a90ff780 [49,50,51,52,53,54,55,56,57] [54] [] (by decide +kernel) (by decide +kernel) (by kernel_rfl) (by kernel_rfl) (by kernel_rfl) ?_); simp only [go_sem,hok,hst,ht'])|apply And.intro|intro _))
   all_goals first|omega|rfl|exact hp|exact ⟨hpp,hss,fun _=>htur⟩|exact ⟨_,_,rfl,_,_,rfl,rfl⟩|skip
end
end Go.Proofs.YtoomncljmgcidaaGreat

