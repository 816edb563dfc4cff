/-
  DERIVED. Several texts of ours in one: VtTmS, VtRing, VtEnc, VtNumP, VtPU, VgFrame, VgNode, VpFmt.
-/
import Derived.Test.YtoomncljmgcidaaGreatVa4
import Derived.Test.YtoomncljmgcidaaGreatVa5
import Derived.Test.YtoomncljmgcidaaGreatVa6
import Derived.Test.YtoomncljmgcidaaGreatVa20
import Derived.Test.YtoomncljmgcidaaGreatVa27
set_option linter.unusedSimpArgs false
set_option linter.unusedVariables false
set_option maxHeartbeats 1000000
set_option maxRecDepth 10000
namespace Go.Proofs.YtoomncljmgcidaaGreat
open Go.Vc
attribute [local irreducible] Go.Vc.WP
attribute [local go_sem] cx0_t cx0_c
attribute [local go_sem] decI_enc
attribute [local go_sem] tmA tm_eta kTmOk
theorem and16 (a : Int) : 0 ≤ bitAnd .i64 a 65535 ∧ bitAnd .i64 a 65535 ≤ 65535 := by
 unfold bitAnd
 have h1 : (BitVec.ofInt IntKind.i64.bits a &&& BitVec.ofInt IntKind.i64.bits 65535).toNat ≤ 65535 := by
  rw [BitVec.toNat_and]
  exact Nat.le_trans Nat.and_le_right (by decide)
 generalize (BitVec.ofInt IntKind.i64.bits a &&& BitVec.ofInt IntKind.i64.bits 65535).toNat = n at h1
 rw [show IntKind.i64.wrap (n : Int) = n from IntWalk.i64_in _ ⟨by omega,by omega⟩]
 omega
def nextSt (s : Int) : Int := if 0 ≤ s ∧ s ≤ 65535 then bitAnd .i64 (s * 25173 + 13849) 65535 else 0
theorem nextSt_bd (s : Int) : 0 ≤ nextSt s ∧ nextSt s ≤ 65535 := by
 unfold nextSt
 split
 ·exact and16 _
 ·omega
def kNext : Ctr := pur (fun args=>aI args 0) (fun s=>[.v (.int .i64 s)]) (fun _=>True) (fun _ s=>.v (.int .i64 (nextSt s))) (fun _ _=>[])
section
noncomputable def cxNxS := mkX [(36,k60)] (COk.cons c58 (COk.nil _))
theorem cxNxS_t : cxNxS.tys = tys := rfl
theorem cxNxS_c : cxNxS.C = [(36,k60)] := rfl
attribute [local go_sem] cxNxS_t cxNxS_c k60
theorem cNextS : Cn Tryz.prog 47 kNext := by
 refine Cn.pur Tryz.func47 (by kernel_rfl) rfl fun d x hx=>?_
 rename Int=>s
 refine Holds.go (c := cxNxS) Tryz.func47 rfl Tryz.results47 Tryz.ntmps47 (by omega) (by simp) rfl ?_
 intro X0 w0
 by_cases h : 0 ≤ s ∧ s ≤ 65535
 ·have e : nextSt s = bitAnd .i64 (s * 25173 + 13849) 65535 := if_pos h
  rw [e]
  (repeat' (first|apply zS|apply zB|((first|apply zR|apply zC|apply zT|apply zE|apply zK);simp only [go_sem,h])|apply And.intro|intro _))
  all_goals first|omega|exact ⟨_,_,rfl,_,_,rfl,rfl⟩|skip
 ·have e : nextSt s = 0 := if_neg h
  rw [e]
  (repeat' (first|apply zS|apply zB|((first|apply zR|apply zC|apply zT|apply zE|apply zK);simp only [go_sem,h])|apply And.intro|intro _))
  all_goals first|omega|exact ⟨_,_,rfl,_,_,rfl,rfl⟩|skip
end
def tick (x : Tm) : Tm × Bool := if tmOk x = true then
  (if 0 < x.left - 1 then (⟨x.period,x.spread,x.left - 1,x.state⟩,false)
   else if 0 < x.spread then (⟨x.period,x.spread,x.period + ((nextSt x.state).tdiv 64).tmod x.spread,nextSt x.state⟩,true) else (⟨x.period,x.spread,x.period,x.state⟩,true))
 else (x,false)
def kTick : Ctr := pur (fun args=>tmA args 0) (fun x=>[.agg [.v (.int .i64 x.period),.v (.int .i64 x.spread),.v (.int .i64 x.left),.v (.int .i64 x.state)]]) (fun _=>True)
 (fun _ x=>.tup [.agg [.v (.int .i64 (tick x).1.period),.v (.int .i64 (tick x).1.spread),.v (.int .i64 (tick x).1.left),.v (.int .i64 (tick x).1.state)],.v (.bool (tick x).2)]) (fun _ _=>[])
section
noncomputable def cxTkS := mkX [(44,kTmOk),(47,kNext)] (COk.cons cTmOkS (COk.cons cNextS (COk.nil _)))
theorem cxTkS_t : cxTkS.tys = tys := rfl
theorem cxTkS_c : cxTkS.C = [(44,kTmOk),(47,kNext)] := rfl
attribute [local go_sem] cxTkS_t cxTkS_c kTmOk kNext
theorem cTickS : Cn Tryz.prog 19 kTick := by
 refine Cn.pur Tryz.func19 (by kernel_rfl) rfl fun d x hx=>?_
 obtain ⟨p,s,l,t⟩ := x
 simp only
 refine Holds.go (c := cxTkS) Tryz.func19 rfl Tryz.results19 Tryz.ntmps19 (by omega) (by simp) rfl ?_
 intro X0 w0
 cases hok : tmOk ⟨p,s,l,t⟩ with
 |false =>
  have e : tick ⟨p,s,l,t⟩ = (⟨p,s,l,t⟩,false) := if_neg (by rw [hok]; simp)
  rw [e]
  (repeat' (first|apply zS|apply zB|((first|apply zR|apply zC|apply zT|apply zE|apply zK| refine zD 9 (by decide +kernel) (by kernel_rfl) ?_); simp only [go_sem,hok])|apply And.intro|intro _))
  all_goals first|omega|exact ⟨_,_,rfl,_,_,rfl,rfl⟩|skip
 |true =>
  have h := of_decide_eq_true hok
  simp only at h
  obtain ⟨h1,h2,h3,h4⟩ := h
  have hn := nextSt_bd t
  by_cases hl : 0 < l - 1
  ·have e : tick ⟨p,s,l,t⟩ = (⟨p,s,l - 1,t⟩,false):=by unfold tick; rw [if_pos hok,if_pos hl]
   rw [e]
   (repeat' (first|apply zS|apply zB|((first|apply zR|apply zC|apply zT|apply zE|apply zK| refine zD 9 (by decide +kernel) (by kernel_rfl) ?_); simp only [go_sem,hok,hl])|apply And.intro|intro _))
   all_goals first|omega|exact ⟨_,_,rfl,_,_,rfl,rfl⟩|skip
  ·by_cases hs : 0 < s
   ·have e : tick ⟨p,s,l,t⟩ = (⟨p,s,p + ((nextSt t).tdiv 64).tmod s,nextSt t⟩,true):=by unfold tick; rw [if_pos hok,if_neg hl,if_pos hs]
    rw [e]
    have q1 : 0 ≤ (nextSt t).tdiv 64 ∧ (nextSt t).tdiv 64 ≤ 65535 := by
     rw [Int.tdiv_eq_ediv_of_nonneg hn.1]; omega
    have q2 : 0 ≤ ((nextSt t).tdiv 64).tmod s ∧ ((nextSt t).tdiv 64).tmod s < s := ⟨Int.tmod_nonneg _ q1.1,Int.tmod_lt_of_pos _ hs⟩
    (repeat' (first|apply zS|apply zB|((first|apply zR|apply zC|apply zT|apply zE|apply zK| refine zD 9 (by decide +kernel) (by kernel_rfl) ?_); simp only [go_sem,hok,hl,hs])|apply And.intro|intro _))
    all_goals first|omega|exact ⟨_,_,rfl,_,_,rfl,rfl⟩|skip
   ·have e : tick ⟨p,s,l,t⟩ = (⟨p,s,p,t⟩,true):=by unfold tick; rw [if_pos hok,if_neg hl,if_neg hs]
    rw [e]
    (repeat' (first|apply zS|apply zB|((first|apply zR|apply zC|apply zT|apply zE|apply zK| refine zD 9 (by decide +kernel) (by kernel_rfl) ?_); simp only [go_sem,hok,hl,hs])|apply And.intro|intro _))
    all_goals first|omega|exact ⟨_,_,rfl,_,_,rfl,rfl⟩|skip
end
theorem and16m (a : Int) (h : 0 ≤ a) : bitAnd .i64 a 65535 = a.tmod 65536 := by
 unfold bitAnd
 have h1 : (BitVec.ofInt IntKind.i64.bits a &&& BitVec.ofInt IntKind.i64.bits 65535).toNat = (a % 18446744073709551616).toNat % 65536 := by
  rw [BitVec.toNat_and,BitVec.toNat_ofInt]
  have h2 : (BitVec.ofInt IntKind.i64.bits 65535).toNat = 2 ^ 16 - 1:=by decide
  rw [h2,Nat.and_two_pow_sub_one_eq_mod]
  rfl
 rw [h1,show IntKind.i64.wrap (((a % 18446744073709551616).toNat % 65536 : Nat) : Int) = (((a % 18446744073709551616).toNat % 65536 : Nat) : Int) from IntWalk.i64_in _ ⟨by omega,by omega⟩,Int.tmod_eq_emod_of_nonneg h]
 omega
section
noncomputable def cxNxI := mkX [(37,k60)] (COk.cons c60 (COk.nil _))
theorem cxNxI_t : cxNxI.tys = tys := rfl
theorem cxNxI_c : cxNxI.C = [(37,k60)] := rfl
attribute [local go_sem] cxNxI_t cxNxI_c k60
theorem cNextI : Cn Tryz.prog 96 kNext := by
 refine Cn.pur Tryz.func96 (by kernel_rfl) rfl fun d x hx=>?_
 rename Int=>s
 refine Holds.go (c := cxNxI) Tryz.func96 rfl Tryz.results96 Tryz.ntmps96 (by omega) (by simp) rfl ?_
 intro X0 w0
 by_cases h : 0 ≤ s ∧ s ≤ 65535
 ·have e : nextSt s = (s * 25173 + 13849).tmod 65536:=by unfold nextSt; rw [if_pos h,and16m _ (by omega)]
  rw [e]
  (repeat' (first|apply zS|apply zB|((first|apply zR|apply zC|apply zT|apply zE|apply zK);simp only [go_sem,h])|apply And.intro|intro _))
  all_goals first|omega|exact ⟨_,_,rfl,_,_,rfl,rfl⟩|skip
 ·have e : nextSt s = 0 := if_neg h
  rw [e]
  (repeat' (first|apply zS|apply zB|((first|apply zR|apply zC|apply zT|apply zE|apply zK);simp only [go_sem,h])|apply And.intro|intro _))
  all_goals first|omega|exact ⟨_,_,rfl,_,_,rfl,rfl⟩|skip
end
section
noncomputable def cxTkI := mkX [(59,kTmOk),(96,kNext)] (COk.cons cTmOkI (COk.cons cNextI (COk.nil _)))
theorem cxTkI_t : cxTkI.tys = tys := rfl
theorem cxTkI_c : cxTkI.C = [(59,kTmOk),(96,kNext)] := rfl
attribute [local go_sem] cxTkI_t cxTkI_c kTmOk kNext
theorem cTickI : Cn Tryz.prog 63 kTick := by
 refine Cn.pur Tryz.func63 (by kernel_rfl) rfl fun d x hx=>?_
 obtain ⟨p,s,l,t⟩ := x
 simp only
 refine Holds.go (c := cxTkI) Tryz.func63 rfl Tryz.results63 Tryz.ntmps63 (by omega) (by simp) rfl ?_
 intro X0 w0
 cases hok : tmOk ⟨p,s,l,t⟩ with
 |false =>
  have e : tick ⟨p,s,l,t⟩ = (⟨p,s,l,t⟩,false) := if_neg (by rw [hok]; simp)
  rw [e]
  (repeat' (first|apply zS|apply zB|((first|apply zR|apply zC|apply zT|apply zE|apply zK| refine zD 9 (by decide +kernel) (by kernel_rfl) ?_); simp only [go_sem,hok])|apply And.intro|intro _))
  all_goals first|omega|exact ⟨_,_,rfl,_,_,rfl,rfl⟩|skip
 |true =>
  have h := of_decide_eq_true hok
  simp only at h
  obtain ⟨h1,h2,h3,h4⟩ := h
  have hn := nextSt_bd t
  by_cases hl : 0 < l - 1
  ·have e : tick ⟨p,s,l,t⟩ = (⟨p,s,l - 1,t⟩,false):=by unfold tick; rw [if_pos hok,if_pos hl]
   rw [e]
   (repeat' (first|apply zS|apply zB|((first|apply zR|apply zC|apply zT|apply zE|apply zK| refine zD 9 (by decide +kernel) (by kernel_rfl) ?_); simp only [go_sem,hok,hl])|apply And.intro|intro _))
   all_goals first|omega|exact ⟨_,_,rfl,_,_,rfl,rfl⟩|skip
  ·by_cases hs : 0 < s
   ·have e : tick ⟨p,s,l,t⟩ = (⟨p,s,p + ((nextSt t).tdiv 64).tmod s,nextSt t⟩,true):=by unfold tick; rw [if_pos hok,if_neg hl,if_pos hs]
    rw [e]
    have q1 : 0 ≤ (nextSt t).tdiv 64 ∧ (nextSt t).tdiv 64 ≤ 65535 := by
     rw [Int.tdiv_eq_ediv_of_nonneg hn.1]; omega
    have q2 : 0 ≤ ((nextSt t).tdiv 64).tmod s ∧ ((nextSt t).tdiv 64).tmod s < s := ⟨Int.tmod_nonneg _ q1.1,Int.tmod_lt_of_pos _ hs⟩
    (repeat' (first|apply zS|apply zB|((first|apply zR|apply zC|apply zT|apply zE|apply zK| refine zD 9 (by decide +kernel) (by kernel_rfl) ?_); simp only [go_sem,hok,hl,hs])|apply And.intro|intro _))
    all_goals first|omega|exact ⟨_,_,rfl,_,_,rfl,rfl⟩|skip
   ·have e : tick ⟨p,s,l,t⟩ = (⟨p,s,p,t⟩,true):=by unfold tick; rw [if_pos hok,if_neg hl,if_neg hs]
    rw [e]
    (repeat' (first|apply zS|apply zB|((first|apply zR|apply zC|apply zT|apply zE|apply zK| refine zD 9 (by decide +kernel) (by kernel_rfl) ?_); simp only [go_sem,hok,hl,hs])|apply And.intro|intro _))
    all_goals first|omega|exact ⟨_,_,rfl,_,_,rfl,rfl⟩|skip
end
end Go.Proofs.YtoomncljmgcidaaGreat

namespace Go.Proofs.YtoomncljmgcidaaGreat
open Go.Vc
attribute [local irreducible] Go.Vc.WP
attribute [local go_sem] cx0_t cx0_c
attribute [local go_sem] decS_enc rgA
def preRg (x : RgX) : Prop := x.2.1.length ≤ 4194304 ∧ sizS x.2.1 x.2.1.length ≤ 1099511627776
def kCpRg : Ctr := pur (fun args=>rgA args 0) (fun x=>[.agg [.v (.int .i64 x.1),.sl 1 (x.2.1.map encS),.v (.int .i64 x.2.2.1),.v (.int .i64 x.2.2.2)]]) preRg
 (fun d x=>.agg [.v (.int .i64 x.1),.own d,.v (.int .i64 x.2.2.1),.v (.int .i64 x.2.2.2)]) (fun d x=>[(d,.sl 9 1 (x.2.1.map encS))])
section
noncomputable def cxCrS := mkX [] (COk.nil _)
theorem cxCrS_t : cxCrS.tys = tys := rfl
theorem cxCrS_c : cxCrS.C = [] := rfl
attribute [local go_sem] cxCrS_t cxCrS_c
theorem cCpRgS : Cn Tryz.prog 42 kCpRg := by
 refine Cn.pur Tryz.func42 (by kernel_rfl) rfl fun d x hx=>?_
 obtain ⟨cp,R,wr,lo⟩ := x
 obtain ⟨hR,hz⟩ := hx
 simp only at hR hz ⊢
 refine Holds.go (c := cxCrS) Tryz.func42 rfl Tryz.results42 Tryz.ntmps42 (by omega) (by simp) rfl ?_
 intro X0 w0
 (repeat' (first|apply zS|apply zB|((first|apply zR|apply zC|apply zT|apply zE|apply zK);simp only [go_sem])|apply And.intro|intro _))
 all_goals first|omega|rfl|exact ⟨_,_,rfl,_,_,rfl,rfl⟩|(obtain ⟨n,_,rfl⟩ := List.mem_map.1 ‹_›; rfl)|skip
noncomputable def cxCrI := mkX [] (COk.nil _)
theorem cxCrI_t : cxCrI.tys = tys := rfl
theorem cxCrI_c : cxCrI.C = [] := rfl
attribute [local go_sem] cxCrI_t cxCrI_c
theorem cCpRgI : Cn Tryz.prog 57 kCpRg := by
 refine Cn.pur Tryz.func57 (by kernel_rfl) rfl fun d x hx=>?_
 obtain ⟨cp,R,wr,lo⟩ := x
 obtain ⟨hR,hz⟩ := hx
 simp only at hR hz ⊢
 refine Holds.go (c := cxCrI) Tryz.func57 rfl Tryz.results57 Tryz.ntmps57 (by omega) (by simp) rfl ?_
 intro X0 w0
 (repeat' (first|apply zS|apply zB|((first|apply zR|apply zC|apply zT|apply zE|apply zK);simp only [go_sem])|apply And.intro|intro _))
 all_goals first|omega|rfl|exact ⟨_,_,rfl,_,_,rfl,rfl⟩|(obtain ⟨n,_,rfl⟩ := List.mem_map.1 ‹_›; rfl)|skip
end
def putR (x : RgX) (s : ByteArray) : RgX × Bool :=
 if ringOk x = true ∧ s ≠ ⟨#[]⟩ then (if x.1 < (sizS x.2.1 x.2.1.length : Int) + s.size then ((x.1,x.2.1,x.2.2.1,x.2.2.2 + 1),false) else ((x.1,x.2.1 ++ [s],x.2.2.1 + 1,x.2.2.2),true)) else (x,false)
def kPutRg : Ctr := pur (fun args=>(rgA args 0,aS args 1)) (fun x=>[.agg [.v (.int .i64 x.1.1),.sl 1 (x.1.2.1.map encS),.v (.int .i64 x.1.2.2.1),.v (.int .i64 x.1.2.2.2)],.v (.string x.2)]) (fun x=>preRg x.1 ∧ x.2.size ≤ 1099511627776)
 (fun d x=>.tup [.agg [.v (.int .i64 (putR x.1 x.2).1.1),.own d,.v (.int .i64 (putR x.1 x.2).1.2.2.1),.v (.int .i64 (putR x.1 x.2).1.2.2.2)],.v (.bool (putR x.1 x.2).2)]) (fun d x=>[(d,.sl 9 1 ((putR x.1 x.2).1.2.1.map encS))])
theorem ringOk_in {cp wr lo : Int} {R : List ByteArray} (h : ringOk (cp,R,wr,lo) = true) : (0 ≤ cp ∧ cp ≤ 100000) ∧ (sizS R R.length : Int) ≤ cp ∧ ((R.length : Int) ≤ wr ∧ wr ≤ 1000000000000) ∧ 0 ≤ lo ∧ lo ≤ 1000000000000 := by
 unfold ringOk at h
 rw [Bool.and_eq_true] at h
 exact of_decide_eq_true h.2
section
attribute [local irreducible] preRg
noncomputable def cxPuRS := mkX [(42,kCpRg),(45,kRgOk),(50,kByt)] (COk.cons cCpRgS (COk.cons cRgOkS (COk.cons cBytS (COk.nil _))))
theorem cxPuRS_t : cxPuRS.tys = tys := rfl
theorem cxPuRS_c : cxPuRS.C = [(42,kCpRg),(45,kRgOk),(50,kByt)] := rfl
attribute [local go_sem] cxPuRS_t cxPuRS_c kCpRg kRgOk kByt
theorem cPutRgS : Cn Tryz.prog 21 kPutRg := by
 refine Cn.pur Tryz.func21 (by kernel_rfl) rfl fun d x hx=>?_
 obtain ⟨⟨cp,R,wr,lo⟩,s⟩ := x
 obtain ⟨hp,hs⟩ := hx
 have hp' := hp
 unfold preRg at hp'
 obtain ⟨hR,hz⟩ := hp'
 simp only at hs hR hz ⊢
 refine Holds.go (c := cxPuRS) Tryz.func21 rfl Tryz.results21 Tryz.ntmps21 (by omega) (by simp) rfl ?_
 intro X0 w0
 cases hok : ringOk (cp,R,wr,lo) with
 |false =>
  have e : putR (cp,R,wr,lo) s = ((cp,R,wr,lo),false) := if_neg (by rw [hok]; simp)
  rw [e]
  (repeat' (first|apply zS|apply zB|((first|apply zR|apply zC|apply zT|apply zE|apply zK| refine zD 9 (by decide +kernel) (by kernel_rfl) ?_); simp only [go_sem,hok])|apply And.intro|intro _))
  all_goals first|omega|exact hp|rfl|exact ⟨_,_,rfl,_,_,rfl,rfl⟩|skip
 |true =>
  have hb := ringOk_in hok
  by_cases he : s = ⟨#[]⟩
  ·have e : putR (cp,R,wr,lo) s = ((cp,R,wr,lo),false) := if_neg (fun hh=>hh.2 he)
   rw [e]
   (repeat' (first|apply zS|apply zB|((first|apply zR|apply zC|apply zT|apply zE|apply zK| refine zD 9 (by decide +kernel) (by kernel_rfl) ?_); simp only [go_sem,hok,he])|apply And.intro|intro _))
   all_goals first|omega|exact hp|rfl|exact ⟨_,_,rfl,_,_,rfl,rfl⟩|skip
  ·by_cases hc : cp < (sizS R R.length : Int) + s.size
   ·have e : putR (cp,R,wr,lo) s = ((cp,R,wr,lo + 1),false):=by unfold putR; rw [if_pos ⟨hok,he⟩,if_pos hc]
    rw [e]
    (repeat' (first|apply zS|apply zB|((first|apply zR|apply zC|apply zT|apply zE|apply zK| refine zD 9 (by decide +kernel) (by kernel_rfl) ?_); simp only [go_sem,hok,he,hc])|apply And.intro|intro _))
    all_goals first|omega|exact hp|rfl|exact ⟨_,_,rfl,_,_,rfl,rfl⟩|(rw [List.map_append]; rfl)|skip
   ·have e : putR (cp,R,wr,lo) s = ((cp,R ++ [s],wr + 1,lo),true):=by unfold putR; rw [if_pos ⟨hok,he⟩,if_neg hc]
    rw [e]
    (repeat' (first|apply zS|apply zB|((first|apply zR|apply zC|apply zT|apply zE|apply zK| refine zD 9 (by decide +kernel) (by kernel_rfl) ?_); simp only [go_sem,hok,he,hc])|apply And.intro|intro _))
    all_goals first|omega|exact hp|rfl|exact ⟨_,_,rfl,_,_,rfl,rfl⟩|(rw [List.map_append]; rfl)|skip
noncomputable def cxPuRI := mkX [(57,kCpRg),(60,kRgOk),(95,kByt)] (COk.cons cCpRgI (COk.cons cRgOkI (COk.cons cBytI (COk.nil _))))
theorem cxPuRI_t : cxPuRI.tys = tys := rfl
theorem cxPuRI_c : cxPuRI.C = [(57,kCpRg),(60,kRgOk),(95,kByt)] := rfl
attribute [local go_sem] cxPuRI_t cxPuRI_c kCpRg kRgOk kByt
theorem cPutRgI : Cn Tryz.prog 66 kPutRg := by
 refine Cn.pur Tryz.func66 (by kernel_rfl) rfl fun d x hx=>?_
 obtain ⟨⟨cp,R,wr,lo⟩,s⟩ := x
 obtain ⟨hp,hs⟩ := hx
 have hp' := hp
 unfold preRg at hp'
 obtain ⟨hR,hz⟩ := hp'
 simp only at hs hR hz ⊢
 refine Holds.go (c := cxPuRI) Tryz.func66 rfl Tryz.results66 Tryz.ntmps66 (by omega) (by simp) rfl ?_
 intro X0 w0
 cases hok : ringOk (cp,R,wr,lo) with
 |false =>
  have e : putR (cp,R,wr,lo) s = ((cp,R,wr,lo),false) := if_neg (by rw [hok]; simp)
  rw [e]
  (repeat' (first|apply zS|apply zB|((first|apply zR|apply zC|apply zT|apply zE|apply zK| refine zD 9 (by decide +kernel) (by kernel_rfl) ?_); simp only [go_sem,hok])|apply And.intro|intro _))
  all_goals first|omega|exact hp|rfl|exact ⟨_,_,rfl,_,_,rfl,rfl⟩|skip
 |true =>
  have hb := ringOk_in hok
  by_cases he : s = ⟨#[]⟩
  ·have e : putR (cp,R,wr,lo) s = ((cp,R,wr,lo),false) := if_neg (fun hh=>hh.2 he)
   rw [e]
   (repeat' (first|apply zS|apply zB|((first|apply zR|apply zC|apply zT|apply zE|apply zK| refine zD 9 (by decide +kernel) (by kernel_rfl) ?_); simp only [go_sem,hok,he])|apply And.intro|intro _))
   all_goals first|omega|exact hp|rfl|exact ⟨_,_,rfl,_,_,rfl,rfl⟩|skip
  ·by_cases hc : cp < (sizS R R.length : Int) + s.size
   ·have e : putR (cp,R,wr,lo) s = ((cp,R,wr,lo + 1),false):=by unfold putR; rw [if_pos ⟨hok,he⟩,if_pos hc]
    rw [e]
    (repeat' (first|apply zS|apply zB|((first|apply zR|apply zC|apply zT|apply zE|apply zK| refine zD 9 (by decide +kernel) (by kernel_rfl) ?_); simp only [go_sem,hok,he,hc])|apply And.intro|intro _))
    all_goals first|omega|exact hp|rfl|exact ⟨_,_,rfl,_,_,rfl,rfl⟩|(rw [List.map_append]; rfl)|skip
   ·have e : putR (cp,R,wr,lo) s = ((cp,R ++ [s],wr + 1,lo),true):=by unfold putR; rw [if_pos ⟨hok,he⟩,if_neg hc]
    rw [e]
    (repeat' (first|apply zS|apply zB|((first|apply zR|apply zC|apply zT|apply zE|apply zK| refine zD 9 (by decide +kernel) (by kernel_rfl) ?_); simp only [go_sem,hok,he,hc])|apply And.intro|intro _))
    all_goals first|omega|exact hp|rfl|exact ⟨_,_,rfl,_,_,rfl,rfl⟩|(rw [List.map_append]; rfl)|skip
end
end Go.Proofs.YtoomncljmgcidaaGreat

namespace Go.Proofs.YtoomncljmgcidaaGreat
open Go.Vc
attribute [local irreducible] Go.Vc.WP
attribute [local go_sem] cx0_t cx0_c
def flae142e4611 : List Go.Vc.Fp := [⟨[1],[],[],[18],[],[]⟩,⟨[6],[0],[],[18],[],[]⟩,⟨[7],[0,1],[],[18],[],[]⟩,⟨[1],[],[],[18],[],[]⟩,⟨[9],[3],[],[18],[],[]⟩,⟨[10],[3,4],[],[18],[],[]⟩,⟨[1],[],[],[18],[],[]⟩,⟨[12],[6],[],[18],[],[]⟩,⟨[13],[6,7],[],[18],[],[]⟩,⟨[1],[],[],[18],[],[]⟩,⟨[15],[9],[],[18],[],[]⟩,⟨[16],[9,10],[],[18],[],[]⟩,⟨[11,14,17],[3,4,5,6,7,8,9,10,11],[],[],[],[18]⟩,⟨[1],[],[],[18],[],[]⟩,⟨[19],[13],[],[18],[],[]⟩,⟨[20],[13,14],[],[18],[],[]⟩,⟨[],[0,1,2,3,4,5,6,7,8,9,10,11,12,13,14,15],[],[],[],[]⟩,⟨[],[0,1,2,3,4,5,6,7,8,9,10,11,12,13,14,15,16],[],[],[],[]⟩,⟨[],[0,1,2,3,4,5,6,7,8,9,10,11,12,13,14,15,16,17],[],[],[],[]⟩,⟨[],[0,1,2,3,4,5,6,7,8,9,10,11,12,13,14,15,16,17,18],[],[],[],[]⟩]
attribute [local go_sem] flae142e4611
attribute [local go_sem] decI_enc vwA smA vw_eta
def encSm (x : Int × Vw) : ByteArray := if smOk x = true then varint x.1 ++ pack (x.2.pc :: x.2.sp :: x.2.fp :: x.2.words) else ⟨#[]⟩
theorem pack_size (L : List Int) : (pack L).size ≤ 6 + 6 * L.length := by
 unfold pack
 split
 ·have h1 := packF_size (varint L.length) L
  have h2 := varint_size L.length
  omega
 ·simp [ByteArray.size]
def kEncSm : Ctr := pur (fun args=>smA args 0) (fun x=>[.agg [.v (.int .i64 x.1),.v (.int .i64 x.2.pc),.v (.int .i64 x.2.sp),.v (.int .i64 x.2.fp),.sl 1 (x.2.words.map encI)]]) (fun x=>x.2.words.length ≤ 1048576) (fun _ x=>.v (.string (encSm x))) (fun _ _=>[])
section
noncomputable def cxEsS := mkX [(49,kSmOk),(51,kVar),(52,kPack)] (COk.cons cSmOkS (COk.cons cVarS (COk.cons cPackS (COk.nil _))))
theorem cxEsS_t : cxEsS.tys = tys := rfl
theorem cxEsS_c : cxEsS.C = [(49,kSmOk),(51,kVar),(52,kPack)] := rfl
attribute [local go_sem] cxEsS_t cxEsS_c kSmOk kVar kPack
theorem cEncSmS : Cn Tryz.prog 22 kEncSm := by
 refine Cn.pur Tryz.func22 (by kernel_rfl) rfl fun d x hx=>?_
 obtain ⟨t,a,b,c,w⟩ := x
 simp only at hx ⊢
 have v1 := varint_size t
 have v2 := pack_size (a :: b :: c :: w)
 simp only [List.length_cons] at v2
 have hm : [SV.v (.int .i64 a)] :: [SV.v (.int .i64 b)] :: [SV.v (.int .i64 c)] :: w.map encI = (a :: b :: c :: w).map encI := rfl
 have hlen : (a :: b :: c :: w).length ≤ 2097152:=by simp only [List.length_cons]; omega
 refine Holds.go (c := cxEsS) Tryz.func22 rfl Tryz.results22 Tryz.ntmps22 (by omega) (by simp) rfl ?_
 intro X0 w0
 cases hok : smOk (t,⟨a,b,c,w⟩) with
 |false =>
  have e : encSm (t,⟨a,b,c,w⟩) = ⟨#[]⟩:=by unfold encSm; rw [hok]; rfl
  rw [e]
  (repeat' (first|apply zS|apply zB|((first|apply zR|apply zC|apply zT|apply zE|apply zK| refine zF 16 flae142e4611 [6,7,8,9,10,11,12,13,14,15,16,17,18,19,20,21] [18] [] (by decide +kernel) (by kernel_rfl) (by kernel_rfl) (by kernel_rfl) ?_); simp only [go_sem,hok])|apply And.intro|intro _))
  all_goals first|omega|rfl|skip
 |true =>
  have e : encSm (t,⟨a,b,c,w⟩) = varint t ++ pack (a :: b :: c :: w) := if_pos hok
  rw [e]
  generalize a :: b :: c :: w = Z at hm v2 hlen
  (repeat' (first|apply zS|apply zB|((first|apply zR|apply zC|apply zT|apply zE|apply zK| refine zF 16 flae142e4611 [6,7,8,9,10,11,12,13,14,15,16,17,18,19,20,21] [18] [] (by decide +kernel) (by kernel_rfl) (by kernel_rfl) (by kernel_rfl) ?_); simp only [go_sem,hok,hm])|apply And.intro|intro _))
  all_goals first|omega|rfl|(obtain ⟨n,_,rfl⟩ := List.mem_map.1 ‹_›; rfl)|skip
end
end Go.Proofs.YtoomncljmgcidaaGreat

namespace Go.Proofs.YtoomncljmgcidaaGreat
end Go.Proofs.YtoomncljmgcidaaGreat

namespace Go.Proofs.YtoomncljmgcidaaGreat
open Go.Vc
attribute [local irreducible] Go.Vc.WP
attribute [local go_sem] cx0_t cx0_c
section
end
section
end
end Go.Proofs.YtoomncljmgcidaaGreat

namespace Go.Proofs.YtoomncljmgcidaaGreat
open Go.Vc
attribute [local go_sem] St.runR St.runW St.stepV offV St.step St.stepU St.stepG mkCond guardB St.prK St.pr St.prLen St.eff St.callE St.callD St.callF St.callL aI aS aR aC St.isM St.argL Ctr.pure Ctr.lend Ctr.move Ctr.isL Ctr.wri pur len lentBy St.lentV St.lent1 ptrs1 own1s St.ownsIn St.ptrsIn nthS argsR restOf obsR pairs swapL unObs backL St.resL erL SV.ren1 SV.up SV.up2 Ob.up St.fzL cellIds partIds St.intoRow SV.ownId St.fz SV.fz1 St.prep St.mvL St.mv SV.re1 rnOk St.prEq vals eqCells scEq Value.kd St.prStr St.prCut cutR St.bnd St.prMin St.bld isShift outL retL outJ oR oC oE oD SV.upq SV.isSl SV.shut St.deepK St.dpArg St.deepQ absC Ob.pl St.ev St.get St.put St.new St.kill SV.kill SV.kill1 Ob.kill St.app St.wrt St.rowsOf St.res St.killL lk er argsL SV.strip SV.need SV.share SV.share1 SV.owns SV.owns1 SV.owns2 SV.good SV.good1 SV.rok SV.rok1 SV.rok2 SV.isV SV.isV2 nodupN SV.cells SV.one SV.pur Ob.pb partsIn rowsIn splice cellsAt dstOk scal2 scal1 thenK blockK retK outK outs okC okL okA okT nilC nilL nilA nilT keepC keepL keepA keepT St.runG St.dltK St.least St.clean St.final St.hide offK badS badO SV.refs SV.leaf SV.leaf2 Ob.refs dlOk fpAt Go.Vc.cover tups SV.ofAgg St.out outC subL St.has rng wr Value.oneCell' Option.isSome_some Option.isSome_none List.nil_append Bool.false_eq_true List.map_cons List.map_nil List.all_cons List.all_nil List.length_cons List.length_nil List.drop_zero List.drop_succ_cons List.take_succ_cons List.take_zero List.drop_nil List.take_nil List.getElem?_cons_zero List.getElem?_cons_succ List.getElem?_nil List.cons_append List.nil_append List.append_nil List.append_assoc List.flatMap_cons List.flatMap_nil List.contains_cons List.contains_nil List.set_cons_zero List.set_cons_succ List.getElem?_toArray Option.getD_some Option.getD_none Option.map_some Option.map_none Option.bind_some Option.some.injEq Prod.mk.injEq if_true if_false true_and and_true and_self and_false false_and Bool.and_false Bool.false_and Bool.or_true Bool.true_or Bool.or_false Bool.false_or ne_eq not_true_eq_false not_false_eq_true decide_true decide_false List.mem_cons List.not_mem_nil List.filter_cons List.filter_nil List.any_cons List.any_nil List.isEmpty_nil List.isEmpty_cons Option.getD_none or_false false_or true_or or_true forall_eq_or_imp forall_eq reduceCtorEq exists_eq exists_eq' exists_eq_left' exists_eq_left exists_eq_right exists_eq_right' imp_self implies_true Bool.and_true Bool.true_and Bool.and_self beq_self_eq_true List.replicate_succ List.replicate_zero forall_const false_implies pickB_or pickB_and beqT beqF Int.toNat_natCast List.length_map List.length_replicate ge_iff_le gt_iff_lt decide_eq_true_eq decide_eq_false_iff_not Bool.and_eq_true Bool.or_eq_true Bool.not_eq_true' Bool.not_eq_false' condG List.toList_toArray Bool.or_eq_false_iff Bool.and_eq_false_iff Int.not_lt Int.not_le beq_iff_eq beq_eq_false_iff_ne bne_iff_ne bne_eq_false_iff_eq ne_eq Bool.not_true Bool.not_false exists_and_left
section
open Go.Vc
attribute [local irreducible] Go.Vc.WP
attribute [local go_sem] cx0_t cx0_c
structure Frame where
 name : ByteArray
 line : Int
deriving DecidableEq
section
open Go.RowKit Go.WideShapes Go.ChangeShapes Go.Deep
end
end
section
open Go.Vc
attribute [local irreducible] Go.Vc.WP
attribute [local go_sem] cx0_t cx0_c
section
end
section
end
section
end
attribute [local go_sem] kmarkT
end
end Go.Proofs.YtoomncljmgcidaaGreat
namespace Go.Proofs.YtoomncljmgcidaaGreat
end Go.Proofs.YtoomncljmgcidaaGreat

