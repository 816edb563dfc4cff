/-
  DERIVED. Several texts of ours in one: VtTurI.
-/
import Derived.Test.YtoomncljmgcidaaGreatVa20
import Derived.Test.YtoomncljmgcidaaGreatVa25
import Derived.Test.YtoomncljmgcidaaGreatVa31
set_option linter.unusedSimpArgs false
set_option linter.unusedVariables false
set_option maxHeartbeats 1000000
set_option maxRecDepth 10000
namespace Go.Proofs.YtoomncljmgcidaaGreat
open Go.Vc
attribute [local irreducible] Go.Vc.WP
attribute [local go_sem] cx0_t cx0_c
def fl7fae1f741a : List Go.Vc.Fp := [⟨[0],[],[],[66,1066],[],[]⟩,⟨[50],[0],[],[66,1066],[],[]⟩,⟨[51],[0,1],[],[66,1066],[],[]⟩,⟨[52],[0,1,2],[],[66,1066],[],[]⟩,⟨[5],[],[],[66,1066],[],[]⟩,⟨[0],[],[],[66,1066],[],[]⟩,⟨[55],[5],[],[66,1066],[],[]⟩,⟨[56],[5,6],[],[66,1066],[],[]⟩,⟨[57],[5,6,7],[],[66,1066],[],[]⟩,⟨[0],[],[],[66,1066],[],[]⟩,⟨[59],[9],[],[66,1066],[],[]⟩,⟨[60],[9,10],[],[66,1066],[],[]⟩,⟨[61],[9,10,11],[],[66,1066],[],[]⟩,⟨[5],[],[],[66,1066],[],[]⟩,⟨[62,63],[9,10,11,12,13],[],[66,1066],[],[]⟩,⟨[64],[9,10,11,12,13,14],[],[66,1066],[],[]⟩,⟨[58,65],[5,6,7,8,9,10,11,12,13,14,15],[],[],[],[66,1066]⟩,⟨[],[0,1,2,3,4,5,6,7,8,9,10,11,12,13,14,15,16],[],[],[],[]⟩,⟨[],[0,1,2,3,4,5,6,7,8,9,10,11,12,13,14,15,16,17],[],[],[],[]⟩]
attribute [local go_sem] fl7fae1f741a
attribute [local go_sem] decI_enc decImage_enc spA decS_enc decMach_enc oneMach_f mach_eta isV_It tmA tm_eta rgA
def bxE (x : SeX) (c : Nat) : List SV := [.sl 2 (x.1.1.1.map encImage),.sl 1 (x.1.1.2.1.map encI),.sl 1 (x.1.1.2.2.map encI),.own c,.v (.int .i64 x.1.2.2.1),.v (.int .i64 x.1.2.2.2.1),.v (.int .i64 x.1.2.2.2.2),.v (.int .i64 x.2.1.period),.v (.int .i64 x.2.1.spread),.v (.int .i64 x.2.1.left),.v (.int .i64 x.2.1.state),
 .v (.int .i64 x.2.2.1.1),.sl 1 (x.2.2.1.2.1.map encS),.v (.int .i64 x.2.2.1.2.2.1),.v (.int .i64 x.2.2.1.2.2.2),.v (.int .i64 x.2.2.2.1),.v (.int .i64 x.2.2.2.2.1),.v (.int .i64 x.2.2.2.2.2)]
def obE (x : SeX) : List (Nat × Ob) := [(1000000,.box 46 (bxE x 1000001)),(1000001,.sl 96 7 (x.1.2.1.map encMach))]
def decE (obs : List (Nat × Ob)) : SeX := match oC obs 1000000 with
 | [.sl _ I,.sl _ B,.sl _ E,_,.v (.int _ a),.v (.int _ b),.v (.int _ c),.v (.int _ p),.v (.int _ q),.v (.int _ l),.v (.int _ s),.v (.int _ cp),.sl _ R,.v (.int _ wr),.v (.int _ lo),.v (.int _ mo),.v (.int _ sp),.v (.int _ fi)]=>(((decImage I,decI B,decI E),decMach (oR obs 1000001),a,b,c),⟨p,q,l,s⟩,(cp,decS R,wr,lo),mo,sp,fi)
 | _=>((([],[],[]),[],0,0,0),⟨0,0,0,0⟩,(0,[],0,0),0,0,0)
attribute [local go_sem] bxE obE decE
def kTurI : Ctr := len [0] [] (fun _ obs=>decE obs) (fun _=>[.ptr 1000000 0 0 0]) (fun x=>obE x) (fun x=>TurR x.1) (fun _ x=>.v (.int .i64 (turnP x.1).2)) (fun _ _=>[]) (fun x=>obE ((turnP x.1).1,x.2))
section
attribute [local irreducible] preLoc
noncomputable def cxTuI := mkX [(102,kStepI)] (COk.cons cStepI (COk.nil _))
theorem cxTuI_t : cxTuI.tys = tys := rfl
theorem cxTuI_c : cxTuI.C = [(102,kStepI)] := rfl
attribute [local go_sem] cxTuI_t cxTuI_c kStepI
set_option maxHeartbeats 4000000 in
theorem cTurI : Cn Tryz.prog 68 kTurI := by
 refine Cn.len Tryz.func68 (by kernel_rfl) rfl fun d x hd hx=>?_
 obtain ⟨⟨⟨I,B,E⟩,T,tu,le,sl⟩,⟨p,q,l,st⟩,⟨cp,R,wr,lo⟩,mo,sp,fi⟩ := x
 have hT := hx
 obtain ⟨_,_,_,_,_,_,⟨hn0,hn1⟩,⟨ht0,ht1⟩,⟨hs0,hs1⟩,⟨hl0,hl1⟩,_⟩ := hx
 simp only at hn0 hn1 ht0 ht1 hs0 hs1 hl0 hl1 ⊢
 unfold obE bxE
 refine HoldsL.go (c := cxTuI) Tryz.func68 rfl Tryz.results68 Tryz.ntmps68 (by omega) (by simp) rfl (by simp <;> omega) (by simp [SV.owns2,SV.owns,SV.owns1]) (by simp) rfl rfl (by simp) ?_
 intro X0 M w0
 (repeat' (first|apply zS|apply zB|((first|apply zR|apply zC|apply zT|apply zE|apply zK| refine zF 17 fl7fae1f741a [50,51,52,53,54,55,56,57,58,59,60,61,62,63,64,65,66] [66,1066] [] (by decide +kernel) (by kernel_rfl) (by kernel_rfl) (by kernel_rfl) ?_); simp only [go_sem])|apply And.intro|intro _))
 all_goals first|omega|skip
 refine zL (fun k : Nat=>⟨[(0,.ptr 1000000 0 0 0),(3,.v (.int .i64 T.length)),(4,.v (.int .i64 k))],obE (((I,B,E),T,tu,le,sl),⟨p,q,l,st⟩,(cp,R,wr,lo),mo,sp,fi)⟩)
  (fun k=>k ≤ T.length ∧ ∀ i,i < T.length → i < k → runB T tu i = false) (fun k=>T.length - k) 0 (by simp) ?_ ?_
 ·(simp only [go_sem] <;> (first|(and_intros <;> rfl)|simp))
 intro k ⟨hk,hf⟩
 by_cases hlt : k < T.length
 ·have hli : (k : Int) < T.length:=by omega
  have hnz : ((T.length : Nat) : Int) ≠ 0:=by omega
  have hq0 : 0 ≤ (tu + (k : Int)).tmod T.length := Int.tmod_nonneg _ (by omega)
  have hq1 : (tu + (k : Int)).tmod T.length < T.length := Int.tmod_lt_of_pos _ (by omega)
  have hfi := turn_first (n := T.length) (k := k) (tu := tu) ht0 (by omega) hlt
  obtain ⟨j,hj⟩ : ∃ j : Nat,(tu + (k : Int)).tmod T.length = j := ⟨((tu + (k : Int)).tmod T.length).toNat,by omega⟩
  have hjl : j < T.length:=by omega
  have hr := rowAt_map encMach T j hjl
  have hjli : (j : Int) < T.length:=by omega
  have hrun : runB T tu k = decide (T[j].state = 0) := by
   unfold runB
   rw [hj,Int.toNat_natCast,List.getD_eq_getElem?_getD,List.getElem?_eq_getElem hjl]; rfl
  by_cases h : T[j].state = 0
  ·have hh : runB T tu k = true:=by rw [hrun,decide_eq_true h]
   have hc := run_hit hlt hf hj hh
   have hstp := hT.stp (List.getElem_mem hjl) h
   have hsame := hT.same (List.getElem_mem hjl)
   simp only at hsame
   have hsetL : (T.set j (stepS (I,B,E) T[j])).map encMach = (T.map encMach).set j (encMach (stepS (I,B,E) T[j])) := List.map_set
   have hlen2 : (T.set j (stepS (I,B,E) T[j])).length = T.length := List.length_set
   rw [turnP_hit hjl hc]
   rw [hj] at hfi
   generalize hst : stepS (I,B,E) T[j] = m2 at *
   have hst := hsame
   generalize hmj : T[j] = m1 at *
   obtain ⟨a1,a2,a3,a4,a5,a6,a7⟩ := m1
   obtain ⟨b1,b2,b3,b4,b5,b6,b7⟩ := m2
   simp only at h
   subst h
   by_cases hjt : (j : Int) = tu
   ·subst hjt
    have hk0 : ((j : Int) != (j : Int)) = false:=by simp
    rw [if_pos rfl]
    by_cases hz : le - 1 = 0
    ·rw [if_pos hz]
     (repeat' (first|apply zS|apply zB|((first|apply zR|apply zC|apply zT|apply zE|apply zK| refine zD 17 (by decide +kernel) (by kernel_rfl) ?_); simp only [go_sem,hli,hnz,hj,hjli,hr,encMach,hst,hk0,hz,hsetL,List.length_set,List.length_map,Int.toNat_natCast])|apply And.intro|intro _))
     all_goals first|omega|rfl|exact hnz|exact hstp|skip
    ·rw [if_neg hz]
     (repeat' (first|apply zS|apply zB|((first|apply zR|apply zC|apply zT|apply zE|apply zK| refine zD 17 (by decide +kernel) (by kernel_rfl) ?_); simp only [go_sem,hli,hnz,hj,hjli,hr,encMach,hst,hk0,hz,hsetL,List.length_set,List.length_map,Int.toNat_natCast])|apply And.intro|intro _))
     all_goals first|omega|rfl|exact hnz|exact hstp|skip
   ·have hk0 : ¬ (j : Int) = tu := hjt
    rw [if_neg hjt]
    by_cases hz : sl - 1 = 0
    ·rw [if_pos hz]
     (repeat' (first|apply zS|apply zB|((first|apply zR|apply zC|apply zT|apply zE|apply zK| refine zD 17 (by decide +kernel) (by kernel_rfl) ?_); simp only [go_sem,hli,hnz,hj,hjli,hr,encMach,hst,hk0,hz,hsetL,List.length_set,List.length_map,Int.toNat_natCast])|apply And.intro|intro _))
     all_goals first|omega|rfl|exact hnz|exact hstp|skip
    ·rw [if_neg hz]
     (repeat' (first|apply zS|apply zB|((first|apply zR|apply zC|apply zT|apply zE|apply zK| refine zD 17 (by decide +kernel) (by kernel_rfl) ?_); simp only [go_sem,hli,hnz,hj,hjli,hr,encMach,hst,hk0,hz,hsetL,List.length_set,List.length_map,Int.toNat_natCast])|apply And.intro|intro _))
     all_goals first|omega|rfl|exact hnz|exact hstp|skip
  ·have hh : runB T tu k = false:=by rw [hrun,decide_eq_false h]
   have hnx : ∀ i,i < T.length → i < k + 1 → runB T tu i = false := fun i hi hik=>by
    rcases Nat.lt_or_ge i k with h|h
    ·exact hf i hi h
    ·have : i = k:=by omega
     subst this; exact hh
   (repeat' (first|apply zS|apply zB|((first|apply zR|apply zC|apply zT|apply zE|apply zK| refine zD 17 (by decide +kernel) (by kernel_rfl) ?_); simp only [go_sem,hli,hnz,hj,hjli,hr,encMach,h,Int.toNat_natCast])|apply And.intro|intro _))
   all_goals first|omega|exact hnz|exact ⟨k + 1,⟨by omega,hnx⟩,by omega,by (first|(and_intros <;> rfl)|simp)⟩|skip
 ·have hge : ¬ (k : Int) < T.length:=by omega
  have hc := run_none hlt hf
  have e : turnP ((I,B,E),T,tu,le,sl) = (((I,B,E),T,tu,le,sl),-1) := by
   unfold turnP
   rw [if_pos (by simp only [hc]; omega)]
  rw [e]
  (repeat' (first|apply zS|apply zB|((first|apply zR|apply zC|apply zT|apply zE|apply zK| refine zD 17 (by decide +kernel) (by kernel_rfl) ?_); simp only [go_sem,hge])|apply And.intro|intro _))
  all_goals first|omega|rfl|skip
end
end Go.Proofs.YtoomncljmgcidaaGreat

