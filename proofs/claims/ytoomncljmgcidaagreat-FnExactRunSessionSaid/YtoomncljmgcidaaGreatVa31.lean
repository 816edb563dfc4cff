/-
  DERIVED. Several texts of ours in one: VtTur.
-/
import Derived.Test.YtoomncljmgcidaaGreatVa26
import Derived.Test.YtoomncljmgcidaaGreatVa30
set_option linter.unusedSimpArgs false
set_option linter.unusedVariables false
set_option maxHeartbeats 1000000
set_option maxRecDepth 10000
namespace Go.Proofs.YtoomncljmgcidaaGreat
open Go.Vc
attribute [local irreducible] Go.Vc.WP
attribute [local go_sem] cx0_t cx0_c
def fl810da838e4 : List Go.Vc.Fp := [⟨[0],[],[],[64,1064],[],[]⟩,⟨[48],[0],[],[64,1064],[],[]⟩,⟨[49],[0,1],[],[64,1064],[],[]⟩,⟨[50],[0,1,2],[],[64,1064],[],[]⟩,⟨[4],[],[],[64,1064],[],[]⟩,⟨[0],[],[],[64,1064],[],[]⟩,⟨[53],[5],[],[64,1064],[],[]⟩,⟨[54],[5,6],[],[64,1064],[],[]⟩,⟨[55],[5,6,7],[],[64,1064],[],[]⟩,⟨[0],[],[],[64,1064],[],[]⟩,⟨[57],[9],[],[64,1064],[],[]⟩,⟨[58],[9,10],[],[64,1064],[],[]⟩,⟨[59],[9,10,11],[],[64,1064],[],[]⟩,⟨[4],[],[],[64,1064],[],[]⟩,⟨[60,61],[9,10,11,12,13],[],[64,1064],[],[]⟩,⟨[62],[9,10,11,12,13,14],[],[64,1064],[],[]⟩,⟨[56,63],[5,6,7,8,9,10,11,12,13,14,15],[],[],[],[64,1064]⟩,⟨[],[0,1,2,3,4,5,6,7,8,9,10,11,12,13,14,15,16],[],[],[],[]⟩,⟨[],[0,1,2,3,4,5,6,7,8,9,10,11,12,13,14,15,16,17],[],[],[],[]⟩]
attribute [local go_sem] fl810da838e4
attribute [local go_sem] decI_enc decImage_enc spA decMach_enc oneMach_f mach_eta isV_It
structure TurR (x : PcX) : Prop where
 imgs : okImgs x.1.1
 len : x.1.2.1.length = x.1.1.length
 bases : ∀ b ∈ x.1.2.1,0 ≤ b ∧ b ≤ 1000000
 codes : ∀ i : Nat,(x.1.1.getD i zImg).code.size ≤ 1000000
 ent : x.1.2.2.length ≤ 4194304
 ents : ∀ e ∈ x.1.2.2,In64 e
 num : 1 ≤ x.2.1.length ∧ x.2.1.length ≤ 3
 turn : 0 ≤ x.2.2.1 ∧ x.2.2.1 ≤ (x.2.1.length : Int) - 1
 slice : 1 ≤ x.2.2.2.2 ∧ x.2.2.2.2 ≤ 1000
 left : 1 ≤ x.2.2.2.1 ∧ x.2.2.2.1 ≤ x.2.2.2.2
 ms : ∀ m ∈ x.2.1,m.stack.length = 1200 ∧ (0 ≤ m.sp ∧ m.sp ≤ 1200) ∧ m.out.length ≤ 2097152 ∧ MachR m
theorem TurR.stp {x : PcX} (h : TurR x) {m : Mach} (hm : m ∈ x.2.1) (h0 : m.state = 0) : StpR (x.1,m) := by
 obtain ⟨a,b,c,d⟩ := h.ms m hm
 exact ⟨h.imgs,h.len,h.bases,h.codes,h.ent,a,b,c,d.fp,h0⟩
theorem TurR.same {x : PcX} (h : TurR x) {m : Mach} (hm : m ∈ x.2.1) : stepI x.1 m = stepS x.1 m := step_same h.bases h.codes h.ents (h.ms m hm).2.2.2
def bxP (x : PcX) (c : Nat) : List SV := [.sl 2 (x.1.1.map encImage),.sl 1 (x.1.2.1.map encI),.sl 1 (x.1.2.2.map encI),.own c,.v (.int .i64 x.2.2.1),.v (.int .i64 x.2.2.2.1),.v (.int .i64 x.2.2.2.2)]
def obP (x : PcX) : List (Nat × Ob) := [(1000000,.box 42 (bxP x 1000001)),(1000001,.sl 96 7 (x.2.1.map encMach))]
def decP (obs : List (Nat × Ob)) : PcX := match oC obs 1000000 with
 | [.sl _ I,.sl _ B,.sl _ E,_,.v (.int _ a),.v (.int _ b),.v (.int _ c)]=>((decImage I,decI B,decI E),decMach (oR obs 1000001),a,b,c)
 | _=>(([],[],[]),[],0,0,0)
attribute [local go_sem] bxP obP decP
def kTurS : Ctr := len [0] [] (fun _ obs=>decP obs) (fun _=>[.ptr 1000000 0 0 0]) (fun x=>obP x) TurR (fun _ x=>.v (.int .i64 (turnP x).2)) (fun _ _=>[]) (fun x=>obP (turnP x).1)
theorem run_hit {T : List Mach} {tu : Int} {k j : Nat} (hlt : k < T.length) (hf : ∀ i,i < T.length → i < k → runB T tu i = false) (hj : (tu + (k : Int)).tmod T.length = j) (hh : runB T tu k = true) : chos T tu = j := by
 have hfi : firstIdx (runB T tu) (List.range T.length) = k :=
  firstIdx_hit (p := runB T tu) (L := List.range T.length) (k := k) (by simpa using hlt) (fun i hi hik=>by rw [List.getElem_range]; exact hf i (by simpa using hi) hik) (by rw [List.getElem_range]; exact hh)
 unfold chos; rw [hfi,if_neg (by omega),hj]
theorem run_none {T : List Mach} {tu : Int} {k : Nat} (hge : ¬ k < T.length) (hf : ∀ i,i < T.length → i < k → runB T tu i = false) : chos T tu = -1 := by
 unfold chos
 rw [firstIdx_none fun i hi=>by
  rw [List.getElem_range]
  have hi' : i < T.length:=by simpa using hi
  exact hf i hi' (by omega)]
 rfl
theorem turn_first {n k : Nat} {tu : Int} (h0 : 0 ≤ tu) (h1 : tu < n) (hk : k < n) : (tu + (k : Int)).tmod n = tu ↔ k = 0 := by
 rw [Int.tmod_eq_emod_of_nonneg (by omega)]
 constructor
 ·intro h
  have h2 := Int.emod_add_mul_ediv (tu + (k : Int)) (n : Int)
  rw [h] at h2
  have h3 : (n : Int) * ((tu + k) / n) = k:=by omega
  rcases Int.lt_trichotomy ((tu + (k : Int)) / n) 0 with h4|h4|h4
  ·have : 0 ≤ (tu + (k : Int)) / n := Int.ediv_nonneg (by omega) (by omega)
   omega
  ·rw [h4] at h3; omega
  ·have h5 : (n : Int) * 1 ≤ n * ((tu + k) / n) := Int.mul_le_mul_of_nonneg_left (by omega) (by omega)
   omega
 ·intro h
  subst h
  rw [show tu + ((0 : Nat) : Int) = tu by omega,Int.emod_eq_of_lt h0 h1]
theorem turnP_hit {S : SpcX} {T : List Mach} {tu le sl : Int} {j : Nat} (hj : j < T.length) (hc : chos T tu = j) : turnP (S,T,tu,le,sl) =
  (if (if (j : Int) = tu then le else sl) - 1 = 0 then (S,T.set j (stepS S T[j]),((j : Int) + 1).tmod T.length,sl,sl) else (S,T.set j (stepS S T[j]),(j : Int),(if (j : Int) = tu then le else sl) - 1,sl),(j : Int)) := by
 unfold turnP
 simp only [hc]
 rw [if_neg (by omega)]
 have hg : T.getD (j : Int).toNat zMa = T[j]:=by rw [Int.toNat_natCast,List.getD_eq_getElem?_getD,List.getElem?_eq_getElem hj]; rfl
 rw [hg,Int.toNat_natCast]
section
attribute [local irreducible] preLoc
noncomputable def cxTuS := mkX [(85,kStep)] (COk.cons cStepS (COk.nil _))
theorem cxTuS_t : cxTuS.tys = tys := rfl
theorem cxTuS_c : cxTuS.C = [(85,kStep)] := rfl
attribute [local go_sem] cxTuS_t cxTuS_c kStep
set_option maxHeartbeats 4000000 in
theorem cTurS : Cn Tryz.prog 46 kTurS := by
 refine Cn.len Tryz.func46 (by kernel_rfl) rfl fun d x hd hx=>?_
 obtain ⟨⟨I,B,E⟩,T,tu,le,sl⟩ := x
 have hT := hx
 obtain ⟨_,_,_,_,_,_,⟨hn0,hn1⟩,⟨ht0,ht1⟩,⟨hs0,hs1⟩,⟨hl0,hl1⟩,_⟩ := hx
 simp only at hn0 hn1 ht0 ht1 hs0 hs1 hl0 hl1 ⊢
 unfold obP bxP
 refine HoldsL.go (c := cxTuS) Tryz.func46 rfl Tryz.results46 Tryz.ntmps46 (by omega) (by simp) rfl (by simp <;> omega) (by simp [SV.owns2,SV.owns,SV.owns1]) (by simp) rfl rfl (by simp) ?_
 intro X0 M w0
 (repeat' (first|apply zS|apply zB|((first|apply zR|apply zC|apply zT|apply zE|apply zK| refine zF 17 fl810da838e4 [48,49,50,51,52,53,54,55,56,57,58,59,60,61,62,63,64] [64,1064] [] (by decide +kernel) (by kernel_rfl) (by kernel_rfl) (by kernel_rfl) ?_|refine zD 12 (by decide +kernel) (by kernel_rfl) ?_); simp only [go_sem])|apply And.intro|intro _))
 all_goals first|omega|skip
 refine zL (fun k : Nat=>⟨[(0,.ptr 1000000 0 0 0),(3,.v (.int .i64 k))],obP ((I,B,E),T,tu,le,sl)⟩)
  (fun k=>k ≤ T.length ∧ ∀ i,i < T.length → i < k → runB T tu i = false) (fun k=>T.length - k) 0 (by simp) ?_ ?_
 ·(simp only [go_sem] <;> (first|(and_intros <;> rfl)|simp))
 intro k ⟨hk,hf⟩
 by_cases hlt : k < T.length
 ·have hli : (k : Int) < T.length:=by omega
  have hnz : ((T.length : Nat) : Int) ≠ 0:=by omega
  have hq0 : 0 ≤ (tu + (k : Int)).tmod T.length := Int.tmod_nonneg _ (by omega)
  have hq1 : (tu + (k : Int)).tmod T.length < T.length := Int.tmod_lt_of_pos _ (by omega)
  have hfi := turn_first (n := T.length) (k := k) (tu := tu) ht0 (by omega) hlt
  obtain ⟨j,hj⟩ : ∃ j : Nat,(tu + (k : Int)).tmod T.length = j := ⟨((tu + (k : Int)).tmod T.length).toNat,by omega⟩
  have hjl : j < T.length:=by omega
  have hr := rowAt_map encMach T j hjl
  have hjli : (j : Int) < T.length:=by omega
  have hrun : runB T tu k = decide (T[j].state = 0) := by
   unfold runB
   rw [hj,Int.toNat_natCast,List.getD_eq_getElem?_getD,List.getElem?_eq_getElem hjl]; rfl
  by_cases h : T[j].state = 0
  ·have hh : runB T tu k = true:=by rw [hrun,decide_eq_true h]
   have hc := run_hit hlt hf hj hh
   have hstp := hT.stp (List.getElem_mem hjl) h
   have hsetL : (T.set j (stepS (I,B,E) T[j])).map encMach = (T.map encMach).set j (encMach (stepS (I,B,E) T[j])) := List.map_set
   have hlen2 : (T.set j (stepS (I,B,E) T[j])).length = T.length := List.length_set
   rw [turnP_hit hjl hc]
   rw [hj] at hfi
   generalize hst : stepS (I,B,E) T[j] = m2 at *
   generalize hmj : T[j] = m1 at *
   obtain ⟨a1,a2,a3,a4,a5,a6,a7⟩ := m1
   obtain ⟨b1,b2,b3,b4,b5,b6,b7⟩ := m2
   simp only at h
   subst h
   have hpos : (k : Int) > 0 ↔ ¬ (j : Int) = tu:=by rw [hfi]; omega
   by_cases hjt : (j : Int) = tu
   ·have hk0 : ¬ (0 : Int) < k := fun q=>(hpos.1 q) hjt
    rw [if_pos hjt]
    by_cases hz : le - 1 = 0
    ·rw [if_pos hz]
     (repeat' (first|apply zS|apply zB|((first|apply zR|apply zC|apply zT|apply zE|apply zK| refine zD 12 (by decide +kernel) (by kernel_rfl) ?_|refine zD 17 (by decide +kernel) (by kernel_rfl) ?_); simp only [go_sem,hli,hnz,hj,hjli,hr,encMach,hst,hk0,hz,hsetL,List.length_set,List.length_map,Int.toNat_natCast])|apply And.intro|intro _))
     all_goals first|omega|rfl|exact hnz|exact hstp|(rw [hjt]; done)|skip
    ·rw [if_neg hz]
     (repeat' (first|apply zS|apply zB|((first|apply zR|apply zC|apply zT|apply zE|apply zK| refine zD 12 (by decide +kernel) (by kernel_rfl) ?_|refine zD 17 (by decide +kernel) (by kernel_rfl) ?_); simp only [go_sem,hli,hnz,hj,hjli,hr,encMach,hst,hk0,hz,hsetL,List.length_set,List.length_map,Int.toNat_natCast])|apply And.intro|intro _))
     all_goals first|omega|rfl|exact hnz|exact hstp|(rw [hjt]; done)|skip
   ·have hk0 : (0 : Int) < k := hpos.2 hjt
    rw [if_neg hjt]
    by_cases hz : sl - 1 = 0
    ·rw [if_pos hz]
     (repeat' (first|apply zS|apply zB|((first|apply zR|apply zC|apply zT|apply zE|apply zK| refine zD 12 (by decide +kernel) (by kernel_rfl) ?_|refine zD 17 (by decide +kernel) (by kernel_rfl) ?_); simp only [go_sem,hli,hnz,hj,hjli,hr,encMach,hst,hk0,hz,hsetL,List.length_set,List.length_map,Int.toNat_natCast])|apply And.intro|intro _))
     all_goals first|omega|rfl|exact hnz|exact hstp|(rw [hjt]; done)|skip
    ·rw [if_neg hz]
     (repeat' (first|apply zS|apply zB|((first|apply zR|apply zC|apply zT|apply zE|apply zK| refine zD 12 (by decide +kernel) (by kernel_rfl) ?_|refine zD 17 (by decide +kernel) (by kernel_rfl) ?_); simp only [go_sem,hli,hnz,hj,hjli,hr,encMach,hst,hk0,hz,hsetL,List.length_set,List.length_map,Int.toNat_natCast])|apply And.intro|intro _))
     all_goals first|omega|rfl|exact hnz|exact hstp|(rw [hjt]; done)|skip
  ·have hh : runB T tu k = false:=by rw [hrun,decide_eq_false h]
   have hnx : ∀ i,i < T.length → i < k + 1 → runB T tu i = false := fun i hi hik=>by
    rcases Nat.lt_or_ge i k with h|h
    ·exact hf i hi h
    ·have : i = k:=by omega
     subst this; exact hh
   (repeat' (first|apply zS|apply zB|((first|apply zR|apply zC|apply zT|apply zE|apply zK| refine zD 12 (by decide +kernel) (by kernel_rfl) ?_|refine zD 17 (by decide +kernel) (by kernel_rfl) ?_); simp only [go_sem,hli,hnz,hj,hjli,hr,encMach,h,Int.toNat_natCast])|apply And.intro|intro _))
   all_goals first|omega|exact hnz|exact ⟨k + 1,⟨by omega,hnx⟩,by omega,by (first|(and_intros <;> rfl)|simp)⟩|skip
 ·have hge : ¬ (k : Int) < T.length:=by omega
  have hc := run_none hlt hf
  have e : turnP ((I,B,E),T,tu,le,sl) = (((I,B,E),T,tu,le,sl),-1) := by
   unfold turnP
   rw [if_pos (by simp only [hc]; omega)]
  rw [e]
  (repeat' (first|apply zS|apply zB|((first|apply zR|apply zC|apply zT|apply zE|apply zK| refine zD 12 (by decide +kernel) (by kernel_rfl) ?_|refine zD 17 (by decide +kernel) (by kernel_rfl) ?_); simp only [go_sem,hge])|apply And.intro|intro _))
  all_goals first|omega|rfl|skip
end
end Go.Proofs.YtoomncljmgcidaaGreat

