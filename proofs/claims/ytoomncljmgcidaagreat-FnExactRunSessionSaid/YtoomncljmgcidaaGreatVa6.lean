/-
  DERIVED. Several texts of ours in one: VtSpaceS, VtTm, VtSess, VpStep, VcMd, VcFb, VcPn, VcDel, VcPo, VcPe, VcX, VcZ, VcNs, VtMcP, VtMcI.
-/
import Derived.Test.YtoomncljmgcidaaGreatVa0
import Derived.Test.YtoomncljmgcidaaGreatVa1
import Derived.Test.YtoomncljmgcidaaGreatVa2
import Derived.Test.YtoomncljmgcidaaGreatVa3
import Derived.Test.YtoomncljmgcidaaGreatVa4
import Derived.Test.YtoomncljmgcidaaGreatVa5
import Derived.Orders
set_option linter.unusedSimpArgs false
set_option linter.unusedVariables false
set_option maxHeartbeats 1000000
set_option maxRecDepth 10000
namespace Go.Proofs.YtoomncljmgcidaaGreat
open Go.Vc
attribute [local irreducible] Go.Vc.WP
attribute [local go_sem] cx0_t cx0_c
open Go.Pl
attribute [local go_sem] isV_Symbol decSymbol_enc oneSymbol_enc imgA decI_enc decImage_enc spA
theorem locI_bd (I : List Image) (B : List Int) (e : Int) : -1 ≤ locI I B e ∧ locI I B e < I.length := by
 unfold locI firstIdx
 split
 ·rename_i q hq
  have := (List.findIdx?_eq_some_iff_getElem.1 hq).1
  rw [List.length_range] at this
  omega
 ·omega
theorem symI_bd {α : Type} (p : α → Bool) (L : List α) : -1 ≤ firstIdx p L ∧ firstIdx p L < L.length := by
 unfold firstIdx
 split
 ·rename_i q hq
  have := (List.findIdx?_eq_some_iff_getElem.1 hq).1
  omega
 ·omega
attribute [local go_sem] St.runO St.stepO
section
noncomputable def cxSpS := mkX [(36,k60),(113,kImgOk),(114,kLoc),(115,kSymAt)] (COk.cons c58 (COk.cons cImgOkS (COk.cons cLocS (COk.cons cSymAtS (COk.nil _)))))
theorem cxSpS_t : cxSpS.tys = tys := rfl
theorem cxSpS_c : cxSpS.C = [(36,k60),(113,kImgOk),(114,kLoc),(115,kSymAt)] := rfl
attribute [local go_sem] cxSpS_t cxSpS_c k60 kImgOk kLoc kSymAt
set_option maxHeartbeats 3000000 in
theorem cSpOkS : Cn Tryz.prog 83 kSpOk := by
 refine Cn.pur Tryz.func83 (by kernel_rfl) rfl fun d x hx=>?_
 obtain ⟨I,B,E⟩ := x
 obtain ⟨⟨hI,hIm⟩,hB,hE⟩ := hx
 simp only at hI hIm hB hE ⊢
 refine Holds.go (c := cxSpS) Tryz.func83 rfl Tryz.results83 Tryz.ntmps83 (by omega) (by simp) rfl ?_
 intro X0 w0
 by_cases hlen : I.length = 2 ∧ B.length = 2 ∧ 1 ≤ E.length ∧ E.length ≤ 6
 rotate_left
 ·rw [sp_len hlen]
  by_cases l1 : (I.length : Int) = 2
  ·by_cases l2 : (B.length : Int) = 2
   ·have l3 : (decide ((1 : Int) ≤ E.length) && decide ((E.length : Int) ≤ 6)) = false := by
     rw [← Bool.decide_and]; exact decide_eq_false fun h=>hlen ⟨by omega,by omega,by omega,by omega⟩
    (repeat' (first|apply zS|apply zB|((first|apply zR|apply zC|apply zT|apply zE|apply zK| refine zD 32 (by decide +kernel) (by kernel_rfl) ?_|refine zD 11 (by decide +kernel) (by kernel_rfl) ?_); simp only [go_sem,l1,l2,l3])|apply And.intro|intro _))
    all_goals first|omega|skip
   ·(repeat' (first|apply zS|apply zB|((first|apply zR|apply zC|apply zT|apply zE|apply zK| refine zD 32 (by decide +kernel) (by kernel_rfl) ?_|refine zD 11 (by decide +kernel) (by kernel_rfl) ?_); simp only [go_sem,l1,l2])|apply And.intro|intro _))
    all_goals first|omega|skip
  ·(repeat' (first|apply zS|apply zB|((first|apply zR|apply zC|apply zT|apply zE|apply zK| refine zD 32 (by decide +kernel) (by kernel_rfl) ?_|refine zD 11 (by decide +kernel) (by kernel_rfl) ?_); simp only [go_sem,l1])|apply And.intro|intro _))
   all_goals first|omega|skip
 obtain ⟨g1,g2,g3,g4⟩ := hlen
 have lk0 : lk 0 tys = none := rfl
 have l1 : (I.length : Int) = 2:=by omega
 have l2 : (B.length : Int) = 2:=by omega
 have l3 : (1 : Int) ≤ E.length:=by omega
 have l4 : (E.length : Int) ≤ 6:=by omega
 (repeat' (first|apply zS|apply zB|((first|apply zR|apply zC|apply zT|apply zE|apply zK| refine zD 32 (by decide +kernel) (by kernel_rfl) ?_|refine zD 11 (by decide +kernel) (by kernel_rfl) ?_); simp only [go_sem,l1,l2,l3,l4])|apply And.intro|intro _))
 all_goals first|omega|skip
 refine zL (fun k : Nat=>⟨[(1,.ptr 1 0 0 0),(3,.v (.int .i64 k))],[(1,.box 39 [.sl 2 (I.map encImage),.sl 1 (B.map encI),.sl 1 (E.map encI)])]⟩)
  (fun k=>k ≤ 2 ∧ imgs2 I B k = true) (fun k=>2 - k) 0 ⟨by simp,rfl⟩ ?_ ?_
 ·(simp only [go_sem] <;> (first|(and_intros <;> rfl)|simp))
 intro k ⟨hk,hi2⟩
 by_cases hlt : k < 2
 ·have hli : (k : Int) < 2:=by omega
  have hkI : k < I.length:=by omega
  have hkB : k < B.length:=by omega
  have hkIi : (k : Int) < I.length:=by omega
  have hkBi : (k : Int) < B.length:=by omega
  have hr := rowAt_map encImage I k hkI
  have hrb := rowAt_map encI B k hkB
  obtain ⟨p1,p2,p3⟩ := hIm _ (List.getElem_mem hkI)
  simp only at p1 p2 p3
  have hsu := imgs2_succ I B k
  rw [hi2,Bool.true_and,getD_img hkI,getD_int hkB] at hsu
  have hdn : imgs2 I B (k + 1) = false → imgs2 I B 2 = false := fun h=>by
   have := imgs2_mono h (2 - (k + 1))
   rwa [show k + 1 + (2 - (k + 1)) = 2 by omega] at this
  cases hok : imageOk I[k].code I[k].symbols with
  |false =>
   rw [hok,Bool.false_and] at hsu
   rw [sp_img (hdn hsu)]
   (repeat' (first|apply zS|apply zB|((first|apply zR|apply zC|apply zT|apply zE|apply zK| refine zD 32 (by decide +kernel) (by kernel_rfl) ?_|refine zD 11 (by decide +kernel) (by kernel_rfl) ?_); simp only [go_sem,hli,l1,l2,hr,encImage,hok,hrb,encI])|apply And.intro|intro _))
   all_goals first|omega|exact p3 _ ‹_›|skip
  |true =>
   by_cases hb : 1 ≤ B[k] ∧ B[k] ≤ 1000000
   ·rw [hok,decide_eq_true hb] at hsu
    (repeat' (first|apply zS|apply zB|((first|apply zR|apply zC|apply zT|apply zE|apply zK| refine zD 32 (by decide +kernel) (by kernel_rfl) ?_|refine zD 11 (by decide +kernel) (by kernel_rfl) ?_); simp only [go_sem,hli,l1,l2,hr,encImage,hok,hrb,encI,hb])|apply And.intro|intro _))
    all_goals first|omega|exact p3 _ ‹_›|exact ⟨k + 1,⟨by omega,hsu⟩,by omega,by (first|(and_intros <;> rfl)|simp)⟩|skip
   ·rw [hok,decide_eq_false hb] at hsu
    rw [sp_img (hdn hsu)]
    have hb' : (decide (1 ≤ B[k]) && decide (B[k] ≤ 1000000)) = false:=by rw [← Bool.decide_and]; exact decide_eq_false hb
    (repeat' (first|apply zS|apply zB|((first|apply zR|apply zC|apply zT|apply zE|apply zK| refine zD 32 (by decide +kernel) (by kernel_rfl) ?_|refine zD 11 (by decide +kernel) (by kernel_rfl) ?_); simp only [go_sem,hli,l1,l2,hr,encImage,hok,hrb,encI,hb'])|apply And.intro|intro _))
    all_goals first|omega|exact p3 _ ‹_›|skip
 ·have hge : ¬ (k : Int) < 2:=by omega
  obtain rfl : k = 2:=by omega
  have h0I : 0 < I.length:=by omega
  have h1I : 1 < I.length:=by omega
  have h0B : 0 < B.length:=by omega
  have h1B : 1 < B.length:=by omega
  have r0 := rowAt_map encImage I 0 h0I
  have r1 := rowAt_map encImage I 1 h1I
  have b0 := rowAt_map encI B 0 h0B
  have b1 := rowAt_map encI B 1 h1B
  obtain ⟨o0,q0,q0'⟩ := imgs2_at hi2 (j := 0) (by omega)
  obtain ⟨o1,q1,q1'⟩ := imgs2_at hi2 (j := 1) (by omega)
  rw [getD_int h0B] at q0 q0'
  rw [getD_int h1B] at q1 q1'
  have s0 := (hIm _ (List.getElem_mem h0I)).1
  have s1 := (hIm _ (List.getElem_mem h1I)).1
  simp only at s0 s1
  have hov : overB I B = (decide (0 < I[0].code.size) && decide (0 < I[1].code.size) && decide (B[0] < B[1] + I[1].code.size) && decide (B[1] < B[0] + I[0].code.size)) := by
   unfold overB; rw [getD_img h0I,getD_img h1I,getD_int h0B,getD_int h1B]
  have c02 : (0 : Int) < 2:=by omega
  have c12 : (1 : Int) < 2:=by omega
  have t1 : (1 : Int).toNat = 1 := rfl
  have hBn : ∀ b ∈ B,0 ≤ b ∧ b ≤ 1000000000000 := fun b hb=>by
   obtain ⟨j,hj,rfl⟩ := List.mem_iff_getElem.1 hb
   have := (imgs2_at hi2 (j := j) (by omega)).2
   rw [getD_int hj] at this
   omega
  have hst : ∀ i ∈ I,∀ y ∈ i.symbols,0 ≤ y.start ∧ y.start ≤ 1000000000000 := fun i hi y hy=>by
   obtain ⟨j,hj,rfl⟩ := List.mem_iff_getElem.1 hi
   have := (imgs2_at hi2 (j := j) (by omega)).1
   rw [getD_img hj] at this
   obtain ⟨A,hA⟩ := img_chain this
   obtain ⟨m,hm,rfl⟩ := List.mem_iff_getElem.1 hy
   have h1 := hA.lt hm
   have h2 := hA.big
   omega
  cases ho : overB I B with
  |true =>
   rw [sp_over ho]
   rw [ho] at hov
   have hov := hov.symm
   simp only [Bool.and_eq_true,decide_eq_true_eq] at hov
   obtain ⟨⟨⟨v1,v2⟩,v3⟩,v4⟩ := hov
   have v1i : (0 : Int) < I[0].code.size:=by omega
   have v2i : (0 : Int) < I[1].code.size:=by omega
   (repeat' (first|apply zS|apply zB|((first|apply zR|apply zC|apply zT|apply zE|apply zK| refine zD 32 (by decide +kernel) (by kernel_rfl) ?_|refine zD 11 (by decide +kernel) (by kernel_rfl) ?_); simp only [go_sem,hge,l1,l2,c02,c12,t1,r0,r1,b0,b1,encImage,encI,v1i,v2i,v3,v4])|apply And.intro|intro _))
   all_goals first|omega|skip
  |false =>
   rw [ho] at hov
   have hloop : ∀ k (hk : k < E.length),isEnt I B E[k] = false → spaceOk I B E = false := fun k hk h=>sp_ent hk h
   have hyes := sp_ok (I := I) (B := B) (E := E) ⟨g1,g2,g3,g4⟩ hi2 ho
   by_cases v1 : (0 : Int) < I[0].code.size
   ·by_cases v2 : (0 : Int) < I[1].code.size
    ·by_cases v3 : B[0] < B[1] + (I[1].code.size : Int)
     ·have v4 : ¬ B[1] < B[0] + (I[0].code.size : Int) := fun h=>by
       rw [decide_eq_true (by omega : 0 < I[0].code.size),decide_eq_true (by omega : 0 < I[1].code.size),decide_eq_true v3,decide_eq_true h] at hov
       cases hov
      (repeat' (first|apply zS|apply zB|((first|apply zR|apply zC|apply zT|apply zE|apply zK| refine zD 32 (by decide +kernel) (by kernel_rfl) ?_|refine zD 11 (by decide +kernel) (by kernel_rfl) ?_); simp only [go_sem,hge,l1,l2,c02,c12,t1,r0,r1,b0,b1,encImage,encI,v1,v2,v3,v4])|apply And.intro|intro _))
      all_goals first|omega|skip
      refine zL (fun k : Nat=>⟨[(1,.ptr 1 0 0 0),(6,.v (.int .i64 k))],[(1,.box 39 [.sl 2 (I.map encImage),.sl 1 (B.map encI),.sl 1 (E.map encI)])]⟩)
       (fun k=>k ≤ E.length ∧ ∀ i (hi : i < E.length),i < k → isEnt I B E[i] = true) (fun k=>E.length - k) 0 (by simp) ?_ ?_
      ·(simp only [go_sem] <;> (first|(and_intros <;> rfl)|simp))
      intro k ⟨hk,hf⟩
      by_cases hlt : k < E.length
      ·have hli : (k : Int) < E.length:=by omega
       have hre := rowAt_map encI E k hlt
       have hes := ent_same g1 hi2 ho E[k]
       unfold entS at hes
       obtain ⟨hlo1,hlo2⟩ := locI_bd I B E[k]
       by_cases hn : locI I B E[k] < 0
       ·rw [if_pos hn] at hes
        rw [hloop k hlt hes.symm]
        (repeat' (first|apply zS|apply zB|((first|apply zR|apply zC|apply zT|apply zE|apply zK| refine zD 32 (by decide +kernel) (by kernel_rfl) ?_|refine zD 11 (by decide +kernel) (by kernel_rfl) ?_); simp only [go_sem,hli,hre,encI,hn])|apply And.intro|intro _))
        all_goals first|omega|exact (hIm _ ‹_›).1|exact (hIm _ ‹_›).2.1|exact (hIm _ ‹_›).2.2 _ ‹_›|exact g2.trans g1.symm|exact (hBn _ ‹_›).1|exact (hBn _ ‹_›).2|exact hIm _ ‹_›|skip
       rw [if_neg hn] at hes
       obtain ⟨m,hm⟩ : ∃ m : Nat,locI I B E[k] = m := ⟨(locI I B E[k]).toNat,by omega⟩
       have hmI : m < I.length:=by omega
       have hmB : m < B.length:=by omega
       have hmi : (m : Int) < I.length:=by omega
       have hm2 : (m : Int) < 2:=by omega
       have hm0 : ¬ (m : Int) < 0:=by omega
       rw [hm,Int.toNat_natCast,getD_img hmI,getD_int hmB] at hes
       have hrm := rowAt_map encImage I m hmI
       obtain ⟨y1,y2,y3⟩ := hIm _ (List.getElem_mem hmI)
       simp only at y1 y2 y3
       have hgB : B.getD m 0 = B[m] := getD_int hmB 0
       obtain ⟨hs1,hs2⟩ := symI_bd (symHit (E[k] - B[m])) I[m].symbols
       by_cases hz : firstIdx (symHit (E[k] - B[m])) I[m].symbols < 0
       ·have hzF : ¬ 0 ≤ firstIdx (symHit (E[k] - B[m])) I[m].symbols:=by omega
        rw [decide_eq_false hzF,Bool.false_and] at hes
        rw [hloop k hlt hes.symm]
        (repeat' (first|apply zS|apply zB|((first|refine WP.regionO (id := 19) ?_); simp only [go_sem,hli,hre,encI,hm,hm0,hmi,hm2,l1,hrm,encImage,hz,hgB,lk0])|((first|apply zR|apply zC|apply zT|apply zE|apply zK| refine zD 32 (by decide +kernel) (by kernel_rfl) ?_|refine zD 11 (by decide +kernel) (by kernel_rfl) ?_); simp only [go_sem,hli,hre,encI,hm,hm0,hmi,hm2,l1,hrm,encImage,hz,hgB,lk0])|apply And.intro|intro _))
        all_goals first|omega|exact (hIm _ ‹_›).1|exact (hIm _ ‹_›).2.1|exact (hIm _ ‹_›).2.2 _ ‹_›|exact g2.trans g1.symm|exact (hBn _ ‹_›).1|exact (hBn _ ‹_›).2|exact hIm _ ‹_›|skip
       obtain ⟨n,hn2⟩ : ∃ n : Nat,firstIdx (symHit (E[k] - B[m])) I[m].symbols = n := ⟨(firstIdx (symHit (E[k] - B[m])) I[m].symbols).toNat,by omega⟩
       have hnY : n < I[m].symbols.length:=by omega
       have hnYi : (n : Int) < I[m].symbols.length:=by omega
       have hn0 : ¬ (n : Int) < 0:=by omega
       have hnT : (0 : Int) ≤ (n : Int):=by omega
       rw [hn2,Int.toNat_natCast,decide_eq_true hnT,Bool.true_and,List.getD_eq_getElem?_getD,List.getElem?_eq_getElem hnY,Option.getD_some] at hes
       have hry := rowAt_map encSymbol I[m].symbols n hnY
       by_cases hst2 : I[m].symbols[n].start = E[k] - B[m]
       ·rw [decide_eq_true hst2] at hes
        have he := hes.symm
        (repeat' (first|apply zS|apply zB|((first|apply zR|apply zC|apply zT|apply zE|apply zK| refine zD 32 (by decide +kernel) (by kernel_rfl) ?_|refine zD 11 (by decide +kernel) (by kernel_rfl) ?_); simp only [go_sem,hli,hre,encI,hm,hm0,hmi,hm2,l1,hrm,encImage,hn2,hn0,hnYi,hry,encSymbol,hst2,hgB])|apply And.intro|intro _))
        all_goals first|omega|exact (hIm _ ‹_›).1|exact (hIm _ ‹_›).2.1|exact (hIm _ ‹_›).2.2 _ ‹_›|exact g2.trans g1.symm|exact (hBn _ ‹_›).1|exact (hBn _ ‹_›).2|exact hIm _ ‹_›|exact ⟨k + 1,⟨by omega,fun i hi hik=>by
         rcases Nat.lt_or_ge i k with h|h
         ·exact hf i hi h
         ·have : i = k:=by omega
          subst this; exact he⟩,by omega,by (first|(and_intros <;> rfl)|simp)⟩|skip
       ·rw [decide_eq_false hst2] at hes
        rw [hloop k hlt hes.symm]
        (repeat' (first|apply zS|apply zB|((first|apply zR|apply zC|apply zT|apply zE|apply zK| refine zD 32 (by decide +kernel) (by kernel_rfl) ?_|refine zD 11 (by decide +kernel) (by kernel_rfl) ?_); simp only [go_sem,hli,hre,encI,hm,hm0,hmi,hm2,l1,hrm,encImage,hn2,hn0,hnYi,hry,encSymbol,hst2,hgB])|apply And.intro|intro _))
        all_goals first|omega|exact (hIm _ ‹_›).1|exact (hIm _ ‹_›).2.1|exact (hIm _ ‹_›).2.2 _ ‹_›|exact g2.trans g1.symm|exact (hBn _ ‹_›).1|exact (hBn _ ‹_›).2|exact hIm _ ‹_›|skip
      ·have hge2 : ¬ (k : Int) < E.length:=by omega
       rw [hyes fun i hi=>hf i hi (by omega)]
       (repeat' (first|apply zS|apply zB|((first|apply zR|apply zC|apply zT|apply zE|apply zK| refine zD 32 (by decide +kernel) (by kernel_rfl) ?_|refine zD 11 (by decide +kernel) (by kernel_rfl) ?_); simp only [go_sem,hge2])|apply And.intro|intro _))
       all_goals first|omega|skip
     ·(repeat' (first|apply zS|apply zB|((first|apply zR|apply zC|apply zT|apply zE|apply zK| refine zD 32 (by decide +kernel) (by kernel_rfl) ?_|refine zD 11 (by decide +kernel) (by kernel_rfl) ?_); simp only [go_sem,hge,l1,l2,c02,c12,t1,r0,r1,b0,b1,encImage,encI,v1,v2,v3])|apply And.intro|intro _))
      all_goals first|omega|skip
      refine zL (fun k : Nat=>⟨[(1,.ptr 1 0 0 0),(6,.v (.int .i64 k))],[(1,.box 39 [.sl 2 (I.map encImage),.sl 1 (B.map encI),.sl 1 (E.map encI)])]⟩)
       (fun k=>k ≤ E.length ∧ ∀ i (hi : i < E.length),i < k → isEnt I B E[i] = true) (fun k=>E.length - k) 0 (by simp) ?_ ?_
      ·(simp only [go_sem] <;> (first|(and_intros <;> rfl)|simp))
      intro k ⟨hk,hf⟩
      by_cases hlt : k < E.length
      ·have hli : (k : Int) < E.length:=by omega
       have hre := rowAt_map encI E k hlt
       have hes := ent_same g1 hi2 ho E[k]
       unfold entS at hes
       obtain ⟨hlo1,hlo2⟩ := locI_bd I B E[k]
       by_cases hn : locI I B E[k] < 0
       ·rw [if_pos hn] at hes
        rw [hloop k hlt hes.symm]
        (repeat' (first|apply zS|apply zB|((first|apply zR|apply zC|apply zT|apply zE|apply zK| refine zD 32 (by decide +kernel) (by kernel_rfl) ?_|refine zD 11 (by decide +kernel) (by kernel_rfl) ?_); simp only [go_sem,hli,hre,encI,hn])|apply And.intro|intro _))
        all_goals first|omega|exact (hIm _ ‹_›).1|exact (hIm _ ‹_›).2.1|exact (hIm _ ‹_›).2.2 _ ‹_›|exact g2.trans g1.symm|exact (hBn _ ‹_›).1|exact (hBn _ ‹_›).2|exact hIm _ ‹_›|skip
       rw [if_neg hn] at hes
       obtain ⟨m,hm⟩ : ∃ m : Nat,locI I B E[k] = m := ⟨(locI I B E[k]).toNat,by omega⟩
       have hmI : m < I.length:=by omega
       have hmB : m < B.length:=by omega
       have hmi : (m : Int) < I.length:=by omega
       have hm2 : (m : Int) < 2:=by omega
       have hm0 : ¬ (m : Int) < 0:=by omega
       rw [hm,Int.toNat_natCast,getD_img hmI,getD_int hmB] at hes
       have hrm := rowAt_map encImage I m hmI
       obtain ⟨y1,y2,y3⟩ := hIm _ (List.getElem_mem hmI)
       simp only at y1 y2 y3
       have hgB : B.getD m 0 = B[m] := getD_int hmB 0
       obtain ⟨hs1,hs2⟩ := symI_bd (symHit (E[k] - B[m])) I[m].symbols
       by_cases hz : firstIdx (symHit (E[k] - B[m])) I[m].symbols < 0
       ·have hzF : ¬ 0 ≤ firstIdx (symHit (E[k] - B[m])) I[m].symbols:=by omega
        rw [decide_eq_false hzF,Bool.false_and] at hes
        rw [hloop k hlt hes.symm]
        (repeat' (first|apply zS|apply zB|((first|refine WP.regionO (id := 19) ?_); simp only [go_sem,hli,hre,encI,hm,hm0,hmi,hm2,l1,hrm,encImage,hz,hgB,lk0])|((first|apply zR|apply zC|apply zT|apply zE|apply zK| refine zD 32 (by decide +kernel) (by kernel_rfl) ?_|refine zD 11 (by decide +kernel) (by kernel_rfl) ?_); simp only [go_sem,hli,hre,encI,hm,hm0,hmi,hm2,l1,hrm,encImage,hz,hgB,lk0])|apply And.intro|intro _))
        all_goals first|omega|exact (hIm _ ‹_›).1|exact (hIm _ ‹_›).2.1|exact (hIm _ ‹_›).2.2 _ ‹_›|exact g2.trans g1.symm|exact (hBn _ ‹_›).1|exact (hBn _ ‹_›).2|exact hIm _ ‹_›|skip
       obtain ⟨n,hn2⟩ : ∃ n : Nat,firstIdx (symHit (E[k] - B[m])) I[m].symbols = n := ⟨(firstIdx (symHit (E[k] - B[m])) I[m].symbols).toNat,by omega⟩
       have hnY : n < I[m].symbols.length:=by omega
       have hnYi : (n : Int) < I[m].symbols.length:=by omega
       have hn0 : ¬ (n : Int) < 0:=by omega
       have hnT : (0 : Int) ≤ (n : Int):=by omega
       rw [hn2,Int.toNat_natCast,decide_eq_true hnT,Bool.true_and,List.getD_eq_getElem?_getD,List.getElem?_eq_getElem hnY,Option.getD_some] at hes
       have hry := rowAt_map encSymbol I[m].symbols n hnY
       by_cases hst2 : I[m].symbols[n].start = E[k] - B[m]
       ·rw [decide_eq_true hst2] at hes
        have he := hes.symm
        (repeat' (first|apply zS|apply zB|((first|apply zR|apply zC|apply zT|apply zE|apply zK| refine zD 32 (by decide +kernel) (by kernel_rfl) ?_|refine zD 11 (by decide +kernel) (by kernel_rfl) ?_); simp only [go_sem,hli,hre,encI,hm,hm0,hmi,hm2,l1,hrm,encImage,hn2,hn0,hnYi,hry,encSymbol,hst2,hgB])|apply And.intro|intro _))
        all_goals first|omega|exact (hIm _ ‹_›).1|exact (hIm _ ‹_›).2.1|exact (hIm _ ‹_›).2.2 _ ‹_›|exact g2.trans g1.symm|exact (hBn _ ‹_›).1|exact (hBn _ ‹_›).2|exact hIm _ ‹_›|exact ⟨k + 1,⟨by omega,fun i hi hik=>by
         rcases Nat.lt_or_ge i k with h|h
         ·exact hf i hi h
         ·have : i = k:=by omega
          subst this; exact he⟩,by omega,by (first|(and_intros <;> rfl)|simp)⟩|skip
       ·rw [decide_eq_false hst2] at hes
        rw [hloop k hlt hes.symm]
        (repeat' (first|apply zS|apply zB|((first|apply zR|apply zC|apply zT|apply zE|apply zK| refine zD 32 (by decide +kernel) (by kernel_rfl) ?_|refine zD 11 (by decide +kernel) (by kernel_rfl) ?_); simp only [go_sem,hli,hre,encI,hm,hm0,hmi,hm2,l1,hrm,encImage,hn2,hn0,hnYi,hry,encSymbol,hst2,hgB])|apply And.intro|intro _))
        all_goals first|omega|exact (hIm _ ‹_›).1|exact (hIm _ ‹_›).2.1|exact (hIm _ ‹_›).2.2 _ ‹_›|exact g2.trans g1.symm|exact (hBn _ ‹_›).1|exact (hBn _ ‹_›).2|exact hIm _ ‹_›|skip
      ·have hge2 : ¬ (k : Int) < E.length:=by omega
       rw [hyes fun i hi=>hf i hi (by omega)]
       (repeat' (first|apply zS|apply zB|((first|apply zR|apply zC|apply zT|apply zE|apply zK| refine zD 32 (by decide +kernel) (by kernel_rfl) ?_|refine zD 11 (by decide +kernel) (by kernel_rfl) ?_); simp only [go_sem,hge2])|apply And.intro|intro _))
       all_goals first|omega|skip
    ·(repeat' (first|apply zS|apply zB|((first|apply zR|apply zC|apply zT|apply zE|apply zK| refine zD 32 (by decide +kernel) (by kernel_rfl) ?_|refine zD 11 (by decide +kernel) (by kernel_rfl) ?_); simp only [go_sem,hge,l1,l2,c02,c12,t1,r0,r1,b0,b1,encImage,encI,v1,v2])|apply And.intro|intro _))
     all_goals first|omega|skip
     refine zL (fun k : Nat=>⟨[(1,.ptr 1 0 0 0),(6,.v (.int .i64 k))],[(1,.box 39 [.sl 2 (I.map encImage),.sl 1 (B.map encI),.sl 1 (E.map encI)])]⟩)
      (fun k=>k ≤ E.length ∧ ∀ i (hi : i < E.length),i < k → isEnt I B E[i] = true) (fun k=>E.length - k) 0 (by simp) ?_ ?_
     ·(simp only [go_sem] <;> (first|(and_intros <;> rfl)|simp))
     intro k ⟨hk,hf⟩
     by_cases hlt : k < E.length
     ·have hli : (k : Int) < E.length:=by omega
      have hre := rowAt_map encI E k hlt
      have hes := ent_same g1 hi2 ho E[k]
      unfold entS at hes
      obtain ⟨hlo1,hlo2⟩ := locI_bd I B E[k]
      by_cases hn : locI I B E[k] < 0
      ·rw [if_pos hn] at hes
       rw [hloop k hlt hes.symm]
       (repeat' (first|apply zS|apply zB|((first|apply zR|apply zC|apply zT|apply zE|apply zK| refine zD 32 (by decide +kernel) (by kernel_rfl) ?_|refine zD 11 (by decide +kernel) (by kernel_rfl) ?_); simp only [go_sem,hli,hre,encI,hn])|apply And.intro|intro _))
       all_goals first|omega|exact (hIm _ ‹_›).1|exact (hIm _ ‹_›).2.1|exact (hIm _ ‹_›).2.2 _ ‹_›|exact g2.trans g1.symm|exact (hBn _ ‹_›).1|exact (hBn _ ‹_›).2|exact hIm _ ‹_›|skip
      rw [if_neg hn] at hes
      obtain ⟨m,hm⟩ : ∃ m : Nat,locI I B E[k] = m := ⟨(locI I B E[k]).toNat,by omega⟩
      have hmI : m < I.length:=by omega
      have hmB : m < B.length:=by omega
      have hmi : (m : Int) < I.length:=by omega
      have hm2 : (m : Int) < 2:=by omega
      have hm0 : ¬ (m : Int) < 0:=by omega
      rw [hm,Int.toNat_natCast,getD_img hmI,getD_int hmB] at hes
      have hrm := rowAt_map encImage I m hmI
      obtain ⟨y1,y2,y3⟩ := hIm _ (List.getElem_mem hmI)
      simp only at y1 y2 y3
      have hgB : B.getD m 0 = B[m] := getD_int hmB 0
      obtain ⟨hs1,hs2⟩ := symI_bd (symHit (E[k] - B[m])) I[m].symbols
      by_cases hz : firstIdx (symHit (E[k] - B[m])) I[m].symbols < 0
      ·have hzF : ¬ 0 ≤ firstIdx (symHit (E[k] - B[m])) I[m].symbols:=by omega
       rw [decide_eq_false hzF,Bool.false_and] at hes
       rw [hloop k hlt hes.symm]
       (repeat' (first|apply zS|apply zB|((first|refine WP.regionO (id := 19) ?_); simp only [go_sem,hli,hre,encI,hm,hm0,hmi,hm2,l1,hrm,encImage,hz,hgB,lk0])|((first|apply zR|apply zC|apply zT|apply zE|apply zK| refine zD 32 (by decide +kernel) (by kernel_rfl) ?_|refine zD 11 (by decide +kernel) (by kernel_rfl) ?_); simp only [go_sem,hli,hre,encI,hm,hm0,hmi,hm2,l1,hrm,encImage,hz,hgB,lk0])|apply And.intro|intro _))
       all_goals first|omega|exact (hIm _ ‹_›).1|exact (hIm _ ‹_›).2.1|exact (hIm _ ‹_›).2.2 _ ‹_›|exact g2.trans g1.symm|exact (hBn _ ‹_›).1|exact (hBn _ ‹_›).2|exact hIm _ ‹_›|skip
      obtain ⟨n,hn2⟩ : ∃ n : Nat,firstIdx (symHit (E[k] - B[m])) I[m].symbols = n := ⟨(firstIdx (symHit (E[k] - B[m])) I[m].symbols).toNat,by omega⟩
      have hnY : n < I[m].symbols.length:=by omega
      have hnYi : (n : Int) < I[m].symbols.length:=by omega
      have hn0 : ¬ (n : Int) < 0:=by omega
      have hnT : (0 : Int) ≤ (n : Int):=by omega
      rw [hn2,Int.toNat_natCast,decide_eq_true hnT,Bool.true_and,List.getD_eq_getElem?_getD,List.getElem?_eq_getElem hnY,Option.getD_some] at hes
      have hry := rowAt_map encSymbol I[m].symbols n hnY
      by_cases hst2 : I[m].symbols[n].start = E[k] - B[m]
      ·rw [decide_eq_true hst2] at hes
       have he := hes.symm
       (repeat' (first|apply zS|apply zB|((first|apply zR|apply zC|apply zT|apply zE|apply zK| refine zD 32 (by decide +kernel) (by kernel_rfl) ?_|refine zD 11 (by decide +kernel) (by kernel_rfl) ?_); simp only [go_sem,hli,hre,encI,hm,hm0,hmi,hm2,l1,hrm,encImage,hn2,hn0,hnYi,hry,encSymbol,hst2,hgB])|apply And.intro|intro _))
       all_goals first|omega|exact (hIm _ ‹_›).1|exact (hIm _ ‹_›).2.1|exact (hIm _ ‹_›).2.2 _ ‹_›|exact g2.trans g1.symm|exact (hBn _ ‹_›).1|exact (hBn _ ‹_›).2|exact hIm _ ‹_›|exact ⟨k + 1,⟨by omega,fun i hi hik=>by
        rcases Nat.lt_or_ge i k with h|h
        ·exact hf i hi h
        ·have : i = k:=by omega
         subst this; exact he⟩,by omega,by (first|(and_intros <;> rfl)|simp)⟩|skip
      ·rw [decide_eq_false hst2] at hes
       rw [hloop k hlt hes.symm]
       (repeat' (first|apply zS|apply zB|((first|apply zR|apply zC|apply zT|apply zE|apply zK| refine zD 32 (by decide +kernel) (by kernel_rfl) ?_|refine zD 11 (by decide +kernel) (by kernel_rfl) ?_); simp only [go_sem,hli,hre,encI,hm,hm0,hmi,hm2,l1,hrm,encImage,hn2,hn0,hnYi,hry,encSymbol,hst2,hgB])|apply And.intro|intro _))
       all_goals first|omega|exact (hIm _ ‹_›).1|exact (hIm _ ‹_›).2.1|exact (hIm _ ‹_›).2.2 _ ‹_›|exact g2.trans g1.symm|exact (hBn _ ‹_›).1|exact (hBn _ ‹_›).2|exact hIm _ ‹_›|skip
     ·have hge2 : ¬ (k : Int) < E.length:=by omega
      rw [hyes fun i hi=>hf i hi (by omega)]
      (repeat' (first|apply zS|apply zB|((first|apply zR|apply zC|apply zT|apply zE|apply zK| refine zD 32 (by decide +kernel) (by kernel_rfl) ?_|refine zD 11 (by decide +kernel) (by kernel_rfl) ?_); simp only [go_sem,hge2])|apply And.intro|intro _))
      all_goals first|omega|skip
   ·(repeat' (first|apply zS|apply zB|((first|apply zR|apply zC|apply zT|apply zE|apply zK| refine zD 32 (by decide +kernel) (by kernel_rfl) ?_|refine zD 11 (by decide +kernel) (by kernel_rfl) ?_); simp only [go_sem,hge,l1,l2,c02,c12,t1,r0,r1,b0,b1,encImage,encI,v1])|apply And.intro|intro _))
    all_goals first|omega|skip
    refine zL (fun k : Nat=>⟨[(1,.ptr 1 0 0 0),(6,.v (.int .i64 k))],[(1,.box 39 [.sl 2 (I.map encImage),.sl 1 (B.map encI),.sl 1 (E.map encI)])]⟩)
     (fun k=>k ≤ E.length ∧ ∀ i (hi : i < E.length),i < k → isEnt I B E[i] = true) (fun k=>E.length - k) 0 (by simp) ?_ ?_
    ·(simp only [go_sem] <;> (first|(and_intros <;> rfl)|simp))
    intro k ⟨hk,hf⟩
    by_cases hlt : k < E.length
    ·have hli : (k : Int) < E.length:=by omega
     have hre := rowAt_map encI E k hlt
     have hes := ent_same g1 hi2 ho E[k]
     unfold entS at hes
     obtain ⟨hlo1,hlo2⟩ := locI_bd I B E[k]
     by_cases hn : locI I B E[k] < 0
     ·rw [if_pos hn] at hes
      rw [hloop k hlt hes.symm]
      (repeat' (first|apply zS|apply zB|((first|apply zR|apply zC|apply zT|apply zE|apply zK| refine zD 32 (by decide +kernel) (by kernel_rfl) ?_|refine zD 11 (by decide +kernel) (by kernel_rfl) ?_); simp only [go_sem,hli,hre,encI,hn])|apply And.intro|intro _))
      all_goals first|omega|exact (hIm _ ‹_›).1|exact (hIm _ ‹_›).2.1|exact (hIm _ ‹_›).2.2 _ ‹_›|exact g2.trans g1.symm|exact (hBn _ ‹_›).1|exact (hBn _ ‹_›).2|exact hIm _ ‹_›|skip
     rw [if_neg hn] at hes
     obtain ⟨m,hm⟩ : ∃ m : Nat,locI I B E[k] = m := ⟨(locI I B E[k]).toNat,by omega⟩
     have hmI : m < I.length:=by omega
     have hmB : m < B.length:=by omega
     have hmi : (m : Int) < I.length:=by omega
     have hm2 : (m : Int) < 2:=by omega
     have hm0 : ¬ (m : Int) < 0:=by omega
     rw [hm,Int.toNat_natCast,getD_img hmI,getD_int hmB] at hes
     have hrm := rowAt_map encImage I m hmI
     obtain ⟨y1,y2,y3⟩ := hIm _ (List.getElem_mem hmI)
     simp only at y1 y2 y3
     have hgB : B.getD m 0 = B[m] := getD_int hmB 0
     obtain ⟨hs1,hs2⟩ := symI_bd (symHit (E[k] - B[m])) I[m].symbols
     by_cases hz : firstIdx (symHit (E[k] - B[m])) I[m].symbols < 0
     ·have hzF : ¬ 0 ≤ firstIdx (symHit (E[k] - B[m])) I[m].symbols:=by omega
      rw [decide_eq_false hzF,Bool.false_and] at hes
      rw [hloop k hlt hes.symm]
      (repeat' (first|apply zS|apply zB|((first|refine WP.regionO (id := 19) ?_); simp only [go_sem,hli,hre,encI,hm,hm0,hmi,hm2,l1,hrm,encImage,hz,hgB,lk0])|((first|apply zR|apply zC|apply zT|apply zE|apply zK| refine zD 32 (by decide +kernel) (by kernel_rfl) ?_|refine zD 11 (by decide +kernel) (by kernel_rfl) ?_); simp only [go_sem,hli,hre,encI,hm,hm0,hmi,hm2,l1,hrm,encImage,hz,hgB,lk0])|apply And.intro|intro _))
      all_goals first|omega|exact (hIm _ ‹_›).1|exact (hIm _ ‹_›).2.1|exact (hIm _ ‹_›).2.2 _ ‹_›|exact g2.trans g1.symm|exact (hBn _ ‹_›).1|exact (hBn _ ‹_›).2|exact hIm _ ‹_›|skip
     obtain ⟨n,hn2⟩ : ∃ n : Nat,firstIdx (symHit (E[k] - B[m])) I[m].symbols = n := ⟨(firstIdx (symHit (E[k] - B[m])) I[m].symbols).toNat,by omega⟩
     have hnY : n < I[m].symbols.length:=by omega
     have hnYi : (n : Int) < I[m].symbols.length:=by omega
     have hn0 : ¬ (n : Int) < 0:=by omega
     have hnT : (0 : Int) ≤ (n : Int):=by omega
     rw [hn2,Int.toNat_natCast,decide_eq_true hnT,Bool.true_and,List.getD_eq_getElem?_getD,List.getElem?_eq_getElem hnY,Option.getD_some] at hes
     have hry := rowAt_map encSymbol I[m].symbols n hnY
     by_cases hst2 : I[m].symbols[n].start = E[k] - B[m]
     ·rw [decide_eq_true hst2] at hes
      have he := hes.symm
      (repeat' (first|apply zS|apply zB|((first|apply zR|apply zC|apply zT|apply zE|apply zK| refine zD 32 (by decide +kernel) (by kernel_rfl) ?_|refine zD 11 (by decide +kernel) (by kernel_rfl) ?_); simp only [go_sem,hli,hre,encI,hm,hm0,hmi,hm2,l1,hrm,encImage,hn2,hn0,hnYi,hry,encSymbol,hst2,hgB])|apply And.intro|intro _))
      all_goals first|omega|exact (hIm _ ‹_›).1|exact (hIm _ ‹_›).2.1|exact (hIm _ ‹_›).2.2 _ ‹_›|exact g2.trans g1.symm|exact (hBn _ ‹_›).1|exact (hBn _ ‹_›).2|exact hIm _ ‹_›|exact ⟨k + 1,⟨by omega,fun i hi hik=>by
       rcases Nat.lt_or_ge i k with h|h
       ·exact hf i hi h
       ·have : i = k:=by omega
        subst this; exact he⟩,by omega,by (first|(and_intros <;> rfl)|simp)⟩|skip
     ·rw [decide_eq_false hst2] at hes
      rw [hloop k hlt hes.symm]
      (repeat' (first|apply zS|apply zB|((first|apply zR|apply zC|apply zT|apply zE|apply zK| refine zD 32 (by decide +kernel) (by kernel_rfl) ?_|refine zD 11 (by decide +kernel) (by kernel_rfl) ?_); simp only [go_sem,hli,hre,encI,hm,hm0,hmi,hm2,l1,hrm,encImage,hn2,hn0,hnYi,hry,encSymbol,hst2,hgB])|apply And.intro|intro _))
      all_goals first|omega|exact (hIm _ ‹_›).1|exact (hIm _ ‹_›).2.1|exact (hIm _ ‹_›).2.2 _ ‹_›|exact g2.trans g1.symm|exact (hBn _ ‹_›).1|exact (hBn _ ‹_›).2|exact hIm _ ‹_›|skip
    ·have hge2 : ¬ (k : Int) < E.length:=by omega
     rw [hyes fun i hi=>hf i hi (by omega)]
     (repeat' (first|apply zS|apply zB|((first|apply zR|apply zC|apply zT|apply zE|apply zK| refine zD 32 (by decide +kernel) (by kernel_rfl) ?_|refine zD 11 (by decide +kernel) (by kernel_rfl) ?_); simp only [go_sem,hge2])|apply And.intro|intro _))
     all_goals first|omega|skip
end
end Go.Proofs.YtoomncljmgcidaaGreat

namespace Go.Proofs.YtoomncljmgcidaaGreat
open Go.Vc
attribute [local irreducible] Go.Vc.WP
attribute [local go_sem] cx0_t cx0_c
structure Tm where
 period : Int
 spread : Int
 left : Int
 state : Int
deriving DecidableEq
def tmA (args : List SV) (i : Nat) : Tm := match args[i]? with
 |some (.agg [.v (.int _ a),.v (.int _ b),.v (.int _ c),.v (.int _ d)])=>⟨a,b,c,d⟩
 | _=>⟨0,0,0,0⟩
theorem tm_eta (x : Tm) : (⟨x.period,x.spread,x.left,x.state⟩ : Tm) = x := rfl
attribute [local go_sem] tmA tm_eta
def tmOk (x : Tm) : Bool := decide ((1 ≤ x.period ∧ x.period ≤ 10000) ∧ (0 ≤ x.spread ∧ x.spread ≤ 100) ∧ (1 ≤ x.left ∧ x.left ≤ x.period + x.spread) ∧ 0 ≤ x.state ∧ x.state ≤ 65535)
def kTmOk : Ctr := pur (fun args=>tmA args 0) (fun x=>[.agg [.v (.int .i64 x.period),.v (.int .i64 x.spread),.v (.int .i64 x.left),.v (.int .i64 x.state)]]) (fun _=>True) (fun _ x=>.v (.bool (tmOk x))) (fun _ _=>[])
section
noncomputable def cxTmS := mkX [(36,k60)] (COk.cons c58 (COk.nil _))
theorem cxTmS_t : cxTmS.tys = tys := rfl
theorem cxTmS_c : cxTmS.C = [(36,k60)] := rfl
attribute [local go_sem] cxTmS_t cxTmS_c k60
theorem cTmOkS : Cn Tryz.prog 44 kTmOk := by
 refine Cn.pur Tryz.func44 (by kernel_rfl) rfl fun d x hx=>?_
 obtain ⟨p,s,l,t⟩ := x
 simp only
 refine Holds.go (c := cxTmS) Tryz.func44 rfl Tryz.results44 Tryz.ntmps44 (by omega) (by simp) rfl ?_
 intro X0 w0
 have e : tmOk ⟨p,s,l,t⟩ = (decide (1 ≤ p) && decide (p ≤ 10000) && (decide (0 ≤ s) && decide (s ≤ 100)) && (decide (1 ≤ l) && decide (l ≤ p + s)) && (decide (0 ≤ t) && decide (t ≤ 65535))) := by
  unfold tmOk
  rw [Bool.eq_iff_iff]
  simp only [decide_eq_true_eq,Bool.and_eq_true]
  omega
 by_cases h1 : 1 ≤ p ∧ p ≤ 10000
 ·by_cases h2 : 0 ≤ s ∧ s ≤ 100
  ·(repeat' (first|apply zS|apply zB|((first|apply zR|apply zC|apply zT|apply zE|apply zK);simp only [go_sem,e])|apply And.intro|intro _))
   all_goals first|omega|exact ⟨_,_,rfl,_,_,rfl,rfl⟩|skip
  ·(repeat' (first|apply zS|apply zB|((first|apply zR|apply zC|apply zT|apply zE|apply zK);simp only [go_sem,e])|apply And.intro|intro _))
   all_goals first|omega|exact ⟨_,_,rfl,_,_,rfl,rfl⟩|skip
 ·(repeat' (first|apply zS|apply zB|((first|apply zR|apply zC|apply zT|apply zE|apply zK);simp only [go_sem,e])|apply And.intro|intro _))
  all_goals first|omega|exact ⟨_,_,rfl,_,_,rfl,rfl⟩|skip
end
section
noncomputable def cxTmI := mkX [(37,k60)] (COk.cons c60 (COk.nil _))
theorem cxTmI_t : cxTmI.tys = tys := rfl
theorem cxTmI_c : cxTmI.C = [(37,k60)] := rfl
attribute [local go_sem] cxTmI_t cxTmI_c k60
theorem cTmOkI : Cn Tryz.prog 59 kTmOk := by
 refine Cn.pur Tryz.func59 (by kernel_rfl) rfl fun d x hx=>?_
 obtain ⟨p,s,l,t⟩ := x
 simp only
 refine Holds.go (c := cxTmI) Tryz.func59 rfl Tryz.results59 Tryz.ntmps59 (by omega) (by simp) rfl ?_
 intro X0 w0
 have e : tmOk ⟨p,s,l,t⟩ = (decide (1 ≤ p) && decide (p ≤ 10000) && (decide (0 ≤ s) && decide (s ≤ 100)) && (decide (1 ≤ l) && decide (l ≤ p + s)) && (decide (0 ≤ t) && decide (t ≤ 65535))) := by
  unfold tmOk
  rw [Bool.eq_iff_iff]
  simp only [decide_eq_true_eq,Bool.and_eq_true]
  omega
 by_cases h1 : 1 ≤ p ∧ p ≤ 10000
 ·by_cases h2 : 0 ≤ s ∧ s ≤ 100
  ·(repeat' (first|apply zS|apply zB|((first|apply zR|apply zC|apply zT|apply zE|apply zK);simp only [go_sem,e])|apply And.intro|intro _))
   all_goals first|omega|exact ⟨_,_,rfl,_,_,rfl,rfl⟩|skip
  ·(repeat' (first|apply zS|apply zB|((first|apply zR|apply zC|apply zT|apply zE|apply zK);simp only [go_sem,e])|apply And.intro|intro _))
   all_goals first|omega|exact ⟨_,_,rfl,_,_,rfl,rfl⟩|skip
 ·(repeat' (first|apply zS|apply zB|((first|apply zR|apply zC|apply zT|apply zE|apply zK);simp only [go_sem,e])|apply And.intro|intro _))
  all_goals first|omega|exact ⟨_,_,rfl,_,_,rfl,rfl⟩|skip
end
end Go.Proofs.YtoomncljmgcidaaGreat

namespace Go.Proofs.YtoomncljmgcidaaGreat
open Go.Vc
attribute [local irreducible] Go.Vc.WP
attribute [local go_sem] cx0_t cx0_c
open Go.Pl
attribute [local go_sem] decI_enc decImage_enc spA decS_enc tmA tm_eta
structure Mach where
 pc : Int
 sp : Int
 fp : Int
 stack : List Int
 out : List Int
 state : Int
 value : Int
deriving DecidableEq
def encMach (x : Mach) : List SV := [.v (.int .i64 x.pc),.v (.int .i64 x.sp),.v (.int .i64 x.fp),.sl 1 (x.stack.map encI),.sl 1 (x.out.map encI),.v (.int .i64 x.state),.v (.int .i64 x.value)]
def oneMach : List SV → Mach
 | [.v (.int _ a),.v (.int _ b),.v (.int _ c),.sl _ s,.sl _ o,.v (.int _ d),.v (.int _ e)]=>⟨a,b,c,decI s,decI o,d,e⟩
 | _=>⟨0,0,0,[],[],0,0⟩
def decMach (rows : List (List SV)) : List Mach := rows.map oneMach
theorem oneMach_enc (x : Mach) : oneMach (encMach x) = x := by
 unfold oneMach encMach
 simp only [decI_enc]
theorem decMach_enc (L : List Mach) : decMach (L.map encMach) = L := by
 unfold decMach
 rw [List.map_map]
 exact List.map_id'' oneMach_enc L
theorem oneMach_f (a b c : Int) (s o : List Int) (d e : Int) : oneMach [.v (.int .i64 a),.v (.int .i64 b),.v (.int .i64 c),.sl 1 (s.map encI),.sl 1 (o.map encI),.v (.int .i64 d),.v (.int .i64 e)] = ⟨a,b,c,s,o,d,e⟩ := oneMach_enc ⟨a,b,c,s,o,d,e⟩
theorem mach_eta (x : Mach) : (⟨x.pc,x.sp,x.fp,x.stack,x.out,x.state,x.value⟩ : Mach) = x := rfl
attribute [local go_sem] decMach_enc oneMach_f mach_eta
def machOk (x : Mach) : Bool := decide (x.stack.length = 1200 ∧ (0 ≤ x.sp ∧ x.sp ≤ 1200) ∧ 0 ≤ x.state ∧ x.state ≤ 2)
def kMachOk : Ctr := pur (fun args=>oneMach (aC args 0)) (fun x=>[.agg [.v (.int .i64 x.pc),.v (.int .i64 x.sp),.v (.int .i64 x.fp),.sl 1 (x.stack.map encI),.sl 1 (x.out.map encI),.v (.int .i64 x.state),.v (.int .i64 x.value)]]) (fun x=>x.stack.length ≤ 4194304) (fun _ x=>.v (.bool (machOk x))) (fun _ _=>[])
section
noncomputable def cxMoI := mkX [(37,k60)] (COk.cons c60 (COk.nil _))
theorem cxMoI_t : cxMoI.tys = tys := rfl
theorem cxMoI_c : cxMoI.C = [(37,k60)] := rfl
attribute [local go_sem] cxMoI_t cxMoI_c k60
theorem cMachOkI : Cn Tryz.prog 94 kMachOk := by
 refine Cn.pur Tryz.func94 (by kernel_rfl) rfl fun d x hx=>?_
 obtain ⟨a,b,c,s,o,d2,e2⟩ := x
 simp only at hx ⊢
 have e : machOk ⟨a,b,c,s,o,d2,e2⟩ = (((s.length : Int) == 1200) && (decide (0 ≤ b) && decide (b ≤ 1200)) && (decide (0 ≤ d2) && decide (d2 ≤ 2))) := by
  unfold machOk
  rw [Bool.eq_iff_iff]
  simp only [decide_eq_true_eq,Bool.and_eq_true,beq_iff_eq]
  omega
 rw [e]
 refine Holds.go (c := cxMoI) Tryz.func94 rfl Tryz.results94 Tryz.ntmps94 (by omega) (by simp) rfl ?_
 intro X0 w0
 by_cases h : (s.length : Int) = 1200
 ·(repeat' (first|apply zS|apply zB|((first|apply zR|apply zC|apply zT|apply zE|apply zK);simp only [go_sem,h])|apply And.intro|intro _))
  all_goals first|omega|rfl|skip
 ·have h' : ((s.length : Int) == 1200) = false := beq_eq_false_iff_ne.2 h
  rw [h',Bool.false_and,Bool.false_and]
  (repeat' (first|apply zS|apply zB|((first|apply zR|apply zC|apply zT|apply zE|apply zK);simp only [go_sem,h])|apply And.intro|intro _))
  all_goals first|omega|rfl|(simp only [h',Bool.false_and]; done)|skip
end
section
noncomputable def cxMoS := mkX [(36,k60)] (COk.cons c58 (COk.nil _))
theorem cxMoS_t : cxMoS.tys = tys := rfl
theorem cxMoS_c : cxMoS.C = [(36,k60)] := rfl
attribute [local go_sem] cxMoS_t cxMoS_c k60
theorem cMachOkS : Cn Tryz.prog 84 kMachOk := by
 refine Cn.pur Tryz.func84 (by kernel_rfl) rfl fun d x hx=>?_
 obtain ⟨a,b,c,s,o,d2,e2⟩ := x
 simp only at hx ⊢
 have e : machOk ⟨a,b,c,s,o,d2,e2⟩ = (((s.length : Int) == 1200) && (decide (0 ≤ b) && decide (b ≤ 1200)) && (decide (0 ≤ d2) && decide (d2 ≤ 2))) := by
  unfold machOk
  rw [Bool.eq_iff_iff]
  simp only [decide_eq_true_eq,Bool.and_eq_true,beq_iff_eq]
  omega
 rw [e]
 refine Holds.go (c := cxMoS) Tryz.func84 rfl Tryz.results84 Tryz.ntmps84 (by omega) (by simp) rfl ?_
 intro X0 w0
 by_cases h : (s.length : Int) = 1200
 ·(repeat' (first|apply zS|apply zB|((first|apply zR|apply zC|apply zT|apply zE|apply zK);simp only [go_sem,h])|apply And.intro|intro _))
  all_goals first|omega|rfl|skip
 ·have h' : ((s.length : Int) == 1200) = false := beq_eq_false_iff_ne.2 h
  rw [h',Bool.false_and,Bool.false_and]
  (repeat' (first|apply zS|apply zB|((first|apply zR|apply zC|apply zT|apply zE|apply zK);simp only [go_sem,h])|apply And.intro|intro _))
  all_goals first|omega|rfl|(simp only [h',Bool.false_and]; done)|skip
end
abbrev PcX := (List Image × List Int × List Int) × List Mach × Int × Int × Int
def pcA (args : List SV) (i : Nat) : PcX := match args[i]? with
 |some (.agg [.sl _ a,.sl _ b,.sl _ c,.sl _ t,.v (.int _ x),.v (.int _ y),.v (.int _ z)])=>((decImage a,decI b,decI c),decMach t,x,y,z)
 | _=>(([],[],[]),[],0,0,0)
attribute [local go_sem] pcA
def procOk (x : PcX) : Bool := spaceOk x.1.1 x.1.2.1 x.1.2.2 && decide ((1 ≤ x.2.1.length ∧ x.2.1.length ≤ 3) ∧ (0 ≤ x.2.2.1 ∧ x.2.2.1 ≤ (x.2.1.length : Int) - 1) ∧ (1 ≤ x.2.2.2.2 ∧ x.2.2.2.2 ≤ 1000) ∧ 1 ≤ x.2.2.2.1 ∧ x.2.2.2.1 ≤ x.2.2.2.2) && x.2.1.all machOk
def prePc (x : PcX) : Prop := preSp x.1 ∧ x.2.1.length ≤ 4194304 ∧ ∀ m ∈ x.2.1,m.stack.length ≤ 4194304
def kPcOk : Ctr := pur (fun args=>pcA args 0) (fun x=>[.agg [.sl 2 (x.1.1.map encImage),.sl 1 (x.1.2.1.map encI),.sl 1 (x.1.2.2.map encI),.sl 7 (x.2.1.map encMach),.v (.int .i64 x.2.2.1),.v (.int .i64 x.2.2.2.1),.v (.int .i64 x.2.2.2.2)]]) prePc (fun _ x=>.v (.bool (procOk x))) (fun _ _=>[])
section
noncomputable def cxPoI := mkX [(37,k60),(93,kSpOk),(94,kMachOk)] (COk.cons c60 (COk.cons cSpOkI (COk.cons cMachOkI (COk.nil _))))
theorem cxPoI_t : cxPoI.tys = tys := rfl
theorem cxPoI_c : cxPoI.C = [(37,k60),(93,kSpOk),(94,kMachOk)] := rfl
attribute [local go_sem] cxPoI_t cxPoI_c k60 kSpOk kMachOk
set_option maxHeartbeats 3000000 in
theorem cPcOkI : Cn Tryz.prog 58 kPcOk := by
 refine Cn.pur Tryz.func58 (by kernel_rfl) rfl fun d x hx=>?_
 obtain ⟨⟨I,B,E⟩,T,tu,le,sl⟩ := x
 obtain ⟨hsp,hT,hTs⟩ := hx
 have hsp2 := hsp
 obtain ⟨⟨hI,hIm⟩,hB,hE⟩ := hsp2
 simp only at hT hTs hI hIm hB hE ⊢
 have mod : procOk ((I,B,E),T,tu,le,sl) = (spaceOk I B E && decide ((1 ≤ T.length ∧ T.length ≤ 3) ∧ (0 ≤ tu ∧ tu ≤ (T.length : Int) - 1) ∧ (1 ≤ sl ∧ sl ≤ 1000) ∧ 1 ≤ le ∧ le ≤ sl) && T.all machOk) := rfl
 rw [mod]
 refine Holds.go (c := cxPoI) Tryz.func58 rfl Tryz.results58 Tryz.ntmps58 (by omega) (by simp) rfl ?_
 intro X0 w0
 cases hso : spaceOk I B E with
 |false =>
  (repeat' (first|apply zS|apply zB|((first|apply zR|apply zC|apply zT|apply zE|apply zK);simp only [go_sem,hso])|apply And.intro|intro _))
  all_goals first|omega|exact hIm _ ‹_›|exact (hIm _ ‹_›).1|exact (hIm _ ‹_›).2.1|exact (hIm _ ‹_›).2.2 _ ‹_›|rfl|skip
 |true =>
 by_cases hc : (1 ≤ T.length ∧ T.length ≤ 3) ∧ (0 ≤ tu ∧ tu ≤ (T.length : Int) - 1) ∧ (1 ≤ sl ∧ sl ≤ 1000) ∧ 1 ≤ le ∧ le ≤ sl
 rotate_left
 ·rw [decide_eq_false hc,Bool.and_false,Bool.false_and]
  by_cases c1 : ((1 : Int) ≤ T.length ∧ (T.length : Int) ≤ 3)
  ·by_cases c2 : 0 ≤ tu ∧ tu ≤ (T.length : Int) - 1
   ·by_cases c3 : 1 ≤ sl ∧ sl ≤ 1000
    ·have c4 : (decide (1 ≤ le) && decide (le ≤ sl)) = false:=by rw [← Bool.decide_and]; exact decide_eq_false fun h=>hc ⟨by omega,c2,c3,h⟩
     (repeat' (first|apply zS|apply zB|((first|apply zR|apply zC|apply zT|apply zE|apply zK);simp only [go_sem,hso,c1,c2,c3,c4])|apply And.intro|intro _))
     all_goals first|omega|exact hIm _ ‹_›|exact (hIm _ ‹_›).1|exact (hIm _ ‹_›).2.1|exact (hIm _ ‹_›).2.2 _ ‹_›|rfl|skip
    ·have c3' : (decide (1 ≤ sl) && decide (sl ≤ 1000)) = false:=by rw [← Bool.decide_and]; exact decide_eq_false c3
     (repeat' (first|apply zS|apply zB|((first|apply zR|apply zC|apply zT|apply zE|apply zK);simp only [go_sem,hso,c1,c2,c3'])|apply And.intro|intro _))
     all_goals first|omega|exact hIm _ ‹_›|exact (hIm _ ‹_›).1|exact (hIm _ ‹_›).2.1|exact (hIm _ ‹_›).2.2 _ ‹_›|rfl|skip
   ·have c2' : (decide (0 ≤ tu) && decide (tu ≤ (T.length : Int) - 1)) = false:=by rw [← Bool.decide_and]; exact decide_eq_false c2
    (repeat' (first|apply zS|apply zB|((first|apply zR|apply zC|apply zT|apply zE|apply zK);simp only [go_sem,hso,c1,c2'])|apply And.intro|intro _))
    all_goals first|omega|exact hIm _ ‹_›|exact (hIm _ ‹_›).1|exact (hIm _ ‹_›).2.1|exact (hIm _ ‹_›).2.2 _ ‹_›|rfl|skip
  ·have c1' : (decide ((1 : Int) ≤ T.length) && decide ((T.length : Int) ≤ 3)) = false:=by rw [← Bool.decide_and]; exact decide_eq_false c1
   (repeat' (first|apply zS|apply zB|((first|apply zR|apply zC|apply zT|apply zE|apply zK);simp only [go_sem,hso,c1'])|apply And.intro|intro _))
   all_goals first|omega|exact hIm _ ‹_›|exact (hIm _ ‹_›).1|exact (hIm _ ‹_›).2.1|exact (hIm _ ‹_›).2.2 _ ‹_›|rfl|skip
 rw [decide_eq_true hc,Bool.and_true,Bool.true_and]
 obtain ⟨⟨a1,a2⟩,⟨a3,a4⟩,⟨a5,a6⟩,a7,a8⟩ := hc
 have a1i : (1 : Int) ≤ T.length:=by omega
 have a2i : (T.length : Int) ≤ 3:=by omega
 (repeat' (first|apply zS|apply zB|((first|apply zR|apply zC|apply zT|apply zE|apply zK);simp only [go_sem,hso,a1i,a2i,a3,a4,a5,a6,a7,a8])|apply And.intro|intro _))
 all_goals first|omega|exact hIm _ ‹_›|exact (hIm _ ‹_›).1|exact (hIm _ ‹_›).2.1|exact (hIm _ ‹_›).2.2 _ ‹_›|skip
 refine zL (fun k : Nat=>⟨[(41,.sl 7 (T.map encMach)),(42,.v (.int .i64 T.length)),(43,.v (.int .i64 k))],[]⟩)
  (fun k=>k ≤ T.length ∧ ∀ i (hi : i < T.length),i < k → machOk T[i] = true) (fun k=>T.length - k) 0 (by simp) ?_ ?_
 ·(simp only [go_sem] <;> (first|(and_intros <;> rfl)|simp))
 intro k ⟨hk,hf⟩
 by_cases hlt : k < T.length
 ·have hli : (k : Int) < T.length:=by omega
  have hr := rowAt_map encMach T k hlt
  have hst := hTs _ (List.getElem_mem hlt)
  cases hm : machOk T[k] with
  |false =>
   have ha : T.all machOk = false := List.all_eq_false.2 ⟨_,List.getElem_mem hlt,by rw [hm]; simp⟩
   rw [ha]
   (repeat' (first|apply zS|apply zB|((first|apply zR|apply zC|apply zT|apply zE|apply zK);simp only [go_sem,hli,hr,encMach,hm])|apply And.intro|intro _))
   all_goals first|omega|skip
  |true =>
   (repeat' (first|apply zS|apply zB|((first|apply zR|apply zC|apply zT|apply zE|apply zK);simp only [go_sem,hli,hr,encMach,hm])|apply And.intro|intro _))
   all_goals first|omega|exact ⟨k + 1,⟨by omega,fun i hi hik=>by
    rcases Nat.lt_or_ge i k with h|h
    ·exact hf i hi h
    ·have : i = k:=by omega
     subst this; exact hm⟩,by omega,by (first|(and_intros <;> rfl)|simp)⟩|skip
 ·have hge : ¬ (k : Int) < T.length:=by omega
  have ha : T.all machOk = true := List.all_eq_true.2 fun m hm=>by
   obtain ⟨i,hi,rfl⟩ := List.mem_iff_getElem.1 hm
   exact hf i hi (by omega)
  rw [ha]
  (repeat' (first|apply zS|apply zB|((first|apply zR|apply zC|apply zT|apply zE|apply zK);simp only [go_sem,hge])|apply And.intro|intro _))
  all_goals first|omega|skip
end
section
noncomputable def cxPoS := mkX [(36,k60),(83,kSpOk),(84,kMachOk)] (COk.cons c58 (COk.cons cSpOkS (COk.cons cMachOkS (COk.nil _))))
theorem cxPoS_t : cxPoS.tys = tys := rfl
theorem cxPoS_c : cxPoS.C = [(36,k60),(83,kSpOk),(84,kMachOk)] := rfl
attribute [local go_sem] cxPoS_t cxPoS_c k60 kSpOk kMachOk
set_option maxHeartbeats 3000000 in
theorem cPcOkS : Cn Tryz.prog 43 kPcOk := by
 refine Cn.pur Tryz.func43 (by kernel_rfl) rfl fun d x hx=>?_
 obtain ⟨⟨I,B,E⟩,T,tu,le,sl⟩ := x
 obtain ⟨hsp,hT,hTs⟩ := hx
 have hsp2 := hsp
 obtain ⟨⟨hI,hIm⟩,hB,hE⟩ := hsp2
 simp only at hT hTs hI hIm hB hE ⊢
 have mod : procOk ((I,B,E),T,tu,le,sl) = (spaceOk I B E && decide ((1 ≤ T.length ∧ T.length ≤ 3) ∧ (0 ≤ tu ∧ tu ≤ (T.length : Int) - 1) ∧ (1 ≤ sl ∧ sl ≤ 1000) ∧ 1 ≤ le ∧ le ≤ sl) && T.all machOk) := rfl
 rw [mod]
 refine Holds.go (c := cxPoS) Tryz.func43 rfl Tryz.results43 Tryz.ntmps43 (by omega) (by simp) rfl ?_
 intro X0 w0
 cases hso : spaceOk I B E with
 |false =>
  (repeat' (first|apply zS|apply zB|((first|apply zR|apply zC|apply zT|apply zE|apply zK);simp only [go_sem,hso])|apply And.intro|intro _))
  all_goals first|omega|exact hIm _ ‹_›|exact (hIm _ ‹_›).1|exact (hIm _ ‹_›).2.1|exact (hIm _ ‹_›).2.2 _ ‹_›|rfl|skip
 |true =>
 by_cases hc : (1 ≤ T.length ∧ T.length ≤ 3) ∧ (0 ≤ tu ∧ tu ≤ (T.length : Int) - 1) ∧ (1 ≤ sl ∧ sl ≤ 1000) ∧ 1 ≤ le ∧ le ≤ sl
 rotate_left
 ·rw [decide_eq_false hc,Bool.and_false,Bool.false_and]
  by_cases c1 : ((1 : Int) ≤ T.length ∧ (T.length : Int) ≤ 3)
  ·by_cases c2 : 0 ≤ tu ∧ tu ≤ (T.length : Int) - 1
   ·by_cases c3 : 1 ≤ sl ∧ sl ≤ 1000
    ·have c4 : (decide (1 ≤ le) && decide (le ≤ sl)) = false:=by rw [← Bool.decide_and]; exact decide_eq_false fun h=>hc ⟨by omega,c2,c3,h⟩
     (repeat' (first|apply zS|apply zB|((first|apply zR|apply zC|apply zT|apply zE|apply zK);simp only [go_sem,hso,c1,c2,c3,c4])|apply And.intro|intro _))
     all_goals first|omega|exact hIm _ ‹_›|exact (hIm _ ‹_›).1|exact (hIm _ ‹_›).2.1|exact (hIm _ ‹_›).2.2 _ ‹_›|rfl|skip
    ·have c3' : (decide (1 ≤ sl) && decide (sl ≤ 1000)) = false:=by rw [← Bool.decide_and]; exact decide_eq_false c3
     (repeat' (first|apply zS|apply zB|((first|apply zR|apply zC|apply zT|apply zE|apply zK);simp only [go_sem,hso,c1,c2,c3'])|apply And.intro|intro _))
     all_goals first|omega|exact hIm _ ‹_›|exact (hIm _ ‹_›).1|exact (hIm _ ‹_›).2.1|exact (hIm _ ‹_›).2.2 _ ‹_›|rfl|skip
   ·have c2' : (decide (0 ≤ tu) && decide (tu ≤ (T.length : Int) - 1)) = false:=by rw [← Bool.decide_and]; exact decide_eq_false c2
    (repeat' (first|apply zS|apply zB|((first|apply zR|apply zC|apply zT|apply zE|apply zK);simp only [go_sem,hso,c1,c2'])|apply And.intro|intro _))
    all_goals first|omega|exact hIm _ ‹_›|exact (hIm _ ‹_›).1|exact (hIm _ ‹_›).2.1|exact (hIm _ ‹_›).2.2 _ ‹_›|rfl|skip
  ·have c1' : (decide ((1 : Int) ≤ T.length) && decide ((T.length : Int) ≤ 3)) = false:=by rw [← Bool.decide_and]; exact decide_eq_false c1
   (repeat' (first|apply zS|apply zB|((first|apply zR|apply zC|apply zT|apply zE|apply zK);simp only [go_sem,hso,c1'])|apply And.intro|intro _))
   all_goals first|omega|exact hIm _ ‹_›|exact (hIm _ ‹_›).1|exact (hIm _ ‹_›).2.1|exact (hIm _ ‹_›).2.2 _ ‹_›|rfl|skip
 rw [decide_eq_true hc,Bool.and_true,Bool.true_and]
 obtain ⟨⟨a1,a2⟩,⟨a3,a4⟩,⟨a5,a6⟩,a7,a8⟩ := hc
 have a1i : (1 : Int) ≤ T.length:=by omega
 have a2i : (T.length : Int) ≤ 3:=by omega
 (repeat' (first|apply zS|apply zB|((first|apply zR|apply zC|apply zT|apply zE|apply zK);simp only [go_sem,hso,a1i,a2i,a3,a4,a5,a6,a7,a8])|apply And.intro|intro _))
 all_goals first|omega|exact hIm _ ‹_›|exact (hIm _ ‹_›).1|exact (hIm _ ‹_›).2.1|exact (hIm _ ‹_›).2.2 _ ‹_›|skip
 refine zL (fun k : Nat=>⟨[(1,.ptr 1 0 0 0),(3,.v (.int .i64 k))],[(1,.box 42 [.sl 2 (I.map encImage),.sl 1 (B.map encI),.sl 1 (E.map encI),.sl 7 (T.map encMach),.v (.int .i64 tu),.v (.int .i64 le),.v (.int .i64 sl)])]⟩)
  (fun k=>k ≤ T.length ∧ ∀ i (hi : i < T.length),i < k → machOk T[i] = true) (fun k=>T.length - k) 0 (by simp) ?_ ?_
 ·(simp only [go_sem] <;> (first|(and_intros <;> rfl)|simp))
 intro k ⟨hk,hf⟩
 by_cases hlt : k < T.length
 ·have hli : (k : Int) < T.length:=by omega
  have hr := rowAt_map encMach T k hlt
  have hst := hTs _ (List.getElem_mem hlt)
  cases hm : machOk T[k] with
  |false =>
   have ha : T.all machOk = false := List.all_eq_false.2 ⟨_,List.getElem_mem hlt,by rw [hm]; simp⟩
   rw [ha]
   (repeat' (first|apply zS|apply zB|((first|apply zR|apply zC|apply zT|apply zE|apply zK);simp only [go_sem,hli,hr,encMach,hm])|apply And.intro|intro _))
   all_goals first|omega|skip
  |true =>
   (repeat' (first|apply zS|apply zB|((first|apply zR|apply zC|apply zT|apply zE|apply zK);simp only [go_sem,hli,hr,encMach,hm])|apply And.intro|intro _))
   all_goals first|omega|exact ⟨k + 1,⟨by omega,fun i hi hik=>by
    rcases Nat.lt_or_ge i k with h|h
    ·exact hf i hi h
    ·have : i = k:=by omega
     subst this; exact hm⟩,by omega,by (first|(and_intros <;> rfl)|simp)⟩|skip
 ·have hge : ¬ (k : Int) < T.length:=by omega
  have ha : T.all machOk = true := List.all_eq_true.2 fun m hm=>by
   obtain ⟨i,hi,rfl⟩ := List.mem_iff_getElem.1 hm
   exact hf i hi (by omega)
  rw [ha]
  (repeat' (first|apply zS|apply zB|((first|apply zR|apply zC|apply zT|apply zE|apply zK);simp only [go_sem,hge])|apply And.intro|intro _))
  all_goals first|omega|skip
end
end Go.Proofs.YtoomncljmgcidaaGreat

namespace Go.Proofs.YtoomncljmgcidaaGreat
theorem sgn_bd {v h : Int} {sg : Bool} (h0 : 0 ≤ v) (h1 : v < 2 * h) : (sg = true → -h ≤ (if sg = true ∧ h ≤ v then v - 2 * h else v) ∧ (if sg = true ∧ h ≤ v then v - 2 * h else v) < h) ∧ (sg = false → (if sg = true ∧ h ≤ v then v - 2 * h else v) = v) := by
 cases sg with
 |false=>simp
 |true =>
  refine ⟨fun _=>?_,fun q=>by cases q⟩
  by_cases hc : h ≤ v
  ·rw [if_pos ⟨rfl,hc⟩]; omega
  ·rw [if_neg fun q=>hc q.2]; omega
theorem argV_2 (s : ByteArray) (k : Nat) : -32768 ≤ argV s k 2 true ∧ argV s k 2 true ≤ 32767 := by
 obtain ⟨h1,h2⟩ := leI_bd s k 2
 have h2 : leI s k 2 < 2 * 32768 := h2
 have := (sgn_bd (sg := true) h1 h2).1 rfl
 have e : argV s k 2 true = (if true = true ∧ 32768 ≤ leI s k 2 then leI s k 2 - 2 * 32768 else leI s k 2) := rfl
 rw [e]; omega
theorem argV_4 (s : ByteArray) (k : Nat) : -2147483648 ≤ argV s k 4 true ∧ argV s k 4 true ≤ 2147483647 := by
 obtain ⟨h1,h2⟩ := leI_bd s k 4
 have h2 : leI s k 4 < 2 * 2147483648 := h2
 have := (sgn_bd (sg := true) h1 h2).1 rfl
 have e : argV s k 4 true = (if true = true ∧ 2147483648 ≤ leI s k 4 then leI s k 4 - 2 * 2147483648 else leI s k 4) := rfl
 rw [e]; omega
theorem argV_f (s : ByteArray) (k n : Nat) (hn : n ≤ 2) : 0 ≤ argV s k n false ∧ argV s k n false ≤ 65535 := by
 obtain ⟨h1,h2⟩ := leI_bd s k n
 have e : argV s k n false = leI s k n := if_neg (by simp)
 rw [e]
 refine ⟨h1,?_⟩
 have hp : (2 : Int) ^ (8 * n) ≤ 65536 := by
  have hc : n = 0 ∨ n = 1 ∨ n = 2:=by omega
  rcases hc with rfl|rfl|rfl <;> decide
 omega
theorem argC_bd (s : ByteArray) (k : Nat) (c : Int) : (-2147483648 ≤ argV s k (argW c).1.toNat (argW c).2 ∧ argV s k (argW c).1.toNat (argW c).2 ≤ 4294967295) ∧ (c = 1 ∨ c = 2 ∨ c = 3 ∨ c = 4 ∨ c = 10 ∨ c = 11 → -32768 ≤ argV s k (argW c).1.toNat (argW c).2 ∧ argV s k (argW c).1.toNat (argW c).2 ≤ 32767) ∧
  (12 ≤ c → 0 ≤ argV s k (argW c).1.toNat (argW c).2 ∧ argV s k (argW c).1.toNat (argW c).2 ≤ 65535) := by
 by_cases h0 : c = 0
 ·have e : argW c = (4,true) := if_pos h0
  rw [e]
  have := argV_4 s k
  exact ⟨by show -2147483648 ≤ argV s k 4 true ∧ argV s k 4 true ≤ 4294967295; omega,fun q=>by omega,fun q=>by omega⟩
 by_cases h1 : c = 1 ∨ c = 2 ∨ c = 3 ∨ c = 4 ∨ c = 10 ∨ c = 11
 ·have e : argW c = (2,true):=by unfold argW; rw [if_neg h0,if_pos h1]
  rw [e]
  have := argV_2 s k
  exact ⟨by show -2147483648 ≤ argV s k 2 true ∧ argV s k 2 true ≤ 4294967295; omega,fun _=>this,fun q=>by omega⟩
 have e : ∃ n : Nat,n ≤ 2 ∧ argW c = ((n : Int),false) := by
  unfold argW
  rw [if_neg h0,if_neg h1]
  split
  ·exact ⟨2,by omega,rfl⟩
  ·split
   ·exact ⟨1,by omega,rfl⟩
   ·exact ⟨0,by omega,rfl⟩
 obtain ⟨n,hn,e⟩ := e
 rw [e]
 simp only [Int.toNat_natCast]
 have := argV_f s k n hn
 exact ⟨by omega,fun q=>absurd q h1,fun _=>this⟩
structure OpB (x : Op) (n : Int) : Prop where
 code : 0 ≤ x.code ∧ x.code ≤ 17
 arg : -2147483648 ≤ x.arg ∧ x.arg ≤ 4294967295
 near : x.code = 1 ∨ x.code = 2 ∨ x.code = 3 ∨ x.code = 4 ∨ x.code = 10 ∨ x.code = 11 → -32768 ≤ x.arg ∧ x.arg ≤ 32767
 pos : 12 ≤ x.code → 0 ≤ x.arg ∧ x.arg ≤ 65535
 size : 1 ≤ n ∧ n ≤ 5
theorem decOp_bd {s : ByteArray} {k : Int} {x : Op} {n : Int} (h : decOp s k = some (x,n)) : OpB x n ∧ 0 ≤ k ∧ k < s.size := by
 unfold decOp at h
 split at h
 ·rename_i hk
  split at h
  ·rename_i hs
   simp only [Option.some.injEq,Prod.mk.injEq] at h
   obtain ⟨rfl,rfl⟩ := h
   have hb := byt_bd s k.toNat
   generalize hc : byt s k.toNat = c at *
   have h17 : 0 ≤ c ∧ c ≤ 17 := by
    have := hs.1
    unfold opSize at this
    split at this
    ·assumption
    ·exact absurd rfl this
   have hw := argW_bd c
   have hsz := opSize_bd c
   obtain ⟨a1,a2,a3⟩ := argC_bd s k.toNat c
   exact ⟨⟨h17,a1,a2,a3,by show 1 ≤ opSize c ∧ opSize c ≤ 5; have := hs.1; omega⟩,hk⟩
  ·cases h
 ·cases h
def finM (m : Mach) (r : CpB) : Mach :=
 if r.2 = true then ⟨m.pc,m.sp,m.fp,m.stack,m.out,2,m.value⟩
 else if r.1.pc = 0 then (if 0 ≤ r.1.sp ∧ r.1.sp ≤ 1199 then ⟨r.1.pc,r.1.sp,r.1.fp,r.1.st,r.1.out,1,r.1.st.getD r.1.sp.toNat 0⟩ else ⟨m.pc,m.sp,m.fp,m.stack,m.out,2,m.value⟩)
 else ⟨r.1.pc,r.1.sp,r.1.fp,r.1.st,r.1.out,m.state,m.value⟩
def cpuM (m : Mach) (n : Int) : Cpu := ⟨m.pc + n,m.sp,m.fp,m.stack,m.out⟩
abbrev SpcX := List Image × List Int × List Int
def stepS (S : SpcX) (m : Mach) : Mach := match fetOp S m.pc with
 |none=>⟨m.pc,m.sp,m.fp,m.stack,m.out,2,m.value⟩
 |some (x,n)=>finM m (performS S.2.2 x (cpuM m n))
def stepI (S : SpcX) (m : Mach) : Mach := match fetOp S m.pc with
 |none=>⟨m.pc,m.sp,m.fp,m.stack,m.out,2,m.value⟩
 |some (x,n)=>finM m (performI S.2.2 x (cpuM m n))
theorem finM_rel {m : Mach} {s t : CpB} (h : RR s t) : finM m s = finM m t := by
 rcases h.cases with ⟨p,q⟩|⟨p,rfl,r⟩
 ·unfold finM; rw [if_pos p,if_pos q]
 ·rfl
structure MachR (m : Mach) : Prop where
 pc : In64 m.pc
 sp : In64 m.sp
 fp : In64 m.fp
 st : ∀ x ∈ m.stack,In64 x
theorem fet_bd {S : SpcX} {a : Int} {x : Op} {n : Int} (hB : ∀ b ∈ S.2.1,0 ≤ b ∧ b ≤ 1000000) (h : fetOp S a = some (x,n)) : OpB x n ∧ 0 ≤ a ∧ ∃ i : Nat,a < 1000000 + ((S.1.getD i zImg).code.size : Int) := by
 unfold fetOp at h
 split at h
 ·cases h
 ·obtain ⟨h1,h2,h3⟩ := decOp_bd h
  have hb : 0 ≤ S.2.1.getD (locI S.1 S.2.1 a).toNat 0 ∧ S.2.1.getD (locI S.1 S.2.1 a).toNat 0 ≤ 1000000 := by
   rw [List.getD_eq_getElem?_getD]
   cases hq : S.2.1[(locI S.1 S.2.1 a).toNat]? with
   |none=>simp
   |some b=>exact hB b (List.mem_of_getElem? hq)
  exact ⟨h1,by omega,(locI S.1 S.2.1 a).toNat,by omega⟩
theorem step_same {S : SpcX} {m : Mach} (hB : ∀ b ∈ S.2.1,0 ≤ b ∧ b ≤ 1000000) (hI : ∀ i : Nat,(S.1.getD i zImg).code.size ≤ 1000000) (hE : ∀ e ∈ S.2.2,In64 e) (hm : MachR m) : stepI S m = stepS S m := by
 unfold stepI stepS
 cases h : fetOp S m.pc with
 |none=>rfl
 |some q =>
  obtain ⟨x,n⟩ := q
  obtain ⟨h1,h2,i,h3⟩ := fet_bd hB h
  have h4 := hI i
  have h5 := h1.size
  have h6 := h1.arg
  refine (finM_rel (perform_rel ⟨⟨?_,hm.sp,hm.fp,hm.st⟩,?_,fun q=>h1.near (by omega),fun q=>?_,hE⟩)).symm
  ·show In64 (m.pc + n); unfold In64; omega
  ·unfold In64; omega
  ·show In64 (m.pc + n + x.arg); unfold In64; omega
end Go.Proofs.YtoomncljmgcidaaGreat

namespace Go.Vc
section
variable {c : Cx} {N : Nat} {X0 : Nat → Prop} {M : Nat → BV → Prop} {w0 : World} {st : St} {K : Exit → St → Prop}
theorem WP.atReg {b : Nat} {ops : Array Oper} {d : Bool} (h : WP c N X0 M w0 (.region b ops d) st K) : WP c N X0 M w0 (.region b ops d) st K := h
end
end Go.Vc

namespace Go.Vc
def SV.jk (js : List Nat) : SV → SV
 | .own i=>if js.contains i then .junk else .own i
 | .ptr i s a b=>if js.contains i then .junk else .ptr i s a b
 | .agg _=>.junk
 | .tup _=>.junk
 | .fn _ _=>.junk
 | .cond _ _=>.junk
 |x=>x
def Ob.jk (js : List Nat) : Ob → Ob
 | .box e cs=>.box e (cs.map (SV.jk js))
 |o=>o
def St.setO (st : St) (cc : Nat) (ob : Ob) : St := { st with hp := (cc,ob) :: er cc st.hp }
section
variable {c : Cx} {N : Nat} {X0 : Nat → Prop} {M : Nat → BV → Prop} {w0 : World} {K : Exit → St → Prop} {st : St} {β : Nat → BV} {a : Act} {w : World}
theorem R.jk {X : Nat → Prop} {js : List Nat} {x : SV} {v : Value} (h : R w X β x v) : R w X β (x.jk js) v := by
 cases x with
 |own i=>show R w X β (if js.contains i then .junk else .own i) v; split <;> first|exact .junk _|exact h
 |ptr i s a b=>show R w X β (if js.contains i then .junk else .ptr i s a b) v; split <;> first|exact .junk _|exact h
 |v x=>exact h
 |sl s rows=>exact h
 |rptr s rows i k=>exact h
 |junk=>exact h
 | _=>exact .junk _
theorem Sim.jk (h : Sim N X0 M w0 st β a w) {cc : Nat} {ob : Ob} {js : List Nat} (hl : lk cc st.hp = some ob) : Sim N X0 M w0 (st.setO cc (ob.jk js)) β a w := by
 have hlk : ∀ {id o},lk id (st.setO cc (ob.jk js)).hp = some o → (id = cc ∧ o = ob.jk js) ∨ (id ≠ cc ∧ lk id st.hp = some o) := fun {id o} hi=>by
  by_cases he : id = cc
  ·subst he; simp only [St.setO,lk,if_true] at hi; exact .inl ⟨rfl,by simpa using hi.symm⟩
  ·simp only [St.setO,lk,if_neg he,lk_er_ne he] at hi; exact .inr ⟨he,hi⟩
 have hold : ∀ {id o},lk id (st.setO cc (ob.jk js)).hp = some o → ∃ o',lk id st.hp = some o' := fun {id o} hi=>by
  rcases hlk hi with ⟨rfl,_⟩|⟨_,h2⟩
  ·exact ⟨ob,hl⟩
  ·exact ⟨o,h2⟩
 have hX : ∀ b,XX X0 β (st.setO cc (ob.jk js)).hp b → XX X0 β st.hp b := fun b hb=>by
  rcases hb with hb|⟨id,o,hi,hb⟩
  ·exact .inl hb
  ·obtain ⟨o',ho'⟩ := hold hi; exact .inr ⟨id,o',ho',hb⟩
 have hS : Same (XX X0 β st.hp) w w := ⟨Nat.le_refl _,fun _ _ _=>rfl⟩
 exact { h with
  slots := fun t x hx=>(h.slots t x hx).mono hS fun b _ hb=>hX b hb
  objs := fun id o hi=>by
   rcases hlk hi with ⟨rfl,rfl⟩|⟨_,h2⟩
   ·have hO := (h.objs id ob hl).mono (X' := XX X0 β (st.setO id (ob.jk js)).hp) hS (fun b _ hb=>hX b hb) (fun _ _=>rfl)
    cases ob with
    |box e cs =>
     cases hO with
     |box b cur hv hh hl' hc =>
      refine .box b cur hv hh (by simpa using hl') fun k c u hk hu=>?_
      obtain ⟨c0,h0,rfl⟩ := map_get hk
      exact ⟨(hc k c0 u h0 hu).1,(hc k c0 u h0 hu).2.jk⟩
    | _=>exact hO
   ·exact (h.objs id o h2).mono hS (fun b _ hb=>hX b hb) (fun _ _=>rfl)
  inj := fun i j oi oj b hi hj=>by
   obtain ⟨o1,h1⟩ := hold hi
   obtain ⟨o2,h2⟩ := hold hj
   exact h.inj i j o1 o2 b h1 h2
  mine := fun id o b hi hb=>by obtain ⟨o1,h1⟩ := hold hi; exact h.mine id o1 b h1 hb }
end
end Go.Vc

namespace Go.Vc
def chainOf (x : Value) : List PanicEntry := [{ v := x,recovered := false }]
def EX : Option Value → Ending → Value → Prop
 |none,e,v=>e = .returned v
 |some x,e,_=>e = .panicked (chainOf x)
structure Ctx where
 ctr : Ctr
 pan : List SV → List (Nat × Ob) → Option Value
structure POk (P : Program) (C2 : List (FuncId × Ctx)) : Prop where
 call : ∀ f c,lk f C2 = some c → Callable P f
 holds : ∀ f c,lk f C2 = some c → ∀ d args obs,(c.ctr.wri d args obs).1 → HoldsE (EX (c.pan args obs)) P f args obs (c.ctr.wri d args obs).2.1 (c.ctr.wri d args obs).2.2.1 (c.ctr.wri d args obs).2.2.2
def headsBy (st : St) (A : List SV) (is : List Nat) : List Nat := is.flatMap fun i=>match nthS A i with
 | .ptr id _ _ _=>id :: st.ptrsIn id
 | .own id=>[id]
 | _=>[]
def innersBy (st : St) (A : List SV) (is : List Nat) : List Nat := is.flatMap fun i=>match nthS A i with
 | .ptr id _ _ _=>st.ownsIn id ++ (st.ptrsIn id).flatMap st.ownsIn
 | _=>[]
def llX (st : St) (A : List SV) (ctr : Ctr) : List Nat := headsBy st A ctr.lend
def lmX (st : St) (A : List SV) (ctr : Ctr) : List Nat := innersBy st A ctr.lend ++ lentBy st A ctr.move
def ctrs (C2 : List (FuncId × Ctx)) : List (FuncId × Ctr) := C2.map fun p=>(p.1,p.2.ctr)
def St.isX (C2 : List (FuncId × Ctx)) (o : Oper) (st : St) : Bool :=
 match o.op with
 | .call c=>match c.callee with
  | .value x=>match st.ev x with
   | .fn f _=>(lk f C2).isSome
   | _=>false
  | _=>false
 | _=>false
def St.panOf (C2 : List (FuncId × Ctx)) (o : Oper) (st : St) : Option Value :=
 match o.op with
 | .call c=>match c.callee with
  | .value x=>match st.ev x with
   | .fn f caps=>match lk f C2 with
    |some cp=>cp.pan (argsR st.hp (pairs 1000000 (llX st (st.argL c caps) cp.ctr) ++ pairs 900000 (lmX st (st.argL c caps) cp.ctr)) (cp.ctr.lend ++ cp.ctr.move) 0 (st.argL c caps)) (obsR st.hp (pairs 1000000 (llX st (st.argL c caps) cp.ctr) ++ pairs 900000 (lmX st (st.argL c caps) cp.ctr)))
    |none=>none
   | _=>none
  | _=>none
 | _=>none
def St.callX (dd : Nat) (C2 : List (FuncId × Ctx)) (o : Oper) (st : St) (K : St → Prop) (Kp : Value → St → Prop) : Prop :=
 match st.panOf C2 o with
 |none=>st.callLG llX lmX dd (ctrs C2) o K
 |some x=>st.callLG llX lmX dd (ctrs C2) { o with dst := none } (Kp x)
theorem lk_ctrs {C2 : List (FuncId × Ctx)} {f : FuncId} {c : Ctr} : lk f (ctrs C2) = some c → ∃ cp,lk f C2 = some cp ∧ cp.ctr = c := by
 induction C2 with
 |nil=>intro h; cases h
 |cons p l ih =>
  obtain ⟨g,cp⟩ := p
  intro h
  simp only [ctrs,List.map_cons,lk] at h ⊢
  by_cases hf : f = g
  ·rw [if_pos hf] at h ⊢; exact ⟨cp,rfl,by simpa using h⟩
  ·rw [if_neg hf] at h ⊢; exact ih h
section
variable {P : Program} {tys : List (Nat × TyD)} {N : Nat} {X0 : Nat → Prop} {M : Nat → BV → Prop} {w0 : World} {st : St} {β : Nat → BV} {a : Act} {w : World}
theorem callX_sound {C2 : List (FuncId × Ctx)} (hC : POk P C2) (hA : Ap P X0 M w0) (h : Sim N X0 M w0 st β a w) {o : Oper} (hN : ∀ d,o.dst = some d → d < N) {K : St → Prop} {Kp : Value → St → Prop} {dd : Nat} (hw : st.callX dd C2 o K Kp)
  {Q : Exit → Act → World → Prop} (hQ : ∀ x a w,Ok N X0 M w0 (Kp x) a w → Q (.panic (chainOf x)) a w) : o.wp P a w (Ok N X0 M w0 K) Q := by
 unfold St.callX at hw
 have hcall : ∀ f c,lk f (ctrs C2) = some c → Callable P f := fun f c hc=>by obtain ⟨cp,h1,_⟩ := lk_ctrs hc; exact hC.call f cp h1
 cases hp : st.panOf C2 o with
 |none =>
  rw [hp] at hw
  obtain ⟨f,us,hrun,hcalls⟩ := eff_callE (E := EX none) hcall hA h hN hw (fun c x f caps ctr h1 h2 h3 h4 hc=>by
   obtain ⟨cp,g1,rfl⟩ := lk_ctrs h4
   have := hC.holds f cp g1 dd _ _ hc
   unfold St.panOf at hp
   simp only [h1,h2,h3,g1] at hp
   rw [hp] at this
   exact this)
  unfold Oper.wp
  rw [hrun,Oper.upon_enter]
  exact hcalls.mono fun e w' ⟨v,hE,hok⟩=>by
   have hE : e = .returned v := hE
   subst hE; exact hok
 |some x =>
  rw [hp] at hw
  obtain ⟨f,us,hrun,hcalls⟩ := eff_callE (o := { o with dst := none }) (E := EX (some x)) hcall hA h (fun d hd=>by cases hd) hw (fun c x' f caps ctr h1 h2 h3 h4 hc=>by
   obtain ⟨cp,g1,rfl⟩ := lk_ctrs h4
   have := hC.holds f cp g1 dd _ _ hc
   unfold St.panOf at hp
   have h1' : o.op = .call c := h1
   simp only [h1',h2,h3,g1] at hp
   rw [hp] at this
   exact this)
  have hrun' : (execOp a.eval o).run P w = .ok (.enter f us) w := hrun
  unfold Oper.wp
  rw [hrun',Oper.upon_enter]
  exact hcalls.mono fun e w' ⟨v,hE,hok⟩=>by
   have hE : e = .panicked (chainOf x) := hE
   subst hE
   exact hQ x a w' hok
end
end Go.Vc

namespace Go.Vc
section
variable {P : Program} {tys : List (Nat × TyD)} {C : List (FuncId × Ctr)} {N : Nat} {X0 : Nat → Prop} {M : Nat → BV → Prop} {w0 : World} {st : St} {β : Nat → BV} {a : Act} {w : World}
theorem runR_then (hA : Ap P X0 M w0) (hty : ∀ T d,lk T tys = some d → TyOk P T d) (hC : COk P C) {ops : Array Oper} {l2 : List Oper} {K : St → Prop} {Q : Exit → Act → World → Prop} (hQ : ∀ a w,Ok N X0 M w0 K a w → wpList P ops Q l2 a w) :
  ∀ (l : List Oper) {st : St} {β : Nat → BV} {a : Act} {w : World},Sim N X0 M w0 st β a w → St.runR tys C N ops l st K → wpList P ops Q (l ++ l2) a w
 | [],st,β,a,w,h,hw=>hQ a w ⟨st,β,hw,h⟩
 |o :: l,st,β,a,w,h,hw=>by
  have h1 := step_sound (Q := Q) hA hty hC h hw
  show wpList P ops Q (o :: (l ++ l2)) a w
  unfold wpList
  split
  ·rename_i hwt
   rw [if_pos hwt] at h1
   exact .inl (Oper.wp_mono (fun a' w' ⟨st',β',h2,h3⟩=>runR_then hA hty hC hQ l h3 h2) h1)
  ·rename_i hwt
   rw [if_neg hwt] at h1
   obtain ⟨st',β',h2,h3⟩ := h1
   exact runR_then hA hty hC hQ l h3 h2
end
section
variable {c : Cx} {N : Nat} {X0 : Nat → Prop} {M : Nat → BV → Prop} {w0 : World} {st : St} {K : Exit → St → Prop}
end
end Go.Vc

namespace Go.Vc
def St.stepP (tys : List (Nat × TyD)) (C : List (FuncId × Ctr)) (C2 : List (FuncId × Ctx)) (N : Nat) (ops : Array Oper) (Kp : Value → St → Prop) (o : Oper) (st : St) (K : St → Prop) : Prop :=
 match st.isX C2 o with
 |true=>o.guard.isNone = true ∧ dstOk N o.dst = true ∧ st.callX (o.dst.getD 0) C2 o K Kp
 |false=>st.step tys C N ops o K
section
variable {c : Cx} {N : Nat} {X0 : Nat → Prop} {M : Nat → BV → Prop} {w0 : World} {st : St} {K : Exit → St → Prop}
theorem stepP_ok {C2 : List (FuncId × Ctx)} (hC2 : POk c.P C2) (hA : Ap c.P X0 M w0) {ops : Array Oper} {Kp : Value → St → Prop} {Q : Exit → Act → World → Prop} (hQ : ∀ x a w,Ok N X0 M w0 (Kp x) a w → Q (.panic (chainOf x)) a w) :
  StpOk c.P N X0 M w0 ops Q (St.stepP c.tys c.C C2 N ops Kp) := fun st β a w o K hs hw=>by
 unfold St.stepP at hw
 cases hx : st.isX C2 o with
 |false=>rw [hx] at hw; exact step_sound hA c.hty c.hC hs hw
 |true =>
  rw [hx] at hw
  obtain ⟨h1,h2,h3⟩ := hw
  have hwt : Region.wanted o (yielded ops a.tmps) = true := by
   unfold Region.wanted
   cases hg : o.guard with
   |none=>rfl
   |some g=>rw [hg] at h1; cases h1
  rw [if_pos hwt]
  exact callX_sound hC2 hA hs (dst_lt h2) h3 hQ
theorem runS_sound {P : Program} {ops : Array Oper} {K : St → Prop} {Q : Exit → Act → World → Prop} {stp : Oper → St → (St → Prop) → Prop} (hS : StpOk P N X0 M w0 ops Q stp) (hQ : ∀ a w,Ok N X0 M w0 K a w → Q .normal a w) :
  ∀ (l : List Oper) {st : St} {β : Nat → BV} {a : Act} {w : World},Sim N X0 M w0 st β a w → runS stp l st K → wpList P ops Q l a w
 | [],st,β,a,w,h,hw=>hQ a w ⟨st,β,hw,h⟩
 |o :: l,st,β,a,w,h,hw=>by
  have h1 := hS st β a w o _ h hw
  unfold wpList
  split
  ·rename_i hwt
   rw [if_pos hwt] at h1
   exact .inl (Oper.wp_mono (fun a' w' ⟨st',β',h2,h3⟩=>runS_sound hS hQ l h3 h2) h1)
  ·rename_i hwt
   rw [if_neg hwt] at h1
   obtain ⟨st',β',h2,h3⟩ := h1
   exact runS_sound hS hQ l h3 h2
theorem WP.regionP {id : Nat} {l : List Oper} {C2 : List (FuncId × Ctx)} (hC2 : POk c.P C2) (h : runS (St.stepP c.tys c.C C2 N l.toArray fun x=>K (.panic (chainOf x))) l st (K .normal)) : WP c N X0 M w0 (.region id l.toArray false) st K := fun hA β a w hs =>
 wp_region_lit (runS_sound (stepP_ok hC2 hA fun x a w hk=>hk) (fun a w hk=>hk) l hs h)
def yen {X : Type} (lend : List Nat) (dec : List SV → List (Nat × Ob) → X) (A : X → List SV) (B : X → List (Nat × Ob)) (pre : X → Prop) (pan : X → Option Value) (res : X → SV) (robs kept : X → List (Nat × Ob)) : Ctx :=
 {ctr := { lend := lend,wri := fun _ args obs=>(args = A (dec args obs) ∧ obs = B (dec args obs) ∧ pre (dec args obs),res (dec args obs),robs (dec args obs),kept (dec args obs)) },pan := fun args obs=>pan (dec args obs) }
structure Cy (P : Program) (f : FuncId) (c : Ctx) : Prop where
 call : Callable P f
 holds : ∀ d args obs,(c.ctr.wri d args obs).1 → HoldsE (EX (c.pan args obs)) P f args obs (c.ctr.wri d args obs).2.1 (c.ctr.wri d args obs).2.2.1 (c.ctr.wri d args obs).2.2.2
theorem Cy.yen {P : Program} {f : FuncId} {X : Type} {lend : List Nat} {dec : List SV → List (Nat × Ob) → X} {A : X → List SV} {B : X → List (Nat × Ob)} {pre : X → Prop} {pan : X → Option Value} {res : X → SV} {robs kept : X → List (Nat × Ob)} {fn : Func} {code : Code}
  (hf : P.funcs[f]? = some fn) (hn : (fn.name == "runtime.NumGoroutine") = false) (hb : fn.body = some code) (h : ∀ x, pre x → HoldsE (EX (pan x)) P f (A x) (B x) (res x) (robs x) (kept x)) : Cy P f (Go.Vc.yen lend dec A B pre pan res robs kept) :=
 ⟨⟨fn,hf,hn,by rw [hb]; rfl⟩,fun d args obs ha=>by
  have := h (dec args obs) ha.2.2
  rw [← ha.1,← ha.2.1] at this
  exact this⟩
theorem POk.nil (P : Program) : POk P [] := ⟨fun f c h=>(by cases h),fun f c h=>(by cases h)⟩
theorem POk.cons {P : Program} {f : FuncId} {ctr : Ctx} {C : List (FuncId × Ctx)} (h : Cy P f ctr) (hC : POk P C) : POk P ((f,ctr) :: C) where
 call := fun g c hg=>by
  simp only [lk] at hg
  by_cases he : g = f
  ·subst he; exact h.call
  ·rw [if_neg he] at hg; exact hC.call g c hg
 holds := fun g c hg=>by
  simp only [lk] at hg
  by_cases he : g = f
  ·subst he; rw [if_pos rfl] at hg; cases hg; exact h.holds
  ·rw [if_neg he] at hg; exact hC.holds g c hg
def retY (tys : List (Nat × TyD)) (rs : List ResultVar) (pn : Option Value) (res : SV) (obs : List (Nat × Ob)) : Exit → St → Prop :=
 match pn with
 |none=>fun
  | .normal,st=>outK tys rs res [] st ∧ ∀ p ∈ obs,lk p.1 st.hp = some p.2
  | .ret,st=>outK tys rs res [] st ∧ ∀ p ∈ obs,lk p.1 st.hp = some p.2
  | _,_=>False
 |some x=>fun
  | .panic ch,st=>ch = chainOf x ∧ ∀ p ∈ obs,lk p.1 st.hp = some p.2
  | _,_=>False
theorem HoldsY.go {f : FuncId} {fn : Func} {code : Code} (hf : c.P.funcs[f]? = some fn) (hb : fn.body = some code) {rs : List ResultVar} (hrs : fn.results = rs.toArray) (hn : fn.ntmps = N) (hfew : N ≤ 900000) {args : List SV} (ha : args.length ≤ N)
  {obs : List (Nat × Ob)} {pn : Option Value} {res : SV} {robs kept : List (Nat × Ob)} (hres : res.owns2 = []) (hpn : pn.isSome = true → res = .junk)
  (h : ∀ (X0 : Nat → Prop) (M : Nat → BV → Prop) (w0 : World),WP c N X0 M w0 code ⟨argsL 0 args,obs⟩ (retY c.tys rs pn res (robs ++ kept))) : HoldsE (EX pn) c.P f args obs res robs kept := by
  intro w X β vs hG hβ hX hl hargs hobs hlent
  refine calls_of_wp hf hb ?_
  let M : Nat → BV → Prop := fun id v=>(∃ ob,lk id obs = some ob) ∧ v = β id
  have hMB : ∀ b,MB M b ↔ ∃ id ob,lk id obs = some ob ∧ (β id).ft b := fun b=>by
   constructor
   ·rintro ⟨id,v,⟨⟨ob,h1⟩,rfl⟩,h3⟩; exact ⟨id,ob,h1,h3⟩
   ·rintro ⟨id,ob,h1,h3⟩; exact ⟨id,β id,⟨⟨ob,h1⟩,rfl⟩,h3⟩
  have hA : Ap c.P X M w := ⟨fun b hb=>⟨hX b hb,fun hm=>by
   obtain ⟨id,ob,h1,h2⟩ := (hMB b).1 hm
   exact (hlent id ob b h1 h2).1 hb⟩,hG,fun b hm=>by
   obtain ⟨id,ob,h1,h2⟩ := (hMB b).1 hm
   exact (hlent id ob b h1 h2).2⟩
  have hsim : Sim N X M w ⟨argsL 0 args,obs⟩ β { tmps := vs.toArray ++ Array.replicate (fn.ntmps - vs.toArray.size) undef,defers := [] } w := {
   size:=by simp [hn]; omega
   defers := .nil fun v h=>by rw [h.2]; exact hβ 0
   beta := hβ
   slots := fun t x hx=>by
    obtain ⟨_,h1⟩ := argsL_lk args 0 t x hx
    simp only [Nat.sub_zero] at h1
    have ht : t < vs.length:=by rw [hl]; exact (List.getElem?_eq_some_iff.1 h1).1
    have hv : vs[t]? = some (vs[t]'ht) := List.getElem?_eq_getElem ht
    have : (vs.toArray ++ Array.replicate (fn.ntmps - vs.toArray.size) undef).getD t undef = vs[t]'ht := by
     rw [Array.getD_eq_getD_getElem?,Array.getElem?_append_left (by simpa using ht)]
     simp [ht]
    rw [this]
    exact hargs t x _ h1 hv
   objs := hobs.1
   inj := hobs.2
   x0 := hX
   mine := fun id ob b hi hb=>.inl ((hMB b).2 ⟨id,ob,hi,hb⟩)
   pin := fun id v hm _=>congrArg BV.val hm.2.symm
   few := hfew
   os := rfl
   tape := rfl
   output := rfl
   grew := Nat.le_refl _
   kept := fun _ _ _=>rfl }
  refine Code.wp_mono (fun e a w' hq=>?_) (h X M w hA _ _ _ hsim)
  obtain ⟨st',β',ho,hs⟩ := hq
  have fin : ∀ {en : Ending} {v : Value},EX pn en v → (∀ p ∈ robs ++ kept,lk p.1 st'.hp = some p.2) → R w' (XX X β' st'.hp) β' res v → ∃ v' β'',EX pn en v' ∧ w'.os = w.os ∧ w'.tape = w.tape ∧ w'.output = w.output ∧ w.heap.size ≤ w'.heap.size ∧
   (∀ b,b < w.heap.size → (¬ ∃ id ob,lk id obs = some ob ∧ (β id).ft b) → w'.heap[b]? = w.heap[b]?) ∧ (∀ i,(β'' i).val.oneCell' = true) ∧ (∀ i ob,1000000 ≤ i → lk i obs = some ob → (β'' i).val = (β i).val) ∧
   R w' (XX X β'' (robs ++ kept)) β'' res v' ∧ Obs w' X β'' (robs ++ kept) ∧
   ∀ id ob b,lk id (robs ++ kept) = some ob → (β'' id).ft b → w.heap.size ≤ b ∨ ∃ k o,lk k obs = some o ∧ (β k).ft b := fun {en v} hE hk hR=>by
   have hkl : ∀ {id ob},lk id (robs ++ kept) = some ob → lk id st'.hp = some ob := fun {id ob} hi=>hk (id,ob) (lk_mem hi)
   have hXs : ∀ b,XX X β' (robs ++ kept) b → XX X β' st'.hp b := fun b hb=>by
    rcases hb with hb|⟨id,ob,hi,hb⟩
    ·exact .inl hb
    ·exact .inr ⟨id,ob,hkl hi,hb⟩
   have hS : Same (XX X β' st'.hp) w' w' := ⟨Nat.le_refl _,fun _ _ _=>rfl⟩
   refine ⟨v,β',hE,hs.os,hs.tape,hs.output,hs.grew,fun b hb hn=>hs.kept b hb (fun hm=>hn ((hMB b).1 hm)),hs.beta,fun i ob h1 hi=>hs.pin i (β i) ⟨⟨ob,hi⟩,rfl⟩ h1,hR.mono hS fun b _ hb=>hXs b hb,⟨fun id ob hi=>?_,fun i j oi oj b hi hj hbi hbj=>?_⟩,fun id ob b hi hb=>?_⟩
   ·exact (hs.objs id ob (hkl hi)).mono hS (fun b _ hb=>hXs b hb) (fun _ _=>rfl)
   ·exact hs.inj i j oi oj b (hkl hi) (hkl hj) hbi hbj
   ·exact (hs.mine id ob b (hkl hi) hb).symm.imp _root_.id fun hm=>(hMB b).1 hm
  cases pn with
  |none =>
   have ret : outK c.tys rs res [] st' ∧ (∀ p ∈ robs ++ kept,lk p.1 st'.hp = some p.2) → a.defers = [] ∧ ∃ v,(Go.results fn a.tmps).run c.P w' = .ok v w' ∧ _ := fun ⟨h1,h2⟩=>by
    obtain ⟨v,β2,hr,hR,_⟩ := outK_ok (c := c) hs (by rw [hrs]) h1
    exact ⟨hs.defers.2 (fun v h=>by rw [h.2]; exact hβ 0),v,hr,fin (en := .returned v) rfl h2 (hR.beta h1.2.1 fun id hid=>by rw [hres] at hid; cases hid)⟩
   cases e with
   |normal=>exact ret ho
   |ret=>exact ret ho
   | _=>exact ho.elim
  |some x =>
   cases e with
   |panic ch =>
    obtain ⟨rfl,hk⟩ := ho
    obtain rfl := hpn rfl
    exact ⟨hs.defers.2 (fun v h=>by rw [h.2]; exact hβ 0),fin (en := .panicked (chainOf x)) (v := undef) rfl hk (.junk _)⟩
   | _=>exact ho.elim
end
end Go.Vc

namespace Go.Vc
variable {c : Cx} {N : Nat} {X0 : Nat → Prop} {M : Nat → BV → Prop} {w0 : World} {st : St} {K : Exit → St → Prop}
end Go.Vc

namespace Go.Vc
def St.fzS : St → List Nat → St
 |st,[]=>st
 |st,s :: l=>((st.fzL (st.ev (.tmp s)).strip.ownId)).fzS l
theorem Sim.fzS {P : Program} {X0 : Nat → Prop} {M : Nat → BV → Prop} {w0 : World} {N : Nat} {β : Nat → BV} {a : Act} {w : World} (hA : Ap P X0 M w0) : ∀ (l : List Nat) {st : St},Sim N X0 M w0 st β a w → Sim N X0 M w0 (st.fzS l) β a w
 | [],_,h=>h
 | _ :: l,_,h=>Sim.fzS hA l (h.fzL hA _)
theorem zZ {c : Cx} {N : Nat} {X0 : Nat → Prop} {M : Nat → BV → Prop} {w0 : World} {K : Exit → St → Prop} {id : Nat} {l : List Oper} {st : St} (zs : List Nat) (m : Nat) (fl : List Fp) (ds mks gs : List Nat) (hB : flowB l.toArray m fl = true)
  (hD : ((List.range m).all fun k=>match dstAt l.toArray k with|some d=>ds.contains d|none=>false) = true)
  (hM : ((List.range m).all fun k=>((fpAt fl k).mks.all fun d=>mks.contains d) && ((fpAt fl k).gn.all fun d=>gs.contains d)) = true) (hm : c.P.follows .mixedOrders = true)
  (h : St.runG c.tys c.C N l.toArray fl ((st.fzS zs).clean ds mks) (l.take m) 0 [] fun acc=>St.runR c.tys c.C N l.toArray (l.drop m) (((st.fzS zs).clean ds mks).final acc gs) (K .normal)) : WP c N X0 M w0 (.region id l.toArray true) st K := by
 intro hA β a w hs
 exact zF m fl ds mks gs hB hD hM hm h hA β a w (hs.fzS hA zs)
end Go.Vc

namespace Go.Vc
section
variable {P : Program} {Q : Exit → Act → World → Prop} {s q : Nat} {ops : Array Oper}
def behind (o : Oper) (q : Nat) : Oper := { o with after := o.after.push ⟨q,.data⟩ }
def addE (s q : Nat) (ops : Array Oper) : Array Oper := ops.modify s fun o=>behind o q
theorem addE_get (i : Nat) : (addE s q ops)[i]? = (ops[i]?).map fun o=>if i = s then behind o q else o := by
 unfold addE
 rw [Array.getElem?_modify]
 by_cases h : s = i
 ·rw [if_pos h]; subst h; simp
 ·rw [if_neg h]
  have : ¬ i = s := fun e=>h e.symm
  simp [this]
theorem yielded_addE (tmps : Array Value) : yielded (addE s q ops) tmps = yielded ops tmps := by
 funext j
 unfold yielded
 rw [addE_get]
 cases ops[j]? with
 |none=>rfl
 |some o =>
  simp only [Option.map_some,Option.bind_some]
  by_cases hj : j = s
  ·rw [if_pos hj]; rfl
  ·rw [if_neg hj]
theorem wpOp_addE {i : Nat} {K : Act → World → Prop} {a : Act} {w : World} (h : wpOp P (addE s q ops) Q i K a w) : wpOp P ops Q i K a w := by
 unfold wpOp at h ⊢
 rw [addE_get,yielded_addE] at h
 cases ho : ops[i]? with
 |none=>rw [ho] at h; exact h
 |some o =>
  rw [ho] at h
  simp only [Option.map_some] at h ⊢
  by_cases hi : i = s
  ·rw [if_pos hi] at h; exact h
  ·rw [if_neg hi] at h; exact h
theorem ready_addE {i : Nat} {listed : Array Bool} : i ∈ Region.ready .any (addE s q ops) listed ↔ i ∈ Region.ready .any ops listed ∧ (i = s → listed.getD q false = true) := by
 rw [mem_ready',mem_ready',addE_get,show (addE s q ops).size = ops.size by unfold addE; rw [Array.size_modify]]
 constructor
 ·rintro ⟨h1,h2,o',ho',h3⟩
  cases ho : ops[i]? with
  |none=>rw [ho] at ho'; cases ho'
  |some o =>
   rw [ho] at ho'
   simp only [Option.map_some,Option.some.injEq] at ho'
   by_cases hi : i = s
   ·rw [if_pos hi] at ho'
    subst ho'
    refine ⟨⟨h1,h2,o,rfl,fun e he hb=>h3 e (by unfold behind; simp [he]) hb⟩,fun _=>h3 ⟨q,.data⟩ (by unfold behind; simp) rfl⟩
   ·rw [if_neg hi] at ho'
    subst ho'
    exact ⟨⟨h1,h2,o,rfl,h3⟩,fun e=>absurd e hi⟩
 ·rintro ⟨⟨h1,h2,o,ho,h3⟩,h4⟩
  rw [ho]
  simp only [Option.map_some,Option.some.injEq]
  refine ⟨h1,h2,_,rfl,fun e he hb=>?_⟩
  by_cases hi : i = s
  ·rw [if_pos hi] at he
   unfold behind at he
   simp only [Array.mem_push] at he
   rcases he with he|rfl
   ·exact h3 e he hb
   ·exact h4 hi
  ·rw [if_neg hi] at he
   exact h3 e he hb
structure EdgeOk (ops : Array Oper) (s q : Nat) (oq : Oper) : Prop where
 ne : s ≠ q
 at_q : ops[q]? = some oq
 sel : ∀ (j : Nat) (o : Oper) cs b,ops[j]? = some o → o.op ≠ .select cs b
 deps : ∀ os,ops[s]? = some os → ∀ e ∈ oq.after,Region.binds .any e = true → ∃ e' ∈ os.after,Region.binds .any e' = true ∧ e'.on = e.on
 apart : ∀ j oj,ops[j]? = some oj → j ≠ q → (∀ e ∈ oq.after,Region.binds .any e = true → e.on ≠ j) → (∀ e ∈ oj.after,Region.binds .any e = true → e.on ≠ q) → oq.apart ops oj = true
 guard : oq.guard = none
 pure : ∀ (a : Act) (w : World) (K : Act → World → Prop) (Q : Exit → Act → World → Prop),(∀ e a w,e ≠ .normal → ¬ Q e a w) → oq.wp P a w K Q → ∃ v,(∀ w,(execOp a.eval oq).run P w = .ok (.value v) w) ∧ K (a.put oq.dst v) w
theorem wpAny_edge {oq : Oper} (hE : EdgeOk (P := P) ops s q oq) (hQ : ∀ e a w,e ≠ .normal → ¬ Q e a w) : ∀ (fuel : Nat) (listed : Array Bool) (a : Act) (w : World),listed.size = ops.size → wpAny P .any (addE s q ops) Q fuel listed a w → wpAny P .any ops Q fuel listed a w := by
 have hq2 : ∀ {listed : Array Bool},q ∈ Region.ready .any ops listed → q ∈ Region.ready .any (addE s q ops) listed := fun {listed} h=>ready_addE.2 ⟨h,fun e=>absurd e.symm hE.ne⟩
 have early : ∀ {listed : Array Bool} {i : Nat},listed.size = ops.size → i ∈ Region.ready .any ops listed → i ∉ Region.ready .any (addE s q ops) listed → q ∈ Region.ready .any ops listed := fun {listed i} hsz h1 h2=>by
  have his : i = s := Classical.byContradiction fun hn=>h2 (ready_addE.2 ⟨h1,fun e=>absurd e hn⟩)
  subst his
  have hql : listed.getD q false = false := by
   cases hh : listed.getD q false with
   |true=>exact absurd (ready_addE.2 ⟨h1,fun _=>hh⟩) h2
   |false=>rfl
  obtain ⟨g1,g2,os,ho,g3⟩ := mem_ready'.1 h1
  have hqs : q < ops.size := (Array.getElem?_eq_some_iff.1 hE.at_q).1
  have hqt : listed.getD q true = false := by
   rw [Array.getD_eq_getD_getElem?,Array.getElem?_eq_getElem (by omega)] at hql ⊢
   exact hql
  refine mem_ready'.2 ⟨hqs,hqt,oq,hE.at_q,fun e he hb=>?_⟩
  obtain ⟨e',he',hb',hon⟩ := hE.deps os ho e he hb
  rw [← hon]
  exact g3 e' he' hb'
 intro fuel
 induction fuel with
 |zero =>
  intro listed a w hsz h
  refine ⟨?_,h.2⟩
  rcases hr : Region.ready .any ops listed with _|⟨i,l⟩
  ·rfl
  ·exfalso
   have hi : i ∈ Region.ready .any ops listed:=by rw [hr]; simp
   have hn : ∀ j,j ∉ Region.ready .any (addE s q ops) listed := fun j hj=>by rw [h.1] at hj; cases hj
   exact hn q (hq2 (early hsz hi (hn i)))
 |succ fuel ih =>
  intro listed a w hsz H
  by_cases hq : q ∈ Region.ready .any ops listed
  ·have h1 := wpOp_addE (H.2 q (hq2 hq))
   unfold wpOp at h1
   rw [hE.at_q] at h1
   have hw : Region.wanted oq (yielded ops a.tmps) = true:=by simp [Region.wanted,hE.guard]
   simp only [hw,if_true] at h1
   rcases h1 with h1|⟨_,x,y,h1⟩
   ·obtain ⟨v,hrun,hK⟩ := hE.pure a w _ _ hQ h1
    exact wpAny_first hE.at_q hE.sel (fun c a w h=>absurd h (hQ _ _ _ (by simp))) fuel listed a w (fun j oj hj hne hl hw'=>hE.apart j oj hj hne (fun e he hb hj'=>by
     obtain ⟨_,_,o2,ho2,h3⟩ := mem_ready'.1 hq
     rw [hE.at_q] at ho2
     obtain rfl := Option.some.inj ho2
     have h4 := h3 e he hb
     rw [hj'] at h4
     have hjs : j < ops.size := (Array.getElem?_eq_some_iff.1 hj).1
     rw [Array.getD_eq_getD_getElem?,Array.getElem?_eq_getElem (by omega)] at hl h4
     simp only [Option.getD_some] at hl h4
     rw [hl] at h4; cases h4) hw') hq (.inl ⟨hw,hrun⟩) (ih _ _ _ (by simpa using hsz) hK)
   ·exact absurd h1 (hQ _ _ _ (by simp))
  ·refine ⟨fun he=>H.1 ?_,fun i hi=>?_⟩
   ·rcases hr : Region.ready .any (addE s q ops) listed with _|⟨i,l⟩
    ·rfl
    ·have hi : i ∈ Region.ready .any (addE s q ops) listed:=by rw [hr]; simp
     have := (ready_addE.1 hi).1
     rw [he] at this; cases this
   ·have hi' : i ∈ Region.ready .any (addE s q ops) listed := Classical.byContradiction fun hn=>hq (early hsz hi hn)
    exact wpOp_mono (fun a' w' h=>ih _ _ _ (by simpa using hsz) h) (wpOp_addE (H.2 i hi'))
theorem pure_extract {oq : Oper} {x : Operand} {i : Nat} (ho : oq.op = .extract x i) (a : Act) (w : World) (K : Act → World → Prop) (Q : Exit → Act → World → Prop) (hQ : ∀ e a w,e ≠ .normal → ¬ Q e a w) (h : oq.wp P a w K Q) :
  ∃ v,(∀ w,(execOp a.eval oq).run P w = .ok (.value v) w) ∧ K (a.put oq.dst v) w := by
 unfold Oper.wp at h
 cases hx : a.eval x with
 |tuple us =>
  cases hu : us[i]? with
  |some v =>
   refine ⟨v,fun w=>by simp [execOp,ho,hx,Instr.extract,hu],?_⟩
   simpa [execOp,ho,hx,Instr.extract,hu,Oper.upon] using h
  |none=>simp [execOp,ho,hx,Instr.extract,hu,Oper.upon,stuck] at h
 | _=>simp [execOp,ho,hx,Instr.extract,Oper.upon,stuck] at h
def isExtract : Op → Bool
 | .extract _ _=>true
 | _=>false
def isSelect : Op → Bool
 | .select _ _=>true
 | _=>false
def edgeB (ops : Array Oper) (s q : Nat) : Bool := s != q && match ops[q]?,ops[s]? with
 |some oq,some os=>isExtract oq.op && oq.guard.isNone &&
  (oq.after.toList.all fun e=>!Region.binds .any e || os.after.toList.any fun e'=>Region.binds .any e' && e'.on == e.on) &&
  (List.range ops.size).all fun j=>match ops[j]? with
   |some oj=>!isSelect oj.op && (j == q || (oq.after.toList.any fun e=>Region.binds .any e && e.on == j) || (oj.after.toList.any fun e=>Region.binds .any e && e.on == q) || oq.apart ops oj)
   |none=>true
 | _,_=>false
theorem edgeB_ok (h : edgeB ops s q = true) : ∃ oq,EdgeOk (P := P) ops s q oq := by
 unfold edgeB at h
 rw [Bool.and_eq_true] at h
 obtain ⟨h0,h⟩ := h
 split at h
 case h_2=>cases h
 case h_1 _ _ oq os hoq hos =>
  simp only [Bool.and_eq_true] at h
  obtain ⟨⟨⟨h1,h2⟩,h3⟩,h4⟩ := h
  have key : ∀ j oj,ops[j]? = some oj → isSelect oj.op = false ∧ (j = q ∨ (∃ e ∈ oq.after,Region.binds .any e = true ∧ e.on = j) ∨ (∃ e ∈ oj.after,Region.binds .any e = true ∧ e.on = q) ∨ oq.apart ops oj = true) := fun j oj hj=>by
   have := List.all_eq_true.1 h4 j (List.mem_range.2 (Array.getElem?_eq_some_iff.1 hj).1)
   rw [hj] at this
   simp only [Bool.and_eq_true,Bool.not_eq_true',Bool.or_eq_true,beq_iff_eq,List.any_eq_true,Array.mem_toList_iff] at this
   refine ⟨this.1,?_⟩
   rcases this.2 with ((h|h)|h)|h
   ·exact .inl h
   ·exact .inr (.inl h)
   ·exact .inr (.inr (.inl h))
   ·exact .inr (.inr (.inr h))
  refine ⟨oq,⟨by simpa using h0,hoq,fun j o cs b hj hsel=>?_,fun os' hos' e he hb=>?_,fun j oj hj hne hd hw=>?_,by simpa using h2,?_⟩⟩
  ·have := (key j o hj).1
   rw [hsel] at this; cases this
  ·obtain rfl := Option.some.inj (hos.symm.trans hos')
   have := List.all_eq_true.1 h3 e (by simpa using he)
   rw [hb] at this
   simp only [Bool.not_true,Bool.false_or,List.any_eq_true,Bool.and_eq_true,beq_iff_eq] at this
   obtain ⟨e',he',h5,h6⟩ := this
   exact ⟨e',by simpa using he',h5,h6⟩
  ·rcases (key j oj hj).2 with h|⟨e,he,hb,ho⟩|⟨e,he,hb,ho⟩|h
   ·exact absurd h hne
   ·exact absurd ho (hd e he hb)
   ·exact absurd ho (hw e he hb)
   ·exact h
  ·intro a w K Q hQ hh
   cases hop : oq.op with
   |extract x i=>exact pure_extract hop a w K Q hQ hh
   | _=>rw [hop] at h1; cases h1
theorem upon_Q {o : Oper} {a : Act} {K : Act → World → Prop} {Q' Q : Exit → Act → World → Prop} (h : ∀ e a w,Q' e a w → Q e a w) {r : Result Next} (hh : o.upon P a K Q' r) : o.upon P a K Q r := by
 cases r with
 |ok n w' =>
  cases n <;> simp only [Oper.upon] at hh ⊢ <;> first
   |exact hh
   |exact Calls.mono hh fun e w'' he=>by
     cases e with
     |returned v=>exact he
     |panicked c=>exact h _ _ _ he
     |outgrown=>obtain ⟨x,y,hxy⟩ := he; exact ⟨x,y,h _ _ _ hxy⟩
 |halt x w'=>cases x <;> simp only [Oper.upon] at hh ⊢ <;> first|exact h _ _ _ hh|exact hh.elim
theorem wpOp_Q {i : Nat} {a : Act} {w : World} {K K' : Act → World → Prop} {Q' Q : Exit → Act → World → Prop} (h : ∀ e a w,Q' e a w → Q e a w) (hK : ∀ a w,K' a w → K a w) (hh : wpOp P ops Q' i K' a w) : wpOp P ops Q i K a w := by
 have hh := wpOp_mono hK hh
 unfold wpOp at hh ⊢
 split
 ·rename_i ho; rw [ho] at hh; exact hh
 ·rename_i o ho
  rw [ho] at hh
  simp only at hh
  split
  ·rename_i hw
   rw [if_pos hw] at hh
   rcases hh with hh|⟨h1,x,y,h2⟩
   ·exact .inl (upon_Q h hh)
   ·exact .inr ⟨h1,x,y,h _ _ _ h2⟩
  ·rename_i hw
   rw [if_neg hw] at hh
   exact hh
theorem wpAny_Q {Q' Q : Exit → Act → World → Prop} (h : ∀ e a w,Q' e a w → Q e a w) : ∀ (fuel : Nat) (listed : Array Bool) (a : Act) (w : World),wpAny P .any ops Q' fuel listed a w → wpAny P .any ops Q fuel listed a w
 | 0,_,_,_,hh=>⟨hh.1,h _ _ _ hh.2⟩
 |fuel + 1,_,_,_,hh=>⟨fun he=>h _ _ _ (hh.1 he),fun i hi=>wpOp_Q h (fun a' w' h'=>wpAny_Q h fuel _ a' w' h') (hh.2 i hi)⟩
end
def addL : Nat → Nat → List Oper → List Oper
 | _,_,[]=>[]
 | 0,q,o :: l=>behind o q :: l
 |s + 1,q,o :: l=>o :: addL s q l
theorem addL_get : ∀ (s q : Nat) (l : List Oper) (i : Nat),(addL s q l)[i]? = (l[i]?).map fun o=>if i = s then behind o q else o
 | _,_,[],i=>by simp [addL]
 | 0,q,o :: l,0=>by simp [addL]
 | 0,q,o :: l,i + 1=>by simp [addL]
 |s + 1,q,o :: l,0=>by simp [addL]
 |s + 1,q,o :: l,i + 1=>by simp [addL,addL_get s q l i]
theorem addL_arr (s q : Nat) (l : List Oper) : (addL s q l).toArray = addE s q l.toArray := by
 apply Array.ext_getElem?
 intro i
 rw [addE_get]
 simp [addL_get]
section
variable {c : Cx} {N : Nat} {X0 : Nat → Prop} {M : Nat → BV → Prop} {w0 : World} {K : Exit → St → Prop}
def onlyN (K : Exit → St → Prop) : Exit → St → Prop
 | .normal,st=>K .normal st
 | _,_=>False
theorem WP.flowE {id : Nat} {l : List Oper} {st : St} (s q : Nat) (zs : List Nat) (m : Nat) (fl : List Fp) (ds mks gs : List Nat) (hE : edgeB l.toArray s q = true) (hB : flowB (addL s q l).toArray m fl = true)
  (hD : ((List.range m).all fun k=>match dstAt (addL s q l).toArray k with|some d=>ds.contains d|none=>false) = true)
  (hM : ((List.range m).all fun k=>((fpAt fl k).mks.all fun d=>mks.contains d) && ((fpAt fl k).gn.all fun d=>gs.contains d)) = true) (hm : c.P.follows .mixedOrders = true)
  (h : St.runG c.tys c.C N (addL s q l).toArray fl ((st.fzS zs).clean ds mks) ((addL s q l).take m) 0 [] fun acc=>St.runR c.tys c.C N (addL s q l).toArray ((addL s q l).drop m) (((st.fzS zs).clean ds mks).final acc gs) (K .normal)) : WP c N X0 M w0 (.region id l.toArray true) st K := by
 intro hA β a w hs0
 have hs := Sim.fzS hA zs hs0
 generalize st.fzS zs = st at hs h
 have hD0 := flowB_ok hB
 obtain ⟨F,h1,h2⟩ := runF_acc _ _ _ (runF_of_runG _ _ _ h)
 have harr := addL_arr s q l
 have hlen : ((addL s q l).take m).length = m := by
  have := hD0.le
  simp at this ⊢
  omega
 rw [hlen] at h1
 simp only [List.nil_append,Nat.zero_add] at h1 h2
 have hcl0 : ∀ t x,lk t (st.clean ds mks).fr = some x → lk t st.fr = some x ∧ t ∉ ds ∧ ∀ d ∈ mks,x.kill d = x := fun t x hx=>by
  obtain ⟨e1,e2⟩ := hide_fr hx
  obtain ⟨e3,e4⟩ := offK_lk e1
  exact ⟨e3,e4,e2⟩
 have hMk : ∀ k,k < m → (∀ d ∈ (fpAt fl k).mks,d ∈ mks) ∧ ∀ d ∈ (fpAt fl k).gn,d ∈ gs := fun k hk=>by
  have := List.all_eq_true.1 hM k (List.mem_range.2 hk)
  simp only [Bool.and_eq_true,List.all_eq_true] at this
  exact ⟨fun d hd=>List.contains_iff_mem.1 (this.1 d hd),fun d hd=>List.contains_iff_mem.1 (this.2 d hd)⟩
 obtain ⟨oq,hEo⟩ := edgeB_ok (P := c.P) hE
 have hsz : (addL s q l).toArray.size = l.toArray.size:=by rw [harr]; unfold addE; rw [Array.size_modify]
 refine wp_region_any hm (wpAny_Q (Q' := fun e a' w'=>Ok N X0 M w0 (onlyN K e) a' w') (fun e a' w' hk=>?_) _ _ _ _ (wpAny_edge hEo (fun e a' w' hne hk=>?_) _ _ _ _ (by simp) ?_))
 ·cases e with
  |normal=>exact hk
  | _=>obtain ⟨_,_,hf,_⟩ := hk; exact hf.elim
 ·cases e with
  |normal=>exact hne rfl
  | _=>obtain ⟨_,_,hf,_⟩ := hk; exact hf.elim
 rw [← harr,← hsz]
 refine (flow_head (c := c) (K := onlyN K) hA hD0 (base := st.clean ds mks) (F := F) (gs := gs) (fun k o hk ho=>?_) (fun t x hx=>⟨fun k hk e=>?_,fun k hk d hd=>(hcl0 t x hx).2.2 d ((hMk k hk).1 d hd)⟩) (fun t ob hx k hk d hd=>(hide_hp hx).2 d ((hMk k hk).1 d hd)) (fun k hk=>(hMk k hk).2) ?_
  (addL s q l).toArray.size (Array.replicate (addL s q l).toArray.size false) (st.clean ds mks) β a _ (by simp) (fun j _ hj=>?_) ?_ (fun b hb hl=>?_) ?_ (fun t x hx _=>hx) (fun k hk hl=>?_) (fun t ob hx _=>hx) (fun k hk hl=>?_))
 ·have : ((addL s q l).take m)[k]? = some o:=by rw [List.getElem?_take_of_lt hk]; simpa using ho
  exact h2 k o this
 ·have := List.all_eq_true.1 hD k (List.mem_range.2 hk)
  rw [e] at this
  exact (hcl0 t x hx).2.1 (List.contains_iff_mem.1 this)
 ·exact h1
 ·rw [Array.getD_eq_getD_getElem?,Array.getElem?_replicate]; split <;> rfl
 ·have : (List.range (addL s q l).toArray.size).countP (fun j=>!(Array.replicate (addL s q l).toArray.size false).getD j false) = (List.range (addL s q l).toArray.size).countP (fun _=>true) := by
   apply List.countP_congr
   intro j hj
   rw [Array.getD_eq_getD_getElem?,Array.getElem?_replicate]; split <;> simp
  rw [this]; simp
 ·rw [Array.getD_eq_getD_getElem?,Array.getElem?_replicate] at hl
  split at hl <;> cases hl
 ·exact (hs.grow ((Go.RowKit.Below.refl _ _).drew) (fun b _ hb=>.inl hb) hs.x0).less (fun t x hx=>(hcl0 t x hx).1) (fun t ob hx=>(hide_hp hx).1)
 ·rw [Array.getD_eq_getD_getElem?,Array.getElem?_replicate] at hl
  split at hl <;> cases hl
 ·rw [Array.getD_eq_getD_getElem?,Array.getElem?_replicate] at hl
  split at hl <;> cases hl
end
end Go.Vc

namespace Go.Vc
inductive Gh where
 |dp (id : Nat)
 |opn (id i : Nat)
 |bor (id k j : Nat)
 |borV (id k j : Nat)
 |abs (id k : Nat)
 |fld (id : Nat)
def SV.flat (c : SV) : Bool := match c with
 | .v _=>true
 | .sl _ _=>true
 | _=>false
def St.gh (st : St) (K : St → Prop) : Gh → Prop
 | .dp id=>match lk id st.hp with
  |some (.sl e s rows)=>allVs rows ∧ K (st.wrt id (.dp e s rows))
  |some (.dp e s rows)=>K st
  | _=>False
 | .opn id i=>match lk id st.hp with
  |some (.dp e s rows)=>i < rows.length ∧ K (st.wrt id (.dq e s rows i (rowAt rows i)))
  | _=>False
 | .bor id k j=>match lk id st.hp with
  |some (.dq e s rows i row0)=>match row0[k]? with
   |some (.sl s' rows')=>j < 1000000 ∧ j ≠ id ∧ ∀ e',K { fr := (st.kill j).fr,hp := (j,.dp e' s' rows') :: (id,.dq e s rows i ((row0.map (SV.upq (SV.kill j))).set k (.own j))) :: er id (st.kill j).hp }
   | _=>False
  | _=>False
 | .borV id k j=>match lk id st.hp with
  |some (.dq e s rows i row0)=>match row0[k]? with
   |some (.sl s' rows')=>j < 1000000 ∧ j ≠ id ∧ allVs rows' ∧ ∀ e',K { fr := (st.kill j).fr,hp := (j,.sl e' s' rows') :: (id,.dq e s rows i ((row0.map (SV.upq (SV.kill j))).set k (.own j))) :: er id (st.kill j).hp }
   | _=>False
  | _=>False
 | .abs id k=>match lk id st.hp with
  |some (.dq e s rows i row0)=>match row0[k]? with
   |some (.own j)=>j ≠ id ∧ (match lk j st.hp with
    |some (.sl e' s' rows')=>allVs rows' ∧ K { fr := (st.kill j).fr,hp := (id,.dq e s rows i ((row0.map (SV.upq (SV.kill j))).set k (.sl s' rows'))) :: er id (st.kill j).hp }
    |some (.dp e' s' rows')=>K { fr := (st.kill j).fr,hp := (id,.dq e s rows i ((row0.map (SV.upq (SV.kill j))).set k (.sl s' rows'))) :: er id (st.kill j).hp }
    | _=>False)
   | _=>False
  | _=>False
 | .fld id=>match lk id st.hp with
  |some (.dq e s rows i row0)=>(row0.all SV.flat) = true ∧ K (st.wrt id (.dp e s (rows.set i row0)))
  | _=>False
def St.gho (st : St) (K : St → Prop) : List Gh → Prop
 | []=>K st
 |g :: l=>st.gh (fun st'=>st'.gho K l) g
section
variable {N : Nat} {X0 : Nat → Prop} {M : Nat → BV → Prop} {w0 : World} {st : St} {β : Nat → BV} {a : Act} {w : World}
theorem Sim.reob (h : Sim N X0 M w0 st β a w) {j : Nat} {ob ob' : Ob} (hj : lk j st.hp = some ob) (hob : ObR w (XX X0 β st.hp) β (β j) ob → ObR w (XX X0 β st.hp) β (β j) ob') : Sim N X0 M w0 (st.wrt j ob') β a w :=
 h.write hj rfl rfl rfl (Nat.le_refl _) (fun _ _ _=>rfl) (hob (h.objs j ob hj))
theorem XX_ghost {hp' : List (Nat × Ob)} {β' : Nat → BV} (hft : ∀ id ob b,lk id hp' = some ob → (β' id).ft b → ∃ i o,lk i st.hp = some o ∧ (β i).ft b) {b : Nat} (hb : XX X0 β' hp' b) : XX X0 β st.hp b := by
 rcases hb with hb|⟨id,ob,hi,hb⟩
 ·exact .inl hb
 ·exact .inr (hft id ob b hi hb)
theorem Sim.ghost (h : Sim N X0 M w0 st β a w) {st' : St} {β' : Nat → BV} (hone : ∀ i,(β' i).val.oneCell' = true) (hpin : ∀ i,1000000 ≤ i → (β' i).val = (β i).val)
  (hft : ∀ id ob b,lk id st'.hp = some ob → (β' id).ft b → ∃ i o,lk i st.hp = some o ∧ (β i).ft b)
  (hslots : ∀ t x',lk t st'.fr = some x' → ∃ x,lk t st.fr = some x ∧ ∀ v,R w (XX X0 β' st'.hp) β x v → R w (XX X0 β' st'.hp) β' x' v)
  (hobjs : ∀ id ob,lk id st'.hp = some ob → ObR w (XX X0 β' st'.hp) β' (β' id) ob)
  (hinj : ∀ i j oi oj b,lk i st'.hp = some oi → lk j st'.hp = some oj → (β' i).ft b → (β' j).ft b → i = j) : Sim N X0 M w0 st' β' a w := by
 have hS : Same (XX X0 β st.hp) w w := ⟨Nat.le_refl _,fun _ _ _=>rfl⟩
 exact { h with
  beta := hone
  slots := fun t x hx=>by
   obtain ⟨y,h1,h2⟩ := hslots t x hx
   exact h2 _ ((h.slots t y h1).mono hS (fun b _ hb=>XX_ghost hft hb))
  objs := hobjs
  inj := hinj
  mine := fun id ob b hi hb=>by
   obtain ⟨i,o,h1,h2⟩ := hft id ob b hi hb
   exact h.mine i o b h1 h2
  pin := fun id u hm h1=>by rw [hpin id h1]; exact h.pin id u hm h1 }
theorem Dp.v_foot {x : Value} {v : Value} {F : Nat → Prop} (h : Dp w (.v x) v F) : v = x ∧ ∀ b,¬ F b := by
 cases h with
 |v _ F hF=>exact ⟨rfl,hF⟩
theorem Dp.v_of {c : SV} {v : Value} {F : Nat → Prop} (h : Dp w c v F) (hc : c.isSl = false) : c = .v v ∧ ∀ b,¬ F b := by
 cases h with
 |v _ F hF=>exact ⟨rfl,hF⟩
 |nil=>cases hc
 |sl=>cases hc
theorem ObR.sl_dp {X : Nat → Prop} {v : BV} {e s : Nat} {rows : List (List SV)} (h : ObR w X β v (.sl e s rows)) (hv : allVs rows) : ObR w X β v (.dp e s rows) := by
 cases h with
 |nil e s h=>subst h; exact .dp (.nil s _ (fun b hb=>by cases hb)) (fun b hb=>by cases hb)
 |sl b cap cur us hv' hh h1 h2 h3 h4 h5 h6 h7 =>
  subst hv'
  refine .dp (.sl e b cap cur us (fun _ _ _=>False) _ hh h1 h2 h3 h4 (fun i k q1 q2=>?_) (fun i k q1 q2=>?_) (fun i k row c q1 q2=>?_) (fun _ _ _ hf=>hf.elim) (fun _ _ hf=>hf) (fun _ _ _ _ _ hf=>hf.elim) (fun b'=>?_)) (fun b' hb=>?_)
  ·obtain ⟨row,c,r1,r2⟩ := row_cell h4 q1 q2
   exact h5 i k row c r1 r2
  ·obtain ⟨row,c,r1,r2⟩ := row_cell h4 q1 q2
   exact h6 i k row c r1 r2
  ·obtain ⟨x,rfl⟩ := hv row (List.mem_of_getElem? q1) c (List.mem_of_getElem? q2)
   have := h7 i k row _ q1 q2
   generalize us i k = u at this
   cases this
   exact .v x _ (fun _ hf=>hf)
  ·show blk (.slice (some ⟨b,0,none⟩) rows.length cap) = some b' ↔ _
   simp [blk,eq_comm]
  ·have hb' : some b = some b' := hb
   injection hb' with hb'
   subst hb'
   exact ⟨cur,hh⟩
theorem Dp.dp_sl {X : Nat → Prop} {s : Nat} {rows : List (List SV)} {v : Value} {F : Nat → Prop} (h : Dp w (.sl s rows) v F) (hv : allVs rows) : ∃ e,ObR w X β ⟨v,F⟩ (.sl e s rows) := by
 cases h with
 |nil s F hF=>exact ⟨0,.nil 0 s (by
   unfold nilB plain
   congr 1
   funext b
   exact propext ⟨fun h=>absurd h (hF b),fun h=>by cases h⟩)⟩
 |sl e b cap cur us fs F hh h1 h2 h3 h4 h5 h6 h7 h8 h9 h10 hF =>
  have hempty : ∀ i k b',¬ fs i k b' := fun i k b' hb=>by
   obtain ⟨q1,q2⟩ := h8 i k b' hb
   obtain ⟨row,c,r1,r2⟩ := row_cell h4 q1 q2
   obtain ⟨x,rfl⟩ := hv row (List.mem_of_getElem? r1) c (List.mem_of_getElem? r2)
   exact (h7 i k row _ r1 r2).v_foot.2 b' hb
  refine ⟨e,.sl b cap cur us ?_ hh h1 h2 h3 h4 (fun i k row c r1 r2=>h5 i k (row_lt h4 r1 r2).1 (row_lt h4 r1 r2).2) (fun i k row c r1 r2=>h6 i k (row_lt h4 r1 r2).1 (row_lt h4 r1 r2).2) (fun i k row c r1 r2=>?_)⟩
  ·unfold plain
   congr 1
   funext b'
   refine propext ((hF b').trans ⟨fun h=>?_,fun h=>.inl ?_⟩)
   ·rcases h with rfl|⟨i,k,h⟩
    ·rfl
    ·exact absurd h (hempty i k b')
   ·have hb' : some b = some b' := h
    injection hb' with hb'
    exact hb'.symm
  ·obtain ⟨x,rfl⟩ := hv row (List.mem_of_getElem? r1) c (List.mem_of_getElem? r2)
   have := (h7 i k row _ r1 r2).v_foot.1
   rw [this]
   exact .v x
theorem Dp.dp_ob {X : Nat → Prop} {s : Nat} {rows : List (List SV)} {v : Value} {F : Nat → Prop} (h : Dp w (.sl s rows) v F) : ∃ e,ObR w X β ⟨v,F⟩ (.dp e s rows) := by
 have h0 := h
 cases h with
 |nil s F hF=>exact ⟨0,.dp h0 (fun b hb=>by cases hb)⟩
 |sl e b cap cur us fs F hh=>exact ⟨e,.dp h0 (fun b' hb=>by
   have hb' : some b = some b' := hb
   injection hb' with hb'
   subst hb'
   exact ⟨cur,hh⟩)⟩
theorem ObR.dp_dq {X : Nat → Prop} {v : BV} {e s i : Nat} {rows : List (List SV)} (h : ObR w X β v (.dp e s rows)) (hi : i < rows.length) : ObR w X β v (.dq e s rows i (rowAt rows i)) := by
 cases h with
 |dp hd he =>
  obtain ⟨vv,F⟩ := v
  simp only at hd he
  have hrow : rows[i]? = some (rowAt rows i):=by unfold rowAt; rw [List.getElem?_eq_getElem hi]; rfl
  cases hd with
  |nil=>simp at hi
  |sl e' b cap cur us fs F hh h1 h2 h3 h4 h5 h6 h7 h8 h9 h10 hF =>
   obtain ⟨cur',hcur'⟩ := he b rfl
   rw [hh] at hcur'
   cases hcur'
   refine .dq b cap cur us fs rfl hh h1 h2 h3 hi (h4 i _ hrow) h4 h5 h6 (fun i' k row c _ r1 r2=>h7 i' k row c r1 r2) (fun k c hc=>?_) h8 h9 h10 hF
   have hd := h7 i k _ c hrow hc
   cases hsl : c.isSl with
   |true=>exact .inl ⟨hsl,hd⟩
   |false =>
    obtain ⟨e1,e2⟩ := hd.v_of hsl
    refine .inr ⟨hsl,?_,e2⟩
    rw [e1]; exact .p (.v _)
theorem ObR.dq_dp {X : Nat → Prop} {v : BV} {e s i : Nat} {rows : List (List SV)} {row0 : List SV} (h : ObR w X β v (.dq e s rows i row0)) (hall : row0.all SV.flat = true) : ObR w X β v (.dp e s (rows.set i row0)) := by
 cases h with
 |dq b cap cur us fs hv hh h1 h2 h3 h4 h5 h6 h7 h8 h9 h10 h11 h12 h13 hF =>
  have hlen : ∀ (i' : Nat) (row : List SV),(rows.set i row0)[i']? = some row → row.length = s := fun i' row hr=>by
   rw [List.getElem?_set] at hr
   split at hr
   ·simp only [h4,if_true,Option.some.injEq] at hr
    rw [← hr]; exact h5
   ·exact h6 i' row hr
  refine .dp ?_ (fun b' hb=>?_)
  ·rw [hv]
   have := Dp.sl (w := w) (s := s) (rows := rows.set i row0) e b cap cur us fs v.ft hh (by rw [List.length_set]; exact h1) h2 h3 hlen (fun i' k q1 q2=>h7 i' k (by rwa [List.length_set] at q1) q2) (fun i' k q1 q2=>h8 i' k (by rwa [List.length_set] at q1) q2)
    (fun i' k row c r1 r2=>?_) (fun i' k b' hb=>by rw [List.length_set]; exact h11 i' k b' hb) h12 h13 hF
   ·rw [List.length_set] at this; exact this
   ·rw [List.getElem?_set] at r1
    split at r1
    ·rename_i he
     subst he
     simp only [h4,if_true,Option.some.injEq] at r1
     subst r1
     have hfl := List.all_eq_true.1 hall c (List.mem_of_getElem? r2)
     rcases h10 k c r2 with ⟨_,hd⟩|⟨q1,q2,q3⟩
     ·exact hd
     ·cases c with
      |v x=>have := q2.v_inv; rw [this]; exact .v x _ q3
      |sl _ _=>cases q1
      | _=>cases hfl
    ·rename_i hne
     exact h9 i' k row c (fun e=>hne e.symm) r1 r2
  ·rw [hv] at hb
   have hb' : some b = some b' := hb
   injection hb' with hb'
   subst hb'
   exact ⟨cur,hh⟩
theorem Sim.bor (h : Sim N X0 M w0 st β a w) {id k j e s i s' : Nat} {rows rows' : List (List SV)} {row0 : List SV} (hl : lk id st.hp = some (.dq e s rows i row0)) (hk : row0[k]? = some (.sl s' rows')) (hj : j < 1000000) (hne : j ≠ id)
  {ob : Nat → Ob} (hob : ∀ (X : Nat → Prop) (β : Nat → BV) (v : Value) (F : Nat → Prop),Dp w (.sl s' rows') v F → ∃ e',ObR w X β ⟨v,F⟩ (ob e')) (hobe : ∀ e',(∀ X β β' v,ObR w X β v (ob e') → ObR w X β' v (ob e'))) :
  ∃ e' β',Sim N X0 M w0 { fr := (st.kill j).fr,hp := (j,ob e') :: (id,.dq e s rows i ((row0.map (SV.upq (SV.kill j))).set k (.own j))) :: er id (st.kill j).hp } β' a w := by
 have hO := h.objs id _ hl
 generalize hbv : β id = bv at hO
 cases hO with
 |dq b cap cur us fs hv hh h1 h2 h3 h4 h5 h6 h7 h8 h9 h10 h11 h12 h13 hF =>
  have hks : k < s:=by rw [← h5]; exact (List.getElem?_eq_some_iff.1 hk).1
  have hD : Dp w (.sl s' rows') (us i k) (fs i k) := by
   rcases h10 k _ hk with ⟨_,hd⟩|⟨q,_⟩
   ·exact hd
   ·cases q
  obtain ⟨e',he'⟩ := hob (XX X0 β st.hp) β _ _ hD
  let fs' : Nat → Nat → Nat → Prop := fun i' k' b'=>fs i' k' b' ∧ ¬ (i' = i ∧ k' = k)
  let vid : BV := ⟨bv.val,fun b'=>b' = b ∨ ∃ i' k',fs' i' k' b'⟩
  let β' : Nat → BV := fun q=>if q = j then ⟨us i k,fs i k⟩ else if q = id then vid else β q
  have hβj : β' j = ⟨us i k,fs i k⟩ := if_pos rfl
  have hβid : β' id = vid:=by show (if id = j then _ else if id = id then vid else _) = _; rw [if_neg (fun e=>hne e.symm),if_pos rfl]
  have hβo : ∀ q,q ≠ j → q ≠ id → β' q = β q := fun q h1 h2=>by show (if q = j then _ else if q = id then vid else _) = _; rw [if_neg h1,if_neg h2]
  have hβv : ∀ q,q ≠ j → (β' q).val = (β q).val := fun q hq=>by
   by_cases hid : q = id
   ·rw [hid,hβid,hbv]
   ·rw [hβo q hq hid]
  have hlk : ∀ (t : Nat) (o : Ob),lk t ((j,ob e') :: (id,.dq e s rows i ((row0.map (SV.upq (SV.kill j))).set k (.own j))) :: er id (st.kill j).hp) = some o →
    (t = j ∧ o = ob e') ∨ (t = id ∧ o = .dq e s rows i ((row0.map (SV.upq (SV.kill j))).set k (.own j))) ∨ (t ≠ j ∧ t ≠ id ∧ ∃ o0,lk t st.hp = some o0 ∧ o = o0.kill j) := fun t o ht=>by
   simp only [lk] at ht
   by_cases e1 : t = j
   ·rw [if_pos e1] at ht; cases ht; exact .inl ⟨e1,rfl⟩
   ·rw [if_neg e1] at ht
    by_cases e2 : t = id
    ·rw [if_pos e2] at ht; cases ht; exact .inr (.inl ⟨e2,rfl⟩)
    ·rw [if_neg e2,lk_er_ne e2,lk_kill_ne e1] at ht
     cases hq : lk t st.hp with
     |none=>rw [hq] at ht; cases ht
     |some o0=>rw [hq] at ht; exact .inr (.inr ⟨e1,e2,o0,rfl,by simpa using ht.symm⟩)
  have hftid : ∀ b',vid.ft b' → bv.ft b' := fun b' hb=>(hF b').2 (hb.imp _root_.id fun ⟨i',k',q,_⟩=>⟨i',k',q⟩)
  have hftj : ∀ b',fs i k b' → bv.ft b' := fun b' hb=>(hF b').2 (.inr ⟨i,k,hb⟩)
  have hft : ∀ t o b',lk t ((j,ob e') :: (id,.dq e s rows i ((row0.map (SV.upq (SV.kill j))).set k (.own j))) :: er id (st.kill j).hp) = some o → (β' t).ft b' → ∃ t0 o0,lk t0 st.hp = some o0 ∧ (β t0).ft b' ∧ (t = j ∨ t = id → t0 = id) ∧ (t ≠ j → t0 = t) := fun t o b' ht hb=>by
   rcases hlk t o ht with ⟨rfl,_⟩|⟨rfl,_⟩|⟨n1,n2,o0,q,_⟩
   ·rw [hβj] at hb; exact ⟨id,_,hl,by rw [hbv]; exact hftj b' hb,fun _=>rfl,fun q=>absurd rfl q⟩
   ·rw [hβid] at hb; exact ⟨t,_,hl,by rw [hbv]; exact hftid b' hb,fun _=>rfl,fun _=>rfl⟩
   ·rw [hβo t n1 n2] at hb; exact ⟨t,o0,q,hb,fun q=>by rcases q with q|q <;> contradiction,fun _=>rfl⟩
  have hft1 : ∀ t o b',lk t ((j,ob e') :: (id,.dq e s rows i ((row0.map (SV.upq (SV.kill j))).set k (.own j))) :: er id (st.kill j).hp) = some o → (β' t).ft b' → ∃ t0 o0,lk t0 st.hp = some o0 ∧ (β t0).ft b' := fun t o b' ht hb=>by
   obtain ⟨t0,o0,q1,q2,_⟩ := hft t o b' ht hb
   exact ⟨t0,o0,q1,q2⟩
  have hS : Same (XX X0 β st.hp) w w := ⟨Nat.le_refl _,fun _ _ _=>rfl⟩
  refine ⟨e',β',h.ghost (fun q=>?_) (fun q hq=>hβv q (by omega)) hft1 (fun t x' hx=>?_) (fun t o ht=>?_) (fun p q op oq b' hp hq hbp hbq=>?_)⟩
  ·by_cases hq : q = j
   ·rw [hq,hβj]; exact h8 i k h4 hks
   ·rw [hβv q hq]; exact h.beta q
  ·simp only [St.kill,lk_map] at hx
   cases hy : lk t st.fr with
   |none=>rw [hy] at hx; cases hx
   |some y =>
    rw [hy] at hx
    have hx' : y.kill j = x':=by simpa using hx
    subst hx'
    exact ⟨y,rfl,fun v hR=>hR.kill hβv⟩
  ·rcases hlk t o ht with ⟨rfl,rfl⟩|⟨rfl,rfl⟩|⟨n1,n2,o0,q,rfl⟩
   ·rw [hβj]
    exact hobe e' _ _ _ _ (he'.mono hS (fun b' _ hb=>XX_ghost hft1 hb) (fun _ _=>rfl))
   ·rw [hβid]
    refine .dq b cap cur us fs' hv hh h1 h2 h3 h4 (by simp [h5]) h6 h7 h8 (fun i' k' row c q0 r1 r2=>(h9 i' k' row c q0 r1 r2).ext fun b'=>⟨fun g=>g.1,fun g=>⟨g,fun g2=>q0 g2.1⟩⟩) (fun k' c hc=>?_) (fun i' k' b' g=>h11 i' k' b' g.1) (fun i' k' g=>h12 i' k' g.1) (fun i1 k1 i2 k2 b' g1 g2=>h13 i1 k1 i2 k2 b' g1.1 g2.1) (fun b'=>Iff.rfl)
    rw [List.getElem?_set] at hc
    split at hc
    ·rename_i hkk
     subst hkk
     simp only [List.length_map,h5,hks,if_true,Option.some.injEq] at hc
     subst hc
     have hR := R.own (w := w) (X := XX X0 β' ((j,ob e') :: (t,.dq e s rows i ((row0.map (SV.upq (SV.kill j))).set k (.own j))) :: er t (st.kill j).hp)) (β := β') j
     rw [hβj] at hR
     exact .inr ⟨rfl,hR,fun b' g=>g.2 ⟨rfl,rfl⟩⟩
    ·rename_i hkk
     obtain ⟨c0,hc0,rfl⟩ := map_get hc
     have hex : ∀ b',fs' i k' b' ↔ fs i k' b' := fun b'=>⟨fun g=>g.1,fun g=>⟨g,fun g2=>hkk g2.2.symm⟩⟩
     have h0 : DqC w (XX X0 β' ((j,ob e') :: (t,.dq e s rows i ((row0.map (SV.upq (SV.kill j))).set k (.own j))) :: er t (st.kill j).hp)) β' (c0.upq (SV.kill j)) (us i k') (fs i k') :=
      (h10 k' c0 hc0).upq fun hR=>R.kill hβv (hR.mono (X' := XX X0 β' ((j,ob e') :: (t,.dq e s rows i ((row0.map (SV.upq (SV.kill j))).set k (.own j))) :: er t (st.kill j).hp)) hS (fun b' _ hb=>XX_ghost hft1 hb))
     rcases h0 with ⟨g1,g2⟩|⟨g1,g2,g3⟩
     ·exact .inl ⟨g1,g2.ext hex⟩
     ·exact .inr ⟨g1,g2,fun b' g=>g3 b' ((hex b').1 g)⟩
   ·rw [hβo t n1 n2]
    exact ((h.objs t o0 q).mono hS (fun b' _ hb=>XX_ghost hft1 hb) (fun _ _=>rfl)).kill hβv
  ·obtain ⟨t1,o1,q1,q2,q3,q4⟩ := hft p op b' hp hbp
   obtain ⟨t2,o2,r1,r2,r3,r4⟩ := hft q oq b' hq hbq
   have := h.inj t1 t2 o1 o2 b' q1 r1 q2 r2
   subst this
   by_cases p1 : p = j <;> by_cases p2 : q = j
   ·rw [p1,p2]
   ·exfalso
    have := r4 p2
    have := q3 (.inl p1)
    have hqi : q = id:=by omega
    rw [p1,hβj] at hbp
    rw [hqi,hβid] at hbq
    have hbp : fs i k b' := hbp
    rcases hbq with g|⟨i',k',g,g2⟩
    ·exact h12 i k (g ▸ hbp)
    ·exact g2 (h13 i' k' i k b' g hbp)
   ·exfalso
    have := q4 p1
    have := r3 (.inl p2)
    have hpi : p = id:=by omega
    rw [p2,hβj] at hbq
    rw [hpi,hβid] at hbp
    have hbq : fs i k b' := hbq
    rcases hbp with g|⟨i',k',g,g2⟩
    ·exact h12 i k (g ▸ hbq)
    ·exact g2 (h13 i' k' i k b' g hbq)
   ·have := q4 p1
    have := r4 p2
    omega
theorem Sim.absb (h : Sim N X0 M w0 st β a w) {id k j e s i s' : Nat} {rows rows' : List (List SV)} {row0 : List SV} {oj : Ob} (hl : lk id st.hp = some (.dq e s rows i row0)) (hk : row0[k]? = some (.own j)) (hne : j ≠ id)
  (hoj : lk j st.hp = some oj) (hob : ObR w (XX X0 β st.hp) β (β j) oj → Dp w (.sl s' rows') (β j).val (β j).ft) :
  ∃ β',Sim N X0 M w0 { fr := (st.kill j).fr,hp := (id,.dq e s rows i ((row0.map (SV.upq (SV.kill j))).set k (.sl s' rows'))) :: er id (st.kill j).hp } β' a w := by
 have hO := h.objs id _ hl
 have hD := hob (h.objs j oj hoj)
 have hdisj : ∀ b',(β j).ft b' → ¬ (β id).ft b' := fun b' g1 g2=>hne (h.inj j id oj _ b' hoj hl g1 g2)
 generalize hbv : β id = bv at hO hdisj
 cases hO with
 |dq b cap cur us fs hv hh h1 h2 h3 h4 h5 h6 h7 h8 h9 h10 h11 h12 h13 hF =>
  have hks : k < s:=by rw [← h5]; exact (List.getElem?_eq_some_iff.1 hk).1
  have hR0 : us i k = (β j).val ∧ ∀ b',¬ fs i k b' := by
   rcases h10 k _ hk with ⟨q,_⟩|⟨_,hR,g⟩
   ·cases q
   ·exact ⟨hR.own_inv,g⟩
  let fs' : Nat → Nat → Nat → Prop := fun i' k' b'=>if i' = i ∧ k' = k then (β j).ft b' else fs i' k' b'
  have hfs1 : ∀ b',fs' i k b' ↔ (β j).ft b' := fun b'=>by show (if i = i ∧ k = k then _ else _) ↔ _; rw [if_pos ⟨rfl,rfl⟩]
  have hfs2 : ∀ i' k' b',¬ (i' = i ∧ k' = k) → (fs' i' k' b' ↔ fs i' k' b') := fun i' k' b' hn=>by show (if i' = i ∧ k' = k then _ else _) ↔ _; rw [if_neg hn]
  let vid : BV := ⟨bv.val,fun b'=>b' = b ∨ ∃ i' k',fs' i' k' b'⟩
  let β' : Nat → BV := fun q=>if q = id then vid else β q
  have hβid : β' id = vid := if_pos rfl
  have hβo : ∀ q,q ≠ id → β' q = β q := fun q h2=>if_neg h2
  have hβv : ∀ q,(β' q).val = (β q).val := fun q=>by
   by_cases hid : q = id
   ·rw [hid,hβid,hbv]
   ·rw [hβo q hid]
  have hlk : ∀ (t : Nat) (o : Ob),lk t ((id,.dq e s rows i ((row0.map (SV.upq (SV.kill j))).set k (.sl s' rows'))) :: er id (st.kill j).hp) = some o →
    (t = id ∧ o = .dq e s rows i ((row0.map (SV.upq (SV.kill j))).set k (.sl s' rows'))) ∨ (t ≠ j ∧ t ≠ id ∧ ∃ o0,lk t st.hp = some o0 ∧ o = o0.kill j) := fun t o ht=>by
   simp only [lk] at ht
   by_cases e2 : t = id
   ·rw [if_pos e2] at ht; cases ht; exact .inl ⟨e2,rfl⟩
   ·rw [if_neg e2,lk_er_ne e2] at ht
    by_cases e1 : t = j
    ·subst e1; rw [lk_kill] at ht; cases ht
    ·rw [lk_kill_ne e1] at ht
     cases hq : lk t st.hp with
     |none=>rw [hq] at ht; cases ht
     |some o0=>rw [hq] at ht; exact .inr ⟨e1,e2,o0,rfl,by simpa using ht.symm⟩
  have hvid : ∀ b',vid.ft b' → bv.ft b' ∨ (β j).ft b' := fun b' hb=>by
   rcases hb with g|⟨i',k',g⟩
   ·exact .inl ((hF b').2 (.inl g))
   ·by_cases hik : i' = i ∧ k' = k
    ·obtain ⟨rfl,rfl⟩ := hik; exact .inr ((hfs1 b').1 g)
    ·exact .inl ((hF b').2 (.inr ⟨i',k',(hfs2 i' k' b' hik).1 g⟩))
  have hft : ∀ t o b',lk t ((id,.dq e s rows i ((row0.map (SV.upq (SV.kill j))).set k (.sl s' rows'))) :: er id (st.kill j).hp) = some o → (β' t).ft b' → ∃ t0 o0,lk t0 st.hp = some o0 ∧ (β t0).ft b' ∧ (t ≠ id → t0 = t) ∧ (t = id → t0 = id ∨ t0 = j) := fun t o b' ht hb=>by
   rcases hlk t o ht with ⟨rfl,_⟩|⟨n1,n2,o0,q,_⟩
   ·rw [hβid] at hb
    rcases hvid b' hb with g|g
    ·exact ⟨t,_,hl,by rw [hbv]; exact g,fun q=>absurd rfl q,fun _=>.inl rfl⟩
    ·exact ⟨j,_,hoj,g,fun q=>absurd rfl q,fun _=>.inr rfl⟩
   ·rw [hβo t n2] at hb; exact ⟨t,o0,q,hb,fun _=>rfl,fun q=>absurd q n2⟩
  have hft1 : ∀ t o b',lk t ((id,.dq e s rows i ((row0.map (SV.upq (SV.kill j))).set k (.sl s' rows'))) :: er id (st.kill j).hp) = some o → (β' t).ft b' → ∃ t0 o0,lk t0 st.hp = some o0 ∧ (β t0).ft b' := fun t o b' ht hb=>by
   obtain ⟨t0,o0,q1,q2,_⟩ := hft t o b' ht hb
   exact ⟨t0,o0,q1,q2⟩
  have hS : Same (XX X0 β st.hp) w w := ⟨Nat.le_refl _,fun _ _ _=>rfl⟩
  refine ⟨β',h.ghost (fun q=>by rw [hβv]; exact h.beta q) (fun q _=>hβv q) hft1 (fun t x' hx=>?_) (fun t o ht=>?_) (fun p q op oq b' hp hq hbp hbq=>?_)⟩
  ·simp only [St.kill,lk_map] at hx
   cases hy : lk t st.fr with
   |none=>rw [hy] at hx; cases hx
   |some y =>
    rw [hy] at hx
    have hx' : y.kill j = x':=by simpa using hx
    subst hx'
    exact ⟨y,rfl,fun v hR=>hR.kill fun q _=>hβv q⟩
  ·rcases hlk t o ht with ⟨rfl,rfl⟩|⟨n1,n2,o0,q,rfl⟩
   ·rw [hβid]
    refine .dq b cap cur us fs' hv hh h1 h2 h3 h4 (by simp [h5]) h6 h7 h8 (fun i' k' row c q0 r1 r2=>(h9 i' k' row c q0 r1 r2).ext fun b'=>hfs2 i' k' b' (fun g=>q0 g.1)) (fun k' c hc=>?_) (fun i' k' b' g=>?_) (fun i' k' g=>?_) (fun i1 k1 i2 k2 b' g1 g2=>?_) (fun b'=>Iff.rfl)
    ·rw [List.getElem?_set] at hc
     split at hc
     ·rename_i hkk
      subst hkk
      simp only [List.length_map,h5,hks,if_true,Option.some.injEq] at hc
      subst hc
      refine .inl ⟨rfl,?_⟩
      rw [hR0.1]
      exact hD.ext hfs1
     ·rename_i hkk
      obtain ⟨c0,hc0,rfl⟩ := map_get hc
      have hex : ∀ b',fs' i k' b' ↔ fs i k' b' := fun b'=>hfs2 i k' b' (fun g2=>hkk g2.2.symm)
      have h0 := (h10 k' c0 hc0).upq (f := SV.kill j) (X' := XX X0 β' ((t,.dq e s rows i ((row0.map (SV.upq (SV.kill j))).set k (.sl s' rows'))) :: er t (st.kill j).hp)) (β' := β') fun hR=>R.kill (fun q _=>hβv q) (hR.mono (X' := XX X0 β' ((t,.dq e s rows i ((row0.map (SV.upq (SV.kill j))).set k (.sl s' rows'))) :: er t (st.kill j).hp)) hS (fun b' _ hb=>XX_ghost hft1 hb))
      rcases h0 with ⟨g1,g2⟩|⟨g1,g2,g3⟩
      ·exact .inl ⟨g1,g2.ext hex⟩
      ·exact .inr ⟨g1,g2,fun b' g=>g3 b' ((hex b').1 g)⟩
    ·by_cases hik : i' = i ∧ k' = k
     ·obtain ⟨rfl,rfl⟩ := hik; exact ⟨h4,hks⟩
     ·exact h11 i' k' b' ((hfs2 i' k' b' hik).1 g)
    ·by_cases hik : i' = i ∧ k' = k
     ·obtain ⟨rfl,rfl⟩ := hik
      exact hdisj b ((hfs1 b).1 g) ((hF b).2 (.inl rfl))
     ·exact h12 i' k' ((hfs2 i' k' b hik).1 g)
    ·by_cases hik1 : i1 = i ∧ k1 = k <;> by_cases hik2 : i2 = i ∧ k2 = k
     ·exact ⟨hik1.1.trans hik2.1.symm,hik1.2.trans hik2.2.symm⟩
     ·obtain ⟨rfl,rfl⟩ := hik1
      exact absurd ((hF b').2 (.inr ⟨i2,k2,(hfs2 i2 k2 b' hik2).1 g2⟩)) (hdisj b' ((hfs1 b').1 g1))
     ·obtain ⟨rfl,rfl⟩ := hik2
      exact absurd ((hF b').2 (.inr ⟨i1,k1,(hfs2 i1 k1 b' hik1).1 g1⟩)) (hdisj b' ((hfs1 b').1 g2))
     ·exact h13 i1 k1 i2 k2 b' ((hfs2 i1 k1 b' hik1).1 g1) ((hfs2 i2 k2 b' hik2).1 g2)
   ·rw [hβo t n2]
    exact ((h.objs t o0 q).mono hS (fun b' _ hb=>XX_ghost hft1 hb) (fun _ _=>rfl)).kill fun q _=>hβv q
  ·obtain ⟨t1,o1,q1,q2,q3,q4⟩ := hft p op b' hp hbp
   obtain ⟨t2,o2,r1,r2,r3,r4⟩ := hft q oq b' hq hbq
   have := h.inj t1 t2 o1 o2 b' q1 r1 q2 r2
   subst this
   have nj : ∀ {t o},lk t ((id,.dq e s rows i ((row0.map (SV.upq (SV.kill j))).set k (.sl s' rows'))) :: er id (st.kill j).hp) = some o → t ≠ j := fun {t o} ht=>by
    rcases hlk t o ht with ⟨rfl,_⟩|⟨n1,_⟩
    ·exact fun e=>hne e.symm
    ·exact n1
   have n1 := nj hp
   have n2 := nj hq
   by_cases p1 : p = id <;> by_cases p2 : q = id
   ·rw [p1,p2]
   ·have := r3 p2
    rcases q4 p1 with g|g <;> omega
   ·have := q3 p1
    rcases r4 p2 with g|g <;> omega
   ·have := q3 p1
    have := r3 p2
    omega
theorem Sim.gh (h : Sim N X0 M w0 st β a w) {K : St → Prop} {g : Gh} (hK : st.gh K g) : ∃ st' β',K st' ∧ Sim N X0 M w0 st' β' a w := by
 cases g with
 |dp id =>
  simp only [St.gh] at hK
  split at hK
  ·rename_i e s rows hl; exact ⟨_,β,hK.2,h.reob hl fun hO=>hO.sl_dp hK.1⟩
  ·exact ⟨st,β,hK,h⟩
  ·exact hK.elim
 |opn id i =>
  simp only [St.gh] at hK
  split at hK
  ·rename_i e s rows hl; exact ⟨_,β,hK.2,h.reob hl fun hO=>hO.dp_dq hK.1⟩
  ·exact hK.elim
 |bor id k j =>
  simp only [St.gh] at hK
  split at hK
  ·rename_i e s rows i row0 hl
   split at hK
   ·rename_i s' rows' hk
    obtain ⟨e',β',h'⟩ := h.bor hl hk hK.1 hK.2.1 (ob := fun e'=>.dp e' s' rows') (fun X β v F hD=>hD.dp_ob) (fun e' X β β' v hO=>by cases hO with|dp hd he=>exact .dp hd he)
    exact ⟨_,β',hK.2.2 e',h'⟩
   ·exact hK.elim
  ·exact hK.elim
 |borV id k j =>
  simp only [St.gh] at hK
  split at hK
  ·rename_i e s rows i row0 hl
   split at hK
   ·rename_i s' rows' hk
    obtain ⟨e',β',h'⟩ := h.bor hl hk hK.1 hK.2.1 (ob := fun e'=>.sl e' s' rows') (fun X β v F hD=>hD.dp_sl hK.2.2.1) (fun e' X β β' v hO=>hO.sl_beta)
    exact ⟨_,β',hK.2.2.2 e',h'⟩
   ·exact hK.elim
  ·exact hK.elim
 |abs id k =>
  simp only [St.gh] at hK
  split at hK
  ·rename_i e s rows i row0 hl
   split at hK
   ·rename_i j hk
    obtain ⟨hne,hK⟩ := hK
    split at hK
    ·rename_i e' s' rows' hj
     obtain ⟨β',h'⟩ := h.absb hl hk hne hj (s' := s') (rows' := rows') (fun hO=>by
      have := hO.sl_dp hK.1
      cases this with
      |dp hd he=>exact hd)
     exact ⟨_,β',hK.2,h'⟩
    ·rename_i e' s' rows' hj
     obtain ⟨β',h'⟩ := h.absb hl hk hne hj (s' := s') (rows' := rows') (fun hO=>by
      cases hO with
      |dp hd he=>exact hd)
     exact ⟨_,β',hK,h'⟩
    ·exact hK.elim
   ·exact hK.elim
  ·exact hK.elim
 |fld id =>
  simp only [St.gh] at hK
  split at hK
  ·rename_i e s rows i row0 hl; exact ⟨_,β,hK.2,h.reob hl fun hO=>hO.dq_dp hK.1⟩
  ·exact hK.elim
theorem Sim.gho {a : Act} {w : World} {K : St → Prop} : ∀ {l : List Gh} {st : St} {β : Nat → BV},Sim N X0 M w0 st β a w → st.gho K l → ∃ st' β',K st' ∧ Sim N X0 M w0 st' β' a w
 | [],st,β,h,hK=>⟨st,β,hK,h⟩
 |g :: l,st,β,h,hK=>by
  obtain ⟨st1,β1,h1,h2⟩ := h.gh (g := g) hK
  exact Sim.gho h2 h1
end
section
variable {c : Cx} {N : Nat} {X0 : Nat → Prop} {M : Nat → BV → Prop} {w0 : World} {st : St} {K : Exit → St → Prop}
theorem zG (l : List Gh) {code : Code} (h : st.gho (fun st'=>WP c N X0 M w0 code st' K) l) : WP c N X0 M w0 code st K := fun hA β a w hs=>by
 obtain ⟨st',β',h1,h2⟩ := hs.gho h
 exact h1 hA β' a w h2
def ghoK (l : List Gh) (K : Exit → St → Prop) : Exit → St → Prop
 | .normal,st=>st.gho (K .normal) l
 |e,st=>K e st
theorem zO (l : List Gh) {code : Code} (h : WP c N X0 M w0 code st (ghoK l K)) : WP c N X0 M w0 code st K := fun hA β a w hs =>
 Code.wp_mono (fun e a' w' hq=>by
  cases e with
  |normal =>
   obtain ⟨st',β',h1,h2⟩ := hq
   obtain ⟨st2,β2,h3,h4⟩ := h2.gho h1
   exact ⟨st2,β2,h3,h4⟩
  | _=>exact hq) (h hA β a w hs)
end
end Go.Vc

namespace Go.Proofs.YtoomncljmgcidaaGreat
open Go.Vc
attribute [local irreducible] Go.Vc.WP
attribute [local go_sem] cx0_t cx0_c
attribute [local go_sem] decI_enc decImage_enc spA cpu_eta bxC headsBy innersBy llX lmX St.callX St.panOf St.callLG ctrs St.isX St.stepP runS retY St.fzS addL behind ghoK St.gho St.gh SV.flat St.setO Ob.jk SV.jk
abbrev PfX := SpcX × CuX × Op × Int
def opA (args : List SV) (i : Nat) : Op := match args[i]? with
 |some (.agg [.v (.int _ a),.v (.int _ b)])=>⟨a,b⟩
 | _=>⟨0,0⟩
def decC0 (obs : List (Nat × Ob)) : CuX := match oC obs 1000000 with
 | [.v (.int _ a),.v (.int _ b),.v (.int _ c),_,_,.v (.int _ s),.v (.int _ v),.v (.bool g)]=>((⟨a,b,c,decI (oR obs 900000),decI (oR obs 900001)⟩,g),s,v)
 | _=>((⟨0,0,0,[],[]⟩,false),0,0)
def aggSp (S : SpcX) : SV := .agg [.sl 2 (S.1.map encImage),.sl 1 (S.2.1.map encI),.sl 1 (S.2.2.map encI)]
def obC0 (x : CuX) : List (Nat × Ob) := [(1000000,.box 146 (bxC x 900000 900001)),(900000,.sl 3 1 (x.1.1.st.map encI)),(900001,.sl 3 1 (x.1.1.out.map encI))]
def rbC (x : CuX) : List (Nat × Ob) := [(800001,.sl 3 1 (x.1.1.st.map encI)),(800002,.sl 3 1 (x.1.1.out.map encI))]
def kpC (x : CuX) : List (Nat × Ob) := [(1000000,.box 146 (bxC x 800001 800002))]
attribute [local go_sem] opA decC0 aggSp obC0 rbC kpC yen
structure PfOk (x : PfX) : Prop where
 st : x.2.1.1.1.st.length = 1200
 out : x.2.1.1.1.out.length ≤ 8388608
 sp : 0 ≤ x.2.1.1.1.sp ∧ x.2.1.1.1.sp ≤ 1200
 pc : 0 ≤ x.2.1.1.1.pc ∧ x.2.1.1.1.pc ≤ 16777216
 good : x.2.1.1.2 = false
 op : OpB x.2.2.1 x.2.2.2
 en : x.1.2.2.length ≤ 4194304
def kPerfK (p : Int → Prop) : Ctx := yen [1] (fun args obs=>(spA args 0,decC0 obs,opA args 2,aI args 3))
 (fun x=>[aggSp x.1,.ptr 1000000 0 0 0,.agg [.v (.int .i64 x.2.2.1.code),.v (.int .i64 x.2.2.1.arg)],.v (.int .i64 x.2.2.2)]) (fun x=>obC0 x.2.1) (fun x=>PfOk x ∧ p x.2.2.1.code) (fun _=>none)
 (fun _=>.tup []) (fun x=>rbC (performS x.1.2.2 x.2.2.1 ⟨x.2.1.1.1.pc + x.2.2.2,x.2.1.1.1.sp,x.2.1.1.1.fp,x.2.1.1.1.st,x.2.1.1.1.out⟩,x.2.1.2)) (fun x=>kpC (performS x.1.2.2 x.2.2.1 ⟨x.2.1.1.1.pc + x.2.2.2,x.2.1.1.1.sp,x.2.1.1.1.fp,x.2.1.1.1.st,x.2.1.1.1.out⟩,x.2.1.2))
theorem Cy.codes {f : FuncId} {p q : Int → Prop} (h1 : Cy Tryz.prog f (kPerfK p)) (h2 : Cy Tryz.prog f (kPerfK q)) : Cy Tryz.prog f (kPerfK fun c=>p c ∨ q c) := ⟨h1.call,fun d args obs ha=>by
 obtain ⟨a1,a2,a3,a4⟩ := ha
 rcases a4 with a4|a4
 ·exact h1.holds d args obs ⟨a1,a2,a3,a4⟩
 ·exact h2.holds d args obs ⟨a1,a2,a3,a4⟩⟩
section
noncomputable def LcxPfS : CL := [(36,k60),(133,kPushS),(118,kWordS),(136,kPopS),(135,kPutS),(134,kNear),(138,kDropS),(137,kZerosS),(139,kAppl)]
noncomputable def cxPfS := mkX LcxPfS (COk.cons c58 (COk.cons cPushS (COk.cons cWordS (COk.cons cPopS (COk.cons cPutS (COk.cons cNearS (COk.cons cDropS (COk.cons cZerosS (COk.cons cApplS (COk.nil _))))))))))
theorem cxPfS_t : cxPfS.tys = tys := rfl
theorem cxPfS_c : cxPfS.C = LcxPfS := rfl
attribute [local go_sem] cxPfS_t cxPfS_c LcxPfS k60 kPushS kWordS kPopS kPutS kNear kDropS kZerosS kAppl
end
end Go.Proofs.YtoomncljmgcidaaGreat

namespace Go.Proofs.YtoomncljmgcidaaGreat
open Go.Vc
attribute [local irreducible] Go.Vc.WP
attribute [local go_sem] cx0_t cx0_c
attribute [local go_sem] decI_enc cpu_eta
def bxI (x : CuX) (a b : Nat) : List SV := [.v (.int .i64 x.1.1.pc),.v (.int .i64 x.1.1.sp),.v (.int .i64 x.1.1.fp),.own a,.own b,.v (.int .i64 x.2.1),.v (.int .i64 x.2.2)]
def obIm (x : CuX) : List (Nat × Ob) := [(1000000,.box 158 [.ptr 1000001 0 0 0,.v (.bool x.1.2)]),(1000001,.box 96 (bxI x 1000002 1000003)),(1000002,.sl 3 1 (x.1.1.st.map encI)),(1000003,.sl 3 1 (x.1.1.out.map encI))]
def decIm (obs : List (Nat × Ob)) : CuX := match oC obs 1000001,oC obs 1000000 with
 | [.v (.int _ a),.v (.int _ b),.v (.int _ c),_,_,.v (.int _ s),.v (.int _ v)],[_,.v (.bool g)]=>((⟨a,b,c,decI (oR obs 1000002),decI (oR obs 1000003)⟩,g),s,v)
 | _,_=>((⟨0,0,0,[],[]⟩,false),0,0)
attribute [local go_sem] bxI obIm decIm St.stepWr St.runWr isArith wrapI
def kAtI : Ctr := len [0] [] (fun args obs=>(decIm obs,aI args 1)) (fun x=>[.ptr 1000000 0 0 0,.v (.int .i64 x.2)]) (fun x=>obIm x.1) (fun _=>True)
 (fun _ x=>.v (.bool (!(atI x.1.1 x.2).2))) (fun _ _=>[]) (fun x=>obIm (atI x.1.1 x.2,x.1.2))
def kPushI : Ctr := len [0] [] (fun args obs=>(decIm obs,aI args 1)) (fun x=>[.ptr 1000000 0 0 0,.v (.int .i64 x.2)]) (fun x=>obIm x.1) (fun x=>x.1.1.1.st.length = 1200 ∧ In64 x.1.1.1.sp)
 (fun _ _=>.tup []) (fun _ _=>[]) (fun x=>obIm (pushI x.1.1 x.2,x.1.2))
def kPopI : Ctr := len [0] [] (fun args obs=>decIm obs) (fun _=>[.ptr 1000000 0 0 0]) (fun x=>obIm x) (fun x=>x.1.1.st.length = 1200)
 (fun _ x=>.v (.int .i64 (popI x.1).1)) (fun _ _=>[]) (fun x=>obIm ((popI x.1).2,x.2))
def kLoadI : Ctr := len [0] [] (fun args obs=>(decIm obs,aI args 1)) (fun x=>[.ptr 1000000 0 0 0,.v (.int .i64 x.2)]) (fun x=>obIm x.1) (fun x=>x.1.1.1.st.length = 1200 ∧ In64 x.1.1.1.sp)
 (fun _ _=>.tup []) (fun _ _=>[]) (fun x=>obIm (loadI x.1.1 x.2,x.1.2))
def kStoreI : Ctr := len [0] [] (fun args obs=>(decIm obs,aI args 1)) (fun x=>[.ptr 1000000 0 0 0,.v (.int .i64 x.2)]) (fun x=>obIm x.1) (fun x=>x.1.1.1.st.length = 1200)
 (fun _ _=>.tup []) (fun _ _=>[]) (fun x=>obIm (storeI x.1.1 x.2,x.1.2))
def kDropI : Ctr := len [0] [] (fun args obs=>(decIm obs,aI args 1)) (fun x=>[.ptr 1000000 0 0 0,.v (.int .i64 x.2)]) (fun x=>obIm x.1) (fun x=>x.1.1.1.st.length = 1200 ∧ x.2 ≤ 4294967295)
 (fun _ _=>.tup []) (fun _ _=>[]) (fun x=>obIm (dropI x.1.1 x.2.toNat,x.1.2))
section
noncomputable def cxAtI := mkX [(37,k60)] (COk.cons c60 (COk.nil _))
theorem cxAtI_t : cxAtI.tys = tys := rfl
theorem cxAtI_c : cxAtI.C = [(37,k60)] := rfl
attribute [local go_sem] cxAtI_t cxAtI_c k60
theorem cAtI : Cn Tryz.prog 125 kAtI := by
 refine Cn.len Tryz.func125 (by kernel_rfl) rfl fun d x hd hx=>?_
 obtain ⟨⟨⟨⟨pc,sp,fp,S,O⟩,g⟩,q,v⟩,n⟩ := x
 simp only
 unfold obIm bxI
 refine HoldsL.go (c := cxAtI) Tryz.func125 rfl Tryz.results125 Tryz.ntmps125 (by omega) (by simp) rfl (by simp <;> omega) (by simp [SV.owns2,SV.owns,SV.owns1]) (by simp) rfl rfl (by simp) ?_
 intro X0 M w0
 by_cases h : 0 ≤ n ∧ n ≤ 1199
 ·have e : atI (⟨pc,sp,fp,S,O⟩,g) n = (⟨pc,sp,fp,S,O⟩,g) := if_pos h
  rw [e]
  (repeat' (first|apply zS|apply zB|((first|apply zR|apply zC|apply zT|apply zE|apply zK);simp only [go_sem,h])|apply And.intro|intro _))
  all_goals first|omega|rfl|skip
 ·have e : atI (⟨pc,sp,fp,S,O⟩,g) n = (⟨pc,sp,fp,S,O⟩,true) := if_neg h
  rw [e]
  (repeat' (first|apply zS|apply zB|((first|apply zR|apply zC|apply zT|apply zE|apply zK);simp only [go_sem,h])|apply And.intro|intro _))
  all_goals first|omega|rfl|skip
end
theorem atI_fst (s : CpB) (a : Int) : (atI s a).1 = s.1:=by unfold atI; split <;> rfl
theorem popI_st (s : CpB) : (popI s).2.1.st = s.1.st := by
 unfold popI
 split <;> rfl
theorem pushI_len (s : CpB) (x : Int) : (pushI s x).1.st.length = s.1.st.length := by
 unfold pushI
 split
 ·rfl
 ·exact List.length_set
theorem dropI_st (s : CpB) : ∀ n,(dropI s n).1.st = s.1.st
 | 0=>rfl
 |n + 1=>by show (popI (dropI s n)).2.1.st = _; rw [popI_st,dropI_st s n]
theorem zerosI_len (s : CpB) : ∀ n,(zerosI s n).1.st.length = s.1.st.length
 | 0=>rfl
 |n + 1=>by show (pushI (zerosI s n) 0).1.st.length = _; rw [pushI_len,zerosI_len s n]
section
noncomputable def cxPuI := mkX [(125,kAtI)] (COk.cons cAtI (COk.nil _))
theorem cxPuI_t : cxPuI.tys = tys := rfl
theorem cxPuI_c : cxPuI.C = [(125,kAtI)] := rfl
attribute [local go_sem] cxPuI_t cxPuI_c kAtI
attribute [local go_sem] kAtI
theorem cPushI : Cn Tryz.prog 145 kPushI := by
 refine Cn.len Tryz.func145 (by kernel_rfl) rfl fun d x hd hx=>?_
 obtain ⟨⟨⟨⟨pc,sp,fp,S,O⟩,g⟩,q,v⟩,n⟩ := x
 obtain ⟨hx,h64⟩ := hx
 simp only at hx h64 ⊢
 have hw := w64_sub h64
 have hf := atI_fst (⟨pc,sp,fp,S,O⟩,g) (w64 (sp - 1))
 have hb := atI_bad (s := (⟨pc,sp,fp,S,O⟩,g)) (a := w64 (sp - 1))
 unfold pushI
 simp only
 unfold obIm bxI
 refine HoldsL.go (c := cxPuI) Tryz.func145 rfl Tryz.results145 Tryz.ntmps145 (by omega) (by simp) rfl (by simp <;> omega) (by simp [SV.owns2,SV.owns,SV.owns1]) (by simp) rfl rfl (by simp) ?_
 intro X0 M w0
 generalize ha : atI (⟨pc,sp,fp,S,O⟩,g) (w64 (sp - 1)) = w at hf hb ⊢
 have ha : atI (⟨pc,sp,fp,S,O⟩,g) (IntKind.i64.wrap (sp - 1)) = w := ha
 obtain ⟨c,b⟩ := w
 simp only at hf hb ⊢
 subst hf
 cases b with
 |true =>
  simp only [if_true]
  (repeat' (first|apply zS|apply zB|((first|refine WP.regionWr (id := 0) ?_); simp only [go_sem,ha])|((first|apply zR|apply zC|apply zT|apply zE|apply zK| refine zD 15 (by decide +kernel) (by kernel_rfl) ?_); simp only [go_sem,ha])|apply And.intro|intro _))
  all_goals first|omega|rfl|exact hx|skip
 |false =>
  simp only [Bool.false_eq_true,if_false]
  have hg : (1 ≤ sp ∧ sp ≤ 1200) ∧ g = false := by
   constructor
   ·by_cases hc : 1 ≤ sp ∧ sp ≤ 1200
    ·exact hc
    ·exact absurd (hb.2 (.inr (fun h=>hc (hw.1 h)))) (by simp)
   ·cases g with
    |false=>rfl
    |true=>exact absurd (hb.2 (.inl rfl)) (by simp)
  obtain ⟨⟨hg0,hg1⟩,rfl⟩ := hg
  obtain ⟨k,rfl⟩ : ∃ k : Nat,sp = (k : Int) + 1 := ⟨(sp - 1).toNat,by omega⟩
  have hk : k < S.length:=by omega
  have e2 : (k : Int) + 1 - 1 = k:=by omega
  have hr := rowAt_map encI S k hk
  rw [e2] at ha
  rw [e2,Int.toNat_natCast]
  (repeat' (first|apply zS|apply zB|((first|refine WP.regionWr (id := 0) ?_); simp only [go_sem,ha,e2,hr,encI,set_encI])|((first|apply zR|apply zC|apply zT|apply zE|apply zK| refine zD 15 (by decide +kernel) (by kernel_rfl) ?_); simp only [go_sem,ha,e2,hr,encI,set_encI])|apply And.intro|intro _))
  all_goals first|omega|rfl|exact hx|skip
theorem cPopI : Cn Tryz.prog 148 kPopI := by
 refine Cn.len Tryz.func148 (by kernel_rfl) rfl fun d x hd hx=>?_
 obtain ⟨⟨⟨pc,sp,fp,S,O⟩,g⟩,q,v⟩ := x
 simp only at hx ⊢
 have hf := atI_fst (⟨pc,sp,fp,S,O⟩,g) sp
 have hb := atI_bad (s := (⟨pc,sp,fp,S,O⟩,g)) (a := sp)
 unfold popI
 simp only
 unfold obIm bxI
 refine HoldsL.go (c := cxPuI) Tryz.func148 rfl Tryz.results148 Tryz.ntmps148 (by omega) (by simp) rfl (by simp <;> omega) (by simp [SV.owns2,SV.owns,SV.owns1]) (by simp) rfl rfl (by simp) ?_
 intro X0 M w0
 generalize ha : atI (⟨pc,sp,fp,S,O⟩,g) sp = w at hf hb ⊢
 obtain ⟨c,b⟩ := w
 simp only at hf hb ⊢
 subst hf
 cases b with
 |true =>
  simp only [if_true]
  (repeat' (first|apply zS|apply zB|((first|apply zR|apply zC|apply zT|apply zE|apply zK| refine zD 17 (by decide +kernel) (by kernel_rfl) ?_); simp only [go_sem,ha])|apply And.intro|intro _))
  all_goals first|omega|rfl|exact hx|skip
 |false =>
  simp only [Bool.false_eq_true,if_false]
  have hg : (0 ≤ sp ∧ sp ≤ 1199) ∧ g = false := by
   constructor
   ·by_cases hc : 0 ≤ sp ∧ sp ≤ 1199
    ·exact hc
    ·exact absurd (hb.2 (.inr hc)) (by simp)
   ·cases g with
    |false=>rfl
    |true=>exact absurd (hb.2 (.inl rfl)) (by simp)
  obtain ⟨⟨hg0,hg1⟩,rfl⟩ := hg
  obtain ⟨k,rfl⟩ : ∃ k : Nat,sp = (k : Int) := ⟨sp.toNat,by omega⟩
  have hk : k < S.length:=by omega
  have e2 : (k : Int) + 1 - 1 = k:=by omega
  have hr := rowAt_map encI S k hk
  rw [Int.toNat_natCast,getD_at hk]
  (repeat' (first|apply zS|apply zB|((first|apply zR|apply zC|apply zT|apply zE|apply zK| refine zD 17 (by decide +kernel) (by kernel_rfl) ?_); simp only [go_sem,ha,e2,hr,encI])|apply And.intro|intro _))
  all_goals first|omega|rfl|exact hx|skip
end
section
noncomputable def cxLdI := mkX [(125,kAtI),(145,kPushI),(148,kPopI)] (COk.cons cAtI (COk.cons cPushI (COk.cons cPopI (COk.nil _))))
theorem cxLdI_t : cxLdI.tys = tys := rfl
theorem cxLdI_c : cxLdI.C = [(125,kAtI),(145,kPushI),(148,kPopI)] := rfl
attribute [local go_sem] cxLdI_t cxLdI_c kAtI kPushI kPopI
attribute [local go_sem] kAtI kPushI kPopI
theorem cLoadI : Cn Tryz.prog 146 kLoadI := by
 refine Cn.len Tryz.func146 (by kernel_rfl) rfl fun d x hd hx=>?_
 obtain ⟨⟨⟨⟨pc,sp,fp,S,O⟩,g⟩,q,v⟩,n⟩ := x
 obtain ⟨hx,h64⟩ := hx
 simp only at hx h64 ⊢
 have h64a : -9223372036854775808 ≤ sp ∧ sp ≤ 9223372036854775807 := h64
 have hf := atI_fst (⟨pc,sp,fp,S,O⟩,g) n
 have hb := atI_bad (s := (⟨pc,sp,fp,S,O⟩,g)) (a := n)
 unfold loadI
 simp only
 unfold obIm bxI
 refine HoldsL.go (c := cxLdI) Tryz.func146 rfl Tryz.results146 Tryz.ntmps146 (by omega) (by simp) rfl (by simp <;> omega) (by simp [SV.owns2,SV.owns,SV.owns1]) (by simp) rfl rfl (by simp) ?_
 intro X0 M w0
 generalize ha : atI (⟨pc,sp,fp,S,O⟩,g) n = w at hf hb ⊢
 obtain ⟨c,b⟩ := w
 simp only at hf hb ⊢
 subst hf
 cases b with
 |true =>
  simp only [if_true]
  (repeat' (first|apply zS|apply zB|((first|apply zR|apply zC|apply zT|apply zE|apply zK);simp only [go_sem,ha])|apply And.intro|intro _))
  all_goals first|omega|rfl|exact hx|exact ⟨hx,h64⟩|skip
 |false =>
  simp only [Bool.false_eq_true,if_false]
  have hg : (0 ≤ n ∧ n ≤ 1199) ∧ g = false := by
   constructor
   ·by_cases hc : 0 ≤ n ∧ n ≤ 1199
    ·exact hc
    ·exact absurd (hb.2 (.inr hc)) (by simp)
   ·cases g with
    |false=>rfl
    |true=>exact absurd (hb.2 (.inl rfl)) (by simp)
  obtain ⟨⟨hg0,hg1⟩,rfl⟩ := hg
  obtain ⟨k,rfl⟩ : ∃ k : Nat,n = (k : Int) := ⟨n.toNat,by omega⟩
  have hk : k < S.length:=by omega
  have hr := rowAt_map encI S k hk
  rw [Int.toNat_natCast,getD_at hk]
  (repeat' (first|apply zS|apply zB|((first|apply zR|apply zC|apply zT|apply zE|apply zK);simp only [go_sem,ha,hr,encI])|apply And.intro|intro _))
  all_goals first|omega|rfl|exact hx|exact ⟨hx,h64⟩|skip
theorem cStoreI : Cn Tryz.prog 147 kStoreI := by
 refine Cn.len Tryz.func147 (by kernel_rfl) rfl fun d x hd hx=>?_
 obtain ⟨⟨s,q,v⟩,n⟩ := x
 try simp only at hx ⊢
 have hl : (popI s).2.1.st.length = 1200:=by rw [popI_st]; exact hx
 unfold storeI
 try simp only
 unfold obIm bxI
 refine HoldsL.go (c := cxLdI) Tryz.func147 rfl Tryz.results147 Tryz.ntmps147 (by omega) (by simp) rfl (by simp <;> omega) (by simp [SV.owns2,SV.owns,SV.owns1]) (by simp) rfl rfl (by simp) ?_
 intro X0 M w0
 generalize hp : popI s = w at hl ⊢
 obtain ⟨x,⟨pc,sp,fp,S,O⟩,g⟩ := w
 try simp only at hl ⊢
 have hf := atI_fst (⟨pc,sp,fp,S,O⟩,g) n
 have hb := atI_bad (s := (⟨pc,sp,fp,S,O⟩,g)) (a := n)
 generalize ha : atI (⟨pc,sp,fp,S,O⟩,g) n = w at hf hb ⊢
 obtain ⟨c,b⟩ := w
 simp only at hf hb ⊢
 subst hf
 cases b with
 |true =>
  simp only [if_true]
  (repeat' (first|apply zS|apply zB|((first|apply zR|apply zC|apply zT|apply zE|apply zK);simp only [go_sem,hp,ha])|apply And.intro|intro _))
  all_goals first|omega|rfl|exact hx|skip
 |false =>
  simp only [Bool.false_eq_true,if_false]
  have hg : (0 ≤ n ∧ n ≤ 1199) ∧ g = false := by
   constructor
   ·by_cases hc : 0 ≤ n ∧ n ≤ 1199
    ·exact hc
    ·exact absurd (hb.2 (.inr hc)) (by simp)
   ·cases g with
    |false=>rfl
    |true=>exact absurd (hb.2 (.inl rfl)) (by simp)
  obtain ⟨⟨hg0,hg1⟩,rfl⟩ := hg
  obtain ⟨k,rfl⟩ : ∃ k : Nat,n = (k : Int) := ⟨n.toNat,by omega⟩
  have hk : k < S.length:=by omega
  have hr := rowAt_map encI S k hk
  rw [Int.toNat_natCast]
  (repeat' (first|apply zS|apply zB|((first|apply zR|apply zC|apply zT|apply zE|apply zK);simp only [go_sem,hp,ha,hr,encI,set_encI])|apply And.intro|intro _))
  all_goals first|omega|rfl|exact hx|skip
theorem cDropI : Cn Tryz.prog 151 kDropI := by
 refine Cn.len Tryz.func151 (by kernel_rfl) rfl fun d x hd hx=>?_
 obtain ⟨⟨s,q,v⟩,n⟩ := x
 obtain ⟨hx,hn⟩ := hx
 simp only at hx hn ⊢
 unfold obIm bxI
 refine HoldsL.go (c := cxLdI) Tryz.func151 rfl Tryz.results151 Tryz.ntmps151 (by omega) (by simp) rfl (by simp <;> omega) (by simp [SV.owns2,SV.owns,SV.owns1]) (by simp) rfl rfl (by simp) ?_
 intro X0 M w0
 (repeat' (first|apply zS|apply zB|((first|apply zR|apply zC|apply zT|apply zE|apply zK);simp only [go_sem])|apply And.intro|intro _))
 refine zL (fun k : Nat=>⟨[(0,.ptr 1000000 0 0 0),(1,.v (.int .i64 (n - (k : Nat))))],obIm (dropI s k,q,v)⟩) (fun k=>k ≤ n.toNat) (fun k=>n.toNat - k) 0 (by simp) ?_ ?_
 ·(simp only [go_sem,dropI] <;> (first|(and_intros <;> rfl)|simp))
 intro k hk
 have hl : (dropI s k).1.st.length = 1200:=by rw [dropI_st]; exact hx
 by_cases hlt : 0 < n - (k : Int)
 ·have he : n - (k : Int) - 1 = n - (k + 1 : Nat):=by omega
  (repeat' (first|apply zS|apply zB|((first|apply zR|apply zC|apply zT|apply zE|apply zK);simp only [go_sem,hlt])|apply And.intro|intro _))
  all_goals first|omega|exact hl|rfl|exact ⟨k + 1,by omega,by omega,by rw [← he]; (first|(and_intros <;> rfl)|simp)⟩|skip
 ·obtain rfl : k = n.toNat:=by omega
  (repeat' (first|apply zS|apply zB|((first|apply zR|apply zC|apply zT|apply zE|apply zK);simp only [go_sem,hlt])|apply And.intro|intro _))
  all_goals first|omega|exact hl|rfl|skip
end
end Go.Proofs.YtoomncljmgcidaaGreat

