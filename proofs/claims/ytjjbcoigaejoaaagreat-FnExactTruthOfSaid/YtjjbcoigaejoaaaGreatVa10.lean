/-
  DERIVED. Several texts of ours in one: VtStk3, VtPrf2, VpBag, VpTru, VtTru, VtSzL, VtTot, VtPrL, VtPrM, VtTruL, VcY, VcYw, VtLineR.
-/
import Derived.Test.YtjjbcoigaejoaaaGreatVa0
import Derived.Test.YtjjbcoigaejoaaaGreatVa1
import Derived.Test.YtjjbcoigaejoaaaGreatVa2
import Derived.Test.YtjjbcoigaejoaaaGreatVa3
import Derived.Test.YtjjbcoigaejoaaaGreatVa4
import Derived.Test.YtjjbcoigaejoaaaGreatVa5
import Derived.Test.YtjjbcoigaejoaaaGreatVa6
import Derived.Test.YtjjbcoigaejoaaaGreatVa7
import Derived.Test.YtjjbcoigaejoaaaGreatVa8
import Derived.Test.YtjjbcoigaejoaaaGreatVa9
import Derived.Deep.Strs
import Derived.Lib.SmallJoins
set_option linter.unusedSimpArgs false
set_option linter.unusedVariables false
set_option maxHeartbeats 1000000
set_option maxRecDepth 10000
namespace Go.Proofs.YtjjbcoigaejoaaaGreat
open Go.Vc
attribute [local irreducible] Go.Vc.WP
attribute [local go_sem] cx0_t cx0_c
def flc3c988df08 : List Go.Vc.Fp := [⟨[6],[],[],[55],[],[]⟩,⟨[47],[0],[],[55],[],[]⟩,⟨[7],[],[],[55],[],[]⟩,⟨[1],[],[],[55],[],[]⟩,⟨[8],[],[],[55],[],[]⟩,⟨[50,51],[3,4],[],[55],[],[]⟩,⟨[52],[3,4,5],[],[55],[],[]⟩,⟨[49,53],[2,3,4,5,6],[],[55],[],[]⟩,⟨[54],[2,3,4,5,6,7],[],[],[],[55]⟩,⟨[],[0,1,2,3,4,5,6,7,8],[],[],[],[]⟩,⟨[],[0,1,2,3,4,5,6,7,8,9],[],[],[],[]⟩,⟨[],[0,1,2,3,4,5,6,7,8,9,10],[],[],[],[]⟩]
attribute [local go_sem] flc3c988df08
attribute [local go_sem] decNode_enc decFrame_enc oneFrame_enc stkA oneFrame_ab oneNode_abc
theorem intGo_step {L : List Frame} {k : Nat} (hk : k < L.length) (s : List Node × Int) : intGo (L.drop k) s = intGo (L.drop (k + 1)) (if child s.1 s.2 L[k] < 0 then (s.1 ++ [mkNode s.2 L[k]],(s.1.length : Int)) else (s.1,child s.1 s.2 L[k])) := by
 rw [List.drop_eq_getElem_cons hk,intGo]
theorem intern_no {N : List Node} {L : List Frame} (h : stacksOk N = false ∨ L.length = 0) : intern N L = (N,-1) := by
 unfold intern
 rw [if_neg]
 rintro ⟨h1,h2,_⟩
 rcases h with h|h
 ·rw [h1] at h; cases h
 ·exact h2 (List.eq_nil_of_length_eq_zero h)
theorem intern_bad {N : List Node} {L : List Frame} {k : Nat} (hk : k < L.length) (h : frOk L[k] = false) : intern N L = (N,-1) := by
 unfold intern
 rw [if_neg]
 rintro ⟨_,_,h3⟩
 rw [List.all_eq_true] at h3
 rw [h3 _ (List.getElem_mem hk)] at h; cases h
def kIntern : Ctr := pur (fun args=>(stkA args 0,decFrame (aR args 1))) (fun x=>[.agg [.sl 3 (x.1.map encNode)],.sl 2 (x.2.map encFrame)]) (fun x=>(x.1.length + x.2.length ≤ 4398046511104 ∧ ∀ n ∈ x.1,n.name.size ≤ 1099511627776) ∧ ∀ f ∈ x.2,f.name.size ≤ 1099511627776)
 (fun d x=>.tup [.agg [.own d],.v (.int .i64 (intern x.1 x.2).2)]) (fun d x=>[(d,.sl 96 3 ((intern x.1 x.2).1.map encNode))])
section
noncomputable def cxInS := mkX [(54,kStOk),(55,kCopyStk),(56,kFrOk),(57,kChild)] (COk.cons cStOkS (COk.cons cCopyStkS (COk.cons cFrOkS (COk.cons cChildS (COk.nil _)))))
theorem cxInS_t : cxInS.tys = tys := rfl
theorem cxInS_c : cxInS.C = [(54,kStOk),(55,kCopyStk),(56,kFrOk),(57,kChild)] := rfl
attribute [local go_sem] cxInS_t cxInS_c kStOk kCopyStk kFrOk kChild
theorem cInternS : Cn Tryz.prog 37 kIntern := by
 refine Cn.pur Tryz.func37 (by kernel_rfl) rfl fun d x hx=>?_
 obtain ⟨N,L⟩ := x
 obtain ⟨⟨hN,hs⟩,hL⟩ := hx
 simp only at hN hs hL ⊢
 refine Holds.go (c := cxInS) Tryz.func37 rfl Tryz.results37 Tryz.ntmps37 (by omega) (by simp) rfl ?_
 intro X0 w0
 (repeat' (first|apply zS|apply zB|((first|apply zR|apply zC|apply zT|apply zE|apply zK| refine zF 9 flc3c988df08 [47,48,49,50,51,52,53,54,55] [55] [] (by decide +kernel) (by kernel_rfl) (by kernel_rfl) (by kernel_rfl) ?_|refine zD 7 (by decide +kernel) (by kernel_rfl) ?_); simp only [go_sem])|apply And.intro|intro _))
 all_goals first|omega|exact hs _ ‹_›|exact ⟨_,_,_,rfl⟩|exact ⟨_,_,rfl,_,_,rfl,rfl⟩|skip
 ·rename_i h; rw [intern_no (h.imp_right fun e=>by omega)]
 ·rename_i h; rw [intern_no (h.imp_right fun e=>by omega)]
 rename_i h
 have hi : intern N L = if L.all frOk = true then intGo L (N,-1) else (N,-1) := by
  unfold intern
  by_cases ha : L.all frOk = true
  ·rw [if_pos ha,if_pos ⟨h.1,fun e=>by subst e; simp at h,ha⟩]
  ·rw [if_neg ha,if_neg fun hc=>ha hc.2.2]
 refine zL (fun s : Nat × List Node × Int=>⟨[(1,.sl 2 (L.map encFrame)),(2,.ptr 2 0 0 0),(4,.ptr 4 0 0 0),(6,.ptr 6 0 0 0),(7,.v (.int .i64 s.2.2)),(8,.v (.int .i64 s.1))],
  [(2,.box 26 [.sl 3 (N.map encNode)]),(4,.box 26 [.v (.slice none 0 0)]),(6,.box 26 [.own 11]),(11,.sl 96 3 (s.2.1.map encNode))]⟩)
  (fun s=>s.1 ≤ L.length ∧ (∀ j (hj : j < L.length),j < s.1 → frOk L[j] = true) ∧ intGo L (N,-1) = intGo (L.drop s.1) s.2 ∧ s.2.1.length ≤ N.length + s.1 ∧ -1 ≤ s.2.2 ∧ s.2.2 < s.2.1.length) (fun s=>L.length - s.1) (0,N,-1) ⟨by simp,by simp,by simp,by simp,by simp only; omega,by simp only; omega⟩ ?_ ?_
 ·(simp only [go_sem] <;> (first|(and_intros <;> rfl)|simp))
 rintro ⟨k,M,at'⟩ ⟨hk,hf,hg,hm,ha0,ha1⟩
 simp only at hk hf hg hm ha0 ha1 ⊢
 by_cases hlt : k < L.length
 ·have h1 := rowAt_map encFrame L k hlt
  have hnm := hL _ (List.getElem_mem hlt)
  have hst := intGo_step hlt (M,at')
  have hcb := child_bound M at' L[k]
  rw [← hg] at hst
  simp only at hst hcb
  (repeat' (first|apply zS|apply zB|((first|apply zR|apply zC|apply zT|apply zE|apply zK| refine zF 9 flc3c988df08 [47,48,49,50,51,52,53,54,55] [55] [] (by decide +kernel) (by kernel_rfl) (by kernel_rfl) (by kernel_rfl) ?_|refine zD 7 (by decide +kernel) (by kernel_rfl) ?_); simp only [go_sem,h1,encFrame])|apply And.intro|intro _))
  all_goals first|omega|exact rlNode ‹_›|exact ⟨_,_,_,rfl⟩|exact ⟨_,_,rfl,_,_,rfl,rfl⟩|skip
  ·rename_i hb; rw [intern_bad hlt hb]
  ·rename_i hb; rw [intern_bad hlt hb]
  ·rename_i hfr hc
   have hc' : child M at' L[k] < 0 := hc
   rw [if_pos hc'] at hst
   refine ⟨(k + 1,M ++ [mkNode at' L[k]],(M.length : Int)),⟨by simp only; omega,fun j hj hjk=>?_,hst,by simp only [List.length_append,List.length_cons,List.length_nil]; omega,by simp only; omega,by simp only [List.length_append,List.length_cons,List.length_nil]; omega⟩,by simp only; omega,by (first|(and_intros <;> rfl)|simp),by simp only [List.map_append,List.map_cons,List.map_nil]; rfl⟩
   rcases Nat.lt_or_ge j k with hh|hh
   ·exact hf j hj hh
   ·have : j = k:=by omega
    subst this; exact hfr
  ·rename_i hfr hc
   have hc' : ¬ child M at' L[k] < 0:=by show ¬ child M at' ⟨L[k].name,L[k].line⟩ < 0; omega
   rw [if_neg hc'] at hst
   refine ⟨(k + 1,M,child M at' L[k]),⟨by simp only; omega,fun j hj hjk=>?_,hst,by simp only; omega,by simp only; omega,by simp only; omega⟩,by simp only; omega,by (first|(and_intros <;> rfl)|simp)⟩
   rcases Nat.lt_or_ge j k with hh|hh
   ·exact hf j hj hh
   ·have : j = k:=by omega
    subst this; exact hfr
 ·have hall : L.all frOk = true := by
   rw [List.all_eq_true]
   intro f hfm
   obtain ⟨j,hj,rfl⟩ := List.mem_iff_getElem.1 hfm
   exact hf j hj (by omega)
  rw [if_pos hall,hg,show k = L.length by omega,List.drop_length,intGo] at hi
  (repeat' (first|apply zS|apply zB|((first|apply zR|apply zC|apply zT|apply zE|apply zK| refine zF 9 flc3c988df08 [47,48,49,50,51,52,53,54,55] [55] [] (by decide +kernel) (by kernel_rfl) (by kernel_rfl) (by kernel_rfl) ?_|refine zD 7 (by decide +kernel) (by kernel_rfl) ?_); simp only [go_sem])|apply And.intro|intro _))
  all_goals first|omega|exact rlNode ‹_›|exact ⟨_,_,_,rfl⟩|exact ⟨_,_,rfl,_,_,rfl,rfl⟩|skip
  ·rw [hi]
  ·rw [hi]
end
section
noncomputable def cxInI := mkX [(64,kStOk),(65,kCopyStk),(66,kFrOk),(67,kChild)] (COk.cons cStOkI (COk.cons cCopyStkI (COk.cons cFrOkI (COk.cons cChildI (COk.nil _)))))
theorem cxInI_t : cxInI.tys = tys := rfl
theorem cxInI_c : cxInI.C = [(64,kStOk),(65,kCopyStk),(66,kFrOk),(67,kChild)] := rfl
attribute [local go_sem] cxInI_t cxInI_c kStOk kCopyStk kFrOk kChild
theorem cInternI : Cn Tryz.prog 44 kIntern := by
 refine Cn.pur Tryz.func44 (by kernel_rfl) rfl fun d x hx=>?_
 obtain ⟨N,L⟩ := x
 obtain ⟨⟨hN,hs⟩,hL⟩ := hx
 simp only at hN hs hL ⊢
 refine Holds.go (c := cxInI) Tryz.func44 rfl Tryz.results44 Tryz.ntmps44 (by omega) (by simp) rfl ?_
 intro X0 w0
 (repeat' (first|apply zS|apply zB|((first|apply zR|apply zC|apply zT|apply zE|apply zK);simp only [go_sem])|apply And.intro|intro _))
 all_goals first|omega|exact hs _ ‹_›|exact ⟨_,_,_,rfl⟩|exact ⟨_,_,rfl,_,_,rfl,rfl⟩|skip
 ·rename_i h; rw [intern_no (h.imp_right fun e=>by omega)]
 ·rename_i h; rw [intern_no (h.imp_right fun e=>by omega)]
 rename_i h
 have hi : intern N L = if L.all frOk = true then intGo L (N,-1) else (N,-1) := by
  unfold intern
  by_cases ha : L.all frOk = true
  ·rw [if_pos ha,if_pos ⟨h.1,fun e=>by subst e; simp at h,ha⟩]
  ·rw [if_neg ha,if_neg fun hc=>ha hc.2.2]
 refine zL (fun k : Nat=>⟨[(1,.sl 2 (L.map encFrame)),(4,.ptr 4 0 0 0),(6,.ptr 6 0 0 0),(24,.sl 2 (L.map encFrame)),(25,.v (.int .i64 L.length)),(26,.v (.int .i64 k))],
  [(4,.box 26 [.v (.slice none 0 0)]),(6,.box 26 [.own 14]),(14,.sl 96 3 (N.map encNode))]⟩)
  (fun k=>k ≤ L.length ∧ (∀ j (hj : j < L.length),j < k → frOk L[j] = true)) (fun k=>L.length - k) 0 ⟨by simp,by simp⟩ ?_ ?_
 ·(simp only [go_sem] <;> (first|(and_intros <;> rfl)|simp))
 intro k ⟨hk,hf⟩
 by_cases hlt : k < L.length
 ·have h1 := rowAt_map encFrame L k hlt
  have hnm := hL _ (List.getElem_mem hlt)
  (repeat' (first|apply zS|apply zB|((first|apply zR|apply zC|apply zT|apply zE|apply zK);simp only [go_sem,h1,encFrame])|apply And.intro|intro _))
  all_goals first|omega|exact rlNode ‹_›|exact ⟨_,_,_,rfl⟩|exact ⟨_,_,rfl,_,_,rfl,rfl⟩|skip
  ·rename_i hb; rw [intern_bad hlt hb]
  ·rename_i hb; rw [intern_bad hlt hb]
  ·rename_i hfr
   refine ⟨k + 1,⟨by omega,fun j hj hjk=>?_⟩,by omega,by (first|(and_intros <;> rfl)|simp)⟩
   rcases Nat.lt_or_ge j k with hh|hh
   ·exact hf j hj hh
   ·have : j = k:=by omega
    subst this; exact hfr
 have hall : L.all frOk = true := by
  rw [List.all_eq_true]
  intro f hfm
  obtain ⟨j,hj,rfl⟩ := List.mem_iff_getElem.1 hfm
  exact hf j hj (by omega)
 rw [if_pos hall] at hi
 (repeat' (first|apply zS|apply zB|((first|apply zR|apply zC|apply zT|apply zE|apply zK);simp only [go_sem])|apply And.intro|intro _))
 all_goals first|omega|skip
 refine zL (fun s : Nat × List Node × Int=>⟨[(4,.ptr 4 0 0 0),(6,.ptr 6 0 0 0),(9,.v (.int .i64 s.2.2)),(35,.sl 2 (L.map encFrame)),(36,.v (.int .i64 L.length)),(37,.v (.int .i64 s.1))],
  [(4,.box 26 [.v (.slice none 0 0)]),(6,.box 26 [.own 14]),(14,.sl 96 3 (s.2.1.map encNode))]⟩)
  (fun s=>s.1 ≤ L.length ∧ intGo L (N,-1) = intGo (L.drop s.1) s.2 ∧ s.2.1.length ≤ N.length + s.1 ∧ -1 ≤ s.2.2 ∧ s.2.2 < s.2.1.length) (fun s=>L.length - s.1) (0,N,-1) ⟨by simp,by simp,by simp,by simp only; omega,by simp only; omega⟩ ?_ ?_
 ·(simp only [go_sem] <;> (first|(and_intros <;> rfl)|simp))
 rintro ⟨k,M,at'⟩ ⟨hk,hg,hm,ha0,ha1⟩
 simp only at hk hg hm ha0 ha1 ⊢
 by_cases hlt : k < L.length
 ·have h1 := rowAt_map encFrame L k hlt
  have hnm := hL _ (List.getElem_mem hlt)
  have hst := intGo_step hlt (M,at')
  have hcb := child_bound M at' L[k]
  rw [← hg] at hst
  simp only at hst hcb
  (repeat' (first|apply zS|apply zB|((first|apply zR|apply zC|apply zT|apply zE|apply zK);simp only [go_sem,h1,encFrame])|apply And.intro|intro _))
  all_goals first|omega|exact rlNode ‹_›|exact ⟨_,_,_,rfl⟩|exact ⟨_,_,rfl,_,_,rfl,rfl⟩|skip
  ·rename_i hc
   have hc' : child M at' L[k] < 0 := hc
   rw [if_pos hc'] at hst
   refine ⟨(k + 1,M ++ [mkNode at' L[k]],(M.length : Int)),⟨by simp only; omega,hst,by simp only [List.length_append,List.length_cons,List.length_nil]; omega,by simp only; omega,by simp only [List.length_append,List.length_cons,List.length_nil]; omega⟩,by simp only; omega,by (first|(and_intros <;> rfl)|simp),by simp only [List.map_append,List.map_cons,List.map_nil]; rfl⟩
  ·rename_i hc
   have hc' : ¬ child M at' L[k] < 0:=by show ¬ child M at' ⟨L[k].name,L[k].line⟩ < 0; omega
   rw [if_neg hc'] at hst
   refine ⟨(k + 1,M,child M at' L[k]),⟨by simp only; omega,hst,by simp only; omega,by simp only; omega,by simp only; omega⟩,by simp only; omega,by (first|(and_intros <;> rfl)|simp)⟩
 ·rw [hg,show k = L.length by omega,List.drop_length,intGo] at hi
  (repeat' (first|apply zS|apply zB|((first|apply zR|apply zC|apply zT|apply zE|apply zK);simp only [go_sem])|apply And.intro|intro _))
  all_goals first|omega|exact rlNode ‹_›|exact ⟨_,_,_,rfl⟩|exact ⟨_,_,rfl,_,_,rfl,rfl⟩|skip
  ·rw [hi]
  ·rw [hi]
end
end Go.Proofs.YtjjbcoigaejoaaaGreat

namespace Go.Proofs.YtjjbcoigaejoaaaGreat
open Go.Vc
attribute [local irreducible] Go.Vc.WP
attribute [local go_sem] cx0_t cx0_c
attribute [local go_sem] decNode_enc decFrame_enc oneFrame_enc stkA oneFrame_ab oneNode_abc decI_enc prA
theorem padC (C : List Int) (j : Nat) : (C ++ List.replicate j 0).map encI ++ [[SV.v (.int .i64 0)]] = (C ++ List.replicate (j + 1) 0).map encI := by
 rw [List.replicate_succ',← List.append_assoc,List.map_append (l₂ := [0])]; rfl
theorem padC_get {C : List Int} {m k : Nat} (hk : k < C.length + m) (h0 : ∀ x ∈ C,0 ≤ x ∧ x ≤ 1000000000000) : 0 ≤ (C ++ List.replicate m 0).getD k 0 ∧ (C ++ List.replicate m 0).getD k 0 ≤ 1000000000000 := by
 rw [List.getD_eq_getElem?_getD,List.getElem?_append]
 split
 ·rename_i h
  rw [List.getElem?_eq_getElem h]
  exact h0 _ (List.getElem_mem h)
 ·rename_i h
  rw [List.getElem?_replicate,if_pos (by omega)]; simp
def kAddStack : Ctr := pur (fun args=>(prA args 0,decFrame (aR args 1),aI args 2)) (fun x=>[.agg [.sl 3 (x.1.1.map encNode),.sl 1 (x.1.2.map encI)],.sl 2 (x.2.1.map encFrame),.v (.int .i64 x.2.2)])
 (fun x=>(x.1.1.length + x.2.1.length ≤ 4398046511104 ∧ (∀ n ∈ x.1.1,n.name.size ≤ 1099511627776) ∧ x.1.2.length ≤ 4398046511104) ∧ ∀ f ∈ x.2.1,f.name.size ≤ 1099511627776)
 (fun d x=>.tup [.agg [.own d,.own (d + 1000)],.v (.bool (addStack x.1.1 x.1.2 x.2.1 x.2.2).2)]) (fun d x=>[(d,.sl 96 3 ((addStack x.1.1 x.1.2 x.2.1 x.2.2).1.1.map encNode)),(d + 1000,.sl 3 1 ((addStack x.1.1 x.1.2 x.2.1 x.2.2).1.2.map encI))])
theorem addNo {N : List Node} {C : List Int} {L : List Frame} {n : Int} (h : profileOk N C = false ∨ n < 0 ∨ 1000000000000 < n ∨ (intern N L).2 < 0) : addStack N C L n = ((N,C),false) := by
 unfold addStack
 rw [if_neg]
 rintro ⟨h1,h2,h3,h4,_⟩
 rcases h with h|h|h|h
 ·rw [h1] at h; cases h
 ·omega
 ·omega
 ·omega
section
noncomputable def cxAsS := mkX [(35,kPrOk),(15,k60),(36,kCopyPr),(37,kIntern)] (COk.cons cPrOkS (COk.cons c58 (COk.cons cCopyPrS (COk.cons cInternS (COk.nil _)))))
theorem cxAsS_t : cxAsS.tys = tys := rfl
theorem cxAsS_c : cxAsS.C = [(35,kPrOk),(15,k60),(36,kCopyPr),(37,kIntern)] := rfl
attribute [local go_sem] cxAsS_t cxAsS_c kPrOk k60 kCopyPr kIntern
theorem cAddStackS : Cn Tryz.prog 16 kAddStack := by
 refine Cn.pur Tryz.func16 (by kernel_rfl) rfl fun d x hx=>?_
 obtain ⟨⟨N,C⟩,L,n⟩ := x
 obtain ⟨⟨hN,hs,hC⟩,hL⟩ := hx
 simp only at hN hs hC hL ⊢
 have hil := intern_len N L
 have hia := intern_at N L
 have hin := intern_names (B := 1099511627776) hs hL
 have hadd : profileOk N C = false ∨ n < 0 ∨ 1000000000000 < n ∨ (intern N L).2 < 0 → addStack N C L n = ((N,C),false) := addNo
 have hyes : profileOk N C = true → 0 ≤ n → n ≤ 1000000000000 → 0 ≤ (intern N L).2 → addStack N C L n = if profileOk (intern N L).1 (addC C (intern N L).1.length (intern N L).2.toNat n) = true then (((intern N L).1,addC C (intern N L).1.length (intern N L).2.toNat n),true) else ((N,C),false) := fun h1 h2 h3 h4=>by
  unfold addStack
  by_cases hp : profileOk (intern N L).1 (addC C (intern N L).1.length (intern N L).2.toNat n) = true
  ·rw [if_pos hp,if_pos ⟨h1,h2,h3,h4,hp⟩]
  ·rw [if_neg hp,if_neg fun hc=>hp hc.2.2.2.2]
 generalize hI : intern N L = I at *
 obtain ⟨M,at'⟩ := I
 simp only at hil hia hin hadd hyes
 generalize hA : addStack N C L n = A at *
 refine Holds.go (c := cxAsS) Tryz.func16 rfl Tryz.results16 Tryz.ntmps16 (by omega) (by simp) rfl ?_
 intro X0 w0
 (repeat' (first|apply zS|apply zB|((first|apply zR|apply zC|apply zT|apply zE|apply zK| refine zD 10 (by decide +kernel) (by kernel_rfl) ?_); simp only [go_sem,hI])|apply And.intro|intro _))
 all_goals first|omega|(simp only; omega)|exact hs _ ‹_›|exact hL _ ‹_›|exact ⟨_,_,_,rfl⟩|exact ⟨_,_,rfl,_,_,rfl,rfl⟩|skip
 iterate 3
  ·rename_i h
   have e := hadd (h.elim .inl fun h=>.inr (h.elim .inl fun h=>.inr (.inl h)))
   subst e
   first|rfl|exact if_neg (by omega)
 iterate 3
  ·rename_i h1 h
   have e := hadd (.inr (.inr (.inr h)))
   subst e
   first|rfl|exact if_neg (by omega)
 rename_i h h0
 obtain ⟨hpo,hn0,hn1⟩ := h
 have hy := hyes hpo hn0 hn1 (by omega)
 obtain ⟨_,hlen,hcnt⟩ := profileOk_iff.1 hpo
 have hpos : ∀ x ∈ C,0 ≤ x ∧ x ≤ 1000000000000 := fun x hx=>by
  obtain ⟨j,hj,rfl⟩ := List.mem_iff_getElem.1 hx
  have h1 := cntOk_at hcnt j hj
  have h2 := profileOk_sum hpo j (by omega)
  omega
 refine zL (fun j : Nat=>⟨[(2,.v (.int .i64 n)),(3,.ptr 3 0 0 0),(6,.ptr 6 0 0 0),(8,.ptr 8 0 0 0),(9,.ptr 9 0 0 0),(10,.v (.int .i64 at'))],
  [(3,.box 29 [.sl 3 (N.map encNode),.sl 1 (C.map encI)]),(6,.box 29 [.v (.slice none 0 0),.v (.slice none 0 0)]),(8,.box 29 [.own 27,.own 1022]),(9,.box 26 [.own 27]),(27,.sl 96 3 (M.map encNode)),(1022,.sl 3 1 ((C ++ List.replicate j 0).map encI))]⟩)
  (fun j=>C.length + j ≤ M.length) (fun j=>M.length - j) 0 (by omega) ?_ ?_
 ·have e0 : C ++ List.replicate 0 0 = C:=by simp
  (simp only [go_sem,e0] <;> (first|(and_intros <;> rfl)|simp))
 intro j hj
 have hcl : (C ++ List.replicate j (0 : Int)).length = C.length + j:=by simp
 by_cases hlt : C.length + j < M.length
 ·have hpad := padC C j
  (repeat' (first|apply zS|apply zB|((first|apply zR|apply zC|apply zT|apply zE|apply zK| refine zD 10 (by decide +kernel) (by kernel_rfl) ?_); simp only [go_sem,hcl,hpad])|apply And.intro|intro _))
  all_goals first|omega|exact rlI ‹_›|exact ⟨_,_,_,rfl⟩|exact ⟨_,_,rfl,_,_,rfl,rfl⟩|skip
  all_goals exact ⟨j + 1,by omega,by omega,by (first|(and_intros <;> rfl)|simp)⟩
 ·have hj2 : j = M.length - C.length:=by omega
  have hk : at'.toNat < (C ++ List.replicate j (0 : Int)).length:=by omega
  have h1 := rowAt_map encI (C ++ List.replicate j 0) at'.toNat hk
  have hb := padC_get (C := C) (m := j) (k := at'.toNat) (by omega) hpos
  have hg : (C ++ List.replicate j (0 : Int))[at'.toNat] = (C ++ List.replicate j 0).getD at'.toNat 0:=by rw [List.getD_eq_getElem?_getD,List.getElem?_eq_getElem hk]; rfl
  rw [hg] at h1
  have hset : addC C M.length at'.toNat n = (C ++ List.replicate j 0).set at'.toNat ((C ++ List.replicate j 0).getD at'.toNat 0 + n):=by rw [hj2]; rfl
  have hal := addC_len C M.length at'.toNat n
  rw [hset] at hy hal
  generalize (C ++ List.replicate j (0 : Int)).getD at'.toNat 0 = v at *
  have hse : ((C ++ List.replicate j 0).map encI).set at'.toNat [SV.v (.int .i64 (v + n))] = ((C ++ List.replicate j 0).set at'.toNat (v + n)).map encI:=by rw [List.map_set]; rfl
  generalize (C ++ List.replicate j (0 : Int)).set at'.toNat (v + n) = D at *
  (repeat' (first|apply zS|apply zB|((first|apply zR|apply zC|apply zT|apply zE|apply zK| refine zD 10 (by decide +kernel) (by kernel_rfl) ?_); simp only [go_sem,hcl,h1,hse,encI])|apply And.intro|intro _))
  all_goals first|omega|(simp only; omega)|exact hin _ ‹_›|exact ⟨_,_,_,rfl⟩|exact ⟨_,_,rfl,_,_,rfl,rfl⟩|skip
  iterate 3
   ·rename_i h8 hf
    have e : A = ((N,C),false):=by rw [hy,if_neg (by rw [hf]; simp)]
    subst e
    first|rfl|exact if_neg (by omega)
  iterate 3
   ·rename_i h8 hf
    have e : A = ((M,D),true):=by rw [hy,if_pos hf]
    subst e
    first|rfl|exact if_neg (by omega)
end
section
noncomputable def cxAsI := mkX [(42,kPrOk),(19,k60),(43,kCopyPr),(44,kIntern)] (COk.cons cPrOkI (COk.cons c60 (COk.cons cCopyPrI (COk.cons cInternI (COk.nil _)))))
theorem cxAsI_t : cxAsI.tys = tys := rfl
theorem cxAsI_c : cxAsI.C = [(42,kPrOk),(19,k60),(43,kCopyPr),(44,kIntern)] := rfl
attribute [local go_sem] cxAsI_t cxAsI_c kPrOk k60 kCopyPr kIntern
theorem cAddStackI : Cn Tryz.prog 20 kAddStack := by
 refine Cn.pur Tryz.func20 (by kernel_rfl) rfl fun d x hx=>?_
 obtain ⟨⟨N,C⟩,L,n⟩ := x
 obtain ⟨⟨hN,hs,hC⟩,hL⟩ := hx
 simp only at hN hs hC hL ⊢
 have hil := intern_len N L
 have hia := intern_at N L
 have hin := intern_names (B := 1099511627776) hs hL
 have hadd : profileOk N C = false ∨ n < 0 ∨ 1000000000000 < n ∨ (intern N L).2 < 0 → addStack N C L n = ((N,C),false) := addNo
 have hyes : profileOk N C = true → 0 ≤ n → n ≤ 1000000000000 → 0 ≤ (intern N L).2 → addStack N C L n = if profileOk (intern N L).1 (addC C (intern N L).1.length (intern N L).2.toNat n) = true then (((intern N L).1,addC C (intern N L).1.length (intern N L).2.toNat n),true) else ((N,C),false) := fun h1 h2 h3 h4=>by
  unfold addStack
  by_cases hp : profileOk (intern N L).1 (addC C (intern N L).1.length (intern N L).2.toNat n) = true
  ·rw [if_pos hp,if_pos ⟨h1,h2,h3,h4,hp⟩]
  ·rw [if_neg hp,if_neg fun hc=>hp hc.2.2.2.2]
 generalize hI : intern N L = I at *
 obtain ⟨M,at'⟩ := I
 simp only at hil hia hin hadd hyes
 generalize hA : addStack N C L n = A at *
 refine Holds.go (c := cxAsI) Tryz.func20 rfl Tryz.results20 Tryz.ntmps20 (by omega) (by simp) rfl ?_
 intro X0 w0
 (repeat' (first|apply zS|apply zB|((first|apply zR|apply zC|apply zT|apply zE|apply zK);simp only [go_sem,hI])|apply And.intro|intro _))
 all_goals first|omega|(simp only; omega)|exact hs _ ‹_›|exact hL _ ‹_›|exact ⟨_,_,_,rfl⟩|exact ⟨_,_,rfl,_,_,rfl,rfl⟩|skip
 iterate 3
  ·rename_i h
   have e := hadd (h.elim .inl fun h=>.inr (h.elim .inl fun h=>.inr (.inl h)))
   subst e
   first|rfl|exact if_neg (by omega)
 iterate 3
  ·rename_i h1 h
   have e := hadd (.inr (.inr (.inr h)))
   subst e
   first|rfl|exact if_neg (by omega)
 rename_i h h0
 obtain ⟨hpo,hn0,hn1⟩ := h
 have hy := hyes hpo hn0 hn1 (by omega)
 obtain ⟨_,hlen,hcnt⟩ := profileOk_iff.1 hpo
 have hpos : ∀ x ∈ C,0 ≤ x ∧ x ≤ 1000000000000 := fun x hx=>by
  obtain ⟨j,hj,rfl⟩ := List.mem_iff_getElem.1 hx
  have h1 := cntOk_at hcnt j hj
  have h2 := profileOk_sum hpo j (by omega)
  omega
 refine zL (fun j : Nat=>⟨[(2,.v (.int .i64 n)),(3,.ptr 3 0 0 0),(6,.ptr 6 0 0 0),(8,.ptr 8 0 0 0),(9,.ptr 9 0 0 0),(10,.v (.int .i64 at'))],
  [(3,.box 29 [.sl 3 (N.map encNode),.sl 1 (C.map encI)]),(6,.box 29 [.v (.slice none 0 0),.v (.slice none 0 0)]),(8,.box 29 [.own 27,.own 1022]),(9,.box 26 [.own 27]),(27,.sl 96 3 (M.map encNode)),(1022,.sl 3 1 ((C ++ List.replicate j 0).map encI))]⟩)
  (fun j=>C.length + j ≤ M.length) (fun j=>M.length - j) 0 (by omega) ?_ ?_
 ·have e0 : C ++ List.replicate 0 0 = C:=by simp
  (simp only [go_sem,e0] <;> (first|(and_intros <;> rfl)|simp))
 intro j hj
 have hcl : (C ++ List.replicate j (0 : Int)).length = C.length + j:=by simp
 by_cases hlt : C.length + j < M.length
 ·have hpad := padC C j
  (repeat' (first|apply zS|apply zB|((first|apply zR|apply zC|apply zT|apply zE|apply zK);simp only [go_sem,hcl,hpad])|apply And.intro|intro _))
  all_goals first|omega|exact rlI ‹_›|exact ⟨_,_,_,rfl⟩|exact ⟨_,_,rfl,_,_,rfl,rfl⟩|skip
  all_goals exact ⟨j + 1,by omega,by omega,by (first|(and_intros <;> rfl)|simp)⟩
 ·have hj2 : j = M.length - C.length:=by omega
  have hk : at'.toNat < (C ++ List.replicate j (0 : Int)).length:=by omega
  have h1 := rowAt_map encI (C ++ List.replicate j 0) at'.toNat hk
  have hb := padC_get (C := C) (m := j) (k := at'.toNat) (by omega) hpos
  have hg : (C ++ List.replicate j (0 : Int))[at'.toNat] = (C ++ List.replicate j 0).getD at'.toNat 0:=by rw [List.getD_eq_getElem?_getD,List.getElem?_eq_getElem hk]; rfl
  rw [hg] at h1
  have hset : addC C M.length at'.toNat n = (C ++ List.replicate j 0).set at'.toNat ((C ++ List.replicate j 0).getD at'.toNat 0 + n):=by rw [hj2]; rfl
  have hal := addC_len C M.length at'.toNat n
  rw [hset] at hy hal
  generalize (C ++ List.replicate j (0 : Int)).getD at'.toNat 0 = v at *
  have hse : ((C ++ List.replicate j 0).map encI).set at'.toNat [SV.v (.int .i64 (v + n))] = ((C ++ List.replicate j 0).set at'.toNat (v + n)).map encI:=by rw [List.map_set]; rfl
  generalize (C ++ List.replicate j (0 : Int)).set at'.toNat (v + n) = D at *
  (repeat' (first|apply zS|apply zB|((first|apply zR|apply zC|apply zT|apply zE|apply zK);simp only [go_sem,hcl,h1,hse,encI])|apply And.intro|intro _))
  all_goals first|omega|(simp only; omega)|exact hin _ ‹_›|exact ⟨_,_,_,rfl⟩|exact ⟨_,_,rfl,_,_,rfl,rfl⟩|skip
  iterate 3
   ·rename_i h8 hf
    have e : A = ((N,C),false):=by rw [hy,if_neg (by rw [hf]; simp)]
    subst e
    first|rfl|exact if_neg (by omega)
  iterate 3
   ·rename_i h8 hf
    have e : A = ((M,D),true):=by rw [hy,if_pos hf]
    subst e
    first|rfl|exact if_neg (by omega)
end
end Go.Proofs.YtjjbcoigaejoaaaGreat

namespace Go.Proofs.YtjjbcoigaejoaaaGreat
open Go.Pl
theorem getD_set' {C : List Int} {m k : Nat} {x : Int} (hm : m < C.length) : (C.set m x).getD k 0 = if k = m then x else C.getD k 0 := by
 rw [List.getD_eq_getElem?_getD,List.getElem?_set]
 by_cases h : m = k
 ·subst h; simp [hm]
 ·rw [if_neg h,if_neg (Ne.symm h),List.getD_eq_getElem?_getD]
theorem getD_pad {C : List Int} {m k : Nat} : (C ++ List.replicate m 0).getD k 0 = C.getD k 0 := by
 rw [List.getD_eq_getElem?_getD,List.getD_eq_getElem?_getD]
 rcases Nat.lt_or_ge k C.length with h|h
 ·rw [List.getElem?_append_left h]
 ·rw [List.getElem?_append_right h,List.getElem?_eq_none h]
  rw [List.getElem?_replicate]
  split <;> rfl
theorem addC_getD {C : List Int} {m q k : Nat} {n : Int} (hq : q < max C.length m) : (addC C m q n).getD k 0 = if k = q then C.getD k 0 + n else C.getD k 0 := by
 unfold addC
 rw [getD_set' (by simp only [List.length_append,List.length_replicate]; omega),getD_pad,getD_pad]
 split
 ·rename_i h; rw [h]
 ·rfl
end Go.Proofs.YtjjbcoigaejoaaaGreat

namespace Go.Proofs.YtjjbcoigaejoaaaGreat
theorem firstIdx_app {α : Type} (p : α → Bool) (A B : List α) : firstIdx p (A ++ B) = if 0 ≤ firstIdx p A then firstIdx p A else if 0 ≤ firstIdx p B then (A.length : Int) + firstIdx p B else -1 := by
 unfold firstIdx
 rw [List.findIdx?_append]
 cases A.findIdx? p with
 |some k=>simp
 |none =>
  cases B.findIdx? p with
  |some k =>
   simp only [Option.none_or,Option.map_some]
   rw [if_neg (by decide),if_pos (by omega)]; omega
  |none=>simp
theorem child_app {N : List Node} {p : Int} {f : Frame} (h : ¬ child N p f < 0) (M : List Node) : child (N ++ M) p f = child N p f := by
 unfold child at h ⊢
 rw [firstIdx_app,if_pos (by omega)]
theorem child_new {N : List Node} {p : Int} {f : Frame} (h : child N p f < 0) (M : List Node) : child (N ++ [mkNode p f] ++ M) p f = (N.length : Int) := by
 unfold child at h ⊢
 have h1 : firstIdx (hitNode p f) [mkNode p f] = 0 := by
  unfold firstIdx
  simp [List.findIdx?_cons,hitNode,mkNode,nodeFr]
 rw [List.append_assoc,firstIdx_app,if_neg (by omega),firstIdx_app,h1]
 simp
def findGo (N : List Node) : List Frame → Int → Int
 | [],p=>p
 |f :: L,p=>if child N p f < 0 then -1 else findGo N L (child N p f)
theorem findGo_app {N : List Node} (M : List Node) : ∀ (L : List Frame) (p : Int),0 ≤ p ∨ L ≠ [] → 0 ≤ findGo N L p → findGo (N ++ M) L p = findGo N L p
 | [],p,_,h=>rfl
 |f :: L,p,_,h=>by
  rw [findGo] at h ⊢
  split at h
  ·omega
  ·rename_i hc
   rw [findGo,child_app hc,if_neg hc,if_neg hc]
   exact findGo_app M L _ (.inl (by omega)) h
theorem intGo_pre : ∀ (L : List Frame) (s : List Node × Int),∃ M,(intGo L s).1 = s.1 ++ M
 | [],s=>⟨[],by simp [intGo]⟩
 |f :: L,s=>by
  rw [intGo]
  split
  ·obtain ⟨M,e⟩ := intGo_pre L (s.1 ++ [mkNode s.2 f],(s.1.length : Int))
   exact ⟨[mkNode s.2 f] ++ M,by rw [e,List.append_assoc]⟩
  ·exact intGo_pre L (s.1,child s.1 s.2 f)
theorem intGo_find : ∀ (L : List Frame) (s : List Node × Int),findGo (intGo L s).1 L s.2 = (intGo L s).2
 | [],s=>rfl
 |f :: L,s=>by
  rw [intGo]
  split
  ·rename_i hc
   obtain ⟨M,e⟩ := intGo_pre L (s.1 ++ [mkNode s.2 f],(s.1.length : Int))
   have ih := intGo_find L (s.1 ++ [mkNode s.2 f],(s.1.length : Int))
   rw [findGo]
   rw [e] at ih ⊢
   simp only at ih ⊢
   rw [child_new hc,if_neg (by omega)]
   exact ih
  ·rename_i hc
   obtain ⟨M,e⟩ := intGo_pre L (s.1,child s.1 s.2 f)
   have ih := intGo_find L (s.1,child s.1 s.2 f)
   rw [findGo]
   rw [e] at ih ⊢
   simp only at ih ⊢
   rw [child_app hc,if_neg hc]
   exact ih
abbrev PrT := List Node × List Int
def trGo : List (List Frame) → Int → PrT → Option PrT
 |F :: S,n,p=>if (addStack p.1 p.2 F n).2 = true then trGo S n (addStack p.1 p.2 F n).1 else none
 | [],_,p=>some p
noncomputable def tru (P : List Line) (l n : Int) : Option PrT := if (interp P l).2.2.2 = 0 ∧ 1 ≤ n ∧ n ≤ 3 then trGo (vstk P l) n ([],[]) else none
structure TrI (S : List (List Frame)) (n : Int) (k : Nat) (s : PrT) : Prop where
 ok : profileOk s.1 s.2 = true
 sum : s.2.sum = n * k
 len : s.1.length ≤ 7 * k
 lenC : s.2.length ≤ 7 * k
 names : ∀ x ∈ s.1,x.name.size ≤ 1048576
 cnt : ∀ j (hj : j < k) (hs : j < S.length),∃ q : Nat,findGo s.1 S[j] (-1) = (q : Int) ∧ q < s.1.length ∧ n ≤ s.2.getD q 0
structure StOk (S : List (List Frame)) : Prop where
 len : S.length ≤ 1000
 st : ∀ F ∈ S,F ≠ [] ∧ F.length ≤ 7 ∧ F.all frOk = true ∧ ∀ f ∈ F,f.name.size ≤ 1048576
theorem TrI.zero (S : List (List Frame)) (n : Int) : TrI S n 0 ([],[]) := ⟨by decide,by simp,by simp,by simp,by simp,fun j hj=>by omega⟩
theorem getD_nonneg {C : List Int} (h : ∀ x ∈ C,0 ≤ x) (k : Nat) : 0 ≤ C.getD k 0 := by
 rw [List.getD_eq_getElem?_getD]
 cases hk : C[k]? with
 |none=>exact Int.le_refl _
 |some x=>exact h x (List.mem_of_getElem? hk)
theorem getD_addC_le {C : List Int} {m q k : Nat} {n : Int} (hq : q < max C.length m) (hn : 0 ≤ n) : C.getD k 0 ≤ (addC C m q n).getD k 0 := by
 rw [addC_getD hq]
 split <;> omega
theorem TrI.next {S : List (List Frame)} {n : Int} {k : Nat} {s : PrT} (hS : StOk S) (h1 : 1 ≤ n) (h3 : n ≤ 3) (h : TrI S n k s) (hk : k < S.length) : (addStack s.1 s.2 S[k] n).2 = true ∧ TrI S n (k + 1) (addStack s.1 s.2 S[k] n).1 := by
 obtain ⟨f1,f2,f3,f4⟩ := hS.st _ (List.getElem_mem hk)
 have hl := hS.len
 have hsum := h.sum
 have hnk : n * (k : Int) ≤ 3 * 1000 := by
  have : n * (k : Int) ≤ 3 * (k : Int) := Int.mul_le_mul_of_nonneg_right h3 (by omega)
  omega
 obtain ⟨a1,a2,a3⟩ := addStack_total (n := n) h.ok f1 f3 (by omega) (by omega)
 have al := addStack_len s.1 s.2 S[k] n
 refine ⟨a1,⟨a3,?_,?_,?_,addStack_names h.names f4,fun j hj hs=>?_⟩⟩
 ·rw [a2,hsum,show ((k + 1 : Nat) : Int) = (k : Int) + 1 by omega,Int.mul_add,Int.mul_one]
 ·have := h.len; omega
 ·have := h.len; have := h.lenC; omega
 ·obtain ⟨p1,p2,p3⟩ := profileOk_iff.1 h.ok
  have hcond : profileOk s.1 s.2 = true ∧ 0 ≤ n ∧ n ≤ 1000000000000 ∧ 0 ≤ (intern s.1 S[k]).2 ∧ profileOk (intern s.1 S[k]).1 (addC s.2 (intern s.1 S[k]).1.length (intern s.1 S[k]).2.toNat n) = true := by
   by_cases hc : profileOk s.1 s.2 = true ∧ 0 ≤ n ∧ n ≤ 1000000000000 ∧ 0 ≤ (intern s.1 S[k]).2 ∧ profileOk (intern s.1 S[k]).1 (addC s.2 (intern s.1 S[k]).1.length (intern s.1 S[k]).2.toNat n) = true
   ·exact hc
   ·unfold addStack at a1; rw [if_neg hc] at a1; cases a1
  have he : (addStack s.1 s.2 S[k] n).1 = ((intern s.1 S[k]).1,addC s.2 (intern s.1 S[k]).1.length (intern s.1 S[k]).2.toNat n) := by
   unfold addStack; rw [if_pos hcond]
  have hi : intern s.1 S[k] = intGo S[k] (s.1,-1) := by
   unfold intern; rw [if_pos ⟨p1,f1,f3⟩]
  have hfind := intGo_find S[k] (s.1,-1)
  obtain ⟨M,hM⟩ := intGo_pre S[k] (s.1,-1)
  have hat := intern_at s.1 S[k]
  have hln := intern_len s.1 S[k]
  have h0 := hcond.2.2.2.1
  rw [he]
  simp only
  generalize hI : intern s.1 S[k] = I at *
  rw [← hi] at hfind hM
  by_cases hjk : j = k
  ·subst hjk
   refine ⟨I.2.toNat,by rw [hfind]; omega,by omega,?_⟩
   rw [addC_getD (by omega),if_pos rfl]
   have := getD_nonneg (cntOk_nonneg p3) I.2.toNat
   omega
  ·obtain ⟨q,q1,q2,q3⟩ := h.cnt j (by omega) hs
   refine ⟨q,?_,by omega,?_⟩
   ·have hne := (hS.st _ (List.getElem_mem hs)).1
    rw [hM]
    simp only
    rw [findGo_app M _ _ (.inr hne) (by omega),q1]
   ·exact Int.le_trans q3 (getD_addC_le (by omega) (by omega))
theorem trGo_run {S : List (List Frame)} {n : Int} (hS : StOk S) (h1 : 1 ≤ n) (h3 : n ≤ 3) : ∀ (m k : Nat) (s : PrT),S.length - k = m → k ≤ S.length → TrI S n k s → ∃ t,trGo (S.drop k) n s = some t ∧ TrI S n S.length t
 | 0,k,s,hm,hk,h=>by
  obtain rfl : k = S.length:=by omega
  exact ⟨s,by rw [List.drop_length]; rfl,h⟩
 |m + 1,k,s,hm,hk,h=>by
  have hlt : k < S.length:=by omega
  obtain ⟨a1,a2⟩ := h.next hS h1 h3 hlt
  obtain ⟨t,t1,t2⟩ := trGo_run hS h1 h3 m (k + 1) _ (by omega) (by omega) a2
  exact ⟨t,by rw [List.drop_eq_getElem_cons hlt,trGo,if_pos a1]; exact t1,t2⟩
theorem folN_line {P : List Line} : ∀ n : Nat,folN P n ≠ ⟨#[]⟩ → ∃ x ∈ P,x.kind = 0 ∧ folN P n = x.name
 | 0,h=>absurd rfl h
 |n + 1,h=>by
  rw [folN] at h ⊢
  cases hx : P[n]? with
  |none=>rw [hx] at h; simp only at h ⊢; exact folN_line n h
  |some x =>
   rw [hx] at h
   simp only at h ⊢
   split
   ·rename_i h0; exact ⟨x,List.mem_of_getElem? hx,h0,rfl⟩
   ·rename_i h0; rw [if_neg h0] at h; exact folN_line n h
theorem fol_line {P : List Line} {k : Int} (h : fol P k ≠ ⟨#[]⟩) : 0 ≤ k ∧ k < P.length ∧ ∃ x ∈ P,x.kind = 0 ∧ fol P k = x.name := by
 unfold fol at h ⊢
 split
 ·rename_i hk
  rw [if_pos hk] at h
  obtain ⟨x,x1,x2,x3⟩ := folN_line _ h
  exact ⟨hk.1,hk.2,x,x1,x2,x3⟩
 ·rename_i hk
  rw [if_neg hk] at h
  exact absurd rfl h
theorem GV.frames {P : List Line} {v : List Int} (h : GV P v) : vfr P v = visitF P v := by
 unfold vfr
 rw [if_neg]
 rintro ⟨k,k1,k2⟩
 exact h.fl k k1 k2
theorem GV.st {P : List Line} (hP : ProgS P) {v : List Int} (h : GV P v) : vfr P v ≠ [] ∧ (vfr P v).length = v.length ∧ (vfr P v).all frOk = true ∧ (∀ f ∈ vfr P v,f.name.size ≤ 1048576) ∧ ∃ f R,vfr P v = f :: R ∧ f.name = mainB := by
 have hs := h.some
 have hmn := h.mn
 have hfl := h.fl
 rw [h.frames]
 have hf : ∀ f ∈ visitF P v,frOk f = true := fun f hf=>by
  obtain ⟨k,hk,rfl⟩ := List.mem_map.1 hf
  obtain ⟨k1,k2,x,x1,x2,x3⟩ := fol_line (hfl k hk)
  have := hP.few
  exact frOk_iff.2 ⟨by simp only; rw [x3]; exact (hP.lines x x1).name (.inl x2),k1,by simp only; omega⟩
 refine ⟨?_,by simp [visitF],List.all_eq_true.2 hf,fun f hf'=>?_,?_⟩
 ·cases v with
  |nil=>exact absurd rfl hs
  |cons a v=>simp [visitF]
 ·have := (nameOk_letters (frOk_iff.1 (hf f hf')).1)
  obtain ⟨a,b,c⟩ := this
  omega
 ·cases v with
  |nil=>exact absurd rfl hs
  |cons a v=>exact ⟨_,_,rfl,hmn⟩
theorem vstk_ok (P : List Line) (l : Int) : StOk (vstk P l) := by
 obtain ⟨h1,h2⟩ := interp_vis P l
 refine ⟨by unfold vstk; rw [List.length_map]; exact h2,fun F hF=>?_⟩
 unfold vstk at hF
 obtain ⟨v,hv,rfl⟩ := List.mem_map.1 hF
 by_cases hp : progOk P = true
 ·obtain ⟨a,b,c,d,_⟩ := (h1 v hv).st (progOk_iff.1 hp)
  exact ⟨a,by have := (h1 v hv).len; omega,c,d⟩
 ·exfalso
  have : (interp P l).2.1 = []:=by unfold interp; rw [if_neg fun q=>hp q.1]
  rw [this] at hv; cases hv
theorem tru_at {P : List Line} {l n : Int} {t : PrT} (h : tru P l n = some t) : 1 ≤ n ∧ n ≤ 3 ∧ TrI (vstk P l) n (vstk P l).length t := by
 unfold tru at h
 split at h
 ·rename_i hc
  obtain ⟨t',t1,t2⟩ := trGo_run (vstk_ok P l) hc.2.1 hc.2.2 _ 0 ([],[]) rfl (by omega) (TrI.zero _ _)
  rw [List.drop_zero,h] at t1
  cases t1
  exact ⟨hc.2.1,hc.2.2,t2⟩
 ·cases h
end Go.Proofs.YtjjbcoigaejoaaaGreat

namespace Go.Proofs.YtjjbcoigaejoaaaGreat
open Go.Vc
attribute [local irreducible] Go.Vc.WP
attribute [local go_sem] cx0_t cx0_c
def fle257c8123a : List Go.Vc.Fp := [⟨[10],[],[],[12,42,1042],[],[]⟩,⟨[8],[],[],[12,42,1042],[],[]⟩,⟨[11],[],[],[12,42,1042],[],[]⟩,⟨[37,38],[1,2],[],[12,42,1042],[],[]⟩,⟨[39],[1,2,3],[],[12,42,1042],[],[]⟩,⟨[2],[],[],[12,42,1042],[],[]⟩,⟨[36,40,41],[0,1,2,3,4,5],[],[12],[],[42,1042]⟩,⟨[42],[0,1,2,3,4,5,6],[],[12],[],[]⟩,⟨[35],[0,1,2,3,4,5,6,7],[],[12],[],[]⟩,⟨[35],[0,1,2,3,4,5,6,7],[],[12],[],[]⟩,⟨[],[],[],[42,1042],[],[12]⟩,⟨[],[0,1,2,3,4,5,6,7,8,9,10],[],[],[],[]⟩,⟨[],[0,1,2,3,4,5,6,7,8,9,10,11],[],[],[],[]⟩]
attribute [local go_sem] fle257c8123a
attribute [local go_sem] isV_Node isV_It decNode_enc decFrame_enc oneFrame_enc stkA oneFrame_ab oneNode_abc decI_enc prA St.ado St.adoptB St.adoptS rp isNil St.fzS addL behind decLine_enc
noncomputable def kTru : Ctr := pur (fun args=>(decLine (aR args 0),aI args 1,aI args 2)) (fun x=>[.sl 4 (x.1.map encLine),.v (.int .i64 x.2.1),.v (.int .i64 x.2.2)]) (fun x=>x.1.length ≤ 1048576 ∧ ∀ y ∈ x.1,smLine y)
 (fun d x=>.tup [.agg [.own d,.own (d + 1000)],.v (.bool (tru x.1 x.2.1 x.2.2).isSome)]) (fun d x=>[(d,.sl 96 3 (((tru x.1 x.2.1 x.2.2).getD ([],[])).1.map encNode)),(d + 1000,.sl 3 1 (((tru x.1 x.2.1 x.2.2).getD ([],[])).2.map encI))])
theorem tru_no {P : List Line} {l n : Int} (h : ¬ ((interp P l).2.2.2 = 0 ∧ 1 ≤ n ∧ n ≤ 3)) : tru P l n = none := if_neg h
theorem tru_go {P : List Line} {l n : Int} (h : (interp P l).2.2.2 = 0 ∧ 1 ≤ n ∧ n ≤ 3) : tru P l n = trGo (vstk P l) n ([],[]) := if_pos h
section
attribute [local irreducible] smLine
noncomputable def cxTruI := mkX [(18,kVst),(19,k60),(20,kAddStack)] (COk.cons cVstI (COk.cons c60 (COk.cons cAddStackI (COk.nil _))))
theorem cxTruI_t : cxTruI.tys = tys := rfl
theorem cxTruI_c : cxTruI.C = [(18,kVst),(19,k60),(20,kAddStack)] := rfl
attribute [local go_sem] cxTruI_t cxTruI_c kVst k60 kAddStack
set_option maxHeartbeats 4000000
theorem cTruI : Cn Tryz.prog 7 kTru := by
 refine Cn.pur Tryz.func7 (by kernel_rfl) rfl fun d x hx=>?_
 obtain ⟨P,l,n⟩ := x
 obtain ⟨hPL,hsm⟩ := hx
 simp only at hPL hsm ⊢
 have hSt := vstk_ok P l
 refine Holds.go (c := cxTruI) Tryz.func7 rfl Tryz.results7 Tryz.ntmps7 (by omega) (by simp) rfl ?_
 intro X0 w0
 by_cases hc : (interp P l).2.2.2 = 0
 rotate_left
 ·have hno : tru P l n = none := tru_no fun q=>hc q.1
  have hcF : ((interp P l).2.2.2 = 0) = False := eq_false hc
  rw [hno]
  (repeat' (first|apply zS|apply zB|((first|apply zR|apply zC|apply zT|apply zE|apply zK);simp only [go_sem,hcF])|apply And.intro|intro _))
  all_goals first|omega|rfl|exact hPL|exact hsm _ ‹_›|exact ⟨_,_,rfl,_,_,rfl,rfl⟩|exact ⟨_,_,rfl⟩|exact ⟨_,_,if_neg (by omega)⟩|exact if_neg (by omega)|skip
 have hcT : ((interp P l).2.2.2 = 0) = True := eq_true hc
 by_cases hn : 1 ≤ n ∧ n ≤ 3
 rotate_left
 ·have hno : tru P l n = none := tru_no fun q=>hn q.2
  have hnF : (1 ≤ n ∧ n ≤ 3) = False := eq_false hn
  rw [hno]
  (repeat' (first|apply zS|apply zB|((first|apply zR|apply zC|apply zT|apply zE|apply zK);simp only [go_sem,hcT,hnF])|apply And.intro|intro _))
  all_goals first|omega|rfl|exact hPL|exact hsm _ ‹_›|exact ⟨_,_,rfl,_,_,rfl,rfl⟩|exact ⟨_,_,rfl⟩|exact ⟨_,_,if_neg (by omega)⟩|exact if_neg (by omega)|skip
 have hnT : (1 ≤ n ∧ n ≤ 3) = True := eq_true hn
 obtain ⟨n1,n3⟩ := hn
 have hgo := tru_go ⟨hc,n1,n3⟩
 (repeat' (first|apply zS|apply zB|((first|apply zR|apply zC|apply zT|apply zE|apply zK);simp only [go_sem,hcT,hnT])|apply And.intro|intro _))
 all_goals first|omega|rfl|exact hPL|exact hsm _ ‹_›|skip
 refine zP [18] [] rfl ?_
 simp only [go_sem]
 rw [hgo]
 generalize vstk P l = S at *
 have hSl := hSt.len
 refine zA [.b 10 0 40 96 3,.b 10 1 1040 3 1] ?_
 refine zL (fun q : Nat × PrT=>⟨[(2,.v (.int .i64 n)),(6,.ptr 6 0 0 0),(10,.ptr 10 0 0 0),(30,.sl 1 (S.map encFS)),(31,.v (.int .i64 (S.length : Nat))),(32,.v (.int .i64 (q.1 : Nat)))],
  [(6,.box 29 [.v (.slice none 0 0),.v (.slice none 0 0)]),(10,.box 29 [.own 40,.own 1040]),(40,.sl 96 3 (q.2.1.map encNode)),(1040,.sl 3 1 (q.2.2.map encI))]⟩)
  (fun q=>q.1 ≤ S.length ∧ TrI S n q.1 q.2 ∧ trGo S n ([],[]) = trGo (S.drop q.1) n q.2) (fun q=>S.length - q.1) (0,[],[]) ⟨by simp,TrI.zero _ _,rfl⟩ ?_ ?_
 ·(simp only [go_sem] <;> (first|(and_intros <;> rfl)|simp))
 rintro ⟨k,N,C⟩ ⟨hk,hI,hG⟩
 refine zP [] [(40,60),(1040,1060)] rfl ?_
 simp only at hk hI hG ⊢
 have h2 := hI.len
 have h3 := hI.lenC
 have h4 := hI.names
 simp only at h2 h3 h4
 have hnb : ∀ x ∈ N,x.name.size ≤ 1099511627776 := fun x hx=>by have := h4 x hx; omega
 by_cases hlt : k < S.length
 ·have hli : (k : Int) < (S.length : Nat):=by omega
  have h1 := rowAt_map encFS S k hlt
  rw [encFS] at h1
  obtain ⟨f1,f2,f3,f4⟩ := hSt.st _ (List.getElem_mem hlt)
  obtain ⟨hb,hI2⟩ := hI.next hSt n1 n3 hlt
  rw [List.drop_eq_getElem_cons hlt,trGo,if_pos hb] at hG
  simp only at hb hI2 hG
  have hfb : ∀ g ∈ S[k],g.name.size ≤ 1099511627776 := fun g hg=>by have := f4 g hg; omega
  generalize S[k] = F at h1 f1 f2 f3 f4 hb hI2 hG hfb
  (repeat' (first|apply zS|apply zB|((first|apply zR|apply zC|apply zT|apply zE|apply zK);simp only [go_sem,hli,h1,hb])|apply And.intro|intro _))
  all_goals first|omega|rfl|exact hnb _ ‹_›|exact hfb _ ‹_›|exact ⟨_,_,_,rfl⟩|exact ⟨_,_,rfl,_,_,rfl,rfl⟩|(simp only; omega)|skip
  all_goals first|exact ⟨(k + 1,(addStack N C F n).1),⟨by simp only; omega,hI2,hG⟩,by simp only; omega,rfl,rfl,rfl⟩|trace_state
 ·have hge : ¬ (k : Int) < (S.length : Nat):=by omega
  have he : trGo S n ([],[]) = some (N,C):=by rw [hG,List.drop_of_length_le (by omega)]; rfl
  rw [he]
  (repeat' (first|apply zS|apply zB|((first|apply zR|apply zC|apply zT|apply zE|apply zK);simp only [go_sem,hge])|apply And.intro|intro _))
  all_goals first|omega|rfl|exact ⟨_,_,rfl,_,_,rfl,rfl⟩|exact if_neg (by omega)|skip
end
section
attribute [local irreducible] smLine
noncomputable def cxTruS := mkX [(14,kVst),(15,k60),(16,kAddStack)] (COk.cons cVstS (COk.cons c58 (COk.cons cAddStackS (COk.nil _))))
theorem cxTruS_t : cxTruS.tys = tys := rfl
theorem cxTruS_c : cxTruS.C = [(14,kVst),(15,k60),(16,kAddStack)] := rfl
attribute [local go_sem] cxTruS_t cxTruS_c kVst k60 kAddStack
set_option maxHeartbeats 4000000
theorem cTruS : Cn Tryz.prog 5 kTru := by
 refine Cn.pur Tryz.func5 (by kernel_rfl) rfl fun d x hx=>?_
 obtain ⟨P,l,n⟩ := x
 obtain ⟨hPL,hsm⟩ := hx
 simp only at hPL hsm ⊢
 have hSt := vstk_ok P l
 refine Holds.go (c := cxTruS) Tryz.func5 rfl Tryz.results5 Tryz.ntmps5 (by omega) (by simp) rfl ?_
 intro X0 w0
 by_cases hc : (interp P l).2.2.2 = 0
 rotate_left
 ·have hno : tru P l n = none := tru_no fun q=>hc q.1
  have hcF : ((interp P l).2.2.2 = 0) = False := eq_false hc
  rw [hno]
  (repeat' (first|apply zS|apply zB|((first|apply zR|apply zC|apply zT|apply zE|apply zK| refine WP.flowE 11 9 [] 11 fle257c8123a [12,35,36,37,38,39,40,41,42,43,44] [12,42,1042] [] (by decide +kernel) (by decide +kernel) (by kernel_rfl) (by kernel_rfl) (by kernel_rfl) ?_); simp only [go_sem,hcF])|apply And.intro|intro _))
  all_goals first|omega|rfl|exact hPL|exact hsm _ ‹_›|exact ⟨_,_,rfl,_,_,rfl,rfl⟩|exact ⟨_,_,rfl⟩|exact ⟨_,_,if_neg (by omega)⟩|exact if_neg (by omega)|skip
 have hcT : ((interp P l).2.2.2 = 0) = True := eq_true hc
 by_cases hn : 1 ≤ n ∧ n ≤ 3
 rotate_left
 ·have hno : tru P l n = none := tru_no fun q=>hn q.2
  have hnF : (1 ≤ n ∧ n ≤ 3) = False := eq_false hn
  rw [hno]
  (repeat' (first|apply zS|apply zB|((first|apply zR|apply zC|apply zT|apply zE|apply zK| refine WP.flowE 11 9 [] 11 fle257c8123a [12,35,36,37,38,39,40,41,42,43,44] [12,42,1042] [] (by decide +kernel) (by decide +kernel) (by kernel_rfl) (by kernel_rfl) (by kernel_rfl) ?_); simp only [go_sem,hcT,hnF])|apply And.intro|intro _))
  all_goals first|omega|rfl|exact hPL|exact hsm _ ‹_›|exact ⟨_,_,rfl,_,_,rfl,rfl⟩|exact ⟨_,_,rfl⟩|exact ⟨_,_,if_neg (by omega)⟩|exact if_neg (by omega)|skip
 have hnT : (1 ≤ n ∧ n ≤ 3) = True := eq_true hn
 obtain ⟨n1,n3⟩ := hn
 have hgo := tru_go ⟨hc,n1,n3⟩
 (repeat' (first|apply zS|apply zB|((first|apply zR|apply zC|apply zT|apply zE|apply zK| refine WP.flowE 11 9 [] 11 fle257c8123a [12,35,36,37,38,39,40,41,42,43,44] [12,42,1042] [] (by decide +kernel) (by decide +kernel) (by kernel_rfl) (by kernel_rfl) (by kernel_rfl) ?_); simp only [go_sem,hcT,hnT])|apply And.intro|intro _))
 all_goals first|omega|rfl|exact hPL|exact hsm _ ‹_›|skip
 refine zP [17] [] rfl ?_
 simp only [go_sem]
 rw [hgo]
 generalize vstk P l = S at *
 have hSl := hSt.len
 refine zA [.b 10 0 42 96 3,.b 10 1 1042 3 1] ?_
 refine zL (fun q : Nat × PrT=>⟨[(2,.v (.int .i64 n)),(6,.ptr 6 0 0 0),(8,.sl 1 (S.map encFS)),(10,.ptr 10 0 0 0),(11,.v (.int .i64 (q.1 : Nat)))],
  [(6,.box 29 [.v (.slice none 0 0),.v (.slice none 0 0)]),(10,.box 29 [.own 42,.own 1042]),(42,.sl 96 3 (q.2.1.map encNode)),(1042,.sl 3 1 (q.2.2.map encI))]⟩)
  (fun q=>q.1 ≤ S.length ∧ TrI S n q.1 q.2 ∧ trGo S n ([],[]) = trGo (S.drop q.1) n q.2) (fun q=>S.length - q.1) (0,[],[]) ⟨by simp,TrI.zero _ _,rfl⟩ ?_ ?_
 ·(simp only [go_sem] <;> (first|(and_intros <;> rfl)|simp))
 rintro ⟨k,N,C⟩ ⟨hk,hI,hG⟩
 refine zP [] [(42,60),(1042,1060)] rfl ?_
 simp only at hk hI hG ⊢
 have h2 := hI.len
 have h3 := hI.lenC
 have h4 := hI.names
 simp only at h2 h3 h4
 have hnb : ∀ x ∈ N,x.name.size ≤ 1099511627776 := fun x hx=>by have := h4 x hx; omega
 by_cases hlt : k < S.length
 ·have hli : (k : Int) < (S.length : Nat):=by omega
  have h1 := rowAt_map encFS S k hlt
  rw [encFS] at h1
  obtain ⟨f1,f2,f3,f4⟩ := hSt.st _ (List.getElem_mem hlt)
  obtain ⟨hb,hI2⟩ := hI.next hSt n1 n3 hlt
  rw [List.drop_eq_getElem_cons hlt,trGo,if_pos hb] at hG
  simp only at hb hI2 hG
  have hfb : ∀ g ∈ S[k],g.name.size ≤ 1099511627776 := fun g hg=>by have := f4 g hg; omega
  generalize S[k] = F at h1 f1 f2 f3 f4 hb hI2 hG hfb
  (repeat' (first|apply zS|apply zB|((first|apply zR|apply zC|apply zT|apply zE|apply zK| refine WP.flowE 11 9 [] 11 fle257c8123a [12,35,36,37,38,39,40,41,42,43,44] [12,42,1042] [] (by decide +kernel) (by decide +kernel) (by kernel_rfl) (by kernel_rfl) (by kernel_rfl) ?_); simp only [go_sem,hli,h1,hb])|apply And.intro|intro _))
  all_goals first|omega|rfl|exact hnb _ ‹_›|exact hfb _ ‹_›|exact ⟨_,_,_,rfl⟩|exact ⟨_,_,rfl,_,_,rfl,rfl⟩|(simp only; omega)|skip
  all_goals first|exact ⟨(k + 1,(addStack N C F n).1),⟨by simp only; omega,hI2,hG⟩,by simp only; omega,rfl,rfl,rfl⟩|trace_state
 ·have hge : ¬ (k : Int) < (S.length : Nat):=by omega
  have he : trGo S n ([],[]) = some (N,C):=by rw [hG,List.drop_of_length_le (by omega)]; rfl
  rw [he]
  (repeat' (first|apply zS|apply zB|((first|apply zR|apply zC|apply zT|apply zE|apply zK| refine WP.flowE 11 9 [] 11 fle257c8123a [12,35,36,37,38,39,40,41,42,43,44] [12,42,1042] [] (by decide +kernel) (by decide +kernel) (by kernel_rfl) (by kernel_rfl) (by kernel_rfl) ?_); simp only [go_sem,hge])|apply And.intro|intro _))
  all_goals first|omega|rfl|exact ⟨_,_,rfl,_,_,rfl,rfl⟩|exact if_neg (by omega)|skip
end
end Go.Proofs.YtjjbcoigaejoaaaGreat

namespace Go.Proofs.YtjjbcoigaejoaaaGreat
open Go.Vc
attribute [local irreducible] Go.Vc.WP
attribute [local go_sem] cx0_t cx0_c
theorem szGo_mem {L : List Nat} {l : Int} (h0 : 0 ≤ l) (h1 : l ≤ 1048576) (h : 0 ≤ szGo L l) : ∀ n ∈ L,n ≤ 1048576 := fun n hn=>by
 have := szGo_ok L l h0 h n hn; omega
theorem szvLine_sm {x : Line} {l : Int} (h0 : 0 ≤ l) (h1 : l ≤ 1048576) (h : 0 ≤ szvLine x l) : smLine x := by
 obtain ⟨a,b,c⟩ := szT_ok (szA_f _) h0 h
 obtain ⟨d,e,f⟩ := szT_ok (szvStrL_f _) a c
 obtain ⟨p,q⟩ := szList_ok (by simp only [List.mem_map]; rintro _ ⟨x,_,rfl⟩; exact szA_f _) d
 rw [List.length_map] at p
 refine ⟨by unfold szA at a; split at a <;> omega,⟨by omega,fun w hw=>?_⟩,?_⟩
 ·obtain ⟨r,r0,r1,r2⟩ := q _ (List.mem_map.2 ⟨w,hw,rfl⟩)
  unfold szA at r2; split at r2 <;> omega
 ·unfold szvTok at f
  split at f
  ·omega
  ·have hm := szGo_mem (by omega) (by omega) f
   refine ⟨by omega,fun t ht=>?_⟩
   have := hm t.name.size (List.mem_map.2 ⟨t,ht,rfl⟩)
   unfold smTok; omega
theorem szvLineS_sm {L : List Line} (h : 0 ≤ szvLineS L 1048576) : L.length ≤ 1048576 ∧ ∀ x ∈ L,smLine x := by
 obtain ⟨a,b⟩ := szList_ok (by simp only [List.mem_map]; rintro _ ⟨x,_,rfl⟩; exact szvLine_f x) h
 rw [List.length_map] at a
 refine ⟨by omega,fun x hx=>?_⟩
 obtain ⟨r,r0,r1,r2⟩ := b _ (List.mem_map.2 ⟨x,hx,rfl⟩)
 exact szvLine_sm r0 (by omega) r2
end Go.Proofs.YtjjbcoigaejoaaaGreat

namespace Go.Proofs.YtjjbcoigaejoaaaGreat
open Go.Vc
attribute [local irreducible] Go.Vc.WP
attribute [local go_sem] cx0_t cx0_c
attribute [local go_sem] decNode_enc decFrame_enc oneFrame_enc stkA oneFrame_ab oneNode_abc decI_enc prA
section
attribute [local go_sem] kPrOk
end
section
attribute [local go_sem] kPrOk
end
end Go.Proofs.YtjjbcoigaejoaaaGreat

namespace Go.Proofs.YtjjbcoigaejoaaaGreat
open Go.Vc
attribute [local irreducible] Go.Vc.WP
attribute [local go_sem] cx0_t cx0_c
attribute [local go_sem] decNode_enc decFrame_enc oneFrame_enc stkA oneFrame_ab oneNode_abc decI_enc prA encI_inj
section
end
section
end
section
end
section
end
section
end
def keqStk : Ctr := pur (fun args=>(stkA args 0,stkA args 1)) (fun x=>[.agg [.sl 3 (x.1.map encNode)],.agg [.sl 3 (x.2.map encNode)]]) (fun x=>x.1.length ≤ 4398046511104) (fun _ x=>.v (.bool (decide (x.1 = x.2)))) (fun _ _=>[])
section
noncomputable def cxEqStk := mkX [(45,keqNodeS)] (COk.cons ceqNodeS (COk.nil _))
theorem cxEqStk_t : cxEqStk.tys = tys := rfl
theorem cxEqStk_c : cxEqStk.C = [(45,keqNodeS)] := rfl
attribute [local go_sem] cxEqStk_t cxEqStk_c keqNodeS
theorem ceqStk : Cn Tryz.prog 21 keqStk := by
 refine Cn.pur Tryz.func21 (by kernel_rfl) rfl fun d x hx=>?_
 obtain ⟨N,M⟩ := x
 simp only at hx ⊢
 refine Holds.go (c := cxEqStk) Tryz.func21 rfl Tryz.results21 Tryz.ntmps21 (by omega) (by simp) rfl ?_
 intro X0 w0
 (repeat' (first|apply zS|apply zB|((first|apply zR|apply zC|apply zT|apply zE|apply zK);simp only [go_sem])|apply And.intro|intro _))
 all_goals first|omega|simp_all|skip
end
def keqPr : Ctr := pur (fun args=>(prA args 0,prA args 1)) (fun x=>[.agg [.sl 3 (x.1.1.map encNode),.sl 1 (x.1.2.map encI)],.agg [.sl 3 (x.2.1.map encNode),.sl 1 (x.2.2.map encI)]]) (fun x=>x.1.1.length ≤ 4398046511104 ∧ x.1.2.length ≤ 4398046511104)
 (fun _ x=>.v (.bool (decide (x.1 = x.2)))) (fun _ _=>[])
section
noncomputable def cxEqPr := mkX [(21,keqStk),(22,k17)] (COk.cons ceqStk (COk.cons c17 (COk.nil _)))
theorem cxEqPr_t : cxEqPr.tys = tys := rfl
theorem cxEqPr_c : cxEqPr.C = [(21,keqStk),(22,k17)] := rfl
attribute [local go_sem] cxEqPr_t cxEqPr_c keqStk k17
theorem ceqPr : Cn Tryz.prog 8 keqPr := by
 refine Cn.pur Tryz.func8 (by kernel_rfl) rfl fun d x hx=>?_
 obtain ⟨⟨N,C⟩,⟨M,D⟩⟩ := x
 simp only at hx ⊢
 refine Holds.go (c := cxEqPr) Tryz.func8 rfl Tryz.results8 Tryz.ntmps8 (by omega) (by simp) rfl ?_
 intro X0 w0
 (repeat' (first|apply zS|apply zB|((first|apply zR|apply zC|apply zT|apply zE|apply zK);simp only [go_sem])|apply And.intro|intro _))
 all_goals first|omega|simp_all|skip
end
end Go.Proofs.YtjjbcoigaejoaaaGreat

namespace Go.Proofs.YtjjbcoigaejoaaaGreat
open Go.Vc
attribute [local irreducible] Go.Vc.WP
attribute [local go_sem] cx0_t cx0_c
attribute [local go_sem] isV_Node isV_It decNode_enc decFrame_enc oneFrame_enc stkA oneFrame_ab oneNode_abc decI_enc prA encI_inj
def kmarkStk : Ctr := len [0] [] (fun args obs=>(decNode (oR obs 1000000),aI args 1)) (fun x=>[.agg [.own 1000000],.v (.int .i64 x.2)]) (fun x=>[(1000000,.sl 96 3 (x.1.map encNode))]) (fun x=>x.1.length ≤ 4398046511104 ∧ 0 ≤ x.2 ∧ x.2 ≤ 100000000000000)
 (fun _ x=>.v (.int .i64 (x.2 + 3 * x.1.length))) (fun _ _=>[]) (fun x=>[(1000000,.sl 96 3 ((marksNode x.2 x.1.length).map encNode))])
section
noncomputable def cxMkStk := mkX [(48,kmarkNodeS)] (COk.cons cmarkNodeS (COk.nil _))
theorem cxMkStk_t : cxMkStk.tys = tys := rfl
theorem cxMkStk_c : cxMkStk.C = [(48,kmarkNodeS)] := rfl
attribute [local go_sem] cxMkStk_t cxMkStk_c kmarkNodeS
theorem cmarkStk : Cn Tryz.prog 27 kmarkStk := by
 refine Cn.len Tryz.func27 (by kernel_rfl) rfl fun d x hd hx=>?_
 obtain ⟨L,k0⟩ := x
 obtain ⟨hL,h0,h1⟩ := hx
 simp only at hL h0 h1 ⊢
 refine HoldsL.go (c := cxMkStk) Tryz.func27 rfl Tryz.results27 Tryz.ntmps27 (by omega) (by simp) rfl (by simp <;> omega) (by simp [SV.owns2,SV.owns,SV.owns1]) (by simp) rfl rfl (by simp) ?_
 intro X0 M w0
 (repeat' (first|apply zS|apply zB|((first|apply zR|apply zC|apply zT|apply zE|apply zK);simp only [go_sem])|apply And.intro|intro _))
 all_goals first|omega|skip
end
def kheldStk : Ctr := pur (fun args=>(stkA args 0,aI args 1)) (fun x=>[.agg [.sl 3 (x.1.map encNode)],.v (.int .i64 x.2)]) (fun x=>x.1.length ≤ 4398046511104 ∧ 0 ≤ x.2 ∧ x.2 ≤ 100000000000000)
 (fun _ x=>.v (.int .i64 (if x.1 = marksNode x.2 x.1.length then x.2 + 3 * x.1.length else -1))) (fun _ _=>[])
section
noncomputable def cxHeStk := mkX [(49,kheldNodeS)] (COk.cons cheldNodeS (COk.nil _))
theorem cxHeStk_t : cxHeStk.tys = tys := rfl
theorem cxHeStk_c : cxHeStk.C = [(49,kheldNodeS)] := rfl
attribute [local go_sem] cxHeStk_t cxHeStk_c kheldNodeS
theorem cheldStk : Cn Tryz.prog 29 kheldStk := by
 refine Cn.pur Tryz.func29 (by kernel_rfl) rfl fun d x hx=>?_
 obtain ⟨L,k0⟩ := x
 obtain ⟨hL,h0,h1⟩ := hx
 simp only at hL h0 h1 ⊢
 refine Holds.go (c := cxHeStk) Tryz.func29 rfl Tryz.results29 Tryz.ntmps29 (by omega) (by simp) rfl ?_
 intro X0 w0
 (repeat' (first|apply zS|apply zB|((first|apply zR|apply zC|apply zT|apply zE|apply zK);simp only [go_sem])|apply And.intro|intro _))
 all_goals first|omega|skip
 ·rename_i h
  by_cases he : L = marksNode k0 L.length
  ·rw [if_pos he] at h; omega
  ·rw [if_neg he]
end
def kmarkPr : Ctr := len [0] [] (fun args obs=>((decNode (oR obs 1000000),decI (oR obs 1000001)),aI args 1)) (fun x=>[.agg [.own 1000000,.own 1000001],.v (.int .i64 x.2)])
 (fun x=>[(1000000,.sl 96 3 (x.1.1.map encNode)),(1000001,.sl 3 1 (x.1.2.map encI))]) (fun x=>x.1.1.length ≤ 4398046511104 ∧ x.1.2.length ≤ 4398046511104 ∧ 0 ≤ x.2 ∧ x.2 ≤ 10000000000000)
 (fun _ x=>.v (.int .i64 (x.2 + 3 * x.1.1.length + x.1.2.length))) (fun _ _=>[]) (fun x=>[(1000000,.sl 96 3 ((marksNode x.2 x.1.1.length).map encNode)),(1000001,.sl 3 1 ((marksI (x.2 + 3 * x.1.1.length) x.1.2.length).map encI))])
section
noncomputable def cxMkPr := mkX [(27,kmarkStk),(28,k18)] (COk.cons cmarkStk (COk.cons c18 (COk.nil _)))
theorem cxMkPr_t : cxMkPr.tys = tys := rfl
theorem cxMkPr_c : cxMkPr.C = [(27,kmarkStk),(28,k18)] := rfl
attribute [local go_sem] cxMkPr_t cxMkPr_c kmarkStk k18
theorem cmarkPr : Cn Tryz.prog 11 kmarkPr := by
 refine Cn.len Tryz.func11 (by kernel_rfl) rfl fun d x hd hx=>?_
 obtain ⟨⟨N,C⟩,k0⟩ := x
 obtain ⟨hN,hC,h0,h1⟩ := hx
 simp only at hN hC h0 h1 ⊢
 refine HoldsL.go (c := cxMkPr) Tryz.func11 rfl Tryz.results11 Tryz.ntmps11 (by omega) (by simp) rfl (by simp <;> omega) (by simp [SV.owns2,SV.owns,SV.owns1]) (by simp) rfl rfl (by simp) ?_
 intro X0 M w0
 (repeat' (first|apply zS|apply zB|((first|apply zR|apply zC|apply zT|apply zE|apply zK);simp only [go_sem])|apply And.intro|intro _))
 all_goals first|omega|skip
end
def kheldPr : Ctr := pur (fun args=>(prA args 0,aI args 1)) (fun x=>[.agg [.sl 3 (x.1.1.map encNode),.sl 1 (x.1.2.map encI)],.v (.int .i64 x.2)]) (fun x=>x.1.1.length ≤ 4398046511104 ∧ x.1.2.length ≤ 4398046511104 ∧ 0 ≤ x.2 ∧ x.2 ≤ 10000000000000)
 (fun _ x=>.v (.int .i64 (if x.1.1 = marksNode x.2 x.1.1.length ∧ x.1.2 = marksI (x.2 + 3 * x.1.1.length) x.1.2.length then x.2 + 3 * x.1.1.length + x.1.2.length else -1))) (fun _ _=>[])
section
noncomputable def cxHePr := mkX [(29,kheldStk),(30,k19)] (COk.cons cheldStk (COk.cons c19 (COk.nil _)))
theorem cxHePr_t : cxHePr.tys = tys := rfl
theorem cxHePr_c : cxHePr.C = [(29,kheldStk),(30,k19)] := rfl
attribute [local go_sem] cxHePr_t cxHePr_c kheldStk k19
theorem cheldPr : Cn Tryz.prog 12 kheldPr := by
 refine Cn.pur Tryz.func12 (by kernel_rfl) rfl fun d x hx=>?_
 obtain ⟨⟨N,C⟩,k0⟩ := x
 obtain ⟨hN,hC,h0,h1⟩ := hx
 simp only at hN hC h0 h1 ⊢
 refine Holds.go (c := cxHePr) Tryz.func12 rfl Tryz.results12 Tryz.ntmps12 (by omega) (by simp) rfl ?_
 intro X0 w0
 by_cases he : N = marksNode k0 N.length
 ·by_cases hf : C = marksI (k0 + 3 * N.length) C.length
  ·(repeat' (first|apply zS|apply zB|((first|apply zR|apply zC|apply zT|apply zE|apply zK);simp only [go_sem,if_pos he,if_pos hf])|apply And.intro|intro _))
   all_goals first|omega|skip
   all_goals rw [if_pos ⟨he,hf⟩]
  ·(repeat' (first|apply zS|apply zB|((first|apply zR|apply zC|apply zT|apply zE|apply zK);simp only [go_sem,if_pos he,if_neg hf])|apply And.intro|intro _))
   all_goals first|omega|skip
   all_goals rw [if_neg fun h=>hf h.2]
 ·(repeat' (first|apply zS|apply zB|((first|apply zR|apply zC|apply zT|apply zE|apply zK);simp only [go_sem,if_neg he])|apply And.intro|intro _))
  all_goals first|omega|skip
  all_goals rw [if_neg fun h=>he h.1]
end
end Go.Proofs.YtjjbcoigaejoaaaGreat

namespace Go.Proofs.YtjjbcoigaejoaaaGreat
open Go.Vc
attribute [local irreducible] Go.Vc.WP
attribute [local go_sem] cx0_t cx0_c
attribute [local go_sem] isV_Node isV_It decNode_enc decFrame_enc oneFrame_enc stkA oneFrame_ab oneNode_abc decI_enc prA decLine_enc decTok_enc decS_enc oneLine_f line_eta
theorem tru_len (P : List Line) (l n : Int) : ((tru P l n).getD ([],[])).1.length ≤ 7000 ∧ ((tru P l n).getD ([],[])).2.length ≤ 7000 ∧ ∀ x ∈ ((tru P l n).getD ([],[])).1,x.name.size ≤ 1048576 := by
 cases h : tru P l n with
 |none=>simp
 |some t =>
  obtain ⟨_,_,hT⟩ := tru_at h
  have h1 := hT.len
  have h2 := hT.lenC
  have h3 := (vstk_ok P l).len
  exact ⟨by simp only [Option.getD_some]; omega,by simp only [Option.getD_some]; omega,hT.names⟩
section
attribute [local irreducible] shLine bigLine smLine
noncomputable def LcxTruL : CL := [(4,kszLineS),(6,ktoLineO),(5,kTru),(7,kTru),(9,kqLineS),(8,keqPr),(10,kmarkLineS),(11,kmarkPr),(12,kheldPr)]
noncomputable def cxTruL := mkX LcxTruL (COk.cons cszLineS (COk.cons ctoLineO (COk.cons cTruS (COk.cons cTruI (COk.cons cqLineS (COk.cons ceqPr (COk.cons cmarkLineS (COk.cons cmarkPr (COk.cons cheldPr (COk.nil _))))))))))
theorem cxTruL_t : cxTruL.tys = tys := rfl
theorem cxTruL_c : cxTruL.C = LcxTruL := rfl
attribute [local go_sem] cxTruL_t cxTruL_c LcxTruL kszLineS ktoLineO kTru kqLineS keqPr kmarkLineS kmarkPr kheldPr
set_option maxHeartbeats 8000000 in
theorem lawTru (P : List Line) (l n : Int) (hP : P.length ≤ maxLen ∧ ∀ y ∈ P,bigLine y) : Holds Tryz.prog 3 [.sl 4 (P.map encLine),.v (.int .i64 l),.v (.int .i64 n)] (.v (.bool true)) [] := by
 obtain ⟨hP1,hP2⟩ := hP
 have hm : maxLen = 9223372036854775807 := rfl
 refine Holds.go (c := cxTruL) Tryz.func3 rfl Tryz.results3 Tryz.ntmps3 (by omega) (by simp) rfl ?_
 intro X0 w0
 have kl := @szvLineS_sm P
 generalize hz : szvLineS P 1048576 = z at kl
 by_cases h5 : z < 0
 ·(repeat' (first|apply zS|apply zB|((first|apply zR|apply zC|apply zT|apply zE|apply zK);simp only [go_sem,hz,h5])|apply And.intro|intro _))
  all_goals first|omega|exact hP2 _ ‹_›|skip
 obtain ⟨k1,k2⟩ := kl (by omega)
 have k3 : ∀ y ∈ P,shLine y := fun y hy=>smLine_shL (k2 y hy)
 have hcnt : cntA cntLine P ≤ 8796093022208 := Nat.le_trans (cntA_le P 8388608 fun x hx=>cntLine_le (k3 x hx)) (Nat.le_trans (Nat.mul_le_mul_right _ k1) (by decide))
 obtain ⟨p1,p2,p3⟩ := tru_len P l n
 generalize hT : (tru P l n).getD ([],[]) = T at p1 p2 p3
 generalize hB : (tru P l n).isSome = B
 have m1 := marksNode_len 1 T.1.length
 have m2 := marksI_len (1 + 3 * T.1.length) T.2.length
 (repeat' (first|apply zS|apply zB|((first|apply zR|apply zC|apply zT|apply zE|apply zK);simp only [go_sem,hz,h5,hT,hB,m1,m2])|apply And.intro|intro _))
 all_goals first|omega|exact hP2 _ ‹_›|exact k2 _ ‹_›|exact k3 _ ‹_›|exact Nat.le_trans (p3 _ ‹_›) (by decide)|exact ⟨_,_,rfl,_,_,rfl,rfl⟩|exact trivial|exact ⟨_,_,_,rfl⟩|skip
end
end Go.Proofs.YtjjbcoigaejoaaaGreat

namespace Go.Vc
open Go.RowKit Go.WideShapes Go.ChangeShapes Go.Deep
section
variable {H : Type} {enc : TypeId × Value → H} {P : Program} {w : World}
theorem Cells.append {r1 r2 : List SV} {c1 c2 : List Value} (h1 : Cells w r1 c1) (h2 : Cells w r2 c2) : Cells w (r1 ++ r2) (c1 ++ c2) := by
 refine ⟨by rw [List.length_append,List.length_append,h1.1,h2.1],fun k c u hc hu=>?_⟩
 rw [List.getElem?_append] at hc hu
 by_cases hk : k < r1.length
 ·rw [if_pos hk] at hc
  rw [if_pos (by rw [← h1.1]; exact hk)] at hu
  exact h1.2 k c u hc hu
 ·rw [if_neg hk] at hc
  rw [if_neg (by rw [← h1.1]; exact hk),← h1.1] at hu
  exact h2.2 _ c u hc hu
theorem Dec.map {t : TypeId} {α β : Type} {e : α → List SV} {wf : α → Prop} {e' : β → List SV} {wf' : β → Prop} (hd : Dec H enc P w t e wf) (g : α → β) (he : ∀ a,e' (g a) = e a) (hw : ∀ a,wf a → wf' (g a)) : Dec H enc P w t e' wf' := by
 intro base sp held n cs y h
 obtain ⟨a,ha,hc⟩ := hd _ _ _ _ _ _ h
 exact ⟨g a,hw a ha,by rw [he]; exact hc⟩
end
end Go.Vc

namespace Go.Vc
open Go.RowKit Go.WideShapes Go.ChangeShapes Go.Deep
section
variable {H : Type} {enc : TypeId × Value → H} {P : Program} {w : World}
theorem take_drop_join (cs : List Value) (a b : Nat) : (cs.drop a).take b ++ cs.drop (a + b) = cs.drop a := by
 rw [← List.drop_drop,List.take_append_drop]
theorem Dec.struct4 {t : TypeId} {f0 f1 f2 f3 : Field} {k0 k1 k2 k3 : Nat} {α0 α1 α2 α3 : Type} {e0 : α0 → List SV} {w0 : α0 → Prop} {e1 : α1 → List SV} {w1 : α1 → Prop} {e2 : α2 → List SV} {w2 : α2 → Prop} {e3 : α3 → List SV} {w3 : α3 → Prop} (ht : P.underlying t = some (.struct #[f0,f1,f2,f3])) (o0 : f0.offset = 0) (h0 : P.cellsOf f0.type = k0) (o1 : f1.offset = k0) (h1 : P.cellsOf f1.type = k1) (o2 : f2.offset = k0 + k1) (h2 : P.cellsOf f2.type = k2) (o3 : f3.offset = k0 + k1 + k2) (h3 : P.cellsOf f3.type = k3) (hC : P.cellsOf t = k0 + k1 + k2 + k3)
  (d0 : Dec H enc P w f0.type e0 w0) (d1 : Dec H enc P w f1.type e1 w1) (d2 : Dec H enc P w f2.type e2 w2) (d3 : Dec H enc P w f3.type e3 w3) : Dec H enc P w t (fun x : α0 × α1 × α2 × α3=>e0 x.1 ++ (e1 x.2.1 ++ (e2 x.2.2.1 ++ e3 x.2.2.2))) (fun x=>w0 x.1 ∧ w1 x.2.1 ∧ w2 x.2.2.1 ∧ w3 x.2.2.2) := by
 intro base sp held n cs y h
 obtain ⟨xs,m,_,rfl,hl,hlen,hf⟩ := DataW.trod_struct ht h
 match xs,hlen with
 | [y0,y1,y2,y3],_ =>
  have g0 : DataW.trod enc P w base sp held m f0.type ((cs.drop f0.offset).take (P.cellsOf f0.type)) = some y0:=by simpa using hf 0 f0 rfl
  obtain ⟨a0,v0,c0⟩ := d0 _ _ _ _ _ _ g0
  rw [o0,h0] at c0
  have g1 : DataW.trod enc P w base sp held m f1.type ((cs.drop f1.offset).take (P.cellsOf f1.type)) = some y1:=by simpa using hf 1 f1 rfl
  obtain ⟨a1,v1,c1⟩ := d1 _ _ _ _ _ _ g1
  rw [o1,h1] at c1
  have g2 : DataW.trod enc P w base sp held m f2.type ((cs.drop f2.offset).take (P.cellsOf f2.type)) = some y2:=by simpa using hf 2 f2 rfl
  obtain ⟨a2,v2,c2⟩ := d2 _ _ _ _ _ _ g2
  rw [o2,h2] at c2
  have g3 : DataW.trod enc P w base sp held m f3.type ((cs.drop f3.offset).take (P.cellsOf f3.type)) = some y3:=by simpa using hf 3 f3 rfl
  obtain ⟨a3,v3,c3⟩ := d3 _ _ _ _ _ _ g3
  rw [o3,h3] at c3
  rw [List.take_of_length_le (by rw [List.length_drop]; omega)] at c3
  refine ⟨(a0,a1,a2,a3),⟨v0,v1,v2,v3⟩,?_⟩
  have := c0.append (c1.append (c2.append c3))
  rw [take_drop_join,take_drop_join,List.drop_zero,List.take_append_drop] at this
  exact this
end
end Go.Vc

namespace Go.Proofs.YtjjbcoigaejoaaaGreat
open Go.Vc Go.ChangeShapes Go.WideShapes Go.ChangeAt Go.RowKit
section
variable {H : Type} {enc : TypeId × Value → H} {w : World}
theorem rowStrs : Dec H enc Tryz.prog w 40 (fun L : List ByteArray=>[.sl 1 (L.map encS)]) (fun L=>L.length ≤ maxLen ∧ ∀ s ∈ L,s.size ≤ maxLen) :=
 Dec.slice (s := 1) Tryz.underlying40 (by kernel_rfl) (by omega) (Dec.string Tryz.underlying9) (fun _=>rfl)
theorem rowToks : Dec H enc Tryz.prog w 41 (fun L : List Tok=>[.sl 3 (L.map encTok)]) (fun L=>L.length ≤ maxLen ∧ ∀ s ∈ L,s.name.size ≤ maxLen) :=
 (Dec.slice (s := 3) Tryz.underlying41 (by kernel_rfl) (by omega) rowTok (fun _=>rfl)).map (fun x : List Tok=>x) (fun _=>rfl) (fun _ h=>⟨h.1,fun s hs=>(h.2 s hs).2.2⟩)
theorem rowLine : Dec H enc Tryz.prog w 43 encLine bigLine :=
 (Dec.struct4 (k0 := 1) (k1 := 1) (k2 := 1) (k3 := 1) Tryz.underlying43 rfl (by kernel_rfl) rfl (by kernel_rfl) rfl (by kernel_rfl) rfl (by kernel_rfl) (by kernel_rfl) (Dec.int Tryz.underlying3) (Dec.string Tryz.underlying9) rowStrs rowToks).map
  (fun x : Int × ByteArray × List ByteArray × List Tok=>(⟨x.1,x.2.1,x.2.2.1,x.2.2.2⟩ : Line)) (fun _=>rfl) (fun _ h=>⟨h.2.1,h.2.2.1.1,h.2.2.1.2,h.2.2.2.1,h.2.2.2.2⟩)
end
end Go.Proofs.YtjjbcoigaejoaaaGreat

