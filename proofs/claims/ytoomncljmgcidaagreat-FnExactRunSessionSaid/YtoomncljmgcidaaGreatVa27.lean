/-
  DERIVED. Several texts of ours in one: VtVar, VtPack, VtView.
-/
import Derived.Test.YtoomncljmgcidaaGreatVa4
set_option linter.unusedSimpArgs false
set_option linter.unusedVariables false
set_option maxHeartbeats 1000000
set_option maxRecDepth 10000
namespace Go.Proofs.YtoomncljmgcidaaGreat
open Go.Vc
attribute [local irreducible] Go.Vc.WP
attribute [local go_sem] cx0_t cx0_c
def sgl (n : Int) : Int := if -549755813888 ≤ n ∧ n ≤ 549755813887 then (if n < 0 then -2 * n - 1 else 2 * n) else -1
def kSgl : Ctr := pur (fun args=>aI args 0) (fun n=>[.v (.int .i64 n)]) (fun _=>True) (fun _ n=>.v (.int .i64 (sgl n))) (fun _ _=>[])
def encZ (z : Int) : List SV := [.v (.int .u8 z)]
def vb (n : Int) : Int := wr .u8 (bitOr .i64 (bitAnd .i64 n 127) 128)
def vrows (n : Int) : List Int := if h : 127 < n then vb n :: vrows (n / 128) else [wr .u8 n]
termination_by n.toNat
decreasing_by omega
def varint (n : Int) : ByteArray := if 0 ≤ n ∧ n ≤ 1099511627775 then strOf ((vrows n).map encZ) else ⟨#[]⟩
def kVar : Ctr := pur (fun args=>aI args 0) (fun n=>[.v (.int .i64 n)]) (fun _=>True) (fun _ n=>.v (.string (varint n))) (fun _ _=>[])
theorem shr7 (n : Int) : shR .i64 n 7 = n / 128 := by
 show n.fdiv (2 ^ min 7 64) = n / 128
 exact Int.fdiv_eq_ediv_of_nonneg n (by decide)
theorem vrows_gt {n : Int} (h : 127 < n) : vrows n = vb n :: vrows (n / 128):=by rw [vrows,dif_pos h]
theorem vrows_le {n : Int} (h : ¬127 < n) : vrows n = [wr .u8 n]:=by rw [vrows,dif_neg h]
theorem isByte_snoc {L : List Int} {z : Int} : ∀ row ∈ L.map encZ ++ [[.v (.int .u8 z)]],isByte row := by
 intro row hr
 rcases List.mem_append.1 hr with hr|hr
 ·obtain ⟨n,_,rfl⟩ := List.mem_map.1 hr; exact ⟨_,rfl⟩
 ·rw [List.mem_singleton.1 hr]; exact ⟨_,rfl⟩
section
noncomputable def cxSgS := mkX [(36,k60)] (COk.cons c58 (COk.nil _))
theorem cxSgS_t : cxSgS.tys = tys := rfl
theorem cxSgS_c : cxSgS.C = [(36,k60)] := rfl
attribute [local go_sem] cxSgS_t cxSgS_c k60
theorem cSglS : Cn Tryz.prog 87 kSgl := by
 refine Cn.pur Tryz.func87 (by kernel_rfl) rfl fun d x hx=>?_
 rename Int=>n
 refine Holds.go (c := cxSgS) Tryz.func87 rfl Tryz.results87 Tryz.ntmps87 (by omega) (by simp) rfl ?_
 intro X0 w0
 by_cases h : -549755813888 ≤ n ∧ n ≤ 549755813887
 ·by_cases h0 : n < 0
  ·have e : sgl n = -2 * n - 1:=by unfold sgl; rw [if_pos h,if_pos h0]
   have h0' : ¬0 ≤ n:=by omega
   rw [e]
   (repeat' (first|apply zS|apply zB|((first|apply zR|apply zC|apply zT|apply zE|apply zK);simp only [go_sem,h,h0'])|apply And.intro|intro _))
   all_goals first|omega|skip
  ·have e : sgl n = 2 * n:=by unfold sgl; rw [if_pos h,if_neg h0]
   have h0' : 0 ≤ n:=by omega
   rw [e]
   (repeat' (first|apply zS|apply zB|((first|apply zR|apply zC|apply zT|apply zE|apply zK);simp only [go_sem,h,h0'])|apply And.intro|intro _))
   all_goals first|omega|skip
 ·have e : sgl n = -1:=by unfold sgl; rw [if_neg h]
  rw [e]
  (repeat' (first|apply zS|apply zB|((first|apply zR|apply zC|apply zT|apply zE|apply zK);simp only [go_sem,h])|apply And.intro|intro _))
  all_goals first|omega|skip
noncomputable def cxSgI := mkX [(37,k60)] (COk.cons c60 (COk.nil _))
theorem cxSgI_t : cxSgI.tys = tys := rfl
theorem cxSgI_c : cxSgI.C = [(37,k60)] := rfl
attribute [local go_sem] cxSgI_t cxSgI_c k60
theorem cSglI : Cn Tryz.prog 99 kSgl := by
 refine Cn.pur Tryz.func99 (by kernel_rfl) rfl fun d x hx=>?_
 rename Int=>n
 refine Holds.go (c := cxSgI) Tryz.func99 rfl Tryz.results99 Tryz.ntmps99 (by omega) (by simp) rfl ?_
 intro X0 w0
 by_cases h : -549755813888 ≤ n ∧ n ≤ 549755813887
 ·by_cases h0 : n < 0
  ·have e : sgl n = -2 * n - 1:=by unfold sgl; rw [if_pos h,if_pos h0]
   rw [e]
   (repeat' (first|apply zS|apply zB|((first|apply zR|apply zC|apply zT|apply zE|apply zK);simp only [go_sem,h,h0])|apply And.intro|intro _))
   all_goals first|omega|skip
  ·have e : sgl n = 2 * n:=by unfold sgl; rw [if_pos h,if_neg h0]
   rw [e]
   (repeat' (first|apply zS|apply zB|((first|apply zR|apply zC|apply zT|apply zE|apply zK);simp only [go_sem,h,h0])|apply And.intro|intro _))
   all_goals first|omega|skip
 ·have e : sgl n = -1:=by unfold sgl; rw [if_neg h]
  rw [e]
  (repeat' (first|apply zS|apply zB|((first|apply zR|apply zC|apply zT|apply zE|apply zK);simp only [go_sem,h])|apply And.intro|intro _))
  all_goals first|omega|skip
noncomputable def cxVaS := mkX [(36,k60)] (COk.cons c58 (COk.nil _))
theorem cxVaS_t : cxVaS.tys = tys := rfl
theorem cxVaS_c : cxVaS.C = [(36,k60)] := rfl
attribute [local go_sem] cxVaS_t cxVaS_c k60
theorem cVarS : Cn Tryz.prog 51 kVar := by
 refine Cn.pur Tryz.func51 (by kernel_rfl) rfl fun d x hx=>?_
 rename Int=>n
 refine Holds.go (c := cxVaS) Tryz.func51 rfl Tryz.results51 Tryz.ntmps51 (by omega) (by simp) rfl ?_
 intro X0 w0
 by_cases h : 0 ≤ n ∧ n ≤ 1099511627775
 ·have e : varint n = strOf ((vrows n).map encZ) := if_pos h
  rw [e]
  (repeat' (first|apply zS|apply zB|((first|apply zR|apply zC|apply zT|apply zE|apply zK);simp only [go_sem,h])|apply And.intro|intro _))
  all_goals first|omega|skip
  refine zL (fun s : Int × List Int=>⟨[(0,.v (.int .i64 s.1)),(3,.own 7)],[(7,.sl 5 1 (s.2.map encZ))]⟩)
   (fun s=>0 ≤ s.1 ∧ s.1 ≤ 1099511627775 ∧ s.2 ++ vrows s.1 = vrows n ∧ (s.2.length : Int) + s.1 ≤ 1099511627775) (fun s=>s.1.toNat) (n,[]) ⟨h.1,h.2,rfl,by simp; omega⟩ ?_ ?_
  ·simp only [go_sem]
  rintro ⟨m,L⟩ ⟨h0,h1,hv,hl⟩
  simp only at h0 h1 hv hl ⊢
  have hs := shr7 m
  by_cases hlt : 127 < m
  ·have hm := vrows_gt hlt
   (repeat' (first|apply zS|apply zB|((first|apply zR|apply zC|apply zT|apply zE|apply zK);simp only [go_sem,hs,hlt])|apply And.intro|intro _))
   all_goals first|omega|skip
   refine ⟨(m / 128,L ++ [vb m]),⟨by simp only; omega,by simp only; omega,by simp only; rw [← hv,hm]; simp,by simp; omega⟩,by simp only; omega,rfl,?_⟩
   rw [List.map_append]; rfl
  ·have hm := vrows_le hlt
   have hb : ∀ row ∈ L.map encZ ++ [[.v (.int .u8 (IntKind.u8.wrap m))]],isByte row := isByte_snoc
   (repeat' (first|apply zS|apply zB|((first|apply zR|apply zC|apply zT|apply zE|apply zK);simp only [go_sem,hs,hlt])|apply And.intro|intro _))
   all_goals first|omega|exact hb _ ‹_›|skip
   rw [← hv,hm,List.map_append]; rfl
 ·have e : varint n = ⟨#[]⟩ := if_neg h
  rw [e]
  (repeat' (first|apply zS|apply zB|((first|apply zR|apply zC|apply zT|apply zE|apply zK);simp only [go_sem,h])|apply And.intro|intro _))
  all_goals first|omega|skip
noncomputable def cxVaI := mkX [(37,k60)] (COk.cons c60 (COk.nil _))
theorem cxVaI_t : cxVaI.tys = tys := rfl
theorem cxVaI_c : cxVaI.C = [(37,k60)] := rfl
attribute [local go_sem] cxVaI_t cxVaI_c k60
theorem cVarI : Cn Tryz.prog 100 kVar := by
 refine Cn.pur Tryz.func100 (by kernel_rfl) rfl fun d x hx=>?_
 rename Int=>n
 refine Holds.go (c := cxVaI) Tryz.func100 rfl Tryz.results100 Tryz.ntmps100 (by omega) (by simp) rfl ?_
 intro X0 w0
 by_cases h : 0 ≤ n ∧ n ≤ 1099511627775
 ·have e : varint n = strOf ((vrows n).map encZ) := if_pos h
  rw [e]
  (repeat' (first|apply zS|apply zB|((first|apply zR|apply zC|apply zT|apply zE|apply zK);simp only [go_sem,h])|apply And.intro|intro _))
  all_goals first|omega|skip
  refine zL (fun s : Int × List Int=>⟨[(0,.v (.int .i64 s.1)),(3,.own 7)],[(7,.sl 5 1 (s.2.map encZ))]⟩)
   (fun s=>0 ≤ s.1 ∧ s.1 ≤ 1099511627775 ∧ s.2 ++ vrows s.1 = vrows n ∧ (s.2.length : Int) + s.1 ≤ 1099511627775) (fun s=>s.1.toNat) (n,[]) ⟨h.1,h.2,rfl,by simp; omega⟩ ?_ ?_
  ·simp only [go_sem]
  rintro ⟨m,L⟩ ⟨h0,h1,hv,hl⟩
  simp only at h0 h1 hv hl ⊢
  have hs := shr7 m
  by_cases hlt : 127 < m
  ·have hm := vrows_gt hlt
   (repeat' (first|apply zS|apply zB|((first|apply zR|apply zC|apply zT|apply zE|apply zK);simp only [go_sem,hs,hlt])|apply And.intro|intro _))
   all_goals first|omega|skip
   refine ⟨(m / 128,L ++ [vb m]),⟨by simp only; omega,by simp only; omega,by simp only; rw [← hv,hm]; simp,by simp; omega⟩,by simp only; omega,rfl,?_⟩
   rw [List.map_append]; rfl
  ·have hm := vrows_le hlt
   have hb : ∀ row ∈ L.map encZ ++ [[.v (.int .u8 (IntKind.u8.wrap m))]],isByte row := isByte_snoc
   (repeat' (first|apply zS|apply zB|((first|apply zR|apply zC|apply zT|apply zE|apply zK);simp only [go_sem,hs,hlt])|apply And.intro|intro _))
   all_goals first|omega|exact hb _ ‹_›|skip
   rw [← hv,hm,List.map_append]; rfl
 ·have e : varint n = ⟨#[]⟩ := if_neg h
  rw [e]
  (repeat' (first|apply zS|apply zB|((first|apply zR|apply zC|apply zT|apply zE|apply zK);simp only [go_sem,h])|apply And.intro|intro _))
  all_goals first|omega|skip
end
end Go.Proofs.YtoomncljmgcidaaGreat

namespace Go.Proofs.YtoomncljmgcidaaGreat
open Go.Vc
attribute [local irreducible] Go.Vc.WP
attribute [local go_sem] cx0_t cx0_c
theorem strOf_size (rows : List (List SV)) : (strOf rows).size = rows.length:=by simp [strOf,ByteArray.size]
theorem vrows_len : ∀ (k : Nat) (n : Int),n < 128 ^ (k + 1) → (vrows n).length ≤ k + 1
 | 0,n,h=>by rw [vrows_le (by omega)]; simp
 |k + 1,n,h=>by
  by_cases hn : 127 < n
  ·rw [vrows_gt hn]
   have := vrows_len k (n / 128) (by rw [Int.pow_succ] at h; omega)
   simp only [List.length_cons]
   omega
  ·rw [vrows_le hn]; simp
theorem varint_size (n : Int) : (varint n).size ≤ 6 := by
 unfold varint
 split
 ·rename_i h
  rw [strOf_size,List.length_map]
  exact vrows_len 5 n (by
              have : (128 : Int) ^ (5 + 1) = 4398046511104:=by decide
              omega)
 ·simp [ByteArray.size]
def packF (s : ByteArray) (L : List Int) : ByteArray := L.foldl (fun s x=>s ++ varint (sgl x)) s
theorem packF_size (s : ByteArray) (L : List Int) : (packF s L).size ≤ s.size + 6 * L.length := by
 induction L generalizing s with
 |nil=>simp [packF]
 |cons a l ih =>
  have h1 := ih (s ++ varint (sgl a))
  have h2 := varint_size (sgl a)
  have h3 : packF s (a :: l) = packF (s ++ varint (sgl a)) l := rfl
  rw [h3]
  simp only [List.length_cons,ByteArray.size_append] at *
  omega
theorem packF_take (s : ByteArray) (L : List Int) (k : Nat) (h : k < L.length) : packF s (L.take (k + 1)) = packF s (L.take k) ++ varint (sgl L[k]) := by
 unfold packF
 rw [List.take_succ_eq_append_getElem h,List.foldl_append]; rfl
def sglOk (L : List Int) : Bool := L.all fun x=>decide (0 ≤ sgl x)
def pack (L : List Int) : ByteArray := if sglOk L = true then packF (varint L.length) L else ⟨#[]⟩
theorem sglOk_take (L : List Int) (k : Nat) (h : k < L.length) (hk : sglOk (L.take k) = true) (hn : 0 ≤ sgl L[k]) : sglOk (L.take (k + 1)) = true := by
 unfold sglOk at *
 rw [List.take_succ_eq_append_getElem h,List.all_append,hk]
 simpa using hn
theorem sglOk_bad (L : List Int) (k : Nat) (h : k < L.length) (hn : sgl L[k] < 0) : pack L = ⟨#[]⟩ := by
 unfold pack
 rw [if_neg]
 intro ha
 have := List.all_eq_true.1 ha L[k] (List.getElem_mem h)
 simp only [decide_eq_true_eq] at this
 omega
def kPack : Ctr := pur (fun args=>decI (aR args 0)) (fun L=>[.sl 1 (L.map encI)]) (fun L=>L.length ≤ 2097152) (fun _ L=>.v (.string (pack L))) (fun _ _=>[])
attribute [local go_sem] decI_enc
section
noncomputable def cxPkS := mkX [(51,kVar),(87,kSgl)] (COk.cons cVarS (COk.cons cSglS (COk.nil _)))
theorem cxPkS_t : cxPkS.tys = tys := rfl
theorem cxPkS_c : cxPkS.C = [(51,kVar),(87,kSgl)] := rfl
attribute [local go_sem] cxPkS_t cxPkS_c kVar kSgl
theorem cPackS : Cn Tryz.prog 52 kPack := by
 refine Cn.pur Tryz.func52 (by kernel_rfl) rfl fun d x hx=>?_
 rename List Int=>L
 refine Holds.go (c := cxPkS) Tryz.func52 rfl Tryz.results52 Tryz.ntmps52 (by omega) (by simp) rfl ?_
 intro X0 w0
 (repeat' (first|apply zS|apply zB|((first|apply zR|apply zC|apply zT|apply zE|apply zK);simp only [go_sem])|apply And.intro|intro _))
 all_goals first|omega|skip
 refine zL (fun k : Nat=>⟨[(0,.sl 1 (L.map encI)),(3,.v (.string (packF (varint L.length) (L.take k)))),(4,.v (.int .i64 k))],[]⟩)
  (fun k=>k ≤ L.length ∧ sglOk (L.take k) = true) (fun k=>L.length - k) 0 ⟨by omega,rfl⟩ ?_ ?_
 ·simp only [go_sem]; exact ⟨rfl,rfl⟩
 intro k ⟨hk,hok⟩
 have hz := packF_size (varint L.length) (L.take k)
 have hz0 := varint_size L.length
 have hz1 : (L.take k).length ≤ k:=by simp; omega
 by_cases hlt : k < L.length
 ·have h1 := rowAt_map encI L k hlt
  have hz2 := varint_size (sgl L[k])
  by_cases hneg : sgl L[k] < 0
  ·rw [sglOk_bad L k hlt hneg]
   (repeat' (first|apply zS|apply zB|((first|apply zR|apply zC|apply zT|apply zE|apply zK);simp only [go_sem,h1,encI,hneg])|apply And.intro|intro _))
   all_goals first|omega|skip
  ·(repeat' (first|apply zS|apply zB|((first|apply zR|apply zC|apply zT|apply zE|apply zK);simp only [go_sem,h1,encI,hneg])|apply And.intro|intro _))
   all_goals first|omega|skip
   refine ⟨k + 1,⟨by omega,sglOk_take L k hlt hok (by omega)⟩,by omega,?_⟩
   rw [packF_take _ L k hlt]
   (first|(and_intros <;> rfl)|simp)
 ·rw [show k = L.length by omega,List.take_length] at hok
  have e : pack L = packF (varint L.length) L := if_pos hok
  rw [e]
  rw [show k = L.length by omega,List.take_length]
  (repeat' (first|apply zS|apply zB|((first|apply zR|apply zC|apply zT|apply zE|apply zK);simp only [go_sem])|apply And.intro|intro _))
  all_goals first|omega|skip
end
end Go.Proofs.YtoomncljmgcidaaGreat

namespace Go.Proofs.YtoomncljmgcidaaGreat
open Go.Vc
attribute [local irreducible] Go.Vc.WP
attribute [local go_sem] cx0_t cx0_c
structure Vw where
 pc : Int
 sp : Int
 fp : Int
 words : List Int
def vwA (args : List SV) (i : Nat) : Vw := match (args[i]? : Option SV) with
 |some (.agg [.v (.int _ a),.v (.int _ b),.v (.int _ c),.sl _ w])=>⟨a,b,c,decI w⟩
 | _=>⟨0,0,0,[]⟩
def smA (args : List SV) (i : Nat) : Int × Vw := match (args[i]? : Option SV) with
 |some (.agg [.v (.int _ t),.v (.int _ a),.v (.int _ b),.v (.int _ c),.sl _ w])=>(t,⟨a,b,c,decI w⟩)
 | _=>(0,⟨0,0,0,[]⟩)
theorem vw_eta (x : Vw) : (⟨x.pc,x.sp,x.fp,x.words⟩ : Vw) = x := rfl
attribute [local go_sem] decI_enc vwA smA vw_eta
def vwOk (x : Vw) : Bool := decide ((0 ≤ x.sp ∧ x.sp ≤ 1200) ∧ (x.words.length : Int) ≤ 1200 - x.sp)
def kVwOk : Ctr := pur (fun args=>vwA args 0) (fun x=>[.agg [.v (.int .i64 x.pc),.v (.int .i64 x.sp),.v (.int .i64 x.fp),.sl 1 (x.words.map encI)]]) (fun x=>x.words.length ≤ 4194304) (fun _ x=>.v (.bool (vwOk x))) (fun _ _=>[])
def smOk (x : Int × Vw) : Bool := decide (0 ≤ x.1 ∧ x.1 ≤ 2) && vwOk x.2 && decide (0 ≤ x.2.pc ∧ x.2.pc ≤ 2000000) && decide (0 ≤ sgl x.2.fp) && sglOk x.2.words
def kSmOk : Ctr := pur (fun args=>smA args 0) (fun x=>[.agg [.v (.int .i64 x.1),.v (.int .i64 x.2.pc),.v (.int .i64 x.2.sp),.v (.int .i64 x.2.fp),.sl 1 (x.2.words.map encI)]]) (fun x=>x.2.words.length ≤ 4194304) (fun _ x=>.v (.bool (smOk x))) (fun _ _=>[])
section
noncomputable def cxVoS := mkX [(36,k60)] (COk.cons c58 (COk.nil _))
theorem cxVoS_t : cxVoS.tys = tys := rfl
theorem cxVoS_c : cxVoS.C = [(36,k60)] := rfl
attribute [local go_sem] cxVoS_t cxVoS_c k60
theorem cVwOkS : Cn Tryz.prog 86 kVwOk := by
 refine Cn.pur Tryz.func86 (by kernel_rfl) rfl fun d x hx=>?_
 obtain ⟨a,b,c,w⟩ := x
 simp only at hx ⊢
 refine Holds.go (c := cxVoS) Tryz.func86 rfl Tryz.results86 Tryz.ntmps86 (by omega) (by simp) rfl ?_
 intro X0 w0
 by_cases h : 0 ≤ b ∧ b ≤ 1200
 ·have e : vwOk ⟨a,b,c,w⟩ = decide ((w.length : Int) ≤ 1200 - b):=by simp [vwOk,h]
  rw [e]
  (repeat' (first|apply zS|apply zB|((first|apply zR|apply zC|apply zT|apply zE|apply zK);simp only [go_sem,h])|apply And.intro|intro _))
  all_goals first|omega|rfl|skip
 ·have e : vwOk ⟨a,b,c,w⟩ = false:=by unfold vwOk; rw [decide_eq_false]; intro hh; exact h hh.1
  rw [e]
  have e0 : (decide (0 ≤ b) && decide (b ≤ 1200)) = false:=by rw [Bool.eq_false_iff]; simp; omega
  (repeat' (first|apply zS|apply zB|((first|apply zR|apply zC|apply zT|apply zE|apply zK);simp only [go_sem,h])|apply And.intro|intro _))
  all_goals first|omega|rfl|(rw [e0]; rfl)|skip
noncomputable def cxVoI := mkX [(37,k60)] (COk.cons c60 (COk.nil _))
theorem cxVoI_t : cxVoI.tys = tys := rfl
theorem cxVoI_c : cxVoI.C = [(37,k60)] := rfl
attribute [local go_sem] cxVoI_t cxVoI_c k60
theorem cVwOkI : Cn Tryz.prog 98 kVwOk := by
 refine Cn.pur Tryz.func98 (by kernel_rfl) rfl fun d x hx=>?_
 obtain ⟨a,b,c,w⟩ := x
 simp only at hx ⊢
 refine Holds.go (c := cxVoI) Tryz.func98 rfl Tryz.results98 Tryz.ntmps98 (by omega) (by simp) rfl ?_
 intro X0 w0
 by_cases h : 0 ≤ b ∧ b ≤ 1200
 ·have e : vwOk ⟨a,b,c,w⟩ = decide ((w.length : Int) ≤ 1200 - b):=by simp [vwOk,h]
  rw [e]
  (repeat' (first|apply zS|apply zB|((first|apply zR|apply zC|apply zT|apply zE|apply zK);simp only [go_sem,h])|apply And.intro|intro _))
  all_goals first|omega|rfl|skip
 ·have e : vwOk ⟨a,b,c,w⟩ = false:=by unfold vwOk; rw [decide_eq_false]; intro hh; exact h hh.1
  rw [e]
  have e0 : (decide (0 ≤ b) && decide (b ≤ 1200)) = false:=by rw [Bool.eq_false_iff]; simp; omega
  (repeat' (first|apply zS|apply zB|((first|apply zR|apply zC|apply zT|apply zE|apply zK);simp only [go_sem,h])|apply And.intro|intro _))
  all_goals first|omega|rfl|(rw [e0]; rfl)|skip
theorem sglOk_no {L : List Int} {k : Nat} (h : k < L.length) (hn : sgl L[k] < 0) : sglOk L = false := by
 unfold sglOk
 rw [List.all_eq_false]
 exact ⟨L[k],List.getElem_mem h,by simpa using hn⟩
theorem smOk_no {t : Int} {x : Vw} (h : ¬((0 ≤ t ∧ t ≤ 2) ∧ vwOk x = true ∧ (0 ≤ x.pc ∧ x.pc ≤ 2000000) ∧ 0 ≤ sgl x.fp)) : smOk (t,x) = false := by
 rw [Bool.eq_false_iff]
 intro hh
 apply h
 simp only [smOk,Bool.and_eq_true,decide_eq_true_eq] at hh
 exact ⟨hh.1.1.1.1,hh.1.1.1.2,hh.1.1.2,hh.1.2⟩
theorem smOk_yes {t : Int} {x : Vw} (h1 : 0 ≤ t ∧ t ≤ 2) (h2 : vwOk x = true) (h3 : 0 ≤ x.pc ∧ x.pc ≤ 2000000) (h4 : 0 ≤ sgl x.fp) : smOk (t,x) = sglOk x.words := by
 simp [smOk,h1,h2,h3,h4]
noncomputable def cxSmS := mkX [(36,k60),(86,kVwOk),(87,kSgl)] (COk.cons c58 (COk.cons cVwOkS (COk.cons cSglS (COk.nil _))))
theorem cxSmS_t : cxSmS.tys = tys := rfl
theorem cxSmS_c : cxSmS.C = [(36,k60),(86,kVwOk),(87,kSgl)] := rfl
attribute [local go_sem] cxSmS_t cxSmS_c k60 kVwOk kSgl
theorem cSmOkS : Cn Tryz.prog 49 kSmOk := by
 refine Cn.pur Tryz.func49 (by kernel_rfl) rfl fun d x hx=>?_
 obtain ⟨t,a,b,c,w⟩ := x
 simp only at hx ⊢
 refine Holds.go (c := cxSmS) Tryz.func49 rfl Tryz.results49 Tryz.ntmps49 (by omega) (by simp) rfl ?_
 intro X0 w0
 by_cases h1 : 0 ≤ t ∧ t ≤ 2
 ·cases h2 : vwOk ⟨a,b,c,w⟩ with
  |false =>
   rw [smOk_no (by simp [h2])]
   (repeat' (first|apply zS|apply zB|((first|apply zR|apply zC|apply zT|apply zE|apply zK);simp only [go_sem,h1,h2])|apply And.intro|intro _))
   all_goals first|omega|rfl|skip
  |true =>
   by_cases h3 : 0 ≤ a ∧ a ≤ 2000000
   ·by_cases h4 : sgl c < 0
    ·rw [smOk_no (by simp; omega)]
     (repeat' (first|apply zS|apply zB|((first|apply zR|apply zC|apply zT|apply zE|apply zK);simp only [go_sem,h1,h2,h3,h4])|apply And.intro|intro _))
     all_goals first|omega|rfl|skip
    ·rw [smOk_yes h1 h2 h3 (by simp only; omega)]
     (repeat' (first|apply zS|apply zB|((first|apply zR|apply zC|apply zT|apply zE|apply zK);simp only [go_sem,h1,h2,h3,h4])|apply And.intro|intro _))
     all_goals first|omega|rfl|skip
     refine zL (fun k : Nat=>⟨[(1,.ptr 1 0 0 0),(3,.v (.int .i64 k))],[(1,.box 66 [.v (.int .i64 t),.v (.int .i64 a),.v (.int .i64 b),.v (.int .i64 c),.sl 1 (w.map encI)])]⟩)
      (fun k=>k ≤ w.length ∧ sglOk (w.take k) = true) (fun k=>w.length - k) 0 ⟨by omega,rfl⟩ ?_ ?_
     ·simp only [go_sem]; rfl
     intro k ⟨hk,hok⟩
     by_cases hlt : k < w.length
     ·have hr := rowAt_map encI w k hlt
      by_cases hneg : sgl w[k] < 0
      ·rw [sglOk_no hlt hneg]
       (repeat' (first|apply zS|apply zB|((first|apply zR|apply zC|apply zT|apply zE|apply zK);simp only [go_sem,hr,encI,hneg])|apply And.intro|intro _))
       all_goals first|omega|rfl|skip
      ·(repeat' (first|apply zS|apply zB|((first|apply zR|apply zC|apply zT|apply zE|apply zK);simp only [go_sem,hr,encI,hneg])|apply And.intro|intro _))
       all_goals first|omega|rfl|skip
       exact ⟨k + 1,⟨by omega,sglOk_take w k hlt hok (by omega)⟩,by omega,by (first|(and_intros <;> rfl)|simp)⟩
     ·rw [show k = w.length by omega,List.take_length] at hok
      rw [hok]
      have hge : ¬(k : Int) < w.length:=by omega
      (repeat' (first|apply zS|apply zB|((first|apply zR|apply zC|apply zT|apply zE|apply zK);simp only [go_sem,hge])|apply And.intro|intro _))
      all_goals first|omega|rfl|skip
   ·rw [smOk_no (fun hh=>h3 hh.2.2.1)]
    (repeat' (first|apply zS|apply zB|((first|apply zR|apply zC|apply zT|apply zE|apply zK);simp only [go_sem,h1,h2,h3])|apply And.intro|intro _))
    all_goals first|omega|rfl|skip
 ·rw [smOk_no (fun hh=>h1 hh.1)]
  (repeat' (first|apply zS|apply zB|((first|apply zR|apply zC|apply zT|apply zE|apply zK);simp only [go_sem,h1])|apply And.intro|intro _))
  all_goals first|omega|rfl|skip
noncomputable def cxSmI := mkX [(37,k60),(98,kVwOk),(99,kSgl)] (COk.cons c60 (COk.cons cVwOkI (COk.cons cSglI (COk.nil _))))
theorem cxSmI_t : cxSmI.tys = tys := rfl
theorem cxSmI_c : cxSmI.C = [(37,k60),(98,kVwOk),(99,kSgl)] := rfl
attribute [local go_sem] cxSmI_t cxSmI_c k60 kVwOk kSgl
theorem cSmOkI : Cn Tryz.prog 65 kSmOk := by
 refine Cn.pur Tryz.func65 (by kernel_rfl) rfl fun d x hx=>?_
 obtain ⟨t,a,b,c,w⟩ := x
 simp only at hx ⊢
 refine Holds.go (c := cxSmI) Tryz.func65 rfl Tryz.results65 Tryz.ntmps65 (by omega) (by simp) rfl ?_
 intro X0 w0
 by_cases h1 : 0 ≤ t ∧ t ≤ 2
 ·cases h2 : vwOk ⟨a,b,c,w⟩ with
  |false =>
   rw [smOk_no (by simp [h2])]
   (repeat' (first|apply zS|apply zB|((first|apply zR|apply zC|apply zT|apply zE|apply zK);simp only [go_sem,h1,h2])|apply And.intro|intro _))
   all_goals first|omega|rfl|skip
  |true =>
   by_cases h3 : 0 ≤ a ∧ a ≤ 2000000
   ·by_cases h4 : sgl c < 0
    ·rw [smOk_no (by simp; omega)]
     (repeat' (first|apply zS|apply zB|((first|apply zR|apply zC|apply zT|apply zE|apply zK);simp only [go_sem,h1,h2,h3,h4])|apply And.intro|intro _))
     all_goals first|omega|rfl|skip
    ·rw [smOk_yes h1 h2 h3 (by simp only; omega)]
     (repeat' (first|apply zS|apply zB|((first|apply zR|apply zC|apply zT|apply zE|apply zK);simp only [go_sem,h1,h2,h3,h4])|apply And.intro|intro _))
     all_goals first|omega|rfl|skip
     refine zL (fun k : Nat=>⟨[(31,.sl 1 (w.map encI)),(32,.v (.int .i64 w.length)),(33,.v (.int .i64 k))],[]⟩)
      (fun k=>k ≤ w.length ∧ sglOk (w.take k) = true) (fun k=>w.length - k) 0 ⟨by omega,rfl⟩ ?_ ?_
     ·simp only [go_sem]; rfl
     intro k ⟨hk,hok⟩
     by_cases hlt : k < w.length
     ·have hr := rowAt_map encI w k hlt
      by_cases hneg : sgl w[k] < 0
      ·rw [sglOk_no hlt hneg]
       (repeat' (first|apply zS|apply zB|((first|apply zR|apply zC|apply zT|apply zE|apply zK);simp only [go_sem,hr,encI,hneg])|apply And.intro|intro _))
       all_goals first|omega|rfl|skip
      ·(repeat' (first|apply zS|apply zB|((first|apply zR|apply zC|apply zT|apply zE|apply zK);simp only [go_sem,hr,encI,hneg])|apply And.intro|intro _))
       all_goals first|omega|rfl|skip
       exact ⟨k + 1,⟨by omega,sglOk_take w k hlt hok (by omega)⟩,by omega,by (first|(and_intros <;> rfl)|simp)⟩
     ·rw [show k = w.length by omega,List.take_length] at hok
      rw [hok]
      have hge : ¬(k : Int) < w.length:=by omega
      (repeat' (first|apply zS|apply zB|((first|apply zR|apply zC|apply zT|apply zE|apply zK);simp only [go_sem,hge])|apply And.intro|intro _))
      all_goals first|omega|rfl|skip
   ·rw [smOk_no (fun hh=>h3 hh.2.2.1)]
    (repeat' (first|apply zS|apply zB|((first|apply zR|apply zC|apply zT|apply zE|apply zK);simp only [go_sem,h1,h2,h3])|apply And.intro|intro _))
    all_goals first|omega|rfl|skip
 ·rw [smOk_no (fun hh=>h1 hh.1)]
  (repeat' (first|apply zS|apply zB|((first|apply zR|apply zC|apply zT|apply zE|apply zK);simp only [go_sem,h1])|apply And.intro|intro _))
  all_goals first|omega|rfl|skip
end
end Go.Proofs.YtoomncljmgcidaaGreat

